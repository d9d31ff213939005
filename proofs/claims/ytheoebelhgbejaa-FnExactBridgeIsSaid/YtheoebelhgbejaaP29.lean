import Derived.Test.YtheoebelhgbejaaP0
import Derived.Test.YtheoebelhgbejaaP4
import Derived.Test.YtheoebelhgbejaaP11
import Derived.Test.YtheoebelhgbejaaP13
import Derived.Test.YtheoebelhgbejaaP14
import Derived.Test.YtheoebelhgbejaaP16
import Derived.Test.YtheoebelhgbejaaP18
namespace Go.Proofs.Ytheoebelhgbejaa.P
open Go.RowKit Go.Proofs.YtheoebelhgbejaaW.PrintWords Go.Proofs.YtheoebelhgbejaaW.PrintLast Go.Proofs.YtheoebelhgbejaaW.PrintMore
attribute [local go_sem] max2_int min2_int max_two min_two max_three min_three max_four min_four
set_option linter.unusedVariables false
set_option linter.unusedSimpArgs false
attribute [local go_sem high] eqATie
def spec_BridgeIs.T2 : Bool × List (List Nat × List Nat) := (true, [([], []), ([0], [0]), ([1], [1]), ([2, 1, 1], [1, 2]), ([1], [1]), ([4, 3, 1], [1, 4]), ([3, 5, 1], [1, 3, 5]), ([1, 6], [1, 6]), ([7, 5, 0, 1, 2, 3, 4, 5, 6, 7], [7])])
def spec_BridgeIs.B2 : List Nat := [0, 1, 3, 7, 3, 31, 63, 127, 255]
theorem spec_BridgeIs.tab2 : rtab .any (opsOf Try.f43 2) = spec_BridgeIs.T2 := by kernel_rfl
theorem spec_BridgeIs.bits2 : waitsOk spec_BridgeIs.T2.2 spec_BridgeIs.B2 = true := by kernel_rfl
set_option maxHeartbeats 8000000 in
set_option maxRecDepth 100000 in
theorem spec_BridgeIs.calls (k : Nat) (a0_0 : Int) (A0_1 : Option Addr) (c0_1 : Nat) (l0_1 : List (STie)) (a1 : Int) (a2 : Int) (r : Bool) (w : World) (hr0_1 : Kd.C kTie w A0_1 l0_1.length l0_1) (hc0_1 : l0_1.length ≤ c0_1) (h : spec_BridgeIs.f k a0_0 l0_1 a1 a2 = some r) :
    Calls Try.prog 43 #[.agg #[.int .i64 a0_0, .slice A0_1 l0_1.length c0_1], .int .i64 a1, .int .i64 a2] w fun e w' => e = .returned (.bool r) ∧ Below w.heap.size w w' := by
 have hu30 := Try.underlying30
 have HR0_1 := Aside0.mk hr0_1
 have HC0_1 := Aside0.mk hc0_1
 clear hr0_1 hc0_1
 have HB := q0 (Below.refl w.heap.size w)
 have H : ((spec_NetCut.f k a0_0 l0_1 a1 a2).bind fun bt100 => (if bt100.2.2 = true then ((spec_WayCount.f k bt100.1 bt100.2.1).bind fun t101 => ((spec_WayCount.f k a0_0 l0_1).bind fun t102 => (some (decide (t101 > t102))))) else (some false))) = some r := h
 clear h
 replace H := Option.bind_eq_some_iff.mp H
 obtain ⟨⟨t100, t103, t104⟩, A40, H⟩ := H
 replace H : (if t104 = true then ((spec_WayCount.f k t100 t103).bind fun t101 => ((spec_WayCount.f k a0_0 l0_1).bind fun t102 => (some (decide (t101 > t102))))) else (some false)) = some r := H
 have A4 := Aside0.mk A40
 clear A40
 by_cases c5 : t104 = true
 rotate_left
 · replace c5 := Bool.eq_false_iff.mpr c5
   subst c5
   have H1 : (some false) = some r := by rw [if_neg (show ¬ (false = true) by decide)] at H; exact H
   clear H
   have H := H1
   clear H1
   obtain rfl := Option.some.inj H
   go_enter Try.func43, Try.ntmps43
   try go_wp2_with (first | ((with_reducible refine gate_dst (N := 3) rfl ?_); refine be 3 #[.int .i64 a0_0, .slice A0_1 l0_1.length c0_1] 30 ?_; intro gb105 hg w19 hbox hb; have n0_ := q0 (below_step (qb HB.out) hb); have n1_ := q0 (hbox); have n2_ := q0 ((bs HB.out hg : w.heap.size ≤ gb105)); have n3_ := q0 ((bs HB.out hg : w.heap.size ≤ gb105)); clear HB; have HB := n0_; have BK105 := n1_; have GW105 := n2_; have GE105 := n3_; clear n0_ n1_ n2_ n3_ hb hbox hg; have hcz20_0 : w19.cell? ⟨gb105, 0, none⟩ = some (.int .i64 a0_0) := (blk_cell BK105.out 0).trans rfl; have hcz20_1 : w19.cell? ⟨gb105, 1, none⟩ = some (.slice A0_1 l0_1.length c0_1) := (blk_cell BK105.out 1).trans rfl; have hfz20_0 := blk_frozen BK105.out 0; have hfz20_1 := blk_frozen BK105.out 1) | ((with_reducible refine gate_callee (f := 34) rfl ?_); refine goesL_ (some 13) rfl rfl Try.func34 (by kernel_rfl) rfl #[.agg #[.int .i64 a0_0, .slice A0_1 l0_1.length c0_1], .int .i64 a1, .int .i64 a2] rfl qm ?_; (with_reducible refine (spec_NetCut.calls k a0_0 _ _ l0_1 a1 a2 t100 t103 false _ ?side1 ?side2 A4.out).mono ?_); (case side1 => exact qc (Kd.C_below HR0_1.out HB.out)); (case side2 => exact HC0_1.out); rintro e w21 ⟨v106, rfl, ho0, hb⟩; refine ⟨_, rfl, ?_⟩; have n0_ := q0 (Kd.R_lower ho0 (below_size (qb HB.out))); have n1_ := q0 (kb BK105.out hb); have n2_ := q0 (below_step (qb HB.out) hb); clear BK105 HB; have HO107 := n0_; have BK105 := n1_; have HB := n2_; clear n0_ n1_ n2_; (try clear hb); (try clear hb2); (try clear hk); (try clear hi); (try clear ho0)) | ((with_reducible refine gate_dst (N := 7) rfl ?_); refine be 7 #[.int .i64 0, .slice none 0 0] 30 ?_; intro gb108 hg w22 hbox hb; have n0_ := q0 (Kd.R_below (qr HO107.out) hb); have n1_ := q0 (kb BK105.out hb); have n2_ := q0 (below_step (qb HB.out) hb); have n3_ := q0 (hbox); have n4_ := q0 ((bs HB.out hg : w.heap.size ≤ gb108)); have n5_ := q0 ((bs HB.out hg : w.heap.size ≤ gb108)); have n6_ := q0 ((bl BK105.out hg : gb105 ≠ gb108)); have n7_ := q0 ((bg BK105.out hg : gb108 ≠ gb105)); clear HO107 BK105 HB; have HO107 := n0_; have BK105 := n1_; have HB := n2_; have BK108 := n3_; have GW108 := n4_; have GE108 := n5_; have NB105_108 := n6_; have NB108_105 := n7_; clear n0_ n1_ n2_ n3_ n4_ n5_ n6_ n7_ hb hbox hg; have hnb23 := NB108_105.out; have hnc23 := NB105_108.out; have hcz24_0 : w22.cell? ⟨gb108, 0, none⟩ = some (.int .i64 0) := (blk_cell BK108.out 0).trans rfl; have hcz24_1 : w22.cell? ⟨gb108, 1, none⟩ = some (.slice none 0 0) := (blk_cell BK108.out 1).trans rfl; have hfz24_0 := blk_frozen BK108.out 0; have hfz24_1 := blk_frozen BK108.out 1; obtain ⟨Ao25, co25, eo25⟩ := Kd.R_slice HO107.out; subst eo25))
   have n0_ : Aside0 (Kd.R kTie 44 ((w22.setCell ⟨gb108, 0, none⟩ (.int .i64 t100)).setCell ⟨gb108, 1, none⟩ (.slice Ao25 t103.length co25)) w.heap.size (fun _ => True) (.slice Ao25 t103.length co25) t103) := ⟨by (with_reducible repeat (first | apply Kd.R_alloc | apply Kd.R_drewN | apply Kd.R_drew)); exact Kd.R_mono (Kd.R_far (p := ⟨gb108, 1, none⟩) (Kd.R_far (p := ⟨gb108, 0, none⟩) (Kd.R_types HO107.out BK108.out (by decide)) (fun _ hk => hk.2) (.int .i64 t100)) (fun _ hk => hk.2) (.slice Ao25 t103.length co25)) (fun _ hk => trivial)⟩
   have n1_ : Aside0 (((w22.setCell ⟨gb108, 0, none⟩ (.int .i64 t100)).setCell ⟨gb108, 1, none⟩ (.slice Ao25 t103.length co25)).heap[gb105]? = some (.cells #[.int .i64 a0_0, .slice A0_1 l0_1.length c0_1] 30 (0, 0))) := ⟨qf BK105.out⟩
   have n2_ : Aside0 (((w22.setCell ⟨gb108, 0, none⟩ (.int .i64 t100)).setCell ⟨gb108, 1, none⟩ (.slice Ao25 t103.length co25)).heap[gb108]? = some (.cells #[.int .i64 t100, .slice Ao25 t103.length co25] 30 (0, 0))) := ⟨by (with_reducible repeat (first | refine blk_drewN ?_ _ | refine blk_drew ?_ | refine blk_alloc ?_ _)); refine blk_put (cs := #[.int .i64 t100, .slice none 0 0]) ?_ 1 _ rfl; (with_reducible repeat (first | refine blk_drewN ?_ _ | refine blk_drew ?_ | refine blk_alloc ?_ _)); refine blk_put (cs := #[.int .i64 0, .slice none 0 0]) ?_ 0 _ rfl; (with_reducible repeat (first | refine blk_drewN ?_ _ | refine blk_drew ?_ | refine blk_alloc ?_ _)); exact BK108.out⟩
   have n3_ : Aside0 (Below w.heap.size w ((w22.setCell ⟨gb108, 0, none⟩ (.int .i64 t100)).setCell ⟨gb108, 1, none⟩ (.slice Ao25 t103.length co25))) := ⟨qb HB.out⟩
   (try clear HO107)
   (try clear BK105)
   (try clear BK108)
   (try clear HB)
   generalize ((w22.setCell ⟨gb108, 0, none⟩ (.int .i64 t100)).setCell ⟨gb108, 1, none⟩ (.slice Ao25 t103.length co25)) = w26 at n0_ n1_ n2_ n3_ ⊢
   have HO107 := n0_
   have BK105 := n1_
   have BK108 := n2_
   have HB := n3_
   clear n0_ n1_ n2_ n3_
   have n0_ := q0 (Kd.R_drew HO107.out)
   have n1_ := q0 (blk_drew BK105.out)
   have n2_ := q0 (blk_drew BK108.out)
   have n3_ := q0 (below_drew1 HB.out)
   clear HO107
   clear BK105
   clear BK108
   clear HB
   have HO107 := n0_
   have BK105 := n1_
   have BK108 := n2_
   have HB := n3_
   clear n0_ n1_ n2_ n3_
   refine start_ (n := 9) (S := fun w' => True) (ds := []) (ba 9 0) (by kernel_rfl) rfl (by kernel_rfl) trivial (fun hHeld => ?_); refine with_tabW spec_BridgeIs.tab2 spec_BridgeIs.bits2 (fun HT_ HW_ => ?_)
   generalize w26.drew = w27 at HO107 BK105 BK108 HB hHeld ⊢
   refine pu 0 (some 16) (ba 9 1) HT_.out ?_
   refine pu 1 (some 17) (ba 9 3) HT_.out ?_
   refine pv 2 (some 18) (ba 9 7) HT_.out ?_
   refine pv 3 (some 19) (ba 9 15) HT_.out ?_
   refine pv 4 (some 20) (ba 9 31) HT_.out ?_
   refine pv 5 (some 21) (ba 9 63) HT_.out ?_
   refine pv 6 (some 22) (ba 9 127) HT_.out ?_
   refine pu 7 (some 23) (ba 9 255) HT_.out ?_
   refine pu 8 (some 6) (ba 9 511) HT_.out ?_
   refine done_ (done_of HT_.out (by kernel_rfl)) ?_
   try go_wp2
   go_ret
   exact ⟨qe, qb HB.out⟩
 subst c5
 have H1 : ((spec_WayCount.f k t100 t103).bind fun t101 => ((spec_WayCount.f k a0_0 l0_1).bind fun t102 => (some (decide (t101 > t102))))) = some r := by rw [if_pos rfl] at H; exact H
 clear H
 have H := H1
 clear H1
 replace H := Option.bind_eq_some_iff.mp H
 obtain ⟨t101, A60, H⟩ := H
 replace H : ((spec_WayCount.f k a0_0 l0_1).bind fun t102 => (some (decide (t101 > t102)))) = some r := H
 have A6 := Aside0.mk A60
 clear A60
 replace H := Option.bind_eq_some_iff.mp H
 obtain ⟨t102, A70, H⟩ := H
 replace H : (some (decide (t101 > t102))) = some r := H
 have A7 := Aside0.mk A70
 clear A70
 obtain rfl := Option.some.inj H
 go_enter Try.func43, Try.ntmps43
 try go_wp2_with (first | ((with_reducible refine gate_dst (N := 3) rfl ?_); refine be 3 #[.int .i64 a0_0, .slice A0_1 l0_1.length c0_1] 30 ?_; intro gb105 hg w8 hbox hb; have n0_ := q0 (below_step (qb HB.out) hb); have n1_ := q0 (hbox); have n2_ := q0 ((bs HB.out hg : w.heap.size ≤ gb105)); have n3_ := q0 ((bs HB.out hg : w.heap.size ≤ gb105)); clear HB; have HB := n0_; have BK105 := n1_; have GW105 := n2_; have GE105 := n3_; clear n0_ n1_ n2_ n3_ hb hbox hg; have hcz9_0 : w8.cell? ⟨gb105, 0, none⟩ = some (.int .i64 a0_0) := (blk_cell BK105.out 0).trans rfl; have hcz9_1 : w8.cell? ⟨gb105, 1, none⟩ = some (.slice A0_1 l0_1.length c0_1) := (blk_cell BK105.out 1).trans rfl; have hfz9_0 := blk_frozen BK105.out 0; have hfz9_1 := blk_frozen BK105.out 1) | ((with_reducible refine gate_callee (f := 34) rfl ?_); refine goesL_ (some 13) rfl rfl Try.func34 (by kernel_rfl) rfl #[.agg #[.int .i64 a0_0, .slice A0_1 l0_1.length c0_1], .int .i64 a1, .int .i64 a2] rfl qm ?_; (with_reducible refine (spec_NetCut.calls k a0_0 _ _ l0_1 a1 a2 t100 t103 true _ ?side1 ?side2 A4.out).mono ?_); (case side1 => exact qc (Kd.C_below HR0_1.out HB.out)); (case side2 => exact HC0_1.out); rintro e w10 ⟨v106, rfl, ho0, hb⟩; refine ⟨_, rfl, ?_⟩; have n0_ := q0 (Kd.R_lower ho0 (below_size (qb HB.out))); have n1_ := q0 (kb BK105.out hb); have n2_ := q0 (below_step (qb HB.out) hb); clear BK105 HB; have HO107 := n0_; have BK105 := n1_; have HB := n2_; clear n0_ n1_ n2_; (try clear hb); (try clear hb2); (try clear hk); (try clear hi); (try clear ho0)) | ((with_reducible refine gate_dst (N := 7) rfl ?_); refine be 7 #[.int .i64 0, .slice none 0 0] 30 ?_; intro gb108 hg w11 hbox hb; have n0_ := q0 (Kd.R_below (qr HO107.out) hb); have n1_ := q0 (kb BK105.out hb); have n2_ := q0 (below_step (qb HB.out) hb); have n3_ := q0 (hbox); have n4_ := q0 ((bs HB.out hg : w.heap.size ≤ gb108)); have n5_ := q0 ((bs HB.out hg : w.heap.size ≤ gb108)); have n6_ := q0 ((bl BK105.out hg : gb105 ≠ gb108)); have n7_ := q0 ((bg BK105.out hg : gb108 ≠ gb105)); clear HO107 BK105 HB; have HO107 := n0_; have BK105 := n1_; have HB := n2_; have BK108 := n3_; have GW108 := n4_; have GE108 := n5_; have NB105_108 := n6_; have NB108_105 := n7_; clear n0_ n1_ n2_ n3_ n4_ n5_ n6_ n7_ hb hbox hg; have hnb12 := NB108_105.out; have hnc12 := NB105_108.out; have hcz13_0 : w11.cell? ⟨gb108, 0, none⟩ = some (.int .i64 0) := (blk_cell BK108.out 0).trans rfl; have hcz13_1 : w11.cell? ⟨gb108, 1, none⟩ = some (.slice none 0 0) := (blk_cell BK108.out 1).trans rfl; have hfz13_0 := blk_frozen BK108.out 0; have hfz13_1 := blk_frozen BK108.out 1; obtain ⟨Ao14, co14, eo14⟩ := Kd.R_slice HO107.out; subst eo14))
 have n0_ : Aside0 (Kd.R kTie 44 ((w11.setCell ⟨gb108, 0, none⟩ (.int .i64 t100)).setCell ⟨gb108, 1, none⟩ (.slice Ao14 t103.length co14)) w.heap.size (fun _ => True) (.slice Ao14 t103.length co14) t103) := ⟨by (with_reducible repeat (first | apply Kd.R_alloc | apply Kd.R_drewN | apply Kd.R_drew)); exact Kd.R_mono (Kd.R_far (p := ⟨gb108, 1, none⟩) (Kd.R_far (p := ⟨gb108, 0, none⟩) (Kd.R_types HO107.out BK108.out (by decide)) (fun _ hk => hk.2) (.int .i64 t100)) (fun _ hk => hk.2) (.slice Ao14 t103.length co14)) (fun _ hk => trivial)⟩
 have n1_ : Aside0 (((w11.setCell ⟨gb108, 0, none⟩ (.int .i64 t100)).setCell ⟨gb108, 1, none⟩ (.slice Ao14 t103.length co14)).heap[gb105]? = some (.cells #[.int .i64 a0_0, .slice A0_1 l0_1.length c0_1] 30 (0, 0))) := ⟨qf BK105.out⟩
 have n2_ : Aside0 (((w11.setCell ⟨gb108, 0, none⟩ (.int .i64 t100)).setCell ⟨gb108, 1, none⟩ (.slice Ao14 t103.length co14)).heap[gb108]? = some (.cells #[.int .i64 t100, .slice Ao14 t103.length co14] 30 (0, 0))) := ⟨by (with_reducible repeat (first | refine blk_drewN ?_ _ | refine blk_drew ?_ | refine blk_alloc ?_ _)); refine blk_put (cs := #[.int .i64 t100, .slice none 0 0]) ?_ 1 _ rfl; (with_reducible repeat (first | refine blk_drewN ?_ _ | refine blk_drew ?_ | refine blk_alloc ?_ _)); refine blk_put (cs := #[.int .i64 0, .slice none 0 0]) ?_ 0 _ rfl; (with_reducible repeat (first | refine blk_drewN ?_ _ | refine blk_drew ?_ | refine blk_alloc ?_ _)); exact BK108.out⟩
 have n3_ : Aside0 (Below w.heap.size w ((w11.setCell ⟨gb108, 0, none⟩ (.int .i64 t100)).setCell ⟨gb108, 1, none⟩ (.slice Ao14 t103.length co14))) := ⟨qb HB.out⟩
 (try clear HO107)
 (try clear BK105)
 (try clear BK108)
 (try clear HB)
 generalize ((w11.setCell ⟨gb108, 0, none⟩ (.int .i64 t100)).setCell ⟨gb108, 1, none⟩ (.slice Ao14 t103.length co14)) = w15 at n0_ n1_ n2_ n3_ ⊢
 have HO107 := n0_
 have BK105 := n1_
 have BK108 := n2_
 have HB := n3_
 clear n0_ n1_ n2_ n3_
 have n0_ := q0 (Kd.R_drew HO107.out)
 have n1_ := q0 (blk_drew BK105.out)
 have n2_ := q0 (blk_drew BK108.out)
 have n3_ := q0 (below_drew1 HB.out)
 clear HO107
 clear BK105
 clear BK108
 clear HB
 have HO107 := n0_
 have BK105 := n1_
 have BK108 := n2_
 have HB := n3_
 clear n0_ n1_ n2_ n3_
 refine start_ (n := 9) (S := fun w' => w'.cell? ⟨gb108, 0, none⟩ = some (.int .i64 t100) ∧ w'.cell? ⟨gb108, 1, none⟩ = some (.slice Ao14 t103.length co14) ∧ w'.cell? ⟨gb105, 0, none⟩ = some (.int .i64 a0_0) ∧ w'.cell? ⟨gb105, 1, none⟩ = some (.slice A0_1 l0_1.length c0_1)) (ds := []) (ba 9 0) (by kernel_rfl) rfl (by kernel_rfl) ⟨(blk_cell BK108.out 0).trans rfl, (blk_cell BK108.out 1).trans rfl, (blk_cell BK105.out 0).trans rfl, (blk_cell BK105.out 1).trans rfl⟩ (fun hHeld => ?_); refine with_tabW spec_BridgeIs.tab2 spec_BridgeIs.bits2 (fun HT_ HW_ => ?_)
 generalize w15.drew = w16 at HO107 BK105 BK108 HB hHeld ⊢
 refine pu 0 (some 16) (ba 9 1) HT_.out ?_
 refine pu 1 (some 17) (ba 9 3) HT_.out ?_
 refine tu 2 (some 18) (ba 9 7) HT_.out HW_.out hHeld ?_
 refine tu 4 (some 20) (ba 9 23) HT_.out HW_.out hHeld ?_
 refine one_ (i := 3) (N := some 19) (ba 9 31) rfl rfl (one_of HT_.out (by kernel_rfl)) (by decide) (fun K hK => ?_)
 refine goes_ Try.func42 (by kernel_rfl) rfl #[.agg #[.int .i64 t100, .slice Ao14 t103.length co14]] (by rfl) rfl rfl qm ?_
 with_reducible refine (spec_WayCount.calls k t100 _ _ t103 t101 _ ?side1 ?side2 A6.out).mono ?_
 (case side1 => exact qc (Kd.R_reads' HO107.out).2.2)
 (case side2 => exact (Kd.R_reads' HO107.out).2.1)
 rintro e w17 ⟨rfl, hb⟩
 refine ⟨_, rfl, ?_⟩
 have n0_ := q0 (Kd.R_below (qr HO107.out) hb)
 have n1_ := q0 (kb BK105.out hb)
 have n2_ := q0 (kb BK108.out hb)
 have n3_ := q0 (below_step (qb HB.out) hb)
 clear HO107
 clear BK105
 clear BK108
 clear HB
 have HO107 := n0_
 have BK105 := n1_
 have BK108 := n2_
 have HB := n3_
 clear n0_ n1_ n2_ n3_
 (try clear hb)
 (try clear hb2)
 (try clear hk)
 (try clear hi)
 refine hK.out _ _ ⟨(blk_cell BK108.out 0).trans rfl, (blk_cell BK108.out 1).trans rfl, (blk_cell BK105.out 0).trans rfl, (blk_cell BK105.out 1).trans rfl⟩ (fun hHeld => ?_)
 clear hK K
 refine nu 19 ?_
 refine one_ (i := 5) (N := some 21) (ba 9 63) rfl rfl (one_of HT_.out (by kernel_rfl)) (by decide) (fun K hK => ?_)
 refine goes_ Try.func42 (by kernel_rfl) rfl #[.agg #[.int .i64 a0_0, .slice A0_1 l0_1.length c0_1]] (by rfl) rfl rfl qm ?_
 with_reducible refine (spec_WayCount.calls k a0_0 _ _ l0_1 t102 _ ?side1 ?side2 A7.out).mono ?_
 (case side1 => exact qc (Kd.C_below HR0_1.out HB.out))
 (case side2 => exact HC0_1.out)
 rintro e w18 ⟨rfl, hb⟩
 refine ⟨_, rfl, ?_⟩
 have n0_ := q0 (Kd.R_below (qr HO107.out) hb)
 have n1_ := q0 (kb BK105.out hb)
 have n2_ := q0 (kb BK108.out hb)
 have n3_ := q0 (below_step (qb HB.out) hb)
 clear HO107
 clear BK105
 clear BK108
 clear HB
 have HO107 := n0_
 have BK105 := n1_
 have BK108 := n2_
 have HB := n3_
 clear n0_ n1_ n2_ n3_
 (try clear hb)
 (try clear hb2)
 (try clear hk)
 (try clear hi)
 refine hK.out _ _ ⟨(blk_cell BK108.out 0).trans rfl, (blk_cell BK108.out 1).trans rfl, (blk_cell BK105.out 0).trans rfl, (blk_cell BK105.out 1).trans rfl⟩ (fun hHeld => ?_)
 clear hK K
 refine nu 21 ?_
 refine pu 6 (some 22) (ba 9 127) HT_.out ?_
 refine pu 7 (some 23) (ba 9 255) HT_.out ?_
 refine pu 8 (some 6) (ba 9 511) HT_.out ?_
 refine done_ (done_of HT_.out (by kernel_rfl)) ?_
 try go_wp2
 go_ret
 exact ⟨qe, qb HB.out⟩

set_option maxHeartbeats 8000000 in
set_option maxRecDepth 100000 in
theorem impl_Net_joined.calls (k : Nat) (a0_0 : Int) (A0_1 : Option Addr) (c0_1 : Nat) (l0_1 : List (STie)) (a1 : Int) (a2 : Int) (r : Bool) (w : World) (hr0_1 : Kd.C kTie w A0_1 l0_1.length l0_1) (hc0_1 : l0_1.length ≤ c0_1) (h : impl_Net_joined.f k a0_0 l0_1 a1 a2 = some r) :
    Calls Try.prog 86 #[.agg #[.int .i64 a0_0, .slice A0_1 l0_1.length c0_1], .int .i64 a1, .int .i64 a2] w fun e w' => e = .returned (.bool r) ∧ Below w.heap.size w w' := by
 have hu30 := Try.underlying30
 have HR0_1 := Aside0.mk hr0_1
 have HC0_1 := Aside0.mk hc0_1
 clear hr0_1 hc0_1
 have HB := q0 (Below.refl w.heap.size w)
 have H : ((impl_Net_parts.f k a0_0 l0_1).bind fun t100 => (if 0 ≤ a1 then (if a1 < (t100.length : Int) then (if 0 ≤ a2 then (if a2 < (t100.length : Int) then (some ((rd t100 a1) == (rd t100 a2))) else (none)) else (none)) else (none)) else (none))) = some r := h
 clear h
 replace H := Option.bind_eq_some_iff.mp H
 obtain ⟨t100, A40, H⟩ := H
 replace H : (if 0 ≤ a1 then (if a1 < (t100.length : Int) then (if 0 ≤ a2 then (if a2 < (t100.length : Int) then (some ((rd t100 a1) == (rd t100 a2))) else (none)) else (none)) else (none)) else (none)) = some r := H
 have A4 := Aside0.mk A40
 clear A40
 by_cases c5 : 0 ≤ a1
 rotate_left
 · rw [if_neg c5] at H
   exact absurd H (by simp)
 rw [if_pos c5] at H
 have c5b0 : decide (0 ≤ a1) = true := decide_eq_true c5
 clear c5
 by_cases c6 : a1 < (t100.length : Int)
 rotate_left
 · rw [if_neg c6] at H
   exact absurd H (by simp)
 rw [if_pos c6] at H
 have c6b0 : decide (a1 < (t100.length : Int)) = true := decide_eq_true c6
 clear c6
 by_cases c7 : 0 ≤ a2
 rotate_left
 · rw [if_neg c7] at H
   exact absurd H (by simp)
 rw [if_pos c7] at H
 have c7b0 : decide (0 ≤ a2) = true := decide_eq_true c7
 clear c7
 by_cases c8 : a2 < (t100.length : Int)
 rotate_left
 · rw [if_neg c8] at H
   exact absurd H (by simp)
 rw [if_pos c8] at H
 have c8b0 : decide (a2 < (t100.length : Int)) = true := decide_eq_true c8
 clear c8
 obtain rfl := Option.some.inj H
 go_enter Try.func86, Try.ntmps86
 go_wp2_with (first | ((with_reducible refine gate_dst (N := 3) rfl ?_); refine be 3 #[.int .i64 a0_0, .slice A0_1 l0_1.length c0_1] 30 ?_; intro gb101 hg w9 hbox hb; have n0_ := q0 (below_step (qb HB.out) hb); have n1_ := q0 (hbox); have n2_ := q0 ((bs HB.out hg : w.heap.size ≤ gb101)); have n3_ := q0 ((bs HB.out hg : w.heap.size ≤ gb101)); clear HB; have HB := n0_; have BK101 := n1_; have GW101 := n2_; have GE101 := n3_; clear n0_ n1_ n2_ n3_ hb hbox hg; have hcz10_0 : w9.cell? ⟨gb101, 0, none⟩ = some (.int .i64 a0_0) := (blk_cell BK101.out 0).trans rfl; have hcz10_1 : w9.cell? ⟨gb101, 1, none⟩ = some (.slice A0_1 l0_1.length c0_1) := (blk_cell BK101.out 1).trans rfl; have hfz10_0 := blk_frozen BK101.out 0; have hfz10_1 := blk_frozen BK101.out 1) | (go_at_call 50; (with_reducible refine (impl_Net_parts.calls k a0_0 _ _ l0_1 t100 _ ?side1 ?side2 A4.out).mono ?_); (case side1 => exact qc (Kd.C_below HR0_1.out HB.out)); (case side2 => exact HC0_1.out); rintro e w11 ⟨v102, rfl, ho0, hb⟩; have n0_ := q0 (Kd.R_lower ho0 (below_size (qb HB.out))); have n1_ := q0 (kb BK101.out hb); have n2_ := q0 (below_step (qb HB.out) hb); clear BK101 HB; have HO103 := n0_; have BK101 := n1_; have HB := n2_; clear n0_ n1_ n2_; (try clear hb); (try clear hb2); (try clear hk); (try clear hi); (try clear ho0); obtain ⟨Ao12, co12, eo12⟩ := Kd.R_slice HO103.out; subst eo12; have p104 : 0 ≤ (a1 : Int) := of_decide_eq_true qa; have q104 : a1 < (t100.length : Int) := of_decide_eq_true qa; obtain ⟨ad104, e104, hx104_0⟩ := Kd.at_int (Kd.R_reads' HO103.out).2.2 a1 p104 q104; cases e104; replace p104 := eq_true p104; replace q104 := eq_true q104; have p105 : 0 ≤ (a2 : Int) := of_decide_eq_true qa; have q105 : a2 < (t100.length : Int) := of_decide_eq_true qa; obtain ⟨ad105, e105, hx105_0⟩ := Kd.at_int (Kd.R_reads' HO103.out).2.2 a2 p105 q105; obtain rfl : ad104 = ad105 := (by injection e105); replace p105 := eq_true p105; replace q105 := eq_true q105))
 repeat (go_quiet (first | ((with_reducible refine gate_dst (N := 3) rfl ?_); refine be 3 #[.int .i64 a0_0, .slice A0_1 l0_1.length c0_1] 30 ?_; intro gb101 hg w9 hbox hb; have n0_ := q0 (below_step (qb HB.out) hb); have n1_ := q0 (hbox); have n2_ := q0 ((bs HB.out hg : w.heap.size ≤ gb101)); have n3_ := q0 ((bs HB.out hg : w.heap.size ≤ gb101)); clear HB; have HB := n0_; have BK101 := n1_; have GW101 := n2_; have GE101 := n3_; clear n0_ n1_ n2_ n3_ hb hbox hg; have hcz10_0 : w9.cell? ⟨gb101, 0, none⟩ = some (.int .i64 a0_0) := (blk_cell BK101.out 0).trans rfl; have hcz10_1 : w9.cell? ⟨gb101, 1, none⟩ = some (.slice A0_1 l0_1.length c0_1) := (blk_cell BK101.out 1).trans rfl; have hfz10_0 := blk_frozen BK101.out 0; have hfz10_1 := blk_frozen BK101.out 1) | (go_at_call 50; (with_reducible refine (impl_Net_parts.calls k a0_0 _ _ l0_1 t100 _ ?side1 ?side2 A4.out).mono ?_); (case side1 => exact qc (Kd.C_below HR0_1.out HB.out)); (case side2 => exact HC0_1.out); rintro e w11 ⟨v102, rfl, ho0, hb⟩; have n0_ := q0 (Kd.R_lower ho0 (below_size (qb HB.out))); have n1_ := q0 (kb BK101.out hb); have n2_ := q0 (below_step (qb HB.out) hb); clear BK101 HB; have HO103 := n0_; have BK101 := n1_; have HB := n2_; clear n0_ n1_ n2_; (try clear hb); (try clear hb2); (try clear hk); (try clear hi); (try clear ho0); obtain ⟨Ao12, co12, eo12⟩ := Kd.R_slice HO103.out; subst eo12; have p104 : 0 ≤ (a1 : Int) := of_decide_eq_true qa; have q104 : a1 < (t100.length : Int) := of_decide_eq_true qa; obtain ⟨ad104, e104, hx104_0⟩ := Kd.at_int (Kd.R_reads' HO103.out).2.2 a1 p104 q104; cases e104; replace p104 := eq_true p104; replace q104 := eq_true q104; have p105 : 0 ≤ (a2 : Int) := of_decide_eq_true qa; have q105 : a2 < (t100.length : Int) := of_decide_eq_true qa; obtain ⟨ad105, e105, hx105_0⟩ := Kd.at_int (Kd.R_reads' HO103.out).2.2 a2 p105 q105; obtain rfl : ad104 = ad105 := (by injection e105); replace p105 := eq_true p105; replace q105 := eq_true q105)); try go_wp2_with (first | ((with_reducible refine gate_dst (N := 3) rfl ?_); refine be 3 #[.int .i64 a0_0, .slice A0_1 l0_1.length c0_1] 30 ?_; intro gb101 hg w9 hbox hb; have n0_ := q0 (below_step (qb HB.out) hb); have n1_ := q0 (hbox); have n2_ := q0 ((bs HB.out hg : w.heap.size ≤ gb101)); have n3_ := q0 ((bs HB.out hg : w.heap.size ≤ gb101)); clear HB; have HB := n0_; have BK101 := n1_; have GW101 := n2_; have GE101 := n3_; clear n0_ n1_ n2_ n3_ hb hbox hg; have hcz10_0 : w9.cell? ⟨gb101, 0, none⟩ = some (.int .i64 a0_0) := (blk_cell BK101.out 0).trans rfl; have hcz10_1 : w9.cell? ⟨gb101, 1, none⟩ = some (.slice A0_1 l0_1.length c0_1) := (blk_cell BK101.out 1).trans rfl; have hfz10_0 := blk_frozen BK101.out 0; have hfz10_1 := blk_frozen BK101.out 1) | (go_at_call 50; (with_reducible refine (impl_Net_parts.calls k a0_0 _ _ l0_1 t100 _ ?side1 ?side2 A4.out).mono ?_); (case side1 => exact qc (Kd.C_below HR0_1.out HB.out)); (case side2 => exact HC0_1.out); rintro e w11 ⟨v102, rfl, ho0, hb⟩; have n0_ := q0 (Kd.R_lower ho0 (below_size (qb HB.out))); have n1_ := q0 (kb BK101.out hb); have n2_ := q0 (below_step (qb HB.out) hb); clear BK101 HB; have HO103 := n0_; have BK101 := n1_; have HB := n2_; clear n0_ n1_ n2_; (try clear hb); (try clear hb2); (try clear hk); (try clear hi); (try clear ho0); obtain ⟨Ao12, co12, eo12⟩ := Kd.R_slice HO103.out; subst eo12; have p104 : 0 ≤ (a1 : Int) := of_decide_eq_true qa; have q104 : a1 < (t100.length : Int) := of_decide_eq_true qa; obtain ⟨ad104, e104, hx104_0⟩ := Kd.at_int (Kd.R_reads' HO103.out).2.2 a1 p104 q104; cases e104; replace p104 := eq_true p104; replace q104 := eq_true q104; have p105 : 0 ≤ (a2 : Int) := of_decide_eq_true qa; have q105 : a2 < (t100.length : Int) := of_decide_eq_true qa; obtain ⟨ad105, e105, hx105_0⟩ := Kd.at_int (Kd.R_reads' HO103.out).2.2 a2 p105 q105; obtain rfl : ad104 = ad105 := (by injection e105); replace p105 := eq_true p105; replace q105 := eq_true q105)))
 go_ret
 exact ⟨qe, qb HB.out⟩

def impl_Net_bridges.T5 : Bool × List (List Nat × List Nat) := (true, [([], []), ([], []), ([1], [1]), ([0, 2], [0, 2]), ([], []), ([4], [4]), ([], []), ([6], [6]), ([3, 5, 7, 3], [3, 5, 7]), ([8], [8])])
def impl_Net_bridges.B5 : List Nat := [0, 0, 2, 7, 0, 16, 0, 64, 255, 511]
theorem impl_Net_bridges.tab5 : rtab .any (opsOf Try.f71 5) = impl_Net_bridges.T5 := by kernel_rfl
theorem impl_Net_bridges.bits5 : waitsOk impl_Net_bridges.T5.2 impl_Net_bridges.B5 = true := by kernel_rfl
set_option maxHeartbeats 8000000 in
set_option maxRecDepth 100000 in
theorem impl_Net_bridges.calls (k : Nat) (a0_0 : Int) (A0_1 : Option Addr) (c0_1 : Nat) (l0_1 : List (STie)) (r : List (STie)) (w : World) (hr0_1 : Kd.C kTie w A0_1 l0_1.length l0_1) (hc0_1 : l0_1.length ≤ c0_1) (h : impl_Net_bridges.f k a0_0 l0_1 = some r) :
    Calls Try.prog 71 #[.agg #[.int .i64 a0_0, .slice A0_1 l0_1.length c0_1]] w fun e w' => ∃ v0_ : Value, e = .returned (v0_) ∧ Kd.R kTie 44 w' w.heap.size (fun _ => True) v0_ r ∧ Below w.heap.size w w' := by
 have hu30 := Try.underlying30
 have hu44 := Try.underlying44
 have HR0_1 := Aside0.mk hr0_1
 have HC0_1 := Aside0.mk hc0_1
 clear hr0_1 hc0_1
 have HB := q0 (Below.refl w.heap.size w)
 have H : (impl_Net_bridges.l0 k (([] : List (STie))) l0_1 (l0_1.length : Int) 0 a0_0 l0_1) = some r := h
 clear h
 obtain ⟨y100, hy100⟩ : ∃ y_ : List (STie), y_ = (([] : List (STie))) := ⟨_, rfl⟩
 replace H : (impl_Net_bridges.l0 k y100 l0_1 (l0_1.length : Int) 0 a0_0 l0_1) = some r := by first | (rw [hy100]; with_reducible exact H) | (have H2_ := (Option.bind_some _ _).symm.trans H; rw [hy100]; with_reducible exact H2_) | (have H2_ := (Option.bind_some _ _).symm.trans H; with_reducible exact H2_) | with_reducible exact H | (rw [hy100]; exact H) | exact H
 have Ny100 := Aside0.mk hy100
 clear hy100
 have H' := Aside0.mk H
 clear H
 go_enter Try.func71, Try.ntmps71
 go_wp2_with (first | ((with_reducible refine gate_dst (N := 1) rfl ?_); refine be 1 #[.int .i64 a0_0, .slice A0_1 l0_1.length c0_1] 30 ?_; intro gb103 hg w2 hbox hb; have n0_ := q0 (below_step (qb HB.out) hb); have n1_ := q0 (hbox); have n2_ := q0 ((bs HB.out hg : w.heap.size ≤ gb103)); have n3_ := q0 ((bs HB.out hg : w.heap.size ≤ gb103)); clear HB; have HB := n0_; have BK103 := n1_; have GW103 := n2_; have GE103 := n3_; clear n0_ n1_ n2_ n3_ hb hbox hg) | ((with_reducible refine gate_dst (N := 6) rfl ?_); refine Kd.R_lit kTie _ 44 ?hg (N := 6) ?hd (xs := ([] : List (STie))) (inner := []) (ok := fun _ => True) (okp := fun _ => True) ?hr ?hp (fun _ hk => hk) trivial (Below.refl _ _) (Nat.le_refl _) (by simp) ?_; (case hd => rfl); (case hg => rfl); (case hr => first | (go_simp; done) | (go_simp; rfl)); (case hp => exact (Reps.none _ _)); intro v104 w3 ho4 hb hg_ hnew_; clear hg_ hnew_; (first | rw [← Ny100.out] at ho4 | (simp only [Int.reduceToNat] at ho4; rw [← Ny100.out] at ho4)); have n0_ := q0 (Kd.R_lower ho4 (below_size (qb HB.out))); have n1_ := q0 (kb BK103.out hb); have n2_ := q0 (below_step (qb HB.out) hb); clear BK103 HB; have HO105 := n0_; have BK103 := n1_; have HB := n2_; clear n0_ n1_ n2_ hb ho4; have hcz5_0 : w3.cell? ⟨gb103, 0, none⟩ = some (.int .i64 a0_0) := (blk_cell BK103.out 0).trans rfl; have hcz5_1 : w3.cell? ⟨gb103, 1, none⟩ = some (.slice A0_1 l0_1.length c0_1) := (blk_cell BK103.out 1).trans rfl; have hfz5_0 := blk_frozen BK103.out 0; have hfz5_1 := blk_frozen BK103.out 1))
 go_loopg [3, 10] k (fun kq v3 v10 w' => ∃ (x3_1 : List (STie)) (x10_1 : Int), v10 = .int .i64 x10_1 ∧ Aside0 (impl_Net_bridges.l0 kq x3_1 l0_1 (l0_1.length : Int) x10_1 a0_0 l0_1 = some r) ∧ Aside0 (kq ≤ k) ∧ Aside0 (Kd.R kTie 44 w' w.heap.size (fun _ => True) v3 x3_1) ∧ Aside0 (w'.heap[gb103]? = some (.cells #[.int .i64 a0_0, (.slice A0_1 l0_1.length c0_1)] 30 (0, 0))) ∧ Aside0 (Below w.heap.size w w'))
 case atStart => exact ⟨(y100), (0), qs, H', ⟨Nat.le_refl _⟩, ⟨qr HO105.out⟩, ⟨qk BK103.out⟩, ⟨qb HB.out⟩⟩
 clear H'
 try clear p2
 try clear hcz5_0
 try clear hcz5_1
 try clear hfz5_0
 try clear hfz5_1
 obtain ⟨x3_1, x10_1, rfl, HA, HK1, HO_3, BK103, HB⟩ := hrel
 rcases gk with _ | k1
 · exact absurd HA.out (by simp [impl_Net_bridges.l0])
 have H := HA.out
 clear HA
 simp only [impl_Net_bridges.l0] at H
 by_cases c6 : x10_1 < (l0_1.length : Int)
 rotate_left
 · rw [if_neg c6] at H
   have c6b0 : decide (x10_1 < (l0_1.length : Int)) = false := decide_eq_false c6
   clear c6
   obtain rfl := Option.some.inj H
   go_wp2
   go_ret
   exact ⟨_, qe, by (with_reducible repeat (first | apply Kd.R_alloc | apply Kd.R_drewN | apply Kd.R_drew)); exact HO_3.out, qb HB.out⟩
 rw [if_pos c6] at H
 have c6b0 : decide (x10_1 < (l0_1.length : Int)) = true := decide_eq_true c6
 clear c6
 by_cases c7 : 0 ≤ x10_1
 rotate_left
 · rw [if_neg c7] at H
   exact absurd H (by simp)
 rw [if_pos c7] at H
 have c7b0 : decide (0 ≤ x10_1) = true := decide_eq_true c7
 clear c7
 by_cases c8 : x10_1 < (l0_1.length : Int)
 rotate_left
 · rw [if_neg c8] at H
   exact absurd H (by simp)
 rw [if_pos c8] at H
 have c8b0 : decide (x10_1 < (l0_1.length : Int)) = true := decide_eq_true c8
 clear c8
 obtain ⟨y106, hy106⟩ : ∃ y_ : List (STie), y_ = (([(⟨(rd_TTie l0_1 x10_1).f0, (rd_TTie l0_1 x10_1).f1⟩ : STie)] : List (STie))) := ⟨_, rfl⟩
 replace H : ((impl_Net_less.f k1 a0_0 l0_1 y106).bind fun bt101 => ((impl_Net_joined.f k1 bt101.1 bt101.2 ((rd_TTie l0_1 x10_1).f0) ((rd_TTie l0_1 x10_1).f1)).bind fun t102 => (if t102 = true then (impl_Net_bridges.l0 k1 x3_1 l0_1 (l0_1.length : Int) (wrap64 (x10_1 + 1)) a0_0 l0_1) else (if x3_1.length < 8796093022208 then (impl_Net_bridges.l0 k1 (x3_1 ++ [(⟨(rd_TTie l0_1 x10_1).f0, (rd_TTie l0_1 x10_1).f1⟩ : STie)]) l0_1 (l0_1.length : Int) (wrap64 (x10_1 + 1)) a0_0 l0_1) else (none))))) = some r := by first | (rw [hy106]; with_reducible exact H) | (have H2_ := (Option.bind_some _ _).symm.trans H; rw [hy106]; with_reducible exact H2_) | (have H2_ := (Option.bind_some _ _).symm.trans H; with_reducible exact H2_) | with_reducible exact H | (rw [hy106]; exact H) | exact H
 have Ny106 := Aside0.mk hy106
 clear hy106
 replace H := Option.bind_eq_some_iff.mp H
 obtain ⟨⟨t101, t107⟩, A90, H⟩ := H
 replace H : ((impl_Net_joined.f k1 t101 t107 ((rd_TTie l0_1 x10_1).f0) ((rd_TTie l0_1 x10_1).f1)).bind fun t102 => (if t102 = true then (impl_Net_bridges.l0 k1 x3_1 l0_1 (l0_1.length : Int) (wrap64 (x10_1 + 1)) a0_0 l0_1) else (if x3_1.length < 8796093022208 then (impl_Net_bridges.l0 k1 (x3_1 ++ [(⟨(rd_TTie l0_1 x10_1).f0, (rd_TTie l0_1 x10_1).f1⟩ : STie)]) l0_1 (l0_1.length : Int) (wrap64 (x10_1 + 1)) a0_0 l0_1) else (none)))) = some r := H
 have A9 := Aside0.mk A90
 clear A90
 replace H := Option.bind_eq_some_iff.mp H
 obtain ⟨t102, A108, H⟩ := H
 replace H : (if t102 = true then (impl_Net_bridges.l0 k1 x3_1 l0_1 (l0_1.length : Int) (wrap64 (x10_1 + 1)) a0_0 l0_1) else (if x3_1.length < 8796093022208 then (impl_Net_bridges.l0 k1 (x3_1 ++ [(⟨(rd_TTie l0_1 x10_1).f0, (rd_TTie l0_1 x10_1).f1⟩ : STie)]) l0_1 (l0_1.length : Int) (wrap64 (x10_1 + 1)) a0_0 l0_1) else (none))) = some r := H
 have A10 := Aside0.mk A108
 clear A108
 by_cases c11 : t102 = true
 · subst c11
   have H1 : (impl_Net_bridges.l0 k1 x3_1 l0_1 (l0_1.length : Int) (wrap64 (x10_1 + 1)) a0_0 l0_1) = some r := by rw [if_pos rfl] at H; exact H
   clear H
   have H := H1
   clear H1
   have H' := Aside0.mk H
   clear H
   have p109 : 0 ≤ (x10_1 : Int) := of_decide_eq_true qa
   have q109 : x10_1 < (l0_1.length : Int) := of_decide_eq_true qa
   obtain ⟨ad109, e109, hx109_0, hx109_1⟩ := at_TTie HR0_1.out x10_1 p109 q109
   cases e109
   replace hx109_0 := (HB.out.cell (World.block_lt_of_cell? w _ hx109_0)).trans hx109_0
   replace hx109_1 := (HB.out.cell (World.block_lt_of_cell? w _ hx109_1)).trans hx109_1
   replace p109 := eq_true p109
   replace q109 := eq_true q109
   try go_wp2_with (first | ((with_reducible refine gate_dst (N := 5) rfl ?_); refine be 5 #[.int .i64 0, .int .i64 0] 44 ?_; intro gb110 hg w12 hbox hb; have n0_ := q0 (Kd.R_below (Kd.R_elderB (qr HO_3.out) gb110 (Nat.le_of_eq hg.symm)) hb); have n1_ := q0 (kb BK103.out hb); have n2_ := q0 (below_step (qb HB.out) hb); have n3_ := q0 (hbox); have n4_ := q0 ((bs HB.out hg : w.heap.size ≤ gb110)); have n5_ := q0 ((bs HB.out hg : w.heap.size ≤ gb110)); have n6_ := q0 ((bl BK103.out hg : gb103 ≠ gb110)); have n7_ := q0 ((bg BK103.out hg : gb110 ≠ gb103)); clear HO_3 BK103 HB; have HO_3 := n0_; have BK103 := n1_; have HB := n2_; have BK110 := n3_; have GW110 := n4_; have GE110 := n5_; have NB103_110 := n6_; have NB110_103 := n7_; clear n0_ n1_ n2_ n3_ n4_ n5_ n6_ n7_ hb hbox hg; have hnb13 := NB110_103.out; have hnc13 := NB103_110.out; have hcz14_0 : w12.cell? ⟨gb110, 0, none⟩ = some (.int .i64 0) := (blk_cell BK110.out 0).trans rfl; have hcz14_1 : w12.cell? ⟨gb110, 1, none⟩ = some (.int .i64 0) := (blk_cell BK110.out 1).trans rfl; have hfz14_0 := blk_frozen BK110.out 0; have hfz14_1 := blk_frozen BK110.out 1))
   have n0_ : Aside0 (Kd.R kTie 44 ((w12.setCell ⟨gb110, 0, none⟩ (.int .i64 ((rd_TTie l0_1 x10_1).f0))).setCell ⟨gb110, 1, none⟩ (.int .i64 ((rd_TTie l0_1 x10_1).f1))) w.heap.size (fun k_ => k_ ≠ gb110) u3 x3_1) := ⟨by (with_reducible repeat (first | apply Kd.R_alloc | apply Kd.R_drewN | apply Kd.R_drew)); exact Kd.R_mono (Kd.R_far (p := ⟨gb110, 1, none⟩) (Kd.R_far (p := ⟨gb110, 0, none⟩) (Kd.R_mono HO_3.out (fun k_ hk => (⟨hk, hk.2⟩ : _ ∧ k_ ≠ gb110))) (fun _ hk => hk.2) (.int .i64 ((rd_TTie l0_1 x10_1).f0))) (fun _ hk => hk.2) (.int .i64 ((rd_TTie l0_1 x10_1).f1))) (fun _ hk => hk.1.2)⟩
   have n1_ : Aside0 (((w12.setCell ⟨gb110, 0, none⟩ (.int .i64 ((rd_TTie l0_1 x10_1).f0))).setCell ⟨gb110, 1, none⟩ (.int .i64 ((rd_TTie l0_1 x10_1).f1))).heap[gb103]? = some (.cells #[.int .i64 a0_0, .slice (some ad109) l0_1.length c0_1] 30 (0, 0))) := ⟨qf BK103.out⟩
   have n2_ : Aside0 (((w12.setCell ⟨gb110, 0, none⟩ (.int .i64 ((rd_TTie l0_1 x10_1).f0))).setCell ⟨gb110, 1, none⟩ (.int .i64 ((rd_TTie l0_1 x10_1).f1))).heap[gb110]? = some (.cells #[.int .i64 ((rd_TTie l0_1 x10_1).f0), .int .i64 ((rd_TTie l0_1 x10_1).f1)] 44 (0, 0))) := ⟨by (with_reducible repeat (first | refine blk_drewN ?_ _ | refine blk_drew ?_ | refine blk_alloc ?_ _)); refine blk_put (cs := #[.int .i64 ((rd_TTie l0_1 x10_1).f0), .int .i64 0]) ?_ 1 _ rfl; (with_reducible repeat (first | refine blk_drewN ?_ _ | refine blk_drew ?_ | refine blk_alloc ?_ _)); refine blk_put (cs := #[.int .i64 0, .int .i64 0]) ?_ 0 _ rfl; (with_reducible repeat (first | refine blk_drewN ?_ _ | refine blk_drew ?_ | refine blk_alloc ?_ _)); exact BK110.out⟩
   have n3_ : Aside0 (Below w.heap.size w ((w12.setCell ⟨gb110, 0, none⟩ (.int .i64 ((rd_TTie l0_1 x10_1).f0))).setCell ⟨gb110, 1, none⟩ (.int .i64 ((rd_TTie l0_1 x10_1).f1)))) := ⟨qb HB.out⟩
   (try clear HO_3)
   (try clear BK103)
   (try clear BK110)
   (try clear HB)
   generalize ((w12.setCell ⟨gb110, 0, none⟩ (.int .i64 ((rd_TTie l0_1 x10_1).f0))).setCell ⟨gb110, 1, none⟩ (.int .i64 ((rd_TTie l0_1 x10_1).f1))) = w15 at n0_ n1_ n2_ n3_ ⊢
   have HO_3 := n0_
   have BK103 := n1_
   have BK110 := n2_
   have HB := n3_
   clear n0_ n1_ n2_ n3_
   have n0_ := q0 (Kd.R_drew HO_3.out)
   have n1_ := q0 (blk_drew BK103.out)
   have n2_ := q0 (blk_drew BK110.out)
   have n3_ := q0 (below_drew1 HB.out)
   clear HO_3
   clear BK103
   clear BK110
   clear HB
   have HO_3 := n0_
   have BK103 := n1_
   have BK110 := n2_
   have HB := n3_
   clear n0_ n1_ n2_ n3_
   refine start_ (n := 10) (S := fun w' => w'.cell? ⟨gb103, 0, none⟩ = some (.int .i64 a0_0) ∧ w'.cell? ⟨gb103, 1, none⟩ = some (.slice (some ad109) l0_1.length c0_1) ∧ w'.cell? ⟨gb110, 0, none⟩ = some (.int .i64 ((rd_TTie l0_1 x10_1).f0)) ∧ w'.cell? ⟨gb110, 1, none⟩ = some (.int .i64 ((rd_TTie l0_1 x10_1).f1))) (ds := []) (ba 10 0) (by kernel_rfl) rfl (by kernel_rfl) ⟨(blk_cell BK103.out 0).trans rfl, (blk_cell BK103.out 1).trans rfl, (blk_cell BK110.out 0).trans rfl, (blk_cell BK110.out 1).trans rfl⟩ (fun hHeld => ?_); refine with_tabW impl_Net_bridges.tab5 impl_Net_bridges.bits5 (fun HT_ HW_ => ?_)
   generalize w15.drew = w16 at HO_3 BK103 BK110 HB hHeld ⊢
   refine pu 4 (some 18) (ba 10 16) HT_.out ?_
   refine pu 6 (some 20) (ba 10 80) HT_.out ?_
   refine tu 0 (some 14) (ba 10 81) HT_.out HW_.out hHeld ?_
   refine tu 1 (some 15) (ba 10 83) HT_.out HW_.out hHeld ?_
   refine tu 5 (some 19) (ba 10 115) HT_.out HW_.out hHeld ?_
   refine tu 7 (some 21) (ba 10 243) HT_.out HW_.out hHeld ?_
   refine one_ (i := 2) (N := some 16) (ba 10 247) rfl rfl (one_of HT_.out (by kernel_rfl)) (by decide) (fun K hK => ?_)
   refine Kd.R_lit_step kTie _ 44 ?hg (N := 16) ?hd (xs := ([(⟨(rd_TTie l0_1 x10_1).f0, (rd_TTie l0_1 x10_1).f1⟩ : STie)] : List (STie))) (inner := [.int .i64 ((rd_TTie l0_1 x10_1).f0), .int .i64 ((rd_TTie l0_1 x10_1).f1)]) (ok := fun _ => True) (okp := fun _ => True) ?hr ?hp (fun _ hk => hk) trivial (Below.refl _ _) (Nat.le_refl _) (by simp) ?_; (case hd => rfl); (case hg => rfl); (case hr => first | (go_simp; done) | (go_simp; rfl)); (case hp => exact (Reps.c2 (show Kd.M kTie _ _ _ (⟨(rd_TTie l0_1 x10_1).f0, (rd_TTie l0_1 x10_1).f1⟩ : STie) [.int .i64 ((rd_TTie l0_1 x10_1).f0), .int .i64 ((rd_TTie l0_1 x10_1).f1)] from (kTie_mkM _ _ _ (⟨(rd_TTie l0_1 x10_1).f0, (rd_TTie l0_1 x10_1).f1⟩ : STie) )) (Reps.none _ _)))
   intro v111 w17 ho18 hb hg_ hnew_
   clear hg_ hnew_
   (first | rw [← Ny106.out] at ho18 | (simp only [Int.reduceToNat] at ho18; rw [← Ny106.out] at ho18))
   have n0_ := q0 (Kd.R_elder' (qr HO_3.out) (Kd.R_base ho18) hb)
   have n1_ := q0 (Kd.R_lower (Kd.R_newB (Kd.R_new' ho18 (Kd.R_lt (qr HO_3.out))) (g := gb110) (o := .cells #[.int .i64 ((rd_TTie l0_1 x10_1).f0), .int .i64 ((rd_TTie l0_1 x10_1).f1)] 44 (0, 0)) (qk BK110.out)) (below_size (qb HB.out)))
   have n2_ := q0 (kb BK103.out hb)
   have n3_ := q0 (kb BK110.out hb)
   have n4_ := q0 (below_step (qb HB.out) hb)
   clear HO_3
   clear BK103
   clear BK110
   clear HB
   have HO_3 := n0_
   have HO112 := n1_
   have BK103 := n2_
   have BK110 := n3_
   have HB := n4_
   clear n0_ n1_ n2_ n3_ n4_
   clear hb ho18
   obtain ⟨Ao19, co19, eo19⟩ := Kd.R_slice HO112.out
   (first | subst eo19 | (injection eo19 with f1_ f2_ f3_; have f4_ := f1_.symm; have f5_ := f3_.symm; clear f1_ f2_ f3_; subst f4_; subst f5_))
   refine hK.out _ _ ⟨(blk_cell BK103.out 0).trans rfl, (blk_cell BK103.out 1).trans rfl, (blk_cell BK110.out 0).trans rfl, (blk_cell BK110.out 1).trans rfl⟩ (fun hHeld => ?_)
   clear hK K
   refine nu 16 ?_
   refine one_ (i := 3) (N := some 17) (ba 10 255) rfl rfl (one_of HT_.out (by kernel_rfl)) (by decide) (fun K hK => ?_)
   refine goes_ Try.func65 (by kernel_rfl) rfl #[.agg #[.int .i64 a0_0, .slice (some ad109) l0_1.length c0_1], .slice Ao19 y106.length co19] (by rfl) rfl rfl qm ?_
   with_reducible refine (impl_Net_less.calls k1 a0_0 _ _ l0_1 _ _ y106 t101 t107 _ ?side1 ?side2 ?side3 ?side4 A9.out).mono ?_
   (case side1 => exact qc (Kd.C_below HR0_1.out HB.out))
   (case side2 => exact HC0_1.out)
   (case side3 => exact qc (Kd.R_reads' HO112.out).2.2)
   (case side4 => exact (Kd.R_reads' HO112.out).2.1)
   rintro e w20 ⟨v113, rfl, ho0, hb⟩
   refine ⟨_, rfl, ?_⟩
   have n0_ := q0 (Kd.R_elder' (qr HO_3.out) (Kd.R_base ho0) hb)
   have n1_ := q0 (Kd.R_elder' (qr HO112.out) (Kd.R_base ho0) hb)
   have n2_ := q0 (Kd.R_lower (Kd.R_newB (Kd.R_new' (Kd.R_new' ho0 (Kd.R_lt (qr HO_3.out))) (Kd.R_lt (qr HO112.out))) (g := gb110) (o := .cells #[.int .i64 ((rd_TTie l0_1 x10_1).f0), .int .i64 ((rd_TTie l0_1 x10_1).f1)] 44 (0, 0)) (qk BK110.out)) (below_size (qb HB.out)))
   have n3_ := q0 (kb BK103.out hb)
   have n4_ := q0 (kb BK110.out hb)
   have n5_ := q0 (below_step (qb HB.out) hb)
   clear HO_3
   clear HO112
   clear BK103
   clear BK110
   clear HB
   have HO_3 := n0_
   have HO112 := n1_
   have HO114 := n2_
   have BK103 := n3_
   have BK110 := n4_
   have HB := n5_
   clear n0_ n1_ n2_ n3_ n4_ n5_
   (try clear hb)
   (try clear hb2)
   (try clear hk)
   (try clear hi)
   (try clear ho0)
   obtain ⟨Ao21, co21, eo21⟩ := Kd.R_slice HO114.out
   (first | subst eo21 | (injection eo21 with f1_ f2_ f3_; have f4_ := f1_.symm; have f5_ := f3_.symm; clear f1_ f2_ f3_; subst f4_; subst f5_))
   refine hK.out _ _ ⟨(blk_cell BK103.out 0).trans rfl, (blk_cell BK103.out 1).trans rfl, (blk_cell BK110.out 0).trans rfl, (blk_cell BK110.out 1).trans rfl⟩ (fun hHeld => ?_)
   clear hK K
   refine nu 17 ?_
   refine one_ (i := 8) (N := some 22) (ba 10 511) rfl rfl (one_of HT_.out (by kernel_rfl)) (by decide) (fun K hK => ?_)
   refine goes_ Try.func86 (by kernel_rfl) rfl #[.agg #[.int .i64 t101, .slice Ao21 t107.length co21], .int .i64 ((rd_TTie l0_1 x10_1).f0), .int .i64 ((rd_TTie l0_1 x10_1).f1)] (by rfl) rfl rfl qm ?_
   with_reducible refine (impl_Net_joined.calls k1 t101 _ _ t107 ((rd_TTie l0_1 x10_1).f0) ((rd_TTie l0_1 x10_1).f1) true _ ?side1 ?side2 A10.out).mono ?_
   (case side1 => exact qc (Kd.R_reads' HO114.out).2.2)
   (case side2 => exact (Kd.R_reads' HO114.out).2.1)
   rintro e w22 ⟨rfl, hb⟩
   refine ⟨_, rfl, ?_⟩
   have n0_ := q0 (Kd.R_below (qr HO_3.out) hb)
   have n1_ := q0 (Kd.R_below (qr HO112.out) hb)
   have n2_ := q0 (Kd.R_below (qr HO114.out) hb)
   have n3_ := q0 (kb BK103.out hb)
   have n4_ := q0 (kb BK110.out hb)
   have n5_ := q0 (below_step (qb HB.out) hb)
   clear HO_3
   clear HO112
   clear HO114
   clear BK103
   clear BK110
   clear HB
   have HO_3 := n0_
   have HO112 := n1_
   have HO114 := n2_
   have BK103 := n3_
   have BK110 := n4_
   have HB := n5_
   clear n0_ n1_ n2_ n3_ n4_ n5_
   (try clear hb)
   (try clear hb2)
   (try clear hk)
   (try clear hi)
   refine hK.out _ _ ⟨(blk_cell BK103.out 0).trans rfl, (blk_cell BK103.out 1).trans rfl, (blk_cell BK110.out 0).trans rfl, (blk_cell BK110.out 1).trans rfl⟩ (fun hHeld => ?_)
   clear hK K
   refine nu 22 ?_
   refine pu 9 (some 23) (ba 10 1023) HT_.out ?_
   refine done_ (done_of HT_.out (by kernel_rfl)) ?_
   try go_wp2
   go_roundg k1
   case measure => have := HK1.out; omega
   case rel => exact ⟨(x3_1), (wrap64 (x10_1 + 1)), qs, H', ⟨by have := HK1.out; omega⟩, ⟨by (with_reducible repeat (first | apply Kd.R_alloc | apply Kd.R_drewN | apply Kd.R_drew)); exact Kd.R_mono HO_3.out (fun _ hk => trivial)⟩, ⟨qk BK103.out⟩, ⟨qb HB.out⟩⟩
 replace c11 := Bool.eq_false_iff.mpr c11
 subst c11
 have H1 : (if x3_1.length < 8796093022208 then (impl_Net_bridges.l0 k1 (x3_1 ++ [(⟨(rd_TTie l0_1 x10_1).f0, (rd_TTie l0_1 x10_1).f1⟩ : STie)]) l0_1 (l0_1.length : Int) (wrap64 (x10_1 + 1)) a0_0 l0_1) else (none)) = some r := by rw [if_neg (show ¬ (false = true) by decide)] at H; exact H
 clear H
 have H := H1
 clear H1
 by_cases c23 : x3_1.length < 8796093022208
 rotate_left
 · rw [if_neg c23] at H
   exact absurd H (by simp)
 rw [if_pos c23] at H
 have LMc23 := Aside0.mk c23
 clear c23
 obtain ⟨y115, hy115⟩ : ∃ y_ : List (STie), y_ = (x3_1 ++ [(⟨(rd_TTie l0_1 x10_1).f0, (rd_TTie l0_1 x10_1).f1⟩ : STie)]) := ⟨_, rfl⟩
 replace H : (impl_Net_bridges.l0 k1 y115 l0_1 (l0_1.length : Int) (wrap64 (x10_1 + 1)) a0_0 l0_1) = some r := by first | (rw [hy115]; with_reducible exact H) | (have H2_ := (Option.bind_some _ _).symm.trans H; rw [hy115]; with_reducible exact H2_) | (have H2_ := (Option.bind_some _ _).symm.trans H; with_reducible exact H2_) | with_reducible exact H | (rw [hy115]; exact H) | exact H
 have Ny115 := Aside0.mk hy115
 clear hy115
 have H' := Aside0.mk H
 clear H
 have p109 : 0 ≤ (x10_1 : Int) := of_decide_eq_true qa
 have q109 : x10_1 < (l0_1.length : Int) := of_decide_eq_true qa
 obtain ⟨ad109, e109, hx109_0, hx109_1⟩ := at_TTie HR0_1.out x10_1 p109 q109
 cases e109
 replace hx109_0 := (HB.out.cell (World.block_lt_of_cell? w _ hx109_0)).trans hx109_0
 replace hx109_1 := (HB.out.cell (World.block_lt_of_cell? w _ hx109_1)).trans hx109_1
 replace p109 := eq_true p109
 replace q109 := eq_true q109
 try go_wp2_with (first | ((with_reducible refine gate_dst (N := 5) rfl ?_); refine be 5 #[.int .i64 0, .int .i64 0] 44 ?_; intro gb110 hg w24 hbox hb; have n0_ := q0 (Kd.R_below (Kd.R_elderB (qr HO_3.out) gb110 (Nat.le_of_eq hg.symm)) hb); have n1_ := q0 (kb BK103.out hb); have n2_ := q0 (below_step (qb HB.out) hb); have n3_ := q0 (hbox); have n4_ := q0 ((bs HB.out hg : w.heap.size ≤ gb110)); have n5_ := q0 ((bs HB.out hg : w.heap.size ≤ gb110)); have n6_ := q0 ((bl BK103.out hg : gb103 ≠ gb110)); have n7_ := q0 ((bg BK103.out hg : gb110 ≠ gb103)); clear HO_3 BK103 HB; have HO_3 := n0_; have BK103 := n1_; have HB := n2_; have BK110 := n3_; have GW110 := n4_; have GE110 := n5_; have NB103_110 := n6_; have NB110_103 := n7_; clear n0_ n1_ n2_ n3_ n4_ n5_ n6_ n7_ hb hbox hg; have hnb25 := NB110_103.out; have hnc25 := NB103_110.out; have hcz26_0 : w24.cell? ⟨gb110, 0, none⟩ = some (.int .i64 0) := (blk_cell BK110.out 0).trans rfl; have hcz26_1 : w24.cell? ⟨gb110, 1, none⟩ = some (.int .i64 0) := (blk_cell BK110.out 1).trans rfl; have hfz26_0 := blk_frozen BK110.out 0; have hfz26_1 := blk_frozen BK110.out 1))
 have n0_ : Aside0 (Kd.R kTie 44 ((w24.setCell ⟨gb110, 0, none⟩ (.int .i64 ((rd_TTie l0_1 x10_1).f0))).setCell ⟨gb110, 1, none⟩ (.int .i64 ((rd_TTie l0_1 x10_1).f1))) w.heap.size (fun k_ => k_ ≠ gb110) u3 x3_1) := ⟨by (with_reducible repeat (first | apply Kd.R_alloc | apply Kd.R_drewN | apply Kd.R_drew)); exact Kd.R_mono (Kd.R_far (p := ⟨gb110, 1, none⟩) (Kd.R_far (p := ⟨gb110, 0, none⟩) (Kd.R_mono HO_3.out (fun k_ hk => (⟨hk, hk.2⟩ : _ ∧ k_ ≠ gb110))) (fun _ hk => hk.2) (.int .i64 ((rd_TTie l0_1 x10_1).f0))) (fun _ hk => hk.2) (.int .i64 ((rd_TTie l0_1 x10_1).f1))) (fun _ hk => hk.1.2)⟩
 have n1_ : Aside0 (((w24.setCell ⟨gb110, 0, none⟩ (.int .i64 ((rd_TTie l0_1 x10_1).f0))).setCell ⟨gb110, 1, none⟩ (.int .i64 ((rd_TTie l0_1 x10_1).f1))).heap[gb103]? = some (.cells #[.int .i64 a0_0, .slice (some ad109) l0_1.length c0_1] 30 (0, 0))) := ⟨qf BK103.out⟩
 have n2_ : Aside0 (((w24.setCell ⟨gb110, 0, none⟩ (.int .i64 ((rd_TTie l0_1 x10_1).f0))).setCell ⟨gb110, 1, none⟩ (.int .i64 ((rd_TTie l0_1 x10_1).f1))).heap[gb110]? = some (.cells #[.int .i64 ((rd_TTie l0_1 x10_1).f0), .int .i64 ((rd_TTie l0_1 x10_1).f1)] 44 (0, 0))) := ⟨by (with_reducible repeat (first | refine blk_drewN ?_ _ | refine blk_drew ?_ | refine blk_alloc ?_ _)); refine blk_put (cs := #[.int .i64 ((rd_TTie l0_1 x10_1).f0), .int .i64 0]) ?_ 1 _ rfl; (with_reducible repeat (first | refine blk_drewN ?_ _ | refine blk_drew ?_ | refine blk_alloc ?_ _)); refine blk_put (cs := #[.int .i64 0, .int .i64 0]) ?_ 0 _ rfl; (with_reducible repeat (first | refine blk_drewN ?_ _ | refine blk_drew ?_ | refine blk_alloc ?_ _)); exact BK110.out⟩
 have n3_ : Aside0 (Below w.heap.size w ((w24.setCell ⟨gb110, 0, none⟩ (.int .i64 ((rd_TTie l0_1 x10_1).f0))).setCell ⟨gb110, 1, none⟩ (.int .i64 ((rd_TTie l0_1 x10_1).f1)))) := ⟨qb HB.out⟩
 (try clear HO_3)
 (try clear BK103)
 (try clear BK110)
 (try clear HB)
 generalize ((w24.setCell ⟨gb110, 0, none⟩ (.int .i64 ((rd_TTie l0_1 x10_1).f0))).setCell ⟨gb110, 1, none⟩ (.int .i64 ((rd_TTie l0_1 x10_1).f1))) = w27 at n0_ n1_ n2_ n3_ ⊢
 have HO_3 := n0_
 have BK103 := n1_
 have BK110 := n2_
 have HB := n3_
 clear n0_ n1_ n2_ n3_
 have n0_ := q0 (Kd.R_drew HO_3.out)
 have n1_ := q0 (blk_drew BK103.out)
 have n2_ := q0 (blk_drew BK110.out)
 have n3_ := q0 (below_drew1 HB.out)
 clear HO_3
 clear BK103
 clear BK110
 clear HB
 have HO_3 := n0_
 have BK103 := n1_
 have BK110 := n2_
 have HB := n3_
 clear n0_ n1_ n2_ n3_
 refine start_ (n := 10) (S := fun w' => w'.cell? ⟨gb103, 0, none⟩ = some (.int .i64 a0_0) ∧ w'.cell? ⟨gb103, 1, none⟩ = some (.slice (some ad109) l0_1.length c0_1) ∧ w'.cell? ⟨gb110, 0, none⟩ = some (.int .i64 ((rd_TTie l0_1 x10_1).f0)) ∧ w'.cell? ⟨gb110, 1, none⟩ = some (.int .i64 ((rd_TTie l0_1 x10_1).f1))) (ds := []) (ba 10 0) (by kernel_rfl) rfl (by kernel_rfl) ⟨(blk_cell BK103.out 0).trans rfl, (blk_cell BK103.out 1).trans rfl, (blk_cell BK110.out 0).trans rfl, (blk_cell BK110.out 1).trans rfl⟩ (fun hHeld => ?_); refine with_tabW impl_Net_bridges.tab5 impl_Net_bridges.bits5 (fun HT_ HW_ => ?_)
 generalize w27.drew = w28 at HO_3 BK103 BK110 HB hHeld ⊢
 refine pu 4 (some 18) (ba 10 16) HT_.out ?_
 refine pu 6 (some 20) (ba 10 80) HT_.out ?_
 refine tu 0 (some 14) (ba 10 81) HT_.out HW_.out hHeld ?_
 refine tu 1 (some 15) (ba 10 83) HT_.out HW_.out hHeld ?_
 refine tu 5 (some 19) (ba 10 115) HT_.out HW_.out hHeld ?_
 refine tu 7 (some 21) (ba 10 243) HT_.out HW_.out hHeld ?_
 refine one_ (i := 2) (N := some 16) (ba 10 247) rfl rfl (one_of HT_.out (by kernel_rfl)) (by decide) (fun K hK => ?_)
 refine Kd.R_lit_step kTie _ 44 ?hg (N := 16) ?hd (xs := ([(⟨(rd_TTie l0_1 x10_1).f0, (rd_TTie l0_1 x10_1).f1⟩ : STie)] : List (STie))) (inner := [.int .i64 ((rd_TTie l0_1 x10_1).f0), .int .i64 ((rd_TTie l0_1 x10_1).f1)]) (ok := fun _ => True) (okp := fun _ => True) ?hr ?hp (fun _ hk => hk) trivial (Below.refl _ _) (Nat.le_refl _) (by simp) ?_; (case hd => rfl); (case hg => rfl); (case hr => first | (go_simp; done) | (go_simp; rfl)); (case hp => exact (Reps.c2 (show Kd.M kTie _ _ _ (⟨(rd_TTie l0_1 x10_1).f0, (rd_TTie l0_1 x10_1).f1⟩ : STie) [.int .i64 ((rd_TTie l0_1 x10_1).f0), .int .i64 ((rd_TTie l0_1 x10_1).f1)] from (kTie_mkM _ _ _ (⟨(rd_TTie l0_1 x10_1).f0, (rd_TTie l0_1 x10_1).f1⟩ : STie) )) (Reps.none _ _)))
 intro v111 w29 ho30 hb hg_ hnew_
 clear hg_ hnew_
 (first | rw [← Ny106.out] at ho30 | (simp only [Int.reduceToNat] at ho30; rw [← Ny106.out] at ho30))
 have n0_ := q0 (Kd.R_elder' (qr HO_3.out) (Kd.R_base ho30) hb)
 have n1_ := q0 (Kd.R_lower (Kd.R_newB (Kd.R_new' ho30 (Kd.R_lt (qr HO_3.out))) (g := gb110) (o := .cells #[.int .i64 ((rd_TTie l0_1 x10_1).f0), .int .i64 ((rd_TTie l0_1 x10_1).f1)] 44 (0, 0)) (qk BK110.out)) (below_size (qb HB.out)))
 have n2_ := q0 (kb BK103.out hb)
 have n3_ := q0 (kb BK110.out hb)
 have n4_ := q0 (below_step (qb HB.out) hb)
 clear HO_3
 clear BK103
 clear BK110
 clear HB
 have HO_3 := n0_
 have HO112 := n1_
 have BK103 := n2_
 have BK110 := n3_
 have HB := n4_
 clear n0_ n1_ n2_ n3_ n4_
 clear hb ho30
 obtain ⟨Ao31, co31, eo31⟩ := Kd.R_slice HO112.out
 (first | subst eo31 | (injection eo31 with f1_ f2_ f3_; have f4_ := f1_.symm; have f5_ := f3_.symm; clear f1_ f2_ f3_; subst f4_; subst f5_))
 refine hK.out _ _ ⟨(blk_cell BK103.out 0).trans rfl, (blk_cell BK103.out 1).trans rfl, (blk_cell BK110.out 0).trans rfl, (blk_cell BK110.out 1).trans rfl⟩ (fun hHeld => ?_)
 clear hK K
 refine nu 16 ?_
 refine one_ (i := 3) (N := some 17) (ba 10 255) rfl rfl (one_of HT_.out (by kernel_rfl)) (by decide) (fun K hK => ?_)
 refine goes_ Try.func65 (by kernel_rfl) rfl #[.agg #[.int .i64 a0_0, .slice (some ad109) l0_1.length c0_1], .slice Ao31 y106.length co31] (by rfl) rfl rfl qm ?_
 with_reducible refine (impl_Net_less.calls k1 a0_0 _ _ l0_1 _ _ y106 t101 t107 _ ?side1 ?side2 ?side3 ?side4 A9.out).mono ?_
 (case side1 => exact qc (Kd.C_below HR0_1.out HB.out))
 (case side2 => exact HC0_1.out)
 (case side3 => exact qc (Kd.R_reads' HO112.out).2.2)
 (case side4 => exact (Kd.R_reads' HO112.out).2.1)
 rintro e w32 ⟨v113, rfl, ho0, hb⟩
 refine ⟨_, rfl, ?_⟩
 have n0_ := q0 (Kd.R_elder' (qr HO_3.out) (Kd.R_base ho0) hb)
 have n1_ := q0 (Kd.R_elder' (qr HO112.out) (Kd.R_base ho0) hb)
 have n2_ := q0 (Kd.R_lower (Kd.R_newB (Kd.R_new' (Kd.R_new' ho0 (Kd.R_lt (qr HO_3.out))) (Kd.R_lt (qr HO112.out))) (g := gb110) (o := .cells #[.int .i64 ((rd_TTie l0_1 x10_1).f0), .int .i64 ((rd_TTie l0_1 x10_1).f1)] 44 (0, 0)) (qk BK110.out)) (below_size (qb HB.out)))
 have n3_ := q0 (kb BK103.out hb)
 have n4_ := q0 (kb BK110.out hb)
 have n5_ := q0 (below_step (qb HB.out) hb)
 clear HO_3
 clear HO112
 clear BK103
 clear BK110
 clear HB
 have HO_3 := n0_
 have HO112 := n1_
 have HO114 := n2_
 have BK103 := n3_
 have BK110 := n4_
 have HB := n5_
 clear n0_ n1_ n2_ n3_ n4_ n5_
 (try clear hb)
 (try clear hb2)
 (try clear hk)
 (try clear hi)
 (try clear ho0)
 obtain ⟨Ao33, co33, eo33⟩ := Kd.R_slice HO114.out
 (first | subst eo33 | (injection eo33 with f1_ f2_ f3_; have f4_ := f1_.symm; have f5_ := f3_.symm; clear f1_ f2_ f3_; subst f4_; subst f5_))
 refine hK.out _ _ ⟨(blk_cell BK103.out 0).trans rfl, (blk_cell BK103.out 1).trans rfl, (blk_cell BK110.out 0).trans rfl, (blk_cell BK110.out 1).trans rfl⟩ (fun hHeld => ?_)
 clear hK K
 refine nu 17 ?_
 refine one_ (i := 8) (N := some 22) (ba 10 511) rfl rfl (one_of HT_.out (by kernel_rfl)) (by decide) (fun K hK => ?_)
 refine goes_ Try.func86 (by kernel_rfl) rfl #[.agg #[.int .i64 t101, .slice Ao33 t107.length co33], .int .i64 ((rd_TTie l0_1 x10_1).f0), .int .i64 ((rd_TTie l0_1 x10_1).f1)] (by rfl) rfl rfl qm ?_
 with_reducible refine (impl_Net_joined.calls k1 t101 _ _ t107 ((rd_TTie l0_1 x10_1).f0) ((rd_TTie l0_1 x10_1).f1) false _ ?side1 ?side2 A10.out).mono ?_
 (case side1 => exact qc (Kd.R_reads' HO114.out).2.2)
 (case side2 => exact (Kd.R_reads' HO114.out).2.1)
 rintro e w34 ⟨rfl, hb⟩
 refine ⟨_, rfl, ?_⟩
 have n0_ := q0 (Kd.R_below (qr HO_3.out) hb)
 have n1_ := q0 (Kd.R_below (qr HO112.out) hb)
 have n2_ := q0 (Kd.R_below (qr HO114.out) hb)
 have n3_ := q0 (kb BK103.out hb)
 have n4_ := q0 (kb BK110.out hb)
 have n5_ := q0 (below_step (qb HB.out) hb)
 clear HO_3
 clear HO112
 clear HO114
 clear BK103
 clear BK110
 clear HB
 have HO_3 := n0_
 have HO112 := n1_
 have HO114 := n2_
 have BK103 := n3_
 have BK110 := n4_
 have HB := n5_
 clear n0_ n1_ n2_ n3_ n4_ n5_
 (try clear hb)
 (try clear hb2)
 (try clear hk)
 (try clear hi)
 refine hK.out _ _ ⟨(blk_cell BK103.out 0).trans rfl, (blk_cell BK103.out 1).trans rfl, (blk_cell BK110.out 0).trans rfl, (blk_cell BK110.out 1).trans rfl⟩ (fun hHeld => ?_)
 clear hK K
 refine nu 22 ?_
 refine pu 9 (some 23) (ba 10 1023) HT_.out ?_
 refine done_ (done_of HT_.out (by kernel_rfl)) ?_
 have hcz35_0 : w34.cell? ⟨gb110, 0, none⟩ = some (.int .i64 ((rd_TTie l0_1 x10_1).f0)) := (blk_cell BK110.out 0).trans rfl
 have hcz35_1 : w34.cell? ⟨gb110, 1, none⟩ = some (.int .i64 ((rd_TTie l0_1 x10_1).f1)) := (blk_cell BK110.out 1).trans rfl
 have hfz35_0 := blk_frozen BK110.out 0
 have hfz35_1 := blk_frozen BK110.out 1
 try go_wp2_with (first | ((with_reducible refine gate_builtin (b := .append) (xs := #[.tmp 24, .tmp 26]) rfl ?_); at_builtin; refine Kd.R_append kTie (w0 := w) w.heap.size rfl (.tmp 24) (.tmp 26) 28 44 (.agg #[(.int .i64 0), (.int .i64 0)]) 16 rfl Try.underlying28 info44 rfl (by decide) (by omega) u3 x3_1 (⟨(rd_TTie l0_1 x10_1).f0, (rd_TTie l0_1 x10_1).f1⟩ : STie) [.int .i64 ((rd_TTie l0_1 x10_1).f0), .int .i64 ((rd_TTie l0_1 x10_1).f1)] (fun k_ => some k_ ≠ (.slice Ao31 y106.length co31 : Value).ownBlock ∧ some k_ ≠ (.slice Ao33 t107.length co33 : Value).ownBlock ∧ k_ ≠ gb110) (fun _ => False) rfl rfl ?aP (fun _ hk => hk.elim) ?aF ?aO ?aB ?aS ?aL ?_; (case aP => exact kTie_mkM _ _ _ (⟨(rd_TTie l0_1 x10_1).f0, (rd_TTie l0_1 x10_1).f1⟩ : STie)); (case aB => exact (qb HB.out)); (case aF => exact (fun k_ hk => ⟨Kd.fresh' (Kd.R_lt (qr HO112.out)) k_ hk, Kd.fresh' (Kd.R_lt (qr HO114.out)) k_ hk, Kd.freshB (g := gb110) (o := .cells #[.int .i64 ((rd_TTie l0_1 x10_1).f0), .int .i64 ((rd_TTie l0_1 x10_1).f1)] 44 (0, 0)) (qk BK110.out) k_ hk⟩)); (case aO => exact (by (with_reducible repeat (first | apply Kd.R_alloc | apply Kd.R_drewN | apply Kd.R_drew)); exact Kd.R_mono HO_3.out (fun _ hk => ⟨hk.1.2, ⟨hk.2, hk.1.1⟩⟩))); (case aS => exact (below_size (qb HB.out))); (case aL => have := LMc23.out; omega); intro v116 w36 ho hb hg hat; rw [← Ny115.out] at ho; have n0_ := q0 (blk_grown (g := gb103) (o := .cells #[.int .i64 a0_0, .slice (some ad109) l0_1.length c0_1] 30 (0, 0)) (qk BK103.out) hg (Kd.R_ne HO_3.out BK103.out (by decide))); have n1_ := q0 (blk_grown (g := gb110) (o := .cells #[.int .i64 ((rd_TTie l0_1 x10_1).f0), .int .i64 ((rd_TTie l0_1 x10_1).f1)] 44 (0, 0)) (qk BK110.out) hg (Kd.R_away HO_3.out (fun _ hk => hk.1.1))); have n2_ := q0 (Kd.R_after (ok := (fun k_ => some k_ ≠ (.slice Ao33 t107.length co33 : Value).ownBlock ∧ k_ ≠ gb110)) (by (with_reducible repeat (first | apply Kd.R_alloc | apply Kd.R_drewN | apply Kd.R_drew)); exact Kd.R_mono HO112.out (fun _ hk => ⟨⟨hk.2, hk.1.2⟩, hk.1.1.2⟩)) hg hat); have n3_ := q0 (Kd.R_after (ok := (fun k_ => some k_ ≠ (.slice Ao31 y106.length co31 : Value).ownBlock ∧ k_ ≠ gb110)) (by (with_reducible repeat (first | apply Kd.R_alloc | apply Kd.R_drewN | apply Kd.R_drew)); exact Kd.R_mono HO114.out (fun _ hk => ⟨⟨hk.1.2, hk.2⟩, hk.1.1.2⟩)) hg hat); have n4_ := q0 (hb); have n5_ := q0 (ho); clear BK103 BK110 HO112 HO114 HB HO_3; have BK103 := n0_; have BK110 := n1_; have HO112 := n2_; have HO114 := n3_; have HB := n4_; have HO117 := n5_; clear n0_ n1_ n2_ n3_ n4_ n5_ ho hb hg hat))
 go_roundg k1
 case measure => have := HK1.out; omega
 case rel => exact ⟨(y115), (wrap64 (x10_1 + 1)), qs, H', ⟨by have := HK1.out; omega⟩, ⟨by (with_reducible repeat (first | apply Kd.R_alloc | apply Kd.R_drewN | apply Kd.R_drew)); exact Kd.R_mono HO117.out (fun _ hk => trivial)⟩, ⟨qk BK103.out⟩, ⟨qb HB.out⟩⟩

set_option maxHeartbeats 8000000 in
set_option maxRecDepth 100000 in
theorem impl_BridgeIs.calls (k : Nat) (a0_0 : Int) (A0_1 : Option Addr) (c0_1 : Nat) (l0_1 : List (STie)) (a1 : Int) (a2 : Int) (r : Bool) (w : World) (hr0_1 : Kd.C kTie w A0_1 l0_1.length l0_1) (hc0_1 : l0_1.length ≤ c0_1) (h : impl_BridgeIs.f k a0_0 l0_1 a1 a2 = some r) :
    Calls Try.prog 44 #[.agg #[.int .i64 a0_0, .slice A0_1 l0_1.length c0_1], .int .i64 a1, .int .i64 a2] w fun e w' => e = .returned (.bool r) ∧ Below w.heap.size w w' := by
 have hu30 := Try.underlying30
 have HR0_1 := Aside0.mk hr0_1
 have HC0_1 := Aside0.mk hc0_1
 clear hr0_1 hc0_1
 have HB := q0 (Below.refl w.heap.size w)
 have H : ((impl_NetHas.f k a0_0 l0_1 a1 a2).bind fun t100 => (if t100 = true then ((impl_Net_bridges.f k a0_0 l0_1).bind fun t101 => ((impl_tie.f a1 a2).bind fun bt102 => ((slices_Contains_Tie.f k t101 bt102.1 bt102.2).bind fun t103 => (some t103)))) else (some false))) = some r := h
 clear h
 replace H := Option.bind_eq_some_iff.mp H
 obtain ⟨t100, A40, H⟩ := H
 replace H : (if t100 = true then ((impl_Net_bridges.f k a0_0 l0_1).bind fun t101 => ((impl_tie.f a1 a2).bind fun bt102 => ((slices_Contains_Tie.f k t101 bt102.1 bt102.2).bind fun t103 => (some t103)))) else (some false)) = some r := H
 have A4 := Aside0.mk A40
 clear A40
 by_cases c5 : t100 = true
 rotate_left
 · replace c5 := Bool.eq_false_iff.mpr c5
   subst c5
   have H1 : (some false) = some r := by rw [if_neg (show ¬ (false = true) by decide)] at H; exact H
   clear H
   have H := H1
   clear H1
   obtain rfl := Option.some.inj H
   go_enter Try.func44, Try.ntmps44
   go_wp2_with (first | ((with_reducible refine gate_dst (N := 3) rfl ?_); refine be 3 #[.int .i64 a0_0, .slice A0_1 l0_1.length c0_1] 30 ?_; intro gb105 hg w17 hbox hb; have n0_ := q0 (below_step (qb HB.out) hb); have n1_ := q0 (hbox); have n2_ := q0 ((bs HB.out hg : w.heap.size ≤ gb105)); have n3_ := q0 ((bs HB.out hg : w.heap.size ≤ gb105)); clear HB; have HB := n0_; have BK105 := n1_; have GW105 := n2_; have GE105 := n3_; clear n0_ n1_ n2_ n3_ hb hbox hg; have hcz18_0 : w17.cell? ⟨gb105, 0, none⟩ = some (.int .i64 a0_0) := (blk_cell BK105.out 0).trans rfl; have hcz18_1 : w17.cell? ⟨gb105, 1, none⟩ = some (.slice A0_1 l0_1.length c0_1) := (blk_cell BK105.out 1).trans rfl; have hfz18_0 := blk_frozen BK105.out 0; have hfz18_1 := blk_frozen BK105.out 1) | ((with_reducible refine gate_callee (f := 39) rfl ?_); refine goesL_ (some 10) rfl rfl Try.func39 (by kernel_rfl) rfl #[.agg #[.int .i64 a0_0, .slice A0_1 l0_1.length c0_1], .int .i64 a1, .int .i64 a2] rfl qm ?_; (with_reducible refine (impl_NetHas.calls k a0_0 _ _ l0_1 a1 a2 false _ ?side1 ?side2 A4.out).mono ?_); (case side1 => exact qc (Kd.C_below HR0_1.out HB.out)); (case side2 => exact HC0_1.out); rintro e w19 ⟨rfl, hb⟩; refine ⟨_, rfl, ?_⟩; have n0_ := q0 (kb BK105.out hb); have n1_ := q0 (below_step (qb HB.out) hb); clear BK105 HB; have BK105 := n0_; have HB := n1_; clear n0_ n1_; (try clear hb); (try clear hb2); (try clear hk); (try clear hi)))
   go_ret
   exact ⟨qe, qb HB.out⟩
 subst c5
 have H1 : ((impl_Net_bridges.f k a0_0 l0_1).bind fun t101 => ((impl_tie.f a1 a2).bind fun bt102 => ((slices_Contains_Tie.f k t101 bt102.1 bt102.2).bind fun t103 => (some t103)))) = some r := by rw [if_pos rfl] at H; exact H
 clear H
 have H := H1
 clear H1
 replace H := Option.bind_eq_some_iff.mp H
 obtain ⟨t101, A60, H⟩ := H
 replace H : ((impl_tie.f a1 a2).bind fun bt102 => ((slices_Contains_Tie.f k t101 bt102.1 bt102.2).bind fun t103 => (some t103))) = some r := H
 have A6 := Aside0.mk A60
 clear A60
 replace H := Option.bind_eq_some_iff.mp H
 obtain ⟨⟨t102, t104⟩, A70, H⟩ := H
 replace H : ((slices_Contains_Tie.f k t101 t102 t104).bind fun t103 => (some t103)) = some r := H
 have A7 := Aside0.mk A70
 clear A70
 replace H := Option.bind_eq_some_iff.mp H
 obtain ⟨t103, A80, H⟩ := H
 replace H : (some t103) = some r := H
 have A8 := Aside0.mk A80
 clear A80
 obtain rfl := Option.some.inj H
 go_enter Try.func44, Try.ntmps44
 go_wp2_with (first | ((with_reducible refine gate_dst (N := 3) rfl ?_); refine be 3 #[.int .i64 a0_0, .slice A0_1 l0_1.length c0_1] 30 ?_; intro gb105 hg w9 hbox hb; have n0_ := q0 (below_step (qb HB.out) hb); have n1_ := q0 (hbox); have n2_ := q0 ((bs HB.out hg : w.heap.size ≤ gb105)); have n3_ := q0 ((bs HB.out hg : w.heap.size ≤ gb105)); clear HB; have HB := n0_; have BK105 := n1_; have GW105 := n2_; have GE105 := n3_; clear n0_ n1_ n2_ n3_ hb hbox hg; have hcz10_0 : w9.cell? ⟨gb105, 0, none⟩ = some (.int .i64 a0_0) := (blk_cell BK105.out 0).trans rfl; have hcz10_1 : w9.cell? ⟨gb105, 1, none⟩ = some (.slice A0_1 l0_1.length c0_1) := (blk_cell BK105.out 1).trans rfl; have hfz10_0 := blk_frozen BK105.out 0; have hfz10_1 := blk_frozen BK105.out 1) | ((with_reducible refine gate_callee (f := 39) rfl ?_); refine goesL_ (some 10) rfl rfl Try.func39 (by kernel_rfl) rfl #[.agg #[.int .i64 a0_0, .slice A0_1 l0_1.length c0_1], .int .i64 a1, .int .i64 a2] rfl qm ?_; (with_reducible refine (impl_NetHas.calls k a0_0 _ _ l0_1 a1 a2 true _ ?side1 ?side2 A4.out).mono ?_); (case side1 => exact qc (Kd.C_below HR0_1.out HB.out)); (case side2 => exact HC0_1.out); rintro e w11 ⟨rfl, hb⟩; refine ⟨_, rfl, ?_⟩; have n0_ := q0 (kb BK105.out hb); have n1_ := q0 (below_step (qb HB.out) hb); clear BK105 HB; have BK105 := n0_; have HB := n1_; clear n0_ n1_; (try clear hb); (try clear hb2); (try clear hk); (try clear hi); have hcz12_0 : w11.cell? ⟨gb105, 0, none⟩ = some (.int .i64 a0_0) := (blk_cell BK105.out 0).trans rfl; have hcz12_1 : w11.cell? ⟨gb105, 1, none⟩ = some (.slice A0_1 l0_1.length c0_1) := (blk_cell BK105.out 1).trans rfl; have hfz12_0 := blk_frozen BK105.out 0; have hfz12_1 := blk_frozen BK105.out 1) | (go_at_call 71; (with_reducible refine (impl_Net_bridges.calls k a0_0 _ _ l0_1 t101 _ ?side1 ?side2 A6.out).mono ?_); (case side1 => exact qc (Kd.C_below HR0_1.out HB.out)); (case side2 => exact HC0_1.out); rintro e w13 ⟨v106, rfl, ho0, hb⟩; have n0_ := q0 (Kd.R_lower ho0 (below_size (qb HB.out))); have n1_ := q0 (kb BK105.out hb); have n2_ := q0 (below_step (qb HB.out) hb); clear BK105 HB; have HO107 := n0_; have BK105 := n1_; have HB := n2_; clear n0_ n1_ n2_; (try clear hb); (try clear hb2); (try clear hk); (try clear hi); (try clear ho0)) | (go_at_call 66; (with_reducible refine (impl_tie.calls a1 a2 t102 t104 _ A7.out).mono ?_); rintro e w14 ⟨rfl, hb⟩; have n0_ := q0 (Kd.R_below (qr HO107.out) hb); have n1_ := q0 (kb BK105.out hb); have n2_ := q0 (below_step (qb HB.out) hb); clear HO107 BK105 HB; have HO107 := n0_; have BK105 := n1_; have HB := n2_; clear n0_ n1_ n2_; (try clear hb); (try clear hb2); (try clear hk); (try clear hi); obtain ⟨Ao15, co15, eo15⟩ := Kd.R_slice HO107.out; subst eo15) | (go_at_call 70; (with_reducible refine (slices_Contains_Tie.calls k _ _ t101 t102 t104 t103 _ ?side1 ?side2 A8.out).mono ?_); (case side1 => exact qc (Kd.R_reads' HO107.out).2.2); (case side2 => exact (Kd.R_reads' HO107.out).2.1); rintro e w16 ⟨rfl, hb⟩; have n0_ := q0 (Kd.R_below (qr HO107.out) hb); have n1_ := q0 (kb BK105.out hb); have n2_ := q0 (below_step (qb HB.out) hb); clear HO107 BK105 HB; have HO107 := n0_; have BK105 := n1_; have HB := n2_; clear n0_ n1_ n2_; (try clear hb); (try clear hb2); (try clear hk); (try clear hi)))
 go_ret
 exact ⟨qe, qb HB.out⟩

set_option maxHeartbeats 8000000 in
set_option maxRecDepth 100000 in
theorem laws_FnExactBridgeIs.calls (k : Nat) (a0_0 : Int) (A0_1 : Option Addr) (c0_1 : Nat) (l0_1 : List (SLTie)) (a1 : Int) (a2 : Int) (r : Bool) (w : World) (hr0_1 : Kd.C kLTie w A0_1 l0_1.length l0_1) (hc0_1 : l0_1.length ≤ c0_1) (h : laws_FnExactBridgeIs.f k a0_0 l0_1 a1 a2 = some r) :
    Calls Try.prog 10 #[.agg #[.int .i64 a0_0, .slice A0_1 l0_1.length c0_1], .int .i64 a1, .int .i64 a2] w fun e w' => e = .returned (.bool r) ∧ Below w.heap.size w w' := by
 have hu24 := Try.underlying24
 have hu30 := Try.underlying30
 have HR0_1 := Aside0.mk hr0_1
 have HC0_1 := Aside0.mk hc0_1
 clear hr0_1 hc0_1
 have HB := q0 (Below.refl w.heap.size w)
 have H : ((laws_szNet.f a0_0 l0_1 1048576).bind fun t100 => (if t100 < 0 then (some true) else ((laws_toNet.f k a0_0 l0_1).bind fun bt101 => ((spec_BridgeIs.f k bt101.1 bt101.2 a1 a2).bind fun t102 => ((laws_toNet.f k a0_0 l0_1).bind fun bt103 => ((impl_BridgeIs.f k bt103.1 bt103.2 a1 a2).bind fun t104 => (if (t104 != t102) = true then (some false) else ((laws_toNet.f k a0_0 l0_1).bind fun bt105 => ((laws_eqNet.f k bt103.1 bt103.2 bt105.1 bt105.2).bind fun t106 => (if t106 = true then (some true) else (some false))))))))))) = some r := h
 clear h
 replace H := Option.bind_eq_some_iff.mp H
 obtain ⟨t100, A40, H⟩ := H
 replace H : (if t100 < 0 then (some true) else ((laws_toNet.f k a0_0 l0_1).bind fun bt101 => ((spec_BridgeIs.f k bt101.1 bt101.2 a1 a2).bind fun t102 => ((laws_toNet.f k a0_0 l0_1).bind fun bt103 => ((impl_BridgeIs.f k bt103.1 bt103.2 a1 a2).bind fun t104 => (if (t104 != t102) = true then (some false) else ((laws_toNet.f k a0_0 l0_1).bind fun bt105 => ((laws_eqNet.f k bt103.1 bt103.2 bt105.1 bt105.2).bind fun t106 => (if t106 = true then (some true) else (some false)))))))))) = some r := H
 have A4 := Aside0.mk A40
 clear A40
 by_cases c5 : t100 < 0
 · rw [if_pos c5] at H
   have c5b0 : decide (t100 < 0) = true := decide_eq_true c5
   clear c5
   obtain rfl := Option.some.inj H
   go_enter Try.func10, Try.ntmps10
   go_wp2_with (first | ((with_reducible refine gate_dst (N := 3) rfl ?_); refine be 3 #[.int .i64 a0_0, .slice A0_1 l0_1.length c0_1] 24 ?_; intro gb107 hg w6 hbox hb; have n0_ := q0 (below_step (qb HB.out) hb); have n1_ := q0 (hbox); have n2_ := q0 ((bs HB.out hg : w.heap.size ≤ gb107)); have n3_ := q0 ((bs HB.out hg : w.heap.size ≤ gb107)); clear HB; have HB := n0_; have BK107 := n1_; have GW107 := n2_; have GE107 := n3_; clear n0_ n1_ n2_ n3_ hb hbox hg; have hcz7_0 : w6.cell? ⟨gb107, 0, none⟩ = some (.int .i64 a0_0) := (blk_cell BK107.out 0).trans rfl; have hcz7_1 : w6.cell? ⟨gb107, 1, none⟩ = some (.slice A0_1 l0_1.length c0_1) := (blk_cell BK107.out 1).trans rfl; have hfz7_0 := blk_frozen BK107.out 0; have hfz7_1 := blk_frozen BK107.out 1) | ((with_reducible refine gate_callee (f := 13) rfl ?_); refine goesL_ (some 13) rfl rfl Try.func13 (by kernel_rfl) rfl #[.agg #[.int .i64 a0_0, .slice A0_1 l0_1.length c0_1], .int .i64 1048576] rfl qm ?_; (with_reducible refine (laws_szNet.calls a0_0 _ _ l0_1 1048576 t100 _ ?side1 ?side2 A4.out).mono ?_); (case side1 => exact qc (Kd.C_below HR0_1.out HB.out)); (case side2 => exact HC0_1.out); rintro e w8 ⟨rfl, hb⟩; refine ⟨_, rfl, ?_⟩; have n0_ := q0 (kb BK107.out hb); have n1_ := q0 (below_step (qb HB.out) hb); clear BK107 HB; have BK107 := n0_; have HB := n1_; clear n0_ n1_; (try clear hb); (try clear hb2); (try clear hk); (try clear hi)))
   go_ret
   exact ⟨qe, qb HB.out⟩
 rw [if_neg c5] at H
 have c5b0 : decide (t100 < 0) = false := decide_eq_false c5
 clear c5
 replace H := Option.bind_eq_some_iff.mp H
 obtain ⟨⟨t101, t108⟩, A90, H⟩ := H
 replace H : ((spec_BridgeIs.f k t101 t108 a1 a2).bind fun t102 => ((laws_toNet.f k a0_0 l0_1).bind fun bt103 => ((impl_BridgeIs.f k bt103.1 bt103.2 a1 a2).bind fun t104 => (if (t104 != t102) = true then (some false) else ((laws_toNet.f k a0_0 l0_1).bind fun bt105 => ((laws_eqNet.f k bt103.1 bt103.2 bt105.1 bt105.2).bind fun t106 => (if t106 = true then (some true) else (some false)))))))) = some r := H
 have A9 := Aside0.mk A90
 clear A90
 replace H := Option.bind_eq_some_iff.mp H
 obtain ⟨t102, A109, H⟩ := H
 replace H : ((laws_toNet.f k a0_0 l0_1).bind fun bt103 => ((impl_BridgeIs.f k bt103.1 bt103.2 a1 a2).bind fun t104 => (if (t104 != t102) = true then (some false) else ((laws_toNet.f k a0_0 l0_1).bind fun bt105 => ((laws_eqNet.f k bt103.1 bt103.2 bt105.1 bt105.2).bind fun t106 => (if t106 = true then (some true) else (some false))))))) = some r := H
 have A10 := Aside0.mk A109
 clear A109
 replace H := Option.bind_eq_some_iff.mp H
 obtain ⟨⟨t103, t110⟩, A111, H⟩ := H
 replace H : ((impl_BridgeIs.f k t103 t110 a1 a2).bind fun t104 => (if (t104 != t102) = true then (some false) else ((laws_toNet.f k a0_0 l0_1).bind fun bt105 => ((laws_eqNet.f k t103 t110 bt105.1 bt105.2).bind fun t106 => (if t106 = true then (some true) else (some false)))))) = some r := H
 have A11 := Aside0.mk A111
 clear A111
 replace H := Option.bind_eq_some_iff.mp H
 obtain ⟨t104, A112, H⟩ := H
 replace H : (if (t104 != t102) = true then (some false) else ((laws_toNet.f k a0_0 l0_1).bind fun bt105 => ((laws_eqNet.f k t103 t110 bt105.1 bt105.2).bind fun t106 => (if t106 = true then (some true) else (some false))))) = some r := H
 have A12 := Aside0.mk A112
 clear A112
 by_cases c13 : (t104 != t102) = true
 · rw [if_pos c13] at H
   have c13b0 : (t104 != t102) = true := c13
   (try (have c13b1 : decide (t104 = t102) = false := by simpa using c13))
   (try (have c13b2 : (t104 == t102) = false := by simpa using c13))
   (try (have c13b3 : ¬ (t104 = t102) := by simpa using c13))
   clear c13
   obtain rfl := Option.some.inj H
   go_enter Try.func10, Try.ntmps10
   go_wp2_with (first | ((with_reducible refine gate_dst (N := 3) rfl ?_); refine be 3 #[.int .i64 a0_0, .slice A0_1 l0_1.length c0_1] 24 ?_; intro gb107 hg w14 hbox hb; have n0_ := q0 (below_step (qb HB.out) hb); have n1_ := q0 (hbox); have n2_ := q0 ((bs HB.out hg : w.heap.size ≤ gb107)); have n3_ := q0 ((bs HB.out hg : w.heap.size ≤ gb107)); clear HB; have HB := n0_; have BK107 := n1_; have GW107 := n2_; have GE107 := n3_; clear n0_ n1_ n2_ n3_ hb hbox hg; have hcz15_0 : w14.cell? ⟨gb107, 0, none⟩ = some (.int .i64 a0_0) := (blk_cell BK107.out 0).trans rfl; have hcz15_1 : w14.cell? ⟨gb107, 1, none⟩ = some (.slice A0_1 l0_1.length c0_1) := (blk_cell BK107.out 1).trans rfl; have hfz15_0 := blk_frozen BK107.out 0; have hfz15_1 := blk_frozen BK107.out 1) | ((with_reducible refine gate_callee (f := 13) rfl ?_); refine goesL_ (some 13) rfl rfl Try.func13 (by kernel_rfl) rfl #[.agg #[.int .i64 a0_0, .slice A0_1 l0_1.length c0_1], .int .i64 1048576] rfl qm ?_; (with_reducible refine (laws_szNet.calls a0_0 _ _ l0_1 1048576 t100 _ ?side1 ?side2 A4.out).mono ?_); (case side1 => exact qc (Kd.C_below HR0_1.out HB.out)); (case side2 => exact HC0_1.out); rintro e w16 ⟨rfl, hb⟩; refine ⟨_, rfl, ?_⟩; have n0_ := q0 (kb BK107.out hb); have n1_ := q0 (below_step (qb HB.out) hb); clear BK107 HB; have BK107 := n0_; have HB := n1_; clear n0_ n1_; (try clear hb); (try clear hb2); (try clear hk); (try clear hi); have hcz17_0 : w16.cell? ⟨gb107, 0, none⟩ = some (.int .i64 a0_0) := (blk_cell BK107.out 0).trans rfl; have hcz17_1 : w16.cell? ⟨gb107, 1, none⟩ = some (.slice A0_1 l0_1.length c0_1) := (blk_cell BK107.out 1).trans rfl; have hfz17_0 := blk_frozen BK107.out 0; have hfz17_1 := blk_frozen BK107.out 1) | ((with_reducible refine gate_callee (f := 15) rfl ?_); refine goesL_ (some 17) rfl rfl Try.func15 (by kernel_rfl) rfl #[.agg #[.int .i64 a0_0, .slice A0_1 l0_1.length c0_1]] rfl qm ?_; (with_reducible refine (laws_toNet.calls k a0_0 _ _ l0_1 t101 t108 _ ?side1 ?side2 A9.out).mono ?_); (case side1 => exact qc (Kd.C_below HR0_1.out HB.out)); (case side2 => exact HC0_1.out); rintro e w18 ⟨v113, rfl, ho0, hb⟩; refine ⟨_, rfl, ?_⟩; have n0_ := q0 (Kd.R_lower ho0 (below_size (qb HB.out))); have n1_ := q0 (kb BK107.out hb); have n2_ := q0 (below_step (qb HB.out) hb); clear BK107 HB; have HO114 := n0_; have BK107 := n1_; have HB := n2_; clear n0_ n1_ n2_; (try clear hb); (try clear hb2); (try clear hk); (try clear hi); (try clear ho0); obtain ⟨Ao19, co19, eo19⟩ := Kd.R_slice HO114.out; subst eo19) | ((with_reducible refine gate_callee (f := 43) rfl ?_); refine goesL_ (some 20) rfl rfl Try.func43 (by kernel_rfl) rfl #[.agg #[.int .i64 t101, .slice Ao19 t108.length co19], .int .i64 a1, .int .i64 a2] rfl qm ?_; (with_reducible refine (spec_BridgeIs.calls k t101 _ _ t108 a1 a2 t102 _ ?side1 ?side2 A10.out).mono ?_); (case side1 => exact qc (Kd.R_reads' HO114.out).2.2); (case side2 => exact (Kd.R_reads' HO114.out).2.1); rintro e w20 ⟨rfl, hb⟩; refine ⟨_, rfl, ?_⟩; have n0_ := q0 (Kd.R_below (qr HO114.out) hb); have n1_ := q0 (kb BK107.out hb); have n2_ := q0 (below_step (qb HB.out) hb); clear HO114 BK107 HB; have HO114 := n0_; have BK107 := n1_; have HB := n2_; clear n0_ n1_ n2_; (try clear hb); (try clear hb2); (try clear hk); (try clear hi); have hcz21_0 : w20.cell? ⟨gb107, 0, none⟩ = some (.int .i64 a0_0) := (blk_cell BK107.out 0).trans rfl; have hcz21_1 : w20.cell? ⟨gb107, 1, none⟩ = some (.slice A0_1 l0_1.length c0_1) := (blk_cell BK107.out 1).trans rfl; have hfz21_0 := blk_frozen BK107.out 0; have hfz21_1 := blk_frozen BK107.out 1) | ((with_reducible refine gate_callee (f := 15) rfl ?_); refine goesL_ (some 22) rfl rfl Try.func15 (by kernel_rfl) rfl #[.agg #[.int .i64 a0_0, .slice A0_1 l0_1.length c0_1]] rfl qm ?_; (with_reducible refine (laws_toNet.calls k a0_0 _ _ l0_1 t103 t110 _ ?side1 ?side2 A11.out).mono ?_); (case side1 => exact qc (Kd.C_below HR0_1.out HB.out)); (case side2 => exact HC0_1.out); rintro e w22 ⟨v115, rfl, ho0, hb⟩; refine ⟨_, rfl, ?_⟩; have n0_ := q0 (Kd.R_elder' (qr HO114.out) (Kd.R_base ho0) hb); have n1_ := q0 (Kd.R_lower (Kd.R_new' ho0 (Kd.R_lt (qr HO114.out))) (below_size (qb HB.out))); have n2_ := q0 (kb BK107.out hb); have n3_ := q0 (below_step (qb HB.out) hb); clear HO114 BK107 HB; have HO114 := n0_; have HO116 := n1_; have BK107 := n2_; have HB := n3_; clear n0_ n1_ n2_ n3_; (try clear hb); (try clear hb2); (try clear hk); (try clear hi); (try clear ho0)) | ((with_reducible refine gate_dst (N := 9) rfl ?_); refine be 9 #[.int .i64 0, .slice none 0 0] 30 ?_; intro gb117 hg w23 hbox hb; have n0_ := q0 (Kd.R_below (qr HO114.out) hb); have n1_ := q0 (Kd.R_below (qr HO116.out) hb); have n2_ := q0 (kb BK107.out hb); have n3_ := q0 (below_step (qb HB.out) hb); have n4_ := q0 (hbox); have n5_ := q0 ((bs HB.out hg : w.heap.size ≤ gb117)); have n6_ := q0 ((bs HB.out hg : w.heap.size ≤ gb117)); have n7_ := q0 ((bl BK107.out hg : gb107 ≠ gb117)); have n8_ := q0 ((bg BK107.out hg : gb117 ≠ gb107)); clear HO114 HO116 BK107 HB; have HO114 := n0_; have HO116 := n1_; have BK107 := n2_; have HB := n3_; have BK117 := n4_; have GW117 := n5_; have GE117 := n6_; have NB107_117 := n7_; have NB117_107 := n8_; clear n0_ n1_ n2_ n3_ n4_ n5_ n6_ n7_ n8_ hb hbox hg; have hnb24 := NB117_107.out; have hnc24 := NB107_117.out; have hcz25_0 : w23.cell? ⟨gb117, 0, none⟩ = some (.int .i64 0) := (blk_cell BK117.out 0).trans rfl; have hcz25_1 : w23.cell? ⟨gb117, 1, none⟩ = some (.slice none 0 0) := (blk_cell BK117.out 1).trans rfl; have hfz25_0 := blk_frozen BK117.out 0; have hfz25_1 := blk_frozen BK117.out 1; obtain ⟨Ao26, co26, eo26⟩ := Kd.R_slice HO116.out; subst eo26) | ((with_reducible refine gate_callee (f := 44) rfl ?_); refine goesL_ (some 26) rfl rfl Try.func44 (by kernel_rfl) rfl #[.agg #[.int .i64 t103, .slice Ao26 t110.length co26], .int .i64 a1, .int .i64 a2] rfl qm ?_; (with_reducible refine (impl_BridgeIs.calls k t103 _ _ t110 a1 a2 t104 _ ?side1 ?side2 A12.out).mono ?_); (case side1 => refine (Kd.R_reads' (e := 44) (base := w.heap.size) (ok := fun k_ => (True ∧ some k_ ≠ (.slice Ao19 t108.length co19 : Value).ownBlock)) (n := t110.length) (c := co26) ?_).2.2; exact (by (with_reducible repeat (first | apply Kd.R_alloc | apply Kd.R_drewN | apply Kd.R_drew)); exact (Kd.R_mono (Kd.R_far (p := ⟨gb117, 1, none⟩) (Kd.R_far (p := ⟨gb117, 0, none⟩) (Kd.R_types HO116.out BK117.out (by decide)) (fun _ hk => hk.2) (.int .i64 t103)) (fun _ hk => hk.2) (.slice Ao26 t110.length co26)) (fun _ h_ => h_.1)))); (case side2 => exact (Kd.R_reads' HO116.out).2.1); rintro e w27 ⟨rfl, hb⟩; refine ⟨_, rfl, ?_⟩; have n0_ := q0 (Kd.R_below (by (with_reducible repeat (first | apply Kd.R_alloc | apply Kd.R_drewN | apply Kd.R_drew)); exact (Kd.R_mono (Kd.R_far (p := ⟨gb117, 1, none⟩) (Kd.R_far (p := ⟨gb117, 0, none⟩) (Kd.R_types HO114.out BK117.out (by decide)) (fun _ hk => hk.2) (.int .i64 t103)) (fun _ hk => hk.2) (.slice Ao26 t110.length co26)) (fun _ h_ => h_.1))) hb); have n1_ := q0 (Kd.R_below (by (with_reducible repeat (first | apply Kd.R_alloc | apply Kd.R_drewN | apply Kd.R_drew)); exact (Kd.R_mono (Kd.R_far (p := ⟨gb117, 1, none⟩) (Kd.R_far (p := ⟨gb117, 0, none⟩) (Kd.R_types HO116.out BK117.out (by decide)) (fun _ hk => hk.2) (.int .i64 t103)) (fun _ hk => hk.2) (.slice Ao26 t110.length co26)) (fun _ h_ => h_.1))) hb); have n2_ := q0 (blk_below (g := gb107) (o := .cells #[.int .i64 a0_0, .slice A0_1 l0_1.length c0_1] 24 (0, 0)) (qf BK107.out) hb); have n3_ := q0 (blk_below (g := gb117) (o := .cells #[.int .i64 t103, .slice Ao26 t110.length co26] 30 (0, 0)) (by (with_reducible repeat (first | refine blk_drewN ?_ _ | refine blk_drew ?_ | refine blk_alloc ?_ _)); refine blk_put (cs := #[.int .i64 t103, .slice none 0 0]) ?_ 1 _ rfl; (with_reducible repeat (first | refine blk_drewN ?_ _ | refine blk_drew ?_ | refine blk_alloc ?_ _)); refine blk_put (cs := #[.int .i64 0, .slice none 0 0]) ?_ 0 _ rfl; (with_reducible repeat (first | refine blk_drewN ?_ _ | refine blk_drew ?_ | refine blk_alloc ?_ _)); exact BK117.out) hb); have n4_ := q0 (below_step (qb HB.out) hb); clear HO114 HO116 BK107 BK117 HB; have HO114 := n0_; have HO116 := n1_; have BK107 := n2_; have BK117 := n3_; have HB := n4_; clear n0_ n1_ n2_ n3_ n4_; (try clear hb); (try clear hb2); (try clear hk); (try clear hi)))
   go_ret
   exact ⟨qe, qb HB.out⟩
 rw [if_neg c13] at H
 have c13b0 : (t104 != t102) = false := by simpa using c13
 (try (have c13b1 : decide (t104 = t102) = true := by simpa using c13))
 (try (have c13b2 : (t104 == t102) = true := by simpa using c13))
 clear c13
 replace H := Option.bind_eq_some_iff.mp H
 obtain ⟨⟨t105, t118⟩, A119, H⟩ := H
 replace H : ((laws_eqNet.f k t103 t110 t105 t118).bind fun t106 => (if t106 = true then (some true) else (some false))) = some r := H
 have A28 := Aside0.mk A119
 clear A119
 replace H := Option.bind_eq_some_iff.mp H
 obtain ⟨t106, A120, H⟩ := H
 replace H : (if t106 = true then (some true) else (some false)) = some r := H
 have A29 := Aside0.mk A120
 clear A120
 by_cases c30 : t106 = true
 · subst c30
   have H1 : (some true) = some r := by rw [if_pos rfl] at H; exact H
   clear H
   have H := H1
   clear H1
   obtain rfl := Option.some.inj H
   go_enter Try.func10, Try.ntmps10
   try go_wp2_with (first | ((with_reducible refine gate_dst (N := 3) rfl ?_); refine be 3 #[.int .i64 a0_0, .slice A0_1 l0_1.length c0_1] 24 ?_; intro gb107 hg w31 hbox hb; have n0_ := q0 (below_step (qb HB.out) hb); have n1_ := q0 (hbox); have n2_ := q0 ((bs HB.out hg : w.heap.size ≤ gb107)); have n3_ := q0 ((bs HB.out hg : w.heap.size ≤ gb107)); clear HB; have HB := n0_; have BK107 := n1_; have GW107 := n2_; have GE107 := n3_; clear n0_ n1_ n2_ n3_ hb hbox hg; have hcz32_0 : w31.cell? ⟨gb107, 0, none⟩ = some (.int .i64 a0_0) := (blk_cell BK107.out 0).trans rfl; have hcz32_1 : w31.cell? ⟨gb107, 1, none⟩ = some (.slice A0_1 l0_1.length c0_1) := (blk_cell BK107.out 1).trans rfl; have hfz32_0 := blk_frozen BK107.out 0; have hfz32_1 := blk_frozen BK107.out 1) | ((with_reducible refine gate_callee (f := 13) rfl ?_); refine goesL_ (some 13) rfl rfl Try.func13 (by kernel_rfl) rfl #[.agg #[.int .i64 a0_0, .slice A0_1 l0_1.length c0_1], .int .i64 1048576] rfl qm ?_; (with_reducible refine (laws_szNet.calls a0_0 _ _ l0_1 1048576 t100 _ ?side1 ?side2 A4.out).mono ?_); (case side1 => exact qc (Kd.C_below HR0_1.out HB.out)); (case side2 => exact HC0_1.out); rintro e w33 ⟨rfl, hb⟩; refine ⟨_, rfl, ?_⟩; have n0_ := q0 (kb BK107.out hb); have n1_ := q0 (below_step (qb HB.out) hb); clear BK107 HB; have BK107 := n0_; have HB := n1_; clear n0_ n1_; (try clear hb); (try clear hb2); (try clear hk); (try clear hi); have hcz34_0 : w33.cell? ⟨gb107, 0, none⟩ = some (.int .i64 a0_0) := (blk_cell BK107.out 0).trans rfl; have hcz34_1 : w33.cell? ⟨gb107, 1, none⟩ = some (.slice A0_1 l0_1.length c0_1) := (blk_cell BK107.out 1).trans rfl; have hfz34_0 := blk_frozen BK107.out 0; have hfz34_1 := blk_frozen BK107.out 1) | ((with_reducible refine gate_callee (f := 15) rfl ?_); refine goesL_ (some 17) rfl rfl Try.func15 (by kernel_rfl) rfl #[.agg #[.int .i64 a0_0, .slice A0_1 l0_1.length c0_1]] rfl qm ?_; (with_reducible refine (laws_toNet.calls k a0_0 _ _ l0_1 t101 t108 _ ?side1 ?side2 A9.out).mono ?_); (case side1 => exact qc (Kd.C_below HR0_1.out HB.out)); (case side2 => exact HC0_1.out); rintro e w35 ⟨v113, rfl, ho0, hb⟩; refine ⟨_, rfl, ?_⟩; have n0_ := q0 (Kd.R_lower ho0 (below_size (qb HB.out))); have n1_ := q0 (kb BK107.out hb); have n2_ := q0 (below_step (qb HB.out) hb); clear BK107 HB; have HO114 := n0_; have BK107 := n1_; have HB := n2_; clear n0_ n1_ n2_; (try clear hb); (try clear hb2); (try clear hk); (try clear hi); (try clear ho0); obtain ⟨Ao36, co36, eo36⟩ := Kd.R_slice HO114.out; subst eo36) | ((with_reducible refine gate_callee (f := 43) rfl ?_); refine goesL_ (some 20) rfl rfl Try.func43 (by kernel_rfl) rfl #[.agg #[.int .i64 t101, .slice Ao36 t108.length co36], .int .i64 a1, .int .i64 a2] rfl qm ?_; (with_reducible refine (spec_BridgeIs.calls k t101 _ _ t108 a1 a2 t102 _ ?side1 ?side2 A10.out).mono ?_); (case side1 => exact qc (Kd.R_reads' HO114.out).2.2); (case side2 => exact (Kd.R_reads' HO114.out).2.1); rintro e w37 ⟨rfl, hb⟩; refine ⟨_, rfl, ?_⟩; have n0_ := q0 (Kd.R_below (qr HO114.out) hb); have n1_ := q0 (kb BK107.out hb); have n2_ := q0 (below_step (qb HB.out) hb); clear HO114 BK107 HB; have HO114 := n0_; have BK107 := n1_; have HB := n2_; clear n0_ n1_ n2_; (try clear hb); (try clear hb2); (try clear hk); (try clear hi); have hcz38_0 : w37.cell? ⟨gb107, 0, none⟩ = some (.int .i64 a0_0) := (blk_cell BK107.out 0).trans rfl; have hcz38_1 : w37.cell? ⟨gb107, 1, none⟩ = some (.slice A0_1 l0_1.length c0_1) := (blk_cell BK107.out 1).trans rfl; have hfz38_0 := blk_frozen BK107.out 0; have hfz38_1 := blk_frozen BK107.out 1) | ((with_reducible refine gate_callee (f := 15) rfl ?_); refine goesL_ (some 22) rfl rfl Try.func15 (by kernel_rfl) rfl #[.agg #[.int .i64 a0_0, .slice A0_1 l0_1.length c0_1]] rfl qm ?_; (with_reducible refine (laws_toNet.calls k a0_0 _ _ l0_1 t103 t110 _ ?side1 ?side2 A11.out).mono ?_); (case side1 => exact qc (Kd.C_below HR0_1.out HB.out)); (case side2 => exact HC0_1.out); rintro e w39 ⟨v115, rfl, ho0, hb⟩; refine ⟨_, rfl, ?_⟩; have n0_ := q0 (Kd.R_elder' (qr HO114.out) (Kd.R_base ho0) hb); have n1_ := q0 (Kd.R_lower (Kd.R_new' ho0 (Kd.R_lt (qr HO114.out))) (below_size (qb HB.out))); have n2_ := q0 (kb BK107.out hb); have n3_ := q0 (below_step (qb HB.out) hb); clear HO114 BK107 HB; have HO114 := n0_; have HO116 := n1_; have BK107 := n2_; have HB := n3_; clear n0_ n1_ n2_ n3_; (try clear hb); (try clear hb2); (try clear hk); (try clear hi); (try clear ho0)) | ((with_reducible refine gate_dst (N := 9) rfl ?_); refine be 9 #[.int .i64 0, .slice none 0 0] 30 ?_; intro gb117 hg w40 hbox hb; have n0_ := q0 (Kd.R_below (qr HO114.out) hb); have n1_ := q0 (Kd.R_below (qr HO116.out) hb); have n2_ := q0 (kb BK107.out hb); have n3_ := q0 (below_step (qb HB.out) hb); have n4_ := q0 (hbox); have n5_ := q0 ((bs HB.out hg : w.heap.size ≤ gb117)); have n6_ := q0 ((bs HB.out hg : w.heap.size ≤ gb117)); have n7_ := q0 ((bl BK107.out hg : gb107 ≠ gb117)); have n8_ := q0 ((bg BK107.out hg : gb117 ≠ gb107)); clear HO114 HO116 BK107 HB; have HO114 := n0_; have HO116 := n1_; have BK107 := n2_; have HB := n3_; have BK117 := n4_; have GW117 := n5_; have GE117 := n6_; have NB107_117 := n7_; have NB117_107 := n8_; clear n0_ n1_ n2_ n3_ n4_ n5_ n6_ n7_ n8_ hb hbox hg; have hnb41 := NB117_107.out; have hnc41 := NB107_117.out; have hcz42_0 : w40.cell? ⟨gb117, 0, none⟩ = some (.int .i64 0) := (blk_cell BK117.out 0).trans rfl; have hcz42_1 : w40.cell? ⟨gb117, 1, none⟩ = some (.slice none 0 0) := (blk_cell BK117.out 1).trans rfl; have hfz42_0 := blk_frozen BK117.out 0; have hfz42_1 := blk_frozen BK117.out 1; obtain ⟨Ao43, co43, eo43⟩ := Kd.R_slice HO116.out; subst eo43) | ((with_reducible refine gate_callee (f := 44) rfl ?_); refine goesL_ (some 26) rfl rfl Try.func44 (by kernel_rfl) rfl #[.agg #[.int .i64 t103, .slice Ao43 t110.length co43], .int .i64 a1, .int .i64 a2] rfl qm ?_; (with_reducible refine (impl_BridgeIs.calls k t103 _ _ t110 a1 a2 t104 _ ?side1 ?side2 A12.out).mono ?_); (case side1 => refine (Kd.R_reads' (e := 44) (base := w.heap.size) (ok := fun k_ => (True ∧ some k_ ≠ (.slice Ao36 t108.length co36 : Value).ownBlock)) (n := t110.length) (c := co43) ?_).2.2; exact (by (with_reducible repeat (first | apply Kd.R_alloc | apply Kd.R_drewN | apply Kd.R_drew)); exact (Kd.R_mono (Kd.R_far (p := ⟨gb117, 1, none⟩) (Kd.R_far (p := ⟨gb117, 0, none⟩) (Kd.R_types HO116.out BK117.out (by decide)) (fun _ hk => hk.2) (.int .i64 t103)) (fun _ hk => hk.2) (.slice Ao43 t110.length co43)) (fun _ h_ => h_.1)))); (case side2 => exact (Kd.R_reads' HO116.out).2.1); rintro e w44 ⟨rfl, hb⟩; refine ⟨_, rfl, ?_⟩; have n0_ := q0 (Kd.R_below (by (with_reducible repeat (first | apply Kd.R_alloc | apply Kd.R_drewN | apply Kd.R_drew)); exact (Kd.R_mono (Kd.R_far (p := ⟨gb117, 1, none⟩) (Kd.R_far (p := ⟨gb117, 0, none⟩) (Kd.R_types HO114.out BK117.out (by decide)) (fun _ hk => hk.2) (.int .i64 t103)) (fun _ hk => hk.2) (.slice Ao43 t110.length co43)) (fun _ h_ => h_.1))) hb); have n1_ := q0 (Kd.R_below (by (with_reducible repeat (first | apply Kd.R_alloc | apply Kd.R_drewN | apply Kd.R_drew)); exact (Kd.R_mono (Kd.R_far (p := ⟨gb117, 1, none⟩) (Kd.R_far (p := ⟨gb117, 0, none⟩) (Kd.R_types HO116.out BK117.out (by decide)) (fun _ hk => hk.2) (.int .i64 t103)) (fun _ hk => hk.2) (.slice Ao43 t110.length co43)) (fun _ h_ => h_.1))) hb); have n2_ := q0 (blk_below (g := gb107) (o := .cells #[.int .i64 a0_0, .slice A0_1 l0_1.length c0_1] 24 (0, 0)) (qf BK107.out) hb); have n3_ := q0 (blk_below (g := gb117) (o := .cells #[.int .i64 t103, .slice Ao43 t110.length co43] 30 (0, 0)) (by (with_reducible repeat (first | refine blk_drewN ?_ _ | refine blk_drew ?_ | refine blk_alloc ?_ _)); refine blk_put (cs := #[.int .i64 t103, .slice none 0 0]) ?_ 1 _ rfl; (with_reducible repeat (first | refine blk_drewN ?_ _ | refine blk_drew ?_ | refine blk_alloc ?_ _)); refine blk_put (cs := #[.int .i64 0, .slice none 0 0]) ?_ 0 _ rfl; (with_reducible repeat (first | refine blk_drewN ?_ _ | refine blk_drew ?_ | refine blk_alloc ?_ _)); exact BK117.out) hb); have n4_ := q0 (below_step (qb HB.out) hb); clear HO114 HO116 BK107 BK117 HB; have HO114 := n0_; have HO116 := n1_; have BK107 := n2_; have BK117 := n3_; have HB := n4_; clear n0_ n1_ n2_ n3_ n4_; (try clear hb); (try clear hb2); (try clear hk); (try clear hi)))
   have n0_ := q0 (Kd.R_drew HO114.out)
   have n1_ := q0 (Kd.R_drew HO116.out)
   have n2_ := q0 (blk_drew BK107.out)
   have n3_ := q0 (blk_drew BK117.out)
   have n4_ := q0 (below_drew1 HB.out)
   clear HO114
   clear HO116
   clear BK107
   clear BK117
   clear HB
   have HO114 := n0_
   have HO116 := n1_
   have BK107 := n2_
   have BK117 := n3_
   have HB := n4_
   clear n0_ n1_ n2_ n3_ n4_
   refine start_ (n := 5) (S := fun w' => w'.cell? ⟨gb117, 0, none⟩ = some (.int .i64 t103) ∧ w'.cell? ⟨gb117, 1, none⟩ = some (.slice Ao43 t110.length co43) ∧ w'.cell? ⟨gb107, 0, none⟩ = some (.int .i64 a0_0) ∧ w'.cell? ⟨gb107, 1, none⟩ = some (.slice A0_1 l0_1.length c0_1)) (ds := []) (ba 5 0) (by kernel_rfl) rfl (by kernel_rfl) ⟨(blk_cell BK117.out 0).trans rfl, (blk_cell BK117.out 1).trans rfl, (blk_cell BK107.out 0).trans rfl, (blk_cell BK107.out 1).trans rfl⟩ (fun hHeld => ?_)
   generalize w44.drew = w45 at HO114 HO116 BK107 BK117 HB hHeld ⊢
   refine tw 0 (some 30) (ba 5 1) hHeld ?_
   refine tw 1 (some 31) (ba 5 3) hHeld ?_
   refine one_ (i := 2) (N := some 32) (ba 5 7) rfl rfl (by kernel_rfl) (by decide) (fun K hK => ?_)
   refine goes_ Try.func15 (by kernel_rfl) rfl #[.agg #[.int .i64 a0_0, .slice A0_1 l0_1.length c0_1]] (by rfl) rfl rfl qm ?_
   with_reducible refine (laws_toNet.calls k a0_0 _ _ l0_1 t105 t118 _ ?side1 ?side2 A28.out).mono ?_
   (case side1 => exact qc (Kd.C_below HR0_1.out HB.out))
   (case side2 => exact HC0_1.out)
   rintro e w46 ⟨v121, rfl, ho0, hb⟩
   refine ⟨_, rfl, ?_⟩
   have n0_ := q0 (Kd.R_elder' (qr HO114.out) (Kd.R_base ho0) hb)
   have n1_ := q0 (Kd.R_elder' (qr HO116.out) (Kd.R_base ho0) hb)
   have n2_ := q0 (Kd.R_lower (Kd.R_new' (Kd.R_new' ho0 (Kd.R_lt (qr HO114.out))) (Kd.R_lt (qr HO116.out))) (below_size (qb HB.out)))
   have n3_ := q0 (kb BK107.out hb)
   have n4_ := q0 (kb BK117.out hb)
   have n5_ := q0 (below_step (qb HB.out) hb)
   clear HO114
   clear HO116
   clear BK107
   clear BK117
   clear HB
   have HO114 := n0_
   have HO116 := n1_
   have HO122 := n2_
   have BK107 := n3_
   have BK117 := n4_
   have HB := n5_
   clear n0_ n1_ n2_ n3_ n4_ n5_
   (try clear hb)
   (try clear hb2)
   (try clear hk)
   (try clear hi)
   (try clear ho0)
   obtain ⟨Ao47, co47, eo47⟩ := Kd.R_slice HO122.out
   (first | subst eo47 | (injection eo47 with f1_ f2_ f3_; have f4_ := f1_.symm; have f5_ := f3_.symm; clear f1_ f2_ f3_; subst f4_; subst f5_))
   refine hK.out _ _ ⟨(blk_cell BK117.out 0).trans rfl, (blk_cell BK117.out 1).trans rfl, (blk_cell BK107.out 0).trans rfl, (blk_cell BK107.out 1).trans rfl⟩ (fun hHeld => ?_)
   clear hK K
   refine nu 32 ?_
   refine one_ (i := 3) (N := some 33) (ba 5 15) rfl rfl (by kernel_rfl) (by decide) (fun K hK => ?_)
   refine goes_ Try.func18 (by kernel_rfl) rfl #[.agg #[.int .i64 t103, .slice Ao43 t110.length co43], .agg #[.int .i64 t105, .slice Ao47 t118.length co47]] (by rfl) rfl rfl qm ?_
   with_reducible refine (laws_eqNet.calls k t103 _ _ t110 t105 _ _ t118 true _ ?side1 ?side2 ?side3 ?side4 A29.out).mono ?_
   (case side1 => exact qc (Kd.R_reads' HO116.out).2.2)
   (case side2 => exact (Kd.R_reads' HO116.out).2.1)
   (case side3 => exact qc (Kd.R_reads' HO122.out).2.2)
   (case side4 => exact (Kd.R_reads' HO122.out).2.1)
   rintro e w48 ⟨rfl, hb⟩
   refine ⟨_, rfl, ?_⟩
   have n0_ := q0 (Kd.R_below (qr HO114.out) hb)
   have n1_ := q0 (Kd.R_below (qr HO116.out) hb)
   have n2_ := q0 (Kd.R_below (qr HO122.out) hb)
   have n3_ := q0 (kb BK107.out hb)
   have n4_ := q0 (kb BK117.out hb)
   have n5_ := q0 (below_step (qb HB.out) hb)
   clear HO114
   clear HO116
   clear HO122
   clear BK107
   clear BK117
   clear HB
   have HO114 := n0_
   have HO116 := n1_
   have HO122 := n2_
   have BK107 := n3_
   have BK117 := n4_
   have HB := n5_
   clear n0_ n1_ n2_ n3_ n4_ n5_
   (try clear hb)
   (try clear hb2)
   (try clear hk)
   (try clear hi)
   refine hK.out _ _ ⟨(blk_cell BK117.out 0).trans rfl, (blk_cell BK117.out 1).trans rfl, (blk_cell BK107.out 0).trans rfl, (blk_cell BK107.out 1).trans rfl⟩ (fun hHeld => ?_)
   clear hK K
   refine nu 33 ?_
   refine pw 4 (some 34) (ba 5 31) ?_
   refine done_ (by kernel_rfl) ?_
   try go_wp2
   go_ret
   exact ⟨qe, qb HB.out⟩
 replace c30 := Bool.eq_false_iff.mpr c30
 subst c30
 have H1 : (some false) = some r := by rw [if_neg (show ¬ (false = true) by decide)] at H; exact H
 clear H
 have H := H1
 clear H1
 obtain rfl := Option.some.inj H
 go_enter Try.func10, Try.ntmps10
 try go_wp2_with (first | ((with_reducible refine gate_dst (N := 3) rfl ?_); refine be 3 #[.int .i64 a0_0, .slice A0_1 l0_1.length c0_1] 24 ?_; intro gb107 hg w49 hbox hb; have n0_ := q0 (below_step (qb HB.out) hb); have n1_ := q0 (hbox); have n2_ := q0 ((bs HB.out hg : w.heap.size ≤ gb107)); have n3_ := q0 ((bs HB.out hg : w.heap.size ≤ gb107)); clear HB; have HB := n0_; have BK107 := n1_; have GW107 := n2_; have GE107 := n3_; clear n0_ n1_ n2_ n3_ hb hbox hg; have hcz50_0 : w49.cell? ⟨gb107, 0, none⟩ = some (.int .i64 a0_0) := (blk_cell BK107.out 0).trans rfl; have hcz50_1 : w49.cell? ⟨gb107, 1, none⟩ = some (.slice A0_1 l0_1.length c0_1) := (blk_cell BK107.out 1).trans rfl; have hfz50_0 := blk_frozen BK107.out 0; have hfz50_1 := blk_frozen BK107.out 1) | ((with_reducible refine gate_callee (f := 13) rfl ?_); refine goesL_ (some 13) rfl rfl Try.func13 (by kernel_rfl) rfl #[.agg #[.int .i64 a0_0, .slice A0_1 l0_1.length c0_1], .int .i64 1048576] rfl qm ?_; (with_reducible refine (laws_szNet.calls a0_0 _ _ l0_1 1048576 t100 _ ?side1 ?side2 A4.out).mono ?_); (case side1 => exact qc (Kd.C_below HR0_1.out HB.out)); (case side2 => exact HC0_1.out); rintro e w51 ⟨rfl, hb⟩; refine ⟨_, rfl, ?_⟩; have n0_ := q0 (kb BK107.out hb); have n1_ := q0 (below_step (qb HB.out) hb); clear BK107 HB; have BK107 := n0_; have HB := n1_; clear n0_ n1_; (try clear hb); (try clear hb2); (try clear hk); (try clear hi); have hcz52_0 : w51.cell? ⟨gb107, 0, none⟩ = some (.int .i64 a0_0) := (blk_cell BK107.out 0).trans rfl; have hcz52_1 : w51.cell? ⟨gb107, 1, none⟩ = some (.slice A0_1 l0_1.length c0_1) := (blk_cell BK107.out 1).trans rfl; have hfz52_0 := blk_frozen BK107.out 0; have hfz52_1 := blk_frozen BK107.out 1) | ((with_reducible refine gate_callee (f := 15) rfl ?_); refine goesL_ (some 17) rfl rfl Try.func15 (by kernel_rfl) rfl #[.agg #[.int .i64 a0_0, .slice A0_1 l0_1.length c0_1]] rfl qm ?_; (with_reducible refine (laws_toNet.calls k a0_0 _ _ l0_1 t101 t108 _ ?side1 ?side2 A9.out).mono ?_); (case side1 => exact qc (Kd.C_below HR0_1.out HB.out)); (case side2 => exact HC0_1.out); rintro e w53 ⟨v113, rfl, ho0, hb⟩; refine ⟨_, rfl, ?_⟩; have n0_ := q0 (Kd.R_lower ho0 (below_size (qb HB.out))); have n1_ := q0 (kb BK107.out hb); have n2_ := q0 (below_step (qb HB.out) hb); clear BK107 HB; have HO114 := n0_; have BK107 := n1_; have HB := n2_; clear n0_ n1_ n2_; (try clear hb); (try clear hb2); (try clear hk); (try clear hi); (try clear ho0); obtain ⟨Ao54, co54, eo54⟩ := Kd.R_slice HO114.out; subst eo54) | ((with_reducible refine gate_callee (f := 43) rfl ?_); refine goesL_ (some 20) rfl rfl Try.func43 (by kernel_rfl) rfl #[.agg #[.int .i64 t101, .slice Ao54 t108.length co54], .int .i64 a1, .int .i64 a2] rfl qm ?_; (with_reducible refine (spec_BridgeIs.calls k t101 _ _ t108 a1 a2 t102 _ ?side1 ?side2 A10.out).mono ?_); (case side1 => exact qc (Kd.R_reads' HO114.out).2.2); (case side2 => exact (Kd.R_reads' HO114.out).2.1); rintro e w55 ⟨rfl, hb⟩; refine ⟨_, rfl, ?_⟩; have n0_ := q0 (Kd.R_below (qr HO114.out) hb); have n1_ := q0 (kb BK107.out hb); have n2_ := q0 (below_step (qb HB.out) hb); clear HO114 BK107 HB; have HO114 := n0_; have BK107 := n1_; have HB := n2_; clear n0_ n1_ n2_; (try clear hb); (try clear hb2); (try clear hk); (try clear hi); have hcz56_0 : w55.cell? ⟨gb107, 0, none⟩ = some (.int .i64 a0_0) := (blk_cell BK107.out 0).trans rfl; have hcz56_1 : w55.cell? ⟨gb107, 1, none⟩ = some (.slice A0_1 l0_1.length c0_1) := (blk_cell BK107.out 1).trans rfl; have hfz56_0 := blk_frozen BK107.out 0; have hfz56_1 := blk_frozen BK107.out 1) | ((with_reducible refine gate_callee (f := 15) rfl ?_); refine goesL_ (some 22) rfl rfl Try.func15 (by kernel_rfl) rfl #[.agg #[.int .i64 a0_0, .slice A0_1 l0_1.length c0_1]] rfl qm ?_; (with_reducible refine (laws_toNet.calls k a0_0 _ _ l0_1 t103 t110 _ ?side1 ?side2 A11.out).mono ?_); (case side1 => exact qc (Kd.C_below HR0_1.out HB.out)); (case side2 => exact HC0_1.out); rintro e w57 ⟨v115, rfl, ho0, hb⟩; refine ⟨_, rfl, ?_⟩; have n0_ := q0 (Kd.R_elder' (qr HO114.out) (Kd.R_base ho0) hb); have n1_ := q0 (Kd.R_lower (Kd.R_new' ho0 (Kd.R_lt (qr HO114.out))) (below_size (qb HB.out))); have n2_ := q0 (kb BK107.out hb); have n3_ := q0 (below_step (qb HB.out) hb); clear HO114 BK107 HB; have HO114 := n0_; have HO116 := n1_; have BK107 := n2_; have HB := n3_; clear n0_ n1_ n2_ n3_; (try clear hb); (try clear hb2); (try clear hk); (try clear hi); (try clear ho0)) | ((with_reducible refine gate_dst (N := 9) rfl ?_); refine be 9 #[.int .i64 0, .slice none 0 0] 30 ?_; intro gb117 hg w58 hbox hb; have n0_ := q0 (Kd.R_below (qr HO114.out) hb); have n1_ := q0 (Kd.R_below (qr HO116.out) hb); have n2_ := q0 (kb BK107.out hb); have n3_ := q0 (below_step (qb HB.out) hb); have n4_ := q0 (hbox); have n5_ := q0 ((bs HB.out hg : w.heap.size ≤ gb117)); have n6_ := q0 ((bs HB.out hg : w.heap.size ≤ gb117)); have n7_ := q0 ((bl BK107.out hg : gb107 ≠ gb117)); have n8_ := q0 ((bg BK107.out hg : gb117 ≠ gb107)); clear HO114 HO116 BK107 HB; have HO114 := n0_; have HO116 := n1_; have BK107 := n2_; have HB := n3_; have BK117 := n4_; have GW117 := n5_; have GE117 := n6_; have NB107_117 := n7_; have NB117_107 := n8_; clear n0_ n1_ n2_ n3_ n4_ n5_ n6_ n7_ n8_ hb hbox hg; have hnb59 := NB117_107.out; have hnc59 := NB107_117.out; have hcz60_0 : w58.cell? ⟨gb117, 0, none⟩ = some (.int .i64 0) := (blk_cell BK117.out 0).trans rfl; have hcz60_1 : w58.cell? ⟨gb117, 1, none⟩ = some (.slice none 0 0) := (blk_cell BK117.out 1).trans rfl; have hfz60_0 := blk_frozen BK117.out 0; have hfz60_1 := blk_frozen BK117.out 1; obtain ⟨Ao61, co61, eo61⟩ := Kd.R_slice HO116.out; subst eo61) | ((with_reducible refine gate_callee (f := 44) rfl ?_); refine goesL_ (some 26) rfl rfl Try.func44 (by kernel_rfl) rfl #[.agg #[.int .i64 t103, .slice Ao61 t110.length co61], .int .i64 a1, .int .i64 a2] rfl qm ?_; (with_reducible refine (impl_BridgeIs.calls k t103 _ _ t110 a1 a2 t104 _ ?side1 ?side2 A12.out).mono ?_); (case side1 => refine (Kd.R_reads' (e := 44) (base := w.heap.size) (ok := fun k_ => (True ∧ some k_ ≠ (.slice Ao54 t108.length co54 : Value).ownBlock)) (n := t110.length) (c := co61) ?_).2.2; exact (by (with_reducible repeat (first | apply Kd.R_alloc | apply Kd.R_drewN | apply Kd.R_drew)); exact (Kd.R_mono (Kd.R_far (p := ⟨gb117, 1, none⟩) (Kd.R_far (p := ⟨gb117, 0, none⟩) (Kd.R_types HO116.out BK117.out (by decide)) (fun _ hk => hk.2) (.int .i64 t103)) (fun _ hk => hk.2) (.slice Ao61 t110.length co61)) (fun _ h_ => h_.1)))); (case side2 => exact (Kd.R_reads' HO116.out).2.1); rintro e w62 ⟨rfl, hb⟩; refine ⟨_, rfl, ?_⟩; have n0_ := q0 (Kd.R_below (by (with_reducible repeat (first | apply Kd.R_alloc | apply Kd.R_drewN | apply Kd.R_drew)); exact (Kd.R_mono (Kd.R_far (p := ⟨gb117, 1, none⟩) (Kd.R_far (p := ⟨gb117, 0, none⟩) (Kd.R_types HO114.out BK117.out (by decide)) (fun _ hk => hk.2) (.int .i64 t103)) (fun _ hk => hk.2) (.slice Ao61 t110.length co61)) (fun _ h_ => h_.1))) hb); have n1_ := q0 (Kd.R_below (by (with_reducible repeat (first | apply Kd.R_alloc | apply Kd.R_drewN | apply Kd.R_drew)); exact (Kd.R_mono (Kd.R_far (p := ⟨gb117, 1, none⟩) (Kd.R_far (p := ⟨gb117, 0, none⟩) (Kd.R_types HO116.out BK117.out (by decide)) (fun _ hk => hk.2) (.int .i64 t103)) (fun _ hk => hk.2) (.slice Ao61 t110.length co61)) (fun _ h_ => h_.1))) hb); have n2_ := q0 (blk_below (g := gb107) (o := .cells #[.int .i64 a0_0, .slice A0_1 l0_1.length c0_1] 24 (0, 0)) (qf BK107.out) hb); have n3_ := q0 (blk_below (g := gb117) (o := .cells #[.int .i64 t103, .slice Ao61 t110.length co61] 30 (0, 0)) (by (with_reducible repeat (first | refine blk_drewN ?_ _ | refine blk_drew ?_ | refine blk_alloc ?_ _)); refine blk_put (cs := #[.int .i64 t103, .slice none 0 0]) ?_ 1 _ rfl; (with_reducible repeat (first | refine blk_drewN ?_ _ | refine blk_drew ?_ | refine blk_alloc ?_ _)); refine blk_put (cs := #[.int .i64 0, .slice none 0 0]) ?_ 0 _ rfl; (with_reducible repeat (first | refine blk_drewN ?_ _ | refine blk_drew ?_ | refine blk_alloc ?_ _)); exact BK117.out) hb); have n4_ := q0 (below_step (qb HB.out) hb); clear HO114 HO116 BK107 BK117 HB; have HO114 := n0_; have HO116 := n1_; have BK107 := n2_; have BK117 := n3_; have HB := n4_; clear n0_ n1_ n2_ n3_ n4_; (try clear hb); (try clear hb2); (try clear hk); (try clear hi)))
 have n0_ := q0 (Kd.R_drew HO114.out)
 have n1_ := q0 (Kd.R_drew HO116.out)
 have n2_ := q0 (blk_drew BK107.out)
 have n3_ := q0 (blk_drew BK117.out)
 have n4_ := q0 (below_drew1 HB.out)
 clear HO114
 clear HO116
 clear BK107
 clear BK117
 clear HB
 have HO114 := n0_
 have HO116 := n1_
 have BK107 := n2_
 have BK117 := n3_
 have HB := n4_
 clear n0_ n1_ n2_ n3_ n4_
 refine start_ (n := 5) (S := fun w' => w'.cell? ⟨gb117, 0, none⟩ = some (.int .i64 t103) ∧ w'.cell? ⟨gb117, 1, none⟩ = some (.slice Ao61 t110.length co61) ∧ w'.cell? ⟨gb107, 0, none⟩ = some (.int .i64 a0_0) ∧ w'.cell? ⟨gb107, 1, none⟩ = some (.slice A0_1 l0_1.length c0_1)) (ds := []) (ba 5 0) (by kernel_rfl) rfl (by kernel_rfl) ⟨(blk_cell BK117.out 0).trans rfl, (blk_cell BK117.out 1).trans rfl, (blk_cell BK107.out 0).trans rfl, (blk_cell BK107.out 1).trans rfl⟩ (fun hHeld => ?_)
 generalize w62.drew = w63 at HO114 HO116 BK107 BK117 HB hHeld ⊢
 refine tw 0 (some 30) (ba 5 1) hHeld ?_
 refine tw 1 (some 31) (ba 5 3) hHeld ?_
 refine one_ (i := 2) (N := some 32) (ba 5 7) rfl rfl (by kernel_rfl) (by decide) (fun K hK => ?_)
 refine goes_ Try.func15 (by kernel_rfl) rfl #[.agg #[.int .i64 a0_0, .slice A0_1 l0_1.length c0_1]] (by rfl) rfl rfl qm ?_
 with_reducible refine (laws_toNet.calls k a0_0 _ _ l0_1 t105 t118 _ ?side1 ?side2 A28.out).mono ?_
 (case side1 => exact qc (Kd.C_below HR0_1.out HB.out))
 (case side2 => exact HC0_1.out)
 rintro e w64 ⟨v121, rfl, ho0, hb⟩
 refine ⟨_, rfl, ?_⟩
 have n0_ := q0 (Kd.R_elder' (qr HO114.out) (Kd.R_base ho0) hb)
 have n1_ := q0 (Kd.R_elder' (qr HO116.out) (Kd.R_base ho0) hb)
 have n2_ := q0 (Kd.R_lower (Kd.R_new' (Kd.R_new' ho0 (Kd.R_lt (qr HO114.out))) (Kd.R_lt (qr HO116.out))) (below_size (qb HB.out)))
 have n3_ := q0 (kb BK107.out hb)
 have n4_ := q0 (kb BK117.out hb)
 have n5_ := q0 (below_step (qb HB.out) hb)
 clear HO114
 clear HO116
 clear BK107
 clear BK117
 clear HB
 have HO114 := n0_
 have HO116 := n1_
 have HO122 := n2_
 have BK107 := n3_
 have BK117 := n4_
 have HB := n5_
 clear n0_ n1_ n2_ n3_ n4_ n5_
 (try clear hb)
 (try clear hb2)
 (try clear hk)
 (try clear hi)
 (try clear ho0)
 obtain ⟨Ao65, co65, eo65⟩ := Kd.R_slice HO122.out
 (first | subst eo65 | (injection eo65 with f1_ f2_ f3_; have f4_ := f1_.symm; have f5_ := f3_.symm; clear f1_ f2_ f3_; subst f4_; subst f5_))
 refine hK.out _ _ ⟨(blk_cell BK117.out 0).trans rfl, (blk_cell BK117.out 1).trans rfl, (blk_cell BK107.out 0).trans rfl, (blk_cell BK107.out 1).trans rfl⟩ (fun hHeld => ?_)
 clear hK K
 refine nu 32 ?_
 refine one_ (i := 3) (N := some 33) (ba 5 15) rfl rfl (by kernel_rfl) (by decide) (fun K hK => ?_)
 refine goes_ Try.func18 (by kernel_rfl) rfl #[.agg #[.int .i64 t103, .slice Ao61 t110.length co61], .agg #[.int .i64 t105, .slice Ao65 t118.length co65]] (by rfl) rfl rfl qm ?_
 with_reducible refine (laws_eqNet.calls k t103 _ _ t110 t105 _ _ t118 false _ ?side1 ?side2 ?side3 ?side4 A29.out).mono ?_
 (case side1 => exact qc (Kd.R_reads' HO116.out).2.2)
 (case side2 => exact (Kd.R_reads' HO116.out).2.1)
 (case side3 => exact qc (Kd.R_reads' HO122.out).2.2)
 (case side4 => exact (Kd.R_reads' HO122.out).2.1)
 rintro e w66 ⟨rfl, hb⟩
 refine ⟨_, rfl, ?_⟩
 have n0_ := q0 (Kd.R_below (qr HO114.out) hb)
 have n1_ := q0 (Kd.R_below (qr HO116.out) hb)
 have n2_ := q0 (Kd.R_below (qr HO122.out) hb)
 have n3_ := q0 (kb BK107.out hb)
 have n4_ := q0 (kb BK117.out hb)
 have n5_ := q0 (below_step (qb HB.out) hb)
 clear HO114
 clear HO116
 clear HO122
 clear BK107
 clear BK117
 clear HB
 have HO114 := n0_
 have HO116 := n1_
 have HO122 := n2_
 have BK107 := n3_
 have BK117 := n4_
 have HB := n5_
 clear n0_ n1_ n2_ n3_ n4_ n5_
 (try clear hb)
 (try clear hb2)
 (try clear hk)
 (try clear hi)
 refine hK.out _ _ ⟨(blk_cell BK117.out 0).trans rfl, (blk_cell BK117.out 1).trans rfl, (blk_cell BK107.out 0).trans rfl, (blk_cell BK107.out 1).trans rfl⟩ (fun hHeld => ?_)
 clear hK K
 refine nu 33 ?_
 refine pw 4 (some 34) (ba 5 31) ?_
 refine done_ (by kernel_rfl) ?_
 try go_wp2
 go_ret
 exact ⟨qe, qb HB.out⟩

end Go.Proofs.Ytheoebelhgbejaa.P
