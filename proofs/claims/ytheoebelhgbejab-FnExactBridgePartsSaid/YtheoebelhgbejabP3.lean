import Derived.Test.YtheoebelhgbejabP0
import Derived.Test.YtheoebelhgbejabP1
import Derived.Test.YtheoebelhgbejabP2
namespace Go.Proofs.Ytheoebelhgbejab.P
open Go.RowKit Go.Proofs.YtheoebelhgbejabW.PrintWords Go.Proofs.YtheoebelhgbejabW.PrintLast Go.Proofs.YtheoebelhgbejabW.PrintMore
attribute [local go_sem] max2_int min2_int max_two min_two max_three min_three max_four min_four
set_option linter.unusedVariables false
set_option linter.unusedSimpArgs false
attribute [local go_sem high] eqATie
def spec_BridgeIs.T2 : Bool × List (List Nat × List Nat) := (true, [([], []), ([0], [0]), ([1], [1]), ([2, 1, 1], [1, 2]), ([1], [1]), ([4, 3, 1], [1, 4]), ([3, 5, 1], [1, 3, 5]), ([1, 6], [1, 6]), ([7, 5, 0, 1, 2, 3, 4, 5, 6, 7], [7])])
def spec_BridgeIs.B2 : List Nat := [0, 1, 3, 7, 3, 31, 63, 127, 255]
theorem spec_BridgeIs.tab2 : rtab .any (opsOf Try.f66 2) = spec_BridgeIs.T2 := by kernel_rfl
theorem spec_BridgeIs.bits2 : waitsOk spec_BridgeIs.T2.2 spec_BridgeIs.B2 = true := by kernel_rfl
set_option maxHeartbeats 8000000 in
set_option maxRecDepth 100000 in
theorem spec_BridgeIs.calls (k : Nat) (a0_0 : Int) (A0_1 : Option Addr) (c0_1 : Nat) (l0_1 : List (STie)) (a1 : Int) (a2 : Int) (r : Bool) (w : World) (hr0_1 : Kd.C kTie w A0_1 l0_1.length l0_1) (hc0_1 : l0_1.length ≤ c0_1) (h : spec_BridgeIs.f k a0_0 l0_1 a1 a2 = some r) :
    Calls Try.prog 66 #[.agg #[.int .i64 a0_0, .slice A0_1 l0_1.length c0_1], .int .i64 a1, .int .i64 a2] w fun e w' => e = .returned (.bool r) ∧ Below w.heap.size w w' := by
 have hu32 := Try.underlying32
 have HR0_1 := Aside0.mk hr0_1
 have HC0_1 := Aside0.mk hc0_1
 clear hr0_1 hc0_1
 have HB := q0 (Below.refl w.heap.size w)
 have H : ((spec_NetCut.f k a0_0 l0_1 a1 a2).bind fun bt100 => (if bt100.2.2 = true then ((spec_WayCount.f k bt100.1 bt100.2.1).bind fun t101 => ((spec_WayCount.f k a0_0 l0_1).bind fun t102 => (some (decide (t101 > t102))))) else (some false))) = some r := h
 clear h
 replace H := Option.bind_eq_some_iff.mp H
 obtain ⟨⟨t100, t103, t104⟩, A40, H⟩ := H
 replace H : (if t104 = true then ((spec_WayCount.f k t100 t103).bind fun t101 => ((spec_WayCount.f k a0_0 l0_1).bind fun t102 => (some (decide (t101 > t102))))) else (some false)) = some r := H
 have A4 := Aside0.mk A40
 clear A40
 by_cases c5 : t104 = true
 rotate_left
 · replace c5 := Bool.eq_false_iff.mpr c5
   subst c5
   have H1 : (some false) = some r := by rw [if_neg (show ¬ (false = true) by decide)] at H; exact H
   clear H
   have H := H1
   clear H1
   obtain rfl := Option.some.inj H
   go_enter Try.func66, Try.ntmps66
   try go_wp2_with (first | ((with_reducible refine gate_dst (N := 3) rfl ?_); refine be 3 #[.int .i64 a0_0, .slice A0_1 l0_1.length c0_1] 32 ?_; intro gb105 hg w19 hbox hb; have n0_ := q0 (below_step (qb HB.out) hb); have n1_ := q0 (hbox); have n2_ := q0 ((bs HB.out hg : w.heap.size ≤ gb105)); have n3_ := q0 ((bs HB.out hg : w.heap.size ≤ gb105)); clear HB; have HB := n0_; have BK105 := n1_; have GW105 := n2_; have GE105 := n3_; clear n0_ n1_ n2_ n3_ hb hbox hg; have hcz20_0 : w19.cell? ⟨gb105, 0, none⟩ = some (.int .i64 a0_0) := (blk_cell BK105.out 0).trans rfl; have hcz20_1 : w19.cell? ⟨gb105, 1, none⟩ = some (.slice A0_1 l0_1.length c0_1) := (blk_cell BK105.out 1).trans rfl; have hfz20_0 := blk_frozen BK105.out 0; have hfz20_1 := blk_frozen BK105.out 1) | ((with_reducible refine gate_callee (f := 52) rfl ?_); refine goesL_ (some 13) rfl rfl Try.func52 (by kernel_rfl) rfl #[.agg #[.int .i64 a0_0, .slice A0_1 l0_1.length c0_1], .int .i64 a1, .int .i64 a2] rfl qm ?_; (with_reducible refine (spec_NetCut.calls k a0_0 _ _ l0_1 a1 a2 t100 t103 false _ ?side1 ?side2 A4.out).mono ?_); (case side1 => exact qc (Kd.C_below HR0_1.out HB.out)); (case side2 => exact HC0_1.out); rintro e w21 ⟨v106, rfl, ho0, hb⟩; refine ⟨_, rfl, ?_⟩; have n0_ := q0 (Kd.R_lower ho0 (below_size (qb HB.out))); have n1_ := q0 (kb BK105.out hb); have n2_ := q0 (below_step (qb HB.out) hb); clear BK105 HB; have HO107 := n0_; have BK105 := n1_; have HB := n2_; clear n0_ n1_ n2_; (try clear hb); (try clear hb2); (try clear hk); (try clear hi); (try clear ho0)) | ((with_reducible refine gate_dst (N := 7) rfl ?_); refine be 7 #[.int .i64 0, .slice none 0 0] 32 ?_; intro gb108 hg w22 hbox hb; have n0_ := q0 (Kd.R_below (qr HO107.out) hb); have n1_ := q0 (kb BK105.out hb); have n2_ := q0 (below_step (qb HB.out) hb); have n3_ := q0 (hbox); have n4_ := q0 ((bs HB.out hg : w.heap.size ≤ gb108)); have n5_ := q0 ((bs HB.out hg : w.heap.size ≤ gb108)); have n6_ := q0 ((bl BK105.out hg : gb105 ≠ gb108)); have n7_ := q0 ((bg BK105.out hg : gb108 ≠ gb105)); clear HO107 BK105 HB; have HO107 := n0_; have BK105 := n1_; have HB := n2_; have BK108 := n3_; have GW108 := n4_; have GE108 := n5_; have NB105_108 := n6_; have NB108_105 := n7_; clear n0_ n1_ n2_ n3_ n4_ n5_ n6_ n7_ hb hbox hg; have hnb23 := NB108_105.out; have hnc23 := NB105_108.out; have hcz24_0 : w22.cell? ⟨gb108, 0, none⟩ = some (.int .i64 0) := (blk_cell BK108.out 0).trans rfl; have hcz24_1 : w22.cell? ⟨gb108, 1, none⟩ = some (.slice none 0 0) := (blk_cell BK108.out 1).trans rfl; have hfz24_0 := blk_frozen BK108.out 0; have hfz24_1 := blk_frozen BK108.out 1; obtain ⟨Ao25, co25, eo25⟩ := Kd.R_slice HO107.out; subst eo25))
   have n0_ : Aside0 (Kd.R kTie 27 ((w22.setCell ⟨gb108, 0, none⟩ (.int .i64 t100)).setCell ⟨gb108, 1, none⟩ (.slice Ao25 t103.length co25)) w.heap.size (fun _ => True) (.slice Ao25 t103.length co25) t103) := ⟨by (with_reducible repeat (first | apply Kd.R_alloc | apply Kd.R_drewN | apply Kd.R_drew)); exact Kd.R_mono (Kd.R_far (p := ⟨gb108, 1, none⟩) (Kd.R_far (p := ⟨gb108, 0, none⟩) (Kd.R_types HO107.out BK108.out (by decide)) (fun _ hk => hk.2) (.int .i64 t100)) (fun _ hk => hk.2) (.slice Ao25 t103.length co25)) (fun _ hk => trivial)⟩
   have n1_ : Aside0 (((w22.setCell ⟨gb108, 0, none⟩ (.int .i64 t100)).setCell ⟨gb108, 1, none⟩ (.slice Ao25 t103.length co25)).heap[gb105]? = some (.cells #[.int .i64 a0_0, .slice A0_1 l0_1.length c0_1] 32 (0, 0))) := ⟨qf BK105.out⟩
   have n2_ : Aside0 (((w22.setCell ⟨gb108, 0, none⟩ (.int .i64 t100)).setCell ⟨gb108, 1, none⟩ (.slice Ao25 t103.length co25)).heap[gb108]? = some (.cells #[.int .i64 t100, .slice Ao25 t103.length co25] 32 (0, 0))) := ⟨by (with_reducible repeat (first | refine blk_drewN ?_ _ | refine blk_drew ?_ | refine blk_alloc ?_ _)); refine blk_put (cs := #[.int .i64 t100, .slice none 0 0]) ?_ 1 _ rfl; (with_reducible repeat (first | refine blk_drewN ?_ _ | refine blk_drew ?_ | refine blk_alloc ?_ _)); refine blk_put (cs := #[.int .i64 0, .slice none 0 0]) ?_ 0 _ rfl; (with_reducible repeat (first | refine blk_drewN ?_ _ | refine blk_drew ?_ | refine blk_alloc ?_ _)); exact BK108.out⟩
   have n3_ : Aside0 (Below w.heap.size w ((w22.setCell ⟨gb108, 0, none⟩ (.int .i64 t100)).setCell ⟨gb108, 1, none⟩ (.slice Ao25 t103.length co25))) := ⟨qb HB.out⟩
   (try clear HO107)
   (try clear BK105)
   (try clear BK108)
   (try clear HB)
   generalize ((w22.setCell ⟨gb108, 0, none⟩ (.int .i64 t100)).setCell ⟨gb108, 1, none⟩ (.slice Ao25 t103.length co25)) = w26 at n0_ n1_ n2_ n3_ ⊢
   have HO107 := n0_
   have BK105 := n1_
   have BK108 := n2_
   have HB := n3_
   clear n0_ n1_ n2_ n3_
   have n0_ := q0 (Kd.R_drew HO107.out)
   have n1_ := q0 (blk_drew BK105.out)
   have n2_ := q0 (blk_drew BK108.out)
   have n3_ := q0 (below_drew1 HB.out)
   clear HO107
   clear BK105
   clear BK108
   clear HB
   have HO107 := n0_
   have BK105 := n1_
   have BK108 := n2_
   have HB := n3_
   clear n0_ n1_ n2_ n3_
   refine start_ (n := 9) (S := fun w' => True) (ds := []) (ba 9 0) (by kernel_rfl) rfl (by kernel_rfl) trivial (fun hHeld => ?_); refine with_tabW spec_BridgeIs.tab2 spec_BridgeIs.bits2 (fun HT_ HW_ => ?_)
   generalize w26.drew = w27 at HO107 BK105 BK108 HB hHeld ⊢
   refine pu 0 (some 16) (ba 9 1) HT_.out ?_
   refine pu 1 (some 17) (ba 9 3) HT_.out ?_
   refine pv 2 (some 18) (ba 9 7) HT_.out ?_
   refine pv 3 (some 19) (ba 9 15) HT_.out ?_
   refine pv 4 (some 20) (ba 9 31) HT_.out ?_
   refine pv 5 (some 21) (ba 9 63) HT_.out ?_
   refine pv 6 (some 22) (ba 9 127) HT_.out ?_
   refine pu 7 (some 23) (ba 9 255) HT_.out ?_
   refine pu 8 (some 6) (ba 9 511) HT_.out ?_
   refine done_ (done_of HT_.out (by kernel_rfl)) ?_
   try go_wp2
   go_ret
   exact ⟨qe, qb HB.out⟩
 subst c5
 have H1 : ((spec_WayCount.f k t100 t103).bind fun t101 => ((spec_WayCount.f k a0_0 l0_1).bind fun t102 => (some (decide (t101 > t102))))) = some r := by rw [if_pos rfl] at H; exact H
 clear H
 have H := H1
 clear H1
 replace H := Option.bind_eq_some_iff.mp H
 obtain ⟨t101, A60, H⟩ := H
 replace H : ((spec_WayCount.f k a0_0 l0_1).bind fun t102 => (some (decide (t101 > t102)))) = some r := H
 have A6 := Aside0.mk A60
 clear A60
 replace H := Option.bind_eq_some_iff.mp H
 obtain ⟨t102, A70, H⟩ := H
 replace H : (some (decide (t101 > t102))) = some r := H
 have A7 := Aside0.mk A70
 clear A70
 obtain rfl := Option.some.inj H
 go_enter Try.func66, Try.ntmps66
 try go_wp2_with (first | ((with_reducible refine gate_dst (N := 3) rfl ?_); refine be 3 #[.int .i64 a0_0, .slice A0_1 l0_1.length c0_1] 32 ?_; intro gb105 hg w8 hbox hb; have n0_ := q0 (below_step (qb HB.out) hb); have n1_ := q0 (hbox); have n2_ := q0 ((bs HB.out hg : w.heap.size ≤ gb105)); have n3_ := q0 ((bs HB.out hg : w.heap.size ≤ gb105)); clear HB; have HB := n0_; have BK105 := n1_; have GW105 := n2_; have GE105 := n3_; clear n0_ n1_ n2_ n3_ hb hbox hg; have hcz9_0 : w8.cell? ⟨gb105, 0, none⟩ = some (.int .i64 a0_0) := (blk_cell BK105.out 0).trans rfl; have hcz9_1 : w8.cell? ⟨gb105, 1, none⟩ = some (.slice A0_1 l0_1.length c0_1) := (blk_cell BK105.out 1).trans rfl; have hfz9_0 := blk_frozen BK105.out 0; have hfz9_1 := blk_frozen BK105.out 1) | ((with_reducible refine gate_callee (f := 52) rfl ?_); refine goesL_ (some 13) rfl rfl Try.func52 (by kernel_rfl) rfl #[.agg #[.int .i64 a0_0, .slice A0_1 l0_1.length c0_1], .int .i64 a1, .int .i64 a2] rfl qm ?_; (with_reducible refine (spec_NetCut.calls k a0_0 _ _ l0_1 a1 a2 t100 t103 true _ ?side1 ?side2 A4.out).mono ?_); (case side1 => exact qc (Kd.C_below HR0_1.out HB.out)); (case side2 => exact HC0_1.out); rintro e w10 ⟨v106, rfl, ho0, hb⟩; refine ⟨_, rfl, ?_⟩; have n0_ := q0 (Kd.R_lower ho0 (below_size (qb HB.out))); have n1_ := q0 (kb BK105.out hb); have n2_ := q0 (below_step (qb HB.out) hb); clear BK105 HB; have HO107 := n0_; have BK105 := n1_; have HB := n2_; clear n0_ n1_ n2_; (try clear hb); (try clear hb2); (try clear hk); (try clear hi); (try clear ho0)) | ((with_reducible refine gate_dst (N := 7) rfl ?_); refine be 7 #[.int .i64 0, .slice none 0 0] 32 ?_; intro gb108 hg w11 hbox hb; have n0_ := q0 (Kd.R_below (qr HO107.out) hb); have n1_ := q0 (kb BK105.out hb); have n2_ := q0 (below_step (qb HB.out) hb); have n3_ := q0 (hbox); have n4_ := q0 ((bs HB.out hg : w.heap.size ≤ gb108)); have n5_ := q0 ((bs HB.out hg : w.heap.size ≤ gb108)); have n6_ := q0 ((bl BK105.out hg : gb105 ≠ gb108)); have n7_ := q0 ((bg BK105.out hg : gb108 ≠ gb105)); clear HO107 BK105 HB; have HO107 := n0_; have BK105 := n1_; have HB := n2_; have BK108 := n3_; have GW108 := n4_; have GE108 := n5_; have NB105_108 := n6_; have NB108_105 := n7_; clear n0_ n1_ n2_ n3_ n4_ n5_ n6_ n7_ hb hbox hg; have hnb12 := NB108_105.out; have hnc12 := NB105_108.out; have hcz13_0 : w11.cell? ⟨gb108, 0, none⟩ = some (.int .i64 0) := (blk_cell BK108.out 0).trans rfl; have hcz13_1 : w11.cell? ⟨gb108, 1, none⟩ = some (.slice none 0 0) := (blk_cell BK108.out 1).trans rfl; have hfz13_0 := blk_frozen BK108.out 0; have hfz13_1 := blk_frozen BK108.out 1; obtain ⟨Ao14, co14, eo14⟩ := Kd.R_slice HO107.out; subst eo14))
 have n0_ : Aside0 (Kd.R kTie 27 ((w11.setCell ⟨gb108, 0, none⟩ (.int .i64 t100)).setCell ⟨gb108, 1, none⟩ (.slice Ao14 t103.length co14)) w.heap.size (fun _ => True) (.slice Ao14 t103.length co14) t103) := ⟨by (with_reducible repeat (first | apply Kd.R_alloc | apply Kd.R_drewN | apply Kd.R_drew)); exact Kd.R_mono (Kd.R_far (p := ⟨gb108, 1, none⟩) (Kd.R_far (p := ⟨gb108, 0, none⟩) (Kd.R_types HO107.out BK108.out (by decide)) (fun _ hk => hk.2) (.int .i64 t100)) (fun _ hk => hk.2) (.slice Ao14 t103.length co14)) (fun _ hk => trivial)⟩
 have n1_ : Aside0 (((w11.setCell ⟨gb108, 0, none⟩ (.int .i64 t100)).setCell ⟨gb108, 1, none⟩ (.slice Ao14 t103.length co14)).heap[gb105]? = some (.cells #[.int .i64 a0_0, .slice A0_1 l0_1.length c0_1] 32 (0, 0))) := ⟨qf BK105.out⟩
 have n2_ : Aside0 (((w11.setCell ⟨gb108, 0, none⟩ (.int .i64 t100)).setCell ⟨gb108, 1, none⟩ (.slice Ao14 t103.length co14)).heap[gb108]? = some (.cells #[.int .i64 t100, .slice Ao14 t103.length co14] 32 (0, 0))) := ⟨by (with_reducible repeat (first | refine blk_drewN ?_ _ | refine blk_drew ?_ | refine blk_alloc ?_ _)); refine blk_put (cs := #[.int .i64 t100, .slice none 0 0]) ?_ 1 _ rfl; (with_reducible repeat (first | refine blk_drewN ?_ _ | refine blk_drew ?_ | refine blk_alloc ?_ _)); refine blk_put (cs := #[.int .i64 0, .slice none 0 0]) ?_ 0 _ rfl; (with_reducible repeat (first | refine blk_drewN ?_ _ | refine blk_drew ?_ | refine blk_alloc ?_ _)); exact BK108.out⟩
 have n3_ : Aside0 (Below w.heap.size w ((w11.setCell ⟨gb108, 0, none⟩ (.int .i64 t100)).setCell ⟨gb108, 1, none⟩ (.slice Ao14 t103.length co14))) := ⟨qb HB.out⟩
 (try clear HO107)
 (try clear BK105)
 (try clear BK108)
 (try clear HB)
 generalize ((w11.setCell ⟨gb108, 0, none⟩ (.int .i64 t100)).setCell ⟨gb108, 1, none⟩ (.slice Ao14 t103.length co14)) = w15 at n0_ n1_ n2_ n3_ ⊢
 have HO107 := n0_
 have BK105 := n1_
 have BK108 := n2_
 have HB := n3_
 clear n0_ n1_ n2_ n3_
 have n0_ := q0 (Kd.R_drew HO107.out)
 have n1_ := q0 (blk_drew BK105.out)
 have n2_ := q0 (blk_drew BK108.out)
 have n3_ := q0 (below_drew1 HB.out)
 clear HO107
 clear BK105
 clear BK108
 clear HB
 have HO107 := n0_
 have BK105 := n1_
 have BK108 := n2_
 have HB := n3_
 clear n0_ n1_ n2_ n3_
 refine start_ (n := 9) (S := fun w' => w'.cell? ⟨gb108, 0, none⟩ = some (.int .i64 t100) ∧ w'.cell? ⟨gb108, 1, none⟩ = some (.slice Ao14 t103.length co14) ∧ w'.cell? ⟨gb105, 0, none⟩ = some (.int .i64 a0_0) ∧ w'.cell? ⟨gb105, 1, none⟩ = some (.slice A0_1 l0_1.length c0_1)) (ds := []) (ba 9 0) (by kernel_rfl) rfl (by kernel_rfl) ⟨(blk_cell BK108.out 0).trans rfl, (blk_cell BK108.out 1).trans rfl, (blk_cell BK105.out 0).trans rfl, (blk_cell BK105.out 1).trans rfl⟩ (fun hHeld => ?_); refine with_tabW spec_BridgeIs.tab2 spec_BridgeIs.bits2 (fun HT_ HW_ => ?_)
 generalize w15.drew = w16 at HO107 BK105 BK108 HB hHeld ⊢
 refine pu 0 (some 16) (ba 9 1) HT_.out ?_
 refine pu 1 (some 17) (ba 9 3) HT_.out ?_
 refine tu 2 (some 18) (ba 9 7) HT_.out HW_.out hHeld ?_
 refine tu 4 (some 20) (ba 9 23) HT_.out HW_.out hHeld ?_
 refine one_ (i := 3) (N := some 19) (ba 9 31) rfl rfl (one_of HT_.out (by kernel_rfl)) (by decide) (fun K hK => ?_)
 refine goes_ Try.func75 (by kernel_rfl) rfl #[.agg #[.int .i64 t100, .slice Ao14 t103.length co14]] (by rfl) rfl rfl qm ?_
 with_reducible refine (spec_WayCount.calls k t100 _ _ t103 t101 _ ?side1 ?side2 A6.out).mono ?_
 (case side1 => exact qc (Kd.R_reads' HO107.out).2.2)
 (case side2 => exact (Kd.R_reads' HO107.out).2.1)
 rintro e w17 ⟨rfl, hb⟩
 refine ⟨_, rfl, ?_⟩
 have n0_ := q0 (Kd.R_below (qr HO107.out) hb)
 have n1_ := q0 (kb BK105.out hb)
 have n2_ := q0 (kb BK108.out hb)
 have n3_ := q0 (below_step (qb HB.out) hb)
 clear HO107
 clear BK105
 clear BK108
 clear HB
 have HO107 := n0_
 have BK105 := n1_
 have BK108 := n2_
 have HB := n3_
 clear n0_ n1_ n2_ n3_
 (try clear hb)
 (try clear hb2)
 (try clear hk)
 (try clear hi)
 refine hK.out _ _ ⟨(blk_cell BK108.out 0).trans rfl, (blk_cell BK108.out 1).trans rfl, (blk_cell BK105.out 0).trans rfl, (blk_cell BK105.out 1).trans rfl⟩ (fun hHeld => ?_)
 clear hK K
 refine nu 19 ?_
 refine one_ (i := 5) (N := some 21) (ba 9 63) rfl rfl (one_of HT_.out (by kernel_rfl)) (by decide) (fun K hK => ?_)
 refine goes_ Try.func75 (by kernel_rfl) rfl #[.agg #[.int .i64 a0_0, .slice A0_1 l0_1.length c0_1]] (by rfl) rfl rfl qm ?_
 with_reducible refine (spec_WayCount.calls k a0_0 _ _ l0_1 t102 _ ?side1 ?side2 A7.out).mono ?_
 (case side1 => exact qc (Kd.C_below HR0_1.out HB.out))
 (case side2 => exact HC0_1.out)
 rintro e w18 ⟨rfl, hb⟩
 refine ⟨_, rfl, ?_⟩
 have n0_ := q0 (Kd.R_below (qr HO107.out) hb)
 have n1_ := q0 (kb BK105.out hb)
 have n2_ := q0 (kb BK108.out hb)
 have n3_ := q0 (below_step (qb HB.out) hb)
 clear HO107
 clear BK105
 clear BK108
 clear HB
 have HO107 := n0_
 have BK105 := n1_
 have BK108 := n2_
 have HB := n3_
 clear n0_ n1_ n2_ n3_
 (try clear hb)
 (try clear hb2)
 (try clear hk)
 (try clear hi)
 refine hK.out _ _ ⟨(blk_cell BK108.out 0).trans rfl, (blk_cell BK108.out 1).trans rfl, (blk_cell BK105.out 0).trans rfl, (blk_cell BK105.out 1).trans rfl⟩ (fun hHeld => ?_)
 clear hK K
 refine nu 21 ?_
 refine pu 6 (some 22) (ba 9 127) HT_.out ?_
 refine pu 7 (some 23) (ba 9 255) HT_.out ?_
 refine pu 8 (some 6) (ba 9 511) HT_.out ?_
 refine done_ (done_of HT_.out (by kernel_rfl)) ?_
 try go_wp2
 go_ret
 exact ⟨qe, qb HB.out⟩

def spec_BridgeList.T7 : Bool × List (List Nat × List Nat) := (true, [([], []), ([], []), ([1], [1]), ([], []), ([2, 3], [2, 3]), ([4], [4]), ([5], [5]), ([], []), ([7], [7]), ([], []), ([8, 9], [8, 9]), ([10], [10]), ([11], [11]), ([0, 6, 12], [0, 6, 12])])
def spec_BridgeList.B7 : List Nat := [0, 0, 2, 0, 14, 30, 62, 0, 128, 0, 896, 1920, 3968, 8191]
theorem spec_BridgeList.tab7 : rtab .any (opsOf Try.f26 7) = spec_BridgeList.T7 := by kernel_rfl
theorem spec_BridgeList.bits7 : waitsOk spec_BridgeList.T7.2 spec_BridgeList.B7 = true := by kernel_rfl
set_option maxHeartbeats 8000000 in
set_option maxRecDepth 100000 in
theorem spec_BridgeList.calls (k : Nat) (a0_0 : Int) (A0_1 : Option Addr) (c0_1 : Nat) (l0_1 : List (STie)) (r : List (STie)) (w : World) (hr0_1 : Kd.C kTie w A0_1 l0_1.length l0_1) (hc0_1 : l0_1.length ≤ c0_1) (h : spec_BridgeList.f k a0_0 l0_1 = some r) :
    Calls Try.prog 26 #[.agg #[.int .i64 a0_0, .slice A0_1 l0_1.length c0_1]] w fun e w' => ∃ v0_ : Value, e = .returned (v0_) ∧ Kd.R kTie 27 w' w.heap.size (fun _ => True) v0_ r ∧ Below w.heap.size w w' := by
 have hu32 := Try.underlying32
 have hu27 := Try.underlying27
 have HR0_1 := Aside0.mk hr0_1
 have HC0_1 := Aside0.mk hc0_1
 clear hr0_1 hc0_1
 have HB := q0 (Below.refl w.heap.size w)
 have H : ((some (([] : List (STie)) : List (STie))).bind fun y100 => ((spec_NetOk.f k a0_0 l0_1).bind fun t102 => (if t102 = true then (spec_BridgeList.l0 k y100 0 a0_0 l0_1) else (some y100)))) = some r := h
 clear h
 obtain ⟨y100, hy100⟩ : ∃ y_ : List (STie), y_ = (([] : List (STie))) := ⟨_, rfl⟩
 replace H : ((spec_NetOk.f k a0_0 l0_1).bind fun t102 => (if t102 = true then (spec_BridgeList.l0 k y100 0 a0_0 l0_1) else (some y100))) = some r := by first | (rw [hy100]; with_reducible exact H) | (have H2_ := (Option.bind_some _ _).symm.trans H; rw [hy100]; with_reducible exact H2_) | (have H2_ := (Option.bind_some _ _).symm.trans H; with_reducible exact H2_) | with_reducible exact H | (rw [hy100]; exact H) | exact H
 have Ny100 := Aside0.mk hy100
 clear hy100
 replace H := Option.bind_eq_some_iff.mp H
 obtain ⟨t102, A20, H⟩ := H
 replace H : (if t102 = true then (spec_BridgeList.l0 k y100 0 a0_0 l0_1) else (some y100)) = some r := H
 have A2 := Aside0.mk A20
 clear A20
 by_cases c3 : t102 = true
 rotate_left
 · replace c3 := Bool.eq_false_iff.mpr c3
   subst c3
   have H1 : (some y100) = some r := by rw [if_neg (show ¬ (false = true) by decide)] at H; exact H
   clear H
   have H := H1
   clear H1
   obtain rfl := Option.some.inj H
   go_enter Try.func26, Try.ntmps26
   go_wp2_with (first | ((with_reducible refine gate_dst (N := 1) rfl ?_); refine be 1 #[.int .i64 a0_0, .slice A0_1 l0_1.length c0_1] 32 ?_; intro gb103 hg w23 hbox hb; have n0_ := q0 (below_step (qb HB.out) hb); have n1_ := q0 (hbox); have n2_ := q0 ((bs HB.out hg : w.heap.size ≤ gb103)); have n3_ := q0 ((bs HB.out hg : w.heap.size ≤ gb103)); clear HB; have HB := n0_; have BK103 := n1_; have GW103 := n2_; have GE103 := n3_; clear n0_ n1_ n2_ n3_ hb hbox hg) | ((with_reducible refine gate_dst (N := 5) rfl ?_); refine Kd.R_lit kTie _ 27 ?hg (N := 5) ?hd (xs := ([] : List (STie))) (inner := []) (ok := fun _ => True) (okp := fun _ => True) ?hr ?hp (fun _ hk => hk) trivial (Below.refl _ _) (Nat.le_refl _) (by simp) ?_; (case hd => rfl); (case hg => rfl); (case hr => first | (go_simp; done) | (go_simp; rfl)); (case hp => exact (Reps.none _ _)); intro v104 w24 ho25 hb hg_ hnew_; clear hg_ hnew_; (first | rw [← Ny100.out] at ho25 | (simp only [Int.reduceToNat] at ho25; rw [← Ny100.out] at ho25)); have n0_ := q0 (Kd.R_lower ho25 (below_size (qb HB.out))); have n1_ := q0 (kb BK103.out hb); have n2_ := q0 (below_step (qb HB.out) hb); clear BK103 HB; have HO105 := n0_; have BK103 := n1_; have HB := n2_; clear n0_ n1_ n2_ hb ho25; have hcz26_0 : w24.cell? ⟨gb103, 0, none⟩ = some (.int .i64 a0_0) := (blk_cell BK103.out 0).trans rfl; have hcz26_1 : w24.cell? ⟨gb103, 1, none⟩ = some (.slice A0_1 l0_1.length c0_1) := (blk_cell BK103.out 1).trans rfl; have hfz26_0 := blk_frozen BK103.out 0; have hfz26_1 := blk_frozen BK103.out 1) | ((with_reducible refine gate_callee (f := 23) rfl ?_); refine goesL_ (some 7) rfl rfl Try.func23 (by kernel_rfl) rfl #[.agg #[.int .i64 a0_0, .slice A0_1 l0_1.length c0_1]] rfl qm ?_; (with_reducible refine (spec_NetOk.calls k a0_0 _ _ l0_1 false _ ?side1 ?side2 A2.out).mono ?_); (case side1 => exact qc (Kd.C_below HR0_1.out HB.out)); (case side2 => exact HC0_1.out); rintro e w27 ⟨rfl, hb⟩; refine ⟨_, rfl, ?_⟩; have n0_ := q0 (Kd.R_below (qr HO105.out) hb); have n1_ := q0 (kb BK103.out hb); have n2_ := q0 (below_step (qb HB.out) hb); clear HO105 BK103 HB; have HO105 := n0_; have BK103 := n1_; have HB := n2_; clear n0_ n1_ n2_; (try clear hb); (try clear hb2); (try clear hk); (try clear hi)))
   go_ret
   exact ⟨_, qe, by (with_reducible repeat (first | apply Kd.R_alloc | apply Kd.R_drewN | apply Kd.R_drew)); exact HO105.out, qb HB.out⟩
 subst c3
 have H1 : (spec_BridgeList.l0 k y100 0 a0_0 l0_1) = some r := by rw [if_pos rfl] at H; exact H
 clear H
 have H := H1
 clear H1
 have H' := Aside0.mk H
 clear H
 go_enter Try.func26, Try.ntmps26
 go_wp2_with (first | ((with_reducible refine gate_dst (N := 1) rfl ?_); refine be 1 #[.int .i64 a0_0, .slice A0_1 l0_1.length c0_1] 32 ?_; intro gb103 hg w4 hbox hb; have n0_ := q0 (below_step (qb HB.out) hb); have n1_ := q0 (hbox); have n2_ := q0 ((bs HB.out hg : w.heap.size ≤ gb103)); have n3_ := q0 ((bs HB.out hg : w.heap.size ≤ gb103)); clear HB; have HB := n0_; have BK103 := n1_; have GW103 := n2_; have GE103 := n3_; clear n0_ n1_ n2_ n3_ hb hbox hg) | ((with_reducible refine gate_dst (N := 5) rfl ?_); refine Kd.R_lit kTie _ 27 ?hg (N := 5) ?hd (xs := ([] : List (STie))) (inner := []) (ok := fun _ => True) (okp := fun _ => True) ?hr ?hp (fun _ hk => hk) trivial (Below.refl _ _) (Nat.le_refl _) (by simp) ?_; (case hd => rfl); (case hg => rfl); (case hr => first | (go_simp; done) | (go_simp; rfl)); (case hp => exact (Reps.none _ _)); intro v104 w5 ho6 hb hg_ hnew_; clear hg_ hnew_; (first | rw [← Ny100.out] at ho6 | (simp only [Int.reduceToNat] at ho6; rw [← Ny100.out] at ho6)); have n0_ := q0 (Kd.R_lower ho6 (below_size (qb HB.out))); have n1_ := q0 (kb BK103.out hb); have n2_ := q0 (below_step (qb HB.out) hb); clear BK103 HB; have HO105 := n0_; have BK103 := n1_; have HB := n2_; clear n0_ n1_ n2_ hb ho6; have hcz7_0 : w5.cell? ⟨gb103, 0, none⟩ = some (.int .i64 a0_0) := (blk_cell BK103.out 0).trans rfl; have hcz7_1 : w5.cell? ⟨gb103, 1, none⟩ = some (.slice A0_1 l0_1.length c0_1) := (blk_cell BK103.out 1).trans rfl; have hfz7_0 := blk_frozen BK103.out 0; have hfz7_1 := blk_frozen BK103.out 1) | ((with_reducible refine gate_callee (f := 23) rfl ?_); refine goesL_ (some 7) rfl rfl Try.func23 (by kernel_rfl) rfl #[.agg #[.int .i64 a0_0, .slice A0_1 l0_1.length c0_1]] rfl qm ?_; (with_reducible refine (spec_NetOk.calls k a0_0 _ _ l0_1 true _ ?side1 ?side2 A2.out).mono ?_); (case side1 => exact qc (Kd.C_below HR0_1.out HB.out)); (case side2 => exact HC0_1.out); rintro e w8 ⟨rfl, hb⟩; refine ⟨_, rfl, ?_⟩; have n0_ := q0 (Kd.R_below (qr HO105.out) hb); have n1_ := q0 (kb BK103.out hb); have n2_ := q0 (below_step (qb HB.out) hb); clear HO105 BK103 HB; have HO105 := n0_; have BK103 := n1_; have HB := n2_; clear n0_ n1_ n2_; (try clear hb); (try clear hb2); (try clear hk); (try clear hi)))
 go_loopg [3, 4] k (fun kq v3 v4 w' => ∃ (x3_1 : List (STie)) (x4_1 : Int), v4 = .int .i64 x4_1 ∧ Aside0 (spec_BridgeList.l0 kq x3_1 x4_1 a0_0 l0_1 = some r) ∧ Aside0 (kq ≤ k) ∧ Aside0 (Kd.R kTie 27 w' w.heap.size (fun _ => True) v3 x3_1) ∧ Aside0 (w'.heap[gb103]? = some (.cells #[.int .i64 a0_0, (.slice A0_1 l0_1.length c0_1)] 32 (0, 0))) ∧ Aside0 (Below w.heap.size w w'))
 case atStart => exact ⟨(y100), (0), qs, H', ⟨Nat.le_refl _⟩, ⟨qr HO105.out⟩, ⟨qk BK103.out⟩, ⟨qb HB.out⟩⟩
 clear H'
 try clear c2
 try clear p2
 try clear c3
 try clear hcz7_0
 try clear hcz7_1
 try clear hfz7_0
 try clear hfz7_1
 obtain ⟨x3_1, x4_1, rfl, HA, HK1, HO_3, BK103, HB⟩ := hrel
 rcases gk with _ | k1
 · exact absurd HA.out (by simp [spec_BridgeList.l0])
 have H := HA.out
 clear HA
 simp only [spec_BridgeList.l0] at H
 by_cases c9 : x4_1 < (l0_1.length : Int)
 rotate_left
 · rw [if_neg c9] at H
   have c9b0 : decide (x4_1 < (l0_1.length : Int)) = false := decide_eq_false c9
   clear c9
   obtain rfl := Option.some.inj H
   have hcz22_0 : wr.cell? ⟨gb103, 0, none⟩ = some (.int .i64 a0_0) := (blk_cell BK103.out 0).trans rfl
   have hcz22_1 : wr.cell? ⟨gb103, 1, none⟩ = some (.slice A0_1 l0_1.length c0_1) := (blk_cell BK103.out 1).trans rfl
   have hfz22_0 := blk_frozen BK103.out 0
   have hfz22_1 := blk_frozen BK103.out 1
   go_wp2
   go_ret
   exact ⟨_, qe, by (with_reducible repeat (first | apply Kd.R_alloc | apply Kd.R_drewN | apply Kd.R_drew)); exact HO_3.out, qb HB.out⟩
 rw [if_pos c9] at H
 have c9b0 : decide (x4_1 < (l0_1.length : Int)) = true := decide_eq_true c9
 clear c9
 by_cases c10 : 0 ≤ x4_1
 rotate_left
 · rw [if_neg c10] at H
   exact absurd H (by simp)
 rw [if_pos c10] at H
 have c10b0 : decide (0 ≤ x4_1) = true := decide_eq_true c10
 clear c10
 replace H := Option.bind_eq_some_iff.mp H
 obtain ⟨t101, A106, H⟩ := H
 replace H : (if t101 = true then (if x3_1.length < 8796093022208 then (spec_BridgeList.l0 k1 (x3_1 ++ [(⟨(rd_TTie l0_1 x4_1).f0, (rd_TTie l0_1 x4_1).f1⟩ : STie)]) (wrap64 (x4_1 + 1)) a0_0 l0_1) else (none)) else (spec_BridgeList.l0 k1 x3_1 (wrap64 (x4_1 + 1)) a0_0 l0_1)) = some r := H
 have A11 := Aside0.mk A106
 clear A106
 by_cases c12 : t101 = true
 rotate_left
 · replace c12 := Bool.eq_false_iff.mpr c12
   subst c12
   have H1 : (spec_BridgeList.l0 k1 x3_1 (wrap64 (x4_1 + 1)) a0_0 l0_1) = some r := by rw [if_neg (show ¬ (false = true) by decide)] at H; exact H
   clear H
   have H := H1
   clear H1
   have H' := Aside0.mk H
   clear H
   have hcz19_0 : wr.cell? ⟨gb103, 0, none⟩ = some (.int .i64 a0_0) := (blk_cell BK103.out 0).trans rfl
   have hcz19_1 : wr.cell? ⟨gb103, 1, none⟩ = some (.slice A0_1 l0_1.length c0_1) := (blk_cell BK103.out 1).trans rfl
   have hfz19_0 := blk_frozen BK103.out 0
   have hfz19_1 := blk_frozen BK103.out 1
   try go_wp2
   have n0_ := q0 (Kd.R_drew HO_3.out)
   have n1_ := q0 (blk_drew BK103.out)
   have n2_ := q0 (below_drew1 HB.out)
   clear HO_3
   clear BK103
   clear HB
   have HO_3 := n0_
   have BK103 := n1_
   have HB := n2_
   clear n0_ n1_ n2_
   have p108 : 0 ≤ (x4_1 : Int) := of_decide_eq_true qa
   have q108 : x4_1 < (l0_1.length : Int) := of_decide_eq_true qa
   obtain ⟨ad108, e108, hx108_0, hx108_1⟩ := at_TTie HR0_1.out x4_1 p108 q108
   have hw108_1 := hx108_1
   have hw108_0 := hx108_0
   cases e108
   replace hx108_0 := (HB.out.cell (World.block_lt_of_cell? w _ hx108_0)).trans hx108_0
   replace hx108_1 := (HB.out.cell (World.block_lt_of_cell? w _ hx108_1)).trans hx108_1
   replace p108 := eq_true p108
   replace q108 := eq_true q108
   have p109 : 0 ≤ (x4_1 : Int) := of_decide_eq_true qa
   have q109 : x4_1 < (l0_1.length : Int) := of_decide_eq_true qa
   obtain ⟨ad109, e109, hx109_0, hx109_1⟩ := at_TTie HR0_1.out x4_1 p109 q109
   have hw109_1 := hx109_1
   have hw109_0 := hx109_0
   obtain rfl : ad108 = ad109 := (by injection e109)
   replace hx109_0 := (HB.out.cell (World.block_lt_of_cell? w _ hx109_0)).trans hx109_0
   replace hx109_1 := (HB.out.cell (World.block_lt_of_cell? w _ hx109_1)).trans hx109_1
   replace p109 := eq_true p109
   replace q109 := eq_true q109
   refine start_ (n := 14) (S := fun w' => w'.cell? ⟨gb103, 0, none⟩ = some (.int .i64 a0_0) ∧ w'.cell? ⟨gb103, 1, none⟩ = some (.slice (some ad108) l0_1.length c0_1) ∧ w'.cell? (ad108.add ((x4_1).toNat * 2)) = some (.int .i64 ((rd_TTie l0_1 x4_1).f0)) ∧ w'.cell? ⟨(ad108.add ((x4_1).toNat * 2)).block, (ad108.add ((x4_1).toNat * 2)).off + 1, none⟩ = some (.int .i64 ((rd_TTie l0_1 x4_1).f1)) ∧ w'.cell? (ad108.add ((x4_1).toNat * 2)) = some (.int .i64 ((rd_TTie l0_1 x4_1).f0)) ∧ w'.cell? ⟨(ad108.add ((x4_1).toNat * 2)).block, (ad108.add ((x4_1).toNat * 2)).off + 1, none⟩ = some (.int .i64 ((rd_TTie l0_1 x4_1).f1))) (ds := []) (ba 14 0) (by kernel_rfl) rfl (by kernel_rfl) ⟨(blk_cell BK103.out 0).trans rfl, (blk_cell BK103.out 1).trans rfl, ((HB.out.cell (World.block_lt_of_cell? w _ hw108_0)).trans hw108_0), ((HB.out.cell (World.block_lt_of_cell? w _ hw108_1)).trans hw108_1), ((HB.out.cell (World.block_lt_of_cell? w _ hw109_0)).trans hw109_0), ((HB.out.cell (World.block_lt_of_cell? w _ hw109_1)).trans hw109_1)⟩ (fun hHeld => ?_); refine with_tabW spec_BridgeList.tab7 spec_BridgeList.bits7 (fun HT_ HW_ => ?_)
   generalize wr.drew = w20 at HO_3 BK103 HB hx108_0 hx108_1 hx109_0 hx109_1 hHeld ⊢
   refine pu 1 (some 18) (ba 14 2) HT_.out ?_
   refine pu 3 (some 20) (ba 14 10) HT_.out ?_
   refine pu 7 (some 24) (ba 14 138) HT_.out ?_
   refine pu 9 (some 26) (ba 14 650) HT_.out ?_
   refine tu 0 (some 17) (ba 14 651) HT_.out HW_.out hHeld ?_
   refine tu 2 (some 19) (ba 14 655) HT_.out HW_.out hHeld ?_
   refine pu 4 (some 21) (ba 14 671) HT_.out ?_
   refine pu 5 (some 22) (ba 14 703) HT_.out ?_
   refine tu 6 (some 23) (ba 14 767) HT_.out HW_.out hHeld ?_
   refine tu 8 (some 25) (ba 14 1023) HT_.out HW_.out hHeld ?_
   refine pu 10 (some 27) (ba 14 2047) HT_.out ?_
   refine pu 11 (some 28) (ba 14 4095) HT_.out ?_
   refine tu 12 (some 29) (ba 14 8191) HT_.out HW_.out hHeld ?_
   refine one_ (i := 13) (N := some 30) (ba 14 16383) rfl rfl (one_of HT_.out (by kernel_rfl)) (by decide) (fun K hK => ?_)
   refine goes_ Try.func66 (by kernel_rfl) rfl #[.agg #[.int .i64 a0_0, .slice (some ad108) l0_1.length c0_1], .int .i64 ((rd_TTie l0_1 x4_1).f0), .int .i64 ((rd_TTie l0_1 x4_1).f1)] (by rfl) rfl rfl qm ?_
   with_reducible refine (spec_BridgeIs.calls k1 a0_0 _ _ l0_1 ((rd_TTie l0_1 x4_1).f0) ((rd_TTie l0_1 x4_1).f1) false _ ?side1 ?side2 A11.out).mono ?_
   (case side1 => exact qc (Kd.C_below HR0_1.out HB.out))
   (case side2 => exact HC0_1.out)
   rintro e w21 ⟨rfl, hb⟩
   refine ⟨_, rfl, ?_⟩
   have n0_ := q0 (Kd.R_below (qr HO_3.out) hb)
   have n1_ := q0 (kb BK103.out hb)
   have n2_ := q0 (below_step (qb HB.out) hb)
   clear HO_3
   clear BK103
   clear HB
   have HO_3 := n0_
   have BK103 := n1_
   have HB := n2_
   clear n0_ n1_ n2_
   (try clear hb)
   (try clear hb2)
   (try clear hk)
   (try clear hi)
   refine hK.out _ _ ⟨(blk_cell BK103.out 0).trans rfl, (blk_cell BK103.out 1).trans rfl, ((HB.out.cell (World.block_lt_of_cell? w _ hw108_0)).trans hw108_0), ((HB.out.cell (World.block_lt_of_cell? w _ hw108_1)).trans hw108_1), ((HB.out.cell (World.block_lt_of_cell? w _ hw109_0)).trans hw109_0), ((HB.out.cell (World.block_lt_of_cell? w _ hw109_1)).trans hw109_1)⟩ (fun hHeld => ?_)
   clear hK K
   refine nu 30 ?_
   refine done_ (done_of HT_.out (by kernel_rfl)) ?_
   try go_wp2
   go_roundg k1
   case measure => have := HK1.out; omega
   case rel => exact ⟨(x3_1), (wrap64 (x4_1 + 1)), qs, H', ⟨by have := HK1.out; omega⟩, ⟨qr HO_3.out⟩, ⟨qk BK103.out⟩, ⟨qb HB.out⟩⟩
 subst c12
 have H1 : (if x3_1.length < 8796093022208 then (spec_BridgeList.l0 k1 (x3_1 ++ [(⟨(rd_TTie l0_1 x4_1).f0, (rd_TTie l0_1 x4_1).f1⟩ : STie)]) (wrap64 (x4_1 + 1)) a0_0 l0_1) else (none)) = some r := by rw [if_pos rfl] at H; exact H
 clear H
 have H := H1
 clear H1
 by_cases c13 : x3_1.length < 8796093022208
 rotate_left
 · rw [if_neg c13] at H
   exact absurd H (by simp)
 rw [if_pos c13] at H
 have LMc13 := Aside0.mk c13
 clear c13
 obtain ⟨y107, hy107⟩ : ∃ y_ : List (STie), y_ = (x3_1 ++ [(⟨(rd_TTie l0_1 x4_1).f0, (rd_TTie l0_1 x4_1).f1⟩ : STie)]) := ⟨_, rfl⟩
 replace H : (spec_BridgeList.l0 k1 y107 (wrap64 (x4_1 + 1)) a0_0 l0_1) = some r := by first | (rw [hy107]; with_reducible exact H) | (have H2_ := (Option.bind_some _ _).symm.trans H; rw [hy107]; with_reducible exact H2_) | (have H2_ := (Option.bind_some _ _).symm.trans H; with_reducible exact H2_) | with_reducible exact H | (rw [hy107]; exact H) | exact H
 have Ny107 := Aside0.mk hy107
 clear hy107
 have H' := Aside0.mk H
 clear H
 have hcz14_0 : wr.cell? ⟨gb103, 0, none⟩ = some (.int .i64 a0_0) := (blk_cell BK103.out 0).trans rfl
 have hcz14_1 : wr.cell? ⟨gb103, 1, none⟩ = some (.slice A0_1 l0_1.length c0_1) := (blk_cell BK103.out 1).trans rfl
 have hfz14_0 := blk_frozen BK103.out 0
 have hfz14_1 := blk_frozen BK103.out 1
 try go_wp2
 have n0_ := q0 (Kd.R_drew HO_3.out)
 have n1_ := q0 (blk_drew BK103.out)
 have n2_ := q0 (below_drew1 HB.out)
 clear HO_3
 clear BK103
 clear HB
 have HO_3 := n0_
 have BK103 := n1_
 have HB := n2_
 clear n0_ n1_ n2_
 have p108 : 0 ≤ (x4_1 : Int) := of_decide_eq_true qa
 have q108 : x4_1 < (l0_1.length : Int) := of_decide_eq_true qa
 obtain ⟨ad108, e108, hx108_0, hx108_1⟩ := at_TTie HR0_1.out x4_1 p108 q108
 have hw108_1 := hx108_1
 have hw108_0 := hx108_0
 cases e108
 replace hx108_0 := (HB.out.cell (World.block_lt_of_cell? w _ hx108_0)).trans hx108_0
 replace hx108_1 := (HB.out.cell (World.block_lt_of_cell? w _ hx108_1)).trans hx108_1
 replace p108 := eq_true p108
 replace q108 := eq_true q108
 have p109 : 0 ≤ (x4_1 : Int) := of_decide_eq_true qa
 have q109 : x4_1 < (l0_1.length : Int) := of_decide_eq_true qa
 obtain ⟨ad109, e109, hx109_0, hx109_1⟩ := at_TTie HR0_1.out x4_1 p109 q109
 have hw109_1 := hx109_1
 have hw109_0 := hx109_0
 obtain rfl : ad108 = ad109 := (by injection e109)
 replace hx109_0 := (HB.out.cell (World.block_lt_of_cell? w _ hx109_0)).trans hx109_0
 replace hx109_1 := (HB.out.cell (World.block_lt_of_cell? w _ hx109_1)).trans hx109_1
 replace p109 := eq_true p109
 replace q109 := eq_true q109
 refine start_ (n := 14) (S := fun w' => w'.cell? ⟨gb103, 0, none⟩ = some (.int .i64 a0_0) ∧ w'.cell? ⟨gb103, 1, none⟩ = some (.slice (some ad108) l0_1.length c0_1) ∧ w'.cell? (ad108.add ((x4_1).toNat * 2)) = some (.int .i64 ((rd_TTie l0_1 x4_1).f0)) ∧ w'.cell? ⟨(ad108.add ((x4_1).toNat * 2)).block, (ad108.add ((x4_1).toNat * 2)).off + 1, none⟩ = some (.int .i64 ((rd_TTie l0_1 x4_1).f1)) ∧ w'.cell? (ad108.add ((x4_1).toNat * 2)) = some (.int .i64 ((rd_TTie l0_1 x4_1).f0)) ∧ w'.cell? ⟨(ad108.add ((x4_1).toNat * 2)).block, (ad108.add ((x4_1).toNat * 2)).off + 1, none⟩ = some (.int .i64 ((rd_TTie l0_1 x4_1).f1))) (ds := []) (ba 14 0) (by kernel_rfl) rfl (by kernel_rfl) ⟨(blk_cell BK103.out 0).trans rfl, (blk_cell BK103.out 1).trans rfl, ((HB.out.cell (World.block_lt_of_cell? w _ hw108_0)).trans hw108_0), ((HB.out.cell (World.block_lt_of_cell? w _ hw108_1)).trans hw108_1), ((HB.out.cell (World.block_lt_of_cell? w _ hw109_0)).trans hw109_0), ((HB.out.cell (World.block_lt_of_cell? w _ hw109_1)).trans hw109_1)⟩ (fun hHeld => ?_); refine with_tabW spec_BridgeList.tab7 spec_BridgeList.bits7 (fun HT_ HW_ => ?_)
 generalize wr.drew = w15 at HO_3 BK103 HB hx108_0 hx108_1 hx109_0 hx109_1 hHeld ⊢
 refine pu 1 (some 18) (ba 14 2) HT_.out ?_
 refine pu 3 (some 20) (ba 14 10) HT_.out ?_
 refine pu 7 (some 24) (ba 14 138) HT_.out ?_
 refine pu 9 (some 26) (ba 14 650) HT_.out ?_
 refine tu 0 (some 17) (ba 14 651) HT_.out HW_.out hHeld ?_
 refine tu 2 (some 19) (ba 14 655) HT_.out HW_.out hHeld ?_
 refine pu 4 (some 21) (ba 14 671) HT_.out ?_
 refine pu 5 (some 22) (ba 14 703) HT_.out ?_
 refine tu 6 (some 23) (ba 14 767) HT_.out HW_.out hHeld ?_
 refine tu 8 (some 25) (ba 14 1023) HT_.out HW_.out hHeld ?_
 refine pu 10 (some 27) (ba 14 2047) HT_.out ?_
 refine pu 11 (some 28) (ba 14 4095) HT_.out ?_
 refine tu 12 (some 29) (ba 14 8191) HT_.out HW_.out hHeld ?_
 refine one_ (i := 13) (N := some 30) (ba 14 16383) rfl rfl (one_of HT_.out (by kernel_rfl)) (by decide) (fun K hK => ?_)
 refine goes_ Try.func66 (by kernel_rfl) rfl #[.agg #[.int .i64 a0_0, .slice (some ad108) l0_1.length c0_1], .int .i64 ((rd_TTie l0_1 x4_1).f0), .int .i64 ((rd_TTie l0_1 x4_1).f1)] (by rfl) rfl rfl qm ?_
 with_reducible refine (spec_BridgeIs.calls k1 a0_0 _ _ l0_1 ((rd_TTie l0_1 x4_1).f0) ((rd_TTie l0_1 x4_1).f1) true _ ?side1 ?side2 A11.out).mono ?_
 (case side1 => exact qc (Kd.C_below HR0_1.out HB.out))
 (case side2 => exact HC0_1.out)
 rintro e w16 ⟨rfl, hb⟩
 refine ⟨_, rfl, ?_⟩
 have n0_ := q0 (Kd.R_below (qr HO_3.out) hb)
 have n1_ := q0 (kb BK103.out hb)
 have n2_ := q0 (below_step (qb HB.out) hb)
 clear HO_3
 clear BK103
 clear HB
 have HO_3 := n0_
 have BK103 := n1_
 have HB := n2_
 clear n0_ n1_ n2_
 (try clear hb)
 (try clear hb2)
 (try clear hk)
 (try clear hi)
 refine hK.out _ _ ⟨(blk_cell BK103.out 0).trans rfl, (blk_cell BK103.out 1).trans rfl, ((HB.out.cell (World.block_lt_of_cell? w _ hw108_0)).trans hw108_0), ((HB.out.cell (World.block_lt_of_cell? w _ hw108_1)).trans hw108_1), ((HB.out.cell (World.block_lt_of_cell? w _ hw109_0)).trans hw109_0), ((HB.out.cell (World.block_lt_of_cell? w _ hw109_1)).trans hw109_1)⟩ (fun hHeld => ?_)
 clear hK K
 refine nu 30 ?_
 refine done_ (done_of HT_.out (by kernel_rfl)) ?_
 have hcz17_0 : w16.cell? ⟨gb103, 0, none⟩ = some (.int .i64 a0_0) := (blk_cell BK103.out 0).trans rfl
 have hcz17_1 : w16.cell? ⟨gb103, 1, none⟩ = some (.slice (some ad108) l0_1.length c0_1) := (blk_cell BK103.out 1).trans rfl
 have hfz17_0 := blk_frozen BK103.out 0
 have hfz17_1 := blk_frozen BK103.out 1
 have p110 : 0 ≤ (x4_1 : Int) := of_decide_eq_true qa
 have q110 : x4_1 < (l0_1.length : Int) := of_decide_eq_true qa
 obtain ⟨ad110, e110, hx110_0, hx110_1⟩ := at_TTie HR0_1.out x4_1 p110 q110
 obtain rfl : ad108 = ad110 := (by injection e110)
 replace hx110_0 := (HB.out.cell (World.block_lt_of_cell? w _ hx110_0)).trans hx110_0
 replace hx110_1 := (HB.out.cell (World.block_lt_of_cell? w _ hx110_1)).trans hx110_1
 replace p110 := eq_true p110
 replace q110 := eq_true q110
 try go_wp2_with (first | ((with_reducible refine gate_builtin (b := .append) (xs := #[.tmp 31, .tmp 37]) rfl ?_); at_builtin; refine Kd.R_append kTie (w0 := w) w.heap.size rfl (.tmp 31) (.tmp 37) 30 27 (.agg #[(.int .i64 0), (.int .i64 0)]) 16 rfl Try.underlying30 info27 rfl (by decide) (by omega) u3 x3_1 (⟨(rd_TTie l0_1 x4_1).f0, (rd_TTie l0_1 x4_1).f1⟩ : STie) [.int .i64 ((rd_TTie l0_1 x4_1).f0), .int .i64 ((rd_TTie l0_1 x4_1).f1)] (fun _ => True) (fun _ => False) rfl rfl ?aP (fun _ hk => hk.elim) ?aF ?aO ?aB ?aS ?aL ?_; (case aP => exact kTie_mkM _ _ _ (⟨(rd_TTie l0_1 x4_1).f0, (rd_TTie l0_1 x4_1).f1⟩ : STie)); (case aB => exact (qb HB.out)); (case aF => exact (fun _ _ => trivial)); (case aO => exact (qr HO_3.out)); (case aS => exact (below_size (qb HB.out))); (case aL => have := LMc13.out; omega); intro v111 w18 ho hb hg hat; rw [← Ny107.out] at ho; have n0_ := q0 (blk_grown (g := gb103) (o := .cells #[.int .i64 a0_0, .slice (some ad108) l0_1.length c0_1] 32 (0, 0)) (qk BK103.out) hg (Kd.R_ne HO_3.out BK103.out (by decide))); have n1_ := q0 (hb); have n2_ := q0 (ho); clear BK103 HB HO_3; have BK103 := n0_; have HB := n1_; have HO112 := n2_; clear n0_ n1_ n2_ ho hb hg hat))
 go_roundg k1
 case measure => have := HK1.out; omega
 case rel => exact ⟨(y107), (wrap64 (x4_1 + 1)), qs, H', ⟨by have := HK1.out; omega⟩, ⟨qr HO112.out⟩, ⟨qk BK103.out⟩, ⟨qb HB.out⟩⟩

set_option maxHeartbeats 8000000 in
set_option maxRecDepth 100000 in
theorem impl_Net_less.calls (k : Nat) (a0_0 : Int) (A0_1 : Option Addr) (c0_1 : Nat) (l0_1 : List (STie)) (A1 : Option Addr) (c1 : Nat) (l1 : List (STie)) (r1 : Int) (r2 : List (STie)) (w : World) (hr0_1 : Kd.C kTie w A0_1 l0_1.length l0_1) (hc0_1 : l0_1.length ≤ c0_1) (hr1 : Kd.C kTie w A1 l1.length l1) (hc1 : l1.length ≤ c1) (h : impl_Net_less.f k a0_0 l0_1 l1 = some (r1, r2)) :
    Calls Try.prog 58 #[.agg #[.int .i64 a0_0, .slice A0_1 l0_1.length c0_1], .slice A1 l1.length c1] w fun e w' => ∃ v1_ : Value, e = .returned (.agg #[.int .i64 r1, v1_]) ∧ Kd.R kTie 27 w' w.heap.size (fun _ => True) v1_ r2 ∧ Below w.heap.size w w' := by
 have hu32 := Try.underlying32
 have hu27 := Try.underlying27
 have HR0_1 := Aside0.mk hr0_1
 have HC0_1 := Aside0.mk hc0_1
 clear hr0_1 hc0_1
 have HR1 := Aside0.mk hr1
 have HC1 := Aside0.mk hc1
 clear hr1 hc1
 have HB := q0 (Below.refl w.heap.size w)
 have H : (impl_Net_less.l0 k l1 l0_1 (l0_1.length : Int) 0 a0_0 (([] : List (STie)))) = some (r1, r2) := h
 clear h
 obtain ⟨y102, hy102⟩ : ∃ y_ : List (STie), y_ = (([] : List (STie))) := ⟨_, rfl⟩
 replace H : (impl_Net_less.l0 k l1 l0_1 (l0_1.length : Int) 0 a0_0 y102) = some (r1, r2) := by first | (rw [hy102]; with_reducible exact H) | (have H2_ := (Option.bind_some _ _).symm.trans H; rw [hy102]; with_reducible exact H2_) | (have H2_ := (Option.bind_some _ _).symm.trans H; with_reducible exact H2_) | with_reducible exact H | (rw [hy102]; exact H) | exact H
 have Ny102 := Aside0.mk hy102
 clear hy102
 have H' := Aside0.mk H
 clear H
 go_enter Try.func58, Try.ntmps58
 go_wp2_with (first | ((with_reducible refine gate_dst (N := 2) rfl ?_); refine be 2 #[.int .i64 a0_0, .slice A0_1 l0_1.length c0_1] 32 ?_; intro gb103 hg w3 hbox hb; have n0_ := q0 (below_step (qb HB.out) hb); have n1_ := q0 (hbox); have n2_ := q0 ((bs HB.out hg : w.heap.size ≤ gb103)); have n3_ := q0 ((bs HB.out hg : w.heap.size ≤ gb103)); clear HB; have HB := n0_; have BK103 := n1_; have GW103 := n2_; have GE103 := n3_; clear n0_ n1_ n2_ n3_ hb hbox hg) | ((with_reducible refine gate_dst (N := 4) rfl ?_); refine be 4 #[.int .i64 0, .slice none 0 0] 32 ?_; intro gb104 hg w4 hbox hb; have n0_ := q0 (kb BK103.out hb); have n1_ := q0 (below_step (qb HB.out) hb); have n2_ := q0 (hbox); have n3_ := q0 ((bs HB.out hg : w.heap.size ≤ gb104)); have n4_ := q0 ((bs HB.out hg : w.heap.size ≤ gb104)); have n5_ := q0 ((bl BK103.out hg : gb103 ≠ gb104)); have n6_ := q0 ((bg BK103.out hg : gb104 ≠ gb103)); clear BK103 HB; have BK103 := n0_; have HB := n1_; have BK104 := n2_; have GW104 := n3_; have GE104 := n4_; have NB103_104 := n5_; have NB104_103 := n6_; clear n0_ n1_ n2_ n3_ n4_ n5_ n6_ hb hbox hg; have hnb5 := NB103_104.out; have hnc5 := NB104_103.out; have hcz6_0 : w4.cell? ⟨gb103, 0, none⟩ = some (.int .i64 a0_0) := (blk_cell BK103.out 0).trans rfl; have hcz6_1 : w4.cell? ⟨gb103, 1, none⟩ = some (.slice A0_1 l0_1.length c0_1) := (blk_cell BK103.out 1).trans rfl; have hfz6_0 := blk_frozen BK103.out 0; have hfz6_1 := blk_frozen BK103.out 1) | ((with_reducible refine gate_dst (N := 10) rfl ?_); refine Kd.R_lit kTie _ 27 ?hg (N := 10) ?hd (xs := ([] : List (STie))) (inner := []) (ok := fun _ => True) (okp := fun _ => True) ?hr ?hp (fun _ hk => hk) trivial (Below.refl _ _) (Nat.le_refl _) (by simp) ?_; (case hd => rfl); (case hg => rfl); (case hr => first | (go_simp; done) | (go_simp; rfl)); (case hp => exact (Reps.none _ _)); intro v105 w7 ho8 hb hg_ hnew_; clear hg_ hnew_; (first | rw [← Ny102.out] at ho8 | (simp only [Int.reduceToNat] at ho8; rw [← Ny102.out] at ho8)); have n0_ := q0 (Kd.R_lower ho8 (below_size (qb HB.out))); have n1_ := q0 (kb BK103.out hb); have n2_ := q0 (kb BK104.out hb); have n3_ := q0 (below_step (qb HB.out) hb); clear BK103 BK104 HB; have HO106 := n0_; have BK103 := n1_; have BK104 := n2_; have HB := n3_; clear n0_ n1_ n2_ n3_ hb ho8; obtain ⟨Ao9, co9, eo9⟩ := Kd.R_slice HO106.out; subst eo9) | ((with_reducible refine gate_dst (N := 5) rfl ?_); refine be 5 #[.int .i64 0, .slice none 0 0] 32 ?_; intro gb107 hg w10 hbox hb; have n0_ := q0 (Kd.R_below (qr HO106.out) hb); have n1_ := q0 (kb BK103.out hb); have n2_ := q0 (kb BK104.out hb); have n3_ := q0 (below_step (qb HB.out) hb); have n4_ := q0 (hbox); have n5_ := q0 ((bs HB.out hg : w.heap.size ≤ gb107)); have n6_ := q0 ((bs HB.out hg : w.heap.size ≤ gb107)); have n7_ := q0 ((bl BK103.out hg : gb103 ≠ gb107)); have n8_ := q0 ((bg BK103.out hg : gb107 ≠ gb103)); have n9_ := q0 ((bl BK104.out hg : gb104 ≠ gb107)); have n10_ := q0 ((bg BK104.out hg : gb107 ≠ gb104)); clear HO106 BK103 BK104 HB; have HO106 := n0_; have BK103 := n1_; have BK104 := n2_; have HB := n3_; have BK107 := n4_; have GW107 := n5_; have GE107 := n6_; have NB103_107 := n7_; have NB107_103 := n8_; have NB104_107 := n9_; have NB107_104 := n10_; clear n0_ n1_ n2_ n3_ n4_ n5_ n6_ n7_ n8_ n9_ n10_ hb hbox hg; have hnb11 := NB107_103.out; have hnc11 := NB103_107.out; have hnb12 := NB107_104.out; have hnc12 := NB104_107.out; have hcz13_0 : w10.cell? ⟨gb107, 0, none⟩ = some (.int .i64 0) := (blk_cell BK107.out 0).trans rfl; have hcz13_1 : w10.cell? ⟨gb107, 1, none⟩ = some (.slice none 0 0) := (blk_cell BK107.out 1).trans rfl; have hfz13_0 := blk_frozen BK107.out 0; have hfz13_1 := blk_frozen BK107.out 1; have hcz14_0 : w10.cell? ⟨gb103, 0, none⟩ = some (.int .i64 a0_0) := (blk_cell BK103.out 0).trans rfl; have hcz14_1 : w10.cell? ⟨gb103, 1, none⟩ = some (.slice A0_1 l0_1.length c0_1) := (blk_cell BK103.out 1).trans rfl; have hfz14_0 := blk_frozen BK103.out 0; have hfz14_1 := blk_frozen BK103.out 1))
 go_loopg [15] k (fun kq v15 w' => ∃ (x15_1 : Int) (x100001_1 : List (STie)) (u100001 : Value), v15 = .int .i64 x15_1 ∧ Aside0 (impl_Net_less.l0 kq l1 l0_1 (l0_1.length : Int) x15_1 a0_0 x100001_1 = some (r1, r2)) ∧ Aside0 (kq ≤ k) ∧ Aside0 (Kd.R kTie 27 w' w.heap.size (fun _ => True) u100001 x100001_1) ∧ Aside0 (w'.heap[gb103]? = some (.cells #[.int .i64 a0_0, (.slice A0_1 l0_1.length c0_1)] 32 (0, 0))) ∧ Aside0 (w'.heap[gb104]? = some (.cells #[.int .i64 0, (.slice none 0 0)] 32 (0, 0))) ∧ Aside0 (w'.heap[gb107]? = some (.cells #[.int .i64 a0_0, u100001] 32 (0, 0))) ∧ Aside0 (Below w.heap.size w w'))
 case atStart => exact ⟨(0), (y102), (.slice Ao9 y102.length co9), qs, H', ⟨Nat.le_refl _⟩, ⟨by (with_reducible repeat (first | apply Kd.R_alloc | apply Kd.R_drewN | apply Kd.R_drew)); exact Kd.R_mono (Kd.R_far (p := ⟨gb107, 1, none⟩) (Kd.R_far (p := ⟨gb107, 0, none⟩) (Kd.R_types HO106.out BK107.out (by decide)) (fun _ hk => hk.2) (.int .i64 a0_0)) (fun _ hk => hk.2) (.slice Ao9 y102.length co9)) (fun _ hk => trivial)⟩, ⟨qf BK103.out⟩, ⟨qf BK104.out⟩, ⟨by (with_reducible repeat (first | refine blk_drewN ?_ _ | refine blk_drew ?_ | refine blk_alloc ?_ _)); refine blk_put (cs := #[.int .i64 a0_0, .slice none 0 0]) ?_ 1 _ rfl; (with_reducible repeat (first | refine blk_drewN ?_ _ | refine blk_drew ?_ | refine blk_alloc ?_ _)); refine blk_put (cs := #[.int .i64 0, .slice none 0 0]) ?_ 0 _ rfl; (with_reducible repeat (first | refine blk_drewN ?_ _ | refine blk_drew ?_ | refine blk_alloc ?_ _)); exact BK107.out⟩, ⟨qb HB.out⟩⟩
 clear H'
 try clear c1
 try clear p2
 try clear c5
 try clear c11
 try clear c12
 try clear hcz13_0
 try clear hcz13_1
 try clear hcz14_0
 try clear hcz14_1
 try clear hcz6_0
 try clear hcz6_1
 try clear hfz13_0
 try clear hfz13_1
 try clear hfz14_0
 try clear hfz14_1
 try clear hfz6_0
 try clear hfz6_1
 obtain ⟨x15_1, x100001_1, u100001, rfl, HA, HK1, HO_100001, BK103, BK104, BK107, HB⟩ := hrel
 rcases gk with _ | k1
 · exact absurd HA.out (by simp [impl_Net_less.l0])
 have H := HA.out
 clear HA
 simp only [impl_Net_less.l0] at H
 by_cases c15 : x15_1 < (l0_1.length : Int)
 rotate_left
 · rw [if_neg c15] at H
   have c15b0 : decide (x15_1 < (l0_1.length : Int)) = false := decide_eq_false c15
   clear c15
   simp only [Option.some.injEq, Prod.mk.injEq] at H
   obtain ⟨rfl, rfl⟩ := H
   have hnb40 := NB107_103.out
   have hnc40 := NB103_107.out
   have hnb41 := NB107_104.out
   have hnc41 := NB104_107.out
   have hcz42_0 : wr.cell? ⟨gb107, 0, none⟩ = some (.int .i64 a0_0) := (blk_cell BK107.out 0).trans rfl
   have hcz42_1 : wr.cell? ⟨gb107, 1, none⟩ = some (u100001) := (blk_cell BK107.out 1).trans rfl
   have hfz42_0 := blk_frozen BK107.out 0
   have hfz42_1 := blk_frozen BK107.out 1
   have hnb43 := NB104_103.out
   have hnc43 := NB103_104.out
   have hcz44_0 : wr.cell? ⟨gb104, 0, none⟩ = some (.int .i64 0) := (blk_cell BK104.out 0).trans rfl
   have hcz44_1 : wr.cell? ⟨gb104, 1, none⟩ = some (.slice none 0 0) := (blk_cell BK104.out 1).trans rfl
   have hfz44_0 := blk_frozen BK104.out 0
   have hfz44_1 := blk_frozen BK104.out 1
   obtain ⟨Ao45, co45, eo45⟩ := Kd.R_slice HO_100001.out
   subst eo45
   go_wp2
   refine bodyPost_ret (results_cell_row rfl _ _ gb104 32 #[.int .i64 a0_0, .slice Ao45 x100001_1.length co45] (0, 0) _ rfl (by (with_reducible repeat (first | refine blk_drewN ?_ _ | refine blk_drew ?_ | refine blk_alloc ?_ _)); refine blk_put (cs := #[.int .i64 a0_0, .slice none 0 0]) ?_ 1 _ rfl; (with_reducible repeat (first | refine blk_drewN ?_ _ | refine blk_drew ?_ | refine blk_alloc ?_ _)); refine blk_put (cs := #[.int .i64 0, .slice none 0 0]) ?_ 0 _ rfl; (with_reducible repeat (first | refine blk_drewN ?_ _ | refine blk_drew ?_ | refine blk_alloc ?_ _)); exact BK104.out) Try.underlying32 rfl (by kernel_rfl)) rfl ?_
   exact ⟨_, qe, by (with_reducible repeat (first | apply Kd.R_alloc | apply Kd.R_drewN | apply Kd.R_drew)); exact Kd.R_mono (Kd.R_far (p := ⟨gb104, 1, none⟩) (Kd.R_far (p := ⟨gb104, 0, none⟩) (Kd.R_types HO_100001.out BK104.out (by decide)) (fun _ hk => hk.2) (.int .i64 a0_0)) (fun _ hk => hk.2) (.slice Ao45 x100001_1.length co45)) (fun _ hk => trivial), qb HB.out⟩
 rw [if_pos c15] at H
 have c15b0 : decide (x15_1 < (l0_1.length : Int)) = true := decide_eq_true c15
 clear c15
 by_cases c16 : 0 ≤ x15_1
 rotate_left
 · rw [if_neg c16] at H
   exact absurd H (by simp)
 rw [if_pos c16] at H
 have c16b0 : decide (0 ≤ x15_1) = true := decide_eq_true c16
 clear c16
 by_cases c17 : x15_1 < (l0_1.length : Int)
 rotate_left
 · rw [if_neg c17] at H
   exact absurd H (by simp)
 rw [if_pos c17] at H
 have c17b0 : decide (x15_1 < (l0_1.length : Int)) = true := decide_eq_true c17
 clear c17
 replace H := Option.bind_eq_some_iff.mp H
 obtain ⟨t101, A108, H⟩ := H
 replace H : (if t101 = true then (impl_Net_less.l0 k1 l1 l0_1 (l0_1.length : Int) (wrap64 (x15_1 + 1)) a0_0 x100001_1) else (if x100001_1.length < 8796093022208 then (impl_Net_less.l0 k1 l1 l0_1 (l0_1.length : Int) (wrap64 (x15_1 + 1)) a0_0 (x100001_1 ++ [(⟨(rd_TTie l0_1 x15_1).f0, (rd_TTie l0_1 x15_1).f1⟩ : STie)])) else (none))) = some (r1, r2) := H
 have A18 := Aside0.mk A108
 clear A108
 by_cases c19 : t101 = true
 · subst c19
   have H1 : (impl_Net_less.l0 k1 l1 l0_1 (l0_1.length : Int) (wrap64 (x15_1 + 1)) a0_0 x100001_1) = some (r1, r2) := by rw [if_pos rfl] at H; exact H
   clear H
   have H := H1
   clear H1
   have H' := Aside0.mk H
   clear H
   have p100 : 0 ≤ (x15_1 : Int) := of_decide_eq_true qa
   have q100 : x15_1 < (l0_1.length : Int) := of_decide_eq_true qa
   obtain ⟨ad100, e100, hx100_0, hx100_1⟩ := at_TTie HR0_1.out x15_1 p100 q100
   cases e100
   replace hx100_0 := (HB.out.cell (World.block_lt_of_cell? w _ hx100_0)).trans hx100_0
   replace hx100_1 := (HB.out.cell (World.block_lt_of_cell? w _ hx100_1)).trans hx100_1
   replace p100 := eq_true p100
   replace q100 := eq_true q100
   go_wp2_with (first | ((with_reducible refine gate_dst (N := 7) rfl ?_); refine be 7 #[.int .i64 0, .int .i64 0] 27 ?_; intro gb109 hg w20 hbox hb; have n0_ := q0 (Kd.R_below (Kd.R_elderB (qr HO_100001.out) gb109 (Nat.le_of_eq hg.symm)) hb); have n1_ := q0 (kb BK103.out hb); have n2_ := q0 (kb BK104.out hb); have n3_ := q0 (kb BK107.out hb); have n4_ := q0 (below_step (qb HB.out) hb); have n5_ := q0 (hbox); have n6_ := q0 ((bs HB.out hg : w.heap.size ≤ gb109)); have n7_ := q0 ((bs HB.out hg : w.heap.size ≤ gb109)); have n8_ := q0 ((bl BK103.out hg : gb103 ≠ gb109)); have n9_ := q0 ((bg BK103.out hg : gb109 ≠ gb103)); have n10_ := q0 ((bl BK104.out hg : gb104 ≠ gb109)); have n11_ := q0 ((bg BK104.out hg : gb109 ≠ gb104)); have n12_ := q0 ((bl BK107.out hg : gb107 ≠ gb109)); have n13_ := q0 ((bg BK107.out hg : gb109 ≠ gb107)); clear HO_100001 BK103 BK104 BK107 HB; have HO_100001 := n0_; have BK103 := n1_; have BK104 := n2_; have BK107 := n3_; have HB := n4_; have BK109 := n5_; have GW109 := n6_; have GE109 := n7_; have NB103_109 := n8_; have NB109_103 := n9_; have NB104_109 := n10_; have NB109_104 := n11_; have NB107_109 := n12_; have NB109_107 := n13_; clear n0_ n1_ n2_ n3_ n4_ n5_ n6_ n7_ n8_ n9_ n10_ n11_ n12_ n13_ hb hbox hg; have hnb21 := NB109_103.out; have hnc21 := NB103_109.out; have hnb22 := NB109_104.out; have hnc22 := NB104_109.out; have hnb23 := NB109_107.out; have hnc23 := NB107_109.out; have hcz24_0 : w20.cell? ⟨gb109, 0, none⟩ = some (.int .i64 0) := (blk_cell BK109.out 0).trans rfl; have hcz24_1 : w20.cell? ⟨gb109, 1, none⟩ = some (.int .i64 0) := (blk_cell BK109.out 1).trans rfl; have hfz24_0 := blk_frozen BK109.out 0; have hfz24_1 := blk_frozen BK109.out 1) | ((with_reducible refine gate_callee (f := 68) rfl ?_); refine goesL_ (some 21) rfl rfl Try.func68 (by kernel_rfl) rfl #[.slice A1 l1.length c1, .agg #[.int .i64 ((rd_TTie l0_1 x15_1).f0), .int .i64 ((rd_TTie l0_1 x15_1).f1)]] rfl qm ?_; (with_reducible refine (slices_Contains_Tie.calls k1 _ _ l1 ((rd_TTie l0_1 x15_1).f0) ((rd_TTie l0_1 x15_1).f1) true _ ?side1 ?side2 A18.out).mono ?_); (case side1 => exact Kd.C_below HR1.out (qb HB.out)); (case side2 => exact HC1.out); rintro e w25 ⟨rfl, hb⟩; refine ⟨_, rfl, ?_⟩; have n0_ := q0 (Kd.R_below (by (with_reducible repeat (first | apply Kd.R_alloc | apply Kd.R_drewN | apply Kd.R_drew)); exact (Kd.R_mono (Kd.R_far (p := ⟨gb109, 1, none⟩) (Kd.R_far (p := ⟨gb109, 0, none⟩) (Kd.R_mono HO_100001.out (fun k_ hk => (⟨hk, hk.2⟩ : _ ∧ k_ ≠ gb109))) (fun _ hk => hk.2) (.int .i64 ((rd_TTie l0_1 x15_1).f0))) (fun _ hk => hk.2) (.int .i64 ((rd_TTie l0_1 x15_1).f1))) (fun _ h_ => h_.1))) hb); have n1_ := q0 (blk_below (g := gb103) (o := .cells #[.int .i64 a0_0, .slice (some ad100) l0_1.length c0_1] 32 (0, 0)) (qf BK103.out) hb); have n2_ := q0 (blk_below (g := gb104) (o := .cells #[.int .i64 0, .slice none 0 0] 32 (0, 0)) (qf BK104.out) hb); have n3_ := q0 (blk_below (g := gb107) (o := .cells #[.int .i64 a0_0, u100001] 32 (0, 0)) (qf BK107.out) hb); have n4_ := q0 (blk_below (g := gb109) (o := .cells #[.int .i64 ((rd_TTie l0_1 x15_1).f0), .int .i64 ((rd_TTie l0_1 x15_1).f1)] 27 (0, 0)) (by (with_reducible repeat (first | refine blk_drewN ?_ _ | refine blk_drew ?_ | refine blk_alloc ?_ _)); refine blk_put (cs := #[.int .i64 ((rd_TTie l0_1 x15_1).f0), .int .i64 0]) ?_ 1 _ rfl; (with_reducible repeat (first | refine blk_drewN ?_ _ | refine blk_drew ?_ | refine blk_alloc ?_ _)); refine blk_put (cs := #[.int .i64 0, .int .i64 0]) ?_ 0 _ rfl; (with_reducible repeat (first | refine blk_drewN ?_ _ | refine blk_drew ?_ | refine blk_alloc ?_ _)); exact BK109.out) hb); have n5_ := q0 (below_step (qb HB.out) hb); clear HO_100001 BK103 BK104 BK107 BK109 HB; have HO_100001 := n0_; have BK103 := n1_; have BK104 := n2_; have BK107 := n3_; have BK109 := n4_; have HB := n5_; clear n0_ n1_ n2_ n3_ n4_ n5_; (try clear hb); (try clear hb2); (try clear hk); (try clear hi)))
   go_roundg k1
   case measure => have := HK1.out; omega
   case rel => exact ⟨(wrap64 (x15_1 + 1)), (x100001_1), (u100001), qs, H', ⟨by have := HK1.out; omega⟩, ⟨by (with_reducible repeat (first | apply Kd.R_alloc | apply Kd.R_drewN | apply Kd.R_drew)); exact Kd.R_mono HO_100001.out (fun _ hk => trivial)⟩, ⟨qk BK103.out⟩, ⟨qk BK104.out⟩, ⟨qk BK107.out⟩, ⟨qb HB.out⟩⟩
 replace c19 := Bool.eq_false_iff.mpr c19
 subst c19
 have H1 : (if x100001_1.length < 8796093022208 then (impl_Net_less.l0 k1 l1 l0_1 (l0_1.length : Int) (wrap64 (x15_1 + 1)) a0_0 (x100001_1 ++ [(⟨(rd_TTie l0_1 x15_1).f0, (rd_TTie l0_1 x15_1).f1⟩ : STie)])) else (none)) = some (r1, r2) := by rw [if_neg (show ¬ (false = true) by decide)] at H; exact H
 clear H
 have H := H1
 clear H1
 by_cases c26 : x100001_1.length < 8796093022208
 rotate_left
 · rw [if_neg c26] at H
   exact absurd H (by simp)
 rw [if_pos c26] at H
 have LMc26 := Aside0.mk c26
 clear c26
 obtain ⟨y110, hy110⟩ : ∃ y_ : List (STie), y_ = (x100001_1 ++ [(⟨(rd_TTie l0_1 x15_1).f0, (rd_TTie l0_1 x15_1).f1⟩ : STie)]) := ⟨_, rfl⟩
 replace H : (impl_Net_less.l0 k1 l1 l0_1 (l0_1.length : Int) (wrap64 (x15_1 + 1)) a0_0 y110) = some (r1, r2) := by first | (rw [hy110]; with_reducible exact H) | (have H2_ := (Option.bind_some _ _).symm.trans H; rw [hy110]; with_reducible exact H2_) | (have H2_ := (Option.bind_some _ _).symm.trans H; with_reducible exact H2_) | with_reducible exact H | (rw [hy110]; exact H) | exact H
 have Ny110 := Aside0.mk hy110
 clear hy110
 have H' := Aside0.mk H
 clear H
 have p100 : 0 ≤ (x15_1 : Int) := of_decide_eq_true qa
 have q100 : x15_1 < (l0_1.length : Int) := of_decide_eq_true qa
 obtain ⟨ad100, e100, hx100_0, hx100_1⟩ := at_TTie HR0_1.out x15_1 p100 q100
 cases e100
 replace hx100_0 := (HB.out.cell (World.block_lt_of_cell? w _ hx100_0)).trans hx100_0
 replace hx100_1 := (HB.out.cell (World.block_lt_of_cell? w _ hx100_1)).trans hx100_1
 replace p100 := eq_true p100
 replace q100 := eq_true q100
 go_wp2_with (first | ((with_reducible refine gate_dst (N := 7) rfl ?_); refine be 7 #[.int .i64 0, .int .i64 0] 27 ?_; intro gb109 hg w27 hbox hb; have n0_ := q0 (Kd.R_below (Kd.R_elderB (qr HO_100001.out) gb109 (Nat.le_of_eq hg.symm)) hb); have n1_ := q0 (kb BK103.out hb); have n2_ := q0 (kb BK104.out hb); have n3_ := q0 (kb BK107.out hb); have n4_ := q0 (below_step (qb HB.out) hb); have n5_ := q0 (hbox); have n6_ := q0 ((bs HB.out hg : w.heap.size ≤ gb109)); have n7_ := q0 ((bs HB.out hg : w.heap.size ≤ gb109)); have n8_ := q0 ((bl BK103.out hg : gb103 ≠ gb109)); have n9_ := q0 ((bg BK103.out hg : gb109 ≠ gb103)); have n10_ := q0 ((bl BK104.out hg : gb104 ≠ gb109)); have n11_ := q0 ((bg BK104.out hg : gb109 ≠ gb104)); have n12_ := q0 ((bl BK107.out hg : gb107 ≠ gb109)); have n13_ := q0 ((bg BK107.out hg : gb109 ≠ gb107)); clear HO_100001 BK103 BK104 BK107 HB; have HO_100001 := n0_; have BK103 := n1_; have BK104 := n2_; have BK107 := n3_; have HB := n4_; have BK109 := n5_; have GW109 := n6_; have GE109 := n7_; have NB103_109 := n8_; have NB109_103 := n9_; have NB104_109 := n10_; have NB109_104 := n11_; have NB107_109 := n12_; have NB109_107 := n13_; clear n0_ n1_ n2_ n3_ n4_ n5_ n6_ n7_ n8_ n9_ n10_ n11_ n12_ n13_ hb hbox hg; have hnb28 := NB109_103.out; have hnc28 := NB103_109.out; have hnb29 := NB109_104.out; have hnc29 := NB104_109.out; have hnb30 := NB109_107.out; have hnc30 := NB107_109.out; have hcz31_0 : w27.cell? ⟨gb109, 0, none⟩ = some (.int .i64 0) := (blk_cell BK109.out 0).trans rfl; have hcz31_1 : w27.cell? ⟨gb109, 1, none⟩ = some (.int .i64 0) := (blk_cell BK109.out 1).trans rfl; have hfz31_0 := blk_frozen BK109.out 0; have hfz31_1 := blk_frozen BK109.out 1) | ((with_reducible refine gate_callee (f := 68) rfl ?_); refine goesL_ (some 21) rfl rfl Try.func68 (by kernel_rfl) rfl #[.slice A1 l1.length c1, .agg #[.int .i64 ((rd_TTie l0_1 x15_1).f0), .int .i64 ((rd_TTie l0_1 x15_1).f1)]] rfl qm ?_; (with_reducible refine (slices_Contains_Tie.calls k1 _ _ l1 ((rd_TTie l0_1 x15_1).f0) ((rd_TTie l0_1 x15_1).f1) false _ ?side1 ?side2 A18.out).mono ?_); (case side1 => exact Kd.C_below HR1.out (qb HB.out)); (case side2 => exact HC1.out); rintro e w32 ⟨rfl, hb⟩; refine ⟨_, rfl, ?_⟩; have n0_ := q0 (Kd.R_below (by (with_reducible repeat (first | apply Kd.R_alloc | apply Kd.R_drewN | apply Kd.R_drew)); exact (Kd.R_mono (Kd.R_far (p := ⟨gb109, 1, none⟩) (Kd.R_far (p := ⟨gb109, 0, none⟩) (Kd.R_mono HO_100001.out (fun k_ hk => (⟨hk, hk.2⟩ : _ ∧ k_ ≠ gb109))) (fun _ hk => hk.2) (.int .i64 ((rd_TTie l0_1 x15_1).f0))) (fun _ hk => hk.2) (.int .i64 ((rd_TTie l0_1 x15_1).f1))) (fun _ h_ => h_.1))) hb); have n1_ := q0 (blk_below (g := gb103) (o := .cells #[.int .i64 a0_0, .slice (some ad100) l0_1.length c0_1] 32 (0, 0)) (qf BK103.out) hb); have n2_ := q0 (blk_below (g := gb104) (o := .cells #[.int .i64 0, .slice none 0 0] 32 (0, 0)) (qf BK104.out) hb); have n3_ := q0 (blk_below (g := gb107) (o := .cells #[.int .i64 a0_0, u100001] 32 (0, 0)) (qf BK107.out) hb); have n4_ := q0 (blk_below (g := gb109) (o := .cells #[.int .i64 ((rd_TTie l0_1 x15_1).f0), .int .i64 ((rd_TTie l0_1 x15_1).f1)] 27 (0, 0)) (by (with_reducible repeat (first | refine blk_drewN ?_ _ | refine blk_drew ?_ | refine blk_alloc ?_ _)); refine blk_put (cs := #[.int .i64 ((rd_TTie l0_1 x15_1).f0), .int .i64 0]) ?_ 1 _ rfl; (with_reducible repeat (first | refine blk_drewN ?_ _ | refine blk_drew ?_ | refine blk_alloc ?_ _)); refine blk_put (cs := #[.int .i64 0, .int .i64 0]) ?_ 0 _ rfl; (with_reducible repeat (first | refine blk_drewN ?_ _ | refine blk_drew ?_ | refine blk_alloc ?_ _)); exact BK109.out) hb); have n5_ := q0 (below_step (qb HB.out) hb); clear HO_100001 BK103 BK104 BK107 BK109 HB; have HO_100001 := n0_; have BK103 := n1_; have BK104 := n2_; have BK107 := n3_; have BK109 := n4_; have HB := n5_; clear n0_ n1_ n2_ n3_ n4_ n5_; (try clear hb); (try clear hb2); (try clear hk); (try clear hi); have hnb33 := NB107_103.out; have hnc33 := NB103_107.out; have hnb34 := NB107_104.out; have hnc34 := NB104_107.out; have hcz35_0 : w32.cell? ⟨gb107, 0, none⟩ = some (.int .i64 a0_0) := (blk_cell BK107.out 0).trans rfl; have hcz35_1 : w32.cell? ⟨gb107, 1, none⟩ = some (u100001) := (blk_cell BK107.out 1).trans rfl; have hfz35_0 := blk_frozen BK107.out 0; have hfz35_1 := blk_frozen BK107.out 1; have hcz36_0 : w32.cell? ⟨gb109, 0, none⟩ = some (.int .i64 ((rd_TTie l0_1 x15_1).f0)) := (blk_cell BK109.out 0).trans rfl; have hcz36_1 : w32.cell? ⟨gb109, 1, none⟩ = some (.int .i64 ((rd_TTie l0_1 x15_1).f1)) := (blk_cell BK109.out 1).trans rfl; have hfz36_0 := blk_frozen BK109.out 0; have hfz36_1 := blk_frozen BK109.out 1) | ((with_reducible refine gate_builtin (b := .append) (xs := #[.tmp 24, .tmp 26]) rfl ?_); at_builtin; refine Kd.R_append kTie (w0 := w) w.heap.size rfl (.tmp 24) (.tmp 26) 30 27 (.agg #[(.int .i64 0), (.int .i64 0)]) 16 rfl Try.underlying30 info27 rfl (by decide) (by omega) u100001 x100001_1 (⟨(rd_TTie l0_1 x15_1).f0, (rd_TTie l0_1 x15_1).f1⟩ : STie) [.int .i64 ((rd_TTie l0_1 x15_1).f0), .int .i64 ((rd_TTie l0_1 x15_1).f1)] (fun k_ => k_ ≠ gb109) (fun _ => False) rfl rfl ?aP (fun _ hk => hk.elim) ?aF ?aO ?aB ?aS ?aL ?_; (case aP => exact kTie_mkM _ _ _ (⟨(rd_TTie l0_1 x15_1).f0, (rd_TTie l0_1 x15_1).f1⟩ : STie)); (case aB => exact (qb HB.out)); (case aF => exact (fun k_ hk => Kd.freshB (g := gb109) (o := .cells #[.int .i64 ((rd_TTie l0_1 x15_1).f0), .int .i64 ((rd_TTie l0_1 x15_1).f1)] 27 (0, 0)) (qk BK109.out) k_ hk)); (case aO => exact (by (with_reducible repeat (first | apply Kd.R_alloc | apply Kd.R_drewN | apply Kd.R_drew)); exact Kd.R_mono HO_100001.out (fun _ hk => hk.2))); (case aS => exact (below_size (qb HB.out))); (case aL => have := LMc26.out; omega); intro v111 w37 ho hb hg hat; rw [← Ny110.out] at ho; have n0_ := q0 (blk_grown (g := gb103) (o := .cells #[.int .i64 a0_0, .slice (some ad100) l0_1.length c0_1] 32 (0, 0)) (qk BK103.out) hg (Kd.R_ne HO_100001.out BK103.out (by decide))); have n1_ := q0 (blk_grown (g := gb104) (o := .cells #[.int .i64 0, .slice none 0 0] 32 (0, 0)) (qk BK104.out) hg (Kd.R_ne HO_100001.out BK104.out (by decide))); have n2_ := q0 (blk_grown (g := gb107) (o := .cells #[.int .i64 a0_0, u100001] 32 (0, 0)) (qk BK107.out) hg (Kd.R_ne HO_100001.out BK107.out (by decide))); have n3_ := q0 (blk_grown (g := gb109) (o := .cells #[.int .i64 ((rd_TTie l0_1 x15_1).f0), .int .i64 ((rd_TTie l0_1 x15_1).f1)] 27 (0, 0)) (qk BK109.out) hg (Kd.R_away HO_100001.out (fun _ hk => hk.2))); have n4_ := q0 (hb); have n5_ := q0 (ho); clear BK103 BK104 BK107 BK109 HB HO_100001; have BK103 := n0_; have BK104 := n1_; have BK107 := n2_; have BK109 := n3_; have HB := n4_; have HO112 := n5_; clear n0_ n1_ n2_ n3_ n4_ n5_ ho hb hg hat; obtain ⟨Ao38, co38, eo38⟩ := Kd.R_slice HO112.out; subst eo38; have hcz39_0 : w37.cell? ⟨gb107, 0, none⟩ = some (.int .i64 a0_0) := (blk_cell BK107.out 0).trans rfl; have hcz39_1 : w37.cell? ⟨gb107, 1, none⟩ = some (u100001) := (blk_cell BK107.out 1).trans rfl; have hfz39_0 := blk_frozen BK107.out 0; have hfz39_1 := blk_frozen BK107.out 1))
 go_roundg k1
 case measure => have := HK1.out; omega
 case rel => exact ⟨(wrap64 (x15_1 + 1)), (y110), (.slice Ao38 y110.length co38), qs, H', ⟨by have := HK1.out; omega⟩, ⟨by (with_reducible repeat (first | apply Kd.R_alloc | apply Kd.R_drewN | apply Kd.R_drew)); exact Kd.R_mono (Kd.R_far (p := ⟨gb107, 1, none⟩) (Kd.R_types HO112.out BK107.out (by decide)) (fun _ hk => hk.2) (.slice Ao38 y110.length co38)) (fun _ hk => trivial)⟩, ⟨qf BK103.out⟩, ⟨qf BK104.out⟩, ⟨by (with_reducible repeat (first | refine blk_drewN ?_ _ | refine blk_drew ?_ | refine blk_alloc ?_ _)); refine blk_put (cs := #[.int .i64 a0_0, u100001]) ?_ 1 _ rfl; (with_reducible repeat (first | refine blk_drewN ?_ _ | refine blk_drew ?_ | refine blk_alloc ?_ _)); exact BK107.out⟩, ⟨qb HB.out⟩⟩

def impl_Net_bridges.T5 : Bool × List (List Nat × List Nat) := (true, [([], []), ([], []), ([1], [1]), ([0, 2], [0, 2]), ([], []), ([4], [4]), ([], []), ([6], [6]), ([3, 5, 7, 3], [3, 5, 7]), ([8], [8])])
def impl_Net_bridges.B5 : List Nat := [0, 0, 2, 7, 0, 16, 0, 64, 255, 511]
theorem impl_Net_bridges.tab5 : rtab .any (opsOf Try.f57 5) = impl_Net_bridges.T5 := by kernel_rfl
theorem impl_Net_bridges.bits5 : waitsOk impl_Net_bridges.T5.2 impl_Net_bridges.B5 = true := by kernel_rfl
set_option maxHeartbeats 8000000 in
set_option maxRecDepth 100000 in
theorem impl_Net_bridges.calls (k : Nat) (a0_0 : Int) (A0_1 : Option Addr) (c0_1 : Nat) (l0_1 : List (STie)) (r : List (STie)) (w : World) (hr0_1 : Kd.C kTie w A0_1 l0_1.length l0_1) (hc0_1 : l0_1.length ≤ c0_1) (h : impl_Net_bridges.f k a0_0 l0_1 = some r) :
    Calls Try.prog 57 #[.agg #[.int .i64 a0_0, .slice A0_1 l0_1.length c0_1]] w fun e w' => ∃ v0_ : Value, e = .returned (v0_) ∧ Kd.R kTie 27 w' w.heap.size (fun _ => True) v0_ r ∧ Below w.heap.size w w' := by
 have hu32 := Try.underlying32
 have hu27 := Try.underlying27
 have HR0_1 := Aside0.mk hr0_1
 have HC0_1 := Aside0.mk hc0_1
 clear hr0_1 hc0_1
 have HB := q0 (Below.refl w.heap.size w)
 have H : (impl_Net_bridges.l0 k (([] : List (STie))) l0_1 (l0_1.length : Int) 0 a0_0 l0_1) = some r := h
 clear h
 obtain ⟨y100, hy100⟩ : ∃ y_ : List (STie), y_ = (([] : List (STie))) := ⟨_, rfl⟩
 replace H : (impl_Net_bridges.l0 k y100 l0_1 (l0_1.length : Int) 0 a0_0 l0_1) = some r := by first | (rw [hy100]; with_reducible exact H) | (have H2_ := (Option.bind_some _ _).symm.trans H; rw [hy100]; with_reducible exact H2_) | (have H2_ := (Option.bind_some _ _).symm.trans H; with_reducible exact H2_) | with_reducible exact H | (rw [hy100]; exact H) | exact H
 have Ny100 := Aside0.mk hy100
 clear hy100
 have H' := Aside0.mk H
 clear H
 go_enter Try.func57, Try.ntmps57
 go_wp2_with (first | ((with_reducible refine gate_dst (N := 1) rfl ?_); refine be 1 #[.int .i64 a0_0, .slice A0_1 l0_1.length c0_1] 32 ?_; intro gb103 hg w2 hbox hb; have n0_ := q0 (below_step (qb HB.out) hb); have n1_ := q0 (hbox); have n2_ := q0 ((bs HB.out hg : w.heap.size ≤ gb103)); have n3_ := q0 ((bs HB.out hg : w.heap.size ≤ gb103)); clear HB; have HB := n0_; have BK103 := n1_; have GW103 := n2_; have GE103 := n3_; clear n0_ n1_ n2_ n3_ hb hbox hg) | ((with_reducible refine gate_dst (N := 6) rfl ?_); refine Kd.R_lit kTie _ 27 ?hg (N := 6) ?hd (xs := ([] : List (STie))) (inner := []) (ok := fun _ => True) (okp := fun _ => True) ?hr ?hp (fun _ hk => hk) trivial (Below.refl _ _) (Nat.le_refl _) (by simp) ?_; (case hd => rfl); (case hg => rfl); (case hr => first | (go_simp; done) | (go_simp; rfl)); (case hp => exact (Reps.none _ _)); intro v104 w3 ho4 hb hg_ hnew_; clear hg_ hnew_; (first | rw [← Ny100.out] at ho4 | (simp only [Int.reduceToNat] at ho4; rw [← Ny100.out] at ho4)); have n0_ := q0 (Kd.R_lower ho4 (below_size (qb HB.out))); have n1_ := q0 (kb BK103.out hb); have n2_ := q0 (below_step (qb HB.out) hb); clear BK103 HB; have HO105 := n0_; have BK103 := n1_; have HB := n2_; clear n0_ n1_ n2_ hb ho4; have hcz5_0 : w3.cell? ⟨gb103, 0, none⟩ = some (.int .i64 a0_0) := (blk_cell BK103.out 0).trans rfl; have hcz5_1 : w3.cell? ⟨gb103, 1, none⟩ = some (.slice A0_1 l0_1.length c0_1) := (blk_cell BK103.out 1).trans rfl; have hfz5_0 := blk_frozen BK103.out 0; have hfz5_1 := blk_frozen BK103.out 1))
 go_loopg [3, 10] k (fun kq v3 v10 w' => ∃ (x3_1 : List (STie)) (x10_1 : Int), v10 = .int .i64 x10_1 ∧ Aside0 (impl_Net_bridges.l0 kq x3_1 l0_1 (l0_1.length : Int) x10_1 a0_0 l0_1 = some r) ∧ Aside0 (kq ≤ k) ∧ Aside0 (Kd.R kTie 27 w' w.heap.size (fun _ => True) v3 x3_1) ∧ Aside0 (w'.heap[gb103]? = some (.cells #[.int .i64 a0_0, (.slice A0_1 l0_1.length c0_1)] 32 (0, 0))) ∧ Aside0 (Below w.heap.size w w'))
 case atStart => exact ⟨(y100), (0), qs, H', ⟨Nat.le_refl _⟩, ⟨qr HO105.out⟩, ⟨qk BK103.out⟩, ⟨qb HB.out⟩⟩
 clear H'
 try clear p2
 try clear c5
 try clear hcz5_0
 try clear hcz5_1
 try clear hfz5_0
 try clear hfz5_1
 obtain ⟨x3_1, x10_1, rfl, HA, HK1, HO_3, BK103, HB⟩ := hrel
 rcases gk with _ | k1
 · exact absurd HA.out (by simp [impl_Net_bridges.l0])
 have H := HA.out
 clear HA
 simp only [impl_Net_bridges.l0] at H
 by_cases c6 : x10_1 < (l0_1.length : Int)
 rotate_left
 · rw [if_neg c6] at H
   have c6b0 : decide (x10_1 < (l0_1.length : Int)) = false := decide_eq_false c6
   clear c6
   obtain rfl := Option.some.inj H
   go_wp2
   go_ret
   exact ⟨_, qe, by (with_reducible repeat (first | apply Kd.R_alloc | apply Kd.R_drewN | apply Kd.R_drew)); exact HO_3.out, qb HB.out⟩
 rw [if_pos c6] at H
 have c6b0 : decide (x10_1 < (l0_1.length : Int)) = true := decide_eq_true c6
 clear c6
 by_cases c7 : 0 ≤ x10_1
 rotate_left
 · rw [if_neg c7] at H
   exact absurd H (by simp)
 rw [if_pos c7] at H
 have c7b0 : decide (0 ≤ x10_1) = true := decide_eq_true c7
 clear c7
 by_cases c8 : x10_1 < (l0_1.length : Int)
 rotate_left
 · rw [if_neg c8] at H
   exact absurd H (by simp)
 rw [if_pos c8] at H
 have c8b0 : decide (x10_1 < (l0_1.length : Int)) = true := decide_eq_true c8
 clear c8
 obtain ⟨y106, hy106⟩ : ∃ y_ : List (STie), y_ = (([(⟨(rd_TTie l0_1 x10_1).f0, (rd_TTie l0_1 x10_1).f1⟩ : STie)] : List (STie))) := ⟨_, rfl⟩
 replace H : ((impl_Net_less.f k1 a0_0 l0_1 y106).bind fun bt101 => ((impl_Net_joined.f k1 bt101.1 bt101.2 ((rd_TTie l0_1 x10_1).f0) ((rd_TTie l0_1 x10_1).f1)).bind fun t102 => (if t102 = true then (impl_Net_bridges.l0 k1 x3_1 l0_1 (l0_1.length : Int) (wrap64 (x10_1 + 1)) a0_0 l0_1) else (if x3_1.length < 8796093022208 then (impl_Net_bridges.l0 k1 (x3_1 ++ [(⟨(rd_TTie l0_1 x10_1).f0, (rd_TTie l0_1 x10_1).f1⟩ : STie)]) l0_1 (l0_1.length : Int) (wrap64 (x10_1 + 1)) a0_0 l0_1) else (none))))) = some r := by first | (rw [hy106]; with_reducible exact H) | (have H2_ := (Option.bind_some _ _).symm.trans H; rw [hy106]; with_reducible exact H2_) | (have H2_ := (Option.bind_some _ _).symm.trans H; with_reducible exact H2_) | with_reducible exact H | (rw [hy106]; exact H) | exact H
 have Ny106 := Aside0.mk hy106
 clear hy106
 replace H := Option.bind_eq_some_iff.mp H
 obtain ⟨⟨t101, t107⟩, A90, H⟩ := H
 replace H : ((impl_Net_joined.f k1 t101 t107 ((rd_TTie l0_1 x10_1).f0) ((rd_TTie l0_1 x10_1).f1)).bind fun t102 => (if t102 = true then (impl_Net_bridges.l0 k1 x3_1 l0_1 (l0_1.length : Int) (wrap64 (x10_1 + 1)) a0_0 l0_1) else (if x3_1.length < 8796093022208 then (impl_Net_bridges.l0 k1 (x3_1 ++ [(⟨(rd_TTie l0_1 x10_1).f0, (rd_TTie l0_1 x10_1).f1⟩ : STie)]) l0_1 (l0_1.length : Int) (wrap64 (x10_1 + 1)) a0_0 l0_1) else (none)))) = some r := H
 have A9 := Aside0.mk A90
 clear A90
 replace H := Option.bind_eq_some_iff.mp H
 obtain ⟨t102, A108, H⟩ := H
 replace H : (if t102 = true then (impl_Net_bridges.l0 k1 x3_1 l0_1 (l0_1.length : Int) (wrap64 (x10_1 + 1)) a0_0 l0_1) else (if x3_1.length < 8796093022208 then (impl_Net_bridges.l0 k1 (x3_1 ++ [(⟨(rd_TTie l0_1 x10_1).f0, (rd_TTie l0_1 x10_1).f1⟩ : STie)]) l0_1 (l0_1.length : Int) (wrap64 (x10_1 + 1)) a0_0 l0_1) else (none))) = some r := H
 have A10 := Aside0.mk A108
 clear A108
 by_cases c11 : t102 = true
 · subst c11
   have H1 : (impl_Net_bridges.l0 k1 x3_1 l0_1 (l0_1.length : Int) (wrap64 (x10_1 + 1)) a0_0 l0_1) = some r := by rw [if_pos rfl] at H; exact H
   clear H
   have H := H1
   clear H1
   have H' := Aside0.mk H
   clear H
   have p109 : 0 ≤ (x10_1 : Int) := of_decide_eq_true qa
   have q109 : x10_1 < (l0_1.length : Int) := of_decide_eq_true qa
   obtain ⟨ad109, e109, hx109_0, hx109_1⟩ := at_TTie HR0_1.out x10_1 p109 q109
   cases e109
   replace hx109_0 := (HB.out.cell (World.block_lt_of_cell? w _ hx109_0)).trans hx109_0
   replace hx109_1 := (HB.out.cell (World.block_lt_of_cell? w _ hx109_1)).trans hx109_1
   replace p109 := eq_true p109
   replace q109 := eq_true q109
   try go_wp2_with (first | ((with_reducible refine gate_dst (N := 5) rfl ?_); refine be 5 #[.int .i64 0, .int .i64 0] 27 ?_; intro gb110 hg w12 hbox hb; have n0_ := q0 (Kd.R_below (Kd.R_elderB (qr HO_3.out) gb110 (Nat.le_of_eq hg.symm)) hb); have n1_ := q0 (kb BK103.out hb); have n2_ := q0 (below_step (qb HB.out) hb); have n3_ := q0 (hbox); have n4_ := q0 ((bs HB.out hg : w.heap.size ≤ gb110)); have n5_ := q0 ((bs HB.out hg : w.heap.size ≤ gb110)); have n6_ := q0 ((bl BK103.out hg : gb103 ≠ gb110)); have n7_ := q0 ((bg BK103.out hg : gb110 ≠ gb103)); clear HO_3 BK103 HB; have HO_3 := n0_; have BK103 := n1_; have HB := n2_; have BK110 := n3_; have GW110 := n4_; have GE110 := n5_; have NB103_110 := n6_; have NB110_103 := n7_; clear n0_ n1_ n2_ n3_ n4_ n5_ n6_ n7_ hb hbox hg; have hnb13 := NB110_103.out; have hnc13 := NB103_110.out; have hcz14_0 : w12.cell? ⟨gb110, 0, none⟩ = some (.int .i64 0) := (blk_cell BK110.out 0).trans rfl; have hcz14_1 : w12.cell? ⟨gb110, 1, none⟩ = some (.int .i64 0) := (blk_cell BK110.out 1).trans rfl; have hfz14_0 := blk_frozen BK110.out 0; have hfz14_1 := blk_frozen BK110.out 1))
   have n0_ : Aside0 (Kd.R kTie 27 ((w12.setCell ⟨gb110, 0, none⟩ (.int .i64 ((rd_TTie l0_1 x10_1).f0))).setCell ⟨gb110, 1, none⟩ (.int .i64 ((rd_TTie l0_1 x10_1).f1))) w.heap.size (fun k_ => k_ ≠ gb110) u3 x3_1) := ⟨by (with_reducible repeat (first | apply Kd.R_alloc | apply Kd.R_drewN | apply Kd.R_drew)); exact Kd.R_mono (Kd.R_far (p := ⟨gb110, 1, none⟩) (Kd.R_far (p := ⟨gb110, 0, none⟩) (Kd.R_mono HO_3.out (fun k_ hk => (⟨hk, hk.2⟩ : _ ∧ k_ ≠ gb110))) (fun _ hk => hk.2) (.int .i64 ((rd_TTie l0_1 x10_1).f0))) (fun _ hk => hk.2) (.int .i64 ((rd_TTie l0_1 x10_1).f1))) (fun _ hk => hk.1.2)⟩
   have n1_ : Aside0 (((w12.setCell ⟨gb110, 0, none⟩ (.int .i64 ((rd_TTie l0_1 x10_1).f0))).setCell ⟨gb110, 1, none⟩ (.int .i64 ((rd_TTie l0_1 x10_1).f1))).heap[gb103]? = some (.cells #[.int .i64 a0_0, .slice (some ad109) l0_1.length c0_1] 32 (0, 0))) := ⟨qf BK103.out⟩
   have n2_ : Aside0 (((w12.setCell ⟨gb110, 0, none⟩ (.int .i64 ((rd_TTie l0_1 x10_1).f0))).setCell ⟨gb110, 1, none⟩ (.int .i64 ((rd_TTie l0_1 x10_1).f1))).heap[gb110]? = some (.cells #[.int .i64 ((rd_TTie l0_1 x10_1).f0), .int .i64 ((rd_TTie l0_1 x10_1).f1)] 27 (0, 0))) := ⟨by (with_reducible repeat (first | refine blk_drewN ?_ _ | refine blk_drew ?_ | refine blk_alloc ?_ _)); refine blk_put (cs := #[.int .i64 ((rd_TTie l0_1 x10_1).f0), .int .i64 0]) ?_ 1 _ rfl; (with_reducible repeat (first | refine blk_drewN ?_ _ | refine blk_drew ?_ | refine blk_alloc ?_ _)); refine blk_put (cs := #[.int .i64 0, .int .i64 0]) ?_ 0 _ rfl; (with_reducible repeat (first | refine blk_drewN ?_ _ | refine blk_drew ?_ | refine blk_alloc ?_ _)); exact BK110.out⟩
   have n3_ : Aside0 (Below w.heap.size w ((w12.setCell ⟨gb110, 0, none⟩ (.int .i64 ((rd_TTie l0_1 x10_1).f0))).setCell ⟨gb110, 1, none⟩ (.int .i64 ((rd_TTie l0_1 x10_1).f1)))) := ⟨qb HB.out⟩
   (try clear HO_3)
   (try clear BK103)
   (try clear BK110)
   (try clear HB)
   generalize ((w12.setCell ⟨gb110, 0, none⟩ (.int .i64 ((rd_TTie l0_1 x10_1).f0))).setCell ⟨gb110, 1, none⟩ (.int .i64 ((rd_TTie l0_1 x10_1).f1))) = w15 at n0_ n1_ n2_ n3_ ⊢
   have HO_3 := n0_
   have BK103 := n1_
   have BK110 := n2_
   have HB := n3_
   clear n0_ n1_ n2_ n3_
   have n0_ := q0 (Kd.R_drew HO_3.out)
   have n1_ := q0 (blk_drew BK103.out)
   have n2_ := q0 (blk_drew BK110.out)
   have n3_ := q0 (below_drew1 HB.out)
   clear HO_3
   clear BK103
   clear BK110
   clear HB
   have HO_3 := n0_
   have BK103 := n1_
   have BK110 := n2_
   have HB := n3_
   clear n0_ n1_ n2_ n3_
   refine start_ (n := 10) (S := fun w' => w'.cell? ⟨gb103, 0, none⟩ = some (.int .i64 a0_0) ∧ w'.cell? ⟨gb103, 1, none⟩ = some (.slice (some ad109) l0_1.length c0_1) ∧ w'.cell? ⟨gb110, 0, none⟩ = some (.int .i64 ((rd_TTie l0_1 x10_1).f0)) ∧ w'.cell? ⟨gb110, 1, none⟩ = some (.int .i64 ((rd_TTie l0_1 x10_1).f1))) (ds := []) (ba 10 0) (by kernel_rfl) rfl (by kernel_rfl) ⟨(blk_cell BK103.out 0).trans rfl, (blk_cell BK103.out 1).trans rfl, (blk_cell BK110.out 0).trans rfl, (blk_cell BK110.out 1).trans rfl⟩ (fun hHeld => ?_); refine with_tabW impl_Net_bridges.tab5 impl_Net_bridges.bits5 (fun HT_ HW_ => ?_)
   generalize w15.drew = w16 at HO_3 BK103 BK110 HB hHeld ⊢
   refine pu 4 (some 18) (ba 10 16) HT_.out ?_
   refine pu 6 (some 20) (ba 10 80) HT_.out ?_
   refine tu 0 (some 14) (ba 10 81) HT_.out HW_.out hHeld ?_
   refine tu 1 (some 15) (ba 10 83) HT_.out HW_.out hHeld ?_
   refine tu 5 (some 19) (ba 10 115) HT_.out HW_.out hHeld ?_
   refine tu 7 (some 21) (ba 10 243) HT_.out HW_.out hHeld ?_
   refine one_ (i := 2) (N := some 16) (ba 10 247) rfl rfl (one_of HT_.out (by kernel_rfl)) (by decide) (fun K hK => ?_)
   refine Kd.R_lit_step kTie _ 27 ?hg (N := 16) ?hd (xs := ([(⟨(rd_TTie l0_1 x10_1).f0, (rd_TTie l0_1 x10_1).f1⟩ : STie)] : List (STie))) (inner := [.int .i64 ((rd_TTie l0_1 x10_1).f0), .int .i64 ((rd_TTie l0_1 x10_1).f1)]) (ok := fun _ => True) (okp := fun _ => True) ?hr ?hp (fun _ hk => hk) trivial (Below.refl _ _) (Nat.le_refl _) (by simp) ?_; (case hd => rfl); (case hg => rfl); (case hr => first | (go_simp; done) | (go_simp; rfl)); (case hp => exact (Reps.c2 (show Kd.M kTie _ _ _ (⟨(rd_TTie l0_1 x10_1).f0, (rd_TTie l0_1 x10_1).f1⟩ : STie) [.int .i64 ((rd_TTie l0_1 x10_1).f0), .int .i64 ((rd_TTie l0_1 x10_1).f1)] from (kTie_mkM _ _ _ (⟨(rd_TTie l0_1 x10_1).f0, (rd_TTie l0_1 x10_1).f1⟩ : STie) )) (Reps.none _ _)))
   intro v111 w17 ho18 hb hg_ hnew_
   clear hg_ hnew_
   (first | rw [← Ny106.out] at ho18 | (simp only [Int.reduceToNat] at ho18; rw [← Ny106.out] at ho18))
   have n0_ := q0 (Kd.R_elder' (qr HO_3.out) (Kd.R_base ho18) hb)
   have n1_ := q0 (Kd.R_lower (Kd.R_newB (Kd.R_new' ho18 (Kd.R_lt (qr HO_3.out))) (g := gb110) (o := .cells #[.int .i64 ((rd_TTie l0_1 x10_1).f0), .int .i64 ((rd_TTie l0_1 x10_1).f1)] 27 (0, 0)) (qk BK110.out)) (below_size (qb HB.out)))
   have n2_ := q0 (kb BK103.out hb)
   have n3_ := q0 (kb BK110.out hb)
   have n4_ := q0 (below_step (qb HB.out) hb)
   clear HO_3
   clear BK103
   clear BK110
   clear HB
   have HO_3 := n0_
   have HO112 := n1_
   have BK103 := n2_
   have BK110 := n3_
   have HB := n4_
   clear n0_ n1_ n2_ n3_ n4_
   clear hb ho18
   obtain ⟨Ao19, co19, eo19⟩ := Kd.R_slice HO112.out
   (first | subst eo19 | (injection eo19 with f1_ f2_ f3_; have f4_ := f1_.symm; have f5_ := f3_.symm; clear f1_ f2_ f3_; subst f4_; subst f5_))
   refine hK.out _ _ ⟨(blk_cell BK103.out 0).trans rfl, (blk_cell BK103.out 1).trans rfl, (blk_cell BK110.out 0).trans rfl, (blk_cell BK110.out 1).trans rfl⟩ (fun hHeld => ?_)
   clear hK K
   refine nu 16 ?_
   refine one_ (i := 3) (N := some 17) (ba 10 255) rfl rfl (one_of HT_.out (by kernel_rfl)) (by decide) (fun K hK => ?_)
   refine goes_ Try.func58 (by kernel_rfl) rfl #[.agg #[.int .i64 a0_0, .slice (some ad109) l0_1.length c0_1], .slice Ao19 y106.length co19] (by rfl) rfl rfl qm ?_
   with_reducible refine (impl_Net_less.calls k1 a0_0 _ _ l0_1 _ _ y106 t101 t107 _ ?side1 ?side2 ?side3 ?side4 A9.out).mono ?_
   (case side1 => exact qc (Kd.C_below HR0_1.out HB.out))
   (case side2 => exact HC0_1.out)
   (case side3 => exact qc (Kd.R_reads' HO112.out).2.2)
   (case side4 => exact (Kd.R_reads' HO112.out).2.1)
   rintro e w20 ⟨v113, rfl, ho0, hb⟩
   refine ⟨_, rfl, ?_⟩
   have n0_ := q0 (Kd.R_elder' (qr HO_3.out) (Kd.R_base ho0) hb)
   have n1_ := q0 (Kd.R_elder' (qr HO112.out) (Kd.R_base ho0) hb)
   have n2_ := q0 (Kd.R_lower (Kd.R_newB (Kd.R_new' (Kd.R_new' ho0 (Kd.R_lt (qr HO_3.out))) (Kd.R_lt (qr HO112.out))) (g := gb110) (o := .cells #[.int .i64 ((rd_TTie l0_1 x10_1).f0), .int .i64 ((rd_TTie l0_1 x10_1).f1)] 27 (0, 0)) (qk BK110.out)) (below_size (qb HB.out)))
   have n3_ := q0 (kb BK103.out hb)
   have n4_ := q0 (kb BK110.out hb)
   have n5_ := q0 (below_step (qb HB.out) hb)
   clear HO_3
   clear HO112
   clear BK103
   clear BK110
   clear HB
   have HO_3 := n0_
   have HO112 := n1_
   have HO114 := n2_
   have BK103 := n3_
   have BK110 := n4_
   have HB := n5_
   clear n0_ n1_ n2_ n3_ n4_ n5_
   (try clear hb)
   (try clear hb2)
   (try clear hk)
   (try clear hi)
   (try clear ho0)
   obtain ⟨Ao21, co21, eo21⟩ := Kd.R_slice HO114.out
   (first | subst eo21 | (injection eo21 with f1_ f2_ f3_; have f4_ := f1_.symm; have f5_ := f3_.symm; clear f1_ f2_ f3_; subst f4_; subst f5_))
   refine hK.out _ _ ⟨(blk_cell BK103.out 0).trans rfl, (blk_cell BK103.out 1).trans rfl, (blk_cell BK110.out 0).trans rfl, (blk_cell BK110.out 1).trans rfl⟩ (fun hHeld => ?_)
   clear hK K
   refine nu 17 ?_
   refine one_ (i := 8) (N := some 22) (ba 10 511) rfl rfl (one_of HT_.out (by kernel_rfl)) (by decide) (fun K hK => ?_)
   refine goes_ Try.func56 (by kernel_rfl) rfl #[.agg #[.int .i64 t101, .slice Ao21 t107.length co21], .int .i64 ((rd_TTie l0_1 x10_1).f0), .int .i64 ((rd_TTie l0_1 x10_1).f1)] (by rfl) rfl rfl qm ?_
   with_reducible refine (impl_Net_joined.calls k1 t101 _ _ t107 ((rd_TTie l0_1 x10_1).f0) ((rd_TTie l0_1 x10_1).f1) true _ ?side1 ?side2 A10.out).mono ?_
   (case side1 => exact qc (Kd.R_reads' HO114.out).2.2)
   (case side2 => exact (Kd.R_reads' HO114.out).2.1)
   rintro e w22 ⟨rfl, hb⟩
   refine ⟨_, rfl, ?_⟩
   have n0_ := q0 (Kd.R_below (qr HO_3.out) hb)
   have n1_ := q0 (Kd.R_below (qr HO112.out) hb)
   have n2_ := q0 (Kd.R_below (qr HO114.out) hb)
   have n3_ := q0 (kb BK103.out hb)
   have n4_ := q0 (kb BK110.out hb)
   have n5_ := q0 (below_step (qb HB.out) hb)
   clear HO_3
   clear HO112
   clear HO114
   clear BK103
   clear BK110
   clear HB
   have HO_3 := n0_
   have HO112 := n1_
   have HO114 := n2_
   have BK103 := n3_
   have BK110 := n4_
   have HB := n5_
   clear n0_ n1_ n2_ n3_ n4_ n5_
   (try clear hb)
   (try clear hb2)
   (try clear hk)
   (try clear hi)
   refine hK.out _ _ ⟨(blk_cell BK103.out 0).trans rfl, (blk_cell BK103.out 1).trans rfl, (blk_cell BK110.out 0).trans rfl, (blk_cell BK110.out 1).trans rfl⟩ (fun hHeld => ?_)
   clear hK K
   refine nu 22 ?_
   refine pu 9 (some 23) (ba 10 1023) HT_.out ?_
   refine done_ (done_of HT_.out (by kernel_rfl)) ?_
   try go_wp2
   go_roundg k1
   case measure => have := HK1.out; omega
   case rel => exact ⟨(x3_1), (wrap64 (x10_1 + 1)), qs, H', ⟨by have := HK1.out; omega⟩, ⟨by (with_reducible repeat (first | apply Kd.R_alloc | apply Kd.R_drewN | apply Kd.R_drew)); exact Kd.R_mono HO_3.out (fun _ hk => trivial)⟩, ⟨qk BK103.out⟩, ⟨qb HB.out⟩⟩
 replace c11 := Bool.eq_false_iff.mpr c11
 subst c11
 have H1 : (if x3_1.length < 8796093022208 then (impl_Net_bridges.l0 k1 (x3_1 ++ [(⟨(rd_TTie l0_1 x10_1).f0, (rd_TTie l0_1 x10_1).f1⟩ : STie)]) l0_1 (l0_1.length : Int) (wrap64 (x10_1 + 1)) a0_0 l0_1) else (none)) = some r := by rw [if_neg (show ¬ (false = true) by decide)] at H; exact H
 clear H
 have H := H1
 clear H1
 by_cases c23 : x3_1.length < 8796093022208
 rotate_left
 · rw [if_neg c23] at H
   exact absurd H (by simp)
 rw [if_pos c23] at H
 have LMc23 := Aside0.mk c23
 clear c23
 obtain ⟨y115, hy115⟩ : ∃ y_ : List (STie), y_ = (x3_1 ++ [(⟨(rd_TTie l0_1 x10_1).f0, (rd_TTie l0_1 x10_1).f1⟩ : STie)]) := ⟨_, rfl⟩
 replace H : (impl_Net_bridges.l0 k1 y115 l0_1 (l0_1.length : Int) (wrap64 (x10_1 + 1)) a0_0 l0_1) = some r := by first | (rw [hy115]; with_reducible exact H) | (have H2_ := (Option.bind_some _ _).symm.trans H; rw [hy115]; with_reducible exact H2_) | (have H2_ := (Option.bind_some _ _).symm.trans H; with_reducible exact H2_) | with_reducible exact H | (rw [hy115]; exact H) | exact H
 have Ny115 := Aside0.mk hy115
 clear hy115
 have H' := Aside0.mk H
 clear H
 have p109 : 0 ≤ (x10_1 : Int) := of_decide_eq_true qa
 have q109 : x10_1 < (l0_1.length : Int) := of_decide_eq_true qa
 obtain ⟨ad109, e109, hx109_0, hx109_1⟩ := at_TTie HR0_1.out x10_1 p109 q109
 cases e109
 replace hx109_0 := (HB.out.cell (World.block_lt_of_cell? w _ hx109_0)).trans hx109_0
 replace hx109_1 := (HB.out.cell (World.block_lt_of_cell? w _ hx109_1)).trans hx109_1
 replace p109 := eq_true p109
 replace q109 := eq_true q109
 try go_wp2_with (first | ((with_reducible refine gate_dst (N := 5) rfl ?_); refine be 5 #[.int .i64 0, .int .i64 0] 27 ?_; intro gb110 hg w24 hbox hb; have n0_ := q0 (Kd.R_below (Kd.R_elderB (qr HO_3.out) gb110 (Nat.le_of_eq hg.symm)) hb); have n1_ := q0 (kb BK103.out hb); have n2_ := q0 (below_step (qb HB.out) hb); have n3_ := q0 (hbox); have n4_ := q0 ((bs HB.out hg : w.heap.size ≤ gb110)); have n5_ := q0 ((bs HB.out hg : w.heap.size ≤ gb110)); have n6_ := q0 ((bl BK103.out hg : gb103 ≠ gb110)); have n7_ := q0 ((bg BK103.out hg : gb110 ≠ gb103)); clear HO_3 BK103 HB; have HO_3 := n0_; have BK103 := n1_; have HB := n2_; have BK110 := n3_; have GW110 := n4_; have GE110 := n5_; have NB103_110 := n6_; have NB110_103 := n7_; clear n0_ n1_ n2_ n3_ n4_ n5_ n6_ n7_ hb hbox hg; have hnb25 := NB110_103.out; have hnc25 := NB103_110.out; have hcz26_0 : w24.cell? ⟨gb110, 0, none⟩ = some (.int .i64 0) := (blk_cell BK110.out 0).trans rfl; have hcz26_1 : w24.cell? ⟨gb110, 1, none⟩ = some (.int .i64 0) := (blk_cell BK110.out 1).trans rfl; have hfz26_0 := blk_frozen BK110.out 0; have hfz26_1 := blk_frozen BK110.out 1))
 have n0_ : Aside0 (Kd.R kTie 27 ((w24.setCell ⟨gb110, 0, none⟩ (.int .i64 ((rd_TTie l0_1 x10_1).f0))).setCell ⟨gb110, 1, none⟩ (.int .i64 ((rd_TTie l0_1 x10_1).f1))) w.heap.size (fun k_ => k_ ≠ gb110) u3 x3_1) := ⟨by (with_reducible repeat (first | apply Kd.R_alloc | apply Kd.R_drewN | apply Kd.R_drew)); exact Kd.R_mono (Kd.R_far (p := ⟨gb110, 1, none⟩) (Kd.R_far (p := ⟨gb110, 0, none⟩) (Kd.R_mono HO_3.out (fun k_ hk => (⟨hk, hk.2⟩ : _ ∧ k_ ≠ gb110))) (fun _ hk => hk.2) (.int .i64 ((rd_TTie l0_1 x10_1).f0))) (fun _ hk => hk.2) (.int .i64 ((rd_TTie l0_1 x10_1).f1))) (fun _ hk => hk.1.2)⟩
 have n1_ : Aside0 (((w24.setCell ⟨gb110, 0, none⟩ (.int .i64 ((rd_TTie l0_1 x10_1).f0))).setCell ⟨gb110, 1, none⟩ (.int .i64 ((rd_TTie l0_1 x10_1).f1))).heap[gb103]? = some (.cells #[.int .i64 a0_0, .slice (some ad109) l0_1.length c0_1] 32 (0, 0))) := ⟨qf BK103.out⟩
 have n2_ : Aside0 (((w24.setCell ⟨gb110, 0, none⟩ (.int .i64 ((rd_TTie l0_1 x10_1).f0))).setCell ⟨gb110, 1, none⟩ (.int .i64 ((rd_TTie l0_1 x10_1).f1))).heap[gb110]? = some (.cells #[.int .i64 ((rd_TTie l0_1 x10_1).f0), .int .i64 ((rd_TTie l0_1 x10_1).f1)] 27 (0, 0))) := ⟨by (with_reducible repeat (first | refine blk_drewN ?_ _ | refine blk_drew ?_ | refine blk_alloc ?_ _)); refine blk_put (cs := #[.int .i64 ((rd_TTie l0_1 x10_1).f0), .int .i64 0]) ?_ 1 _ rfl; (with_reducible repeat (first | refine blk_drewN ?_ _ | refine blk_drew ?_ | refine blk_alloc ?_ _)); refine blk_put (cs := #[.int .i64 0, .int .i64 0]) ?_ 0 _ rfl; (with_reducible repeat (first | refine blk_drewN ?_ _ | refine blk_drew ?_ | refine blk_alloc ?_ _)); exact BK110.out⟩
 have n3_ : Aside0 (Below w.heap.size w ((w24.setCell ⟨gb110, 0, none⟩ (.int .i64 ((rd_TTie l0_1 x10_1).f0))).setCell ⟨gb110, 1, none⟩ (.int .i64 ((rd_TTie l0_1 x10_1).f1)))) := ⟨qb HB.out⟩
 (try clear HO_3)
 (try clear BK103)
 (try clear BK110)
 (try clear HB)
 generalize ((w24.setCell ⟨gb110, 0, none⟩ (.int .i64 ((rd_TTie l0_1 x10_1).f0))).setCell ⟨gb110, 1, none⟩ (.int .i64 ((rd_TTie l0_1 x10_1).f1))) = w27 at n0_ n1_ n2_ n3_ ⊢
 have HO_3 := n0_
 have BK103 := n1_
 have BK110 := n2_
 have HB := n3_
 clear n0_ n1_ n2_ n3_
 have n0_ := q0 (Kd.R_drew HO_3.out)
 have n1_ := q0 (blk_drew BK103.out)
 have n2_ := q0 (blk_drew BK110.out)
 have n3_ := q0 (below_drew1 HB.out)
 clear HO_3
 clear BK103
 clear BK110
 clear HB
 have HO_3 := n0_
 have BK103 := n1_
 have BK110 := n2_
 have HB := n3_
 clear n0_ n1_ n2_ n3_
 refine start_ (n := 10) (S := fun w' => w'.cell? ⟨gb103, 0, none⟩ = some (.int .i64 a0_0) ∧ w'.cell? ⟨gb103, 1, none⟩ = some (.slice (some ad109) l0_1.length c0_1) ∧ w'.cell? ⟨gb110, 0, none⟩ = some (.int .i64 ((rd_TTie l0_1 x10_1).f0)) ∧ w'.cell? ⟨gb110, 1, none⟩ = some (.int .i64 ((rd_TTie l0_1 x10_1).f1))) (ds := []) (ba 10 0) (by kernel_rfl) rfl (by kernel_rfl) ⟨(blk_cell BK103.out 0).trans rfl, (blk_cell BK103.out 1).trans rfl, (blk_cell BK110.out 0).trans rfl, (blk_cell BK110.out 1).trans rfl⟩ (fun hHeld => ?_); refine with_tabW impl_Net_bridges.tab5 impl_Net_bridges.bits5 (fun HT_ HW_ => ?_)
 generalize w27.drew = w28 at HO_3 BK103 BK110 HB hHeld ⊢
 refine pu 4 (some 18) (ba 10 16) HT_.out ?_
 refine pu 6 (some 20) (ba 10 80) HT_.out ?_
 refine tu 0 (some 14) (ba 10 81) HT_.out HW_.out hHeld ?_
 refine tu 1 (some 15) (ba 10 83) HT_.out HW_.out hHeld ?_
 refine tu 5 (some 19) (ba 10 115) HT_.out HW_.out hHeld ?_
 refine tu 7 (some 21) (ba 10 243) HT_.out HW_.out hHeld ?_
 refine one_ (i := 2) (N := some 16) (ba 10 247) rfl rfl (one_of HT_.out (by kernel_rfl)) (by decide) (fun K hK => ?_)
 refine Kd.R_lit_step kTie _ 27 ?hg (N := 16) ?hd (xs := ([(⟨(rd_TTie l0_1 x10_1).f0, (rd_TTie l0_1 x10_1).f1⟩ : STie)] : List (STie))) (inner := [.int .i64 ((rd_TTie l0_1 x10_1).f0), .int .i64 ((rd_TTie l0_1 x10_1).f1)]) (ok := fun _ => True) (okp := fun _ => True) ?hr ?hp (fun _ hk => hk) trivial (Below.refl _ _) (Nat.le_refl _) (by simp) ?_; (case hd => rfl); (case hg => rfl); (case hr => first | (go_simp; done) | (go_simp; rfl)); (case hp => exact (Reps.c2 (show Kd.M kTie _ _ _ (⟨(rd_TTie l0_1 x10_1).f0, (rd_TTie l0_1 x10_1).f1⟩ : STie) [.int .i64 ((rd_TTie l0_1 x10_1).f0), .int .i64 ((rd_TTie l0_1 x10_1).f1)] from (kTie_mkM _ _ _ (⟨(rd_TTie l0_1 x10_1).f0, (rd_TTie l0_1 x10_1).f1⟩ : STie) )) (Reps.none _ _)))
 intro v111 w29 ho30 hb hg_ hnew_
 clear hg_ hnew_
 (first | rw [← Ny106.out] at ho30 | (simp only [Int.reduceToNat] at ho30; rw [← Ny106.out] at ho30))
 have n0_ := q0 (Kd.R_elder' (qr HO_3.out) (Kd.R_base ho30) hb)
 have n1_ := q0 (Kd.R_lower (Kd.R_newB (Kd.R_new' ho30 (Kd.R_lt (qr HO_3.out))) (g := gb110) (o := .cells #[.int .i64 ((rd_TTie l0_1 x10_1).f0), .int .i64 ((rd_TTie l0_1 x10_1).f1)] 27 (0, 0)) (qk BK110.out)) (below_size (qb HB.out)))
 have n2_ := q0 (kb BK103.out hb)
 have n3_ := q0 (kb BK110.out hb)
 have n4_ := q0 (below_step (qb HB.out) hb)
 clear HO_3
 clear BK103
 clear BK110
 clear HB
 have HO_3 := n0_
 have HO112 := n1_
 have BK103 := n2_
 have BK110 := n3_
 have HB := n4_
 clear n0_ n1_ n2_ n3_ n4_
 clear hb ho30
 obtain ⟨Ao31, co31, eo31⟩ := Kd.R_slice HO112.out
 (first | subst eo31 | (injection eo31 with f1_ f2_ f3_; have f4_ := f1_.symm; have f5_ := f3_.symm; clear f1_ f2_ f3_; subst f4_; subst f5_))
 refine hK.out _ _ ⟨(blk_cell BK103.out 0).trans rfl, (blk_cell BK103.out 1).trans rfl, (blk_cell BK110.out 0).trans rfl, (blk_cell BK110.out 1).trans rfl⟩ (fun hHeld => ?_)
 clear hK K
 refine nu 16 ?_
 refine one_ (i := 3) (N := some 17) (ba 10 255) rfl rfl (one_of HT_.out (by kernel_rfl)) (by decide) (fun K hK => ?_)
 refine goes_ Try.func58 (by kernel_rfl) rfl #[.agg #[.int .i64 a0_0, .slice (some ad109) l0_1.length c0_1], .slice Ao31 y106.length co31] (by rfl) rfl rfl qm ?_
 with_reducible refine (impl_Net_less.calls k1 a0_0 _ _ l0_1 _ _ y106 t101 t107 _ ?side1 ?side2 ?side3 ?side4 A9.out).mono ?_
 (case side1 => exact qc (Kd.C_below HR0_1.out HB.out))
 (case side2 => exact HC0_1.out)
 (case side3 => exact qc (Kd.R_reads' HO112.out).2.2)
 (case side4 => exact (Kd.R_reads' HO112.out).2.1)
 rintro e w32 ⟨v113, rfl, ho0, hb⟩
 refine ⟨_, rfl, ?_⟩
 have n0_ := q0 (Kd.R_elder' (qr HO_3.out) (Kd.R_base ho0) hb)
 have n1_ := q0 (Kd.R_elder' (qr HO112.out) (Kd.R_base ho0) hb)
 have n2_ := q0 (Kd.R_lower (Kd.R_newB (Kd.R_new' (Kd.R_new' ho0 (Kd.R_lt (qr HO_3.out))) (Kd.R_lt (qr HO112.out))) (g := gb110) (o := .cells #[.int .i64 ((rd_TTie l0_1 x10_1).f0), .int .i64 ((rd_TTie l0_1 x10_1).f1)] 27 (0, 0)) (qk BK110.out)) (below_size (qb HB.out)))
 have n3_ := q0 (kb BK103.out hb)
 have n4_ := q0 (kb BK110.out hb)
 have n5_ := q0 (below_step (qb HB.out) hb)
 clear HO_3
 clear HO112
 clear BK103
 clear BK110
 clear HB
 have HO_3 := n0_
 have HO112 := n1_
 have HO114 := n2_
 have BK103 := n3_
 have BK110 := n4_
 have HB := n5_
 clear n0_ n1_ n2_ n3_ n4_ n5_
 (try clear hb)
 (try clear hb2)
 (try clear hk)
 (try clear hi)
 (try clear ho0)
 obtain ⟨Ao33, co33, eo33⟩ := Kd.R_slice HO114.out
 (first | subst eo33 | (injection eo33 with f1_ f2_ f3_; have f4_ := f1_.symm; have f5_ := f3_.symm; clear f1_ f2_ f3_; subst f4_; subst f5_))
 refine hK.out _ _ ⟨(blk_cell BK103.out 0).trans rfl, (blk_cell BK103.out 1).trans rfl, (blk_cell BK110.out 0).trans rfl, (blk_cell BK110.out 1).trans rfl⟩ (fun hHeld => ?_)
 clear hK K
 refine nu 17 ?_
 refine one_ (i := 8) (N := some 22) (ba 10 511) rfl rfl (one_of HT_.out (by kernel_rfl)) (by decide) (fun K hK => ?_)
 refine goes_ Try.func56 (by kernel_rfl) rfl #[.agg #[.int .i64 t101, .slice Ao33 t107.length co33], .int .i64 ((rd_TTie l0_1 x10_1).f0), .int .i64 ((rd_TTie l0_1 x10_1).f1)] (by rfl) rfl rfl qm ?_
 with_reducible refine (impl_Net_joined.calls k1 t101 _ _ t107 ((rd_TTie l0_1 x10_1).f0) ((rd_TTie l0_1 x10_1).f1) false _ ?side1 ?side2 A10.out).mono ?_
 (case side1 => exact qc (Kd.R_reads' HO114.out).2.2)
 (case side2 => exact (Kd.R_reads' HO114.out).2.1)
 rintro e w34 ⟨rfl, hb⟩
 refine ⟨_, rfl, ?_⟩
 have n0_ := q0 (Kd.R_below (qr HO_3.out) hb)
 have n1_ := q0 (Kd.R_below (qr HO112.out) hb)
 have n2_ := q0 (Kd.R_below (qr HO114.out) hb)
 have n3_ := q0 (kb BK103.out hb)
 have n4_ := q0 (kb BK110.out hb)
 have n5_ := q0 (below_step (qb HB.out) hb)
 clear HO_3
 clear HO112
 clear HO114
 clear BK103
 clear BK110
 clear HB
 have HO_3 := n0_
 have HO112 := n1_
 have HO114 := n2_
 have BK103 := n3_
 have BK110 := n4_
 have HB := n5_
 clear n0_ n1_ n2_ n3_ n4_ n5_
 (try clear hb)
 (try clear hb2)
 (try clear hk)
 (try clear hi)
 refine hK.out _ _ ⟨(blk_cell BK103.out 0).trans rfl, (blk_cell BK103.out 1).trans rfl, (blk_cell BK110.out 0).trans rfl, (blk_cell BK110.out 1).trans rfl⟩ (fun hHeld => ?_)
 clear hK K
 refine nu 22 ?_
 refine pu 9 (some 23) (ba 10 1023) HT_.out ?_
 refine done_ (done_of HT_.out (by kernel_rfl)) ?_
 have hcz35_0 : w34.cell? ⟨gb110, 0, none⟩ = some (.int .i64 ((rd_TTie l0_1 x10_1).f0)) := (blk_cell BK110.out 0).trans rfl
 have hcz35_1 : w34.cell? ⟨gb110, 1, none⟩ = some (.int .i64 ((rd_TTie l0_1 x10_1).f1)) := (blk_cell BK110.out 1).trans rfl
 have hfz35_0 := blk_frozen BK110.out 0
 have hfz35_1 := blk_frozen BK110.out 1
 try go_wp2_with (first | ((with_reducible refine gate_builtin (b := .append) (xs := #[.tmp 24, .tmp 26]) rfl ?_); at_builtin; refine Kd.R_append kTie (w0 := w) w.heap.size rfl (.tmp 24) (.tmp 26) 30 27 (.agg #[(.int .i64 0), (.int .i64 0)]) 16 rfl Try.underlying30 info27 rfl (by decide) (by omega) u3 x3_1 (⟨(rd_TTie l0_1 x10_1).f0, (rd_TTie l0_1 x10_1).f1⟩ : STie) [.int .i64 ((rd_TTie l0_1 x10_1).f0), .int .i64 ((rd_TTie l0_1 x10_1).f1)] (fun k_ => some k_ ≠ (.slice Ao31 y106.length co31 : Value).ownBlock ∧ some k_ ≠ (.slice Ao33 t107.length co33 : Value).ownBlock ∧ k_ ≠ gb110) (fun _ => False) rfl rfl ?aP (fun _ hk => hk.elim) ?aF ?aO ?aB ?aS ?aL ?_; (case aP => exact kTie_mkM _ _ _ (⟨(rd_TTie l0_1 x10_1).f0, (rd_TTie l0_1 x10_1).f1⟩ : STie)); (case aB => exact (qb HB.out)); (case aF => exact (fun k_ hk => ⟨Kd.fresh' (Kd.R_lt (qr HO112.out)) k_ hk, Kd.fresh' (Kd.R_lt (qr HO114.out)) k_ hk, Kd.freshB (g := gb110) (o := .cells #[.int .i64 ((rd_TTie l0_1 x10_1).f0), .int .i64 ((rd_TTie l0_1 x10_1).f1)] 27 (0, 0)) (qk BK110.out) k_ hk⟩)); (case aO => exact (by (with_reducible repeat (first | apply Kd.R_alloc | apply Kd.R_drewN | apply Kd.R_drew)); exact Kd.R_mono HO_3.out (fun _ hk => ⟨hk.1.2, ⟨hk.2, hk.1.1⟩⟩))); (case aS => exact (below_size (qb HB.out))); (case aL => have := LMc23.out; omega); intro v116 w36 ho hb hg hat; rw [← Ny115.out] at ho; have n0_ := q0 (blk_grown (g := gb103) (o := .cells #[.int .i64 a0_0, .slice (some ad109) l0_1.length c0_1] 32 (0, 0)) (qk BK103.out) hg (Kd.R_ne HO_3.out BK103.out (by decide))); have n1_ := q0 (blk_grown (g := gb110) (o := .cells #[.int .i64 ((rd_TTie l0_1 x10_1).f0), .int .i64 ((rd_TTie l0_1 x10_1).f1)] 27 (0, 0)) (qk BK110.out) hg (Kd.R_away HO_3.out (fun _ hk => hk.1.1))); have n2_ := q0 (Kd.R_after (ok := (fun k_ => some k_ ≠ (.slice Ao33 t107.length co33 : Value).ownBlock ∧ k_ ≠ gb110)) (by (with_reducible repeat (first | apply Kd.R_alloc | apply Kd.R_drewN | apply Kd.R_drew)); exact Kd.R_mono HO112.out (fun _ hk => ⟨⟨hk.2, hk.1.2⟩, hk.1.1.2⟩)) hg hat); have n3_ := q0 (Kd.R_after (ok := (fun k_ => some k_ ≠ (.slice Ao31 y106.length co31 : Value).ownBlock ∧ k_ ≠ gb110)) (by (with_reducible repeat (first | apply Kd.R_alloc | apply Kd.R_drewN | apply Kd.R_drew)); exact Kd.R_mono HO114.out (fun _ hk => ⟨⟨hk.1.2, hk.2⟩, hk.1.1.2⟩)) hg hat); have n4_ := q0 (hb); have n5_ := q0 (ho); clear BK103 BK110 HO112 HO114 HB HO_3; have BK103 := n0_; have BK110 := n1_; have HO112 := n2_; have HO114 := n3_; have HB := n4_; have HO117 := n5_; clear n0_ n1_ n2_ n3_ n4_ n5_ ho hb hg hat))
 go_roundg k1
 case measure => have := HK1.out; omega
 case rel => exact ⟨(y115), (wrap64 (x10_1 + 1)), qs, H', ⟨by have := HK1.out; omega⟩, ⟨by (with_reducible repeat (first | apply Kd.R_alloc | apply Kd.R_drewN | apply Kd.R_drew)); exact Kd.R_mono HO117.out (fun _ hk => trivial)⟩, ⟨qk BK103.out⟩, ⟨qb HB.out⟩⟩

end Go.Proofs.Ytheoebelhgbejab.P
