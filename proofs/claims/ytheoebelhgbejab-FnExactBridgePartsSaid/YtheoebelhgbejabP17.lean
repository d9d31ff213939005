import Derived.Test.YtheoebelhgbejabP0
import Derived.Test.YtheoebelhgbejabP1
import Derived.Test.YtheoebelhgbejabP2
import Derived.Test.YtheoebelhgbejabP3
import Derived.Test.YtheoebelhgbejabP4
import Derived.Test.YtheoebelhgbejabP7
import Derived.Test.YtheoebelhgbejabP11
namespace Go.Proofs.Ytheoebelhgbejab.P
open Go.RowKit Go.Proofs.YtheoebelhgbejabW.PrintWords Go.Proofs.YtheoebelhgbejabW.PrintLast Go.Proofs.YtheoebelhgbejabW.PrintMore
attribute [local go_sem] max2_int min2_int max_two min_two max_three min_three max_four min_four
set_option linter.unusedVariables false
set_option linter.unusedSimpArgs false
attribute [local go_sem high] eqATie
def spec_BridgeParts.T8 : Bool × List (List Nat × List Nat) := (true, [([], []), ([], []), ([], []), ([1, 2], [1, 2]), ([3], [3]), ([4], [4]), ([], []), ([], []), ([6, 7], [6, 7]), ([8], [8]), ([9], [9]), ([0, 5, 10], [0, 5, 10]), ([11], [11]), ([12], [12]), ([12], [12]), ([13, 11, 0, 1, 2, 3, 4, 5, 6, 7, 8, 9, 10, 11, 12, 13], [13])])
def spec_BridgeParts.B8 : List Nat := [0, 0, 0, 6, 14, 30, 0, 0, 192, 448, 960, 2047, 4095, 8191, 8191, 16383]
theorem spec_BridgeParts.tab8 : rtab .any (opsOf Try.f35 8) = spec_BridgeParts.T8 := by kernel_rfl
theorem spec_BridgeParts.bits8 : waitsOk spec_BridgeParts.T8.2 spec_BridgeParts.B8 = true := by kernel_rfl
set_option maxHeartbeats 8000000 in
set_option maxRecDepth 100000 in
theorem spec_BridgeParts.calls (k : Nat) (a0_0 : Int) (A0_1 : Option Addr) (c0_1 : Nat) (l0_1 : List (STie)) (r : List Int) (w : World) (hr0_1 : Kd.C kTie w A0_1 l0_1.length l0_1) (hc0_1 : l0_1.length ≤ c0_1) (h : spec_BridgeParts.f k a0_0 l0_1 = some r) :
    Calls Try.prog 35 #[.agg #[.int .i64 a0_0, .slice A0_1 l0_1.length c0_1]] w fun e w' => ∃ v0_ : Value, e = .returned (v0_) ∧ Kd.R (Kd.int .i64) 3 w' w.heap.size (fun _ => True) v0_ r ∧ Below w.heap.size w w' := by
 have hu32 := Try.underlying32
 have HR0_1 := Aside0.mk hr0_1
 have HC0_1 := Aside0.mk hc0_1
 clear hr0_1 hc0_1
 have HB := q0 (Below.refl w.heap.size w)
 have H : ((spec_NetOk.f k a0_0 l0_1).bind fun t103 => (if t103 = true then ((spec_l1Copy.f a0_0 l0_1).bind fun bt104 => ((spec_BridgeList.f k a0_0 l0_1).bind fun t100 => (spec_BridgeParts.l0 k t100 0 bt104.1 bt104.2))) else (some (([] : List Int))))) = some r := h
 clear h
 replace H := Option.bind_eq_some_iff.mp H
 obtain ⟨t103, A20, H⟩ := H
 replace H : (if t103 = true then ((spec_l1Copy.f a0_0 l0_1).bind fun bt104 => ((spec_BridgeList.f k a0_0 l0_1).bind fun t100 => (spec_BridgeParts.l0 k t100 0 bt104.1 bt104.2))) else (some (([] : List Int)))) = some r := H
 have A2 := Aside0.mk A20
 clear A20
 by_cases c3 : t103 = true
 rotate_left
 · replace c3 := Bool.eq_false_iff.mpr c3
   subst c3
   have H1 : (some (([] : List Int))) = some r := by rw [if_neg (show ¬ (false = true) by decide)] at H; exact H
   clear H
   have H := H1
   clear H1
   obtain ⟨y122, hy122⟩ : ∃ y_ : List Int, y_ = (([] : List Int)) := ⟨_, rfl⟩
   replace H : (some y122) = some r := by first | (rw [hy122]; with_reducible exact H) | (have H2_ := (Option.bind_some _ _).symm.trans H; rw [hy122]; with_reducible exact H2_) | (have H2_ := (Option.bind_some _ _).symm.trans H; with_reducible exact H2_) | with_reducible exact H | (rw [hy122]; exact H) | exact H
   have Ny122 := Aside0.mk hy122
   clear hy122
   obtain rfl := Option.some.inj H
   go_enter Try.func35, Try.ntmps35
   go_wp2_with (first | ((with_reducible refine gate_dst (N := 1) rfl ?_); refine be 1 #[.int .i64 a0_0, .slice A0_1 l0_1.length c0_1] 32 ?_; intro gb106 hg w33 hbox hb; have n0_ := q0 (below_step (qb HB.out) hb); have n1_ := q0 (hbox); have n2_ := q0 ((bs HB.out hg : w.heap.size ≤ gb106)); have n3_ := q0 ((bs HB.out hg : w.heap.size ≤ gb106)); clear HB; have HB := n0_; have BK106 := n1_; have GW106 := n2_; have GE106 := n3_; clear n0_ n1_ n2_ n3_ hb hbox hg; have hcz34_0 : w33.cell? ⟨gb106, 0, none⟩ = some (.int .i64 a0_0) := (blk_cell BK106.out 0).trans rfl; have hcz34_1 : w33.cell? ⟨gb106, 1, none⟩ = some (.slice A0_1 l0_1.length c0_1) := (blk_cell BK106.out 1).trans rfl; have hfz34_0 := blk_frozen BK106.out 0; have hfz34_1 := blk_frozen BK106.out 1) | ((with_reducible refine gate_callee (f := 23) rfl ?_); refine goesL_ (some 7) rfl rfl Try.func23 (by kernel_rfl) rfl #[.agg #[.int .i64 a0_0, .slice A0_1 l0_1.length c0_1]] rfl qm ?_; (with_reducible refine (spec_NetOk.calls k a0_0 _ _ l0_1 false _ ?side1 ?side2 A2.out).mono ?_); (case side1 => exact qc (Kd.C_below HR0_1.out HB.out)); (case side2 => exact HC0_1.out); rintro e w35 ⟨rfl, hb⟩; refine ⟨_, rfl, ?_⟩; have n0_ := q0 (kb BK106.out hb); have n1_ := q0 (below_step (qb HB.out) hb); clear BK106 HB; have BK106 := n0_; have HB := n1_; clear n0_ n1_; (try clear hb); (try clear hb2); (try clear hk); (try clear hi)) | ((with_reducible refine gate_dst (N := 9) rfl ?_); refine Kd.R_lit (Kd.int .i64) _ 3 ?hg (N := 9) ?hd (xs := ([] : List Int)) (inner := []) (ok := fun _ => True) (okp := fun _ => True) ?hr ?hp (fun _ hk => hk) trivial (Below.refl _ _) (Nat.le_refl _) (by simp) ?_; (case hd => rfl); (case hg => rfl); (case hr => first | (go_simp; done) | (go_simp; rfl)); (case hp => exact (Reps.none _ _)); intro v123 w36 ho37 hb hg_ hnew_; clear hg_ hnew_; (first | rw [← Ny122.out] at ho37 | (simp only [Int.reduceToNat] at ho37; rw [← Ny122.out] at ho37)); have n0_ := q0 (Kd.R_lower ho37 (below_size (qb HB.out))); have n1_ := q0 (kb BK106.out hb); have n2_ := q0 (below_step (qb HB.out) hb); clear BK106 HB; have HO124 := n0_; have BK106 := n1_; have HB := n2_; clear n0_ n1_ n2_ hb ho37))
   go_ret
   exact ⟨_, qe, by (with_reducible repeat (first | apply Kd.R_alloc | apply Kd.R_drewN | apply Kd.R_drew)); exact HO124.out, qb HB.out⟩
 subst c3
 have H1 : ((spec_l1Copy.f a0_0 l0_1).bind fun bt104 => ((spec_BridgeList.f k a0_0 l0_1).bind fun t100 => (spec_BridgeParts.l0 k t100 0 bt104.1 bt104.2))) = some r := by rw [if_pos rfl] at H; exact H
 clear H
 have H := H1
 clear H1
 replace H := Option.bind_eq_some_iff.mp H
 obtain ⟨⟨t104, t105⟩, A40, H⟩ := H
 replace H : ((spec_BridgeList.f k a0_0 l0_1).bind fun t100 => (spec_BridgeParts.l0 k t100 0 t104 t105)) = some r := H
 have A4 := Aside0.mk A40
 clear A40
 replace H := Option.bind_eq_some_iff.mp H
 obtain ⟨t100, A50, H⟩ := H
 replace H : (spec_BridgeParts.l0 k t100 0 t104 t105) = some r := H
 have A5 := Aside0.mk A50
 clear A50
 have H' := Aside0.mk H
 clear H
 go_enter Try.func35, Try.ntmps35
 go_wp2_with (first | ((with_reducible refine gate_dst (N := 1) rfl ?_); refine be 1 #[.int .i64 a0_0, .slice A0_1 l0_1.length c0_1] 32 ?_; intro gb106 hg w6 hbox hb; have n0_ := q0 (below_step (qb HB.out) hb); have n1_ := q0 (hbox); have n2_ := q0 ((bs HB.out hg : w.heap.size ≤ gb106)); have n3_ := q0 ((bs HB.out hg : w.heap.size ≤ gb106)); clear HB; have HB := n0_; have BK106 := n1_; have GW106 := n2_; have GE106 := n3_; clear n0_ n1_ n2_ n3_ hb hbox hg; have hcz7_0 : w6.cell? ⟨gb106, 0, none⟩ = some (.int .i64 a0_0) := (blk_cell BK106.out 0).trans rfl; have hcz7_1 : w6.cell? ⟨gb106, 1, none⟩ = some (.slice A0_1 l0_1.length c0_1) := (blk_cell BK106.out 1).trans rfl; have hfz7_0 := blk_frozen BK106.out 0; have hfz7_1 := blk_frozen BK106.out 1) | ((with_reducible refine gate_callee (f := 23) rfl ?_); refine goesL_ (some 7) rfl rfl Try.func23 (by kernel_rfl) rfl #[.agg #[.int .i64 a0_0, .slice A0_1 l0_1.length c0_1]] rfl qm ?_; (with_reducible refine (spec_NetOk.calls k a0_0 _ _ l0_1 true _ ?side1 ?side2 A2.out).mono ?_); (case side1 => exact qc (Kd.C_below HR0_1.out HB.out)); (case side2 => exact HC0_1.out); rintro e w8 ⟨rfl, hb⟩; refine ⟨_, rfl, ?_⟩; have n0_ := q0 (kb BK106.out hb); have n1_ := q0 (below_step (qb HB.out) hb); clear BK106 HB; have BK106 := n0_; have HB := n1_; clear n0_ n1_; (try clear hb); (try clear hb2); (try clear hk); (try clear hi); have hcz9_0 : w8.cell? ⟨gb106, 0, none⟩ = some (.int .i64 a0_0) := (blk_cell BK106.out 0).trans rfl; have hcz9_1 : w8.cell? ⟨gb106, 1, none⟩ = some (.slice A0_1 l0_1.length c0_1) := (blk_cell BK106.out 1).trans rfl; have hfz9_0 := blk_frozen BK106.out 0; have hfz9_1 := blk_frozen BK106.out 1) | ((with_reducible refine gate_callee (f := 70) rfl ?_); refine goesL_ (some 11) rfl rfl Try.func70 (by kernel_rfl) rfl #[.agg #[.int .i64 a0_0, .slice A0_1 l0_1.length c0_1]] rfl qm ?_; (with_reducible refine (spec_l1Copy.calls a0_0 _ _ l0_1 t104 t105 _ ?side1 ?side2 A4.out).mono ?_); (case side1 => exact qc (Kd.C_below HR0_1.out HB.out)); (case side2 => exact HC0_1.out); rintro e w10 ⟨v107, rfl, ho0, hb⟩; refine ⟨_, rfl, ?_⟩; have n0_ := q0 (Kd.R_lower ho0 (below_size (qb HB.out))); have n1_ := q0 (kb BK106.out hb); have n2_ := q0 (below_step (qb HB.out) hb); clear BK106 HB; have HO108 := n0_; have BK106 := n1_; have HB := n2_; clear n0_ n1_ n2_; (try clear hb); (try clear hb2); (try clear hk); (try clear hi); (try clear ho0)) | ((with_reducible refine gate_dst (N := 3) rfl ?_); refine be 3 #[.int .i64 0, .slice none 0 0] 32 ?_; intro gb109 hg w11 hbox hb; have n0_ := q0 (Kd.R_below (qr HO108.out) hb); have n1_ := q0 (kb BK106.out hb); have n2_ := q0 (below_step (qb HB.out) hb); have n3_ := q0 (hbox); have n4_ := q0 ((bs HB.out hg : w.heap.size ≤ gb109)); have n5_ := q0 ((bs HB.out hg : w.heap.size ≤ gb109)); have n6_ := q0 ((bl BK106.out hg : gb106 ≠ gb109)); have n7_ := q0 ((bg BK106.out hg : gb109 ≠ gb106)); clear HO108 BK106 HB; have HO108 := n0_; have BK106 := n1_; have HB := n2_; have BK109 := n3_; have GW109 := n4_; have GE109 := n5_; have NB106_109 := n6_; have NB109_106 := n7_; clear n0_ n1_ n2_ n3_ n4_ n5_ n6_ n7_ hb hbox hg; have hnb12 := NB109_106.out; have hnc12 := NB106_109.out; have hcz13_0 : w11.cell? ⟨gb109, 0, none⟩ = some (.int .i64 0) := (blk_cell BK109.out 0).trans rfl; have hcz13_1 : w11.cell? ⟨gb109, 1, none⟩ = some (.slice none 0 0) := (blk_cell BK109.out 1).trans rfl; have hfz13_0 := blk_frozen BK109.out 0; have hfz13_1 := blk_frozen BK109.out 1; obtain ⟨Ao14, co14, eo14⟩ := Kd.R_slice HO108.out; subst eo14; have hcz15_0 : w11.cell? ⟨gb106, 0, none⟩ = some (.int .i64 a0_0) := (blk_cell BK106.out 0).trans rfl; have hcz15_1 : w11.cell? ⟨gb106, 1, none⟩ = some (.slice A0_1 l0_1.length c0_1) := (blk_cell BK106.out 1).trans rfl; have hfz15_0 := blk_frozen BK106.out 0; have hfz15_1 := blk_frozen BK106.out 1) | ((with_reducible refine gate_callee (f := 26) rfl ?_); refine goesL_ (some 13) rfl rfl Try.func26 (by kernel_rfl) rfl #[.agg #[.int .i64 a0_0, .slice A0_1 l0_1.length c0_1]] rfl qm ?_; (with_reducible refine (spec_BridgeList.calls k a0_0 _ _ l0_1 t100 _ ?side1 ?side2 A5.out).mono ?_); (case side1 => exact Kd.C_below HR0_1.out (qb HB.out)); (case side2 => exact HC0_1.out); rintro e w16 ⟨v110, rfl, ho0, hb⟩; refine ⟨_, rfl, ?_⟩; have n0_ := q0 (Kd.R_elder' (by (with_reducible repeat (first | apply Kd.R_alloc | apply Kd.R_drewN | apply Kd.R_drew)); exact (Kd.R_mono (Kd.R_far (p := ⟨gb109, 1, none⟩) (Kd.R_far (p := ⟨gb109, 0, none⟩) (Kd.R_types HO108.out BK109.out (by decide)) (fun _ hk => hk.2) (.int .i64 t104)) (fun _ hk => hk.2) (.slice Ao14 t105.length co14)) (fun _ h_ => h_.1))) (Kd.R_base ho0) hb); have n1_ := q0 (Kd.R_lower (Kd.R_new' ho0 (Kd.R_lt (by (with_reducible repeat (first | apply Kd.R_alloc | apply Kd.R_drewN | apply Kd.R_drew)); exact (Kd.R_mono (Kd.R_far (p := ⟨gb109, 1, none⟩) (Kd.R_far (p := ⟨gb109, 0, none⟩) (Kd.R_types HO108.out BK109.out (by decide)) (fun _ hk => hk.2) (.int .i64 t104)) (fun _ hk => hk.2) (.slice Ao14 t105.length co14)) (fun _ h_ => h_.1))))) (below_size (qb HB.out))); have n2_ := q0 (blk_below (g := gb106) (o := .cells #[.int .i64 a0_0, .slice A0_1 l0_1.length c0_1] 32 (0, 0)) (qf BK106.out) hb); have n3_ := q0 (blk_below (g := gb109) (o := .cells #[.int .i64 t104, .slice Ao14 t105.length co14] 32 (0, 0)) (by (with_reducible repeat (first | refine blk_drewN ?_ _ | refine blk_drew ?_ | refine blk_alloc ?_ _)); refine blk_put (cs := #[.int .i64 t104, .slice none 0 0]) ?_ 1 _ rfl; (with_reducible repeat (first | refine blk_drewN ?_ _ | refine blk_drew ?_ | refine blk_alloc ?_ _)); refine blk_put (cs := #[.int .i64 0, .slice none 0 0]) ?_ 0 _ rfl; (with_reducible repeat (first | refine blk_drewN ?_ _ | refine blk_drew ?_ | refine blk_alloc ?_ _)); exact BK109.out) hb); have n4_ := q0 (below_step (qb HB.out) hb); clear HO108 BK106 BK109 HB; have HO108 := n0_; have HO111 := n1_; have BK106 := n2_; have BK109 := n3_; have HB := n4_; clear n0_ n1_ n2_ n3_ n4_; (try clear hb); (try clear hb2); (try clear hk); (try clear hi); (try clear ho0)))
 go_loopg [5] k (fun kq v5 w' => ∃ (x5_1 : Int) (x100000_1 : Int) (x100001_1 : List (STie)) (u100001 : Value), v5 = .int .i64 x5_1 ∧ Aside0 (spec_BridgeParts.l0 kq t100 x5_1 x100000_1 x100001_1 = some r) ∧ Aside0 (kq ≤ k) ∧ Aside0 (Kd.R kTie 27 w' w.heap.size (fun k_ => some k_ ≠ (u100001 : Value).ownBlock) v110 t100) ∧ Aside0 (Kd.R kTie 27 w' w.heap.size (fun k_ => some k_ ≠ (v110 : Value).ownBlock) u100001 x100001_1) ∧ Aside0 (w'.heap[gb106]? = some (.cells #[.int .i64 a0_0, (.slice A0_1 l0_1.length c0_1)] 32 (0, 0))) ∧ Aside0 (w'.heap[gb109]? = some (.cells #[.int .i64 x100000_1, u100001] 32 (0, 0))) ∧ Aside0 (Below w.heap.size w w'))
 case atStart => exact ⟨(0), (t104), (t105), (.slice Ao14 t105.length co14), qs, H', ⟨Nat.le_refl _⟩, ⟨by (with_reducible repeat (first | apply Kd.R_alloc | apply Kd.R_drewN | apply Kd.R_drew)); exact Kd.R_mono HO111.out (fun _ hk => hk.2)⟩, ⟨by (with_reducible repeat (first | apply Kd.R_alloc | apply Kd.R_drewN | apply Kd.R_drew)); exact Kd.R_mono HO108.out (fun _ hk => hk.2)⟩, ⟨qk BK106.out⟩, ⟨qk BK109.out⟩, ⟨qb HB.out⟩⟩
 clear H'
 try clear c1
 try clear c2
 try clear p2
 try clear c3
 try clear c7
 try clear c12
 try clear hcz13_0
 try clear hcz13_1
 try clear hcz15_0
 try clear hcz15_1
 try clear hcz7_0
 try clear hcz7_1
 try clear hcz9_0
 try clear hcz9_1
 try clear hfz13_0
 try clear hfz13_1
 try clear hfz15_0
 try clear hfz15_1
 try clear hfz7_0
 try clear hfz7_1
 try clear hfz9_0
 try clear hfz9_1
 obtain ⟨x5_1, x100000_1, x100001_1, u100001, rfl, HA, HK1, HO_4, HO_100001, BK106, BK109, HB⟩ := hrel
 rcases gk with _ | k1
 · exact absurd HA.out (by simp [spec_BridgeParts.l0])
 have H := HA.out
 clear HA
 simp only [spec_BridgeParts.l0] at H
 by_cases c17 : x5_1 < (t100.length : Int)
 rotate_left
 · rw [if_neg c17] at H
   have c17b0 : decide (x5_1 < (t100.length : Int)) = false := decide_eq_false c17
   clear c17
   replace H := Option.bind_eq_some_iff.mp H
   obtain ⟨t102, A119, H⟩ := H
   replace H : (some t102) = some r := H
   have A27 := Aside0.mk A119
   clear A119
   obtain rfl := Option.some.inj H
   obtain ⟨Ao28, co28, eo28⟩ := Kd.R_slice HO_4.out
   subst eo28
   have hnb29 := NB109_106.out
   have hnc29 := NB106_109.out
   have hcz30_0 : wr.cell? ⟨gb109, 0, none⟩ = some (.int .i64 x100000_1) := (blk_cell BK109.out 0).trans rfl
   have hcz30_1 : wr.cell? ⟨gb109, 1, none⟩ = some (u100001) := (blk_cell BK109.out 1).trans rfl
   have hfz30_0 := blk_frozen BK109.out 0
   have hfz30_1 := blk_frozen BK109.out 1
   obtain ⟨Ao31, co31, eo31⟩ := Kd.R_slice HO_100001.out
   subst eo31
   go_wp2_with (first | ((with_reducible refine gate_callee (f := 71) rfl ?_); refine goesL_ (some 36) rfl rfl Try.func71 (by kernel_rfl) rfl #[.agg #[.int .i64 x100000_1, .slice Ao31 x100001_1.length co31]] rfl qm ?_; (with_reducible refine (spec_WayParts.calls k1 x100000_1 _ _ x100001_1 t102 _ ?side1 ?side2 A27.out).mono ?_); (case side1 => exact qc (Kd.R_reads' HO_100001.out).2.2); (case side2 => exact (Kd.R_reads' HO_100001.out).2.1); rintro e w32 ⟨v120, rfl, ho0, hb⟩; refine ⟨_, rfl, ?_⟩; have n0_ := q0 (Kd.R_below (qr HO_4.out) hb); have n1_ := q0 (Kd.R_below (qr HO_100001.out) hb); have n2_ := q0 (Kd.R_lower ho0 (below_size (qb HB.out))); have n3_ := q0 (kb BK106.out hb); have n4_ := q0 (kb BK109.out hb); have n5_ := q0 (below_step (qb HB.out) hb); clear HO_4 HO_100001 BK106 BK109 HB; have HO_4 := n0_; have HO_100001 := n1_; have HO121 := n2_; have BK106 := n3_; have BK109 := n4_; have HB := n5_; clear n0_ n1_ n2_ n3_ n4_ n5_; (try clear hb); (try clear hb2); (try clear hk); (try clear hi); (try clear ho0)))
   go_ret
   exact ⟨_, qe, by (with_reducible repeat (first | apply Kd.R_alloc | apply Kd.R_drewN | apply Kd.R_drew)); exact HO121.out, qb HB.out⟩
 rw [if_pos c17] at H
 have c17b0 : decide (x5_1 < (t100.length : Int)) = true := decide_eq_true c17
 clear c17
 by_cases c18 : 0 ≤ x5_1
 rotate_left
 · rw [if_neg c18] at H
   exact absurd H (by simp)
 rw [if_pos c18] at H
 have c18b0 : decide (0 ≤ x5_1) = true := decide_eq_true c18
 clear c18
 replace H := Option.bind_eq_some_iff.mp H
 obtain ⟨⟨t101, t112, t113⟩, A114, H⟩ := H
 replace H : (spec_BridgeParts.l0 k1 t100 (wrap64 (x5_1 + 1)) t101 t112) = some r := H
 have A19 := Aside0.mk A114
 clear A114
 have H' := Aside0.mk H
 clear H
 obtain ⟨Ao20, co20, eo20⟩ := Kd.R_slice HO_4.out
 subst eo20
 try go_wp2
 have n0_ := q0 (Kd.R_drew HO_4.out)
 have n1_ := q0 (Kd.R_drew HO_100001.out)
 have n2_ := q0 (blk_drew BK106.out)
 have n3_ := q0 (blk_drew BK109.out)
 have n4_ := q0 (below_drew1 HB.out)
 clear HO_4
 clear HO_100001
 clear BK106
 clear BK109
 clear HB
 have HO_4 := n0_
 have HO_100001 := n1_
 have BK106 := n2_
 have BK109 := n3_
 have HB := n4_
 clear n0_ n1_ n2_ n3_ n4_
 have p115 : 0 ≤ (x5_1 : Int) := of_decide_eq_true qa
 have q115 : x5_1 < (t100.length : Int) := of_decide_eq_true qa
 obtain ⟨ad115, e115, hx115_0, hx115_1⟩ := at_TTie (Kd.R_reads' HO_4.out).2.2 x5_1 p115 q115
 cases e115
 replace p115 := eq_true p115
 replace q115 := eq_true q115
 have p116 : 0 ≤ (x5_1 : Int) := of_decide_eq_true qa
 have q116 : x5_1 < (t100.length : Int) := of_decide_eq_true qa
 obtain ⟨ad116, e116, hx116_0, hx116_1⟩ := at_TTie (Kd.R_reads' HO_4.out).2.2 x5_1 p116 q116
 obtain rfl : ad115 = ad116 := (by injection e116)
 replace p116 := eq_true p116
 replace q116 := eq_true q116
 obtain ⟨Ao22, co22, eo22⟩ := Kd.R_slice HO_100001.out
 (first | subst eo22 | (injection eo22 with f1_ f2_ f3_; have f4_ := f1_.symm; have f5_ := f3_.symm; clear f1_ f2_ f3_; subst f4_; subst f5_))
 refine start_ (n := 16) (S := fun w' => w'.cell? ⟨gb109, 0, none⟩ = some (.int .i64 x100000_1) ∧ w'.cell? ⟨gb109, 1, none⟩ = some (.slice Ao22 x100001_1.length co22) ∧ w'.cell? (ad115.add ((x5_1).toNat * 2)) = some (.int .i64 ((rd_TTie t100 x5_1).f0)) ∧ w'.cell? ⟨(ad115.add ((x5_1).toNat * 2)).block, (ad115.add ((x5_1).toNat * 2)).off + 1, none⟩ = some (.int .i64 ((rd_TTie t100 x5_1).f1)) ∧ w'.cell? (ad115.add ((x5_1).toNat * 2)) = some (.int .i64 ((rd_TTie t100 x5_1).f0)) ∧ w'.cell? ⟨(ad115.add ((x5_1).toNat * 2)).block, (ad115.add ((x5_1).toNat * 2)).off + 1, none⟩ = some (.int .i64 ((rd_TTie t100 x5_1).f1))) (ds := [15]) (ba 16 0) (by kernel_rfl) rfl (by kernel_rfl) ⟨(blk_cell BK109.out 0).trans rfl, (blk_cell BK109.out 1).trans rfl, hx115_0, hx115_1, hx116_0, hx116_1⟩ (fun hHeld => ?_); refine with_tabW spec_BridgeParts.tab8 spec_BridgeParts.bits8 (fun HT_ HW_ => ?_)
 generalize wr.drew = w21 at HO_4 HO_100001 BK106 BK109 HB hx115_0 hx115_1 hx116_0 hx116_1 hHeld ⊢
 refine pu 1 (some 22) (ba 16 2) HT_.out ?_
 refine pu 2 (some 23) (ba 16 6) HT_.out ?_
 refine pu 3 (some 24) (ba 16 14) HT_.out ?_
 refine pu 4 (some 25) (ba 16 30) HT_.out ?_
 refine pu 6 (some 27) (ba 16 94) HT_.out ?_
 refine pu 7 (some 28) (ba 16 222) HT_.out ?_
 refine pu 8 (some 29) (ba 16 478) HT_.out ?_
 refine pu 9 (some 30) (ba 16 990) HT_.out ?_
 refine tu 0 (some 21) (ba 16 991) HT_.out HW_.out hHeld ?_
 refine tu 5 (some 26) (ba 16 1023) HT_.out HW_.out hHeld ?_
 refine tu 10 (some 31) (ba 16 2047) HT_.out HW_.out hHeld ?_
 refine one_ (i := 11) (N := some 32) (ba 16 4095) rfl rfl (one_of HT_.out (by kernel_rfl)) (by decide) (fun K hK => ?_)
 refine goes_ Try.func52 (by kernel_rfl) rfl #[.agg #[.int .i64 x100000_1, .slice Ao22 x100001_1.length co22], .int .i64 ((rd_TTie t100 x5_1).f0), .int .i64 ((rd_TTie t100 x5_1).f1)] (by rfl) rfl rfl qm ?_
 with_reducible refine (spec_NetCut.calls k1 x100000_1 _ _ x100001_1 ((rd_TTie t100 x5_1).f0) ((rd_TTie t100 x5_1).f1) t101 t112 t113 _ ?side1 ?side2 A19.out).mono ?_
 (case side1 => exact qc (Kd.R_reads' HO_100001.out).2.2)
 (case side2 => exact (Kd.R_reads' HO_100001.out).2.1)
 rintro e w23 ⟨v117, rfl, ho0, hb⟩
 have HS2_ := (hb.cell (World.block_lt_of_cell? _ _ (hHeld.2.2.1))).trans (hHeld.2.2.1)
 have HS3_ := (hb.cell (World.block_lt_of_cell? _ _ (hHeld.2.2.2.1))).trans (hHeld.2.2.2.1)
 have HS4_ := (hb.cell (World.block_lt_of_cell? _ _ (hHeld.2.2.2.2.1))).trans (hHeld.2.2.2.2.1)
 have HS5_ := (hb.cell (World.block_lt_of_cell? _ _ (hHeld.2.2.2.2.2))).trans (hHeld.2.2.2.2.2)
 refine ⟨_, rfl, ?_⟩
 have n0_ := q0 (Kd.R_elder' (qr HO_4.out) (Kd.R_base ho0) hb)
 have n1_ := q0 (Kd.R_elder' (qr HO_100001.out) (Kd.R_base ho0) hb)
 have n2_ := q0 (Kd.R_lower (Kd.R_new' (Kd.R_new' ho0 (Kd.R_lt (qr HO_4.out))) (Kd.R_lt (qr HO_100001.out))) (below_size (qb HB.out)))
 have n3_ := q0 (kb BK106.out hb)
 have n4_ := q0 (kb BK109.out hb)
 have n5_ := q0 (below_step (qb HB.out) hb)
 clear HO_4
 clear HO_100001
 clear BK106
 clear BK109
 clear HB
 have HO_4 := n0_
 have HO_100001 := n1_
 have HO118 := n2_
 have BK106 := n3_
 have BK109 := n4_
 have HB := n5_
 clear n0_ n1_ n2_ n3_ n4_ n5_
 (try clear hb)
 (try clear hb2)
 (try clear hk)
 (try clear hi)
 (try clear ho0)
 obtain ⟨Ao25, co25, eo25⟩ := Kd.R_slice HO118.out
 (first | subst eo25 | (injection eo25 with f1_ f2_ f3_; have f4_ := f1_.symm; have f5_ := f3_.symm; clear f1_ f2_ f3_; subst f4_; subst f5_))
 refine hK.out _ _ ⟨(blk_cell BK109.out 0).trans rfl, (blk_cell BK109.out 1).trans rfl, HS2_, HS3_, HS4_, HS5_⟩ (fun hHeld => ?_)
 clear hK K
 refine nu 32 ?_
 refine pu 12 (some 20) (ba 16 8191) HT_.out ?_
 refine pu 13 (some 33) (ba 16 16383) HT_.out ?_
 refine pu 14 (some 34) (ba 16 32767) HT_.out ?_
 refine last_ (i := 15) (N := none) (ba 16 65535) rfl rfl (one_of HT_.out (by kernel_rfl)) (by decide) (fun K hK => ?_)
 have hs24 : w23.cell? ⟨gb109, 0, none⟩ = some (.int .i64 x100000_1) := (blk_cell BK109.out 0).trans rfl
 have hfs24 := blk_frozen BK109.out 0
 have hns24_0 := NB106_109.out
 have hms24_0 := NB109_106.out
 have hs26 : w23.cell? ⟨gb109, 1, none⟩ = some (.slice Ao22 x100001_1.length co22) := (blk_cell BK109.out 1).trans rfl
 have hfs26 := blk_frozen BK109.out 1
 have hns26_0 := NB106_109.out
 have hms26_0 := NB109_106.out
 refine skip_ (w1 := ?_) (by rfl) rfl ?_ ?_
 rotate_left
 · go_simp
   rfl
 refine hK.out _ _ ?_
 clear hK K
 refine done_ (done_of HT_.out (by kernel_rfl)) ?_
 try go_wp2
 go_roundg k1
 case measure => have := HK1.out; omega
 case rel => exact ⟨(wrap64 (x5_1 + 1)), (t101), (t112), (.slice Ao25 t112.length co25), qs, H', ⟨by have := HK1.out; omega⟩, ⟨by (with_reducible repeat (first | apply Kd.R_alloc | apply Kd.R_drewN | apply Kd.R_drew)); exact Kd.R_mono (Kd.R_far (p := ⟨gb109, 1, none⟩) (Kd.R_far (p := ⟨gb109, 0, none⟩) (Kd.R_types HO_4.out BK109.out (by decide)) (fun _ hk => hk.2) (.int .i64 t101)) (fun _ hk => hk.2) (.slice Ao25 t112.length co25)) (fun _ hk => hk.1.2)⟩, ⟨by (with_reducible repeat (first | apply Kd.R_alloc | apply Kd.R_drewN | apply Kd.R_drew)); exact Kd.R_mono (Kd.R_far (p := ⟨gb109, 1, none⟩) (Kd.R_far (p := ⟨gb109, 0, none⟩) (Kd.R_types HO118.out BK109.out (by decide)) (fun _ hk => hk.2) (.int .i64 t101)) (fun _ hk => hk.2) (.slice Ao25 t112.length co25)) (fun _ hk => hk.1.1.2)⟩, ⟨qf BK106.out⟩, ⟨by (with_reducible repeat (first | refine blk_drewN ?_ _ | refine blk_drew ?_ | refine blk_alloc ?_ _)); refine blk_put (cs := #[.int .i64 t101, .slice Ao22 x100001_1.length co22]) ?_ 1 _ rfl; (with_reducible repeat (first | refine blk_drewN ?_ _ | refine blk_drew ?_ | refine blk_alloc ?_ _)); refine blk_put (cs := #[.int .i64 x100000_1, .slice Ao22 x100001_1.length co22]) ?_ 0 _ rfl; (with_reducible repeat (first | refine blk_drewN ?_ _ | refine blk_drew ?_ | refine blk_alloc ?_ _)); exact BK109.out⟩, ⟨qb HB.out⟩⟩

set_option maxHeartbeats 8000000 in
set_option maxRecDepth 100000 in
theorem impl_BridgeParts.calls (k : Nat) (a0_0 : Int) (A0_1 : Option Addr) (c0_1 : Nat) (l0_1 : List (STie)) (r : List Int) (w : World) (hr0_1 : Kd.C kTie w A0_1 l0_1.length l0_1) (hc0_1 : l0_1.length ≤ c0_1) (h : impl_BridgeParts.f k a0_0 l0_1 = some r) :
    Calls Try.prog 36 #[.agg #[.int .i64 a0_0, .slice A0_1 l0_1.length c0_1]] w fun e w' => ∃ v0_ : Value, e = .returned (v0_) ∧ Kd.R (Kd.int .i64) 3 w' w.heap.size (fun _ => True) v0_ r ∧ Below w.heap.size w w' := by
 have hu32 := Try.underlying32
 have HR0_1 := Aside0.mk hr0_1
 have HC0_1 := Aside0.mk hc0_1
 clear hr0_1 hc0_1
 have HB := q0 (Below.refl w.heap.size w)
 have H : ((impl_NetOk.f k a0_0 l0_1).bind fun t100 => (if t100 = true then ((impl_Net_bridges.f k a0_0 l0_1).bind fun t101 => ((impl_Net_less.f k a0_0 l0_1 t101).bind fun bt102 => ((impl_Net_parts.f k bt102.1 bt102.2).bind fun t103 => (some t103)))) else (some (([] : List Int))))) = some r := h
 clear h
 replace H := Option.bind_eq_some_iff.mp H
 obtain ⟨t100, A20, H⟩ := H
 replace H : (if t100 = true then ((impl_Net_bridges.f k a0_0 l0_1).bind fun t101 => ((impl_Net_less.f k a0_0 l0_1 t101).bind fun bt102 => ((impl_Net_parts.f k bt102.1 bt102.2).bind fun t103 => (some t103)))) else (some (([] : List Int)))) = some r := H
 have A2 := Aside0.mk A20
 clear A20
 by_cases c3 : t100 = true
 rotate_left
 · replace c3 := Bool.eq_false_iff.mpr c3
   subst c3
   have H1 : (some (([] : List Int))) = some r := by rw [if_neg (show ¬ (false = true) by decide)] at H; exact H
   clear H
   have H := H1
   clear H1
   obtain ⟨y112, hy112⟩ : ∃ y_ : List Int, y_ = (([] : List Int)) := ⟨_, rfl⟩
   replace H : (some y112) = some r := by first | (rw [hy112]; with_reducible exact H) | (have H2_ := (Option.bind_some _ _).symm.trans H; rw [hy112]; with_reducible exact H2_) | (have H2_ := (Option.bind_some _ _).symm.trans H; with_reducible exact H2_) | with_reducible exact H | (rw [hy112]; exact H) | exact H
   have Ny112 := Aside0.mk hy112
   clear hy112
   obtain rfl := Option.some.inj H
   go_enter Try.func36, Try.ntmps36
   go_wp2_with (first | ((with_reducible refine gate_dst (N := 1) rfl ?_); refine be 1 #[.int .i64 a0_0, .slice A0_1 l0_1.length c0_1] 32 ?_; intro gb105 hg w16 hbox hb; have n0_ := q0 (below_step (qb HB.out) hb); have n1_ := q0 (hbox); have n2_ := q0 ((bs HB.out hg : w.heap.size ≤ gb105)); have n3_ := q0 ((bs HB.out hg : w.heap.size ≤ gb105)); clear HB; have HB := n0_; have BK105 := n1_; have GW105 := n2_; have GE105 := n3_; clear n0_ n1_ n2_ n3_ hb hbox hg; have hcz17_0 : w16.cell? ⟨gb105, 0, none⟩ = some (.int .i64 a0_0) := (blk_cell BK105.out 0).trans rfl; have hcz17_1 : w16.cell? ⟨gb105, 1, none⟩ = some (.slice A0_1 l0_1.length c0_1) := (blk_cell BK105.out 1).trans rfl; have hfz17_0 := blk_frozen BK105.out 0; have hfz17_1 := blk_frozen BK105.out 1) | ((with_reducible refine gate_callee (f := 54) rfl ?_); refine goesL_ (some 4) rfl rfl Try.func54 (by kernel_rfl) rfl #[.agg #[.int .i64 a0_0, .slice A0_1 l0_1.length c0_1]] rfl qm ?_; (with_reducible refine (impl_NetOk.calls k a0_0 _ _ l0_1 false _ ?side1 ?side2 A2.out).mono ?_); (case side1 => exact qc (Kd.C_below HR0_1.out HB.out)); (case side2 => exact HC0_1.out); rintro e w18 ⟨rfl, hb⟩; refine ⟨_, rfl, ?_⟩; have n0_ := q0 (kb BK105.out hb); have n1_ := q0 (below_step (qb HB.out) hb); clear BK105 HB; have BK105 := n0_; have HB := n1_; clear n0_ n1_; (try clear hb); (try clear hb2); (try clear hk); (try clear hi)) | ((with_reducible refine gate_dst (N := 6) rfl ?_); refine Kd.R_lit (Kd.int .i64) _ 3 ?hg (N := 6) ?hd (xs := ([] : List Int)) (inner := []) (ok := fun _ => True) (okp := fun _ => True) ?hr ?hp (fun _ hk => hk) trivial (Below.refl _ _) (Nat.le_refl _) (by simp) ?_; (case hd => rfl); (case hg => rfl); (case hr => first | (go_simp; done) | (go_simp; rfl)); (case hp => exact (Reps.none _ _)); intro v113 w19 ho20 hb hg_ hnew_; clear hg_ hnew_; (first | rw [← Ny112.out] at ho20 | (simp only [Int.reduceToNat] at ho20; rw [← Ny112.out] at ho20)); have n0_ := q0 (Kd.R_lower ho20 (below_size (qb HB.out))); have n1_ := q0 (kb BK105.out hb); have n2_ := q0 (below_step (qb HB.out) hb); clear BK105 HB; have HO114 := n0_; have BK105 := n1_; have HB := n2_; clear n0_ n1_ n2_ hb ho20))
   go_ret
   exact ⟨_, qe, by (with_reducible repeat (first | apply Kd.R_alloc | apply Kd.R_drewN | apply Kd.R_drew)); exact HO114.out, qb HB.out⟩
 subst c3
 have H1 : ((impl_Net_bridges.f k a0_0 l0_1).bind fun t101 => ((impl_Net_less.f k a0_0 l0_1 t101).bind fun bt102 => ((impl_Net_parts.f k bt102.1 bt102.2).bind fun t103 => (some t103)))) = some r := by rw [if_pos rfl] at H; exact H
 clear H
 have H := H1
 clear H1
 replace H := Option.bind_eq_some_iff.mp H
 obtain ⟨t101, A40, H⟩ := H
 replace H : ((impl_Net_less.f k a0_0 l0_1 t101).bind fun bt102 => ((impl_Net_parts.f k bt102.1 bt102.2).bind fun t103 => (some t103))) = some r := H
 have A4 := Aside0.mk A40
 clear A40
 replace H := Option.bind_eq_some_iff.mp H
 obtain ⟨⟨t102, t104⟩, A50, H⟩ := H
 replace H : ((impl_Net_parts.f k t102 t104).bind fun t103 => (some t103)) = some r := H
 have A5 := Aside0.mk A50
 clear A50
 replace H := Option.bind_eq_some_iff.mp H
 obtain ⟨t103, A60, H⟩ := H
 replace H : (some t103) = some r := H
 have A6 := Aside0.mk A60
 clear A60
 obtain rfl := Option.some.inj H
 go_enter Try.func36, Try.ntmps36
 try go_wp2_with (first | ((with_reducible refine gate_dst (N := 1) rfl ?_); refine be 1 #[.int .i64 a0_0, .slice A0_1 l0_1.length c0_1] 32 ?_; intro gb105 hg w7 hbox hb; have n0_ := q0 (below_step (qb HB.out) hb); have n1_ := q0 (hbox); have n2_ := q0 ((bs HB.out hg : w.heap.size ≤ gb105)); have n3_ := q0 ((bs HB.out hg : w.heap.size ≤ gb105)); clear HB; have HB := n0_; have BK105 := n1_; have GW105 := n2_; have GE105 := n3_; clear n0_ n1_ n2_ n3_ hb hbox hg; have hcz8_0 : w7.cell? ⟨gb105, 0, none⟩ = some (.int .i64 a0_0) := (blk_cell BK105.out 0).trans rfl; have hcz8_1 : w7.cell? ⟨gb105, 1, none⟩ = some (.slice A0_1 l0_1.length c0_1) := (blk_cell BK105.out 1).trans rfl; have hfz8_0 := blk_frozen BK105.out 0; have hfz8_1 := blk_frozen BK105.out 1) | ((with_reducible refine gate_callee (f := 54) rfl ?_); refine goesL_ (some 4) rfl rfl Try.func54 (by kernel_rfl) rfl #[.agg #[.int .i64 a0_0, .slice A0_1 l0_1.length c0_1]] rfl qm ?_; (with_reducible refine (impl_NetOk.calls k a0_0 _ _ l0_1 true _ ?side1 ?side2 A2.out).mono ?_); (case side1 => exact qc (Kd.C_below HR0_1.out HB.out)); (case side2 => exact HC0_1.out); rintro e w9 ⟨rfl, hb⟩; refine ⟨_, rfl, ?_⟩; have n0_ := q0 (kb BK105.out hb); have n1_ := q0 (below_step (qb HB.out) hb); clear BK105 HB; have BK105 := n0_; have HB := n1_; clear n0_ n1_; (try clear hb); (try clear hb2); (try clear hk); (try clear hi)))
 have n0_ := q0 (blk_drew BK105.out)
 have n1_ := q0 (below_drew1 HB.out)
 clear BK105
 clear HB
 have BK105 := n0_
 have HB := n1_
 clear n0_ n1_
 refine start_ (n := 6) (S := fun w' => w'.cell? ⟨gb105, 0, none⟩ = some (.int .i64 a0_0) ∧ w'.cell? ⟨gb105, 1, none⟩ = some (.slice A0_1 l0_1.length c0_1)) (ds := []) (ba 6 0) (by kernel_rfl) rfl (by kernel_rfl) ⟨(blk_cell BK105.out 0).trans rfl, (blk_cell BK105.out 1).trans rfl⟩ (fun hHeld => ?_)
 generalize w9.drew = w10 at BK105 HB hHeld ⊢
 refine tw 0 (some 7) (ba 6 1) hHeld ?_
 refine tw 1 (some 8) (ba 6 3) hHeld ?_
 refine one_ (i := 2) (N := some 9) (ba 6 7) rfl rfl (by kernel_rfl) (by decide) (fun K hK => ?_)
 refine goes_ Try.func57 (by kernel_rfl) rfl #[.agg #[.int .i64 a0_0, .slice A0_1 l0_1.length c0_1]] (by rfl) rfl rfl qm ?_
 with_reducible refine (impl_Net_bridges.calls k a0_0 _ _ l0_1 t101 _ ?side1 ?side2 A4.out).mono ?_
 (case side1 => exact qc (Kd.C_below HR0_1.out HB.out))
 (case side2 => exact HC0_1.out)
 rintro e w11 ⟨v106, rfl, ho0, hb⟩
 refine ⟨_, rfl, ?_⟩
 have n0_ := q0 (Kd.R_lower ho0 (below_size (qb HB.out)))
 have n1_ := q0 (kb BK105.out hb)
 have n2_ := q0 (below_step (qb HB.out) hb)
 clear BK105
 clear HB
 have HO107 := n0_
 have BK105 := n1_
 have HB := n2_
 clear n0_ n1_ n2_
 (try clear hb)
 (try clear hb2)
 (try clear hk)
 (try clear hi)
 (try clear ho0)
 obtain ⟨Ao12, co12, eo12⟩ := Kd.R_slice HO107.out
 (first | subst eo12 | (injection eo12 with f1_ f2_ f3_; have f4_ := f1_.symm; have f5_ := f3_.symm; clear f1_ f2_ f3_; subst f4_; subst f5_))
 refine hK.out _ _ ⟨(blk_cell BK105.out 0).trans rfl, (blk_cell BK105.out 1).trans rfl⟩ (fun hHeld => ?_)
 clear hK K
 refine nu 9 ?_
 refine one_ (i := 3) (N := some 10) (ba 6 15) rfl rfl (by kernel_rfl) (by decide) (fun K hK => ?_)
 refine goes_ Try.func58 (by kernel_rfl) rfl #[.agg #[.int .i64 a0_0, .slice A0_1 l0_1.length c0_1], .slice Ao12 t101.length co12] (by rfl) rfl rfl qm ?_
 with_reducible refine (impl_Net_less.calls k a0_0 _ _ l0_1 _ _ t101 t102 t104 _ ?side1 ?side2 ?side3 ?side4 A5.out).mono ?_
 (case side1 => exact qc (Kd.C_below HR0_1.out HB.out))
 (case side2 => exact HC0_1.out)
 (case side3 => exact qc (Kd.R_reads' HO107.out).2.2)
 (case side4 => exact (Kd.R_reads' HO107.out).2.1)
 rintro e w13 ⟨v108, rfl, ho0, hb⟩
 refine ⟨_, rfl, ?_⟩
 have n0_ := q0 (Kd.R_elder' (qr HO107.out) (Kd.R_base ho0) hb)
 have n1_ := q0 (Kd.R_lower (Kd.R_new' ho0 (Kd.R_lt (qr HO107.out))) (below_size (qb HB.out)))
 have n2_ := q0 (kb BK105.out hb)
 have n3_ := q0 (below_step (qb HB.out) hb)
 clear HO107
 clear BK105
 clear HB
 have HO107 := n0_
 have HO109 := n1_
 have BK105 := n2_
 have HB := n3_
 clear n0_ n1_ n2_ n3_
 (try clear hb)
 (try clear hb2)
 (try clear hk)
 (try clear hi)
 (try clear ho0)
 obtain ⟨Ao14, co14, eo14⟩ := Kd.R_slice HO109.out
 (first | subst eo14 | (injection eo14 with f1_ f2_ f3_; have f4_ := f1_.symm; have f5_ := f3_.symm; clear f1_ f2_ f3_; subst f4_; subst f5_))
 refine hK.out _ _ ⟨(blk_cell BK105.out 0).trans rfl, (blk_cell BK105.out 1).trans rfl⟩ (fun hHeld => ?_)
 clear hK K
 refine nu 10 ?_
 refine one_ (i := 4) (N := some 11) (ba 6 31) rfl rfl (by kernel_rfl) (by decide) (fun K hK => ?_)
 refine goes_ Try.func72 (by kernel_rfl) rfl #[.agg #[.int .i64 t102, .slice Ao14 t104.length co14]] (by rfl) rfl rfl qm ?_
 with_reducible refine (impl_Net_parts.calls k t102 _ _ t104 t103 _ ?side1 ?side2 A6.out).mono ?_
 (case side1 => exact qc (Kd.R_reads' HO109.out).2.2)
 (case side2 => exact (Kd.R_reads' HO109.out).2.1)
 rintro e w15 ⟨v110, rfl, ho0, hb⟩
 refine ⟨_, rfl, ?_⟩
 have n0_ := q0 (Kd.R_below (qr HO107.out) hb)
 have n1_ := q0 (Kd.R_below (qr HO109.out) hb)
 have n2_ := q0 (Kd.R_lower ho0 (below_size (qb HB.out)))
 have n3_ := q0 (kb BK105.out hb)
 have n4_ := q0 (below_step (qb HB.out) hb)
 clear HO107
 clear HO109
 clear BK105
 clear HB
 have HO107 := n0_
 have HO109 := n1_
 have HO111 := n2_
 have BK105 := n3_
 have HB := n4_
 clear n0_ n1_ n2_ n3_ n4_
 (try clear hb)
 (try clear hb2)
 (try clear hk)
 (try clear hi)
 (try clear ho0)
 refine hK.out _ _ ⟨(blk_cell BK105.out 0).trans rfl, (blk_cell BK105.out 1).trans rfl⟩ (fun hHeld => ?_)
 clear hK K
 refine nu 11 ?_
 refine pw 5 (some 2) (ba 6 63) ?_
 refine done_ (by kernel_rfl) ?_
 try go_wp2
 go_ret
 exact ⟨_, qe, by (with_reducible repeat (first | apply Kd.R_alloc | apply Kd.R_drewN | apply Kd.R_drew)); exact HO111.out, qb HB.out⟩

set_option maxHeartbeats 8000000 in
set_option maxRecDepth 100000 in
theorem laws_eqIntS.calls (k : Nat) (A0 : Option Addr) (c0 : Nat) (l0 : List Int) (A1 : Option Addr) (c1 : Nat) (l1 : List Int) (r : Bool) (w : World) (hr0 : Kd.C (Kd.int .i64) w A0 l0.length l0) (hc0 : l0.length ≤ c0) (hr1 : Kd.C (Kd.int .i64) w A1 l1.length l1) (hc1 : l1.length ≤ c1) (h : laws_eqIntS.f k l0 l1 = some r) :
    Calls Try.prog 37 #[.slice A0 l0.length c0, .slice A1 l1.length c1] w fun e w' => e = .returned (.bool r) ∧ Drawn0 w w' := by
 have HR0 := Aside0.mk hr0
 have HC0 := Aside0.mk hc0
 clear hr0 hc0
 have HR1 := Aside0.mk hr1
 have HC1 := Aside0.mk hc1
 clear hr1 hc1
 have H : (if (l0.length : Int) = (l1.length : Int) then (laws_eqIntS.l0 k l0 l1 0) else (some false)) = some r := h
 clear h
 by_cases c3 : (l0.length : Int) = (l1.length : Int)
 rotate_left
 · rw [if_neg c3] at H
   have c3b0 : ((l0.length : Int) == (l1.length : Int)) = false := beq_eq_false_iff_ne.mpr c3
   have c3b1 : ((l0.length : Int) != (l1.length : Int)) = true := bne_iff_ne.mpr c3
   have c3b2 : (l0.length == l1.length) = false := by first | simpa using c3 | (simp at c3 ⊢; omega)
   obtain rfl := Option.some.inj H
   go_enter Try.func37, Try.ntmps37
   go_wp2
   repeat (go_quiet (fail); try go_wp2)
   go_ret
   exact ⟨by first | rfl | (simp; done) | (simp [*]; done), by repeat (first | exact Drawn0.refl _ | apply Drawn0.step)⟩
 rw [if_pos c3] at H
 have c3b0 : ((l0.length : Int) == (l1.length : Int)) = true := beq_iff_eq.mpr c3
 have c3b1 : ((l0.length : Int) != (l1.length : Int)) = false := bne_eq_false_iff_eq.mpr c3
 have c3b2 : (l0.length == l1.length) = true := by first | simpa using c3 | (simp at c3 ⊢; omega)
 clear c3
 have H' := Aside0.mk H
 clear H
 go_enter Try.func37, Try.ntmps37
 go_wp2
 repeat (go_quiet (fail); try go_wp2)
 go_loopg [5] k (fun kq v5 w' => ∃ (x5_1 : Int), v5 = .int .i64 x5_1 ∧ Aside0 (laws_eqIntS.l0 kq l0 l1 x5_1 = some r) ∧ Aside0 (kq ≤ k) ∧ Drawn0 w w')
 case atStart => exact ⟨(0), qs, H', ⟨Nat.le_refl _⟩, by repeat (first | exact Drawn0.refl _ | apply Drawn0.step)⟩
 clear H'
 try clear c1
 try clear p2
 try clear c3
 try clear c3b0
 try clear c3b1
 try clear c3b2
 obtain ⟨x5_1, rfl, HA, HK1, ⟨m1, rfl⟩⟩ := hrel
 rcases gk with _ | k1
 · exact absurd HA.out (by simp [laws_eqIntS.l0])
 have H := HA.out
 clear HA
 simp only [laws_eqIntS.l0] at H
 by_cases c4 : x5_1 < (l0.length : Int)
 rotate_left
 · rw [if_neg c4] at H
   have c4b0 : decide (x5_1 < (l0.length : Int)) = false := decide_eq_false c4
   clear c4
   obtain rfl := Option.some.inj H
   go_wp2
   repeat (go_quiet (fail); try go_wp2)
   go_ret
   exact ⟨by first | rfl | (simp; done) | (simp [*]; done), by repeat (first | exact Drawn0.refl _ | apply Drawn0.step)⟩
 rw [if_pos c4] at H
 have c4b0 : decide (x5_1 < (l0.length : Int)) = true := decide_eq_true c4
 clear c4
 by_cases c5 : 0 ≤ x5_1
 rotate_left
 · rw [if_neg c5] at H
   exact absurd H (by simp)
 rw [if_pos c5] at H
 have c5b0 : decide (0 ≤ x5_1) = true := decide_eq_true c5
 clear c5
 by_cases c6 : x5_1 < (l1.length : Int)
 rotate_left
 · rw [if_neg c6] at H
   exact absurd H (by simp)
 rw [if_pos c6] at H
 have c6b0 : decide (x5_1 < (l1.length : Int)) = true := decide_eq_true c6
 clear c6
 by_cases c7 : (rd l0 x5_1) = (rd l1 x5_1)
 rotate_left
 · rw [if_neg c7] at H
   have c7b0 : ((rd l0 x5_1) == (rd l1 x5_1)) = false := beq_eq_false_iff_ne.mpr c7
   have c7b1 : ((rd l0 x5_1) != (rd l1 x5_1)) = true := bne_iff_ne.mpr c7
   obtain rfl := Option.some.inj H
   have p100 : 0 ≤ (x5_1 : Int) := of_decide_eq_true qa
   have q100 : x5_1 < (l0.length : Int) := of_decide_eq_true qa
   obtain ⟨ad100, e100, hx100_0⟩ := Kd.at_int HR0.out x5_1 p100 q100
   cases e100
   replace p100 := eq_true p100
   replace q100 := eq_true q100
   have p101 : 0 ≤ (x5_1 : Int) := of_decide_eq_true qa
   have q101 : x5_1 < (l1.length : Int) := of_decide_eq_true qa
   obtain ⟨ad101, e101, hx101_0⟩ := Kd.at_int HR1.out x5_1 p101 q101
   cases e101
   replace p101 := eq_true p101
   replace q101 := eq_true q101
   go_wp2
   repeat (go_quiet (fail); try go_wp2)
   go_ret
   exact ⟨by first | rfl | (simp; done) | (simp [*]; done), by repeat (first | exact Drawn0.refl _ | apply Drawn0.step)⟩
 rw [if_pos c7] at H
 have c7b0 : ((rd l0 x5_1) == (rd l1 x5_1)) = true := beq_iff_eq.mpr c7
 have c7b1 : ((rd l0 x5_1) != (rd l1 x5_1)) = false := bne_eq_false_iff_eq.mpr c7
 clear c7
 have H' := Aside0.mk H
 clear H
 have p100 : 0 ≤ (x5_1 : Int) := of_decide_eq_true qa
 have q100 : x5_1 < (l0.length : Int) := of_decide_eq_true qa
 obtain ⟨ad100, e100, hx100_0⟩ := Kd.at_int HR0.out x5_1 p100 q100
 cases e100
 replace p100 := eq_true p100
 replace q100 := eq_true q100
 have p101 : 0 ≤ (x5_1 : Int) := of_decide_eq_true qa
 have q101 : x5_1 < (l1.length : Int) := of_decide_eq_true qa
 obtain ⟨ad101, e101, hx101_0⟩ := Kd.at_int HR1.out x5_1 p101 q101
 cases e101
 replace p101 := eq_true p101
 replace q101 := eq_true q101
 go_wp2
 repeat (go_quiet (fail); try go_wp2)
 go_roundg k1
 case measure => have := HK1.out; omega
 case rel => exact ⟨(wrap64 (x5_1 + 1)), qs, H', ⟨by have := HK1.out; omega⟩, by repeat (first | exact Drawn0.refl _ | apply Drawn0.step)⟩

set_option maxHeartbeats 8000000 in
set_option maxRecDepth 100000 in
theorem laws_markIntS.calls (k : Nat) (P0_ : Nat → Prop) (u100_ : Value) (l0 : List Int) (a1 : Int) (r1 : Int) (r2 : List Int) (w0 w : World) (hB : Below w0.heap.size w0 w) (ho0 : Kd.R (Kd.int .i64) 3 w w0.heap.size P0_ u100_ l0) (h : laws_markIntS.f k l0 a1 = some (r1, r2)) :
    Calls Try.prog 38 #[u100_, .int .i64 a1] w fun e w' => e = .returned (.int .i64 r1) ∧ Kd.R (Kd.int .i64) 3 w' w0.heap.size (fun k_ => (P0_ k_ ∨ w.heap.size ≤ k_)) u100_ r2 ∧ Below w0.heap.size w0 w' ∧ Kept w w' (fun k_ => P0_ k_) := by
 have HO0 := q0 (show Kd.R (Kd.int .i64) 3 w w0.heap.size (fun k_ => (P0_ k_ ∨ w.heap.size ≤ k_)) u100_ l0 from Kd.R_mono ho0 (fun k_ hk => (.inl hk)))
 have HK := q0 (Kept.refl w (fun k_ => P0_ k_))
 have HW0 := Aside0.mk hB.size
 have HB := Aside0.mk hB
 clear hB
 have H : (laws_markIntS.l0 k l0 a1 0) = some (r1, r2) := h
 clear h
 have H' := Aside0.mk H
 clear H
 go_enter Try.func38, Try.ntmps38
 go_wp2
 go_loopg [1, 5] k (fun kq v1 v5 w' => ∃ (x0_1 : List Int) (x1_1 : Int) (x5_1 : Int), v1 = .int .i64 x1_1 ∧ v5 = .int .i64 x5_1 ∧ Aside0 (laws_markIntS.l0 kq x0_1 x1_1 x5_1 = some (r1, r2)) ∧ Aside0 (kq ≤ k) ∧ Aside0 (Kd.R (Kd.int .i64) 3 w' w0.heap.size (fun k_ => (P0_ k_ ∨ w.heap.size ≤ k_)) u100_ x0_1) ∧ Aside0 (Kept w w' (fun k_ => P0_ k_)) ∧ Aside0 (Below w0.heap.size w0 w'))
 case atStart => exact ⟨(l0), (a1), (0), qs, qs, H', ⟨Nat.le_refl _⟩, ⟨qr HO0.out⟩, ⟨by repeat (first | (with_reducible first | exact HK.out | apply Kept.alloc | apply Kept.drewN | apply Kept.drew) | exact HK.out)⟩, ⟨qb HB.out⟩⟩
 clear H'
 try clear p2
 obtain ⟨x0_1, x1_1, x5_1, rfl, rfl, HA, HK1, HO_0, HK, HB⟩ := hrel
 rcases gk with _ | k1
 · exact absurd HA.out (by simp [laws_markIntS.l0])
 have H := HA.out
 clear HA
 simp only [laws_markIntS.l0] at H
 by_cases c3 : x5_1 < (x0_1.length : Int)
 rotate_left
 · rw [if_neg c3] at H
   have c3b0 : decide (x5_1 < (x0_1.length : Int)) = false := decide_eq_false c3
   clear c3
   simp only [Option.some.injEq, Prod.mk.injEq] at H
   obtain ⟨rfl, rfl⟩ := H
   obtain ⟨Ao9, co9, eo9⟩ := Kd.R_slice HO_0.out
   subst eo9
   go_wp2
   go_ret
   exact ⟨qe, by (with_reducible repeat (first | apply Kd.R_alloc | apply Kd.R_drewN | apply Kd.R_drew)); exact HO_0.out, by repeat (first | (with_reducible first | exact HB.out | apply below_alloc | apply pw_below_drewN | apply below_drew1) | exact HB.out), by repeat (first | (with_reducible first | exact HK.out | apply Kept.alloc | apply Kept.drewN | apply Kept.drew) | exact HK.out)⟩
 rw [if_pos c3] at H
 have c3b0 : decide (x5_1 < (x0_1.length : Int)) = true := decide_eq_true c3
 clear c3
 by_cases c4 : 0 ≤ x5_1
 rotate_left
 · rw [if_neg c4] at H
   exact absurd H (by simp)
 rw [if_pos c4] at H
 have c4b0 : decide (0 ≤ x5_1) = true := decide_eq_true c4
 clear c4
 obtain ⟨y101, hy101⟩ : ∃ y_ : List Int, y_ = (x0_1.set (x5_1 : Int).toNat x1_1) := ⟨_, rfl⟩
 replace H : (laws_markIntS.l0 k1 y101 (wrap64 (x1_1 + 1)) (wrap64 (x5_1 + 1))) = some (r1, r2) := by first | (rw [hy101]; with_reducible exact H) | (have H2_ := (Option.bind_some _ _).symm.trans H; rw [hy101]; with_reducible exact H2_) | (have H2_ := (Option.bind_some _ _).symm.trans H; with_reducible exact H2_) | with_reducible exact H | (rw [hy101]; exact H) | exact H
 have Ny101 := Aside0.mk hy101
 clear hy101
 have H' := Aside0.mk H
 clear H
 obtain ⟨Ao6, co6, eo6⟩ := Kd.R_slice HO_0.out
 subst eo6
 have p5 : 0 ≤ (x5_1 : Int) := of_decide_eq_true qa
 have q5 : (x5_1 : Int) < ((x0_1.length : Int) : Int) := of_decide_eq_true qa
 obtain ⟨go5, co5, eo5, gb5, gl5, cl5, HG5⟩ := Kd.R_form HO_0.out (by omega)
 (first | cases eo5 | (injection eo5 with ea_ en_ ec_; (first | subst ea_ | (injection ea_ with ea_; subst ea_)); subst ec_; clear en_))
 have GB5 := Aside0.mk gb5
 have GG5 := Aside0.mk HG5
 clear gb5 gl5 HG5
 have HMgo5 := q0 (show (P0_ go5 ∨ w.heap.size ≤ go5) from (HO_0.out.1 _ rfl))
 obtain ⟨hx5_0, hf5_0⟩ := Kd.R_celln 0 HO_0.out (x5_1 : Int) p5 q5
 replace p5 := eq_true p5
 replace q5 := eq_true q5
 have HP7 := Kd.R_putg HO_0.out (x5_1 : Int) x1_1
 go_wp2_with (first | ((with_reducible refine gate_store (t := 3) (p := 15) rfl ?_); refine store_event (t := 3) (p := 15) (v := ?vo_w8) (w1 := (wr.setCell ⟨go5, (x5_1 : Int).toNat, none⟩ (.int .i64 x1_1))) ?hg ?ho ?hn ?hr ?_; (case ho => rfl); (case hg => rfl); (case hn => rfl); (case hr => first | (go_simp; done) | (go_simp; rfl)); intro w8 hw; have hg : wr.grownBy w8 (some go5) := (by rw [hw]; exact HP7.2); have hp_ : Kd.R (Kd.int .i64) 3 w8 w0.heap.size (fun k_ => (P0_ k_ ∨ w.heap.size ≤ k_)) (.slice (some ⟨go5, 0, none⟩) x0_1.length co6) y101 := (by rw [hw, Ny101.out]; exact HP7.1); clear HP7; have n0_ := q0 (hp_); have n1_ := q0 ((by rw [hw]; exact below_set (HB.out) GB5.out : Below w0.heap.size w0 w8)); have n2_ := q0 (Kept.of_grown (S := (fun k_ => P0_ k_)) hg (by repeat (first | (with_reducible first | exact HK.out | apply Kept.alloc | apply Kept.drewN | apply Kept.drew) | exact HK.out)) (fun k_ e_ => (HO_0.out.1 k_ e_))); clear HO_0 HB HK; have HO_0 := n0_; have HB := n1_; have HK := n2_; clear n0_ n1_ n2_ hg hw hp_))
 go_roundg k1
 case measure => have := HK1.out; omega
 case rel => exact ⟨(y101), (wrap64 (x1_1 + 1)), (wrap64 (x5_1 + 1)), qs, qs, H', ⟨by have := HK1.out; omega⟩, ⟨qr HO_0.out⟩, ⟨by repeat (first | (with_reducible first | exact HK.out | apply Kept.alloc | apply Kept.drewN | apply Kept.drew) | exact HK.out)⟩, ⟨qb HB.out⟩⟩

set_option maxHeartbeats 8000000 in
set_option maxRecDepth 100000 in
theorem laws_heldIntS.calls (k : Nat) (A0 : Option Addr) (c0 : Nat) (l0 : List Int) (a1 : Int) (r : Int) (w : World) (hr0 : Kd.C (Kd.int .i64) w A0 l0.length l0) (hc0 : l0.length ≤ c0) (h : laws_heldIntS.f k l0 a1 = some r) :
    Calls Try.prog 39 #[.slice A0 l0.length c0, .int .i64 a1] w fun e w' => e = .returned (.int .i64 r) ∧ Drawn0 w w' := by
 have HR0 := Aside0.mk hr0
 have HC0 := Aside0.mk hc0
 clear hr0 hc0
 have H : (laws_heldIntS.l0 k l0 a1 0) = some r := h
 clear h
 have H' := Aside0.mk H
 clear H
 go_enter Try.func39, Try.ntmps39
 go_wp2
 go_loopg [1, 5] k (fun kq v1 v5 w' => ∃ (x1_1 : Int) (x5_1 : Int), v1 = .int .i64 x1_1 ∧ v5 = .int .i64 x5_1 ∧ Aside0 (laws_heldIntS.l0 kq l0 x1_1 x5_1 = some r) ∧ Aside0 (kq ≤ k) ∧ Drawn0 w w')
 case atStart => exact ⟨(a1), (0), qs, qs, H', ⟨Nat.le_refl _⟩, by repeat (first | exact Drawn0.refl _ | apply Drawn0.step)⟩
 clear H'
 try clear p2
 obtain ⟨x1_1, x5_1, rfl, rfl, HA, HK1, ⟨m1, rfl⟩⟩ := hrel
 rcases gk with _ | k1
 · exact absurd HA.out (by simp [laws_heldIntS.l0])
 have H := HA.out
 clear HA
 simp only [laws_heldIntS.l0] at H
 by_cases c3 : x5_1 < (l0.length : Int)
 rotate_left
 · rw [if_neg c3] at H
   have c3b0 : decide (x5_1 < (l0.length : Int)) = false := decide_eq_false c3
   clear c3
   obtain rfl := Option.some.inj H
   go_wp2
   go_ret
   exact ⟨by first | rfl | (simp; done) | (simp [*]; done), by repeat (first | exact Drawn0.refl _ | apply Drawn0.step)⟩
 rw [if_pos c3] at H
 have c3b0 : decide (x5_1 < (l0.length : Int)) = true := decide_eq_true c3
 clear c3
 by_cases c4 : 0 ≤ x5_1
 rotate_left
 · rw [if_neg c4] at H
   exact absurd H (by simp)
 rw [if_pos c4] at H
 have c4b0 : decide (0 ≤ x5_1) = true := decide_eq_true c4
 clear c4
 by_cases c5 : (rd l0 x5_1) = x1_1
 rotate_left
 · rw [if_neg c5] at H
   have c5b0 : ((rd l0 x5_1) == x1_1) = false := beq_eq_false_iff_ne.mpr c5
   have c5b1 : ((rd l0 x5_1) != x1_1) = true := bne_iff_ne.mpr c5
   obtain rfl := Option.some.inj H
   have p100 : 0 ≤ (x5_1 : Int) := of_decide_eq_true qa
   have q100 : x5_1 < (l0.length : Int) := of_decide_eq_true qa
   obtain ⟨ad100, e100, hx100_0⟩ := Kd.at_int HR0.out x5_1 p100 q100
   cases e100
   replace p100 := eq_true p100
   replace q100 := eq_true q100
   go_wp2
   go_ret
   exact ⟨by first | rfl | (simp; done) | (simp [*]; done), by repeat (first | exact Drawn0.refl _ | apply Drawn0.step)⟩
 rw [if_pos c5] at H
 have c5b0 : ((rd l0 x5_1) == x1_1) = true := beq_iff_eq.mpr c5
 have c5b1 : ((rd l0 x5_1) != x1_1) = false := bne_eq_false_iff_eq.mpr c5
 clear c5
 have H' := Aside0.mk H
 clear H
 have p100 : 0 ≤ (x5_1 : Int) := of_decide_eq_true qa
 have q100 : x5_1 < (l0.length : Int) := of_decide_eq_true qa
 obtain ⟨ad100, e100, hx100_0⟩ := Kd.at_int HR0.out x5_1 p100 q100
 cases e100
 replace p100 := eq_true p100
 replace q100 := eq_true q100
 go_wp2
 go_roundg k1
 case measure => have := HK1.out; omega
 case rel => exact ⟨(wrap64 (x1_1 + 1)), (wrap64 (x5_1 + 1)), qs, qs, H', ⟨by have := HK1.out; omega⟩, by repeat (first | exact Drawn0.refl _ | apply Drawn0.step)⟩

set_option maxHeartbeats 8000000 in
set_option maxRecDepth 100000 in
theorem laws_FnExactBridgeParts.calls (k : Nat) (a0_0 : Int) (A0_1 : Option Addr) (c0_1 : Nat) (l0_1 : List (SLTie)) (r : Bool) (w : World) (hr0_1 : Kd.C kLTie w A0_1 l0_1.length l0_1) (hc0_1 : l0_1.length ≤ c0_1) (h : laws_FnExactBridgeParts.f k a0_0 l0_1 = some r) :
    Calls Try.prog 8 #[.agg #[.int .i64 a0_0, .slice A0_1 l0_1.length c0_1]] w fun e w' => e = .returned (.bool r) ∧ Below w.heap.size w w' := by
 have hu24 := Try.underlying24
 have hu32 := Try.underlying32
 have HR0_1 := Aside0.mk hr0_1
 have HC0_1 := Aside0.mk hc0_1
 clear hr0_1 hc0_1
 have HB := q0 (Below.refl w.heap.size w)
 have H : ((laws_szNet.f a0_0 l0_1 1048576).bind fun t100 => (if t100 < 0 then (some true) else ((laws_toNet.f k a0_0 l0_1).bind fun bt107 => ((spec_BridgeParts.f k bt107.1 bt107.2).bind fun t108 => ((laws_toNet.f k a0_0 l0_1).bind fun bt109 => ((impl_BridgeParts.f k bt109.1 bt109.2).bind fun t110 => ((laws_eqIntS.f k t110 t108).bind fun t111 => (if t111 = true then ((laws_toNet.f k a0_0 l0_1).bind fun bt112 => ((laws_eqNet.f k bt109.1 bt109.2 bt112.1 bt112.2).bind fun t113 => (if t113 = true then ((laws_markNet.f k bt109.1 bt109.2 1).bind fun bt114 => (if bt114.1 < 0 then (laws_FnExactBridgeParts.j0 k t108 t110 true a0_0 l0_1) else ((laws_eqIntS.f k t110 t108).bind fun t115 => (laws_FnExactBridgeParts.j0 k t108 t110 (!t115) a0_0 l0_1)))) else (some false)))) else (some false))))))))) = some r := h
 clear h
 replace H := Option.bind_eq_some_iff.mp H
 obtain ⟨t100, A20, H⟩ := H
 replace H : (if t100 < 0 then (some true) else ((laws_toNet.f k a0_0 l0_1).bind fun bt107 => ((spec_BridgeParts.f k bt107.1 bt107.2).bind fun t108 => ((laws_toNet.f k a0_0 l0_1).bind fun bt109 => ((impl_BridgeParts.f k bt109.1 bt109.2).bind fun t110 => ((laws_eqIntS.f k t110 t108).bind fun t111 => (if t111 = true then ((laws_toNet.f k a0_0 l0_1).bind fun bt112 => ((laws_eqNet.f k bt109.1 bt109.2 bt112.1 bt112.2).bind fun t113 => (if t113 = true then ((laws_markNet.f k bt109.1 bt109.2 1).bind fun bt114 => (if bt114.1 < 0 then (laws_FnExactBridgeParts.j0 k t108 t110 true a0_0 l0_1) else ((laws_eqIntS.f k t110 t108).bind fun t115 => (laws_FnExactBridgeParts.j0 k t108 t110 (!t115) a0_0 l0_1)))) else (some false)))) else (some false)))))))) = some r := H
 have A2 := Aside0.mk A20
 clear A20
 by_cases c3 : t100 < 0
 · rw [if_pos c3] at H
   have c3b0 : decide (t100 < 0) = true := decide_eq_true c3
   clear c3
   obtain rfl := Option.some.inj H
   go_enter Try.func8, Try.ntmps8
   go_wp2_with (first | ((with_reducible refine gate_dst (N := 1) rfl ?_); refine be 1 #[.int .i64 a0_0, .slice A0_1 l0_1.length c0_1] 24 ?_; intro gb116 hg w4 hbox hb; have n0_ := q0 (below_step (qb HB.out) hb); have n1_ := q0 (hbox); have n2_ := q0 ((bs HB.out hg : w.heap.size ≤ gb116)); have n3_ := q0 ((bs HB.out hg : w.heap.size ≤ gb116)); clear HB; have HB := n0_; have BK116 := n1_; have GW116 := n2_; have GE116 := n3_; clear n0_ n1_ n2_ n3_ hb hbox hg; have hcz5_0 : w4.cell? ⟨gb116, 0, none⟩ = some (.int .i64 a0_0) := (blk_cell BK116.out 0).trans rfl; have hcz5_1 : w4.cell? ⟨gb116, 1, none⟩ = some (.slice A0_1 l0_1.length c0_1) := (blk_cell BK116.out 1).trans rfl; have hfz5_0 := blk_frozen BK116.out 0; have hfz5_1 := blk_frozen BK116.out 1) | ((with_reducible refine gate_callee (f := 13) rfl ?_); refine goesL_ (some 13) rfl rfl Try.func13 (by kernel_rfl) rfl #[.agg #[.int .i64 a0_0, .slice A0_1 l0_1.length c0_1], .int .i64 1048576] rfl qm ?_; (with_reducible refine (laws_szNet.calls a0_0 _ _ l0_1 1048576 t100 _ ?side1 ?side2 A2.out).mono ?_); (case side1 => exact qc (Kd.C_below HR0_1.out HB.out)); (case side2 => exact HC0_1.out); rintro e w6 ⟨rfl, hb⟩; refine ⟨_, rfl, ?_⟩; have n0_ := q0 (kb BK116.out hb); have n1_ := q0 (below_step (qb HB.out) hb); clear BK116 HB; have BK116 := n0_; have HB := n1_; clear n0_ n1_; (try clear hb); (try clear hb2); (try clear hk); (try clear hi)))
   go_ret
   exact ⟨qe, qb HB.out⟩
 rw [if_neg c3] at H
 have c3b0 : decide (t100 < 0) = false := decide_eq_false c3
 clear c3
 replace H := Option.bind_eq_some_iff.mp H
 obtain ⟨⟨t107, t117⟩, A70, H⟩ := H
 replace H : ((spec_BridgeParts.f k t107 t117).bind fun t108 => ((laws_toNet.f k a0_0 l0_1).bind fun bt109 => ((impl_BridgeParts.f k bt109.1 bt109.2).bind fun t110 => ((laws_eqIntS.f k t110 t108).bind fun t111 => (if t111 = true then ((laws_toNet.f k a0_0 l0_1).bind fun bt112 => ((laws_eqNet.f k bt109.1 bt109.2 bt112.1 bt112.2).bind fun t113 => (if t113 = true then ((laws_markNet.f k bt109.1 bt109.2 1).bind fun bt114 => (if bt114.1 < 0 then (laws_FnExactBridgeParts.j0 k t108 t110 true a0_0 l0_1) else ((laws_eqIntS.f k t110 t108).bind fun t115 => (laws_FnExactBridgeParts.j0 k t108 t110 (!t115) a0_0 l0_1)))) else (some false)))) else (some false)))))) = some r := H
 have A7 := Aside0.mk A70
 clear A70
 replace H := Option.bind_eq_some_iff.mp H
 obtain ⟨t108, A80, H⟩ := H
 replace H : ((laws_toNet.f k a0_0 l0_1).bind fun bt109 => ((impl_BridgeParts.f k bt109.1 bt109.2).bind fun t110 => ((laws_eqIntS.f k t110 t108).bind fun t111 => (if t111 = true then ((laws_toNet.f k a0_0 l0_1).bind fun bt112 => ((laws_eqNet.f k bt109.1 bt109.2 bt112.1 bt112.2).bind fun t113 => (if t113 = true then ((laws_markNet.f k bt109.1 bt109.2 1).bind fun bt114 => (if bt114.1 < 0 then (laws_FnExactBridgeParts.j0 k t108 t110 true a0_0 l0_1) else ((laws_eqIntS.f k t110 t108).bind fun t115 => (laws_FnExactBridgeParts.j0 k t108 t110 (!t115) a0_0 l0_1)))) else (some false)))) else (some false))))) = some r := H
 have A8 := Aside0.mk A80
 clear A80
 replace H := Option.bind_eq_some_iff.mp H
 obtain ⟨⟨t109, t118⟩, A90, H⟩ := H
 replace H : ((impl_BridgeParts.f k t109 t118).bind fun t110 => ((laws_eqIntS.f k t110 t108).bind fun t111 => (if t111 = true then ((laws_toNet.f k a0_0 l0_1).bind fun bt112 => ((laws_eqNet.f k t109 t118 bt112.1 bt112.2).bind fun t113 => (if t113 = true then ((laws_markNet.f k t109 t118 1).bind fun bt114 => (if bt114.1 < 0 then (laws_FnExactBridgeParts.j0 k t108 t110 true a0_0 l0_1) else ((laws_eqIntS.f k t110 t108).bind fun t115 => (laws_FnExactBridgeParts.j0 k t108 t110 (!t115) a0_0 l0_1)))) else (some false)))) else (some false)))) = some r := H
 have A9 := Aside0.mk A90
 clear A90
 replace H := Option.bind_eq_some_iff.mp H
 obtain ⟨t110, A119, H⟩ := H
 replace H : ((laws_eqIntS.f k t110 t108).bind fun t111 => (if t111 = true then ((laws_toNet.f k a0_0 l0_1).bind fun bt112 => ((laws_eqNet.f k t109 t118 bt112.1 bt112.2).bind fun t113 => (if t113 = true then ((laws_markNet.f k t109 t118 1).bind fun bt114 => (if bt114.1 < 0 then (laws_FnExactBridgeParts.j0 k t108 t110 true a0_0 l0_1) else ((laws_eqIntS.f k t110 t108).bind fun t115 => (laws_FnExactBridgeParts.j0 k t108 t110 (!t115) a0_0 l0_1)))) else (some false)))) else (some false))) = some r := H
 have A10 := Aside0.mk A119
 clear A119
 replace H := Option.bind_eq_some_iff.mp H
 obtain ⟨t111, A120, H⟩ := H
 replace H : (if t111 = true then ((laws_toNet.f k a0_0 l0_1).bind fun bt112 => ((laws_eqNet.f k t109 t118 bt112.1 bt112.2).bind fun t113 => (if t113 = true then ((laws_markNet.f k t109 t118 1).bind fun bt114 => (if bt114.1 < 0 then (laws_FnExactBridgeParts.j0 k t108 t110 true a0_0 l0_1) else ((laws_eqIntS.f k t110 t108).bind fun t115 => (laws_FnExactBridgeParts.j0 k t108 t110 (!t115) a0_0 l0_1)))) else (some false)))) else (some false)) = some r := H
 have A11 := Aside0.mk A120
 clear A120
 by_cases c12 : t111 = true
 rotate_left
 · replace c12 := Bool.eq_false_iff.mpr c12
   subst c12
   have H1 : (some false) = some r := by rw [if_neg (show ¬ (false = true) by decide)] at H; exact H
   clear H
   have H := H1
   clear H1
   obtain rfl := Option.some.inj H
   go_enter Try.func8, Try.ntmps8
   go_wp2_with (first | ((with_reducible refine gate_dst (N := 1) rfl ?_); refine be 1 #[.int .i64 a0_0, .slice A0_1 l0_1.length c0_1] 24 ?_; intro gb116 hg w153 hbox hb; have n0_ := q0 (below_step (qb HB.out) hb); have n1_ := q0 (hbox); have n2_ := q0 ((bs HB.out hg : w.heap.size ≤ gb116)); have n3_ := q0 ((bs HB.out hg : w.heap.size ≤ gb116)); clear HB; have HB := n0_; have BK116 := n1_; have GW116 := n2_; have GE116 := n3_; clear n0_ n1_ n2_ n3_ hb hbox hg; have hcz154_0 : w153.cell? ⟨gb116, 0, none⟩ = some (.int .i64 a0_0) := (blk_cell BK116.out 0).trans rfl; have hcz154_1 : w153.cell? ⟨gb116, 1, none⟩ = some (.slice A0_1 l0_1.length c0_1) := (blk_cell BK116.out 1).trans rfl; have hfz154_0 := blk_frozen BK116.out 0; have hfz154_1 := blk_frozen BK116.out 1) | ((with_reducible refine gate_callee (f := 13) rfl ?_); refine goesL_ (some 13) rfl rfl Try.func13 (by kernel_rfl) rfl #[.agg #[.int .i64 a0_0, .slice A0_1 l0_1.length c0_1], .int .i64 1048576] rfl qm ?_; (with_reducible refine (laws_szNet.calls a0_0 _ _ l0_1 1048576 t100 _ ?side1 ?side2 A2.out).mono ?_); (case side1 => exact qc (Kd.C_below HR0_1.out HB.out)); (case side2 => exact HC0_1.out); rintro e w155 ⟨rfl, hb⟩; refine ⟨_, rfl, ?_⟩; have n0_ := q0 (kb BK116.out hb); have n1_ := q0 (below_step (qb HB.out) hb); clear BK116 HB; have BK116 := n0_; have HB := n1_; clear n0_ n1_; (try clear hb); (try clear hb2); (try clear hk); (try clear hi); have hcz156_0 : w155.cell? ⟨gb116, 0, none⟩ = some (.int .i64 a0_0) := (blk_cell BK116.out 0).trans rfl; have hcz156_1 : w155.cell? ⟨gb116, 1, none⟩ = some (.slice A0_1 l0_1.length c0_1) := (blk_cell BK116.out 1).trans rfl; have hfz156_0 := blk_frozen BK116.out 0; have hfz156_1 := blk_frozen BK116.out 1) | ((with_reducible refine gate_callee (f := 15) rfl ?_); refine goesL_ (some 17) rfl rfl Try.func15 (by kernel_rfl) rfl #[.agg #[.int .i64 a0_0, .slice A0_1 l0_1.length c0_1]] rfl qm ?_; (with_reducible refine (laws_toNet.calls k a0_0 _ _ l0_1 t107 t117 _ ?side1 ?side2 A7.out).mono ?_); (case side1 => exact qc (Kd.C_below HR0_1.out HB.out)); (case side2 => exact HC0_1.out); rintro e w157 ⟨v126, rfl, ho0, hb⟩; refine ⟨_, rfl, ?_⟩; have n0_ := q0 (Kd.R_lower ho0 (below_size (qb HB.out))); have n1_ := q0 (kb BK116.out hb); have n2_ := q0 (below_step (qb HB.out) hb); clear BK116 HB; have HO127 := n0_; have BK116 := n1_; have HB := n2_; clear n0_ n1_ n2_; (try clear hb); (try clear hb2); (try clear hk); (try clear hi); (try clear ho0); obtain ⟨Ao158, co158, eo158⟩ := Kd.R_slice HO127.out; subst eo158) | ((with_reducible refine gate_callee (f := 35) rfl ?_); refine goesL_ (some 18) rfl rfl Try.func35 (by kernel_rfl) rfl #[.agg #[.int .i64 t107, .slice Ao158 t117.length co158]] rfl qm ?_; (with_reducible refine (spec_BridgeParts.calls k t107 _ _ t117 t108 _ ?side1 ?side2 A8.out).mono ?_); (case side1 => exact qc (Kd.R_reads' HO127.out).2.2); (case side2 => exact (Kd.R_reads' HO127.out).2.1); rintro e w120 ⟨v128, rfl, ho0, hb⟩; refine ⟨_, rfl, ?_⟩; have n0_ := q0 (Kd.R_below (qr HO127.out) hb); have n1_ := q0 (Kd.R_lower ho0 (below_size (qb HB.out))); have n2_ := q0 (kb BK116.out hb); have n3_ := q0 (below_step (qb HB.out) hb); clear HO127 BK116 HB; have HO127 := n0_; have HO129 := n1_; have BK116 := n2_; have HB := n3_; clear n0_ n1_ n2_ n3_; (try clear hb); (try clear hb2); (try clear hk); (try clear hi); (try clear ho0); have hcz159_0 : w120.cell? ⟨gb116, 0, none⟩ = some (.int .i64 a0_0) := (blk_cell BK116.out 0).trans rfl; have hcz159_1 : w120.cell? ⟨gb116, 1, none⟩ = some (.slice A0_1 l0_1.length c0_1) := (blk_cell BK116.out 1).trans rfl; have hfz159_0 := blk_frozen BK116.out 0; have hfz159_1 := blk_frozen BK116.out 1) | ((with_reducible refine gate_callee (f := 15) rfl ?_); refine goesL_ (some 20) rfl rfl Try.func15 (by kernel_rfl) rfl #[.agg #[.int .i64 a0_0, .slice A0_1 l0_1.length c0_1]] rfl qm ?_; (with_reducible refine (laws_toNet.calls k a0_0 _ _ l0_1 t109 t118 _ ?side1 ?side2 A9.out).mono ?_); (case side1 => exact qc (Kd.C_below HR0_1.out HB.out)); (case side2 => exact HC0_1.out); rintro e w160 ⟨v130, rfl, ho0, hb⟩; refine ⟨_, rfl, ?_⟩; have n0_ := q0 (Kd.R_elder' (qr HO127.out) (Kd.R_base ho0) hb); have n1_ := q0 (Kd.R_below (qr HO129.out) hb); have n2_ := q0 (Kd.R_lower (Kd.R_new' ho0 (Kd.R_lt (qr HO127.out))) (below_size (qb HB.out))); have n3_ := q0 (kb BK116.out hb); have n4_ := q0 (below_step (qb HB.out) hb); clear HO127 HO129 BK116 HB; have HO127 := n0_; have HO129 := n1_; have HO131 := n2_; have BK116 := n3_; have HB := n4_; clear n0_ n1_ n2_ n3_ n4_; (try clear hb); (try clear hb2); (try clear hk); (try clear hi); (try clear ho0)) | ((with_reducible refine gate_dst (N := 5) rfl ?_); refine be 5 #[.int .i64 0, .slice none 0 0] 32 ?_; intro gb132 hg w161 hbox hb; have n0_ := q0 (Kd.R_below (qr HO127.out) hb); have n1_ := q0 (Kd.R_below (qr HO129.out) hb); have n2_ := q0 (Kd.R_below (qr HO131.out) hb); have n3_ := q0 (kb BK116.out hb); have n4_ := q0 (below_step (qb HB.out) hb); have n5_ := q0 (hbox); have n6_ := q0 ((bs HB.out hg : w.heap.size ≤ gb132)); have n7_ := q0 ((bs HB.out hg : w.heap.size ≤ gb132)); have n8_ := q0 ((bl BK116.out hg : gb116 ≠ gb132)); have n9_ := q0 ((bg BK116.out hg : gb132 ≠ gb116)); clear HO127 HO129 HO131 BK116 HB; have HO127 := n0_; have HO129 := n1_; have HO131 := n2_; have BK116 := n3_; have HB := n4_; have BK132 := n5_; have GW132 := n6_; have GE132 := n7_; have NB116_132 := n8_; have NB132_116 := n9_; clear n0_ n1_ n2_ n3_ n4_ n5_ n6_ n7_ n8_ n9_ hb hbox hg; have hnb162 := NB132_116.out; have hnc162 := NB116_132.out; have hcz163_0 : w161.cell? ⟨gb132, 0, none⟩ = some (.int .i64 0) := (blk_cell BK132.out 0).trans rfl; have hcz163_1 : w161.cell? ⟨gb132, 1, none⟩ = some (.slice none 0 0) := (blk_cell BK132.out 1).trans rfl; have hfz163_0 := blk_frozen BK132.out 0; have hfz163_1 := blk_frozen BK132.out 1; obtain ⟨Ao164, co164, eo164⟩ := Kd.R_slice HO131.out; subst eo164) | ((with_reducible refine gate_callee (f := 36) rfl ?_); refine goesL_ (some 22) rfl rfl Try.func36 (by kernel_rfl) rfl #[.agg #[.int .i64 t109, .slice Ao164 t118.length co164]] rfl qm ?_; (with_reducible refine (impl_BridgeParts.calls k t109 _ _ t118 t110 _ ?side1 ?side2 A10.out).mono ?_); (case side1 => refine (Kd.R_reads' (e := 27) (base := w.heap.size) (ok := fun k_ => (True ∧ some k_ ≠ (.slice Ao158 t117.length co158 : Value).ownBlock)) (n := t118.length) (c := co164) ?_).2.2; exact (by (with_reducible repeat (first | apply Kd.R_alloc | apply Kd.R_drewN | apply Kd.R_drew)); exact (Kd.R_mono (Kd.R_far (p := ⟨gb132, 1, none⟩) (Kd.R_far (p := ⟨gb132, 0, none⟩) (Kd.R_types HO131.out BK132.out (by decide)) (fun _ hk => hk.2) (.int .i64 t109)) (fun _ hk => hk.2) (.slice Ao164 t118.length co164)) (fun _ h_ => h_.1)))); (case side2 => exact (Kd.R_reads' HO131.out).2.1); rintro e w165 ⟨v133, rfl, ho0, hb⟩; refine ⟨_, rfl, ?_⟩; have n0_ := q0 (Kd.R_below (by (with_reducible repeat (first | apply Kd.R_alloc | apply Kd.R_drewN | apply Kd.R_drew)); exact (Kd.R_mono (Kd.R_far (p := ⟨gb132, 1, none⟩) (Kd.R_far (p := ⟨gb132, 0, none⟩) (Kd.R_types HO127.out BK132.out (by decide)) (fun _ hk => hk.2) (.int .i64 t109)) (fun _ hk => hk.2) (.slice Ao164 t118.length co164)) (fun _ h_ => h_.1))) hb); have n1_ := q0 (Kd.R_elder' (by (with_reducible repeat (first | apply Kd.R_alloc | apply Kd.R_drewN | apply Kd.R_drew)); exact (Kd.R_mono (Kd.R_far (p := ⟨gb132, 1, none⟩) (Kd.R_far (p := ⟨gb132, 0, none⟩) (Kd.R_types HO129.out BK132.out (by decide)) (fun _ hk => hk.2) (.int .i64 t109)) (fun _ hk => hk.2) (.slice Ao164 t118.length co164)) (fun _ h_ => h_.1))) (Kd.R_base ho0) hb); have n2_ := q0 (Kd.R_below (by (with_reducible repeat (first | apply Kd.R_alloc | apply Kd.R_drewN | apply Kd.R_drew)); exact (Kd.R_mono (Kd.R_far (p := ⟨gb132, 1, none⟩) (Kd.R_far (p := ⟨gb132, 0, none⟩) (Kd.R_types HO131.out BK132.out (by decide)) (fun _ hk => hk.2) (.int .i64 t109)) (fun _ hk => hk.2) (.slice Ao164 t118.length co164)) (fun _ h_ => h_.1))) hb); have n3_ := q0 (Kd.R_lower (Kd.R_new' ho0 (Kd.R_lt (by (with_reducible repeat (first | apply Kd.R_alloc | apply Kd.R_drewN | apply Kd.R_drew)); exact (Kd.R_mono (Kd.R_far (p := ⟨gb132, 1, none⟩) (Kd.R_far (p := ⟨gb132, 0, none⟩) (Kd.R_types HO129.out BK132.out (by decide)) (fun _ hk => hk.2) (.int .i64 t109)) (fun _ hk => hk.2) (.slice Ao164 t118.length co164)) (fun _ h_ => h_.1))))) (below_size (qb HB.out))); have n4_ := q0 (blk_below (g := gb116) (o := .cells #[.int .i64 a0_0, .slice A0_1 l0_1.length c0_1] 24 (0, 0)) (qf BK116.out) hb); have n5_ := q0 (blk_below (g := gb132) (o := .cells #[.int .i64 t109, .slice Ao164 t118.length co164] 32 (0, 0)) (by (with_reducible repeat (first | refine blk_drewN ?_ _ | refine blk_drew ?_ | refine blk_alloc ?_ _)); refine blk_put (cs := #[.int .i64 t109, .slice none 0 0]) ?_ 1 _ rfl; (with_reducible repeat (first | refine blk_drewN ?_ _ | refine blk_drew ?_ | refine blk_alloc ?_ _)); refine blk_put (cs := #[.int .i64 0, .slice none 0 0]) ?_ 0 _ rfl; (with_reducible repeat (first | refine blk_drewN ?_ _ | refine blk_drew ?_ | refine blk_alloc ?_ _)); exact BK132.out) hb); have n6_ := q0 (below_step (qb HB.out) hb); clear HO127 HO129 HO131 BK116 BK132 HB; have HO127 := n0_; have HO129 := n1_; have HO131 := n2_; have HO134 := n3_; have BK116 := n4_; have BK132 := n5_; have HB := n6_; clear n0_ n1_ n2_ n3_ n4_ n5_ n6_; (try clear hb); (try clear hb2); (try clear hk); (try clear hi); (try clear ho0); obtain ⟨Ao166, co166, eo166⟩ := Kd.R_slice HO134.out; subst eo166; obtain ⟨Ao167, co167, eo167⟩ := Kd.R_slice HO129.out; subst eo167) | ((with_reducible refine gate_callee (f := 37) rfl ?_); refine goesL_ (some 25) rfl rfl Try.func37 (by kernel_rfl) rfl #[.slice Ao166 t110.length co166, .slice Ao167 t108.length co167] rfl qm ?_; (with_reducible refine (laws_eqIntS.calls k _ _ t110 _ _ t108 false _ ?side1 ?side2 ?side3 ?side4 A11.out).mono ?_); (case side1 => exact qc (Kd.R_reads' HO134.out).2.2); (case side2 => exact (Kd.R_reads' HO134.out).2.1); (case side3 => exact qc (Kd.R_reads' HO129.out).2.2); (case side4 => exact (Kd.R_reads' HO129.out).2.1); rintro e w' ⟨rfl, ⟨nd, rfl⟩⟩; refine ⟨_, rfl, ?_⟩))
   go_ret
   exact ⟨qe, qb HB.out⟩
 subst c12
 have H1 : ((laws_toNet.f k a0_0 l0_1).bind fun bt112 => ((laws_eqNet.f k t109 t118 bt112.1 bt112.2).bind fun t113 => (if t113 = true then ((laws_markNet.f k t109 t118 1).bind fun bt114 => (if bt114.1 < 0 then (laws_FnExactBridgeParts.j0 k t108 t110 true a0_0 l0_1) else ((laws_eqIntS.f k t110 t108).bind fun t115 => (laws_FnExactBridgeParts.j0 k t108 t110 (!t115) a0_0 l0_1)))) else (some false)))) = some r := by rw [if_pos rfl] at H; exact H
 clear H
 have H := H1
 clear H1
 replace H := Option.bind_eq_some_iff.mp H
 obtain ⟨⟨t112, t121⟩, A122, H⟩ := H
 replace H : ((laws_eqNet.f k t109 t118 t112 t121).bind fun t113 => (if t113 = true then ((laws_markNet.f k t109 t118 1).bind fun bt114 => (if bt114.1 < 0 then (laws_FnExactBridgeParts.j0 k t108 t110 true a0_0 l0_1) else ((laws_eqIntS.f k t110 t108).bind fun t115 => (laws_FnExactBridgeParts.j0 k t108 t110 (!t115) a0_0 l0_1)))) else (some false))) = some r := H
 have A13 := Aside0.mk A122
 clear A122
 replace H := Option.bind_eq_some_iff.mp H
 obtain ⟨t113, A123, H⟩ := H
 replace H : (if t113 = true then ((laws_markNet.f k t109 t118 1).bind fun bt114 => (if bt114.1 < 0 then (laws_FnExactBridgeParts.j0 k t108 t110 true a0_0 l0_1) else ((laws_eqIntS.f k t110 t108).bind fun t115 => (laws_FnExactBridgeParts.j0 k t108 t110 (!t115) a0_0 l0_1)))) else (some false)) = some r := H
 have A14 := Aside0.mk A123
 clear A123
 by_cases c15 : t113 = true
 rotate_left
 · replace c15 := Bool.eq_false_iff.mpr c15
   subst c15
   have H1 : (some false) = some r := by rw [if_neg (show ¬ (false = true) by decide)] at H; exact H
   clear H
   have H := H1
   clear H1
   obtain rfl := Option.some.inj H
   go_enter Try.func8, Try.ntmps8
   try go_wp2_with (first | ((with_reducible refine gate_dst (N := 1) rfl ?_); refine be 1 #[.int .i64 a0_0, .slice A0_1 l0_1.length c0_1] 24 ?_; intro gb116 hg w84 hbox hb; have n0_ := q0 (below_step (qb HB.out) hb); have n1_ := q0 (hbox); have n2_ := q0 ((bs HB.out hg : w.heap.size ≤ gb116)); have n3_ := q0 ((bs HB.out hg : w.heap.size ≤ gb116)); clear HB; have HB := n0_; have BK116 := n1_; have GW116 := n2_; have GE116 := n3_; clear n0_ n1_ n2_ n3_ hb hbox hg; have hcz85_0 : w84.cell? ⟨gb116, 0, none⟩ = some (.int .i64 a0_0) := (blk_cell BK116.out 0).trans rfl; have hcz85_1 : w84.cell? ⟨gb116, 1, none⟩ = some (.slice A0_1 l0_1.length c0_1) := (blk_cell BK116.out 1).trans rfl; have hfz85_0 := blk_frozen BK116.out 0; have hfz85_1 := blk_frozen BK116.out 1) | ((with_reducible refine gate_callee (f := 13) rfl ?_); refine goesL_ (some 13) rfl rfl Try.func13 (by kernel_rfl) rfl #[.agg #[.int .i64 a0_0, .slice A0_1 l0_1.length c0_1], .int .i64 1048576] rfl qm ?_; (with_reducible refine (laws_szNet.calls a0_0 _ _ l0_1 1048576 t100 _ ?side1 ?side2 A2.out).mono ?_); (case side1 => exact qc (Kd.C_below HR0_1.out HB.out)); (case side2 => exact HC0_1.out); rintro e w86 ⟨rfl, hb⟩; refine ⟨_, rfl, ?_⟩; have n0_ := q0 (kb BK116.out hb); have n1_ := q0 (below_step (qb HB.out) hb); clear BK116 HB; have BK116 := n0_; have HB := n1_; clear n0_ n1_; (try clear hb); (try clear hb2); (try clear hk); (try clear hi); have hcz87_0 : w86.cell? ⟨gb116, 0, none⟩ = some (.int .i64 a0_0) := (blk_cell BK116.out 0).trans rfl; have hcz87_1 : w86.cell? ⟨gb116, 1, none⟩ = some (.slice A0_1 l0_1.length c0_1) := (blk_cell BK116.out 1).trans rfl; have hfz87_0 := blk_frozen BK116.out 0; have hfz87_1 := blk_frozen BK116.out 1) | ((with_reducible refine gate_callee (f := 15) rfl ?_); refine goesL_ (some 17) rfl rfl Try.func15 (by kernel_rfl) rfl #[.agg #[.int .i64 a0_0, .slice A0_1 l0_1.length c0_1]] rfl qm ?_; (with_reducible refine (laws_toNet.calls k a0_0 _ _ l0_1 t107 t117 _ ?side1 ?side2 A7.out).mono ?_); (case side1 => exact qc (Kd.C_below HR0_1.out HB.out)); (case side2 => exact HC0_1.out); rintro e w88 ⟨v126, rfl, ho0, hb⟩; refine ⟨_, rfl, ?_⟩; have n0_ := q0 (Kd.R_lower ho0 (below_size (qb HB.out))); have n1_ := q0 (kb BK116.out hb); have n2_ := q0 (below_step (qb HB.out) hb); clear BK116 HB; have HO127 := n0_; have BK116 := n1_; have HB := n2_; clear n0_ n1_ n2_; (try clear hb); (try clear hb2); (try clear hk); (try clear hi); (try clear ho0); obtain ⟨Ao89, co89, eo89⟩ := Kd.R_slice HO127.out; subst eo89) | ((with_reducible refine gate_callee (f := 35) rfl ?_); refine goesL_ (some 18) rfl rfl Try.func35 (by kernel_rfl) rfl #[.agg #[.int .i64 t107, .slice Ao89 t117.length co89]] rfl qm ?_; (with_reducible refine (spec_BridgeParts.calls k t107 _ _ t117 t108 _ ?side1 ?side2 A8.out).mono ?_); (case side1 => exact qc (Kd.R_reads' HO127.out).2.2); (case side2 => exact (Kd.R_reads' HO127.out).2.1); rintro e w90 ⟨v128, rfl, ho0, hb⟩; refine ⟨_, rfl, ?_⟩; have n0_ := q0 (Kd.R_below (qr HO127.out) hb); have n1_ := q0 (Kd.R_lower ho0 (below_size (qb HB.out))); have n2_ := q0 (kb BK116.out hb); have n3_ := q0 (below_step (qb HB.out) hb); clear HO127 BK116 HB; have HO127 := n0_; have HO129 := n1_; have BK116 := n2_; have HB := n3_; clear n0_ n1_ n2_ n3_; (try clear hb); (try clear hb2); (try clear hk); (try clear hi); (try clear ho0); have hcz91_0 : w90.cell? ⟨gb116, 0, none⟩ = some (.int .i64 a0_0) := (blk_cell BK116.out 0).trans rfl; have hcz91_1 : w90.cell? ⟨gb116, 1, none⟩ = some (.slice A0_1 l0_1.length c0_1) := (blk_cell BK116.out 1).trans rfl; have hfz91_0 := blk_frozen BK116.out 0; have hfz91_1 := blk_frozen BK116.out 1) | ((with_reducible refine gate_callee (f := 15) rfl ?_); refine goesL_ (some 20) rfl rfl Try.func15 (by kernel_rfl) rfl #[.agg #[.int .i64 a0_0, .slice A0_1 l0_1.length c0_1]] rfl qm ?_; (with_reducible refine (laws_toNet.calls k a0_0 _ _ l0_1 t109 t118 _ ?side1 ?side2 A9.out).mono ?_); (case side1 => exact qc (Kd.C_below HR0_1.out HB.out)); (case side2 => exact HC0_1.out); rintro e w92 ⟨v130, rfl, ho0, hb⟩; refine ⟨_, rfl, ?_⟩; have n0_ := q0 (Kd.R_elder' (qr HO127.out) (Kd.R_base ho0) hb); have n1_ := q0 (Kd.R_below (qr HO129.out) hb); have n2_ := q0 (Kd.R_lower (Kd.R_new' ho0 (Kd.R_lt (qr HO127.out))) (below_size (qb HB.out))); have n3_ := q0 (kb BK116.out hb); have n4_ := q0 (below_step (qb HB.out) hb); clear HO127 HO129 BK116 HB; have HO127 := n0_; have HO129 := n1_; have HO131 := n2_; have BK116 := n3_; have HB := n4_; clear n0_ n1_ n2_ n3_ n4_; (try clear hb); (try clear hb2); (try clear hk); (try clear hi); (try clear ho0)) | ((with_reducible refine gate_dst (N := 5) rfl ?_); refine be 5 #[.int .i64 0, .slice none 0 0] 32 ?_; intro gb132 hg w93 hbox hb; have n0_ := q0 (Kd.R_below (qr HO127.out) hb); have n1_ := q0 (Kd.R_below (qr HO129.out) hb); have n2_ := q0 (Kd.R_below (qr HO131.out) hb); have n3_ := q0 (kb BK116.out hb); have n4_ := q0 (below_step (qb HB.out) hb); have n5_ := q0 (hbox); have n6_ := q0 ((bs HB.out hg : w.heap.size ≤ gb132)); have n7_ := q0 ((bs HB.out hg : w.heap.size ≤ gb132)); have n8_ := q0 ((bl BK116.out hg : gb116 ≠ gb132)); have n9_ := q0 ((bg BK116.out hg : gb132 ≠ gb116)); clear HO127 HO129 HO131 BK116 HB; have HO127 := n0_; have HO129 := n1_; have HO131 := n2_; have BK116 := n3_; have HB := n4_; have BK132 := n5_; have GW132 := n6_; have GE132 := n7_; have NB116_132 := n8_; have NB132_116 := n9_; clear n0_ n1_ n2_ n3_ n4_ n5_ n6_ n7_ n8_ n9_ hb hbox hg; have hnb94 := NB132_116.out; have hnc94 := NB116_132.out; have hcz95_0 : w93.cell? ⟨gb132, 0, none⟩ = some (.int .i64 0) := (blk_cell BK132.out 0).trans rfl; have hcz95_1 : w93.cell? ⟨gb132, 1, none⟩ = some (.slice none 0 0) := (blk_cell BK132.out 1).trans rfl; have hfz95_0 := blk_frozen BK132.out 0; have hfz95_1 := blk_frozen BK132.out 1; obtain ⟨Ao96, co96, eo96⟩ := Kd.R_slice HO131.out; subst eo96) | ((with_reducible refine gate_callee (f := 36) rfl ?_); refine goesL_ (some 22) rfl rfl Try.func36 (by kernel_rfl) rfl #[.agg #[.int .i64 t109, .slice Ao96 t118.length co96]] rfl qm ?_; (with_reducible refine (impl_BridgeParts.calls k t109 _ _ t118 t110 _ ?side1 ?side2 A10.out).mono ?_); (case side1 => refine (Kd.R_reads' (e := 27) (base := w.heap.size) (ok := fun k_ => (True ∧ some k_ ≠ (.slice Ao89 t117.length co89 : Value).ownBlock)) (n := t118.length) (c := co96) ?_).2.2; exact (by (with_reducible repeat (first | apply Kd.R_alloc | apply Kd.R_drewN | apply Kd.R_drew)); exact (Kd.R_mono (Kd.R_far (p := ⟨gb132, 1, none⟩) (Kd.R_far (p := ⟨gb132, 0, none⟩) (Kd.R_types HO131.out BK132.out (by decide)) (fun _ hk => hk.2) (.int .i64 t109)) (fun _ hk => hk.2) (.slice Ao96 t118.length co96)) (fun _ h_ => h_.1)))); (case side2 => exact (Kd.R_reads' HO131.out).2.1); rintro e w97 ⟨v133, rfl, ho0, hb⟩; refine ⟨_, rfl, ?_⟩; have n0_ := q0 (Kd.R_below (by (with_reducible repeat (first | apply Kd.R_alloc | apply Kd.R_drewN | apply Kd.R_drew)); exact (Kd.R_mono (Kd.R_far (p := ⟨gb132, 1, none⟩) (Kd.R_far (p := ⟨gb132, 0, none⟩) (Kd.R_types HO127.out BK132.out (by decide)) (fun _ hk => hk.2) (.int .i64 t109)) (fun _ hk => hk.2) (.slice Ao96 t118.length co96)) (fun _ h_ => h_.1))) hb); have n1_ := q0 (Kd.R_elder' (by (with_reducible repeat (first | apply Kd.R_alloc | apply Kd.R_drewN | apply Kd.R_drew)); exact (Kd.R_mono (Kd.R_far (p := ⟨gb132, 1, none⟩) (Kd.R_far (p := ⟨gb132, 0, none⟩) (Kd.R_types HO129.out BK132.out (by decide)) (fun _ hk => hk.2) (.int .i64 t109)) (fun _ hk => hk.2) (.slice Ao96 t118.length co96)) (fun _ h_ => h_.1))) (Kd.R_base ho0) hb); have n2_ := q0 (Kd.R_below (by (with_reducible repeat (first | apply Kd.R_alloc | apply Kd.R_drewN | apply Kd.R_drew)); exact (Kd.R_mono (Kd.R_far (p := ⟨gb132, 1, none⟩) (Kd.R_far (p := ⟨gb132, 0, none⟩) (Kd.R_types HO131.out BK132.out (by decide)) (fun _ hk => hk.2) (.int .i64 t109)) (fun _ hk => hk.2) (.slice Ao96 t118.length co96)) (fun _ h_ => h_.1))) hb); have n3_ := q0 (Kd.R_lower (Kd.R_new' ho0 (Kd.R_lt (by (with_reducible repeat (first | apply Kd.R_alloc | apply Kd.R_drewN | apply Kd.R_drew)); exact (Kd.R_mono (Kd.R_far (p := ⟨gb132, 1, none⟩) (Kd.R_far (p := ⟨gb132, 0, none⟩) (Kd.R_types HO129.out BK132.out (by decide)) (fun _ hk => hk.2) (.int .i64 t109)) (fun _ hk => hk.2) (.slice Ao96 t118.length co96)) (fun _ h_ => h_.1))))) (below_size (qb HB.out))); have n4_ := q0 (blk_below (g := gb116) (o := .cells #[.int .i64 a0_0, .slice A0_1 l0_1.length c0_1] 24 (0, 0)) (qf BK116.out) hb); have n5_ := q0 (blk_below (g := gb132) (o := .cells #[.int .i64 t109, .slice Ao96 t118.length co96] 32 (0, 0)) (by (with_reducible repeat (first | refine blk_drewN ?_ _ | refine blk_drew ?_ | refine blk_alloc ?_ _)); refine blk_put (cs := #[.int .i64 t109, .slice none 0 0]) ?_ 1 _ rfl; (with_reducible repeat (first | refine blk_drewN ?_ _ | refine blk_drew ?_ | refine blk_alloc ?_ _)); refine blk_put (cs := #[.int .i64 0, .slice none 0 0]) ?_ 0 _ rfl; (with_reducible repeat (first | refine blk_drewN ?_ _ | refine blk_drew ?_ | refine blk_alloc ?_ _)); exact BK132.out) hb); have n6_ := q0 (below_step (qb HB.out) hb); clear HO127 HO129 HO131 BK116 BK132 HB; have HO127 := n0_; have HO129 := n1_; have HO131 := n2_; have HO134 := n3_; have BK116 := n4_; have BK132 := n5_; have HB := n6_; clear n0_ n1_ n2_ n3_ n4_ n5_ n6_; (try clear hb); (try clear hb2); (try clear hk); (try clear hi); (try clear ho0); obtain ⟨Ao98, co98, eo98⟩ := Kd.R_slice HO134.out; subst eo98; obtain ⟨Ao99, co99, eo99⟩ := Kd.R_slice HO129.out; subst eo99) | ((with_reducible refine gate_callee (f := 37) rfl ?_); refine goesL_ (some 25) rfl rfl Try.func37 (by kernel_rfl) rfl #[.slice Ao98 t110.length co98, .slice Ao99 t108.length co99] rfl qm ?_; (with_reducible refine (laws_eqIntS.calls k _ _ t110 _ _ t108 true _ ?side1 ?side2 ?side3 ?side4 A11.out).mono ?_); (case side1 => exact qc (Kd.R_reads' HO134.out).2.2); (case side2 => exact (Kd.R_reads' HO134.out).2.1); (case side3 => exact qc (Kd.R_reads' HO129.out).2.2); (case side4 => exact (Kd.R_reads' HO129.out).2.1); rintro e w' ⟨rfl, ⟨nd, rfl⟩⟩; refine ⟨_, rfl, ?_⟩))
   (try (rw [drewN_self w97]; generalize hq_ : World.drewN w97 _ = w97; have n0_ : Aside0 (Kd.R kTie 27 w97 w.heap.size (fun k_ => some k_ ≠ (.slice Ao96 t118.length co96 : Value).ownBlock) (.slice Ao89 t117.length co89) t117) := ⟨by rw [← hq_]; exact (by (with_reducible repeat (first | apply Kd.R_alloc | apply Kd.R_drewN | apply Kd.R_drew)); exact Kd.R_mono HO127.out (fun _ hk => hk.2))⟩; have n1_ : Aside0 (Kd.R (Kd.int .i64) 3 w97 w.heap.size (fun k_ => some k_ ≠ (.slice Ao98 t110.length co98 : Value).ownBlock) (.slice Ao99 t108.length co99) t108) := ⟨by rw [← hq_]; exact (by (with_reducible repeat (first | apply Kd.R_alloc | apply Kd.R_drewN | apply Kd.R_drew)); exact Kd.R_mono HO129.out (fun _ hk => hk.2))⟩; have n2_ : Aside0 (Kd.R kTie 27 w97 w.heap.size (fun k_ => some k_ ≠ (.slice Ao89 t117.length co89 : Value).ownBlock) (.slice Ao96 t118.length co96) t118) := ⟨by rw [← hq_]; exact (by (with_reducible repeat (first | apply Kd.R_alloc | apply Kd.R_drewN | apply Kd.R_drew)); exact Kd.R_mono HO131.out (fun _ hk => hk.2))⟩; have n3_ : Aside0 (Kd.R (Kd.int .i64) 3 w97 w.heap.size (fun k_ => some k_ ≠ (.slice Ao99 t108.length co99 : Value).ownBlock) (.slice Ao98 t110.length co98) t110) := ⟨by rw [← hq_]; exact (by (with_reducible repeat (first | apply Kd.R_alloc | apply Kd.R_drewN | apply Kd.R_drew)); exact Kd.R_mono HO134.out (fun _ hk => hk.2))⟩; have n4_ : Aside0 (w97.heap[gb116]? = some (.cells #[.int .i64 a0_0, .slice A0_1 l0_1.length c0_1] 24 (0, 0))) := ⟨by rw [← hq_]; exact (qk BK116.out)⟩; have n5_ : Aside0 (w97.heap[gb132]? = some (.cells #[.int .i64 t109, .slice Ao96 t118.length co96] 32 (0, 0))) := ⟨by rw [← hq_]; exact (qk BK132.out)⟩; have n6_ : Aside0 (Below w.heap.size w w97) := ⟨by rw [← hq_]; exact (qb HB.out)⟩; clear HO127 HO129 HO131 HO134 BK116 BK132 HB hq_; have HO127 := n0_; have HO129 := n1_; have HO131 := n2_; have HO134 := n3_; have BK116 := n4_; have BK132 := n5_; have HB := n6_; clear n0_ n1_ n2_ n3_ n4_ n5_ n6_))
   have n0_ := q0 (Kd.R_drew HO127.out)
   have n1_ := q0 (Kd.R_drew HO129.out)
   have n2_ := q0 (Kd.R_drew HO131.out)
   have n3_ := q0 (Kd.R_drew HO134.out)
   have n4_ := q0 (blk_drew BK116.out)
   have n5_ := q0 (blk_drew BK132.out)
   have n6_ := q0 (below_drew1 HB.out)
   clear HO127
   clear HO129
   clear HO131
   clear HO134
   clear BK116
   clear BK132
   clear HB
   have HO127 := n0_
   have HO129 := n1_
   have HO131 := n2_
   have HO134 := n3_
   have BK116 := n4_
   have BK132 := n5_
   have HB := n6_
   clear n0_ n1_ n2_ n3_ n4_ n5_ n6_
   refine start_ (n := 5) (S := fun w' => w'.cell? ⟨gb132, 0, none⟩ = some (.int .i64 t109) ∧ w'.cell? ⟨gb132, 1, none⟩ = some (.slice Ao96 t118.length co96) ∧ w'.cell? ⟨gb116, 0, none⟩ = some (.int .i64 a0_0) ∧ w'.cell? ⟨gb116, 1, none⟩ = some (.slice A0_1 l0_1.length c0_1)) (ds := []) (ba 5 0) (by kernel_rfl) rfl (by kernel_rfl) ⟨(blk_cell BK132.out 0).trans rfl, (blk_cell BK132.out 1).trans rfl, (blk_cell BK116.out 0).trans rfl, (blk_cell BK116.out 1).trans rfl⟩ (fun hHeld => ?_)
   generalize w97.drew = w119 at HO127 HO129 HO131 HO134 BK116 BK132 HB hHeld ⊢
   refine tw 0 (some 27) (ba 5 1) hHeld ?_
   refine tw 1 (some 28) (ba 5 3) hHeld ?_
   refine one_ (i := 2) (N := some 29) (ba 5 7) rfl rfl (by kernel_rfl) (by decide) (fun K hK => ?_)
   refine goes_ Try.func15 (by kernel_rfl) rfl #[.agg #[.int .i64 a0_0, .slice A0_1 l0_1.length c0_1]] (by rfl) rfl rfl qm ?_
   with_reducible refine (laws_toNet.calls k a0_0 _ _ l0_1 t112 t121 _ ?side1 ?side2 A13.out).mono ?_
   (case side1 => exact qc (Kd.C_below HR0_1.out HB.out))
   (case side2 => exact HC0_1.out)
   rintro e w150 ⟨v135, rfl, ho0, hb⟩
   refine ⟨_, rfl, ?_⟩
   have n0_ := q0 (Kd.R_elder' (qr HO127.out) (Kd.R_base ho0) hb)
   have n1_ := q0 (Kd.R_below (qr HO129.out) hb)
   have n2_ := q0 (Kd.R_elder' (qr HO131.out) (Kd.R_base ho0) hb)
   have n3_ := q0 (Kd.R_below (qr HO134.out) hb)
   have n4_ := q0 (Kd.R_lower (Kd.R_new' (Kd.R_new' ho0 (Kd.R_lt (qr HO127.out))) (Kd.R_lt (qr HO131.out))) (below_size (qb HB.out)))
   have n5_ := q0 (kb BK116.out hb)
   have n6_ := q0 (kb BK132.out hb)
   have n7_ := q0 (below_step (qb HB.out) hb)
   clear HO127
   clear HO129
   clear HO131
   clear HO134
   clear BK116
   clear BK132
   clear HB
   have HO127 := n0_
   have HO129 := n1_
   have HO131 := n2_
   have HO134 := n3_
   have HO136 := n4_
   have BK116 := n5_
   have BK132 := n6_
   have HB := n7_
   clear n0_ n1_ n2_ n3_ n4_ n5_ n6_ n7_
   (try clear hb)
   (try clear hb2)
   (try clear hk)
   (try clear hi)
   (try clear ho0)
   obtain ⟨Ao151, co151, eo151⟩ := Kd.R_slice HO136.out
   (first | subst eo151 | (injection eo151 with f1_ f2_ f3_; have f4_ := f1_.symm; have f5_ := f3_.symm; clear f1_ f2_ f3_; subst f4_; subst f5_))
   refine hK.out _ _ ⟨(blk_cell BK132.out 0).trans rfl, (blk_cell BK132.out 1).trans rfl, (blk_cell BK116.out 0).trans rfl, (blk_cell BK116.out 1).trans rfl⟩ (fun hHeld => ?_)
   clear hK K
   refine nu 29 ?_
   refine one_ (i := 3) (N := some 30) (ba 5 15) rfl rfl (by kernel_rfl) (by decide) (fun K hK => ?_)
   refine goes_ Try.func18 (by kernel_rfl) rfl #[.agg #[.int .i64 t109, .slice Ao96 t118.length co96], .agg #[.int .i64 t112, .slice Ao151 t121.length co151]] (by rfl) rfl rfl qm ?_
   with_reducible refine (laws_eqNet.calls k t109 _ _ t118 t112 _ _ t121 false _ ?side1 ?side2 ?side3 ?side4 A14.out).mono ?_
   (case side1 => exact qc (Kd.R_reads' HO131.out).2.2)
   (case side2 => exact (Kd.R_reads' HO131.out).2.1)
   (case side3 => exact qc (Kd.R_reads' HO136.out).2.2)
   (case side4 => exact (Kd.R_reads' HO136.out).2.1)
   rintro e w152 ⟨rfl, hb⟩
   refine ⟨_, rfl, ?_⟩
   have n0_ := q0 (Kd.R_below (qr HO127.out) hb)
   have n1_ := q0 (Kd.R_below (qr HO129.out) hb)
   have n2_ := q0 (Kd.R_below (qr HO131.out) hb)
   have n3_ := q0 (Kd.R_below (qr HO134.out) hb)
   have n4_ := q0 (Kd.R_below (qr HO136.out) hb)
   have n5_ := q0 (kb BK116.out hb)
   have n6_ := q0 (kb BK132.out hb)
   have n7_ := q0 (below_step (qb HB.out) hb)
   clear HO127
   clear HO129
   clear HO131
   clear HO134
   clear HO136
   clear BK116
   clear BK132
   clear HB
   have HO127 := n0_
   have HO129 := n1_
   have HO131 := n2_
   have HO134 := n3_
   have HO136 := n4_
   have BK116 := n5_
   have BK132 := n6_
   have HB := n7_
   clear n0_ n1_ n2_ n3_ n4_ n5_ n6_ n7_
   (try clear hb)
   (try clear hb2)
   (try clear hk)
   (try clear hi)
   refine hK.out _ _ ⟨(blk_cell BK132.out 0).trans rfl, (blk_cell BK132.out 1).trans rfl, (blk_cell BK116.out 0).trans rfl, (blk_cell BK116.out 1).trans rfl⟩ (fun hHeld => ?_)
   clear hK K
   refine nu 30 ?_
   refine pw 4 (some 31) (ba 5 31) ?_
   refine done_ (by kernel_rfl) ?_
   try go_wp2
   go_ret
   exact ⟨qe, qb HB.out⟩
 subst c15
 have H1 : ((laws_markNet.f k t109 t118 1).bind fun bt114 => (if bt114.1 < 0 then (laws_FnExactBridgeParts.j0 k t108 t110 true a0_0 l0_1) else ((laws_eqIntS.f k t110 t108).bind fun t115 => (laws_FnExactBridgeParts.j0 k t108 t110 (!t115) a0_0 l0_1)))) = some r := by rw [if_pos rfl] at H; exact H
 clear H
 have H := H1
 clear H1
 replace H := Option.bind_eq_some_iff.mp H
 obtain ⟨⟨t114, t124⟩, A125, H⟩ := H
 replace H : (if t114 < 0 then (laws_FnExactBridgeParts.j0 k t108 t110 true a0_0 l0_1) else ((laws_eqIntS.f k t110 t108).bind fun t115 => (laws_FnExactBridgeParts.j0 k t108 t110 (!t115) a0_0 l0_1))) = some r := H
 have A16 := Aside0.mk A125
 clear A125
 have HC17 := Aside0.mk H
 clear H
 go_enter Try.func8, Try.ntmps8
 try go_wp2_with (first | ((with_reducible refine gate_dst (N := 1) rfl ?_); refine be 1 #[.int .i64 a0_0, .slice A0_1 l0_1.length c0_1] 24 ?_; intro gb116 hg w18 hbox hb; have n0_ := q0 (below_step (qb HB.out) hb); have n1_ := q0 (hbox); have n2_ := q0 ((bs HB.out hg : w.heap.size ≤ gb116)); have n3_ := q0 ((bs HB.out hg : w.heap.size ≤ gb116)); clear HB; have HB := n0_; have BK116 := n1_; have GW116 := n2_; have GE116 := n3_; clear n0_ n1_ n2_ n3_ hb hbox hg; have hcz19_0 : w18.cell? ⟨gb116, 0, none⟩ = some (.int .i64 a0_0) := (blk_cell BK116.out 0).trans rfl; have hcz19_1 : w18.cell? ⟨gb116, 1, none⟩ = some (.slice A0_1 l0_1.length c0_1) := (blk_cell BK116.out 1).trans rfl; have hfz19_0 := blk_frozen BK116.out 0; have hfz19_1 := blk_frozen BK116.out 1) | ((with_reducible refine gate_callee (f := 13) rfl ?_); refine goesL_ (some 13) rfl rfl Try.func13 (by kernel_rfl) rfl #[.agg #[.int .i64 a0_0, .slice A0_1 l0_1.length c0_1], .int .i64 1048576] rfl qm ?_; (with_reducible refine (laws_szNet.calls a0_0 _ _ l0_1 1048576 t100 _ ?side1 ?side2 A2.out).mono ?_); (case side1 => exact qc (Kd.C_below HR0_1.out HB.out)); (case side2 => exact HC0_1.out); rintro e w20 ⟨rfl, hb⟩; refine ⟨_, rfl, ?_⟩; have n0_ := q0 (kb BK116.out hb); have n1_ := q0 (below_step (qb HB.out) hb); clear BK116 HB; have BK116 := n0_; have HB := n1_; clear n0_ n1_; (try clear hb); (try clear hb2); (try clear hk); (try clear hi); have hcz21_0 : w20.cell? ⟨gb116, 0, none⟩ = some (.int .i64 a0_0) := (blk_cell BK116.out 0).trans rfl; have hcz21_1 : w20.cell? ⟨gb116, 1, none⟩ = some (.slice A0_1 l0_1.length c0_1) := (blk_cell BK116.out 1).trans rfl; have hfz21_0 := blk_frozen BK116.out 0; have hfz21_1 := blk_frozen BK116.out 1) | ((with_reducible refine gate_callee (f := 15) rfl ?_); refine goesL_ (some 17) rfl rfl Try.func15 (by kernel_rfl) rfl #[.agg #[.int .i64 a0_0, .slice A0_1 l0_1.length c0_1]] rfl qm ?_; (with_reducible refine (laws_toNet.calls k a0_0 _ _ l0_1 t107 t117 _ ?side1 ?side2 A7.out).mono ?_); (case side1 => exact qc (Kd.C_below HR0_1.out HB.out)); (case side2 => exact HC0_1.out); rintro e w22 ⟨v126, rfl, ho0, hb⟩; refine ⟨_, rfl, ?_⟩; have n0_ := q0 (Kd.R_lower ho0 (below_size (qb HB.out))); have n1_ := q0 (kb BK116.out hb); have n2_ := q0 (below_step (qb HB.out) hb); clear BK116 HB; have HO127 := n0_; have BK116 := n1_; have HB := n2_; clear n0_ n1_ n2_; (try clear hb); (try clear hb2); (try clear hk); (try clear hi); (try clear ho0); obtain ⟨Ao23, co23, eo23⟩ := Kd.R_slice HO127.out; subst eo23) | ((with_reducible refine gate_callee (f := 35) rfl ?_); refine goesL_ (some 18) rfl rfl Try.func35 (by kernel_rfl) rfl #[.agg #[.int .i64 t107, .slice Ao23 t117.length co23]] rfl qm ?_; (with_reducible refine (spec_BridgeParts.calls k t107 _ _ t117 t108 _ ?side1 ?side2 A8.out).mono ?_); (case side1 => exact qc (Kd.R_reads' HO127.out).2.2); (case side2 => exact (Kd.R_reads' HO127.out).2.1); rintro e w24 ⟨v128, rfl, ho0, hb⟩; refine ⟨_, rfl, ?_⟩; have n0_ := q0 (Kd.R_below (qr HO127.out) hb); have n1_ := q0 (Kd.R_lower ho0 (below_size (qb HB.out))); have n2_ := q0 (kb BK116.out hb); have n3_ := q0 (below_step (qb HB.out) hb); clear HO127 BK116 HB; have HO127 := n0_; have HO129 := n1_; have BK116 := n2_; have HB := n3_; clear n0_ n1_ n2_ n3_; (try clear hb); (try clear hb2); (try clear hk); (try clear hi); (try clear ho0); have hcz25_0 : w24.cell? ⟨gb116, 0, none⟩ = some (.int .i64 a0_0) := (blk_cell BK116.out 0).trans rfl; have hcz25_1 : w24.cell? ⟨gb116, 1, none⟩ = some (.slice A0_1 l0_1.length c0_1) := (blk_cell BK116.out 1).trans rfl; have hfz25_0 := blk_frozen BK116.out 0; have hfz25_1 := blk_frozen BK116.out 1) | ((with_reducible refine gate_callee (f := 15) rfl ?_); refine goesL_ (some 20) rfl rfl Try.func15 (by kernel_rfl) rfl #[.agg #[.int .i64 a0_0, .slice A0_1 l0_1.length c0_1]] rfl qm ?_; (with_reducible refine (laws_toNet.calls k a0_0 _ _ l0_1 t109 t118 _ ?side1 ?side2 A9.out).mono ?_); (case side1 => exact qc (Kd.C_below HR0_1.out HB.out)); (case side2 => exact HC0_1.out); rintro e w26 ⟨v130, rfl, ho0, hb⟩; refine ⟨_, rfl, ?_⟩; have n0_ := q0 (Kd.R_elder' (qr HO127.out) (Kd.R_base ho0) hb); have n1_ := q0 (Kd.R_below (qr HO129.out) hb); have n2_ := q0 (Kd.R_lower (Kd.R_new' ho0 (Kd.R_lt (qr HO127.out))) (below_size (qb HB.out))); have n3_ := q0 (kb BK116.out hb); have n4_ := q0 (below_step (qb HB.out) hb); clear HO127 HO129 BK116 HB; have HO127 := n0_; have HO129 := n1_; have HO131 := n2_; have BK116 := n3_; have HB := n4_; clear n0_ n1_ n2_ n3_ n4_; (try clear hb); (try clear hb2); (try clear hk); (try clear hi); (try clear ho0)) | ((with_reducible refine gate_dst (N := 5) rfl ?_); refine be 5 #[.int .i64 0, .slice none 0 0] 32 ?_; intro gb132 hg w27 hbox hb; have n0_ := q0 (Kd.R_below (qr HO127.out) hb); have n1_ := q0 (Kd.R_below (qr HO129.out) hb); have n2_ := q0 (Kd.R_below (qr HO131.out) hb); have n3_ := q0 (kb BK116.out hb); have n4_ := q0 (below_step (qb HB.out) hb); have n5_ := q0 (hbox); have n6_ := q0 ((bs HB.out hg : w.heap.size ≤ gb132)); have n7_ := q0 ((bs HB.out hg : w.heap.size ≤ gb132)); have n8_ := q0 ((bl BK116.out hg : gb116 ≠ gb132)); have n9_ := q0 ((bg BK116.out hg : gb132 ≠ gb116)); clear HO127 HO129 HO131 BK116 HB; have HO127 := n0_; have HO129 := n1_; have HO131 := n2_; have BK116 := n3_; have HB := n4_; have BK132 := n5_; have GW132 := n6_; have GE132 := n7_; have NB116_132 := n8_; have NB132_116 := n9_; clear n0_ n1_ n2_ n3_ n4_ n5_ n6_ n7_ n8_ n9_ hb hbox hg; have hnb28 := NB132_116.out; have hnc28 := NB116_132.out; have hcz29_0 : w27.cell? ⟨gb132, 0, none⟩ = some (.int .i64 0) := (blk_cell BK132.out 0).trans rfl; have hcz29_1 : w27.cell? ⟨gb132, 1, none⟩ = some (.slice none 0 0) := (blk_cell BK132.out 1).trans rfl; have hfz29_0 := blk_frozen BK132.out 0; have hfz29_1 := blk_frozen BK132.out 1; obtain ⟨Ao30, co30, eo30⟩ := Kd.R_slice HO131.out; subst eo30) | ((with_reducible refine gate_callee (f := 36) rfl ?_); refine goesL_ (some 22) rfl rfl Try.func36 (by kernel_rfl) rfl #[.agg #[.int .i64 t109, .slice Ao30 t118.length co30]] rfl qm ?_; (with_reducible refine (impl_BridgeParts.calls k t109 _ _ t118 t110 _ ?side1 ?side2 A10.out).mono ?_); (case side1 => refine (Kd.R_reads' (e := 27) (base := w.heap.size) (ok := fun k_ => (True ∧ some k_ ≠ (.slice Ao23 t117.length co23 : Value).ownBlock)) (n := t118.length) (c := co30) ?_).2.2; exact (by (with_reducible repeat (first | apply Kd.R_alloc | apply Kd.R_drewN | apply Kd.R_drew)); exact (Kd.R_mono (Kd.R_far (p := ⟨gb132, 1, none⟩) (Kd.R_far (p := ⟨gb132, 0, none⟩) (Kd.R_types HO131.out BK132.out (by decide)) (fun _ hk => hk.2) (.int .i64 t109)) (fun _ hk => hk.2) (.slice Ao30 t118.length co30)) (fun _ h_ => h_.1)))); (case side2 => exact (Kd.R_reads' HO131.out).2.1); rintro e w31 ⟨v133, rfl, ho0, hb⟩; refine ⟨_, rfl, ?_⟩; have n0_ := q0 (Kd.R_below (by (with_reducible repeat (first | apply Kd.R_alloc | apply Kd.R_drewN | apply Kd.R_drew)); exact (Kd.R_mono (Kd.R_far (p := ⟨gb132, 1, none⟩) (Kd.R_far (p := ⟨gb132, 0, none⟩) (Kd.R_types HO127.out BK132.out (by decide)) (fun _ hk => hk.2) (.int .i64 t109)) (fun _ hk => hk.2) (.slice Ao30 t118.length co30)) (fun _ h_ => h_.1))) hb); have n1_ := q0 (Kd.R_elder' (by (with_reducible repeat (first | apply Kd.R_alloc | apply Kd.R_drewN | apply Kd.R_drew)); exact (Kd.R_mono (Kd.R_far (p := ⟨gb132, 1, none⟩) (Kd.R_far (p := ⟨gb132, 0, none⟩) (Kd.R_types HO129.out BK132.out (by decide)) (fun _ hk => hk.2) (.int .i64 t109)) (fun _ hk => hk.2) (.slice Ao30 t118.length co30)) (fun _ h_ => h_.1))) (Kd.R_base ho0) hb); have n2_ := q0 (Kd.R_below (by (with_reducible repeat (first | apply Kd.R_alloc | apply Kd.R_drewN | apply Kd.R_drew)); exact (Kd.R_mono (Kd.R_far (p := ⟨gb132, 1, none⟩) (Kd.R_far (p := ⟨gb132, 0, none⟩) (Kd.R_types HO131.out BK132.out (by decide)) (fun _ hk => hk.2) (.int .i64 t109)) (fun _ hk => hk.2) (.slice Ao30 t118.length co30)) (fun _ h_ => h_.1))) hb); have n3_ := q0 (Kd.R_lower (Kd.R_new' ho0 (Kd.R_lt (by (with_reducible repeat (first | apply Kd.R_alloc | apply Kd.R_drewN | apply Kd.R_drew)); exact (Kd.R_mono (Kd.R_far (p := ⟨gb132, 1, none⟩) (Kd.R_far (p := ⟨gb132, 0, none⟩) (Kd.R_types HO129.out BK132.out (by decide)) (fun _ hk => hk.2) (.int .i64 t109)) (fun _ hk => hk.2) (.slice Ao30 t118.length co30)) (fun _ h_ => h_.1))))) (below_size (qb HB.out))); have n4_ := q0 (blk_below (g := gb116) (o := .cells #[.int .i64 a0_0, .slice A0_1 l0_1.length c0_1] 24 (0, 0)) (qf BK116.out) hb); have n5_ := q0 (blk_below (g := gb132) (o := .cells #[.int .i64 t109, .slice Ao30 t118.length co30] 32 (0, 0)) (by (with_reducible repeat (first | refine blk_drewN ?_ _ | refine blk_drew ?_ | refine blk_alloc ?_ _)); refine blk_put (cs := #[.int .i64 t109, .slice none 0 0]) ?_ 1 _ rfl; (with_reducible repeat (first | refine blk_drewN ?_ _ | refine blk_drew ?_ | refine blk_alloc ?_ _)); refine blk_put (cs := #[.int .i64 0, .slice none 0 0]) ?_ 0 _ rfl; (with_reducible repeat (first | refine blk_drewN ?_ _ | refine blk_drew ?_ | refine blk_alloc ?_ _)); exact BK132.out) hb); have n6_ := q0 (below_step (qb HB.out) hb); clear HO127 HO129 HO131 BK116 BK132 HB; have HO127 := n0_; have HO129 := n1_; have HO131 := n2_; have HO134 := n3_; have BK116 := n4_; have BK132 := n5_; have HB := n6_; clear n0_ n1_ n2_ n3_ n4_ n5_ n6_; (try clear hb); (try clear hb2); (try clear hk); (try clear hi); (try clear ho0); obtain ⟨Ao32, co32, eo32⟩ := Kd.R_slice HO134.out; subst eo32; obtain ⟨Ao33, co33, eo33⟩ := Kd.R_slice HO129.out; subst eo33) | ((with_reducible refine gate_callee (f := 37) rfl ?_); refine goesL_ (some 25) rfl rfl Try.func37 (by kernel_rfl) rfl #[.slice Ao32 t110.length co32, .slice Ao33 t108.length co33] rfl qm ?_; (with_reducible refine (laws_eqIntS.calls k _ _ t110 _ _ t108 true _ ?side1 ?side2 ?side3 ?side4 A11.out).mono ?_); (case side1 => exact qc (Kd.R_reads' HO134.out).2.2); (case side2 => exact (Kd.R_reads' HO134.out).2.1); (case side3 => exact qc (Kd.R_reads' HO129.out).2.2); (case side4 => exact (Kd.R_reads' HO129.out).2.1); rintro e w' ⟨rfl, ⟨nd, rfl⟩⟩; refine ⟨_, rfl, ?_⟩))
 (try (rw [drewN_self w31]; generalize hq_ : World.drewN w31 _ = w31; have n0_ : Aside0 (Kd.R kTie 27 w31 w.heap.size (fun k_ => some k_ ≠ (.slice Ao30 t118.length co30 : Value).ownBlock) (.slice Ao23 t117.length co23) t117) := ⟨by rw [← hq_]; exact (by (with_reducible repeat (first | apply Kd.R_alloc | apply Kd.R_drewN | apply Kd.R_drew)); exact Kd.R_mono HO127.out (fun _ hk => hk.2))⟩; have n1_ : Aside0 (Kd.R (Kd.int .i64) 3 w31 w.heap.size (fun k_ => some k_ ≠ (.slice Ao32 t110.length co32 : Value).ownBlock) (.slice Ao33 t108.length co33) t108) := ⟨by rw [← hq_]; exact (by (with_reducible repeat (first | apply Kd.R_alloc | apply Kd.R_drewN | apply Kd.R_drew)); exact Kd.R_mono HO129.out (fun _ hk => hk.2))⟩; have n2_ : Aside0 (Kd.R kTie 27 w31 w.heap.size (fun k_ => some k_ ≠ (.slice Ao23 t117.length co23 : Value).ownBlock) (.slice Ao30 t118.length co30) t118) := ⟨by rw [← hq_]; exact (by (with_reducible repeat (first | apply Kd.R_alloc | apply Kd.R_drewN | apply Kd.R_drew)); exact Kd.R_mono HO131.out (fun _ hk => hk.2))⟩; have n3_ : Aside0 (Kd.R (Kd.int .i64) 3 w31 w.heap.size (fun k_ => some k_ ≠ (.slice Ao33 t108.length co33 : Value).ownBlock) (.slice Ao32 t110.length co32) t110) := ⟨by rw [← hq_]; exact (by (with_reducible repeat (first | apply Kd.R_alloc | apply Kd.R_drewN | apply Kd.R_drew)); exact Kd.R_mono HO134.out (fun _ hk => hk.2))⟩; have n4_ : Aside0 (w31.heap[gb116]? = some (.cells #[.int .i64 a0_0, .slice A0_1 l0_1.length c0_1] 24 (0, 0))) := ⟨by rw [← hq_]; exact (qk BK116.out)⟩; have n5_ : Aside0 (w31.heap[gb132]? = some (.cells #[.int .i64 t109, .slice Ao30 t118.length co30] 32 (0, 0))) := ⟨by rw [← hq_]; exact (qk BK132.out)⟩; have n6_ : Aside0 (Below w.heap.size w w31) := ⟨by rw [← hq_]; exact (qb HB.out)⟩; clear HO127 HO129 HO131 HO134 BK116 BK132 HB hq_; have HO127 := n0_; have HO129 := n1_; have HO131 := n2_; have HO134 := n3_; have BK116 := n4_; have BK132 := n5_; have HB := n6_; clear n0_ n1_ n2_ n3_ n4_ n5_ n6_))
 have n0_ := q0 (Kd.R_drew HO127.out)
 have n1_ := q0 (Kd.R_drew HO129.out)
 have n2_ := q0 (Kd.R_drew HO131.out)
 have n3_ := q0 (Kd.R_drew HO134.out)
 have n4_ := q0 (blk_drew BK116.out)
 have n5_ := q0 (blk_drew BK132.out)
 have n6_ := q0 (below_drew1 HB.out)
 clear HO127
 clear HO129
 clear HO131
 clear HO134
 clear BK116
 clear BK132
 clear HB
 have HO127 := n0_
 have HO129 := n1_
 have HO131 := n2_
 have HO134 := n3_
 have BK116 := n4_
 have BK132 := n5_
 have HB := n6_
 clear n0_ n1_ n2_ n3_ n4_ n5_ n6_
 refine start_ (n := 5) (S := fun w' => w'.cell? ⟨gb132, 0, none⟩ = some (.int .i64 t109) ∧ w'.cell? ⟨gb132, 1, none⟩ = some (.slice Ao30 t118.length co30) ∧ w'.cell? ⟨gb116, 0, none⟩ = some (.int .i64 a0_0) ∧ w'.cell? ⟨gb116, 1, none⟩ = some (.slice A0_1 l0_1.length c0_1)) (ds := []) (ba 5 0) (by kernel_rfl) rfl (by kernel_rfl) ⟨(blk_cell BK132.out 0).trans rfl, (blk_cell BK132.out 1).trans rfl, (blk_cell BK116.out 0).trans rfl, (blk_cell BK116.out 1).trans rfl⟩ (fun hHeld => ?_)
 generalize w31.drew = w34 at HO127 HO129 HO131 HO134 BK116 BK132 HB hHeld ⊢
 refine tw 0 (some 27) (ba 5 1) hHeld ?_
 refine tw 1 (some 28) (ba 5 3) hHeld ?_
 refine one_ (i := 2) (N := some 29) (ba 5 7) rfl rfl (by kernel_rfl) (by decide) (fun K hK => ?_)
 refine goes_ Try.func15 (by kernel_rfl) rfl #[.agg #[.int .i64 a0_0, .slice A0_1 l0_1.length c0_1]] (by rfl) rfl rfl qm ?_
 with_reducible refine (laws_toNet.calls k a0_0 _ _ l0_1 t112 t121 _ ?side1 ?side2 A13.out).mono ?_
 (case side1 => exact qc (Kd.C_below HR0_1.out HB.out))
 (case side2 => exact HC0_1.out)
 rintro e w35 ⟨v135, rfl, ho0, hb⟩
 refine ⟨_, rfl, ?_⟩
 have n0_ := q0 (Kd.R_elder' (qr HO127.out) (Kd.R_base ho0) hb)
 have n1_ := q0 (Kd.R_below (qr HO129.out) hb)
 have n2_ := q0 (Kd.R_elder' (qr HO131.out) (Kd.R_base ho0) hb)
 have n3_ := q0 (Kd.R_below (qr HO134.out) hb)
 have n4_ := q0 (Kd.R_lower (Kd.R_new' (Kd.R_new' ho0 (Kd.R_lt (qr HO127.out))) (Kd.R_lt (qr HO131.out))) (below_size (qb HB.out)))
 have n5_ := q0 (kb BK116.out hb)
 have n6_ := q0 (kb BK132.out hb)
 have n7_ := q0 (below_step (qb HB.out) hb)
 clear HO127
 clear HO129
 clear HO131
 clear HO134
 clear BK116
 clear BK132
 clear HB
 have HO127 := n0_
 have HO129 := n1_
 have HO131 := n2_
 have HO134 := n3_
 have HO136 := n4_
 have BK116 := n5_
 have BK132 := n6_
 have HB := n7_
 clear n0_ n1_ n2_ n3_ n4_ n5_ n6_ n7_
 (try clear hb)
 (try clear hb2)
 (try clear hk)
 (try clear hi)
 (try clear ho0)
 obtain ⟨Ao36, co36, eo36⟩ := Kd.R_slice HO136.out
 (first | subst eo36 | (injection eo36 with f1_ f2_ f3_; have f4_ := f1_.symm; have f5_ := f3_.symm; clear f1_ f2_ f3_; subst f4_; subst f5_))
 refine hK.out _ _ ⟨(blk_cell BK132.out 0).trans rfl, (blk_cell BK132.out 1).trans rfl, (blk_cell BK116.out 0).trans rfl, (blk_cell BK116.out 1).trans rfl⟩ (fun hHeld => ?_)
 clear hK K
 refine nu 29 ?_
 refine one_ (i := 3) (N := some 30) (ba 5 15) rfl rfl (by kernel_rfl) (by decide) (fun K hK => ?_)
 refine goes_ Try.func18 (by kernel_rfl) rfl #[.agg #[.int .i64 t109, .slice Ao30 t118.length co30], .agg #[.int .i64 t112, .slice Ao36 t121.length co36]] (by rfl) rfl rfl qm ?_
 with_reducible refine (laws_eqNet.calls k t109 _ _ t118 t112 _ _ t121 true _ ?side1 ?side2 ?side3 ?side4 A14.out).mono ?_
 (case side1 => exact qc (Kd.R_reads' HO131.out).2.2)
 (case side2 => exact (Kd.R_reads' HO131.out).2.1)
 (case side3 => exact qc (Kd.R_reads' HO136.out).2.2)
 (case side4 => exact (Kd.R_reads' HO136.out).2.1)
 rintro e w37 ⟨rfl, hb⟩
 refine ⟨_, rfl, ?_⟩
 have n0_ := q0 (Kd.R_below (qr HO127.out) hb)
 have n1_ := q0 (Kd.R_below (qr HO129.out) hb)
 have n2_ := q0 (Kd.R_below (qr HO131.out) hb)
 have n3_ := q0 (Kd.R_below (qr HO134.out) hb)
 have n4_ := q0 (Kd.R_below (qr HO136.out) hb)
 have n5_ := q0 (kb BK116.out hb)
 have n6_ := q0 (kb BK132.out hb)
 have n7_ := q0 (below_step (qb HB.out) hb)
 clear HO127
 clear HO129
 clear HO131
 clear HO134
 clear HO136
 clear BK116
 clear BK132
 clear HB
 have HO127 := n0_
 have HO129 := n1_
 have HO131 := n2_
 have HO134 := n3_
 have HO136 := n4_
 have BK116 := n5_
 have BK132 := n6_
 have HB := n7_
 clear n0_ n1_ n2_ n3_ n4_ n5_ n6_ n7_
 (try clear hb)
 (try clear hb2)
 (try clear hk)
 (try clear hi)
 refine hK.out _ _ ⟨(blk_cell BK132.out 0).trans rfl, (blk_cell BK132.out 1).trans rfl, (blk_cell BK116.out 0).trans rfl, (blk_cell BK116.out 1).trans rfl⟩ (fun hHeld => ?_)
 clear hK K
 refine nu 30 ?_
 refine pw 4 (some 31) (ba 5 31) ?_
 refine done_ (by kernel_rfl) ?_
 have hcz38_0 : w37.cell? ⟨gb132, 0, none⟩ = some (.int .i64 t109) := (blk_cell BK132.out 0).trans rfl
 have hcz38_1 : w37.cell? ⟨gb132, 1, none⟩ = some (.slice Ao30 t118.length co30) := (blk_cell BK132.out 1).trans rfl
 have hfz38_0 := blk_frozen BK132.out 0
 have hfz38_1 := blk_frozen BK132.out 1
 go_upto_region 14 with (first | ((with_reducible refine gate_callee (f := 29) rfl ?_); refine goesL_ (some 34) rfl rfl Try.func29 (by kernel_rfl) rfl #[.agg #[.int .i64 t109, .slice Ao30 t118.length co30], .int .i64 1] rfl qm ?_; (with_reducible refine (laws_markNet.calls k t109 (fun k_ => some k_ = (.slice Ao30 t118.length co30 : Value).ownBlock) (.slice Ao30 t118.length co30) t118 1 t114 t124 w _ ?side1 ?side2 A16.out).mono ?_); (case side1 => exact qb HB.out); (case side2 => exact Kd.R_tight rfl HO131.out); rintro e w39 ⟨rfl, hy0, hb, hkp⟩; refine ⟨_, rfl, ?_⟩; have n0_ := q0 (blk_kept (qk BK116.out) hkp (fun hs_ => (fun e_ => (Kd.R_ne HO131.out BK116.out (by decide)) e_) hs_)); have n1_ := q0 (Kd.R_mono (ok' := fun k_ => some k_ ≠ (.slice Ao30 t118.length co30 : Value).ownBlock ∧ some k_ ≠ (.slice Ao36 t121.length co36 : Value).ownBlock) (Kd.R_keptB (HO127.out) hkp (fun k_ hk_ hs_ => by first | exact (hk_.1.2) hs_ | grind)) (fun k_ hk_ => by first | exact ⟨hk_.1.1.2, hk_.1.2⟩ | grind)); have n2_ := q0 (Kd.R_mono (ok' := fun k_ => some k_ ≠ (.slice Ao32 t110.length co32 : Value).ownBlock) (Kd.R_keptB ((Kd.R_apart' HO129.out (Kd.R_typed HO131.out) (by decide))) hkp (fun k_ hk_ hs_ => by first | exact (hk_.2) hs_ | grind)) (fun k_ hk_ => by first | exact hk_.1.1.2 | grind)); have n3_ := q0 (Kd.R_reok rfl hy0 (fun k_ e_ => HO131.out.1 k_ e_)); have n4_ := q0 (blk_kept (qk BK132.out) hkp (fun hs_ => (fun e_ => (Kd.R_ne HO131.out BK132.out (by decide)) e_) hs_)); have n5_ := q0 (Kd.R_mono (ok' := fun k_ => some k_ ≠ (.slice Ao33 t108.length co33 : Value).ownBlock) (Kd.R_keptB ((Kd.R_apart' HO134.out (Kd.R_typed HO131.out) (by decide))) hkp (fun k_ hk_ hs_ => by first | exact (hk_.2) hs_ | grind)) (fun k_ hk_ => by first | exact hk_.1.1.2 | grind)); have n6_ := q0 (Kd.R_mono (ok' := fun k_ => some k_ ≠ (.slice Ao23 t117.length co23 : Value).ownBlock ∧ some k_ ≠ (.slice Ao30 t118.length co30 : Value).ownBlock) (Kd.R_keptB (HO136.out) hkp (fun k_ hk_ hs_ => by first | exact (hk_.2) hs_ | grind)) (fun k_ hk_ => by first | exact ⟨hk_.1.1.2, hk_.1.2⟩ | grind)); have n7_ := q0 (hb); clear BK116 HO127 HO129 HO131 BK132 HO134 HO136 HB; have BK116 := n0_; have HO127 := n1_; have HO129 := n2_; have HO131 := n3_; have BK132 := n4_; have HO134 := n5_; have HO136 := n6_; have HB := n7_; clear n0_ n1_ n2_ n3_ n4_ n5_ n6_ n7_; (try clear hb); (try clear hkp); (try clear hy0)))
 (try simp only [Act.put, List.setIfInBounds_toArray, List.set_cons_zero, List.set_cons_succ])
 go_cut [42] (fun v42 wc => ∃ (kq : Nat) (x42_16 : Bool), v42 = .bool x42_16 ∧ Aside0 (laws_FnExactBridgeParts.j0 kq t108 t110 x42_16 a0_0 l0_1 = some r) ∧ Aside0 (kq ≤ k) ∧ Aside0 (Kd.R (Kd.int .i64) 3 wc w.heap.size (fun k_ => some k_ ≠ ((.slice Ao32 t110.length co32) : Value).ownBlock) (.slice Ao33 t108.length co33) t108) ∧ Aside0 (Kd.R (Kd.int .i64) 3 wc w.heap.size (fun k_ => some k_ ≠ ((.slice Ao33 t108.length co33) : Value).ownBlock) (.slice Ao32 t110.length co32) t110) ∧ Aside0 (Kd.R kTie 27 wc w.heap.size (fun _ => True) (.slice Ao30 t118.length co30) t124) ∧ Aside0 (wc.heap[gb116]? = some (.cells #[.int .i64 a0_0, (.slice A0_1 l0_1.length c0_1)] 24 (0, 0))) ∧ Aside0 (wc.heap[gb132]? = some (.cells #[.int .i64 t109, (.slice Ao30 t118.length co30)] 32 (0, 0))) ∧ Aside0 (Below w.heap.size w wc))
 case first =>
   have H := HC17.out
   clear HC17
   by_cases c40 : t114 < 0
   · rw [if_pos c40] at H
     have c40b0 : decide (t114 < 0) = true := decide_eq_true c40
     clear c40
     (first | rw [c40b0] | (simp only [i64_w, i32_w]; rw [c40b0]) | skip)
     have H' := Aside0.mk H
     clear H
     go_wp2
     go_meet
     case rel => exact ⟨_, (true), qs, H', ⟨by first | omega | exact Nat.le_refl _⟩, ⟨qr HO129.out⟩, ⟨qr HO134.out⟩, ⟨by (with_reducible repeat (first | apply Kd.R_alloc | apply Kd.R_drewN | apply Kd.R_drew)); exact Kd.R_mono HO131.out (fun _ hk => trivial)⟩, ⟨qk BK116.out⟩, ⟨qk BK132.out⟩, ⟨qb HB.out⟩⟩
   rw [if_neg c40] at H
   have c40b0 : decide (t114 < 0) = false := decide_eq_false c40
   clear c40
   (first | rw [c40b0] | (simp only [i64_w, i32_w]; rw [c40b0]) | skip)
   replace H := Option.bind_eq_some_iff.mp H
   obtain ⟨t115, A137, H⟩ := H
   replace H : (laws_FnExactBridgeParts.j0 k t108 t110 (!t115) a0_0 l0_1) = some r := H
   have A41 := Aside0.mk A137
   clear A137
   have H' := Aside0.mk H
   clear H
   go_wp2_with (first | (go_at_call 37; (with_reducible refine (laws_eqIntS.calls k _ _ t110 _ _ t108 t115 _ ?side1 ?side2 ?side3 ?side4 A41.out).mono ?_); (case side1 => exact qc (Kd.R_reads' HO134.out).2.2); (case side2 => exact (Kd.R_reads' HO134.out).2.1); (case side3 => exact qc (Kd.R_reads' HO129.out).2.2); (case side4 => exact (Kd.R_reads' HO129.out).2.1); rintro e w' ⟨rfl, ⟨nd, rfl⟩⟩))
   go_meet
   case rel => exact ⟨_, (!t115), qs, H', ⟨by first | omega | exact Nat.le_refl _⟩, ⟨qr HO129.out⟩, ⟨qr HO134.out⟩, ⟨by (with_reducible repeat (first | apply Kd.R_alloc | apply Kd.R_drewN | apply Kd.R_drew)); exact Kd.R_mono HO131.out (fun _ hk => trivial)⟩, ⟨qk BK116.out⟩, ⟨qk BK132.out⟩, ⟨qb HB.out⟩⟩
 clear HC17
 try clear c1
 try clear c2
 try clear p2
 try clear c3
 try clear c3b0
 try clear c4
 try clear c8
 try clear c12
 try clear c13
 try clear c15
 try clear c18
 try clear c28
 try clear c29
 try clear c35
 try clear c36
 try clear c37
 try clear c40
 try clear c40b0
 try clear hcz19_0
 try clear hcz19_1
 try clear hcz21_0
 try clear hcz21_1
 try clear hcz25_0
 try clear hcz25_1
 try clear hcz29_0
 try clear hcz29_1
 try clear hcz38_0
 try clear hcz38_1
 try clear hcz5_0
 try clear hcz5_1
 try clear hfz19_0
 try clear hfz19_1
 try clear hfz21_0
 try clear hfz21_1
 try clear hfz25_0
 try clear hfz25_1
 try clear hfz29_0
 try clear hfz29_1
 try clear hfz38_0
 try clear hfz38_1
 try clear hfz5_0
 try clear hfz5_1
 obtain ⟨kq, x42_16, rfl, HA, HJ16, HO_4, HO_6, HO_110001, BK116, BK132, HB⟩ := hcut
 have hl110001_16 := (Kd.R_reads' HO_110001.out).1
 rw [hl110001_16] at HO_110001
 (try simp only [hl110001_16])
 (try simp only [hl110001_16] at BK116)
 (try simp only [hl110001_16] at BK132)
 (try simp only [hl110001_16] at HO_4)
 (try simp only [hl110001_16] at HO_6)
 rcases kq with _ | kj16
 · exact absurd HA.out (by simp [laws_FnExactBridgeParts.j0])
 have H := HA.out
 clear HA
 simp only [laws_FnExactBridgeParts.j0] at H
 by_cases c42 : x42_16 = true
 · subst c42
   have H1 : (some false) = some r := by rw [if_pos rfl] at H; exact H
   clear H
   have H := H1
   clear H1
   obtain rfl := Option.some.inj H
   go_wp2
   go_ret
   exact ⟨qe, qb HB.out⟩
 replace c42 := Bool.eq_false_iff.mpr c42
 subst c42
 have H1 : ((laws_markIntS.f kj16 t110 1).bind fun bt101 => ((laws_heldIntS.f kj16 bt101.2 1).bind fun t102 => (if t102 < 0 then (some false) else (if t102 = bt101.1 then ((laws_toNet.f kj16 a0_0 l0_1).bind fun bt103 => ((impl_BridgeParts.f kj16 bt103.1 bt103.2).bind fun t104 => ((laws_eqIntS.f kj16 t104 t108).bind fun t105 => (if t105 = true then ((laws_heldIntS.f kj16 bt101.2 1).bind fun t106 => (if t106 < 0 then (some false) else (if t106 = bt101.1 then (some true) else (some false)))) else (some false))))) else (some false))))) = some r := by rw [if_neg (show ¬ (false = true) by decide)] at H; exact H
 clear H
 have H := H1
 clear H1
 replace H := Option.bind_eq_some_iff.mp H
 obtain ⟨⟨t101, t138⟩, A139, H⟩ := H
 replace H : ((laws_heldIntS.f kj16 t138 1).bind fun t102 => (if t102 < 0 then (some false) else (if t102 = t101 then ((laws_toNet.f kj16 a0_0 l0_1).bind fun bt103 => ((impl_BridgeParts.f kj16 bt103.1 bt103.2).bind fun t104 => ((laws_eqIntS.f kj16 t104 t108).bind fun t105 => (if t105 = true then ((laws_heldIntS.f kj16 t138 1).bind fun t106 => (if t106 < 0 then (some false) else (if t106 = t101 then (some true) else (some false)))) else (some false))))) else (some false)))) = some r := H
 have A43 := Aside0.mk A139
 clear A139
 replace H := Option.bind_eq_some_iff.mp H
 obtain ⟨t102, A140, H⟩ := H
 replace H : (if t102 < 0 then (some false) else (if t102 = t101 then ((laws_toNet.f kj16 a0_0 l0_1).bind fun bt103 => ((impl_BridgeParts.f kj16 bt103.1 bt103.2).bind fun t104 => ((laws_eqIntS.f kj16 t104 t108).bind fun t105 => (if t105 = true then ((laws_heldIntS.f kj16 t138 1).bind fun t106 => (if t106 < 0 then (some false) else (if t106 = t101 then (some true) else (some false)))) else (some false))))) else (some false))) = some r := H
 have A44 := Aside0.mk A140
 clear A140
 by_cases c45 : t102 < 0
 · rw [if_pos c45] at H
   have c45b0 : decide (t102 < 0) = true := decide_eq_true c45
   clear c45
   obtain rfl := Option.some.inj H
   go_wp2_with (first | ((with_reducible refine gate_callee (f := 38) rfl ?_); refine goesL_ (some 45) rfl rfl Try.func38 (by kernel_rfl) rfl #[.slice Ao32 t110.length co32, .int .i64 1] rfl qm ?_; (with_reducible refine (laws_markIntS.calls kj16 (fun k_ => some k_ = (.slice Ao32 t110.length co32 : Value).ownBlock) (.slice Ao32 t110.length co32) t110 1 t101 t138 w _ ?side1 ?side2 A43.out).mono ?_); (case side1 => exact qb HB.out); (case side2 => exact Kd.R_tight rfl HO_6.out); rintro e w46 ⟨rfl, hy0, hb, hkp⟩; refine ⟨_, rfl, ?_⟩; have n0_ := q0 (Kd.R_mono (ok' := fun k_ => some k_ ≠ (.slice Ao32 t110.length co32 : Value).ownBlock) (Kd.R_keptB (HO_4.out) hkp (fun k_ hk_ hs_ => by first | exact (hk_) hs_ | grind)) (fun k_ hk_ => by first | exact hk_.1 | grind)); have n1_ := q0 (Kd.R_reok rfl hy0 (fun k_ e_ => HO_6.out.1 k_ e_)); have n2_ := q0 (Kd.R_mono (ok' := fun k_ => True) (Kd.R_keptB ((Kd.R_apart' HO_110001.out (Kd.R_typed HO_6.out) (by decide))) hkp (fun k_ hk_ hs_ => by first | exact (hk_.2) hs_ | grind)) (fun k_ hk_ => trivial)); have n3_ := q0 (blk_kept (qk BK116.out) hkp (fun hs_ => (fun e_ => (Kd.R_ne HO_6.out BK116.out (by decide)) e_) hs_)); have n4_ := q0 (blk_kept (qk BK132.out) hkp (fun hs_ => (fun e_ => (Kd.R_ne HO_6.out BK132.out (by decide)) e_) hs_)); have n5_ := q0 (hb); clear HO_4 HO_6 HO_110001 BK116 BK132 HB; have HO_4 := n0_; have HO_6 := n1_; have HO_110001 := n2_; have BK116 := n3_; have BK132 := n4_; have HB := n5_; clear n0_ n1_ n2_ n3_ n4_ n5_; (try clear hb); (try clear hkp); (try clear hy0)) | ((with_reducible refine gate_callee (f := 39) rfl ?_); refine goesL_ (some 48) rfl rfl Try.func39 (by kernel_rfl) rfl #[.slice Ao32 t138.length co32, .int .i64 1] rfl (by (try simp only [List.map_toArray, List.map_cons, List.map_nil]); first | done | (rw [show t138.length = t110.length from (Kd.R_reads' HO_6.out).1.symm] <;> rfl) | rfl | (simp only [List.length_drop, List.length_take]; rfl)) ?_; (with_reducible refine (laws_heldIntS.calls kj16 _ _ t138 1 t102 _ ?side1 ?side2 A44.out).mono ?_); (case side1 => exact qc (Kd.R_reads' HO_6.out).2.2); (case side2 => rw [show t138.length = t110.length from (Kd.R_reads' HO_6.out).1.symm]; exact (Kd.R_reads' HO_6.out).2.1); rintro e w' ⟨rfl, ⟨nd, rfl⟩⟩; refine ⟨_, rfl, ?_⟩))
   go_ret
   exact ⟨qe, qb HB.out⟩
 rw [if_neg c45] at H
 have c45b0 : decide (t102 < 0) = false := decide_eq_false c45
 clear c45
 by_cases c47 : t102 = t101
 rotate_left
 · rw [if_neg c47] at H
   have c47b0 : (t102 == t101) = false := beq_eq_false_iff_ne.mpr c47
   have c47b1 : (t102 != t101) = true := bne_iff_ne.mpr c47
   obtain rfl := Option.some.inj H
   go_wp2_with (first | ((with_reducible refine gate_callee (f := 38) rfl ?_); refine goesL_ (some 45) rfl rfl Try.func38 (by kernel_rfl) rfl #[.slice Ao32 t110.length co32, .int .i64 1] rfl qm ?_; (with_reducible refine (laws_markIntS.calls kj16 (fun k_ => some k_ = (.slice Ao32 t110.length co32 : Value).ownBlock) (.slice Ao32 t110.length co32) t110 1 t101 t138 w _ ?side1 ?side2 A43.out).mono ?_); (case side1 => exact qb HB.out); (case side2 => exact Kd.R_tight rfl HO_6.out); rintro e w83 ⟨rfl, hy0, hb, hkp⟩; refine ⟨_, rfl, ?_⟩; have n0_ := q0 (Kd.R_mono (ok' := fun k_ => some k_ ≠ (.slice Ao32 t110.length co32 : Value).ownBlock) (Kd.R_keptB (HO_4.out) hkp (fun k_ hk_ hs_ => by first | exact (hk_) hs_ | grind)) (fun k_ hk_ => by first | exact hk_.1 | grind)); have n1_ := q0 (Kd.R_reok rfl hy0 (fun k_ e_ => HO_6.out.1 k_ e_)); have n2_ := q0 (Kd.R_mono (ok' := fun k_ => True) (Kd.R_keptB ((Kd.R_apart' HO_110001.out (Kd.R_typed HO_6.out) (by decide))) hkp (fun k_ hk_ hs_ => by first | exact (hk_.2) hs_ | grind)) (fun k_ hk_ => trivial)); have n3_ := q0 (blk_kept (qk BK116.out) hkp (fun hs_ => (fun e_ => (Kd.R_ne HO_6.out BK116.out (by decide)) e_) hs_)); have n4_ := q0 (blk_kept (qk BK132.out) hkp (fun hs_ => (fun e_ => (Kd.R_ne HO_6.out BK132.out (by decide)) e_) hs_)); have n5_ := q0 (hb); clear HO_4 HO_6 HO_110001 BK116 BK132 HB; have HO_4 := n0_; have HO_6 := n1_; have HO_110001 := n2_; have BK116 := n3_; have BK132 := n4_; have HB := n5_; clear n0_ n1_ n2_ n3_ n4_ n5_; (try clear hb); (try clear hkp); (try clear hy0)) | ((with_reducible refine gate_callee (f := 39) rfl ?_); refine goesL_ (some 48) rfl rfl Try.func39 (by kernel_rfl) rfl #[.slice Ao32 t138.length co32, .int .i64 1] rfl (by (try simp only [List.map_toArray, List.map_cons, List.map_nil]); first | done | (rw [show t138.length = t110.length from (Kd.R_reads' HO_6.out).1.symm] <;> rfl) | rfl | (simp only [List.length_drop, List.length_take]; rfl)) ?_; (with_reducible refine (laws_heldIntS.calls kj16 _ _ t138 1 t102 _ ?side1 ?side2 A44.out).mono ?_); (case side1 => exact qc (Kd.R_reads' HO_6.out).2.2); (case side2 => rw [show t138.length = t110.length from (Kd.R_reads' HO_6.out).1.symm]; exact (Kd.R_reads' HO_6.out).2.1); rintro e w' ⟨rfl, ⟨nd, rfl⟩⟩; refine ⟨_, rfl, ?_⟩))
   go_ret
   exact ⟨qe, qb HB.out⟩
 rw [if_pos c47] at H
 have c47b0 : (t102 == t101) = true := beq_iff_eq.mpr c47
 have c47b1 : (t102 != t101) = false := bne_eq_false_iff_eq.mpr c47
 clear c47
 replace H := Option.bind_eq_some_iff.mp H
 obtain ⟨⟨t103, t141⟩, A142, H⟩ := H
 replace H : ((impl_BridgeParts.f kj16 t103 t141).bind fun t104 => ((laws_eqIntS.f kj16 t104 t108).bind fun t105 => (if t105 = true then ((laws_heldIntS.f kj16 t138 1).bind fun t106 => (if t106 < 0 then (some false) else (if t106 = t101 then (some true) else (some false)))) else (some false)))) = some r := H
 have A48 := Aside0.mk A142
 clear A142
 replace H := Option.bind_eq_some_iff.mp H
 obtain ⟨t104, A143, H⟩ := H
 replace H : ((laws_eqIntS.f kj16 t104 t108).bind fun t105 => (if t105 = true then ((laws_heldIntS.f kj16 t138 1).bind fun t106 => (if t106 < 0 then (some false) else (if t106 = t101 then (some true) else (some false)))) else (some false))) = some r := H
 have A49 := Aside0.mk A143
 clear A143
 replace H := Option.bind_eq_some_iff.mp H
 obtain ⟨t105, A144, H⟩ := H
 replace H : (if t105 = true then ((laws_heldIntS.f kj16 t138 1).bind fun t106 => (if t106 < 0 then (some false) else (if t106 = t101 then (some true) else (some false)))) else (some false)) = some r := H
 have A50 := Aside0.mk A144
 clear A144
 by_cases c51 : t105 = true
 rotate_left
 · replace c51 := Bool.eq_false_iff.mpr c51
   subst c51
   have H1 : (some false) = some r := by rw [if_neg (show ¬ (false = true) by decide)] at H; exact H
   clear H
   have H := H1
   clear H1
   obtain rfl := Option.some.inj H
   go_wp2_with (first | ((with_reducible refine gate_callee (f := 38) rfl ?_); refine goesL_ (some 45) rfl rfl Try.func38 (by kernel_rfl) rfl #[.slice Ao32 t110.length co32, .int .i64 1] rfl qm ?_; (with_reducible refine (laws_markIntS.calls kj16 (fun k_ => some k_ = (.slice Ao32 t110.length co32 : Value).ownBlock) (.slice Ao32 t110.length co32) t110 1 t101 t138 w _ ?side1 ?side2 A43.out).mono ?_); (case side1 => exact qb HB.out); (case side2 => exact Kd.R_tight rfl HO_6.out); rintro e w76 ⟨rfl, hy0, hb, hkp⟩; refine ⟨_, rfl, ?_⟩; have n0_ := q0 (Kd.R_mono (ok' := fun k_ => some k_ ≠ (.slice Ao32 t110.length co32 : Value).ownBlock) (Kd.R_keptB (HO_4.out) hkp (fun k_ hk_ hs_ => by first | exact (hk_) hs_ | grind)) (fun k_ hk_ => by first | exact hk_.1 | grind)); have n1_ := q0 (Kd.R_reok rfl hy0 (fun k_ e_ => HO_6.out.1 k_ e_)); have n2_ := q0 (Kd.R_mono (ok' := fun k_ => True) (Kd.R_keptB ((Kd.R_apart' HO_110001.out (Kd.R_typed HO_6.out) (by decide))) hkp (fun k_ hk_ hs_ => by first | exact (hk_.2) hs_ | grind)) (fun k_ hk_ => trivial)); have n3_ := q0 (blk_kept (qk BK116.out) hkp (fun hs_ => (fun e_ => (Kd.R_ne HO_6.out BK116.out (by decide)) e_) hs_)); have n4_ := q0 (blk_kept (qk BK132.out) hkp (fun hs_ => (fun e_ => (Kd.R_ne HO_6.out BK132.out (by decide)) e_) hs_)); have n5_ := q0 (hb); clear HO_4 HO_6 HO_110001 BK116 BK132 HB; have HO_4 := n0_; have HO_6 := n1_; have HO_110001 := n2_; have BK116 := n3_; have BK132 := n4_; have HB := n5_; clear n0_ n1_ n2_ n3_ n4_ n5_; (try clear hb); (try clear hkp); (try clear hy0)) | ((with_reducible refine gate_callee (f := 39) rfl ?_); refine goesL_ (some 48) rfl rfl Try.func39 (by kernel_rfl) rfl #[.slice Ao32 t138.length co32, .int .i64 1] rfl (by (try simp only [List.map_toArray, List.map_cons, List.map_nil]); first | done | (rw [show t138.length = t110.length from (Kd.R_reads' HO_6.out).1.symm] <;> rfl) | rfl | (simp only [List.length_drop, List.length_take]; rfl)) ?_; (with_reducible refine (laws_heldIntS.calls kj16 _ _ t138 1 t102 _ ?side1 ?side2 A44.out).mono ?_); (case side1 => exact qc (Kd.R_reads' HO_6.out).2.2); (case side2 => rw [show t138.length = t110.length from (Kd.R_reads' HO_6.out).1.symm]; exact (Kd.R_reads' HO_6.out).2.1); rintro e w' ⟨rfl, ⟨nd, rfl⟩⟩; refine ⟨_, rfl, ?_⟩; have hnb77 := NB116_132.out; have hnc77 := NB132_116.out; have hcz78_0 : w76.cell? ⟨gb116, 0, none⟩ = some (.int .i64 a0_0) := (blk_cell BK116.out 0).trans rfl; have hcz78_1 : w76.cell? ⟨gb116, 1, none⟩ = some (.slice A0_1 l0_1.length c0_1) := (blk_cell BK116.out 1).trans rfl; have hfz78_0 := blk_frozen BK116.out 0; have hfz78_1 := blk_frozen BK116.out 1) | ((with_reducible refine gate_callee (f := 15) rfl ?_); refine goesL_ (some 55) rfl rfl Try.func15 (by kernel_rfl) rfl #[.agg #[.int .i64 a0_0, .slice A0_1 l0_1.length c0_1]] rfl qm ?_; (with_reducible refine (laws_toNet.calls kj16 a0_0 _ _ l0_1 t103 t141 _ ?side1 ?side2 A48.out).mono ?_); (case side1 => exact qc (Kd.C_below HR0_1.out (qb HB.out))); (case side2 => exact HC0_1.out); rintro e w79 ⟨v146, rfl, ho0, hb⟩; refine ⟨_, rfl, ?_⟩; have n0_ := q0 (Kd.R_below (qr HO_4.out) hb); have n1_ := q0 (Kd.R_below (qr HO_6.out) hb); have n2_ := q0 (Kd.R_elder' (qr HO_110001.out) (Kd.R_base ho0) hb); have n3_ := q0 (Kd.R_lower (Kd.R_new' ho0 (Kd.R_lt (qr HO_110001.out))) (below_size (qb HB.out))); have n4_ := q0 (kb BK116.out hb); have n5_ := q0 (kb BK132.out hb); have n6_ := q0 (below_step (qb HB.out) hb); clear HO_4 HO_6 HO_110001 BK116 BK132 HB; have HO_4 := n0_; have HO_6 := n1_; have HO_110001 := n2_; have HO147 := n3_; have BK116 := n4_; have BK132 := n5_; have HB := n6_; clear n0_ n1_ n2_ n3_ n4_ n5_ n6_; (try clear hb); (try clear hb2); (try clear hk); (try clear hi); (try clear ho0); obtain ⟨Ao80, co80, eo80⟩ := Kd.R_slice HO147.out; subst eo80) | ((with_reducible refine gate_callee (f := 36) rfl ?_); refine goesL_ (some 56) rfl rfl Try.func36 (by kernel_rfl) rfl #[.agg #[.int .i64 t103, .slice Ao80 t141.length co80]] rfl qm ?_; (with_reducible refine (impl_BridgeParts.calls kj16 t103 _ _ t141 t104 _ ?side1 ?side2 A49.out).mono ?_); (case side1 => exact qc (Kd.R_reads' HO147.out).2.2); (case side2 => exact (Kd.R_reads' HO147.out).2.1); rintro e w81 ⟨v148, rfl, ho0, hb⟩; refine ⟨_, rfl, ?_⟩; have n0_ := q0 (Kd.R_elder' (qr HO_4.out) (Kd.R_base ho0) hb); have n1_ := q0 (Kd.R_elder' (qr HO_6.out) (Kd.R_base ho0) hb); have n2_ := q0 (Kd.R_below (qr HO_110001.out) hb); have n3_ := q0 (Kd.R_below (qr HO147.out) hb); have n4_ := q0 (Kd.R_lower (Kd.R_new' (Kd.R_new' ho0 (Kd.R_lt (qr HO_4.out))) (Kd.R_lt (qr HO_6.out))) (below_size (qb HB.out))); have n5_ := q0 (kb BK116.out hb); have n6_ := q0 (kb BK132.out hb); have n7_ := q0 (below_step (qb HB.out) hb); clear HO_4 HO_6 HO_110001 HO147 BK116 BK132 HB; have HO_4 := n0_; have HO_6 := n1_; have HO_110001 := n2_; have HO147 := n3_; have HO149 := n4_; have BK116 := n5_; have BK132 := n6_; have HB := n7_; clear n0_ n1_ n2_ n3_ n4_ n5_ n6_ n7_; (try clear hb); (try clear hb2); (try clear hk); (try clear hi); (try clear ho0); obtain ⟨Ao82, co82, eo82⟩ := Kd.R_slice HO149.out; subst eo82) | ((with_reducible refine gate_callee (f := 37) rfl ?_); refine goesL_ (some 59) rfl rfl Try.func37 (by kernel_rfl) rfl #[.slice Ao82 t104.length co82, .slice Ao33 t108.length co33] rfl qm ?_; (with_reducible refine (laws_eqIntS.calls kj16 _ _ t104 _ _ t108 false _ ?side1 ?side2 ?side3 ?side4 A50.out).mono ?_); (case side1 => exact qc (Kd.R_reads' HO149.out).2.2); (case side2 => exact (Kd.R_reads' HO149.out).2.1); (case side3 => exact qc (Kd.R_reads' HO_4.out).2.2); (case side4 => exact (Kd.R_reads' HO_4.out).2.1); rintro e w' ⟨rfl, ⟨nd, rfl⟩⟩; refine ⟨_, rfl, ?_⟩))
   go_ret
   exact ⟨qe, qb HB.out⟩
 subst c51
 have H1 : ((laws_heldIntS.f kj16 t138 1).bind fun t106 => (if t106 < 0 then (some false) else (if t106 = t101 then (some true) else (some false)))) = some r := by rw [if_pos rfl] at H; exact H
 clear H
 have H := H1
 clear H1
 replace H := Option.bind_eq_some_iff.mp H
 obtain ⟨t106, A145, H⟩ := H
 replace H : (if t106 < 0 then (some false) else (if t106 = t101 then (some true) else (some false))) = some r := H
 have A52 := Aside0.mk A145
 clear A145
 by_cases c53 : t106 < 0
 · rw [if_pos c53] at H
   have c53b0 : decide (t106 < 0) = true := decide_eq_true c53
   clear c53
   obtain rfl := Option.some.inj H
   go_wp2_with (first | ((with_reducible refine gate_callee (f := 38) rfl ?_); refine goesL_ (some 45) rfl rfl Try.func38 (by kernel_rfl) rfl #[.slice Ao32 t110.length co32, .int .i64 1] rfl qm ?_; (with_reducible refine (laws_markIntS.calls kj16 (fun k_ => some k_ = (.slice Ao32 t110.length co32 : Value).ownBlock) (.slice Ao32 t110.length co32) t110 1 t101 t138 w _ ?side1 ?side2 A43.out).mono ?_); (case side1 => exact qb HB.out); (case side2 => exact Kd.R_tight rfl HO_6.out); rintro e w54 ⟨rfl, hy0, hb, hkp⟩; refine ⟨_, rfl, ?_⟩; have n0_ := q0 (Kd.R_mono (ok' := fun k_ => some k_ ≠ (.slice Ao32 t110.length co32 : Value).ownBlock) (Kd.R_keptB (HO_4.out) hkp (fun k_ hk_ hs_ => by first | exact (hk_) hs_ | grind)) (fun k_ hk_ => by first | exact hk_.1 | grind)); have n1_ := q0 (Kd.R_reok rfl hy0 (fun k_ e_ => HO_6.out.1 k_ e_)); have n2_ := q0 (Kd.R_mono (ok' := fun k_ => True) (Kd.R_keptB ((Kd.R_apart' HO_110001.out (Kd.R_typed HO_6.out) (by decide))) hkp (fun k_ hk_ hs_ => by first | exact (hk_.2) hs_ | grind)) (fun k_ hk_ => trivial)); have n3_ := q0 (blk_kept (qk BK116.out) hkp (fun hs_ => (fun e_ => (Kd.R_ne HO_6.out BK116.out (by decide)) e_) hs_)); have n4_ := q0 (blk_kept (qk BK132.out) hkp (fun hs_ => (fun e_ => (Kd.R_ne HO_6.out BK132.out (by decide)) e_) hs_)); have n5_ := q0 (hb); clear HO_4 HO_6 HO_110001 BK116 BK132 HB; have HO_4 := n0_; have HO_6 := n1_; have HO_110001 := n2_; have BK116 := n3_; have BK132 := n4_; have HB := n5_; clear n0_ n1_ n2_ n3_ n4_ n5_; (try clear hb); (try clear hkp); (try clear hy0)) | ((with_reducible refine gate_callee (f := 39) rfl ?_); refine goesL_ (some 48) rfl rfl Try.func39 (by kernel_rfl) rfl #[.slice Ao32 t138.length co32, .int .i64 1] rfl (by (try simp only [List.map_toArray, List.map_cons, List.map_nil]); first | done | (rw [show t138.length = t110.length from (Kd.R_reads' HO_6.out).1.symm] <;> rfl) | rfl | (simp only [List.length_drop, List.length_take]; rfl)) ?_; (with_reducible refine (laws_heldIntS.calls kj16 _ _ t138 1 t102 _ ?side1 ?side2 A44.out).mono ?_); (case side1 => exact qc (Kd.R_reads' HO_6.out).2.2); (case side2 => rw [show t138.length = t110.length from (Kd.R_reads' HO_6.out).1.symm]; exact (Kd.R_reads' HO_6.out).2.1); rintro e w' ⟨rfl, ⟨nd, rfl⟩⟩; refine ⟨_, rfl, ?_⟩; have hnb55 := NB116_132.out; have hnc55 := NB132_116.out; have hcz56_0 : w54.cell? ⟨gb116, 0, none⟩ = some (.int .i64 a0_0) := (blk_cell BK116.out 0).trans rfl; have hcz56_1 : w54.cell? ⟨gb116, 1, none⟩ = some (.slice A0_1 l0_1.length c0_1) := (blk_cell BK116.out 1).trans rfl; have hfz56_0 := blk_frozen BK116.out 0; have hfz56_1 := blk_frozen BK116.out 1) | ((with_reducible refine gate_callee (f := 15) rfl ?_); refine goesL_ (some 55) rfl rfl Try.func15 (by kernel_rfl) rfl #[.agg #[.int .i64 a0_0, .slice A0_1 l0_1.length c0_1]] rfl qm ?_; (with_reducible refine (laws_toNet.calls kj16 a0_0 _ _ l0_1 t103 t141 _ ?side1 ?side2 A48.out).mono ?_); (case side1 => exact qc (Kd.C_below HR0_1.out (qb HB.out))); (case side2 => exact HC0_1.out); rintro e w57 ⟨v146, rfl, ho0, hb⟩; refine ⟨_, rfl, ?_⟩; have n0_ := q0 (Kd.R_below (qr HO_4.out) hb); have n1_ := q0 (Kd.R_below (qr HO_6.out) hb); have n2_ := q0 (Kd.R_elder' (qr HO_110001.out) (Kd.R_base ho0) hb); have n3_ := q0 (Kd.R_lower (Kd.R_new' ho0 (Kd.R_lt (qr HO_110001.out))) (below_size (qb HB.out))); have n4_ := q0 (kb BK116.out hb); have n5_ := q0 (kb BK132.out hb); have n6_ := q0 (below_step (qb HB.out) hb); clear HO_4 HO_6 HO_110001 BK116 BK132 HB; have HO_4 := n0_; have HO_6 := n1_; have HO_110001 := n2_; have HO147 := n3_; have BK116 := n4_; have BK132 := n5_; have HB := n6_; clear n0_ n1_ n2_ n3_ n4_ n5_ n6_; (try clear hb); (try clear hb2); (try clear hk); (try clear hi); (try clear ho0); obtain ⟨Ao58, co58, eo58⟩ := Kd.R_slice HO147.out; subst eo58) | ((with_reducible refine gate_callee (f := 36) rfl ?_); refine goesL_ (some 56) rfl rfl Try.func36 (by kernel_rfl) rfl #[.agg #[.int .i64 t103, .slice Ao58 t141.length co58]] rfl qm ?_; (with_reducible refine (impl_BridgeParts.calls kj16 t103 _ _ t141 t104 _ ?side1 ?side2 A49.out).mono ?_); (case side1 => exact qc (Kd.R_reads' HO147.out).2.2); (case side2 => exact (Kd.R_reads' HO147.out).2.1); rintro e w59 ⟨v148, rfl, ho0, hb⟩; refine ⟨_, rfl, ?_⟩; have n0_ := q0 (Kd.R_elder' (qr HO_4.out) (Kd.R_base ho0) hb); have n1_ := q0 (Kd.R_elder' (qr HO_6.out) (Kd.R_base ho0) hb); have n2_ := q0 (Kd.R_below (qr HO_110001.out) hb); have n3_ := q0 (Kd.R_below (qr HO147.out) hb); have n4_ := q0 (Kd.R_lower (Kd.R_new' (Kd.R_new' ho0 (Kd.R_lt (qr HO_4.out))) (Kd.R_lt (qr HO_6.out))) (below_size (qb HB.out))); have n5_ := q0 (kb BK116.out hb); have n6_ := q0 (kb BK132.out hb); have n7_ := q0 (below_step (qb HB.out) hb); clear HO_4 HO_6 HO_110001 HO147 BK116 BK132 HB; have HO_4 := n0_; have HO_6 := n1_; have HO_110001 := n2_; have HO147 := n3_; have HO149 := n4_; have BK116 := n5_; have BK132 := n6_; have HB := n7_; clear n0_ n1_ n2_ n3_ n4_ n5_ n6_ n7_; (try clear hb); (try clear hb2); (try clear hk); (try clear hi); (try clear ho0); obtain ⟨Ao60, co60, eo60⟩ := Kd.R_slice HO149.out; subst eo60) | ((with_reducible refine gate_callee (f := 37) rfl ?_); refine goesL_ (some 59) rfl rfl Try.func37 (by kernel_rfl) rfl #[.slice Ao60 t104.length co60, .slice Ao33 t108.length co33] rfl qm ?_; (with_reducible refine (laws_eqIntS.calls kj16 _ _ t104 _ _ t108 true _ ?side1 ?side2 ?side3 ?side4 A50.out).mono ?_); (case side1 => exact qc (Kd.R_reads' HO149.out).2.2); (case side2 => exact (Kd.R_reads' HO149.out).2.1); (case side3 => exact qc (Kd.R_reads' HO_4.out).2.2); (case side4 => exact (Kd.R_reads' HO_4.out).2.1); rintro e w' ⟨rfl, ⟨nd, rfl⟩⟩; refine ⟨_, rfl, ?_⟩) | ((with_reducible refine gate_callee (f := 39) rfl ?_); refine goesL_ (some 63) rfl rfl Try.func39 (by kernel_rfl) rfl #[.slice Ao32 t138.length co32, .int .i64 1] rfl (by (try simp only [List.map_toArray, List.map_cons, List.map_nil]); first | done | (rw [show t138.length = t110.length from (Kd.R_reads' HO_6.out).1.symm] <;> rfl) | rfl | (simp only [List.length_drop, List.length_take]; rfl)) ?_; (with_reducible refine (laws_heldIntS.calls kj16 _ _ t138 1 t106 _ ?side1 ?side2 A52.out).mono ?_); (case side1 => exact qc (Kd.R_reads' HO_6.out).2.2); (case side2 => rw [show t138.length = t110.length from (Kd.R_reads' HO_6.out).1.symm]; exact (Kd.R_reads' HO_6.out).2.1); rintro e w' ⟨rfl, ⟨nd, rfl⟩⟩; refine ⟨_, rfl, ?_⟩))
   go_ret
   exact ⟨qe, qb HB.out⟩
 rw [if_neg c53] at H
 have c53b0 : decide (t106 < 0) = false := decide_eq_false c53
 clear c53
 by_cases c61 : t106 = t101
 rotate_left
 · rw [if_neg c61] at H
   have c61b0 : (t106 == t101) = false := beq_eq_false_iff_ne.mpr c61
   have c61b1 : (t106 != t101) = true := bne_iff_ne.mpr c61
   obtain rfl := Option.some.inj H
   go_wp2_with (first | ((with_reducible refine gate_callee (f := 38) rfl ?_); refine goesL_ (some 45) rfl rfl Try.func38 (by kernel_rfl) rfl #[.slice Ao32 t110.length co32, .int .i64 1] rfl qm ?_; (with_reducible refine (laws_markIntS.calls kj16 (fun k_ => some k_ = (.slice Ao32 t110.length co32 : Value).ownBlock) (.slice Ao32 t110.length co32) t110 1 t101 t138 w _ ?side1 ?side2 A43.out).mono ?_); (case side1 => exact qb HB.out); (case side2 => exact Kd.R_tight rfl HO_6.out); rintro e w69 ⟨rfl, hy0, hb, hkp⟩; refine ⟨_, rfl, ?_⟩; have n0_ := q0 (Kd.R_mono (ok' := fun k_ => some k_ ≠ (.slice Ao32 t110.length co32 : Value).ownBlock) (Kd.R_keptB (HO_4.out) hkp (fun k_ hk_ hs_ => by first | exact (hk_) hs_ | grind)) (fun k_ hk_ => by first | exact hk_.1 | grind)); have n1_ := q0 (Kd.R_reok rfl hy0 (fun k_ e_ => HO_6.out.1 k_ e_)); have n2_ := q0 (Kd.R_mono (ok' := fun k_ => True) (Kd.R_keptB ((Kd.R_apart' HO_110001.out (Kd.R_typed HO_6.out) (by decide))) hkp (fun k_ hk_ hs_ => by first | exact (hk_.2) hs_ | grind)) (fun k_ hk_ => trivial)); have n3_ := q0 (blk_kept (qk BK116.out) hkp (fun hs_ => (fun e_ => (Kd.R_ne HO_6.out BK116.out (by decide)) e_) hs_)); have n4_ := q0 (blk_kept (qk BK132.out) hkp (fun hs_ => (fun e_ => (Kd.R_ne HO_6.out BK132.out (by decide)) e_) hs_)); have n5_ := q0 (hb); clear HO_4 HO_6 HO_110001 BK116 BK132 HB; have HO_4 := n0_; have HO_6 := n1_; have HO_110001 := n2_; have BK116 := n3_; have BK132 := n4_; have HB := n5_; clear n0_ n1_ n2_ n3_ n4_ n5_; (try clear hb); (try clear hkp); (try clear hy0)) | ((with_reducible refine gate_callee (f := 39) rfl ?_); refine goesL_ (some 48) rfl rfl Try.func39 (by kernel_rfl) rfl #[.slice Ao32 t138.length co32, .int .i64 1] rfl (by (try simp only [List.map_toArray, List.map_cons, List.map_nil]); first | done | (rw [show t138.length = t110.length from (Kd.R_reads' HO_6.out).1.symm] <;> rfl) | rfl | (simp only [List.length_drop, List.length_take]; rfl)) ?_; (with_reducible refine (laws_heldIntS.calls kj16 _ _ t138 1 t102 _ ?side1 ?side2 A44.out).mono ?_); (case side1 => exact qc (Kd.R_reads' HO_6.out).2.2); (case side2 => rw [show t138.length = t110.length from (Kd.R_reads' HO_6.out).1.symm]; exact (Kd.R_reads' HO_6.out).2.1); rintro e w' ⟨rfl, ⟨nd, rfl⟩⟩; refine ⟨_, rfl, ?_⟩; have hnb70 := NB116_132.out; have hnc70 := NB132_116.out; have hcz71_0 : w69.cell? ⟨gb116, 0, none⟩ = some (.int .i64 a0_0) := (blk_cell BK116.out 0).trans rfl; have hcz71_1 : w69.cell? ⟨gb116, 1, none⟩ = some (.slice A0_1 l0_1.length c0_1) := (blk_cell BK116.out 1).trans rfl; have hfz71_0 := blk_frozen BK116.out 0; have hfz71_1 := blk_frozen BK116.out 1) | ((with_reducible refine gate_callee (f := 15) rfl ?_); refine goesL_ (some 55) rfl rfl Try.func15 (by kernel_rfl) rfl #[.agg #[.int .i64 a0_0, .slice A0_1 l0_1.length c0_1]] rfl qm ?_; (with_reducible refine (laws_toNet.calls kj16 a0_0 _ _ l0_1 t103 t141 _ ?side1 ?side2 A48.out).mono ?_); (case side1 => exact qc (Kd.C_below HR0_1.out (qb HB.out))); (case side2 => exact HC0_1.out); rintro e w72 ⟨v146, rfl, ho0, hb⟩; refine ⟨_, rfl, ?_⟩; have n0_ := q0 (Kd.R_below (qr HO_4.out) hb); have n1_ := q0 (Kd.R_below (qr HO_6.out) hb); have n2_ := q0 (Kd.R_elder' (qr HO_110001.out) (Kd.R_base ho0) hb); have n3_ := q0 (Kd.R_lower (Kd.R_new' ho0 (Kd.R_lt (qr HO_110001.out))) (below_size (qb HB.out))); have n4_ := q0 (kb BK116.out hb); have n5_ := q0 (kb BK132.out hb); have n6_ := q0 (below_step (qb HB.out) hb); clear HO_4 HO_6 HO_110001 BK116 BK132 HB; have HO_4 := n0_; have HO_6 := n1_; have HO_110001 := n2_; have HO147 := n3_; have BK116 := n4_; have BK132 := n5_; have HB := n6_; clear n0_ n1_ n2_ n3_ n4_ n5_ n6_; (try clear hb); (try clear hb2); (try clear hk); (try clear hi); (try clear ho0); obtain ⟨Ao73, co73, eo73⟩ := Kd.R_slice HO147.out; subst eo73) | ((with_reducible refine gate_callee (f := 36) rfl ?_); refine goesL_ (some 56) rfl rfl Try.func36 (by kernel_rfl) rfl #[.agg #[.int .i64 t103, .slice Ao73 t141.length co73]] rfl qm ?_; (with_reducible refine (impl_BridgeParts.calls kj16 t103 _ _ t141 t104 _ ?side1 ?side2 A49.out).mono ?_); (case side1 => exact qc (Kd.R_reads' HO147.out).2.2); (case side2 => exact (Kd.R_reads' HO147.out).2.1); rintro e w74 ⟨v148, rfl, ho0, hb⟩; refine ⟨_, rfl, ?_⟩; have n0_ := q0 (Kd.R_elder' (qr HO_4.out) (Kd.R_base ho0) hb); have n1_ := q0 (Kd.R_elder' (qr HO_6.out) (Kd.R_base ho0) hb); have n2_ := q0 (Kd.R_below (qr HO_110001.out) hb); have n3_ := q0 (Kd.R_below (qr HO147.out) hb); have n4_ := q0 (Kd.R_lower (Kd.R_new' (Kd.R_new' ho0 (Kd.R_lt (qr HO_4.out))) (Kd.R_lt (qr HO_6.out))) (below_size (qb HB.out))); have n5_ := q0 (kb BK116.out hb); have n6_ := q0 (kb BK132.out hb); have n7_ := q0 (below_step (qb HB.out) hb); clear HO_4 HO_6 HO_110001 HO147 BK116 BK132 HB; have HO_4 := n0_; have HO_6 := n1_; have HO_110001 := n2_; have HO147 := n3_; have HO149 := n4_; have BK116 := n5_; have BK132 := n6_; have HB := n7_; clear n0_ n1_ n2_ n3_ n4_ n5_ n6_ n7_; (try clear hb); (try clear hb2); (try clear hk); (try clear hi); (try clear ho0); obtain ⟨Ao75, co75, eo75⟩ := Kd.R_slice HO149.out; subst eo75) | ((with_reducible refine gate_callee (f := 37) rfl ?_); refine goesL_ (some 59) rfl rfl Try.func37 (by kernel_rfl) rfl #[.slice Ao75 t104.length co75, .slice Ao33 t108.length co33] rfl qm ?_; (with_reducible refine (laws_eqIntS.calls kj16 _ _ t104 _ _ t108 true _ ?side1 ?side2 ?side3 ?side4 A50.out).mono ?_); (case side1 => exact qc (Kd.R_reads' HO149.out).2.2); (case side2 => exact (Kd.R_reads' HO149.out).2.1); (case side3 => exact qc (Kd.R_reads' HO_4.out).2.2); (case side4 => exact (Kd.R_reads' HO_4.out).2.1); rintro e w' ⟨rfl, ⟨nd, rfl⟩⟩; refine ⟨_, rfl, ?_⟩) | ((with_reducible refine gate_callee (f := 39) rfl ?_); refine goesL_ (some 63) rfl rfl Try.func39 (by kernel_rfl) rfl #[.slice Ao32 t138.length co32, .int .i64 1] rfl (by (try simp only [List.map_toArray, List.map_cons, List.map_nil]); first | done | (rw [show t138.length = t110.length from (Kd.R_reads' HO_6.out).1.symm] <;> rfl) | rfl | (simp only [List.length_drop, List.length_take]; rfl)) ?_; (with_reducible refine (laws_heldIntS.calls kj16 _ _ t138 1 t106 _ ?side1 ?side2 A52.out).mono ?_); (case side1 => exact qc (Kd.R_reads' HO_6.out).2.2); (case side2 => rw [show t138.length = t110.length from (Kd.R_reads' HO_6.out).1.symm]; exact (Kd.R_reads' HO_6.out).2.1); rintro e w' ⟨rfl, ⟨nd, rfl⟩⟩; refine ⟨_, rfl, ?_⟩))
   go_ret
   exact ⟨qe, qb HB.out⟩
 rw [if_pos c61] at H
 have c61b0 : (t106 == t101) = true := beq_iff_eq.mpr c61
 have c61b1 : (t106 != t101) = false := bne_eq_false_iff_eq.mpr c61
 clear c61
 obtain rfl := Option.some.inj H
 go_wp2_with (first | ((with_reducible refine gate_callee (f := 38) rfl ?_); refine goesL_ (some 45) rfl rfl Try.func38 (by kernel_rfl) rfl #[.slice Ao32 t110.length co32, .int .i64 1] rfl qm ?_; (with_reducible refine (laws_markIntS.calls kj16 (fun k_ => some k_ = (.slice Ao32 t110.length co32 : Value).ownBlock) (.slice Ao32 t110.length co32) t110 1 t101 t138 w _ ?side1 ?side2 A43.out).mono ?_); (case side1 => exact qb HB.out); (case side2 => exact Kd.R_tight rfl HO_6.out); rintro e w62 ⟨rfl, hy0, hb, hkp⟩; refine ⟨_, rfl, ?_⟩; have n0_ := q0 (Kd.R_mono (ok' := fun k_ => some k_ ≠ (.slice Ao32 t110.length co32 : Value).ownBlock) (Kd.R_keptB (HO_4.out) hkp (fun k_ hk_ hs_ => by first | exact (hk_) hs_ | grind)) (fun k_ hk_ => by first | exact hk_.1 | grind)); have n1_ := q0 (Kd.R_reok rfl hy0 (fun k_ e_ => HO_6.out.1 k_ e_)); have n2_ := q0 (Kd.R_mono (ok' := fun k_ => True) (Kd.R_keptB ((Kd.R_apart' HO_110001.out (Kd.R_typed HO_6.out) (by decide))) hkp (fun k_ hk_ hs_ => by first | exact (hk_.2) hs_ | grind)) (fun k_ hk_ => trivial)); have n3_ := q0 (blk_kept (qk BK116.out) hkp (fun hs_ => (fun e_ => (Kd.R_ne HO_6.out BK116.out (by decide)) e_) hs_)); have n4_ := q0 (blk_kept (qk BK132.out) hkp (fun hs_ => (fun e_ => (Kd.R_ne HO_6.out BK132.out (by decide)) e_) hs_)); have n5_ := q0 (hb); clear HO_4 HO_6 HO_110001 BK116 BK132 HB; have HO_4 := n0_; have HO_6 := n1_; have HO_110001 := n2_; have BK116 := n3_; have BK132 := n4_; have HB := n5_; clear n0_ n1_ n2_ n3_ n4_ n5_; (try clear hb); (try clear hkp); (try clear hy0)) | ((with_reducible refine gate_callee (f := 39) rfl ?_); refine goesL_ (some 48) rfl rfl Try.func39 (by kernel_rfl) rfl #[.slice Ao32 t138.length co32, .int .i64 1] rfl (by (try simp only [List.map_toArray, List.map_cons, List.map_nil]); first | done | (rw [show t138.length = t110.length from (Kd.R_reads' HO_6.out).1.symm] <;> rfl) | rfl | (simp only [List.length_drop, List.length_take]; rfl)) ?_; (with_reducible refine (laws_heldIntS.calls kj16 _ _ t138 1 t102 _ ?side1 ?side2 A44.out).mono ?_); (case side1 => exact qc (Kd.R_reads' HO_6.out).2.2); (case side2 => rw [show t138.length = t110.length from (Kd.R_reads' HO_6.out).1.symm]; exact (Kd.R_reads' HO_6.out).2.1); rintro e w' ⟨rfl, ⟨nd, rfl⟩⟩; refine ⟨_, rfl, ?_⟩; have hnb63 := NB116_132.out; have hnc63 := NB132_116.out; have hcz64_0 : w62.cell? ⟨gb116, 0, none⟩ = some (.int .i64 a0_0) := (blk_cell BK116.out 0).trans rfl; have hcz64_1 : w62.cell? ⟨gb116, 1, none⟩ = some (.slice A0_1 l0_1.length c0_1) := (blk_cell BK116.out 1).trans rfl; have hfz64_0 := blk_frozen BK116.out 0; have hfz64_1 := blk_frozen BK116.out 1) | ((with_reducible refine gate_callee (f := 15) rfl ?_); refine goesL_ (some 55) rfl rfl Try.func15 (by kernel_rfl) rfl #[.agg #[.int .i64 a0_0, .slice A0_1 l0_1.length c0_1]] rfl qm ?_; (with_reducible refine (laws_toNet.calls kj16 a0_0 _ _ l0_1 t103 t141 _ ?side1 ?side2 A48.out).mono ?_); (case side1 => exact qc (Kd.C_below HR0_1.out (qb HB.out))); (case side2 => exact HC0_1.out); rintro e w65 ⟨v146, rfl, ho0, hb⟩; refine ⟨_, rfl, ?_⟩; have n0_ := q0 (Kd.R_below (qr HO_4.out) hb); have n1_ := q0 (Kd.R_below (qr HO_6.out) hb); have n2_ := q0 (Kd.R_elder' (qr HO_110001.out) (Kd.R_base ho0) hb); have n3_ := q0 (Kd.R_lower (Kd.R_new' ho0 (Kd.R_lt (qr HO_110001.out))) (below_size (qb HB.out))); have n4_ := q0 (kb BK116.out hb); have n5_ := q0 (kb BK132.out hb); have n6_ := q0 (below_step (qb HB.out) hb); clear HO_4 HO_6 HO_110001 BK116 BK132 HB; have HO_4 := n0_; have HO_6 := n1_; have HO_110001 := n2_; have HO147 := n3_; have BK116 := n4_; have BK132 := n5_; have HB := n6_; clear n0_ n1_ n2_ n3_ n4_ n5_ n6_; (try clear hb); (try clear hb2); (try clear hk); (try clear hi); (try clear ho0); obtain ⟨Ao66, co66, eo66⟩ := Kd.R_slice HO147.out; subst eo66) | ((with_reducible refine gate_callee (f := 36) rfl ?_); refine goesL_ (some 56) rfl rfl Try.func36 (by kernel_rfl) rfl #[.agg #[.int .i64 t103, .slice Ao66 t141.length co66]] rfl qm ?_; (with_reducible refine (impl_BridgeParts.calls kj16 t103 _ _ t141 t104 _ ?side1 ?side2 A49.out).mono ?_); (case side1 => exact qc (Kd.R_reads' HO147.out).2.2); (case side2 => exact (Kd.R_reads' HO147.out).2.1); rintro e w67 ⟨v148, rfl, ho0, hb⟩; refine ⟨_, rfl, ?_⟩; have n0_ := q0 (Kd.R_elder' (qr HO_4.out) (Kd.R_base ho0) hb); have n1_ := q0 (Kd.R_elder' (qr HO_6.out) (Kd.R_base ho0) hb); have n2_ := q0 (Kd.R_below (qr HO_110001.out) hb); have n3_ := q0 (Kd.R_below (qr HO147.out) hb); have n4_ := q0 (Kd.R_lower (Kd.R_new' (Kd.R_new' ho0 (Kd.R_lt (qr HO_4.out))) (Kd.R_lt (qr HO_6.out))) (below_size (qb HB.out))); have n5_ := q0 (kb BK116.out hb); have n6_ := q0 (kb BK132.out hb); have n7_ := q0 (below_step (qb HB.out) hb); clear HO_4 HO_6 HO_110001 HO147 BK116 BK132 HB; have HO_4 := n0_; have HO_6 := n1_; have HO_110001 := n2_; have HO147 := n3_; have HO149 := n4_; have BK116 := n5_; have BK132 := n6_; have HB := n7_; clear n0_ n1_ n2_ n3_ n4_ n5_ n6_ n7_; (try clear hb); (try clear hb2); (try clear hk); (try clear hi); (try clear ho0); obtain ⟨Ao68, co68, eo68⟩ := Kd.R_slice HO149.out; subst eo68) | ((with_reducible refine gate_callee (f := 37) rfl ?_); refine goesL_ (some 59) rfl rfl Try.func37 (by kernel_rfl) rfl #[.slice Ao68 t104.length co68, .slice Ao33 t108.length co33] rfl qm ?_; (with_reducible refine (laws_eqIntS.calls kj16 _ _ t104 _ _ t108 true _ ?side1 ?side2 ?side3 ?side4 A50.out).mono ?_); (case side1 => exact qc (Kd.R_reads' HO149.out).2.2); (case side2 => exact (Kd.R_reads' HO149.out).2.1); (case side3 => exact qc (Kd.R_reads' HO_4.out).2.2); (case side4 => exact (Kd.R_reads' HO_4.out).2.1); rintro e w' ⟨rfl, ⟨nd, rfl⟩⟩; refine ⟨_, rfl, ?_⟩) | ((with_reducible refine gate_callee (f := 39) rfl ?_); refine goesL_ (some 63) rfl rfl Try.func39 (by kernel_rfl) rfl #[.slice Ao32 t138.length co32, .int .i64 1] rfl (by (try simp only [List.map_toArray, List.map_cons, List.map_nil]); first | done | (rw [show t138.length = t110.length from (Kd.R_reads' HO_6.out).1.symm] <;> rfl) | rfl | (simp only [List.length_drop, List.length_take]; rfl)) ?_; (with_reducible refine (laws_heldIntS.calls kj16 _ _ t138 1 t106 _ ?side1 ?side2 A52.out).mono ?_); (case side1 => exact qc (Kd.R_reads' HO_6.out).2.2); (case side2 => rw [show t138.length = t110.length from (Kd.R_reads' HO_6.out).1.symm]; exact (Kd.R_reads' HO_6.out).2.1); rintro e w' ⟨rfl, ⟨nd, rfl⟩⟩; refine ⟨_, rfl, ?_⟩))
 go_ret
 exact ⟨qe, qb HB.out⟩

end Go.Proofs.Ytheoebelhgbejab.P
