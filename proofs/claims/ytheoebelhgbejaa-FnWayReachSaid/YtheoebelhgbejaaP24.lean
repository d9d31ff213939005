import Derived.Test.YtheoebelhgbejaaP0
import Derived.Test.YtheoebelhgbejaaP5
import Derived.Test.YtheoebelhgbejaaP12
import Derived.Test.YtheoebelhgbejaaP19
namespace Go.Proofs.Ytheoebelhgbejaa.P
open Go.RowKit Go.Proofs.YtheoebelhgbejaaW.PrintWords Go.Proofs.YtheoebelhgbejaaW.PrintLast Go.Proofs.YtheoebelhgbejaaW.PrintMore
attribute [local go_sem] max2_int min2_int max_two min_two max_three min_three max_four min_four
set_option linter.unusedVariables false
set_option linter.unusedSimpArgs false
attribute [local go_sem high] eqATie
def laws_FnWayReach.T11 : Bool × List (List Nat × List Nat) := (true, [([], []), ([], []), ([0, 1], [0, 1]), ([], []), ([2, 3], [2, 3]), ([4], [4]), ([], []), ([], []), ([6, 7], [6, 7]), ([8], [8]), ([5, 9], [5, 9])])
def laws_FnWayReach.B11 : List Nat := [0, 0, 3, 0, 15, 31, 0, 0, 192, 448, 1023]
theorem laws_FnWayReach.tab11 : rtab .any (opsOf Try.f5 11) = laws_FnWayReach.T11 := by kernel_rfl
theorem laws_FnWayReach.bits11 : waitsOk laws_FnWayReach.T11.2 laws_FnWayReach.B11 = true := by kernel_rfl
set_option maxHeartbeats 8000000 in
set_option maxRecDepth 100000 in
theorem laws_FnWayReach.calls (k : Nat) (A0 : Option Addr) (c0 : Nat) (l0 : List Int) (r : Bool) (w : World) (hr0 : Kd.C (Kd.int .u8) w A0 l0.length l0) (hc0 : l0.length ≤ c0) (h : laws_FnWayReach.f k l0 = some r) :
    Calls Try.prog 5 #[.slice A0 l0.length c0] w fun e w' => e = .returned (.bool r) ∧ Below w.heap.size w w' := by
 have hu30 := Try.underlying30
 have HR0 := Aside0.mk hr0
 have HC0 := Aside0.mk hc0
 clear hr0 hc0
 have HB := q0 (Below.refl w.heap.size w)
 have H : (if (l0.length : Int) > 1048576 then (some true) else ((spec_DrawWayReach.f k l0).bind fun bt103 => ((spec_WayReach.f k bt103.1 bt103.2.1 bt103.2.2).bind fun t100 => ((impl_WayReach.f k bt103.1 bt103.2.1 bt103.2.2).bind fun t104 => ((laws_loBools.f k t104 t100).bind fun t105 => (if t105 = true then (laws_FnWayReach.j0 k bt103.2.2 t100 t104 ((t104.length : Int) == 0) bt103.1 bt103.2.1) else (laws_FnWayReach.j0 k bt103.2.2 t100 t104 true bt103.1 bt103.2.1))))))) = some r := h
 clear h
 by_cases c2 : (l0.length : Int) > 1048576
 · rw [if_pos c2] at H
   have c2b0 : decide (1048576 < (l0.length : Int)) = true := decide_eq_true c2
   have c2b1 : decide (1048576 < l0.length) = true := decide_eq_true (by omega)
   clear c2
   obtain rfl := Option.some.inj H
   go_enter Try.func5, Try.ntmps5
   go_wp2
   go_ret
   exact ⟨qe, qb HB.out⟩
 rw [if_neg c2] at H
 have c2b0 : decide (1048576 < (l0.length : Int)) = false := decide_eq_false c2
 have c2b1 : decide (1048576 < l0.length) = false := decide_eq_false (by omega)
 clear c2
 replace H := Option.bind_eq_some_iff.mp H
 obtain ⟨⟨t103, t106, t107⟩, A30, H⟩ := H
 replace H : ((spec_WayReach.f k t103 t106 t107).bind fun t100 => ((impl_WayReach.f k t103 t106 t107).bind fun t104 => ((laws_loBools.f k t104 t100).bind fun t105 => (if t105 = true then (laws_FnWayReach.j0 k t107 t100 t104 ((t104.length : Int) == 0) t103 t106) else (laws_FnWayReach.j0 k t107 t100 t104 true t103 t106))))) = some r := H
 have A3 := Aside0.mk A30
 clear A30
 replace H := Option.bind_eq_some_iff.mp H
 obtain ⟨t100, A40, H⟩ := H
 replace H : ((impl_WayReach.f k t103 t106 t107).bind fun t104 => ((laws_loBools.f k t104 t100).bind fun t105 => (if t105 = true then (laws_FnWayReach.j0 k t107 t100 t104 ((t104.length : Int) == 0) t103 t106) else (laws_FnWayReach.j0 k t107 t100 t104 true t103 t106)))) = some r := H
 have A4 := Aside0.mk A40
 clear A40
 replace H := Option.bind_eq_some_iff.mp H
 obtain ⟨t104, A50, H⟩ := H
 replace H : ((laws_loBools.f k t104 t100).bind fun t105 => (if t105 = true then (laws_FnWayReach.j0 k t107 t100 t104 ((t104.length : Int) == 0) t103 t106) else (laws_FnWayReach.j0 k t107 t100 t104 true t103 t106))) = some r := H
 have A5 := Aside0.mk A50
 clear A50
 have HC6 := Aside0.mk H
 clear H
 go_enter Try.func5, Try.ntmps5
 go_upto_region 6 with (first | ((with_reducible refine gate_callee (f := 22) rfl ?_); refine goesL_ (some 13) rfl rfl Try.func22 (by kernel_rfl) rfl #[.slice A0 l0.length c0] rfl qm ?_; (with_reducible refine (spec_DrawWayReach.calls k _ _ l0 t103 t106 t107 _ ?side1 ?side2 A3.out).mono ?_); (case side1 => repeat (first | exact HR0.out | (with_reducible refine Kd.C_alloc ?_ _) | (with_reducible refine Kd.C_drewN ?_ _) | (with_reducible refine Kd.C_drew ?_))); (case side2 => exact HC0.out); rintro e w7 ⟨v108, rfl, ho0, hb⟩; refine ⟨_, rfl, ?_⟩; have n0_ := q0 (Kd.R_lower ho0 (below_size (qb HB.out))); have n1_ := q0 (below_step (qb HB.out) hb); clear HB; have HO109 := n0_; have HB := n1_; clear n0_ n1_; (try clear hb); (try clear hb2); (try clear hk); (try clear hi); (try clear ho0)) | ((with_reducible refine gate_dst (N := 3) rfl ?_); (try (refine gate_guard (by rfl) ?_; dsimp only)); refine be 3 #[.int .i64 0, .slice none 0 0] 30 ?_; intro gb110 hg w8 hbox hb; have n0_ := q0 (Kd.R_below (qr HO109.out) hb); have n1_ := q0 (below_step (qb HB.out) hb); have n2_ := q0 (hbox); have n3_ := q0 ((bs HB.out hg : w.heap.size ≤ gb110)); have n4_ := q0 ((bs HB.out hg : w.heap.size ≤ gb110)); clear HO109 HB; have HO109 := n0_; have HB := n1_; have BK110 := n2_; have GW110 := n3_; have GE110 := n4_; clear n0_ n1_ n2_ n3_ n4_ hb hbox hg; have hcz9_0 : w8.cell? ⟨gb110, 0, none⟩ = some (.int .i64 0) := (blk_cell BK110.out 0).trans rfl; have hcz9_1 : w8.cell? ⟨gb110, 1, none⟩ = some (.slice none 0 0) := (blk_cell BK110.out 1).trans rfl; have hfz9_0 := blk_frozen BK110.out 0; have hfz9_1 := blk_frozen BK110.out 1; obtain ⟨Ao10, co10, eo10⟩ := Kd.R_slice HO109.out; subst eo10) | ((with_reducible refine gate_callee (f := 23) rfl ?_); refine goesL_ (some 18) rfl rfl Try.func23 (by kernel_rfl) rfl #[.agg #[.int .i64 t103, .slice Ao10 t106.length co10], .int .i64 t107] rfl qm ?_; (with_reducible refine (spec_WayReach.calls k t103 _ _ t106 t107 t100 _ ?side1 ?side2 A4.out).mono ?_); (case side1 => refine (Kd.R_reads' (e := 44) (base := w.heap.size) (ok := fun k_ => True) (n := t106.length) (c := co10) ?_).2.2; exact (by (with_reducible repeat (first | apply Kd.R_alloc | apply Kd.R_drewN | apply Kd.R_drew)); exact (Kd.R_mono (Kd.R_far (p := ⟨gb110, 1, none⟩) (Kd.R_far (p := ⟨gb110, 0, none⟩) (Kd.R_types HO109.out BK110.out (by decide)) (fun _ hk => hk.2) (.int .i64 t103)) (fun _ hk => hk.2) (.slice Ao10 t106.length co10)) (fun _ h_ => h_.1)))); (case side2 => exact (Kd.R_reads' HO109.out).2.1); rintro e w11 ⟨v111, rfl, ho0, hb⟩; refine ⟨_, rfl, ?_⟩; have n0_ := q0 (Kd.R_below (by (with_reducible repeat (first | apply Kd.R_alloc | apply Kd.R_drewN | apply Kd.R_drew)); exact (Kd.R_mono (Kd.R_far (p := ⟨gb110, 1, none⟩) (Kd.R_far (p := ⟨gb110, 0, none⟩) (Kd.R_types HO109.out BK110.out (by decide)) (fun _ hk => hk.2) (.int .i64 t103)) (fun _ hk => hk.2) (.slice Ao10 t106.length co10)) (fun _ h_ => h_.1))) hb); have n1_ := q0 (Kd.R_lower ho0 (below_size (qb HB.out))); have n2_ := q0 (blk_below (g := gb110) (o := .cells #[.int .i64 t103, .slice Ao10 t106.length co10] 30 (0, 0)) (by (with_reducible repeat (first | refine blk_drewN ?_ _ | refine blk_drew ?_ | refine blk_alloc ?_ _)); refine blk_put (cs := #[.int .i64 t103, .slice none 0 0]) ?_ 1 _ rfl; (with_reducible repeat (first | refine blk_drewN ?_ _ | refine blk_drew ?_ | refine blk_alloc ?_ _)); refine blk_put (cs := #[.int .i64 0, .slice none 0 0]) ?_ 0 _ rfl; (with_reducible repeat (first | refine blk_drewN ?_ _ | refine blk_drew ?_ | refine blk_alloc ?_ _)); exact BK110.out) hb); have n3_ := q0 (below_step (qb HB.out) hb); clear HO109 BK110 HB; have HO109 := n0_; have HO112 := n1_; have BK110 := n2_; have HB := n3_; clear n0_ n1_ n2_ n3_; (try clear hb); (try clear hb2); (try clear hk); (try clear hi); (try clear ho0); have hcz12_0 : w11.cell? ⟨gb110, 0, none⟩ = some (.int .i64 t103) := (blk_cell BK110.out 0).trans rfl; have hcz12_1 : w11.cell? ⟨gb110, 1, none⟩ = some (.slice Ao10 t106.length co10) := (blk_cell BK110.out 1).trans rfl; have hfz12_0 := blk_frozen BK110.out 0; have hfz12_1 := blk_frozen BK110.out 1) | ((with_reducible refine gate_callee (f := 24) rfl ?_); refine goesL_ (some 21) rfl rfl Try.func24 (by kernel_rfl) rfl #[.agg #[.int .i64 t103, .slice Ao10 t106.length co10], .int .i64 t107] rfl qm ?_; (with_reducible refine (impl_WayReach.calls k t103 _ _ t106 t107 t104 _ ?side1 ?side2 A5.out).mono ?_); (case side1 => exact qc (Kd.R_reads' HO109.out).2.2); (case side2 => exact (Kd.R_reads' HO109.out).2.1); rintro e w13 ⟨v113, rfl, ho0, hb⟩; refine ⟨_, rfl, ?_⟩; have n0_ := q0 (Kd.R_below (qr HO109.out) hb); have n1_ := q0 (Kd.R_elder' (qr HO112.out) (Kd.R_base ho0) hb); have n2_ := q0 (Kd.R_lower (Kd.R_new' ho0 (Kd.R_lt (qr HO112.out))) (below_size (qb HB.out))); have n3_ := q0 (kb BK110.out hb); have n4_ := q0 (below_step (qb HB.out) hb); clear HO109 HO112 BK110 HB; have HO109 := n0_; have HO112 := n1_; have HO114 := n2_; have BK110 := n3_; have HB := n4_; clear n0_ n1_ n2_ n3_ n4_; (try clear hb); (try clear hb2); (try clear hk); (try clear hi); (try clear ho0)))
 (try simp only [Act.put, List.setIfInBounds_toArray, List.set_cons_zero, List.set_cons_succ])
 go_cut [30] (fun v30 wc => ∃ (kq : Nat) (x30_5 : Bool), v30 = .bool x30_5 ∧ Aside0 (laws_FnWayReach.j0 kq t107 t100 t104 x30_5 t103 t106 = some r) ∧ Aside0 (kq ≤ k) ∧ Aside0 (Kd.R Kd.bool 4 wc w.heap.size (fun k_ => some k_ ≠ (v113 : Value).ownBlock) v111 t100) ∧ Aside0 (Kd.R Kd.bool 4 wc w.heap.size (fun k_ => some k_ ≠ (v111 : Value).ownBlock) v113 t104) ∧ Aside0 (Kd.R kTie 44 wc w.heap.size (fun _ => True) (.slice Ao10 t106.length co10) t106) ∧ Aside0 (wc.heap[gb110]? = some (.cells #[.int .i64 t103, (.slice Ao10 t106.length co10)] 30 (0, 0))) ∧ Aside0 (Below w.heap.size w wc))
 case first =>
   have H := HC6.out
   clear HC6
   replace H := Option.bind_eq_some_iff.mp H
   obtain ⟨t105, A115, H⟩ := H
   replace H : (if t105 = true then (laws_FnWayReach.j0 k t107 t100 t104 ((t104.length : Int) == 0) t103 t106) else (laws_FnWayReach.j0 k t107 t100 t104 true t103 t106)) = some r := H
   have A14 := Aside0.mk A115
   clear A115
   by_cases c15 : t105 = true
   · subst c15
     have H1 : (laws_FnWayReach.j0 k t107 t100 t104 ((t104.length : Int) == 0) t103 t106) = some r := by rw [if_pos rfl] at H; exact H
     clear H
     have H := H1
     clear H1
     have H' := Aside0.mk H
     clear H
     obtain ⟨Ao16, co16, eo16⟩ := Kd.R_slice HO114.out
     subst eo16
     obtain ⟨Ao17, co17, eo17⟩ := Kd.R_slice HO112.out
     subst eo17
     go_wp2_with (first | ((with_reducible refine gate_callee (f := 25) rfl ?_); refine goesL_ (some 24) rfl rfl Try.func25 (by kernel_rfl) rfl #[.slice Ao16 t104.length co16, .slice Ao17 t100.length co17] rfl qm ?_; (with_reducible refine (laws_loBools.calls k _ _ t104 _ _ t100 true _ ?side1 ?side2 ?side3 ?side4 A14.out).mono ?_); (case side1 => exact qc (Kd.R_reads' HO114.out).2.2); (case side2 => exact (Kd.R_reads' HO114.out).2.1); (case side3 => exact qc (Kd.R_reads' HO112.out).2.2); (case side4 => exact (Kd.R_reads' HO112.out).2.1); rintro e w' ⟨rfl, ⟨nd, rfl⟩⟩; refine ⟨_, rfl, ?_⟩))
     go_meet
     case rel => exact ⟨_, (((t104.length : Int) == 0)), qs, H', ⟨by first | omega | exact Nat.le_refl _⟩, ⟨by (with_reducible repeat (first | apply Kd.R_alloc | apply Kd.R_drewN | apply Kd.R_drew)); exact Kd.R_mono HO112.out (fun _ hk => hk.2)⟩, ⟨by (with_reducible repeat (first | apply Kd.R_alloc | apply Kd.R_drewN | apply Kd.R_drew)); exact Kd.R_mono HO114.out (fun _ hk => hk.2)⟩, ⟨qr HO109.out⟩, ⟨qk BK110.out⟩, ⟨qb HB.out⟩⟩
   replace c15 := Bool.eq_false_iff.mpr c15
   subst c15
   have H1 : (laws_FnWayReach.j0 k t107 t100 t104 true t103 t106) = some r := by rw [if_neg (show ¬ (false = true) by decide)] at H; exact H
   clear H
   have H := H1
   clear H1
   have H' := Aside0.mk H
   clear H
   obtain ⟨Ao18, co18, eo18⟩ := Kd.R_slice HO114.out
   subst eo18
   obtain ⟨Ao19, co19, eo19⟩ := Kd.R_slice HO112.out
   subst eo19
   go_wp2_with (first | ((with_reducible refine gate_callee (f := 25) rfl ?_); refine goesL_ (some 24) rfl rfl Try.func25 (by kernel_rfl) rfl #[.slice Ao18 t104.length co18, .slice Ao19 t100.length co19] rfl qm ?_; (with_reducible refine (laws_loBools.calls k _ _ t104 _ _ t100 false _ ?side1 ?side2 ?side3 ?side4 A14.out).mono ?_); (case side1 => exact qc (Kd.R_reads' HO114.out).2.2); (case side2 => exact (Kd.R_reads' HO114.out).2.1); (case side3 => exact qc (Kd.R_reads' HO112.out).2.2); (case side4 => exact (Kd.R_reads' HO112.out).2.1); rintro e w' ⟨rfl, ⟨nd, rfl⟩⟩; refine ⟨_, rfl, ?_⟩))
   go_meet
   case rel => exact ⟨_, (true), qs, H', ⟨by first | omega | exact Nat.le_refl _⟩, ⟨by (with_reducible repeat (first | apply Kd.R_alloc | apply Kd.R_drewN | apply Kd.R_drew)); exact Kd.R_mono HO112.out (fun _ hk => hk.2)⟩, ⟨by (with_reducible repeat (first | apply Kd.R_alloc | apply Kd.R_drewN | apply Kd.R_drew)); exact Kd.R_mono HO114.out (fun _ hk => hk.2)⟩, ⟨qr HO109.out⟩, ⟨qk BK110.out⟩, ⟨qb HB.out⟩⟩
 clear HC6
 try clear c1
 try clear c2
 try clear c2b0
 try clear c2b1
 try clear p2
 try clear c5
 try clear c15
 try clear hcz12_0
 try clear hcz12_1
 try clear hcz9_0
 try clear hcz9_1
 try clear hfz12_0
 try clear hfz12_1
 try clear hfz9_0
 try clear hfz9_1
 obtain ⟨kq, x30_5, rfl, HA, HJ5, HO_5, HO_6, HO_100001, BK110, HB⟩ := hcut
 rcases kq with _ | kj5
 · exact absurd HA.out (by simp [laws_FnWayReach.j0])
 have H := HA.out
 clear HA
 simp only [laws_FnWayReach.j0] at H
 by_cases c20 : x30_5 = true
 · subst c20
   have H1 : ((laws_loBools.f kj5 t104 t100).bind fun t101 => (some t101)) = some r := by rw [if_pos rfl] at H; exact H
   clear H
   have H := H1
   clear H1
   replace H := Option.bind_eq_some_iff.mp H
   obtain ⟨t101, A116, H⟩ := H
   replace H : (some t101) = some r := H
   have A21 := Aside0.mk A116
   clear A116
   obtain rfl := Option.some.inj H
   obtain ⟨Ao22, co22, eo22⟩ := Kd.R_slice HO_6.out
   subst eo22
   obtain ⟨Ao23, co23, eo23⟩ := Kd.R_slice HO_5.out
   subst eo23
   go_wp2_with (first | ((with_reducible refine gate_callee (f := 25) rfl ?_); refine goesL_ (some 33) rfl rfl Try.func25 (by kernel_rfl) rfl #[.slice Ao22 t104.length co22, .slice Ao23 t100.length co23] rfl qm ?_; (with_reducible refine (laws_loBools.calls kj5 _ _ t104 _ _ t100 t101 _ ?side1 ?side2 ?side3 ?side4 A21.out).mono ?_); (case side1 => exact qc (Kd.R_reads' HO_6.out).2.2); (case side2 => exact (Kd.R_reads' HO_6.out).2.1); (case side3 => exact qc (Kd.R_reads' HO_5.out).2.2); (case side4 => exact (Kd.R_reads' HO_5.out).2.1); rintro e w' ⟨rfl, ⟨nd, rfl⟩⟩; refine ⟨_, rfl, ?_⟩))
   go_ret
   exact ⟨qe, qb HB.out⟩
 replace c20 := Bool.eq_false_iff.mpr c20
 subst c20
 have H1 : (laws_FnWayReach.l0 kj5 t107 t104 0 t103 t106) = some r := by rw [if_neg (show ¬ (false = true) by decide)] at H; exact H
 clear H
 have H := H1
 clear H1
 have H' := Aside0.mk H
 clear H
 go_wp2
 go_loopg [7] kj5 (fun kq v7 w' => ∃ (x7_2 : Int), v7 = .int .i64 x7_2 ∧ Aside0 (laws_FnWayReach.l0 kq t107 t104 x7_2 t103 t106 = some r) ∧ Aside0 (kq ≤ kj5) ∧ Aside0 (Kd.R Kd.bool 4 w' w.heap.size (fun _ => True) v113 t104) ∧ Aside0 (Kd.R kTie 44 w' w.heap.size (fun _ => True) (.slice Ao10 t106.length co10) t106) ∧ Aside0 (w'.heap[gb110]? = some (.cells #[.int .i64 t103, (.slice Ao10 t106.length co10)] 30 (0, 0))) ∧ Aside0 (Below w.heap.size w w'))
 case atStart => exact ⟨(0), qs, H', ⟨Nat.le_refl _⟩, ⟨by (with_reducible repeat (first | apply Kd.R_alloc | apply Kd.R_drewN | apply Kd.R_drew)); exact Kd.R_mono HO_6.out (fun _ hk => trivial)⟩, ⟨qr HO_100001.out⟩, ⟨qk BK110.out⟩, ⟨qb HB.out⟩⟩
 clear H'
 try clear c1
 try clear c2
 try clear c2b0
 try clear c2b1
 try clear p2
 try clear c5
 try clear c15
 try clear c20
 try clear c22
 try clear c23
 try clear hcz12_0
 try clear hcz12_1
 try clear hcz9_0
 try clear hcz9_1
 try clear hfz12_0
 try clear hfz12_1
 try clear hfz9_0
 try clear hfz9_1
 try clear p2
 obtain ⟨x7_2, rfl, HA, HK2, HO_6, HO_100001, BK110, HB⟩ := hrel
 rcases gk with _ | k2
 · exact absurd HA.out (by simp [laws_FnWayReach.l0])
 have H := HA.out
 clear HA
 simp only [laws_FnWayReach.l0] at H
 by_cases c24 : x7_2 < (t104.length : Int)
 rotate_left
 · rw [if_neg c24] at H
   have c24b0 : decide (x7_2 < (t104.length : Int)) = false := decide_eq_false c24
   clear c24
   by_cases c38 : 0 ≤ t107
   rotate_left
   · rw [if_neg c38] at H
     exact absurd H (by simp)
   rw [if_pos c38] at H
   have c38b0 : decide (0 ≤ t107) = true := decide_eq_true c38
   clear c38
   by_cases c39 : t107 < (t104.length : Int)
   rotate_left
   · rw [if_neg c39] at H
     exact absurd H (by simp)
   rw [if_pos c39] at H
   have c39b0 : decide (t107 < (t104.length : Int)) = true := decide_eq_true c39
   clear c39
   obtain ⟨bq40, hbq40⟩ : ∃ b_ : Bool, b_ = (rdOf false t104 t107) := ⟨_, rfl⟩
   replace H : (if bq40 = true then (some ((t104.length : Int) == t103)) else (some false)) = some r := by rw [← hbq40] at H; exact H
   have Nbq40 := Aside0.mk hbq40
   clear hbq40
   by_cases c41 : bq40 = true
   rotate_left
   · replace c41 := Bool.eq_false_iff.mpr c41
     subst c41
     have H1 : (some false) = some r := by rw [if_neg (show ¬ (false = true) by decide)] at H; exact H
     clear H
     have H := H1
     clear H1
     obtain rfl := Option.some.inj H
     obtain ⟨Ao44, co44, eo44⟩ := Kd.R_slice HO_6.out
     subst eo44
     have p122 : 0 ≤ (t107 : Int) := of_decide_eq_true qa
     have q122 : t107 < (t104.length : Int) := of_decide_eq_true qa
     obtain ⟨ad122, e122, hx122_0⟩ := Kd.at_bool (Kd.R_reads' HO_6.out).2.2 t107 p122 q122
     (try rw [← Nbq40.out] at hx122_0)
     cases e122
     replace p122 := eq_true p122
     replace q122 := eq_true q122
     go_wp2
     go_ret
     exact ⟨qe, qb HB.out⟩
   subst c41
   have H1 : (some ((t104.length : Int) == t103)) = some r := by rw [if_pos rfl] at H; exact H
   clear H
   have H := H1
   clear H1
   obtain rfl := Option.some.inj H
   obtain ⟨Ao42, co42, eo42⟩ := Kd.R_slice HO_6.out
   subst eo42
   have p122 : 0 ≤ (t107 : Int) := of_decide_eq_true qa
   have q122 : t107 < (t104.length : Int) := of_decide_eq_true qa
   obtain ⟨ad122, e122, hx122_0⟩ := Kd.at_bool (Kd.R_reads' HO_6.out).2.2 t107 p122 q122
   (try rw [← Nbq40.out] at hx122_0)
   cases e122
   replace p122 := eq_true p122
   replace q122 := eq_true q122
   have hcz43_0 : wr.cell? ⟨gb110, 0, none⟩ = some (.int .i64 t103) := (blk_cell BK110.out 0).trans rfl
   have hcz43_1 : wr.cell? ⟨gb110, 1, none⟩ = some (.slice Ao10 t106.length co10) := (blk_cell BK110.out 1).trans rfl
   have hfz43_0 := blk_frozen BK110.out 0
   have hfz43_1 := blk_frozen BK110.out 1
   go_wp2
   go_ret
   exact ⟨qe, qb HB.out⟩
 rw [if_pos c24] at H
 have c24b0 : decide (x7_2 < (t104.length : Int)) = true := decide_eq_true c24
 clear c24
 replace H := Option.bind_eq_some_iff.mp H
 obtain ⟨t102, A117, H⟩ := H
 replace H : (if 0 ≤ t107 then (if t107 < (t102.length : Int) then (if 0 ≤ x7_2 then (if ((rdOf false t102 t107) != (rdOf false t104 x7_2)) = true then (some false) else (laws_FnWayReach.l0 k2 t107 t104 (wrap64 (x7_2 + 1)) t103 t106)) else (none)) else (none)) else (none)) = some r := H
 have A25 := Aside0.mk A117
 clear A117
 by_cases c26 : 0 ≤ t107
 rotate_left
 · rw [if_neg c26] at H
   exact absurd H (by simp)
 rw [if_pos c26] at H
 have c26b0 : decide (0 ≤ t107) = true := decide_eq_true c26
 clear c26
 by_cases c27 : t107 < (t102.length : Int)
 rotate_left
 · rw [if_neg c27] at H
   exact absurd H (by simp)
 rw [if_pos c27] at H
 have c27b0 : decide (t107 < (t102.length : Int)) = true := decide_eq_true c27
 clear c27
 by_cases c28 : 0 ≤ x7_2
 rotate_left
 · rw [if_neg c28] at H
   exact absurd H (by simp)
 rw [if_pos c28] at H
 have c28b0 : decide (0 ≤ x7_2) = true := decide_eq_true c28
 clear c28
 by_cases c29 : ((rdOf false t102 t107) != (rdOf false t104 x7_2)) = true
 · rw [if_pos c29] at H
   have c29b0 : ((rdOf false t102 t107) != (rdOf false t104 x7_2)) = true := c29
   (try (have c29b1 : decide ((rdOf false t102 t107) = (rdOf false t104 x7_2)) = false := by simpa using c29))
   (try (have c29b2 : ((rdOf false t102 t107) == (rdOf false t104 x7_2)) = false := by simpa using c29))
   (try (have c29b3 : ¬ ((rdOf false t102 t107) = (rdOf false t104 x7_2)) := by simpa using c29))
   clear c29
   obtain rfl := Option.some.inj H
   obtain ⟨Ao30, co30, eo30⟩ := Kd.R_slice HO_6.out
   subst eo30
   try go_wp2
   have n0_ := q0 (Kd.R_drew HO_6.out)
   have n1_ := q0 (Kd.R_drew HO_100001.out)
   have n2_ := q0 (blk_drew BK110.out)
   have n3_ := q0 (below_drew1 HB.out)
   clear HO_6
   clear HO_100001
   clear BK110
   clear HB
   have HO_6 := n0_
   have HO_100001 := n1_
   have BK110 := n2_
   have HB := n3_
   clear n0_ n1_ n2_ n3_
   have p118 : 0 ≤ (x7_2 : Int) := of_decide_eq_true qa
   have q118 : x7_2 < (t104.length : Int) := of_decide_eq_true qa
   obtain ⟨ad118, e118, hx118_0⟩ := Kd.at_bool (Kd.R_reads' HO_6.out).2.2 x7_2 p118 q118
   cases e118
   replace p118 := eq_true p118
   replace q118 := eq_true q118
   refine start_ (n := 11) (S := fun w' => w'.cell? ⟨gb110, 0, none⟩ = some (.int .i64 t103) ∧ w'.cell? ⟨gb110, 1, none⟩ = some (.slice Ao10 t106.length co10) ∧ w'.cell? (ad118.add (x7_2).toNat) = some (.bool (rdOf false t104 x7_2))) (ds := []) (ba 11 0) (by kernel_rfl) rfl (by kernel_rfl) ⟨(blk_cell BK110.out 0).trans rfl, (blk_cell BK110.out 1).trans rfl, hx118_0⟩ (fun hHeld => ?_); refine with_tabW laws_FnWayReach.tab11 laws_FnWayReach.bits11 (fun HT_ HW_ => ?_)
   generalize wr.drew = w31 at HO_6 HO_100001 BK110 HB hx118_0 hHeld ⊢
   refine pu 1 (some 41) (ba 11 2) HT_.out ?_
   refine pu 3 (some 43) (ba 11 10) HT_.out ?_
   refine pu 6 (some 46) (ba 11 74) HT_.out ?_
   refine pu 7 (some 47) (ba 11 202) HT_.out ?_
   refine pu 8 (some 48) (ba 11 458) HT_.out ?_
   refine tu 0 (some 40) (ba 11 459) HT_.out HW_.out hHeld ?_
   refine tu 9 (some 49) (ba 11 971) HT_.out HW_.out hHeld ?_
   refine one_ (i := 2) (N := some 42) (ba 11 975) rfl rfl (one_of HT_.out (by kernel_rfl)) (by decide) (fun K hK => ?_)
   refine goes_ Try.func24 (by kernel_rfl) rfl #[.agg #[.int .i64 t103, .slice Ao10 t106.length co10], .int .i64 x7_2] (by rfl) rfl rfl qm ?_
   with_reducible refine (impl_WayReach.calls k2 t103 _ _ t106 x7_2 t102 _ ?side1 ?side2 A25.out).mono ?_
   (case side1 => exact qc (Kd.R_reads' HO_100001.out).2.2)
   (case side2 => exact (Kd.R_reads' HO_100001.out).2.1)
   rintro e w32 ⟨v120, rfl, ho0, hb⟩
   have HS2_ := (hb.cell (World.block_lt_of_cell? _ _ (hHeld.2.2))).trans (hHeld.2.2)
   refine ⟨_, rfl, ?_⟩
   have n0_ := q0 (Kd.R_elder' (qr HO_6.out) (Kd.R_base ho0) hb)
   have n1_ := q0 (Kd.R_below (qr HO_100001.out) hb)
   have n2_ := q0 (Kd.R_lower (Kd.R_new' ho0 (Kd.R_lt (qr HO_6.out))) (below_size (qb HB.out)))
   have n3_ := q0 (kb BK110.out hb)
   have n4_ := q0 (below_step (qb HB.out) hb)
   clear HO_6
   clear HO_100001
   clear BK110
   clear HB
   have HO_6 := n0_
   have HO_100001 := n1_
   have HO121 := n2_
   have BK110 := n3_
   have HB := n4_
   clear n0_ n1_ n2_ n3_ n4_
   (try clear hb)
   (try clear hb2)
   (try clear hk)
   (try clear hi)
   (try clear ho0)
   obtain ⟨Ao33, co33, eo33⟩ := Kd.R_slice HO121.out
   (first | subst eo33 | (injection eo33 with f1_ f2_ f3_; have f4_ := f1_.symm; have f5_ := f3_.symm; clear f1_ f2_ f3_; subst f4_; subst f5_))
   have p119 : 0 ≤ (t107 : Int) := of_decide_eq_true qa
   have q119 : t107 < (t102.length : Int) := of_decide_eq_true qa
   obtain ⟨ad119, e119, hx119_0⟩ := Kd.at_bool (Kd.R_reads' HO121.out).2.2 t107 p119 q119
   cases e119
   replace p119 := eq_true p119
   replace q119 := eq_true q119
   refine hK.out _ _ ⟨(blk_cell BK110.out 0).trans rfl, (blk_cell BK110.out 1).trans rfl, HS2_⟩ (fun hHeld => ?_)
   clear hK K
   refine nu 42 ?_
   refine pu 4 (some 44) (ba 11 991) HT_.out ?_
   refine one_ (i := 5) (N := some 45) (ba 11 1023) rfl rfl (one_of HT_.out (by kernel_rfl)) (by decide) (fun K hK => ?_)
   refine value_ rfl rfl (by go_simp; first | with_reducible rfl | exact ⟨rfl, rfl⟩) ?_
   refine hK.out _ _ hHeld (fun hHeld => ?_)
   clear hK K
   refine nu 45 ?_
   refine pu 10 (some 50) (ba 11 2047) HT_.out ?_
   refine done_ (done_of HT_.out (by kernel_rfl)) ?_
   try go_wp2
   go_ret
   exact ⟨qe, qb HB.out⟩
 rw [if_neg c29] at H
 have c29b0 : ((rdOf false t102 t107) != (rdOf false t104 x7_2)) = false := by simpa using c29
 (try (have c29b1 : decide ((rdOf false t102 t107) = (rdOf false t104 x7_2)) = true := by simpa using c29))
 (try (have c29b2 : ((rdOf false t102 t107) == (rdOf false t104 x7_2)) = true := by simpa using c29))
 clear c29
 have H' := Aside0.mk H
 clear H
 obtain ⟨Ao34, co34, eo34⟩ := Kd.R_slice HO_6.out
 subst eo34
 try go_wp2
 have n0_ := q0 (Kd.R_drew HO_6.out)
 have n1_ := q0 (Kd.R_drew HO_100001.out)
 have n2_ := q0 (blk_drew BK110.out)
 have n3_ := q0 (below_drew1 HB.out)
 clear HO_6
 clear HO_100001
 clear BK110
 clear HB
 have HO_6 := n0_
 have HO_100001 := n1_
 have BK110 := n2_
 have HB := n3_
 clear n0_ n1_ n2_ n3_
 have p118 : 0 ≤ (x7_2 : Int) := of_decide_eq_true qa
 have q118 : x7_2 < (t104.length : Int) := of_decide_eq_true qa
 obtain ⟨ad118, e118, hx118_0⟩ := Kd.at_bool (Kd.R_reads' HO_6.out).2.2 x7_2 p118 q118
 cases e118
 replace p118 := eq_true p118
 replace q118 := eq_true q118
 refine start_ (n := 11) (S := fun w' => w'.cell? ⟨gb110, 0, none⟩ = some (.int .i64 t103) ∧ w'.cell? ⟨gb110, 1, none⟩ = some (.slice Ao10 t106.length co10) ∧ w'.cell? (ad118.add (x7_2).toNat) = some (.bool (rdOf false t104 x7_2))) (ds := []) (ba 11 0) (by kernel_rfl) rfl (by kernel_rfl) ⟨(blk_cell BK110.out 0).trans rfl, (blk_cell BK110.out 1).trans rfl, hx118_0⟩ (fun hHeld => ?_); refine with_tabW laws_FnWayReach.tab11 laws_FnWayReach.bits11 (fun HT_ HW_ => ?_)
 generalize wr.drew = w35 at HO_6 HO_100001 BK110 HB hx118_0 hHeld ⊢
 refine pu 1 (some 41) (ba 11 2) HT_.out ?_
 refine pu 3 (some 43) (ba 11 10) HT_.out ?_
 refine pu 6 (some 46) (ba 11 74) HT_.out ?_
 refine pu 7 (some 47) (ba 11 202) HT_.out ?_
 refine pu 8 (some 48) (ba 11 458) HT_.out ?_
 refine tu 0 (some 40) (ba 11 459) HT_.out HW_.out hHeld ?_
 refine tu 9 (some 49) (ba 11 971) HT_.out HW_.out hHeld ?_
 refine one_ (i := 2) (N := some 42) (ba 11 975) rfl rfl (one_of HT_.out (by kernel_rfl)) (by decide) (fun K hK => ?_)
 refine goes_ Try.func24 (by kernel_rfl) rfl #[.agg #[.int .i64 t103, .slice Ao10 t106.length co10], .int .i64 x7_2] (by rfl) rfl rfl qm ?_
 with_reducible refine (impl_WayReach.calls k2 t103 _ _ t106 x7_2 t102 _ ?side1 ?side2 A25.out).mono ?_
 (case side1 => exact qc (Kd.R_reads' HO_100001.out).2.2)
 (case side2 => exact (Kd.R_reads' HO_100001.out).2.1)
 rintro e w36 ⟨v120, rfl, ho0, hb⟩
 have HS2_ := (hb.cell (World.block_lt_of_cell? _ _ (hHeld.2.2))).trans (hHeld.2.2)
 refine ⟨_, rfl, ?_⟩
 have n0_ := q0 (Kd.R_elder' (qr HO_6.out) (Kd.R_base ho0) hb)
 have n1_ := q0 (Kd.R_below (qr HO_100001.out) hb)
 have n2_ := q0 (Kd.R_lower (Kd.R_new' ho0 (Kd.R_lt (qr HO_6.out))) (below_size (qb HB.out)))
 have n3_ := q0 (kb BK110.out hb)
 have n4_ := q0 (below_step (qb HB.out) hb)
 clear HO_6
 clear HO_100001
 clear BK110
 clear HB
 have HO_6 := n0_
 have HO_100001 := n1_
 have HO121 := n2_
 have BK110 := n3_
 have HB := n4_
 clear n0_ n1_ n2_ n3_ n4_
 (try clear hb)
 (try clear hb2)
 (try clear hk)
 (try clear hi)
 (try clear ho0)
 obtain ⟨Ao37, co37, eo37⟩ := Kd.R_slice HO121.out
 (first | subst eo37 | (injection eo37 with f1_ f2_ f3_; have f4_ := f1_.symm; have f5_ := f3_.symm; clear f1_ f2_ f3_; subst f4_; subst f5_))
 have p119 : 0 ≤ (t107 : Int) := of_decide_eq_true qa
 have q119 : t107 < (t102.length : Int) := of_decide_eq_true qa
 obtain ⟨ad119, e119, hx119_0⟩ := Kd.at_bool (Kd.R_reads' HO121.out).2.2 t107 p119 q119
 cases e119
 replace p119 := eq_true p119
 replace q119 := eq_true q119
 refine hK.out _ _ ⟨(blk_cell BK110.out 0).trans rfl, (blk_cell BK110.out 1).trans rfl, HS2_⟩ (fun hHeld => ?_)
 clear hK K
 refine nu 42 ?_
 refine pu 4 (some 44) (ba 11 991) HT_.out ?_
 refine one_ (i := 5) (N := some 45) (ba 11 1023) rfl rfl (one_of HT_.out (by kernel_rfl)) (by decide) (fun K hK => ?_)
 refine value_ rfl rfl (by go_simp; first | with_reducible rfl | exact ⟨rfl, rfl⟩) ?_
 refine hK.out _ _ hHeld (fun hHeld => ?_)
 clear hK K
 refine nu 45 ?_
 refine pu 10 (some 50) (ba 11 2047) HT_.out ?_
 refine done_ (done_of HT_.out (by kernel_rfl)) ?_
 try go_wp2
 go_roundg k2
 case measure => have := HJ5.out; have := HK2.out; omega
 case rel => exact ⟨(wrap64 (x7_2 + 1)), qs, H', ⟨by have := HJ5.out; have := HK2.out; omega⟩, ⟨by (with_reducible repeat (first | apply Kd.R_alloc | apply Kd.R_drewN | apply Kd.R_drew)); exact Kd.R_mono HO_6.out (fun _ hk => trivial)⟩, ⟨qr HO_100001.out⟩, ⟨qk BK110.out⟩, ⟨qb HB.out⟩⟩

theorem laws_FnWayReach.walk (P : laws_FnWayReach.Pure) (a0 : Option Addr) (len0 cap0 : Nat) (z0 : List Int) (w : World) (w0 : (a0 = none ∧ len0 = 0 ∧ cap0 = 0 ∧ z0 = []) ∨ ∃ x, a0 = some x ∧ len0 ≤ cap0 ∧ cap0 ≤ maxLen ∧ z0.length = cap0 ∧ (∀ i, i < z0.length → w.cell? (x.add i) = some (.int .u8 (z0.getD i 0))) ∧ ∀ n ∈ z0, (Lit.int .u8 n).wf = true) (y0 : len0 * 1 ≤ 140737488351232) :
    Calls Try.prog 5 #[.slice a0 len0 cap0] w fun e w' => e = .returned (.bool true) ∧ Below w.heap.size w w' := by
  obtain ⟨l0, rfl, hr0, hm0, hw0, hc0⟩ := ReadsInt.ofRowC w0
  obtain ⟨k, h⟩ := P l0 hm0 y0 hw0
  refine (laws_FnWayReach.calls k _ _ l0 true w (Kd.C_of_reads (d := (0 : Int)) (h1 := fun _ => rfl) hr0) hc0 h).mono ?_
  rintro e w' ⟨rfl, hd⟩
  exact ⟨rfl, hd⟩
end Go.Proofs.Ytheoebelhgbejaa.P
