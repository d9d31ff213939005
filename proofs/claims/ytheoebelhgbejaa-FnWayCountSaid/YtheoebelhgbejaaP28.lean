import Derived.Test.YtheoebelhgbejaaP0
import Derived.Test.YtheoebelhgbejaaP7
import Derived.Test.YtheoebelhgbejaaP15
import Derived.Test.YtheoebelhgbejaaP16
import Derived.Test.YtheoebelhgbejaaP21
namespace Go.Proofs.Ytheoebelhgbejaa.P
open Go.RowKit Go.Proofs.YtheoebelhgbejaaW.PrintWords Go.Proofs.YtheoebelhgbejaaW.PrintLast Go.Proofs.YtheoebelhgbejaaW.PrintMore
attribute [local go_sem] max2_int min2_int max_two min_two max_three min_three max_four min_four
set_option linter.unusedVariables false
set_option linter.unusedSimpArgs false
attribute [local go_sem high] eqATie
set_option maxHeartbeats 8000000 in
set_option maxRecDepth 100000 in
theorem spec_DrawWayCount.calls (k : Nat) (A0 : Option Addr) (c0 : Nat) (l0 : List Int) (r1 : Int) (r2 : List (STie)) (w : World) (hr0 : Kd.C (Kd.int .u8) w A0 l0.length l0) (hc0 : l0.length ≤ c0) (h : spec_DrawWayCount.f k l0 = some (r1, r2)) :
    Calls Try.prog 40 #[.slice A0 l0.length c0] w fun e w' => ∃ v1_ : Value, e = .returned (.agg #[.int .i64 r1, v1_]) ∧ Kd.R kTie 44 w' w.heap.size (fun _ => True) v1_ r2 ∧ Below w.heap.size w w' := by
 have hu30 := Try.underlying30
 have HR0 := Aside0.mk hr0
 have HC0 := Aside0.mk hc0
 clear hr0 hc0
 have HB := q0 (Below.refl w.heap.size w)
 have H : ((spec_l6Open.f l0).bind fun bt100 => ((spec_l71Any.f k bt100.1 bt100.2).bind fun bt101 => (some (bt101.1, bt101.2.1)))) = some (r1, r2) := h
 clear h
 replace H := Option.bind_eq_some_iff.mp H
 obtain ⟨⟨t100, t102⟩, A20, H⟩ := H
 replace H : ((spec_l71Any.f k t100 t102).bind fun bt101 => (some (bt101.1, bt101.2.1))) = some (r1, r2) := H
 have A2 := Aside0.mk A20
 clear A20
 replace H := Option.bind_eq_some_iff.mp H
 obtain ⟨⟨t101, t103, t104⟩, A30, H⟩ := H
 replace H : (some (t101, t103)) = some (r1, r2) := H
 have A3 := Aside0.mk A30
 clear A30
 simp only [Option.some.injEq, Prod.mk.injEq] at H
 obtain ⟨rfl, rfl⟩ := H
 go_enter Try.func40, Try.ntmps40
 go_wp2_with (first | ((with_reducible refine gate_dst (N := 2) rfl ?_); refine be 2 #[.int .i64 0, .slice none 0 0] 30 ?_; intro gb105 hg w4 hbox hb; have n0_ := q0 (below_step (qb HB.out) hb); have n1_ := q0 (hbox); have n2_ := q0 ((bs HB.out hg : w.heap.size ≤ gb105)); have n3_ := q0 ((bs HB.out hg : w.heap.size ≤ gb105)); clear HB; have HB := n0_; have BK105 := n1_; have GW105 := n2_; have GE105 := n3_; clear n0_ n1_ n2_ n3_ hb hbox hg) | ((with_reducible refine gate_callee (f := 62) rfl ?_); refine goesL_ (some 4) rfl rfl Try.func62 (by kernel_rfl) rfl #[.slice A0 l0.length c0] rfl qm ?_; (with_reducible refine (spec_l6Open.calls _ _ l0 t100 t102 w _ ?side1 ?side2 ?side3 A2.out).mono ?_); (case side1 => exact qb HB.out); (case side2 => exact HR0.out); (case side3 => exact HC0.out); rintro e w5 ⟨g106, rfl, hi, hb, hb2⟩; refine ⟨_, rfl, ?_⟩; have n0_ := q0 (kb BK105.out hb2); have n1_ := q0 (hb); have n2_ := q0 (hi); have n3_ := q0 (IsSRd.ne_blk hi (kb BK105.out hb2) (by decide)); have n4_ := q0 (Ne.symm (IsSRd.ne_blk hi (kb BK105.out hb2) (by decide))); clear BK105 HB; have BK105 := n0_; have HB := n1_; have HI106 := n2_; have NB106_105 := n3_; have NB105_106 := n4_; clear n0_ n1_ n2_ n3_ n4_; (try clear hb); (try clear hb2); (try clear hk); (try clear hi)) | ((with_reducible refine gate_callee (f := 61) rfl ?_); refine goesL_ (some 5) rfl rfl Try.func61 (by kernel_rfl) rfl #[.pointer (some ⟨g106, 0, none⟩)] rfl qm ?_; (with_reducible refine (spec_l71Any.calls k g106 t100 t102 t101 t103 t104 w _ ?side1 ?side2 A3.out).mono ?_); (case side1 => repeat (first | (with_reducible first | exact HI106.out | apply IsSRd.alloc | apply IsSRd.drewN | apply IsSRd.drew | apply IsSRd.set_1 | refine IsSRd.far ?_ NB106_105.out _) | exact HI106.out)); (case side2 => repeat (first | (with_reducible first | exact HB.out | apply below_alloc | apply pw_below_drewN | apply below_drew1 | refine below_set ?_ (IsSRd.ge HI106.out) | refine below_set ?_ GE105.out) | exact HB.out)); rintro e w6 ⟨v107, rfl, ho0, hi, hb, hk⟩; refine ⟨_, rfl, ?_⟩; have n0_ := q0 (KeepBut.blk hk (g' := gb105) (o := .cells #[.int .i64 0, .slice none 0 0] 30 (0, 0)) (qk BK105.out) NB105_106.out (by simp)); have n1_ := q0 (Kd.R_lower ho0 (below_size (qj HB.out HI106.out))); have n2_ := q0 (hb); have n3_ := q0 (hi); clear BK105 HB HI106; have BK105 := n0_; have HO108 := n1_; have HB := n2_; have HI106 := n3_; clear n0_ n1_ n2_ n3_; (try clear hb); (try clear hb2); (try clear hk); (try clear hi); (try clear ho0); have hnb7 := NB105_106.out; have hnc7 := NB106_105.out; have hcz8_0 : w6.cell? ⟨gb105, 0, none⟩ = some (.int .i64 0) := (blk_cell BK105.out 0).trans rfl; have hcz8_1 : w6.cell? ⟨gb105, 1, none⟩ = some (.slice none 0 0) := (blk_cell BK105.out 1).trans rfl; have hfz8_0 := blk_frozen BK105.out 0; have hfz8_1 := blk_frozen BK105.out 1; obtain ⟨Ao9, co9, eo9⟩ := Kd.R_slice HO108.out; subst eo9))
 refine bodyPost_ret (results_cell_row rfl _ _ gb105 30 #[.int .i64 t101, .slice Ao9 t103.length co9] (0, 0) _ rfl (by (with_reducible repeat (first | refine blk_drewN ?_ _ | refine blk_drew ?_ | refine blk_alloc ?_ _)); refine blk_put (cs := #[.int .i64 t101, .slice none 0 0]) ?_ 1 _ rfl; (with_reducible repeat (first | refine blk_drewN ?_ _ | refine blk_drew ?_ | refine blk_alloc ?_ _)); refine blk_put (cs := #[.int .i64 0, .slice none 0 0]) ?_ 0 _ rfl; (with_reducible repeat (first | refine blk_drewN ?_ _ | refine blk_drew ?_ | refine blk_alloc ?_ _)); exact BK105.out) Try.underlying30 rfl (by kernel_rfl)) rfl ?_
 exact ⟨_, qe, by (with_reducible repeat (first | apply Kd.R_alloc | apply Kd.R_drewN | apply Kd.R_drew)); exact Kd.R_mono (Kd.R_far (p := ⟨gb105, 1, none⟩) (Kd.R_far (p := ⟨gb105, 0, none⟩) (Kd.R_types HO108.out BK105.out (by decide)) (fun _ hk => hk.2) (.int .i64 t101)) (fun _ hk => hk.2) (.slice Ao9 t103.length co9)) (fun _ hk => trivial), qj HB.out HI106.out⟩

set_option maxHeartbeats 8000000 in
set_option maxRecDepth 100000 in
theorem laws_FnWayCount.calls (k : Nat) (A0 : Option Addr) (c0 : Nat) (l0 : List Int) (r : Bool) (w : World) (hr0 : Kd.C (Kd.int .u8) w A0 l0.length l0) (hc0 : l0.length ≤ c0) (h : laws_FnWayCount.f k l0 = some r) :
    Calls Try.prog 9 #[.slice A0 l0.length c0] w fun e w' => e = .returned (.bool r) ∧ Below w.heap.size w w' := by
 have hu30 := Try.underlying30
 have HR0 := Aside0.mk hr0
 have HC0 := Aside0.mk hc0
 clear hr0 hc0
 have HB := q0 (Below.refl w.heap.size w)
 have H : (if (l0.length : Int) > 1048576 then (some true) else ((spec_DrawWayCount.f k l0).bind fun bt103 => ((impl_WayCount.f k bt103.1 bt103.2).bind fun t100 => ((spec_WayCount.f k bt103.1 bt103.2).bind fun t104 => (if t100 = t104 then (laws_FnWayCount.j0 k t100 (decide (t100 < 0)) bt103.1 bt103.2) else (laws_FnWayCount.j0 k t100 true bt103.1 bt103.2)))))) = some r := h
 clear h
 by_cases c2 : (l0.length : Int) > 1048576
 · rw [if_pos c2] at H
   have c2b0 : decide (1048576 < (l0.length : Int)) = true := decide_eq_true c2
   have c2b1 : decide (1048576 < l0.length) = true := decide_eq_true (by omega)
   clear c2
   obtain rfl := Option.some.inj H
   go_enter Try.func9, Try.ntmps9
   go_wp2
   go_ret
   exact ⟨qe, qb HB.out⟩
 rw [if_neg c2] at H
 have c2b0 : decide (1048576 < (l0.length : Int)) = false := decide_eq_false c2
 have c2b1 : decide (1048576 < l0.length) = false := decide_eq_false (by omega)
 clear c2
 replace H := Option.bind_eq_some_iff.mp H
 obtain ⟨⟨t103, t105⟩, A30, H⟩ := H
 replace H : ((impl_WayCount.f k t103 t105).bind fun t100 => ((spec_WayCount.f k t103 t105).bind fun t104 => (if t100 = t104 then (laws_FnWayCount.j0 k t100 (decide (t100 < 0)) t103 t105) else (laws_FnWayCount.j0 k t100 true t103 t105)))) = some r := H
 have A3 := Aside0.mk A30
 clear A30
 replace H := Option.bind_eq_some_iff.mp H
 obtain ⟨t100, A40, H⟩ := H
 replace H : ((spec_WayCount.f k t103 t105).bind fun t104 => (if t100 = t104 then (laws_FnWayCount.j0 k t100 (decide (t100 < 0)) t103 t105) else (laws_FnWayCount.j0 k t100 true t103 t105))) = some r := H
 have A4 := Aside0.mk A40
 clear A40
 have HC5 := Aside0.mk H
 clear H
 go_enter Try.func9, Try.ntmps9
 go_upto_region 5 with (first | ((with_reducible refine gate_callee (f := 40) rfl ?_); refine goesL_ (some 12) rfl rfl Try.func40 (by kernel_rfl) rfl #[.slice A0 l0.length c0] rfl qm ?_; (with_reducible refine (spec_DrawWayCount.calls k _ _ l0 t103 t105 _ ?side1 ?side2 A3.out).mono ?_); (case side1 => repeat (first | exact HR0.out | (with_reducible refine Kd.C_alloc ?_ _) | (with_reducible refine Kd.C_drewN ?_ _) | (with_reducible refine Kd.C_drew ?_))); (case side2 => exact HC0.out); rintro e w6 ⟨v106, rfl, ho0, hb⟩; refine ⟨_, rfl, ?_⟩; have n0_ := q0 (Kd.R_lower ho0 (below_size (qb HB.out))); have n1_ := q0 (below_step (qb HB.out) hb); clear HB; have HO107 := n0_; have HB := n1_; clear n0_ n1_; (try clear hb); (try clear hb2); (try clear hk); (try clear hi); (try clear ho0)) | ((with_reducible refine gate_dst (N := 3) rfl ?_); (try (refine gate_guard (by rfl) ?_; dsimp only)); refine be 3 #[.int .i64 0, .slice none 0 0] 30 ?_; intro gb108 hg w7 hbox hb; have n0_ := q0 (Kd.R_below (qr HO107.out) hb); have n1_ := q0 (below_step (qb HB.out) hb); have n2_ := q0 (hbox); have n3_ := q0 ((bs HB.out hg : w.heap.size ≤ gb108)); have n4_ := q0 ((bs HB.out hg : w.heap.size ≤ gb108)); clear HO107 HB; have HO107 := n0_; have HB := n1_; have BK108 := n2_; have GW108 := n3_; have GE108 := n4_; clear n0_ n1_ n2_ n3_ n4_ hb hbox hg; have hcz8_0 : w7.cell? ⟨gb108, 0, none⟩ = some (.int .i64 0) := (blk_cell BK108.out 0).trans rfl; have hcz8_1 : w7.cell? ⟨gb108, 1, none⟩ = some (.slice none 0 0) := (blk_cell BK108.out 1).trans rfl; have hfz8_0 := blk_frozen BK108.out 0; have hfz8_1 := blk_frozen BK108.out 1; obtain ⟨Ao9, co9, eo9⟩ := Kd.R_slice HO107.out; subst eo9) | ((with_reducible refine gate_callee (f := 41) rfl ?_); refine goesL_ (some 14) rfl rfl Try.func41 (by kernel_rfl) rfl #[.agg #[.int .i64 t103, .slice Ao9 t105.length co9]] rfl qm ?_; (with_reducible refine (impl_WayCount.calls k t103 _ _ t105 t100 _ ?side1 ?side2 A4.out).mono ?_); (case side1 => refine (Kd.R_reads' (e := 44) (base := w.heap.size) (ok := fun k_ => True) (n := t105.length) (c := co9) ?_).2.2; exact (by (with_reducible repeat (first | apply Kd.R_alloc | apply Kd.R_drewN | apply Kd.R_drew)); exact (Kd.R_mono (Kd.R_far (p := ⟨gb108, 1, none⟩) (Kd.R_far (p := ⟨gb108, 0, none⟩) (Kd.R_types HO107.out BK108.out (by decide)) (fun _ hk => hk.2) (.int .i64 t103)) (fun _ hk => hk.2) (.slice Ao9 t105.length co9)) (fun _ h_ => h_.1)))); (case side2 => exact (Kd.R_reads' HO107.out).2.1); rintro e w10 ⟨rfl, hb⟩; refine ⟨_, rfl, ?_⟩; have n0_ := q0 (Kd.R_below (by (with_reducible repeat (first | apply Kd.R_alloc | apply Kd.R_drewN | apply Kd.R_drew)); exact (Kd.R_mono (Kd.R_far (p := ⟨gb108, 1, none⟩) (Kd.R_far (p := ⟨gb108, 0, none⟩) (Kd.R_types HO107.out BK108.out (by decide)) (fun _ hk => hk.2) (.int .i64 t103)) (fun _ hk => hk.2) (.slice Ao9 t105.length co9)) (fun _ h_ => h_.1))) hb); have n1_ := q0 (blk_below (g := gb108) (o := .cells #[.int .i64 t103, .slice Ao9 t105.length co9] 30 (0, 0)) (by (with_reducible repeat (first | refine blk_drewN ?_ _ | refine blk_drew ?_ | refine blk_alloc ?_ _)); refine blk_put (cs := #[.int .i64 t103, .slice none 0 0]) ?_ 1 _ rfl; (with_reducible repeat (first | refine blk_drewN ?_ _ | refine blk_drew ?_ | refine blk_alloc ?_ _)); refine blk_put (cs := #[.int .i64 0, .slice none 0 0]) ?_ 0 _ rfl; (with_reducible repeat (first | refine blk_drewN ?_ _ | refine blk_drew ?_ | refine blk_alloc ?_ _)); exact BK108.out) hb); have n2_ := q0 (below_step (qb HB.out) hb); clear HO107 BK108 HB; have HO107 := n0_; have BK108 := n1_; have HB := n2_; clear n0_ n1_ n2_; (try clear hb); (try clear hb2); (try clear hk); (try clear hi)))
 (try simp only [Act.put, List.setIfInBounds_toArray, List.set_cons_zero, List.set_cons_succ])
 go_cut [22] (fun v22 wc => ∃ (kq : Nat) (x22_4 : Bool), v22 = .bool x22_4 ∧ Aside0 (laws_FnWayCount.j0 kq t100 x22_4 t103 t105 = some r) ∧ Aside0 (kq ≤ k) ∧ Aside0 (Kd.R kTie 44 wc w.heap.size (fun _ => True) (.slice Ao9 t105.length co9) t105) ∧ Aside0 (wc.heap[gb108]? = some (.cells #[.int .i64 t103, (.slice Ao9 t105.length co9)] 30 (0, 0))) ∧ Aside0 (Below w.heap.size w wc))
 case first =>
   have H := HC5.out
   clear HC5
   replace H := Option.bind_eq_some_iff.mp H
   obtain ⟨t104, A109, H⟩ := H
   replace H : (if t100 = t104 then (laws_FnWayCount.j0 k t100 (decide (t100 < 0)) t103 t105) else (laws_FnWayCount.j0 k t100 true t103 t105)) = some r := H
   have A11 := Aside0.mk A109
   clear A109
   by_cases c12 : t100 = t104
   rotate_left
   · rw [if_neg c12] at H
     have c12b0 : (t100 == t104) = false := beq_eq_false_iff_ne.mpr c12
     have c12b1 : (t100 != t104) = true := bne_iff_ne.mpr c12
     (first | rw [c12b0] | (simp only [i64_w, i32_w]; rw [c12b0]) | skip)
     have H' := Aside0.mk H
     clear H
     have hcz15_0 : w10.cell? ⟨gb108, 0, none⟩ = some (.int .i64 t103) := (blk_cell BK108.out 0).trans rfl
     have hcz15_1 : w10.cell? ⟨gb108, 1, none⟩ = some (.slice Ao9 t105.length co9) := (blk_cell BK108.out 1).trans rfl
     have hfz15_0 := blk_frozen BK108.out 0
     have hfz15_1 := blk_frozen BK108.out 1
     go_wp2_with (first | ((with_reducible refine gate_callee (f := 42) rfl ?_); refine goesL_ (some 17) rfl rfl Try.func42 (by kernel_rfl) rfl #[.agg #[.int .i64 t103, .slice Ao9 t105.length co9]] rfl qm ?_; (with_reducible refine (spec_WayCount.calls k t103 _ _ t105 t104 _ ?side1 ?side2 A11.out).mono ?_); (case side1 => exact qc (Kd.R_reads' HO107.out).2.2); (case side2 => exact (Kd.R_reads' HO107.out).2.1); rintro e w16 ⟨rfl, hb⟩; refine ⟨_, rfl, ?_⟩; have n0_ := q0 (Kd.R_below (qr HO107.out) hb); have n1_ := q0 (kb BK108.out hb); have n2_ := q0 (below_step (qb HB.out) hb); clear HO107 BK108 HB; have HO107 := n0_; have BK108 := n1_; have HB := n2_; clear n0_ n1_ n2_; (try clear hb); (try clear hb2); (try clear hk); (try clear hi)))
     go_meet
     case rel => exact ⟨_, (true), qs, H', ⟨by first | omega | exact Nat.le_refl _⟩, ⟨qr HO107.out⟩, ⟨qk BK108.out⟩, ⟨qb HB.out⟩⟩
   rw [if_pos c12] at H
   have c12b0 : (t100 == t104) = true := beq_iff_eq.mpr c12
   have c12b1 : (t100 != t104) = false := bne_eq_false_iff_eq.mpr c12
   clear c12
   (first | rw [c12b0] | (simp only [i64_w, i32_w]; rw [c12b0]) | skip)
   have H' := Aside0.mk H
   clear H
   have hcz13_0 : w10.cell? ⟨gb108, 0, none⟩ = some (.int .i64 t103) := (blk_cell BK108.out 0).trans rfl
   have hcz13_1 : w10.cell? ⟨gb108, 1, none⟩ = some (.slice Ao9 t105.length co9) := (blk_cell BK108.out 1).trans rfl
   have hfz13_0 := blk_frozen BK108.out 0
   have hfz13_1 := blk_frozen BK108.out 1
   go_wp2_with (first | ((with_reducible refine gate_callee (f := 42) rfl ?_); refine goesL_ (some 17) rfl rfl Try.func42 (by kernel_rfl) rfl #[.agg #[.int .i64 t103, .slice Ao9 t105.length co9]] rfl qm ?_; (with_reducible refine (spec_WayCount.calls k t103 _ _ t105 t104 _ ?side1 ?side2 A11.out).mono ?_); (case side1 => exact qc (Kd.R_reads' HO107.out).2.2); (case side2 => exact (Kd.R_reads' HO107.out).2.1); rintro e w14 ⟨rfl, hb⟩; refine ⟨_, rfl, ?_⟩; have n0_ := q0 (Kd.R_below (qr HO107.out) hb); have n1_ := q0 (kb BK108.out hb); have n2_ := q0 (below_step (qb HB.out) hb); clear HO107 BK108 HB; have HO107 := n0_; have BK108 := n1_; have HB := n2_; clear n0_ n1_ n2_; (try clear hb); (try clear hb2); (try clear hk); (try clear hi)))
   go_meet
   case rel => exact ⟨_, (decide (t100 < 0)), qs, H', ⟨by first | omega | exact Nat.le_refl _⟩, ⟨qr HO107.out⟩, ⟨qk BK108.out⟩, ⟨qb HB.out⟩⟩
 clear HC5
 try clear c1
 try clear c2
 try clear c2b0
 try clear c2b1
 try clear p2
 try clear c4
 try clear c9
 try clear c12
 try clear c12b0
 try clear c12b1
 try clear hcz13_0
 try clear hcz13_1
 try clear hcz15_0
 try clear hcz15_1
 try clear hcz8_0
 try clear hcz8_1
 try clear hfz13_0
 try clear hfz13_1
 try clear hfz15_0
 try clear hfz15_1
 try clear hfz8_0
 try clear hfz8_1
 obtain ⟨kq, x22_4, rfl, HA, HJ4, HO_100001, BK108, HB⟩ := hcut
 rcases kq with _ | kj4
 · exact absurd HA.out (by simp [laws_FnWayCount.j0])
 have H := HA.out
 clear HA
 simp only [laws_FnWayCount.j0] at H
 by_cases c17 : x22_4 = true
 · subst c17
   have H1 : ((spec_WayCount.f kj4 t103 t105).bind fun t101 => (some (t100 == t101))) = some r := by rw [if_pos rfl] at H; exact H
   clear H
   have H := H1
   clear H1
   replace H := Option.bind_eq_some_iff.mp H
   obtain ⟨t101, A110, H⟩ := H
   replace H : (some (t100 == t101)) = some r := H
   have A18 := Aside0.mk A110
   clear A110
   obtain rfl := Option.some.inj H
   have hcz19_0 : wc.cell? ⟨gb108, 0, none⟩ = some (.int .i64 t103) := (blk_cell BK108.out 0).trans rfl
   have hcz19_1 : wc.cell? ⟨gb108, 1, none⟩ = some (.slice Ao9 t105.length co9) := (blk_cell BK108.out 1).trans rfl
   have hfz19_0 := blk_frozen BK108.out 0
   have hfz19_1 := blk_frozen BK108.out 1
   go_wp2_with (first | ((with_reducible refine gate_callee (f := 42) rfl ?_); refine goesL_ (some 25) rfl rfl Try.func42 (by kernel_rfl) rfl #[.agg #[.int .i64 t103, .slice Ao9 t105.length co9]] rfl qm ?_; (with_reducible refine (spec_WayCount.calls kj4 t103 _ _ t105 t101 _ ?side1 ?side2 A18.out).mono ?_); (case side1 => exact qc (Kd.R_reads' HO_100001.out).2.2); (case side2 => exact (Kd.R_reads' HO_100001.out).2.1); rintro e w20 ⟨rfl, hb⟩; refine ⟨_, rfl, ?_⟩; have n0_ := q0 (Kd.R_below (qr HO_100001.out) hb); have n1_ := q0 (kb BK108.out hb); have n2_ := q0 (below_step (qb HB.out) hb); clear HO_100001 BK108 HB; have HO_100001 := n0_; have BK108 := n1_; have HB := n2_; clear n0_ n1_ n2_; (try clear hb); (try clear hb2); (try clear hk); (try clear hi)))
   go_ret
   exact ⟨qe, qb HB.out⟩
 replace c17 := Bool.eq_false_iff.mpr c17
 subst c17
 have H1 : ((impl_WayParts.f kj4 t103 t105).bind fun t102 => (laws_FnWayCount.l0 kj4 t100 0 t102 0 t103 t105)) = some r := by rw [if_neg (show ¬ (false = true) by decide)] at H; exact H
 clear H
 have H := H1
 clear H1
 replace H := Option.bind_eq_some_iff.mp H
 obtain ⟨t102, A111, H⟩ := H
 replace H : (laws_FnWayCount.l0 kj4 t100 0 t102 0 t103 t105) = some r := H
 have A21 := Aside0.mk A111
 clear A111
 have H' := Aside0.mk H
 clear H
 have hcz22_0 : wc.cell? ⟨gb108, 0, none⟩ = some (.int .i64 t103) := (blk_cell BK108.out 0).trans rfl
 have hcz22_1 : wc.cell? ⟨gb108, 1, none⟩ = some (.slice Ao9 t105.length co9) := (blk_cell BK108.out 1).trans rfl
 have hfz22_0 := blk_frozen BK108.out 0
 have hfz22_1 := blk_frozen BK108.out 1
 go_wp2_with (first | ((with_reducible refine gate_callee (f := 16) rfl ?_); refine goesL_ (some 28) rfl rfl Try.func16 (by kernel_rfl) rfl #[.agg #[.int .i64 t103, .slice Ao9 t105.length co9]] rfl qm ?_; (with_reducible refine (impl_WayParts.calls kj4 t103 _ _ t105 t102 _ ?side1 ?side2 A21.out).mono ?_); (case side1 => exact qc (Kd.R_reads' HO_100001.out).2.2); (case side2 => exact (Kd.R_reads' HO_100001.out).2.1); rintro e w23 ⟨v112, rfl, ho0, hb⟩; refine ⟨_, rfl, ?_⟩; have n0_ := q0 (Kd.R_below (qr HO_100001.out) hb); have n1_ := q0 (Kd.R_lower ho0 (below_size (qb HB.out))); have n2_ := q0 (kb BK108.out hb); have n3_ := q0 (below_step (qb HB.out) hb); clear HO_100001 BK108 HB; have HO_100001 := n0_; have HO113 := n1_; have BK108 := n2_; have HB := n3_; clear n0_ n1_ n2_ n3_; (try clear hb); (try clear hb2); (try clear hk); (try clear hi); (try clear ho0)))
 go_loopg [5, 7] kj4 (fun kq v5 v7 w' => ∃ (x5_2 : Int) (x7_2 : Int), v5 = .int .i64 x5_2 ∧ v7 = .int .i64 x7_2 ∧ Aside0 (laws_FnWayCount.l0 kq t100 x5_2 t102 x7_2 t103 t105 = some r) ∧ Aside0 (kq ≤ kj4) ∧ Aside0 (Kd.R (Kd.int .i64) 3 w' w.heap.size (fun _ => True) v112 t102) ∧ Aside0 (Kd.R kTie 44 w' w.heap.size (fun _ => True) (.slice Ao9 t105.length co9) t105) ∧ Aside0 (w'.heap[gb108]? = some (.cells #[.int .i64 t103, (.slice Ao9 t105.length co9)] 30 (0, 0))) ∧ Aside0 (Below w.heap.size w w'))
 case atStart => exact ⟨(0), (0), qs, qs, H', ⟨Nat.le_refl _⟩, ⟨qr HO113.out⟩, ⟨qr HO_100001.out⟩, ⟨qk BK108.out⟩, ⟨qb HB.out⟩⟩
 clear H'
 try clear c1
 try clear c2
 try clear c2b0
 try clear c2b1
 try clear p2
 try clear c4
 try clear c9
 try clear c12
 try clear c12b0
 try clear c12b1
 try clear c16
 try clear c17
 try clear hcz13_0
 try clear hcz13_1
 try clear hcz15_0
 try clear hcz15_1
 try clear hcz19_0
 try clear hcz19_1
 try clear hcz22_0
 try clear hcz22_1
 try clear hcz8_0
 try clear hcz8_1
 try clear hfz13_0
 try clear hfz13_1
 try clear hfz15_0
 try clear hfz15_1
 try clear hfz19_0
 try clear hfz19_1
 try clear hfz22_0
 try clear hfz22_1
 try clear hfz8_0
 try clear hfz8_1
 try clear p2
 obtain ⟨x5_2, x7_2, rfl, rfl, HA, HK2, HO_6, HO_100001, BK108, HB⟩ := hrel
 rcases gk with _ | k2
 · exact absurd HA.out (by simp [laws_FnWayCount.l0])
 have H := HA.out
 clear HA
 simp only [laws_FnWayCount.l0] at H
 by_cases c24 : x7_2 < (t102.length : Int)
 rotate_left
 · rw [if_neg c24] at H
   have c24b0 : decide (x7_2 < (t102.length : Int)) = false := decide_eq_false c24
   clear c24
   by_cases c29 : t100 = x5_2
   rotate_left
   · rw [if_neg c29] at H
     have c29b0 : (t100 == x5_2) = false := beq_eq_false_iff_ne.mpr c29
     have c29b1 : (t100 != x5_2) = true := bne_iff_ne.mpr c29
     obtain rfl := Option.some.inj H
     obtain ⟨Ao35, co35, eo35⟩ := Kd.R_slice HO_6.out
     subst eo35
     go_wp2
     go_ret
     exact ⟨qe, qb HB.out⟩
   rw [if_pos c29] at H
   have c29b0 : (t100 == x5_2) = true := beq_iff_eq.mpr c29
   have c29b1 : (t100 != x5_2) = false := bne_eq_false_iff_eq.mpr c29
   clear c29
   by_cases c30 : t100 ≥ (wrap64 (t103 - (t105.length : Int)))
   · rw [if_pos c30] at H
     have c30b0 : decide ((wrap64 (t103 - (t105.length : Int))) ≤ t100) = true := decide_eq_true c30
     clear c30
     obtain rfl := Option.some.inj H
     obtain ⟨Ao31, co31, eo31⟩ := Kd.R_slice HO_6.out
     subst eo31
     have hcz32_0 : wr.cell? ⟨gb108, 0, none⟩ = some (.int .i64 t103) := (blk_cell BK108.out 0).trans rfl
     have hcz32_1 : wr.cell? ⟨gb108, 1, none⟩ = some (.slice Ao9 t105.length co9) := (blk_cell BK108.out 1).trans rfl
     have hfz32_0 := blk_frozen BK108.out 0
     have hfz32_1 := blk_frozen BK108.out 1
     go_wp2
     go_ret
     exact ⟨qe, qb HB.out⟩
   rw [if_neg c30] at H
   have c30b0 : decide ((wrap64 (t103 - (t105.length : Int))) ≤ t100) = false := decide_eq_false c30
   clear c30
   obtain rfl := Option.some.inj H
   obtain ⟨Ao33, co33, eo33⟩ := Kd.R_slice HO_6.out
   subst eo33
   have hcz34_0 : wr.cell? ⟨gb108, 0, none⟩ = some (.int .i64 t103) := (blk_cell BK108.out 0).trans rfl
   have hcz34_1 : wr.cell? ⟨gb108, 1, none⟩ = some (.slice Ao9 t105.length co9) := (blk_cell BK108.out 1).trans rfl
   have hfz34_0 := blk_frozen BK108.out 0
   have hfz34_1 := blk_frozen BK108.out 1
   go_wp2
   go_ret
   exact ⟨qe, qb HB.out⟩
 rw [if_pos c24] at H
 have c24b0 : decide (x7_2 < (t102.length : Int)) = true := decide_eq_true c24
 clear c24
 by_cases c25 : 0 ≤ x7_2
 rotate_left
 · rw [if_neg c25] at H
   exact absurd H (by simp)
 rw [if_pos c25] at H
 have c25b0 : decide (0 ≤ x7_2) = true := decide_eq_true c25
 clear c25
 by_cases c26 : (rd t102 x7_2) = x7_2
 rotate_left
 · rw [if_neg c26] at H
   have c26b0 : ((rd t102 x7_2) == x7_2) = false := beq_eq_false_iff_ne.mpr c26
   have c26b1 : ((rd t102 x7_2) != x7_2) = true := bne_iff_ne.mpr c26
   have H' := Aside0.mk H
   clear H
   obtain ⟨Ao28, co28, eo28⟩ := Kd.R_slice HO_6.out
   subst eo28
   have p114 : 0 ≤ (x7_2 : Int) := of_decide_eq_true qa
   have q114 : x7_2 < (t102.length : Int) := of_decide_eq_true qa
   obtain ⟨ad114, e114, hx114_0⟩ := Kd.at_int (Kd.R_reads' HO_6.out).2.2 x7_2 p114 q114
   cases e114
   replace p114 := eq_true p114
   replace q114 := eq_true q114
   go_wp2
   go_roundg k2
   case measure => have := HJ4.out; have := HK2.out; omega
   case rel => exact ⟨(x5_2), (wrap64 (x7_2 + 1)), qs, qs, H', ⟨by have := HJ4.out; have := HK2.out; omega⟩, ⟨qr HO_6.out⟩, ⟨qr HO_100001.out⟩, ⟨qk BK108.out⟩, ⟨qb HB.out⟩⟩
 rw [if_pos c26] at H
 have c26b0 : ((rd t102 x7_2) == x7_2) = true := beq_iff_eq.mpr c26
 have c26b1 : ((rd t102 x7_2) != x7_2) = false := bne_eq_false_iff_eq.mpr c26
 clear c26
 have H' := Aside0.mk H
 clear H
 obtain ⟨Ao27, co27, eo27⟩ := Kd.R_slice HO_6.out
 subst eo27
 have p114 : 0 ≤ (x7_2 : Int) := of_decide_eq_true qa
 have q114 : x7_2 < (t102.length : Int) := of_decide_eq_true qa
 obtain ⟨ad114, e114, hx114_0⟩ := Kd.at_int (Kd.R_reads' HO_6.out).2.2 x7_2 p114 q114
 cases e114
 replace p114 := eq_true p114
 replace q114 := eq_true q114
 go_wp2
 go_roundg k2
 case measure => have := HJ4.out; have := HK2.out; omega
 case rel => exact ⟨(wrap64 (x5_2 + 1)), (wrap64 (x7_2 + 1)), qs, qs, H', ⟨by have := HJ4.out; have := HK2.out; omega⟩, ⟨qr HO_6.out⟩, ⟨qr HO_100001.out⟩, ⟨qk BK108.out⟩, ⟨qb HB.out⟩⟩

theorem laws_FnWayCount.walk (P : laws_FnWayCount.Pure) (a0 : Option Addr) (len0 cap0 : Nat) (z0 : List Int) (w : World) (w0 : (a0 = none ∧ len0 = 0 ∧ cap0 = 0 ∧ z0 = []) ∨ ∃ x, a0 = some x ∧ len0 ≤ cap0 ∧ cap0 ≤ maxLen ∧ z0.length = cap0 ∧ (∀ i, i < z0.length → w.cell? (x.add i) = some (.int .u8 (z0.getD i 0))) ∧ ∀ n ∈ z0, (Lit.int .u8 n).wf = true) (y0 : len0 * 1 ≤ 140737488351232) :
    Calls Try.prog 9 #[.slice a0 len0 cap0] w fun e w' => e = .returned (.bool true) ∧ Below w.heap.size w w' := by
  obtain ⟨l0, rfl, hr0, hm0, hw0, hc0⟩ := ReadsInt.ofRowC w0
  obtain ⟨k, h⟩ := P l0 hm0 y0 hw0
  refine (laws_FnWayCount.calls k _ _ l0 true w (Kd.C_of_reads (d := (0 : Int)) (h1 := fun _ => rfl) hr0) hc0 h).mono ?_
  rintro e w' ⟨rfl, hd⟩
  exact ⟨rfl, hd⟩
end Go.Proofs.Ytheoebelhgbejaa.P
