import Derived.Test.YtmfmeenfhdohcaaP0
import Derived.Test.YtmfmeenfhdohcaaP2
import Derived.Test.YtmfmeenfhdohcaaP3
import Derived.Test.YtmfmeenfhdohcaaP5
import Derived.Test.YtmfmeenfhdohcaaP6
namespace Go.Proofs.Ytmfmeenfhdohcaa.P
open Go.RowKit Go.Proofs.YtmfmeenfhdohcaaW.PrintWords Go.Proofs.YtmfmeenfhdohcaaW.PrintLast Go.Proofs.YtmfmeenfhdohcaaW.PrintMore
attribute [local go_sem] max2_int min2_int max_two min_two max_three min_three max_four min_four
set_option linter.unusedVariables false
set_option linter.unusedSimpArgs false
attribute [local go_sem high] eqATie
set_option maxHeartbeats 8000000 in
set_option maxRecDepth 100000 in
theorem impl_NetHas.calls (k : Nat) (a0_0 : Int) (A0_1 : Option Addr) (c0_1 : Nat) (l0_1 : List (STie)) (a1 : Int) (a2 : Int) (r : Bool) (w : World) (hr0_1 : Kd.C kTie w A0_1 l0_1.length l0_1) (hc0_1 : l0_1.length ≤ c0_1) (h : impl_NetHas.f k a0_0 l0_1 a1 a2 = some r) :
    Calls Try.prog 29 #[.agg #[.int .i64 a0_0, .slice A0_1 l0_1.length c0_1], .int .i64 a1, .int .i64 a2] w fun e w' => e = .returned (.bool r) ∧ Below w.heap.size w w' := by
 have hu31 := Try.underlying31
 have HR0_1 := Aside0.mk hr0_1
 have HC0_1 := Aside0.mk hc0_1
 clear hr0_1 hc0_1
 have HB := q0 (Below.refl w.heap.size w)
 have H : ((impl_NetOk.f k a0_0 l0_1).bind fun t100 => (if t100 = true then ((impl_Net_has.f k a0_0 l0_1 a1 a2).bind fun t101 => (some t101)) else (some false))) = some r := h
 clear h
 replace H := Option.bind_eq_some_iff.mp H
 obtain ⟨t100, A40, H⟩ := H
 have A4 := Aside0.mk A40
 clear A40
 by_cases c5 : t100 = true
 rotate_left
 · replace c5 := Bool.eq_false_iff.mpr c5
   subst c5
   rw [if_neg nf] at H
   obtain rfl := Option.some.inj H
   go_enter Try.func29, Try.ntmps29
   go_wp2_with (first | ((with_reducible refine gate_dst (N := 3) rfl ?_); refine be 3 #[.int .i64 a0_0, .slice A0_1 l0_1.length c0_1] 31 ?_; intro gb102 hg w12 hbox hb; have BK102 := q0 (hbox); have GW102 := q0 ((bs HB.out hg : w.heap.size ≤ gb102)); have GE102 := q0 ((bs HB.out hg : w.heap.size ≤ gb102)); replace HB := q0 (below_step (qb HB.out) hb); clear hb hbox hg; have hcz13_0 : w12.cell? ⟨gb102, 0, none⟩ = some (.int .i64 a0_0) := (blk_cell BK102.out 0).trans rfl; have hcz13_1 : w12.cell? ⟨gb102, 1, none⟩ = some (.slice A0_1 l0_1.length c0_1) := (blk_cell BK102.out 1).trans rfl; have hfz13_0 := blk_frozen BK102.out 0; have hfz13_1 := blk_frozen BK102.out 1) | ((with_reducible refine gate_callee (f := 47) rfl ?_); refine gl 8 Try.func47 #[.agg #[.int .i64 a0_0, .slice A0_1 l0_1.length c0_1]] ?_; (with_reducible refine (impl_NetOk.calls k a0_0 _ _ l0_1 false _ ?side1 ?side2 A4.out).mono ?_); (case side1 => exact qc (Kd.C_below HR0_1.out HB.out)); (case side2 => exact HC0_1.out); rintro e w14 ⟨rfl, hb⟩; refine ⟨_, rfl, ?_⟩; replace BK102 := q0 (kb BK102.out hb); replace HB := q0 (below_step (qb HB.out) hb); (try clear hb); (try clear hb2); (try clear hk); (try clear hi)))
   go_ret
   exact ⟨qe, qb HB.out⟩
 subst c5
 rw [if_pos rfl] at H
 replace H := Option.bind_eq_some_iff.mp H
 obtain ⟨t101, A60, H⟩ := H
 have A6 := Aside0.mk A60
 clear A60
 obtain rfl := Option.some.inj H
 go_enter Try.func29, Try.ntmps29
 go_wp2_with (first | ((with_reducible refine gate_dst (N := 3) rfl ?_); refine be 3 #[.int .i64 a0_0, .slice A0_1 l0_1.length c0_1] 31 ?_; intro gb102 hg w7 hbox hb; have BK102 := q0 (hbox); have GW102 := q0 ((bs HB.out hg : w.heap.size ≤ gb102)); have GE102 := q0 ((bs HB.out hg : w.heap.size ≤ gb102)); replace HB := q0 (below_step (qb HB.out) hb); clear hb hbox hg; have hcz8_0 : w7.cell? ⟨gb102, 0, none⟩ = some (.int .i64 a0_0) := (blk_cell BK102.out 0).trans rfl; have hcz8_1 : w7.cell? ⟨gb102, 1, none⟩ = some (.slice A0_1 l0_1.length c0_1) := (blk_cell BK102.out 1).trans rfl; have hfz8_0 := blk_frozen BK102.out 0; have hfz8_1 := blk_frozen BK102.out 1) | ((with_reducible refine gate_callee (f := 47) rfl ?_); refine gl 8 Try.func47 #[.agg #[.int .i64 a0_0, .slice A0_1 l0_1.length c0_1]] ?_; (with_reducible refine (impl_NetOk.calls k a0_0 _ _ l0_1 true _ ?side1 ?side2 A4.out).mono ?_); (case side1 => exact qc (Kd.C_below HR0_1.out HB.out)); (case side2 => exact HC0_1.out); rintro e w9 ⟨rfl, hb⟩; refine ⟨_, rfl, ?_⟩; replace BK102 := q0 (kb BK102.out hb); replace HB := q0 (below_step (qb HB.out) hb); (try clear hb); (try clear hb2); (try clear hk); (try clear hi); have hcz10_0 : w9.cell? ⟨gb102, 0, none⟩ = some (.int .i64 a0_0) := (blk_cell BK102.out 0).trans rfl; have hcz10_1 : w9.cell? ⟨gb102, 1, none⟩ = some (.slice A0_1 l0_1.length c0_1) := (blk_cell BK102.out 1).trans rfl; have hfz10_0 := blk_frozen BK102.out 0; have hfz10_1 := blk_frozen BK102.out 1) | (go_at_call 52; (with_reducible refine (impl_Net_has.calls k a0_0 _ _ l0_1 a1 a2 t101 _ ?side1 ?side2 A6.out).mono ?_); (case side1 => exact qc (Kd.C_below HR0_1.out HB.out)); (case side2 => exact HC0_1.out); rintro e w11 ⟨rfl, hb⟩; replace BK102 := q0 (kb BK102.out hb); replace HB := q0 (below_step (qb HB.out) hb); (try clear hb); (try clear hb2); (try clear hk); (try clear hi)))
 go_ret
 exact ⟨qe, qb HB.out⟩

set_option maxHeartbeats 8000000 in
set_option maxRecDepth 100000 in
theorem laws_FnWayFar.calls (k : Nat) (A0 : Option Addr) (c0 : Nat) (l0 : List Int) (r : Bool) (w : World) (hr0 : Kd.C (Kd.int .u8) w A0 l0.length l0) (hc0 : l0.length ≤ c0) (h : laws_FnWayFar.f k l0 = some r) :
    Calls Try.prog 7 #[.slice A0 l0.length c0] w fun e w' => e = .returned (.bool r) ∧ Below w.heap.size w w' := by
 have hu31 := Try.underlying31
 have HR0 := Aside0.mk hr0
 have HC0 := Aside0.mk hc0
 clear hr0 hc0
 have HB := q0 (Below.refl w.heap.size w)
 have H : (if (l0.length : Int) > 1048576 then (some true) else ((spec_DrawWayFind.f k l0).bind fun bt104 => ((spec_WayFind.f k bt104.1 bt104.2.1 bt104.2.2.1 bt104.2.2.2).bind fun bt100 => ((impl_WayFind.f k bt104.1 bt104.2.1 bt104.2.2.1 bt104.2.2.2).bind fun bt105 => (if (bt105.2 != bt100.2) = true then (laws_FnWayFar.j0 k bt104.2.2.1 bt104.2.2.2 bt100.1 bt100.2 bt105.1 bt105.2 true bt104.1 bt104.2.1) else ((laws_loInts.f k bt105.1 bt100.1).bind fun t106 => (if t106 = true then (laws_FnWayFar.j0 k bt104.2.2.1 bt104.2.2.2 bt100.1 bt100.2 bt105.1 bt105.2 (!bt105.2) bt104.1 bt104.2.1) else (laws_FnWayFar.j0 k bt104.2.2.1 bt104.2.2.2 bt100.1 bt100.2 bt105.1 bt105.2 true bt104.1 bt104.2.1)))))))) = some r := h
 clear h
 by_cases c2 : (l0.length : Int) > 1048576
 · rw [if_pos c2] at H
   have c2b0 : decide (1048576 < (l0.length : Int)) = true := decide_eq_true c2
   have c2b1 : decide (1048576 < l0.length) = true := decide_eq_true (by omega)
   clear c2
   obtain rfl := Option.some.inj H
   go_enter Try.func7, Try.ntmps7
   go_wp2
   go_ret
   exact ⟨qe, qb HB.out⟩
 rw [if_neg c2] at H
 have c2b0 : decide (1048576 < (l0.length : Int)) = false := decide_eq_false c2
 have c2b1 : decide (1048576 < l0.length) = false := decide_eq_false (by omega)
 clear c2
 replace H := Option.bind_eq_some_iff.mp H
 obtain ⟨⟨t104, t107, t108, t109⟩, A30, H⟩ := H
 have A3 := Aside0.mk A30
 clear A30
 replace H := Option.bind_eq_some_iff.mp H
 obtain ⟨⟨t100, t110⟩, A40, H⟩ := H
 have A4 := Aside0.mk A40
 clear A40
 replace H := Option.bind_eq_some_iff.mp H
 obtain ⟨⟨t105, t111⟩, A50, H⟩ := H
 have A5 := Aside0.mk A50
 clear A50
 have HC6 := Aside0.mk H
 clear H
 go_enter Try.func7, Try.ntmps7
 go_upto_region 6 with (first | ((with_reducible refine gate_callee (f := 27) rfl ?_); refine gl 18 Try.func27 #[.slice A0 l0.length c0] ?_; (with_reducible refine (spec_DrawWayFind.calls k _ _ l0 t104 t107 t108 t109 _ ?side1 ?side2 A3.out).mono ?_); (case side1 => repeat (first | exact HR0.out | (with_reducible refine Kd.C_alloc ?_ _) | (with_reducible refine Kd.C_drewN ?_ _) | (with_reducible refine Kd.C_drew ?_))); (case side2 => exact HC0.out); rintro e w7 ⟨v112, rfl, ho0, hb⟩; refine ⟨_, rfl, ?_⟩; have HO113 := q0 (Kd.R_lower ho0 (below_size (qb HB.out))); replace HB := q0 (below_step (qb HB.out) hb); (try clear hb); (try clear hb2); (try clear hk); (try clear hi); (try clear ho0)) | ((with_reducible refine gate_dst (N := 3) rfl ?_); (try (refine gate_guard (by rfl) ?_; dsimp only)); refine be 3 #[.int .i64 0, .slice none 0 0] 31 ?_; intro gb114 hg w8 hbox hb; replace HO113 := q0 (Kd.R_below (qr HO113.out) hb); have BK114 := q0 (hbox); have GW114 := q0 ((bs HB.out hg : w.heap.size ≤ gb114)); have GE114 := q0 ((bs HB.out hg : w.heap.size ≤ gb114)); replace HB := q0 (below_step (qb HB.out) hb); clear hb hbox hg; have hcz9_0 : w8.cell? ⟨gb114, 0, none⟩ = some (.int .i64 0) := (blk_cell BK114.out 0).trans rfl; have hcz9_1 : w8.cell? ⟨gb114, 1, none⟩ = some (.slice none 0 0) := (blk_cell BK114.out 1).trans rfl; have hfz9_0 := blk_frozen BK114.out 0; have hfz9_1 := blk_frozen BK114.out 1; obtain ⟨Ao10, co10, eo10⟩ := Kd.R_slice HO113.out; subst eo10) | ((with_reducible refine gate_callee (f := 14) rfl ?_); refine gl 26 Try.func14 #[.agg #[.int .i64 t104, .slice Ao10 t107.length co10], .int .i64 t108, .int .i64 t109] ?_; (with_reducible refine (spec_WayFind.calls k t104 _ _ t107 t108 t109 t100 t110 _ ?side1 ?side2 A4.out).mono ?_); (case side1 => refine (Kd.R_reads' (e := 74) (base := w.heap.size) (ok := fun k_ => True) (n := t107.length) (c := co10) ?_).2.2; exact (by (with_reducible repeat (first | apply Kd.R_alloc | apply Kd.R_drewN | apply Kd.R_drew)); exact (rf2 HO113.out BK114.out (fun _ h_ => h_.1)))); (case side2 => exact (Kd.R_reads' HO113.out).2.1); rintro e w11 ⟨v115, rfl, ho0, hb⟩; refine ⟨_, rfl, ?_⟩; replace HO113 := q0 (Kd.R_below (by (with_reducible repeat (first | apply Kd.R_alloc | apply Kd.R_drewN | apply Kd.R_drew)); exact (rf2 HO113.out BK114.out (fun _ h_ => h_.1))) hb); have HO116 := q0 (Kd.R_lower ho0 (below_size (qb HB.out))); replace BK114 := q0 (blk_below (g := gb114) (o := .cells #[.int .i64 t104, .slice Ao10 t107.length co10] 31 (0, 0)) (by (with_reducible repeat (first | refine blk_drewN ?_ _ | refine blk_drew ?_ | refine blk_alloc ?_ _)); refine blk_put (cs := #[.int .i64 t104, .slice none 0 0]) ?_ 1 _ rfl; (with_reducible repeat (first | refine blk_drewN ?_ _ | refine blk_drew ?_ | refine blk_alloc ?_ _)); refine blk_put (cs := #[.int .i64 0, .slice none 0 0]) ?_ 0 _ rfl; (with_reducible repeat (first | refine blk_drewN ?_ _ | refine blk_drew ?_ | refine blk_alloc ?_ _)); exact BK114.out) hb); replace HB := q0 (below_step (qb HB.out) hb); (try clear hb); (try clear hb2); (try clear hk); (try clear hi); (try clear ho0); have hcz12_0 : w11.cell? ⟨gb114, 0, none⟩ = some (.int .i64 t104) := (blk_cell BK114.out 0).trans rfl; have hcz12_1 : w11.cell? ⟨gb114, 1, none⟩ = some (.slice Ao10 t107.length co10) := (blk_cell BK114.out 1).trans rfl; have hfz12_0 := blk_frozen BK114.out 0; have hfz12_1 := blk_frozen BK114.out 1) | ((with_reducible refine gate_callee (f := 16) rfl ?_); refine gl 33 Try.func16 #[.agg #[.int .i64 t104, .slice Ao10 t107.length co10], .int .i64 t108, .int .i64 t109] ?_; (with_reducible refine (impl_WayFind.calls k t104 _ _ t107 t108 t109 t105 t111 _ ?side1 ?side2 A5.out).mono ?_); (case side1 => exact qc (Kd.R_reads' HO113.out).2.2); (case side2 => exact (Kd.R_reads' HO113.out).2.1); rintro e w13 ⟨v117, rfl, ho0, hb⟩; refine ⟨_, rfl, ?_⟩; replace HO113 := q0 (Kd.R_below (qr HO113.out) hb); have HO118 := q0 (Kd.R_lower (Kd.R_new' ho0 (Kd.R_lt (qr HO116.out))) (below_size (qb HB.out))); replace HO116 := q0 (Kd.R_elder' (qr HO116.out) (Kd.R_base ho0) hb); replace BK114 := q0 (kb BK114.out hb); replace HB := q0 (below_step (qb HB.out) hb); (try clear hb); (try clear hb2); (try clear hk); (try clear hi); (try clear ho0)))
 (try simp only [Act.put, List.setIfInBounds_toArray, List.set_cons_zero, List.set_cons_succ])
 go_cut [48] (fun v48 wc => ∃ (kq : Nat) (x48_5 : Bool), v48 = .bool x48_5 ∧ Aside0 (laws_FnWayFar.j0 kq t108 t109 t100 t110 t105 t111 x48_5 t104 t107 = some r) ∧ Aside0 (kq ≤ k) ∧ Aside0 (Kd.R (Kd.int .i64) 3 wc w.heap.size (fun k_ => some k_ ≠ (v117 : Value).ownBlock) v115 t100) ∧ Aside0 (Kd.R (Kd.int .i64) 3 wc w.heap.size (fun k_ => some k_ ≠ (v115 : Value).ownBlock) v117 t105) ∧ Aside0 (Kd.R kTie 74 wc w.heap.size (fun _ => True) (.slice Ao10 t107.length co10) t107) ∧ Aside0 (wc.heap[gb114]? = some (.cells #[.int .i64 t104, (.slice Ao10 t107.length co10)] 31 (0, 0))) ∧ Aside0 (Below w.heap.size w wc))
 case first =>
   have H := HC6.out
   clear HC6
   by_cases c14 : (t111 != t110) = true
   · rw [if_pos c14] at H
     have c14b0 : (t111 != t110) = true := c14
     (try (have c14b1 : decide (t111 = t110) = false := by simpa using c14))
     (try (have c14b2 : (t111 == t110) = false := by simpa using c14))
     (try (have c14b3 : ¬ (t111 = t110) := by simpa using c14))
     clear c14
     (first | rw [c14b0] | (simp only [i64_w, i32_w]; rw [c14b0]) | skip)
     have H' := Aside0.mk H
     clear H
     go_wp2
     go_meet
     case rel => exact ⟨_, (true), qs, H', ⟨by first | omega | exact Nat.le_refl _⟩, ⟨by (with_reducible repeat (first | apply Kd.R_alloc | apply Kd.R_drewN | apply Kd.R_drew)); exact Kd.R_mono HO116.out (fun _ hk => hk.2)⟩, ⟨by (with_reducible repeat (first | apply Kd.R_alloc | apply Kd.R_drewN | apply Kd.R_drew)); exact Kd.R_mono HO118.out (fun _ hk => hk.2)⟩, ⟨qr HO113.out⟩, ⟨qk BK114.out⟩, ⟨qb HB.out⟩⟩
   rw [if_neg c14] at H
   have c14b0 : (t111 != t110) = false := by simpa using c14
   (try (have c14b1 : decide (t111 = t110) = true := by simpa using c14))
   (try (have c14b2 : (t111 == t110) = true := by simpa using c14))
   clear c14
   (first | rw [c14b0] | (simp only [i64_w, i32_w]; rw [c14b0]) | skip)
   replace H := Option.bind_eq_some_iff.mp H
   obtain ⟨t106, A119, H⟩ := H
   have A15 := Aside0.mk A119
   clear A119
   by_cases c16 : t106 = true
   · subst c16
     rw [if_pos rfl] at H
     have H' := Aside0.mk H
     clear H
     obtain ⟨Ao17, co17, eo17⟩ := Kd.R_slice HO118.out
     subst eo17
     obtain ⟨Ao18, co18, eo18⟩ := Kd.R_slice HO116.out
     subst eo18
     go_wp2_with (first | (go_at_call 28; (with_reducible refine (laws_loInts.calls k _ _ t105 _ _ t100 true _ ?side1 ?side2 ?side3 ?side4 A15.out).mono ?_); (case side1 => exact qc (Kd.R_reads' HO118.out).2.2); (case side2 => exact (Kd.R_reads' HO118.out).2.1); (case side3 => exact qc (Kd.R_reads' HO116.out).2.2); (case side4 => exact (Kd.R_reads' HO116.out).2.1); rintro e w' ⟨rfl, ⟨nd, rfl⟩⟩))
     go_meet
     case rel => exact ⟨_, (!t111), qs, H', ⟨by first | omega | exact Nat.le_refl _⟩, ⟨by (with_reducible repeat (first | apply Kd.R_alloc | apply Kd.R_drewN | apply Kd.R_drew)); exact Kd.R_mono HO116.out (fun _ hk => hk.2)⟩, ⟨by (with_reducible repeat (first | apply Kd.R_alloc | apply Kd.R_drewN | apply Kd.R_drew)); exact Kd.R_mono HO118.out (fun _ hk => hk.2)⟩, ⟨qr HO113.out⟩, ⟨qk BK114.out⟩, ⟨qb HB.out⟩⟩
   replace c16 := Bool.eq_false_iff.mpr c16
   subst c16
   rw [if_neg nf] at H
   have H' := Aside0.mk H
   clear H
   obtain ⟨Ao19, co19, eo19⟩ := Kd.R_slice HO118.out
   subst eo19
   obtain ⟨Ao20, co20, eo20⟩ := Kd.R_slice HO116.out
   subst eo20
   go_wp2_with (first | (go_at_call 28; (with_reducible refine (laws_loInts.calls k _ _ t105 _ _ t100 false _ ?side1 ?side2 ?side3 ?side4 A15.out).mono ?_); (case side1 => exact qc (Kd.R_reads' HO118.out).2.2); (case side2 => exact (Kd.R_reads' HO118.out).2.1); (case side3 => exact qc (Kd.R_reads' HO116.out).2.2); (case side4 => exact (Kd.R_reads' HO116.out).2.1); rintro e w' ⟨rfl, ⟨nd, rfl⟩⟩))
   go_meet
   case rel => exact ⟨_, (true), qs, H', ⟨by first | omega | exact Nat.le_refl _⟩, ⟨by (with_reducible repeat (first | apply Kd.R_alloc | apply Kd.R_drewN | apply Kd.R_drew)); exact Kd.R_mono HO116.out (fun _ hk => hk.2)⟩, ⟨by (with_reducible repeat (first | apply Kd.R_alloc | apply Kd.R_drewN | apply Kd.R_drew)); exact Kd.R_mono HO118.out (fun _ hk => hk.2)⟩, ⟨qr HO113.out⟩, ⟨qk BK114.out⟩, ⟨qb HB.out⟩⟩
 clear HC6
 try clear c1
 try clear c2
 try clear c2b0
 try clear c2b1
 try clear p2
 try clear c7
 try clear c14
 try clear c14b0
 try clear c14b1
 try clear c14b2
 try clear c16
 try clear hcz12_0
 try clear hcz12_1
 try clear hcz9_0
 try clear hcz9_1
 try clear hfz12_0
 try clear hfz12_1
 try clear hfz9_0
 try clear hfz9_1
 obtain ⟨kq, x48_5, rfl, HA, HJ5, HO_6, HO_8, HO_100001, BK114, HB⟩ := hcut
 rcases kq with _ | kj5
 · exact absurd HA.out (by simp [laws_FnWayFar.j0])
 have H := HA.out
 clear HA
 simp only [laws_FnWayFar.j0] at H
 by_cases c21 : x48_5 = true
 · subst c21
   rw [if_pos rfl] at H
   by_cases c22 : (t111 == t110) = true
   rotate_left
   · rw [if_neg c22] at H
     have c22b0 : (t111 == t110) = false := by simpa using c22
     (try (have c22b1 : decide (t111 = t110) = false := by simpa using c22))
     (try (have c22b2 : (t111 == t110) = false := by simpa using c22))
     (try (have c22b3 : ¬ (t111 = t110) := by simpa using c22))
     clear c22
     obtain rfl := Option.some.inj H
     go_wp2
     go_ret
     exact ⟨qe, qb HB.out⟩
   rw [if_pos c22] at H
   have c22b0 : (t111 == t110) = true := c22
   (try (have c22b1 : decide (t111 = t110) = true := by simpa using c22))
   (try (have c22b2 : (t111 == t110) = true := by simpa using c22))
   clear c22
   replace H := Option.bind_eq_some_iff.mp H
   obtain ⟨t101, A120, H⟩ := H
   have A23 := Aside0.mk A120
   clear A120
   obtain rfl := Option.some.inj H
   obtain ⟨Ao24, co24, eo24⟩ := Kd.R_slice HO_8.out
   subst eo24
   obtain ⟨Ao25, co25, eo25⟩ := Kd.R_slice HO_6.out
   subst eo25
   go_wp2_with (first | (go_at_call 28; (with_reducible refine (laws_loInts.calls kj5 _ _ t105 _ _ t100 t101 _ ?side1 ?side2 ?side3 ?side4 A23.out).mono ?_); (case side1 => exact qc (Kd.R_reads' HO_8.out).2.2); (case side2 => exact (Kd.R_reads' HO_8.out).2.1); (case side3 => exact qc (Kd.R_reads' HO_6.out).2.2); (case side4 => exact (Kd.R_reads' HO_6.out).2.1); rintro e w' ⟨rfl, ⟨nd, rfl⟩⟩))
   go_ret
   exact ⟨qe, qb HB.out⟩
 replace c21 := Bool.eq_false_iff.mpr c21
 subst c21
 rw [if_neg nf] at H
 have H' := Aside0.mk H
 clear H
 go_wp2
 go_loopg [10] kj5 (fun kq v10 w' => ∃ (x10_2 : Int), v10 = .int .i64 x10_2 ∧ Aside0 (laws_FnWayFar.l0 kq t108 t109 t105 x10_2 t104 t107 = some r) ∧ Aside0 (kq ≤ kj5) ∧ Aside0 (Kd.R (Kd.int .i64) 3 w' w.heap.size (fun _ => True) v117 t105) ∧ Aside0 (Kd.R kTie 74 w' w.heap.size (fun _ => True) (.slice Ao10 t107.length co10) t107) ∧ Aside0 (w'.heap[gb114]? = some (.cells #[.int .i64 t104, (.slice Ao10 t107.length co10)] 31 (0, 0))) ∧ Aside0 (Below w.heap.size w w'))
 case atStart => exact ⟨(0), qs, H', ⟨Nat.le_refl _⟩, ⟨by (with_reducible repeat (first | apply Kd.R_alloc | apply Kd.R_drewN | apply Kd.R_drew)); exact Kd.R_mono HO_8.out (fun _ hk => trivial)⟩, ⟨qr HO_100001.out⟩, ⟨qk BK114.out⟩, ⟨qb HB.out⟩⟩
 clear H'
 try clear c1
 try clear c2
 try clear c2b0
 try clear c2b1
 try clear p2
 try clear c7
 try clear c14
 try clear c14b0
 try clear c14b1
 try clear c14b2
 try clear c16
 try clear c21
 try clear c22
 try clear c22b0
 try clear c22b1
 try clear c22b2
 try clear hcz12_0
 try clear hcz12_1
 try clear hcz9_0
 try clear hcz9_1
 try clear hfz12_0
 try clear hfz12_1
 try clear hfz9_0
 try clear hfz9_1
 try clear p2
 obtain ⟨x10_2, rfl, HA, HK2, HO_8, HO_100001, BK114, HB⟩ := hrel
 rcases gk with _ | k2
 · exact absurd HA.out (by simp [laws_FnWayFar.l0])
 have H := HA.out
 clear HA
 simp only [laws_FnWayFar.l0] at H
 by_cases c26 : x10_2 < t104
 rotate_left
 · rw [if_neg c26] at H
   have c26b0 : decide (x10_2 < t104) = false := decide_eq_false c26
   clear c26
   obtain rfl := Option.some.inj H
   have hcz57_0 : wr.cell? ⟨gb114, 0, none⟩ = some (.int .i64 t104) := (blk_cell BK114.out 0).trans rfl
   have hcz57_1 : wr.cell? ⟨gb114, 1, none⟩ = some (.slice Ao10 t107.length co10) := (blk_cell BK114.out 1).trans rfl
   have hfz57_0 := blk_frozen BK114.out 0
   have hfz57_1 := blk_frozen BK114.out 1
   go_wp2
   go_ret
   exact ⟨qe, qb HB.out⟩
 rw [if_pos c26] at H
 have c26b0 : decide (x10_2 < t104) = true := decide_eq_true c26
 clear c26
 replace H := Option.bind_eq_some_iff.mp H
 obtain ⟨t102, A121, H⟩ := H
 have A27 := Aside0.mk A121
 clear A121
 by_cases c28 : t102 = true
 rotate_left
 · replace c28 := Bool.eq_false_iff.mpr c28
   subst c28
   rw [if_neg nf] at H
   have H' := Aside0.mk H
   clear H
   have hcz55_0 : wr.cell? ⟨gb114, 0, none⟩ = some (.int .i64 t104) := (blk_cell BK114.out 0).trans rfl
   have hcz55_1 : wr.cell? ⟨gb114, 1, none⟩ = some (.slice Ao10 t107.length co10) := (blk_cell BK114.out 1).trans rfl
   have hfz55_0 := blk_frozen BK114.out 0
   have hfz55_1 := blk_frozen BK114.out 1
   go_wp2_with (first | ((with_reducible refine gate_callee (f := 29) rfl ?_); refine gl 66 Try.func29 #[.agg #[.int .i64 t104, .slice Ao10 t107.length co10], .int .i64 t109, .int .i64 x10_2] ?_; (with_reducible refine (impl_NetHas.calls k2 t104 _ _ t107 t109 x10_2 false _ ?side1 ?side2 A27.out).mono ?_); (case side1 => exact qc (Kd.R_reads' HO_100001.out).2.2); (case side2 => exact (Kd.R_reads' HO_100001.out).2.1); rintro e w56 ⟨rfl, hb⟩; refine ⟨_, rfl, ?_⟩; replace HO_8 := q0 (Kd.R_below (qr HO_8.out) hb); replace HO_100001 := q0 (Kd.R_below (qr HO_100001.out) hb); replace BK114 := q0 (kb BK114.out hb); replace HB := q0 (below_step (qb HB.out) hb); (try clear hb); (try clear hb2); (try clear hk); (try clear hi)))
   go_roundg k2
   case measure => have := HJ5.out; have := HK2.out; omega
   case rel => exact ⟨(wrap64 (x10_2 + 1)), qs, H', ⟨by have := HJ5.out; have := HK2.out; omega⟩, ⟨qr HO_8.out⟩, ⟨qr HO_100001.out⟩, ⟨qk BK114.out⟩, ⟨qb HB.out⟩⟩
 subst c28
 rw [if_pos rfl] at H
 replace H := Option.bind_eq_some_iff.mp H
 obtain ⟨⟨t103, t122⟩, A123, H⟩ := H
 have A29 := Aside0.mk A123
 clear A123
 by_cases c30 : t122 = true
 rotate_left
 · replace c30 := Bool.eq_false_iff.mpr c30
   subst c30
   rw [if_neg nf] at H
   obtain rfl := Option.some.inj H
   have hcz51_0 : wr.cell? ⟨gb114, 0, none⟩ = some (.int .i64 t104) := (blk_cell BK114.out 0).trans rfl
   have hcz51_1 : wr.cell? ⟨gb114, 1, none⟩ = some (.slice Ao10 t107.length co10) := (blk_cell BK114.out 1).trans rfl
   have hfz51_0 := blk_frozen BK114.out 0
   have hfz51_1 := blk_frozen BK114.out 1
   go_wp2_with (first | ((with_reducible refine gate_callee (f := 29) rfl ?_); refine gl 66 Try.func29 #[.agg #[.int .i64 t104, .slice Ao10 t107.length co10], .int .i64 t109, .int .i64 x10_2] ?_; (with_reducible refine (impl_NetHas.calls k2 t104 _ _ t107 t109 x10_2 true _ ?side1 ?side2 A27.out).mono ?_); (case side1 => exact qc (Kd.R_reads' HO_100001.out).2.2); (case side2 => exact (Kd.R_reads' HO_100001.out).2.1); rintro e w52 ⟨rfl, hb⟩; refine ⟨_, rfl, ?_⟩; replace HO_8 := q0 (Kd.R_below (qr HO_8.out) hb); replace HO_100001 := q0 (Kd.R_below (qr HO_100001.out) hb); replace BK114 := q0 (kb BK114.out hb); replace HB := q0 (below_step (qb HB.out) hb); (try clear hb); (try clear hb2); (try clear hk); (try clear hi); have hcz53_0 : w52.cell? ⟨gb114, 0, none⟩ = some (.int .i64 t104) := (blk_cell BK114.out 0).trans rfl; have hcz53_1 : w52.cell? ⟨gb114, 1, none⟩ = some (.slice Ao10 t107.length co10) := (blk_cell BK114.out 1).trans rfl; have hfz53_0 := blk_frozen BK114.out 0; have hfz53_1 := blk_frozen BK114.out 1) | ((with_reducible refine gate_callee (f := 16) rfl ?_); refine gl 72 Try.func16 #[.agg #[.int .i64 t104, .slice Ao10 t107.length co10], .int .i64 t108, .int .i64 x10_2] ?_; (with_reducible refine (impl_WayFind.calls k2 t104 _ _ t107 t108 x10_2 t103 false _ ?side1 ?side2 A29.out).mono ?_); (case side1 => exact qc (Kd.R_reads' HO_100001.out).2.2); (case side2 => exact (Kd.R_reads' HO_100001.out).2.1); rintro e w54 ⟨v124, rfl, ho0, hb⟩; refine ⟨_, rfl, ?_⟩; replace HO_100001 := q0 (Kd.R_below (qr HO_100001.out) hb); have HO125 := q0 (Kd.R_lower (Kd.R_new' ho0 (Kd.R_lt (qr HO_8.out))) (below_size (qb HB.out))); replace HO_8 := q0 (Kd.R_elder' (qr HO_8.out) (Kd.R_base ho0) hb); replace BK114 := q0 (kb BK114.out hb); replace HB := q0 (below_step (qb HB.out) hb); (try clear hb); (try clear hb2); (try clear hk); (try clear hi); (try clear ho0)))
   go_ret
   exact ⟨qe, qb HB.out⟩
 subst c30
 rw [if_pos rfl] at H
 by_cases c31 : (t103.length : Int) > (wrap64 ((t105.length : Int) + 1))
 · rw [if_pos c31] at H
   have c31b0 : decide ((wrap64 ((t105.length : Int) + 1)) < (t103.length : Int)) = true := decide_eq_true c31
   clear c31
   obtain rfl := Option.some.inj H
   have hcz32_0 : wr.cell? ⟨gb114, 0, none⟩ = some (.int .i64 t104) := (blk_cell BK114.out 0).trans rfl
   have hcz32_1 : wr.cell? ⟨gb114, 1, none⟩ = some (.slice Ao10 t107.length co10) := (blk_cell BK114.out 1).trans rfl
   have hfz32_0 := blk_frozen BK114.out 0
   have hfz32_1 := blk_frozen BK114.out 1
   go_wp2_with (first | ((with_reducible refine gate_callee (f := 29) rfl ?_); refine gl 66 Try.func29 #[.agg #[.int .i64 t104, .slice Ao10 t107.length co10], .int .i64 t109, .int .i64 x10_2] ?_; (with_reducible refine (impl_NetHas.calls k2 t104 _ _ t107 t109 x10_2 true _ ?side1 ?side2 A27.out).mono ?_); (case side1 => exact qc (Kd.R_reads' HO_100001.out).2.2); (case side2 => exact (Kd.R_reads' HO_100001.out).2.1); rintro e w33 ⟨rfl, hb⟩; refine ⟨_, rfl, ?_⟩; replace HO_8 := q0 (Kd.R_below (qr HO_8.out) hb); replace HO_100001 := q0 (Kd.R_below (qr HO_100001.out) hb); replace BK114 := q0 (kb BK114.out hb); replace HB := q0 (below_step (qb HB.out) hb); (try clear hb); (try clear hb2); (try clear hk); (try clear hi); have hcz34_0 : w33.cell? ⟨gb114, 0, none⟩ = some (.int .i64 t104) := (blk_cell BK114.out 0).trans rfl; have hcz34_1 : w33.cell? ⟨gb114, 1, none⟩ = some (.slice Ao10 t107.length co10) := (blk_cell BK114.out 1).trans rfl; have hfz34_0 := blk_frozen BK114.out 0; have hfz34_1 := blk_frozen BK114.out 1) | ((with_reducible refine gate_callee (f := 16) rfl ?_); refine gl 72 Try.func16 #[.agg #[.int .i64 t104, .slice Ao10 t107.length co10], .int .i64 t108, .int .i64 x10_2] ?_; (with_reducible refine (impl_WayFind.calls k2 t104 _ _ t107 t108 x10_2 t103 true _ ?side1 ?side2 A29.out).mono ?_); (case side1 => exact qc (Kd.R_reads' HO_100001.out).2.2); (case side2 => exact (Kd.R_reads' HO_100001.out).2.1); rintro e w35 ⟨v124, rfl, ho0, hb⟩; refine ⟨_, rfl, ?_⟩; replace HO_100001 := q0 (Kd.R_below (qr HO_100001.out) hb); have HO125 := q0 (Kd.R_lower (Kd.R_new' ho0 (Kd.R_lt (qr HO_8.out))) (below_size (qb HB.out))); replace HO_8 := q0 (Kd.R_elder' (qr HO_8.out) (Kd.R_base ho0) hb); replace BK114 := q0 (kb BK114.out hb); replace HB := q0 (below_step (qb HB.out) hb); (try clear hb); (try clear hb2); (try clear hk); (try clear hi); (try clear ho0); obtain ⟨Ao36, co36, eo36⟩ := Kd.R_slice HO125.out; subst eo36; obtain ⟨Ao37, co37, eo37⟩ := Kd.R_slice HO_8.out; subst eo37))
   go_ret
   exact ⟨qe, qb HB.out⟩
 rw [if_neg c31] at H
 have c31b0 : decide ((wrap64 ((t105.length : Int) + 1)) < (t103.length : Int)) = false := decide_eq_false c31
 clear c31
 by_cases c38 : (t103.length : Int) < (wrap64 ((t105.length : Int) - 1))
 · rw [if_pos c38] at H
   have c38b0 : decide ((t103.length : Int) < (wrap64 ((t105.length : Int) - 1))) = true := decide_eq_true c38
   clear c38
   obtain rfl := Option.some.inj H
   have hcz39_0 : wr.cell? ⟨gb114, 0, none⟩ = some (.int .i64 t104) := (blk_cell BK114.out 0).trans rfl
   have hcz39_1 : wr.cell? ⟨gb114, 1, none⟩ = some (.slice Ao10 t107.length co10) := (blk_cell BK114.out 1).trans rfl
   have hfz39_0 := blk_frozen BK114.out 0
   have hfz39_1 := blk_frozen BK114.out 1
   go_wp2_with (first | ((with_reducible refine gate_callee (f := 29) rfl ?_); refine gl 66 Try.func29 #[.agg #[.int .i64 t104, .slice Ao10 t107.length co10], .int .i64 t109, .int .i64 x10_2] ?_; (with_reducible refine (impl_NetHas.calls k2 t104 _ _ t107 t109 x10_2 true _ ?side1 ?side2 A27.out).mono ?_); (case side1 => exact qc (Kd.R_reads' HO_100001.out).2.2); (case side2 => exact (Kd.R_reads' HO_100001.out).2.1); rintro e w40 ⟨rfl, hb⟩; refine ⟨_, rfl, ?_⟩; replace HO_8 := q0 (Kd.R_below (qr HO_8.out) hb); replace HO_100001 := q0 (Kd.R_below (qr HO_100001.out) hb); replace BK114 := q0 (kb BK114.out hb); replace HB := q0 (below_step (qb HB.out) hb); (try clear hb); (try clear hb2); (try clear hk); (try clear hi); have hcz41_0 : w40.cell? ⟨gb114, 0, none⟩ = some (.int .i64 t104) := (blk_cell BK114.out 0).trans rfl; have hcz41_1 : w40.cell? ⟨gb114, 1, none⟩ = some (.slice Ao10 t107.length co10) := (blk_cell BK114.out 1).trans rfl; have hfz41_0 := blk_frozen BK114.out 0; have hfz41_1 := blk_frozen BK114.out 1) | ((with_reducible refine gate_callee (f := 16) rfl ?_); refine gl 72 Try.func16 #[.agg #[.int .i64 t104, .slice Ao10 t107.length co10], .int .i64 t108, .int .i64 x10_2] ?_; (with_reducible refine (impl_WayFind.calls k2 t104 _ _ t107 t108 x10_2 t103 true _ ?side1 ?side2 A29.out).mono ?_); (case side1 => exact qc (Kd.R_reads' HO_100001.out).2.2); (case side2 => exact (Kd.R_reads' HO_100001.out).2.1); rintro e w42 ⟨v124, rfl, ho0, hb⟩; refine ⟨_, rfl, ?_⟩; replace HO_100001 := q0 (Kd.R_below (qr HO_100001.out) hb); have HO125 := q0 (Kd.R_lower (Kd.R_new' ho0 (Kd.R_lt (qr HO_8.out))) (below_size (qb HB.out))); replace HO_8 := q0 (Kd.R_elder' (qr HO_8.out) (Kd.R_base ho0) hb); replace BK114 := q0 (kb BK114.out hb); replace HB := q0 (below_step (qb HB.out) hb); (try clear hb); (try clear hb2); (try clear hk); (try clear hi); (try clear ho0); obtain ⟨Ao43, co43, eo43⟩ := Kd.R_slice HO125.out; subst eo43; obtain ⟨Ao44, co44, eo44⟩ := Kd.R_slice HO_8.out; subst eo44))
   go_ret
   exact ⟨qe, qb HB.out⟩
 rw [if_neg c38] at H
 have c38b0 : decide ((t103.length : Int) < (wrap64 ((t105.length : Int) - 1))) = false := decide_eq_false c38
 clear c38
 have H' := Aside0.mk H
 clear H
 have hcz45_0 : wr.cell? ⟨gb114, 0, none⟩ = some (.int .i64 t104) := (blk_cell BK114.out 0).trans rfl
 have hcz45_1 : wr.cell? ⟨gb114, 1, none⟩ = some (.slice Ao10 t107.length co10) := (blk_cell BK114.out 1).trans rfl
 have hfz45_0 := blk_frozen BK114.out 0
 have hfz45_1 := blk_frozen BK114.out 1
 go_wp2_with (first | ((with_reducible refine gate_callee (f := 29) rfl ?_); refine gl 66 Try.func29 #[.agg #[.int .i64 t104, .slice Ao10 t107.length co10], .int .i64 t109, .int .i64 x10_2] ?_; (with_reducible refine (impl_NetHas.calls k2 t104 _ _ t107 t109 x10_2 true _ ?side1 ?side2 A27.out).mono ?_); (case side1 => exact qc (Kd.R_reads' HO_100001.out).2.2); (case side2 => exact (Kd.R_reads' HO_100001.out).2.1); rintro e w46 ⟨rfl, hb⟩; refine ⟨_, rfl, ?_⟩; replace HO_8 := q0 (Kd.R_below (qr HO_8.out) hb); replace HO_100001 := q0 (Kd.R_below (qr HO_100001.out) hb); replace BK114 := q0 (kb BK114.out hb); replace HB := q0 (below_step (qb HB.out) hb); (try clear hb); (try clear hb2); (try clear hk); (try clear hi); have hcz47_0 : w46.cell? ⟨gb114, 0, none⟩ = some (.int .i64 t104) := (blk_cell BK114.out 0).trans rfl; have hcz47_1 : w46.cell? ⟨gb114, 1, none⟩ = some (.slice Ao10 t107.length co10) := (blk_cell BK114.out 1).trans rfl; have hfz47_0 := blk_frozen BK114.out 0; have hfz47_1 := blk_frozen BK114.out 1) | ((with_reducible refine gate_callee (f := 16) rfl ?_); refine gl 72 Try.func16 #[.agg #[.int .i64 t104, .slice Ao10 t107.length co10], .int .i64 t108, .int .i64 x10_2] ?_; (with_reducible refine (impl_WayFind.calls k2 t104 _ _ t107 t108 x10_2 t103 true _ ?side1 ?side2 A29.out).mono ?_); (case side1 => exact qc (Kd.R_reads' HO_100001.out).2.2); (case side2 => exact (Kd.R_reads' HO_100001.out).2.1); rintro e w48 ⟨v124, rfl, ho0, hb⟩; refine ⟨_, rfl, ?_⟩; replace HO_100001 := q0 (Kd.R_below (qr HO_100001.out) hb); have HO125 := q0 (Kd.R_lower (Kd.R_new' ho0 (Kd.R_lt (qr HO_8.out))) (below_size (qb HB.out))); replace HO_8 := q0 (Kd.R_elder' (qr HO_8.out) (Kd.R_base ho0) hb); replace BK114 := q0 (kb BK114.out hb); replace HB := q0 (below_step (qb HB.out) hb); (try clear hb); (try clear hb2); (try clear hk); (try clear hi); (try clear ho0); obtain ⟨Ao49, co49, eo49⟩ := Kd.R_slice HO125.out; subst eo49; obtain ⟨Ao50, co50, eo50⟩ := Kd.R_slice HO_8.out; subst eo50))
 go_roundg k2
 case measure => have := HJ5.out; have := HK2.out; omega
 case rel => exact ⟨(wrap64 (x10_2 + 1)), qs, H', ⟨by have := HJ5.out; have := HK2.out; omega⟩, ⟨by (with_reducible repeat (first | apply Kd.R_alloc | apply Kd.R_drewN | apply Kd.R_drew)); exact Kd.R_mono HO_8.out (fun _ hk => trivial)⟩, ⟨qr HO_100001.out⟩, ⟨qk BK114.out⟩, ⟨qb HB.out⟩⟩

theorem laws_FnWayFar.walk (P : laws_FnWayFar.Pure) (a0 : Option Addr) (len0 cap0 : Nat) (z0 : List Int) (w : World) (w0 : (a0 = none ∧ len0 = 0 ∧ cap0 = 0 ∧ z0 = []) ∨ ∃ x, a0 = some x ∧ len0 ≤ cap0 ∧ cap0 ≤ maxLen ∧ z0.length = cap0 ∧ (∀ i, i < z0.length → w.cell? (x.add i) = some (.int .u8 (z0.getD i 0))) ∧ ∀ n ∈ z0, (Lit.int .u8 n).wf = true) (y0 : len0 * 1 ≤ 140737488351232) :
    Calls Try.prog 7 #[.slice a0 len0 cap0] w fun e w' => e = .returned (.bool true) ∧ Below w.heap.size w w' := by
  obtain ⟨l0, rfl, hr0, hm0, hw0, hc0⟩ := ReadsInt.ofRowC w0
  obtain ⟨k, h⟩ := P l0 hm0 y0 hw0
  refine (laws_FnWayFar.calls k _ _ l0 true w (Kd.C_of_reads (d := (0 : Int)) (h1 := fun _ => rfl) hr0) hc0 h).mono ?_
  rintro e w' ⟨rfl, hd⟩
  exact ⟨rfl, hd⟩
end Go.Proofs.Ytmfmeenfhdohcaa.P
