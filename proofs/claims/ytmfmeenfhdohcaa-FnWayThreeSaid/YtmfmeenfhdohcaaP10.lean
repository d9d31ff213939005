import Derived.Test.YtmfmeenfhdohcaaP0
import Derived.Test.YtmfmeenfhdohcaaP3
import Derived.Test.YtmfmeenfhdohcaaP5
import Derived.Test.YtmfmeenfhdohcaaP6
namespace Go.Proofs.Ytmfmeenfhdohcaa.P
open Go.RowKit Go.Proofs.YtmfmeenfhdohcaaW.PrintWords Go.Proofs.YtmfmeenfhdohcaaW.PrintLast Go.Proofs.YtmfmeenfhdohcaaW.PrintMore
attribute [local go_sem] max2_int min2_int max_two min_two max_three min_three max_four min_four
set_option linter.unusedVariables false
set_option linter.unusedSimpArgs false
attribute [local go_sem high] eqATie
set_option maxHeartbeats 8000000 in
set_option maxRecDepth 100000 in
theorem laws_FnWayThree.calls (k : Nat) (A0 : Option Addr) (c0 : Nat) (l0 : List Int) (A1 : Option Addr) (c1 : Nat) (l1 : List Int) (r : Bool) (w : World) (hr0 : Kd.C (Kd.int .u8) w A0 l0.length l0) (hc0 : l0.length ≤ c0) (hr1 : Kd.C (Kd.int .u8) w A1 l1.length l1) (hc1 : l1.length ≤ c1) (h : laws_FnWayThree.f k l0 l1 = some r) :
    Calls Try.prog 6 #[.slice A0 l0.length c0, .slice A1 l1.length c1] w fun e w' => e = .returned (.bool r) ∧ Below w.heap.size w w' := by
 have hu31 := Try.underlying31
 have HR0 := Aside0.mk hr0
 have HC0 := Aside0.mk hc0
 clear hr0 hc0
 have HR1 := Aside0.mk hr1
 have HC1 := Aside0.mk hc1
 clear hr1 hc1
 have HB := q0 (Below.refl w.heap.size w)
 have H : (if (l0.length : Int) > 1048576 then (laws_FnWayThree.j0 k l0 l1 true) else (laws_FnWayThree.j0 k l0 l1 (decide ((l1.length : Int) > 1048576)))) = some r := h
 clear h
 have HC3 := Aside0.mk H
 clear H
 go_enter Try.func6, Try.ntmps6
 go_upto_region 1 with (fail)
 go_cut [24] (fun v24 wc => ∃ (kq : Nat) (x24_2 : Bool), v24 = .bool x24_2 ∧ Aside0 (laws_FnWayThree.j0 kq l0 l1 x24_2 = some r) ∧ Aside0 (kq ≤ k) ∧ Aside0 (Below w.heap.size w wc))
 case first =>
   have H := HC3.out
   clear HC3
   by_cases c4 : (l0.length : Int) > 1048576
   · rw [if_pos c4] at H
     have c4b0 : decide (1048576 < (l0.length : Int)) = true := decide_eq_true c4
     have c4b1 : decide (1048576 < l0.length) = true := decide_eq_true (by omega)
     clear c4
     (first | rw [c4b0] | (simp only [i64_w, i32_w]; rw [c4b0]) | skip)
     have H' := Aside0.mk H
     clear H
     go_wp2
     go_meet
     case rel => exact ⟨_, (true), qs, H', ⟨by first | omega | exact Nat.le_refl _⟩, ⟨qb HB.out⟩⟩
   rw [if_neg c4] at H
   have c4b0 : decide (1048576 < (l0.length : Int)) = false := decide_eq_false c4
   have c4b1 : decide (1048576 < l0.length) = false := decide_eq_false (by omega)
   clear c4
   (first | rw [c4b0] | (simp only [i64_w, i32_w]; rw [c4b0]) | skip)
   have H' := Aside0.mk H
   clear H
   go_wp2
   go_meet
   case rel => exact ⟨_, (decide ((l1.length : Int) > 1048576)), qs, H', ⟨by first | omega | exact Nat.le_refl _⟩, ⟨qb HB.out⟩⟩
 clear HC3
 try clear c1
 try clear p2
 try clear c4
 try clear c4b0
 try clear c4b1
 obtain ⟨kq, x24_2, rfl, HA, HJ2, HB⟩ := hcut
 rcases kq with _ | kj2
 · exact absurd HA.out (by simp [laws_FnWayThree.j0])
 have H := HA.out
 clear HA
 simp only [laws_FnWayThree.j0] at H
 by_cases c5 : x24_2 = true
 · subst c5
   rw [if_pos rfl] at H
   obtain rfl := Option.some.inj H
   go_wp2
   go_ret
   exact ⟨qe, qb HB.out⟩
 replace c5 := Bool.eq_false_iff.mpr c5
 subst c5
 rw [if_neg nf] at H
 replace H := Option.bind_eq_some_iff.mp H
 obtain ⟨⟨t100, t107, t108, t109⟩, A60, H⟩ := H
 have A6 := Aside0.mk A60
 clear A60
 replace H := Option.bind_eq_some_iff.mp H
 obtain ⟨⟨t101, t110⟩, A70, H⟩ := H
 have A7 := Aside0.mk A70
 clear A70
 replace H := Option.bind_eq_some_iff.mp H
 obtain ⟨⟨t102, t111⟩, A80, H⟩ := H
 have A8 := Aside0.mk A80
 clear A80
 have HC9 := Aside0.mk H
 clear H
 go_upto_region 6 with (first | ((with_reducible refine gate_callee (f := 27) rfl ?_); refine gl 27 Try.func27 #[.slice A0 l0.length c0] ?_; (with_reducible refine (spec_DrawWayFind.calls kj2 _ _ l0 t100 t107 t108 t109 _ ?side1 ?side2 A6.out).mono ?_); (case side1 => exact qc (Kd.C_below HR0.out HB.out)); (case side2 => exact HC0.out); rintro e w10 ⟨v112, rfl, ho0, hb⟩; refine ⟨_, rfl, ?_⟩; have HO113 := q0 (Kd.R_lower ho0 (below_size (qb HB.out))); replace HB := q0 (below_step (qb HB.out) hb); (try clear hb); (try clear hb2); (try clear hk); (try clear hi); (try clear ho0)) | ((with_reducible refine gate_dst (N := 5) rfl ?_); (try (refine gate_guard (by rfl) ?_; dsimp only)); refine be 5 #[.int .i64 0, .slice none 0 0] 31 ?_; intro gb114 hg w11 hbox hb; replace HO113 := q0 (Kd.R_below (qr HO113.out) hb); have BK114 := q0 (hbox); have GW114 := q0 ((bs HB.out hg : w.heap.size ≤ gb114)); have GE114 := q0 ((bs HB.out hg : w.heap.size ≤ gb114)); replace HB := q0 (below_step (qb HB.out) hb); clear hb hbox hg; have hcz12_0 : w11.cell? ⟨gb114, 0, none⟩ = some (.int .i64 0) := (blk_cell BK114.out 0).trans rfl; have hcz12_1 : w11.cell? ⟨gb114, 1, none⟩ = some (.slice none 0 0) := (blk_cell BK114.out 1).trans rfl; have hfz12_0 := blk_frozen BK114.out 0; have hfz12_1 := blk_frozen BK114.out 1; obtain ⟨Ao13, co13, eo13⟩ := Kd.R_slice HO113.out; subst eo13) | ((with_reducible refine gate_callee (f := 14) rfl ?_); refine gl 35 Try.func14 #[.agg #[.int .i64 t100, .slice Ao13 t107.length co13], .int .i64 t108, .int .i64 t109] ?_; (with_reducible refine (spec_WayFind.calls kj2 t100 _ _ t107 t108 t109 t101 t110 _ ?side1 ?side2 A7.out).mono ?_); (case side1 => refine (Kd.R_reads' (e := 74) (base := w.heap.size) (ok := fun k_ => True) (n := t107.length) (c := co13) ?_).2.2; exact (by (with_reducible repeat (first | apply Kd.R_alloc | apply Kd.R_drewN | apply Kd.R_drew)); exact (rf2 HO113.out BK114.out (fun _ h_ => h_.1)))); (case side2 => exact (Kd.R_reads' HO113.out).2.1); rintro e w14 ⟨v115, rfl, ho0, hb⟩; refine ⟨_, rfl, ?_⟩; replace HO113 := q0 (Kd.R_below (by (with_reducible repeat (first | apply Kd.R_alloc | apply Kd.R_drewN | apply Kd.R_drew)); exact (rf2 HO113.out BK114.out (fun _ h_ => h_.1))) hb); have HO116 := q0 (Kd.R_lower ho0 (below_size (qb HB.out))); replace BK114 := q0 (blk_below (g := gb114) (o := .cells #[.int .i64 t100, .slice Ao13 t107.length co13] 31 (0, 0)) (by (with_reducible repeat (first | refine blk_drewN ?_ _ | refine blk_drew ?_ | refine blk_alloc ?_ _)); refine blk_put (cs := #[.int .i64 t100, .slice none 0 0]) ?_ 1 _ rfl; (with_reducible repeat (first | refine blk_drewN ?_ _ | refine blk_drew ?_ | refine blk_alloc ?_ _)); refine blk_put (cs := #[.int .i64 0, .slice none 0 0]) ?_ 0 _ rfl; (with_reducible repeat (first | refine blk_drewN ?_ _ | refine blk_drew ?_ | refine blk_alloc ?_ _)); exact BK114.out) hb); replace HB := q0 (below_step (qb HB.out) hb); (try clear hb); (try clear hb2); (try clear hk); (try clear hi); (try clear ho0); have hcz15_0 : w14.cell? ⟨gb114, 0, none⟩ = some (.int .i64 t100) := (blk_cell BK114.out 0).trans rfl; have hcz15_1 : w14.cell? ⟨gb114, 1, none⟩ = some (.slice Ao13 t107.length co13) := (blk_cell BK114.out 1).trans rfl; have hfz15_0 := blk_frozen BK114.out 0; have hfz15_1 := blk_frozen BK114.out 1) | ((with_reducible refine gate_callee (f := 16) rfl ?_); refine gl 42 Try.func16 #[.agg #[.int .i64 t100, .slice Ao13 t107.length co13], .int .i64 t108, .int .i64 t109] ?_; (with_reducible refine (impl_WayFind.calls kj2 t100 _ _ t107 t108 t109 t102 t111 _ ?side1 ?side2 A8.out).mono ?_); (case side1 => exact qc (Kd.R_reads' HO113.out).2.2); (case side2 => exact (Kd.R_reads' HO113.out).2.1); rintro e w16 ⟨v117, rfl, ho0, hb⟩; refine ⟨_, rfl, ?_⟩; replace HO113 := q0 (Kd.R_below (qr HO113.out) hb); have HO118 := q0 (Kd.R_lower (Kd.R_new' ho0 (Kd.R_lt (qr HO116.out))) (below_size (qb HB.out))); replace HO116 := q0 (Kd.R_elder' (qr HO116.out) (Kd.R_base ho0) hb); replace BK114 := q0 (kb BK114.out hb); replace HB := q0 (below_step (qb HB.out) hb); (try clear hb); (try clear hb2); (try clear hk); (try clear hi); (try clear ho0)))
 (try simp only [Act.put, List.setIfInBounds_toArray, List.set_cons_zero, List.set_cons_succ])
 go_cut [57] (fun v57 wc => ∃ (kq : Nat) (x57_8 : Bool), v57 = .bool x57_8 ∧ Aside0 (laws_FnWayThree.j1 kq l1 t108 t109 t101 t110 t102 t111 x57_8 t100 t107 = some r) ∧ Aside0 (kq ≤ kj2) ∧ Aside0 (Kd.R (Kd.int .i64) 3 wc w.heap.size (fun k_ => some k_ ≠ (v117 : Value).ownBlock) v115 t101) ∧ Aside0 (Kd.R (Kd.int .i64) 3 wc w.heap.size (fun k_ => some k_ ≠ (v115 : Value).ownBlock) v117 t102) ∧ Aside0 (Kd.R kTie 74 wc w.heap.size (fun _ => True) (.slice Ao13 t107.length co13) t107) ∧ Aside0 (wc.heap[gb114]? = some (.cells #[.int .i64 t100, (.slice Ao13 t107.length co13)] 31 (0, 0))) ∧ Aside0 (Below w.heap.size w wc))
 case first =>
   have H := HC9.out
   clear HC9
   by_cases c17 : (t111 != t110) = true
   · rw [if_pos c17] at H
     have c17b0 : (t111 != t110) = true := c17
     (try (have c17b1 : decide (t111 = t110) = false := by simpa using c17))
     (try (have c17b2 : (t111 == t110) = false := by simpa using c17))
     (try (have c17b3 : ¬ (t111 = t110) := by simpa using c17))
     clear c17
     (first | rw [c17b0] | (simp only [i64_w, i32_w]; rw [c17b0]) | skip)
     have H' := Aside0.mk H
     clear H
     go_wp2
     go_meet
     case rel => exact ⟨_, (true), qs, H', ⟨by have := HJ2.out; first | omega | exact Nat.le_refl _⟩, ⟨by (with_reducible repeat (first | apply Kd.R_alloc | apply Kd.R_drewN | apply Kd.R_drew)); exact Kd.R_mono HO116.out (fun _ hk => hk.2)⟩, ⟨by (with_reducible repeat (first | apply Kd.R_alloc | apply Kd.R_drewN | apply Kd.R_drew)); exact Kd.R_mono HO118.out (fun _ hk => hk.2)⟩, ⟨qr HO113.out⟩, ⟨qk BK114.out⟩, ⟨qb HB.out⟩⟩
   rw [if_neg c17] at H
   have c17b0 : (t111 != t110) = false := by simpa using c17
   (try (have c17b1 : decide (t111 = t110) = true := by simpa using c17))
   (try (have c17b2 : (t111 == t110) = true := by simpa using c17))
   clear c17
   (first | rw [c17b0] | (simp only [i64_w, i32_w]; rw [c17b0]) | skip)
   replace H := Option.bind_eq_some_iff.mp H
   obtain ⟨t103, A119, H⟩ := H
   have A18 := Aside0.mk A119
   clear A119
   by_cases c19 : t103 = true
   · subst c19
     rw [if_pos rfl] at H
     have H' := Aside0.mk H
     clear H
     obtain ⟨Ao20, co20, eo20⟩ := Kd.R_slice HO118.out
     subst eo20
     obtain ⟨Ao21, co21, eo21⟩ := Kd.R_slice HO116.out
     subst eo21
     go_wp2_with (first | (go_at_call 28; (with_reducible refine (laws_loInts.calls kj2 _ _ t102 _ _ t101 true _ ?side1 ?side2 ?side3 ?side4 A18.out).mono ?_); (case side1 => exact qc (Kd.R_reads' HO118.out).2.2); (case side2 => exact (Kd.R_reads' HO118.out).2.1); (case side3 => exact qc (Kd.R_reads' HO116.out).2.2); (case side4 => exact (Kd.R_reads' HO116.out).2.1); rintro e w' ⟨rfl, ⟨nd, rfl⟩⟩))
     go_meet
     case rel => exact ⟨_, (!t111), qs, H', ⟨by have := HJ2.out; first | omega | exact Nat.le_refl _⟩, ⟨by (with_reducible repeat (first | apply Kd.R_alloc | apply Kd.R_drewN | apply Kd.R_drew)); exact Kd.R_mono HO116.out (fun _ hk => hk.2)⟩, ⟨by (with_reducible repeat (first | apply Kd.R_alloc | apply Kd.R_drewN | apply Kd.R_drew)); exact Kd.R_mono HO118.out (fun _ hk => hk.2)⟩, ⟨qr HO113.out⟩, ⟨qk BK114.out⟩, ⟨qb HB.out⟩⟩
   replace c19 := Bool.eq_false_iff.mpr c19
   subst c19
   rw [if_neg nf] at H
   have H' := Aside0.mk H
   clear H
   obtain ⟨Ao22, co22, eo22⟩ := Kd.R_slice HO118.out
   subst eo22
   obtain ⟨Ao23, co23, eo23⟩ := Kd.R_slice HO116.out
   subst eo23
   go_wp2_with (first | (go_at_call 28; (with_reducible refine (laws_loInts.calls kj2 _ _ t102 _ _ t101 false _ ?side1 ?side2 ?side3 ?side4 A18.out).mono ?_); (case side1 => exact qc (Kd.R_reads' HO118.out).2.2); (case side2 => exact (Kd.R_reads' HO118.out).2.1); (case side3 => exact qc (Kd.R_reads' HO116.out).2.2); (case side4 => exact (Kd.R_reads' HO116.out).2.1); rintro e w' ⟨rfl, ⟨nd, rfl⟩⟩))
   go_meet
   case rel => exact ⟨_, (true), qs, H', ⟨by have := HJ2.out; first | omega | exact Nat.le_refl _⟩, ⟨by (with_reducible repeat (first | apply Kd.R_alloc | apply Kd.R_drewN | apply Kd.R_drew)); exact Kd.R_mono HO116.out (fun _ hk => hk.2)⟩, ⟨by (with_reducible repeat (first | apply Kd.R_alloc | apply Kd.R_drewN | apply Kd.R_drew)); exact Kd.R_mono HO118.out (fun _ hk => hk.2)⟩, ⟨qr HO113.out⟩, ⟨qk BK114.out⟩, ⟨qb HB.out⟩⟩
 clear HC9
 try clear c1
 try clear c2
 try clear p2
 try clear c4
 try clear c4b0
 try clear c4b1
 try clear c5
 try clear c6
 try clear c14
 try clear c16
 try clear c17
 try clear c17b0
 try clear c17b1
 try clear c17b2
 try clear c19
 try clear hcz12_0
 try clear hcz12_1
 try clear hcz15_0
 try clear hcz15_1
 try clear hfz12_0
 try clear hfz12_1
 try clear hfz15_0
 try clear hfz15_1
 try clear p2
 obtain ⟨kq, x57_8, rfl, HA, HJ8, HO_8, HO_10, HO_101001, BK114, HB⟩ := hcut
 rcases kq with _ | kj8
 · exact absurd HA.out (by simp [laws_FnWayThree.j1])
 have H := HA.out
 clear HA
 simp only [laws_FnWayThree.j1] at H
 by_cases c24 : x57_8 = true
 · subst c24
   rw [if_pos rfl] at H
   by_cases c25 : (t111 == t110) = true
   rotate_left
   · rw [if_neg c25] at H
     have c25b0 : (t111 == t110) = false := by simpa using c25
     (try (have c25b1 : decide (t111 = t110) = false := by simpa using c25))
     (try (have c25b2 : (t111 == t110) = false := by simpa using c25))
     (try (have c25b3 : ¬ (t111 = t110) := by simpa using c25))
     clear c25
     obtain rfl := Option.some.inj H
     go_wp2
     go_ret
     exact ⟨qe, qb HB.out⟩
   rw [if_pos c25] at H
   have c25b0 : (t111 == t110) = true := c25
   (try (have c25b1 : decide (t111 = t110) = true := by simpa using c25))
   (try (have c25b2 : (t111 == t110) = true := by simpa using c25))
   clear c25
   replace H := Option.bind_eq_some_iff.mp H
   obtain ⟨t104, A120, H⟩ := H
   have A26 := Aside0.mk A120
   clear A120
   obtain rfl := Option.some.inj H
   obtain ⟨Ao27, co27, eo27⟩ := Kd.R_slice HO_10.out
   subst eo27
   obtain ⟨Ao28, co28, eo28⟩ := Kd.R_slice HO_8.out
   subst eo28
   go_wp2_with (first | (go_at_call 28; (with_reducible refine (laws_loInts.calls kj8 _ _ t102 _ _ t101 t104 _ ?side1 ?side2 ?side3 ?side4 A26.out).mono ?_); (case side1 => exact qc (Kd.R_reads' HO_10.out).2.2); (case side2 => exact (Kd.R_reads' HO_10.out).2.1); (case side3 => exact qc (Kd.R_reads' HO_8.out).2.2); (case side4 => exact (Kd.R_reads' HO_8.out).2.1); rintro e w' ⟨rfl, ⟨nd, rfl⟩⟩))
   go_ret
   exact ⟨qe, qb HB.out⟩
 replace c24 := Bool.eq_false_iff.mpr c24
 subst c24
 rw [if_neg nf] at H
 by_cases c29 : t100 = 0
 · rw [if_pos c29] at H
   exact absurd H (by simp)
 rw [if_neg c29] at H
 have c29b0 : (t100 == 0) = false := beq_eq_false_iff_ne.mpr c29
 have c29b1 : (t100 != 0) = true := bne_iff_ne.mpr c29
 replace H := Option.bind_eq_some_iff.mp H
 obtain ⟨⟨t105, t121⟩, A122, H⟩ := H
 have A30 := Aside0.mk A122
 clear A122
 replace H := Option.bind_eq_some_iff.mp H
 obtain ⟨⟨t106, t123⟩, A124, H⟩ := H
 have A31 := Aside0.mk A124
 clear A124
 by_cases c32 : (t121 == t123) = true
 rotate_left
 · rw [if_neg c32] at H
   have c32b0 : (t121 == t123) = false := by simpa using c32
   (try (have c32b1 : decide (t121 = t123) = false := by simpa using c32))
   (try (have c32b2 : (t121 == t123) = false := by simpa using c32))
   (try (have c32b3 : ¬ (t121 = t123) := by simpa using c32))
   clear c32
   obtain rfl := Option.some.inj H
   have hcz45_0 : wc.cell? ⟨gb114, 0, none⟩ = some (.int .i64 t100) := (blk_cell BK114.out 0).trans rfl
   have hcz45_1 : wc.cell? ⟨gb114, 1, none⟩ = some (.slice Ao13 t107.length co13) := (blk_cell BK114.out 1).trans rfl
   have hfz45_0 := blk_frozen BK114.out 0
   have hfz45_1 := blk_frozen BK114.out 1
   go_wp2_with (first | ((with_reducible refine gate_callee (f := 16) rfl ?_); refine gl 75 Try.func16 #[.agg #[.int .i64 t100, .slice Ao13 t107.length co13], .int .i64 t108, .int .i64 ((l1.length : Int) % t100)] ?_; (with_reducible refine (impl_WayFind.calls kj8 t100 _ _ t107 t108 ((l1.length : Int) % t100) t105 t121 _ ?side1 ?side2 A30.out).mono ?_); (case side1 => exact qc (Kd.R_reads' HO_101001.out).2.2); (case side2 => exact (Kd.R_reads' HO_101001.out).2.1); rintro e w46 ⟨v125, rfl, ho0, hb⟩; refine ⟨_, rfl, ?_⟩; replace HO_101001 := q0 (Kd.R_below (qr HO_101001.out) hb); have HO126 := q0 (Kd.R_lower (Kd.R_new' (Kd.R_new' ho0 (Kd.R_lt (qr HO_8.out))) (Kd.R_lt (qr HO_10.out))) (below_size (qb HB.out))); replace HO_8 := q0 (Kd.R_elder' (qr HO_8.out) (Kd.R_base ho0) hb); replace HO_10 := q0 (Kd.R_elder' (qr HO_10.out) (Kd.R_base ho0) hb); replace BK114 := q0 (kb BK114.out hb); replace HB := q0 (below_step (qb HB.out) hb); (try clear hb); (try clear hb2); (try clear hk); (try clear hi); (try clear ho0); have hcz47_0 : w46.cell? ⟨gb114, 0, none⟩ = some (.int .i64 t100) := (blk_cell BK114.out 0).trans rfl; have hcz47_1 : w46.cell? ⟨gb114, 1, none⟩ = some (.slice Ao13 t107.length co13) := (blk_cell BK114.out 1).trans rfl; have hfz47_0 := blk_frozen BK114.out 0; have hfz47_1 := blk_frozen BK114.out 1) | ((with_reducible refine gate_callee (f := 16) rfl ?_); refine gl 82 Try.func16 #[.agg #[.int .i64 t100, .slice Ao13 t107.length co13], .int .i64 ((l1.length : Int) % t100), .int .i64 t109] ?_; (with_reducible refine (impl_WayFind.calls kj8 t100 _ _ t107 ((l1.length : Int) % t100) t109 t106 t123 _ ?side1 ?side2 A31.out).mono ?_); (case side1 => exact qc (Kd.R_reads' HO_101001.out).2.2); (case side2 => exact (Kd.R_reads' HO_101001.out).2.1); rintro e w48 ⟨v127, rfl, ho0, hb⟩; refine ⟨_, rfl, ?_⟩; replace HO_101001 := q0 (Kd.R_below (qr HO_101001.out) hb); have HO128 := q0 (Kd.R_lower (Kd.R_new' (Kd.R_new' (Kd.R_new' ho0 (Kd.R_lt (qr HO_8.out))) (Kd.R_lt (qr HO_10.out))) (Kd.R_lt (qr HO126.out))) (below_size (qb HB.out))); replace HO_8 := q0 (Kd.R_elder' (qr HO_8.out) (Kd.R_base ho0) hb); replace HO_10 := q0 (Kd.R_elder' (qr HO_10.out) (Kd.R_base ho0) hb); replace HO126 := q0 (Kd.R_elder' (qr HO126.out) (Kd.R_base ho0) hb); replace BK114 := q0 (kb BK114.out hb); replace HB := q0 (below_step (qb HB.out) hb); (try clear hb); (try clear hb2); (try clear hk); (try clear hi); (try clear ho0)))
   go_ret
   exact ⟨qe, qb HB.out⟩
 rw [if_pos c32] at H
 have c32b0 : (t121 == t123) = true := c32
 (try (have c32b1 : decide (t121 = t123) = true := by simpa using c32))
 (try (have c32b2 : (t121 == t123) = true := by simpa using c32))
 clear c32
 by_cases c33 : t121 = true
 · subst c33
   rw [if_pos rfl] at H
   obtain rfl := Option.some.inj H
   have hcz34_0 : wc.cell? ⟨gb114, 0, none⟩ = some (.int .i64 t100) := (blk_cell BK114.out 0).trans rfl
   have hcz34_1 : wc.cell? ⟨gb114, 1, none⟩ = some (.slice Ao13 t107.length co13) := (blk_cell BK114.out 1).trans rfl
   have hfz34_0 := blk_frozen BK114.out 0
   have hfz34_1 := blk_frozen BK114.out 1
   go_wp2_with (first | ((with_reducible refine gate_callee (f := 16) rfl ?_); refine gl 75 Try.func16 #[.agg #[.int .i64 t100, .slice Ao13 t107.length co13], .int .i64 t108, .int .i64 ((l1.length : Int) % t100)] ?_; (with_reducible refine (impl_WayFind.calls kj8 t100 _ _ t107 t108 ((l1.length : Int) % t100) t105 true _ ?side1 ?side2 A30.out).mono ?_); (case side1 => exact qc (Kd.R_reads' HO_101001.out).2.2); (case side2 => exact (Kd.R_reads' HO_101001.out).2.1); rintro e w35 ⟨v125, rfl, ho0, hb⟩; refine ⟨_, rfl, ?_⟩; replace HO_101001 := q0 (Kd.R_below (qr HO_101001.out) hb); have HO126 := q0 (Kd.R_lower (Kd.R_new' (Kd.R_new' ho0 (Kd.R_lt (qr HO_8.out))) (Kd.R_lt (qr HO_10.out))) (below_size (qb HB.out))); replace HO_8 := q0 (Kd.R_elder' (qr HO_8.out) (Kd.R_base ho0) hb); replace HO_10 := q0 (Kd.R_elder' (qr HO_10.out) (Kd.R_base ho0) hb); replace BK114 := q0 (kb BK114.out hb); replace HB := q0 (below_step (qb HB.out) hb); (try clear hb); (try clear hb2); (try clear hk); (try clear hi); (try clear ho0); have hcz36_0 : w35.cell? ⟨gb114, 0, none⟩ = some (.int .i64 t100) := (blk_cell BK114.out 0).trans rfl; have hcz36_1 : w35.cell? ⟨gb114, 1, none⟩ = some (.slice Ao13 t107.length co13) := (blk_cell BK114.out 1).trans rfl; have hfz36_0 := blk_frozen BK114.out 0; have hfz36_1 := blk_frozen BK114.out 1) | ((with_reducible refine gate_callee (f := 16) rfl ?_); refine gl 82 Try.func16 #[.agg #[.int .i64 t100, .slice Ao13 t107.length co13], .int .i64 ((l1.length : Int) % t100), .int .i64 t109] ?_; (with_reducible refine (impl_WayFind.calls kj8 t100 _ _ t107 ((l1.length : Int) % t100) t109 t106 t123 _ ?side1 ?side2 A31.out).mono ?_); (case side1 => exact qc (Kd.R_reads' HO_101001.out).2.2); (case side2 => exact (Kd.R_reads' HO_101001.out).2.1); rintro e w37 ⟨v127, rfl, ho0, hb⟩; refine ⟨_, rfl, ?_⟩; replace HO_101001 := q0 (Kd.R_below (qr HO_101001.out) hb); have HO128 := q0 (Kd.R_lower (Kd.R_new' (Kd.R_new' (Kd.R_new' ho0 (Kd.R_lt (qr HO_8.out))) (Kd.R_lt (qr HO_10.out))) (Kd.R_lt (qr HO126.out))) (below_size (qb HB.out))); replace HO_8 := q0 (Kd.R_elder' (qr HO_8.out) (Kd.R_base ho0) hb); replace HO_10 := q0 (Kd.R_elder' (qr HO_10.out) (Kd.R_base ho0) hb); replace HO126 := q0 (Kd.R_elder' (qr HO126.out) (Kd.R_base ho0) hb); replace BK114 := q0 (kb BK114.out hb); replace HB := q0 (below_step (qb HB.out) hb); (try clear hb); (try clear hb2); (try clear hk); (try clear hi); (try clear ho0); obtain ⟨Ao38, co38, eo38⟩ := Kd.R_slice HO_10.out; subst eo38; obtain ⟨Ao39, co39, eo39⟩ := Kd.R_slice HO126.out; subst eo39; obtain ⟨Ao40, co40, eo40⟩ := Kd.R_slice HO128.out; subst eo40))
   go_ret
   exact ⟨qe, qb HB.out⟩
 replace c33 := Bool.eq_false_iff.mpr c33
 subst c33
 rw [if_neg nf] at H
 obtain rfl := Option.some.inj H
 have hcz41_0 : wc.cell? ⟨gb114, 0, none⟩ = some (.int .i64 t100) := (blk_cell BK114.out 0).trans rfl
 have hcz41_1 : wc.cell? ⟨gb114, 1, none⟩ = some (.slice Ao13 t107.length co13) := (blk_cell BK114.out 1).trans rfl
 have hfz41_0 := blk_frozen BK114.out 0
 have hfz41_1 := blk_frozen BK114.out 1
 go_wp2_with (first | ((with_reducible refine gate_callee (f := 16) rfl ?_); refine gl 75 Try.func16 #[.agg #[.int .i64 t100, .slice Ao13 t107.length co13], .int .i64 t108, .int .i64 ((l1.length : Int) % t100)] ?_; (with_reducible refine (impl_WayFind.calls kj8 t100 _ _ t107 t108 ((l1.length : Int) % t100) t105 false _ ?side1 ?side2 A30.out).mono ?_); (case side1 => exact qc (Kd.R_reads' HO_101001.out).2.2); (case side2 => exact (Kd.R_reads' HO_101001.out).2.1); rintro e w42 ⟨v125, rfl, ho0, hb⟩; refine ⟨_, rfl, ?_⟩; replace HO_101001 := q0 (Kd.R_below (qr HO_101001.out) hb); have HO126 := q0 (Kd.R_lower (Kd.R_new' (Kd.R_new' ho0 (Kd.R_lt (qr HO_8.out))) (Kd.R_lt (qr HO_10.out))) (below_size (qb HB.out))); replace HO_8 := q0 (Kd.R_elder' (qr HO_8.out) (Kd.R_base ho0) hb); replace HO_10 := q0 (Kd.R_elder' (qr HO_10.out) (Kd.R_base ho0) hb); replace BK114 := q0 (kb BK114.out hb); replace HB := q0 (below_step (qb HB.out) hb); (try clear hb); (try clear hb2); (try clear hk); (try clear hi); (try clear ho0); have hcz43_0 : w42.cell? ⟨gb114, 0, none⟩ = some (.int .i64 t100) := (blk_cell BK114.out 0).trans rfl; have hcz43_1 : w42.cell? ⟨gb114, 1, none⟩ = some (.slice Ao13 t107.length co13) := (blk_cell BK114.out 1).trans rfl; have hfz43_0 := blk_frozen BK114.out 0; have hfz43_1 := blk_frozen BK114.out 1) | ((with_reducible refine gate_callee (f := 16) rfl ?_); refine gl 82 Try.func16 #[.agg #[.int .i64 t100, .slice Ao13 t107.length co13], .int .i64 ((l1.length : Int) % t100), .int .i64 t109] ?_; (with_reducible refine (impl_WayFind.calls kj8 t100 _ _ t107 ((l1.length : Int) % t100) t109 t106 t123 _ ?side1 ?side2 A31.out).mono ?_); (case side1 => exact qc (Kd.R_reads' HO_101001.out).2.2); (case side2 => exact (Kd.R_reads' HO_101001.out).2.1); rintro e w44 ⟨v127, rfl, ho0, hb⟩; refine ⟨_, rfl, ?_⟩; replace HO_101001 := q0 (Kd.R_below (qr HO_101001.out) hb); have HO128 := q0 (Kd.R_lower (Kd.R_new' (Kd.R_new' (Kd.R_new' ho0 (Kd.R_lt (qr HO_8.out))) (Kd.R_lt (qr HO_10.out))) (Kd.R_lt (qr HO126.out))) (below_size (qb HB.out))); replace HO_8 := q0 (Kd.R_elder' (qr HO_8.out) (Kd.R_base ho0) hb); replace HO_10 := q0 (Kd.R_elder' (qr HO_10.out) (Kd.R_base ho0) hb); replace HO126 := q0 (Kd.R_elder' (qr HO126.out) (Kd.R_base ho0) hb); replace BK114 := q0 (kb BK114.out hb); replace HB := q0 (below_step (qb HB.out) hb); (try clear hb); (try clear hb2); (try clear hk); (try clear hi); (try clear ho0)))
 go_ret
 exact ⟨qe, qb HB.out⟩

theorem laws_FnWayThree.walk (P : laws_FnWayThree.Pure) (a0 : Option Addr) (len0 cap0 : Nat) (z0 : List Int) (a1 : Option Addr) (len1 cap1 : Nat) (z1 : List Int) (w : World) (w0 : (a0 = none ∧ len0 = 0 ∧ cap0 = 0 ∧ z0 = []) ∨ ∃ x, a0 = some x ∧ len0 ≤ cap0 ∧ cap0 ≤ maxLen ∧ z0.length = cap0 ∧ (∀ i, i < z0.length → w.cell? (x.add i) = some (.int .u8 (z0.getD i 0))) ∧ ∀ n ∈ z0, (Lit.int .u8 n).wf = true) (y0 : len0 * 1 ≤ 140737488351232) (w1 : (a1 = none ∧ len1 = 0 ∧ cap1 = 0 ∧ z1 = []) ∨ ∃ x, a1 = some x ∧ len1 ≤ cap1 ∧ cap1 ≤ maxLen ∧ z1.length = cap1 ∧ (∀ i, i < z1.length → w.cell? (x.add i) = some (.int .u8 (z1.getD i 0))) ∧ ∀ n ∈ z1, (Lit.int .u8 n).wf = true) (y1 : len1 * 1 ≤ 140737488351232) :
    Calls Try.prog 6 #[.slice a0 len0 cap0, .slice a1 len1 cap1] w fun e w' => e = .returned (.bool true) ∧ Below w.heap.size w w' := by
  obtain ⟨l0, rfl, hr0, hm0, hw0, hc0⟩ := ReadsInt.ofRowC w0
  obtain ⟨l1, rfl, hr1, hm1, hw1, hc1⟩ := ReadsInt.ofRowC w1
  obtain ⟨k, h⟩ := P l0 l1 hm0 y0 hw0 hm1 y1 hw1
  refine (laws_FnWayThree.calls k _ _ l0 _ _ l1 true w (Kd.C_of_reads (d := (0 : Int)) (h1 := fun _ => rfl) hr0) hc0 (Kd.C_of_reads (d := (0 : Int)) (h1 := fun _ => rfl) hr1) hc1 h).mono ?_
  rintro e w' ⟨rfl, hd⟩
  exact ⟨rfl, hd⟩
end Go.Proofs.Ytmfmeenfhdohcaa.P
