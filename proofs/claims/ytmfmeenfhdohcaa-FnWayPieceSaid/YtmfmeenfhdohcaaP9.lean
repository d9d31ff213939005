import Derived.Test.YtmfmeenfhdohcaaP0
import Derived.Test.YtmfmeenfhdohcaaP3
import Derived.Test.YtmfmeenfhdohcaaP5
import Derived.Test.YtmfmeenfhdohcaaP6
namespace Go.Proofs.Ytmfmeenfhdohcaa.P
open Go.RowKit Go.Proofs.YtmfmeenfhdohcaaW.PrintWords Go.Proofs.YtmfmeenfhdohcaaW.PrintLast Go.Proofs.YtmfmeenfhdohcaaW.PrintMore
attribute [local go_sem] max2_int min2_int max_two min_two max_three min_three max_four min_four
set_option linter.unusedVariables false
set_option linter.unusedSimpArgs false
attribute [local go_sem high] eqATie
def laws_FnWayPiece.T9 : Bool × List (List Nat × List Nat) := (true, [([], []), ([], []), ([], []), ([], []), ([2, 3], [2, 3]), ([4], [4]), ([0, 1, 5], [0, 1, 5]), ([6], [6]), ([7], [7]), ([7], [7]), ([8, 6, 0, 1, 2, 3, 4, 5, 6, 7, 8], [8]), ([9, 10, 0, 1, 2, 3, 4, 5, 6, 7, 8, 9, 10], [9])])
def laws_FnWayPiece.B9 : List Nat := [0, 0, 0, 0, 12, 28, 63, 127, 255, 255, 511, 2047]
theorem laws_FnWayPiece.tab9 : rtab .any (opsOf Try.f5 9) = laws_FnWayPiece.T9 := by kernel_rfl
theorem laws_FnWayPiece.bits9 : waitsOk laws_FnWayPiece.T9.2 laws_FnWayPiece.B9 = true := by kernel_rfl
def laws_FnWayPiece.T10 : Bool × List (List Nat × List Nat) := (true, [([], []), ([], []), ([], []), ([1, 2], [1, 2]), ([3], [3]), ([], []), ([0, 4, 5], [0, 4, 5]), ([6], [6]), ([7], [7]), ([7], [7]), ([8, 6, 0, 1, 2, 3, 4, 5, 6, 7, 8], [8]), ([9, 10, 0, 1, 2, 3, 4, 5, 6, 7, 8, 9, 10], [9])])
def laws_FnWayPiece.B10 : List Nat := [0, 0, 0, 6, 14, 0, 63, 127, 255, 255, 511, 2047]
theorem laws_FnWayPiece.tab10 : rtab .any (opsOf Try.f5 10) = laws_FnWayPiece.T10 := by kernel_rfl
theorem laws_FnWayPiece.bits10 : waitsOk laws_FnWayPiece.T10.2 laws_FnWayPiece.B10 = true := by kernel_rfl
set_option maxHeartbeats 8000000 in
set_option maxRecDepth 100000 in
theorem laws_FnWayPiece.calls (k : Nat) (A0 : Option Addr) (c0 : Nat) (l0 : List Int) (A1 : Option Addr) (c1 : Nat) (l1 : List Int) (r : Bool) (w : World) (hr0 : Kd.C (Kd.int .u8) w A0 l0.length l0) (hc0 : l0.length ≤ c0) (hr1 : Kd.C (Kd.int .u8) w A1 l1.length l1) (hc1 : l1.length ≤ c1) (h : laws_FnWayPiece.f k l0 l1 = some r) :
    Calls Try.prog 5 #[.slice A0 l0.length c0, .slice A1 l1.length c1] w fun e w' => e = .returned (.bool r) ∧ Below w.heap.size w w' := by
 have hu31 := Try.underlying31
 have HR0 := Aside0.mk hr0
 have HC0 := Aside0.mk hc0
 clear hr0 hc0
 have HR1 := Aside0.mk hr1
 have HC1 := Aside0.mk hc1
 clear hr1 hc1
 have HB := q0 (Below.refl w.heap.size w)
 have H : (if (l0.length : Int) > 1048576 then (laws_FnWayPiece.j0 k l0 l1 true) else (laws_FnWayPiece.j0 k l0 l1 (decide ((l1.length : Int) > 1048576)))) = some r := h
 clear h
 have HC3 := Aside0.mk H
 clear H
 go_enter Try.func5, Try.ntmps5
 go_upto_region 1 with (fail)
 go_cut [24] (fun v24 wc => ∃ (kq : Nat) (x24_2 : Bool), v24 = .bool x24_2 ∧ Aside0 (laws_FnWayPiece.j0 kq l0 l1 x24_2 = some r) ∧ Aside0 (kq ≤ k) ∧ Aside0 (Below w.heap.size w wc))
 case first =>
   have H := HC3.out
   clear HC3
   by_cases c4 : (l0.length : Int) > 1048576
   · rw [if_pos c4] at H
     have c4b0 : decide (1048576 < (l0.length : Int)) = true := decide_eq_true c4
     have c4b1 : decide (1048576 < l0.length) = true := decide_eq_true (by omega)
     clear c4
     (first | rw [c4b0] | (simp only [i64_w, i32_w]; rw [c4b0]) | skip)
     have H' := Aside0.mk H
     clear H
     go_wp2
     go_meet
     case rel => exact ⟨_, (true), qs, H', ⟨by first | omega | exact Nat.le_refl _⟩, ⟨qb HB.out⟩⟩
   rw [if_neg c4] at H
   have c4b0 : decide (1048576 < (l0.length : Int)) = false := decide_eq_false c4
   have c4b1 : decide (1048576 < l0.length) = false := decide_eq_false (by omega)
   clear c4
   (first | rw [c4b0] | (simp only [i64_w, i32_w]; rw [c4b0]) | skip)
   have H' := Aside0.mk H
   clear H
   go_wp2
   go_meet
   case rel => exact ⟨_, (decide ((l1.length : Int) > 1048576)), qs, H', ⟨by first | omega | exact Nat.le_refl _⟩, ⟨qb HB.out⟩⟩
 clear HC3
 try clear c1
 try clear p2
 try clear c4
 try clear c4b0
 try clear c4b1
 obtain ⟨kq, x24_2, rfl, HA, HJ2, HB⟩ := hcut
 rcases kq with _ | kj2
 · exact absurd HA.out (by simp [laws_FnWayPiece.j0])
 have H := HA.out
 clear HA
 simp only [laws_FnWayPiece.j0] at H
 by_cases c5 : x24_2 = true
 · subst c5
   rw [if_pos rfl] at H
   obtain rfl := Option.some.inj H
   go_wp2
   go_ret
   exact ⟨qe, qb HB.out⟩
 replace c5 := Bool.eq_false_iff.mpr c5
 subst c5
 rw [if_neg nf] at H
 replace H := Option.bind_eq_some_iff.mp H
 obtain ⟨⟨t100, t108, t109, t110⟩, A60, H⟩ := H
 have A6 := Aside0.mk A60
 clear A60
 replace H := Option.bind_eq_some_iff.mp H
 obtain ⟨⟨t101, t111⟩, A70, H⟩ := H
 have A7 := Aside0.mk A70
 clear A70
 replace H := Option.bind_eq_some_iff.mp H
 obtain ⟨⟨t102, t112⟩, A80, H⟩ := H
 have A8 := Aside0.mk A80
 clear A80
 have HC9 := Aside0.mk H
 clear H
 go_upto_region 6 with (first | ((with_reducible refine gate_callee (f := 27) rfl ?_); refine gl 27 Try.func27 #[.slice A0 l0.length c0] ?_; (with_reducible refine (spec_DrawWayFind.calls kj2 _ _ l0 t100 t108 t109 t110 _ ?side1 ?side2 A6.out).mono ?_); (case side1 => exact qc (Kd.C_below HR0.out HB.out)); (case side2 => exact HC0.out); rintro e w10 ⟨v113, rfl, ho0, hb⟩; refine ⟨_, rfl, ?_⟩; have HO114 := q0 (Kd.R_lower ho0 (below_size (qb HB.out))); replace HB := q0 (below_step (qb HB.out) hb); (try clear hb); (try clear hb2); (try clear hk); (try clear hi); (try clear ho0)) | ((with_reducible refine gate_dst (N := 5) rfl ?_); (try (refine gate_guard (by rfl) ?_; dsimp only)); refine be 5 #[.int .i64 0, .slice none 0 0] 31 ?_; intro gb115 hg w11 hbox hb; replace HO114 := q0 (Kd.R_below (qr HO114.out) hb); have BK115 := q0 (hbox); have GW115 := q0 ((bs HB.out hg : w.heap.size ≤ gb115)); have GE115 := q0 ((bs HB.out hg : w.heap.size ≤ gb115)); replace HB := q0 (below_step (qb HB.out) hb); clear hb hbox hg; have hcz12_0 : w11.cell? ⟨gb115, 0, none⟩ = some (.int .i64 0) := (blk_cell BK115.out 0).trans rfl; have hcz12_1 : w11.cell? ⟨gb115, 1, none⟩ = some (.slice none 0 0) := (blk_cell BK115.out 1).trans rfl; have hfz12_0 := blk_frozen BK115.out 0; have hfz12_1 := blk_frozen BK115.out 1; obtain ⟨Ao13, co13, eo13⟩ := Kd.R_slice HO114.out; subst eo13) | ((with_reducible refine gate_callee (f := 14) rfl ?_); refine gl 35 Try.func14 #[.agg #[.int .i64 t100, .slice Ao13 t108.length co13], .int .i64 t109, .int .i64 t110] ?_; (with_reducible refine (spec_WayFind.calls kj2 t100 _ _ t108 t109 t110 t101 t111 _ ?side1 ?side2 A7.out).mono ?_); (case side1 => refine (Kd.R_reads' (e := 74) (base := w.heap.size) (ok := fun k_ => True) (n := t108.length) (c := co13) ?_).2.2; exact (by (with_reducible repeat (first | apply Kd.R_alloc | apply Kd.R_drewN | apply Kd.R_drew)); exact (rf2 HO114.out BK115.out (fun _ h_ => h_.1)))); (case side2 => exact (Kd.R_reads' HO114.out).2.1); rintro e w14 ⟨v116, rfl, ho0, hb⟩; refine ⟨_, rfl, ?_⟩; replace HO114 := q0 (Kd.R_below (by (with_reducible repeat (first | apply Kd.R_alloc | apply Kd.R_drewN | apply Kd.R_drew)); exact (rf2 HO114.out BK115.out (fun _ h_ => h_.1))) hb); have HO117 := q0 (Kd.R_lower ho0 (below_size (qb HB.out))); replace BK115 := q0 (blk_below (g := gb115) (o := .cells #[.int .i64 t100, .slice Ao13 t108.length co13] 31 (0, 0)) (by (with_reducible repeat (first | refine blk_drewN ?_ _ | refine blk_drew ?_ | refine blk_alloc ?_ _)); refine blk_put (cs := #[.int .i64 t100, .slice none 0 0]) ?_ 1 _ rfl; (with_reducible repeat (first | refine blk_drewN ?_ _ | refine blk_drew ?_ | refine blk_alloc ?_ _)); refine blk_put (cs := #[.int .i64 0, .slice none 0 0]) ?_ 0 _ rfl; (with_reducible repeat (first | refine blk_drewN ?_ _ | refine blk_drew ?_ | refine blk_alloc ?_ _)); exact BK115.out) hb); replace HB := q0 (below_step (qb HB.out) hb); (try clear hb); (try clear hb2); (try clear hk); (try clear hi); (try clear ho0); have hcz15_0 : w14.cell? ⟨gb115, 0, none⟩ = some (.int .i64 t100) := (blk_cell BK115.out 0).trans rfl; have hcz15_1 : w14.cell? ⟨gb115, 1, none⟩ = some (.slice Ao13 t108.length co13) := (blk_cell BK115.out 1).trans rfl; have hfz15_0 := blk_frozen BK115.out 0; have hfz15_1 := blk_frozen BK115.out 1) | ((with_reducible refine gate_callee (f := 16) rfl ?_); refine gl 42 Try.func16 #[.agg #[.int .i64 t100, .slice Ao13 t108.length co13], .int .i64 t109, .int .i64 t110] ?_; (with_reducible refine (impl_WayFind.calls kj2 t100 _ _ t108 t109 t110 t102 t112 _ ?side1 ?side2 A8.out).mono ?_); (case side1 => exact qc (Kd.R_reads' HO114.out).2.2); (case side2 => exact (Kd.R_reads' HO114.out).2.1); rintro e w16 ⟨v118, rfl, ho0, hb⟩; refine ⟨_, rfl, ?_⟩; replace HO114 := q0 (Kd.R_below (qr HO114.out) hb); have HO119 := q0 (Kd.R_lower (Kd.R_new' ho0 (Kd.R_lt (qr HO117.out))) (below_size (qb HB.out))); replace HO117 := q0 (Kd.R_elder' (qr HO117.out) (Kd.R_base ho0) hb); replace BK115 := q0 (kb BK115.out hb); replace HB := q0 (below_step (qb HB.out) hb); (try clear hb); (try clear hb2); (try clear hk); (try clear hi); (try clear ho0)))
 (try simp only [Act.put, List.setIfInBounds_toArray, List.set_cons_zero, List.set_cons_succ])
 go_cut [57] (fun v57 wc => ∃ (kq : Nat) (x57_8 : Bool), v57 = .bool x57_8 ∧ Aside0 (laws_FnWayPiece.j1 kq l1 t109 t110 t101 t111 t102 t112 x57_8 t100 t108 = some r) ∧ Aside0 (kq ≤ kj2) ∧ Aside0 (Kd.R (Kd.int .i64) 3 wc w.heap.size (fun k_ => some k_ ≠ (v118 : Value).ownBlock) v116 t101) ∧ Aside0 (Kd.R (Kd.int .i64) 3 wc w.heap.size (fun k_ => some k_ ≠ (v116 : Value).ownBlock) v118 t102) ∧ Aside0 (Kd.R kTie 74 wc w.heap.size (fun _ => True) (.slice Ao13 t108.length co13) t108) ∧ Aside0 (wc.heap[gb115]? = some (.cells #[.int .i64 t100, (.slice Ao13 t108.length co13)] 31 (0, 0))) ∧ Aside0 (Below w.heap.size w wc))
 case first =>
   have H := HC9.out
   clear HC9
   by_cases c17 : (t112 != t111) = true
   · rw [if_pos c17] at H
     have c17b0 : (t112 != t111) = true := c17
     (try (have c17b1 : decide (t112 = t111) = false := by simpa using c17))
     (try (have c17b2 : (t112 == t111) = false := by simpa using c17))
     (try (have c17b3 : ¬ (t112 = t111) := by simpa using c17))
     clear c17
     (first | rw [c17b0] | (simp only [i64_w, i32_w]; rw [c17b0]) | skip)
     have H' := Aside0.mk H
     clear H
     go_wp2
     go_meet
     case rel => exact ⟨_, (true), qs, H', ⟨by have := HJ2.out; first | omega | exact Nat.le_refl _⟩, ⟨by (with_reducible repeat (first | apply Kd.R_alloc | apply Kd.R_drewN | apply Kd.R_drew)); exact Kd.R_mono HO117.out (fun _ hk => hk.2)⟩, ⟨by (with_reducible repeat (first | apply Kd.R_alloc | apply Kd.R_drewN | apply Kd.R_drew)); exact Kd.R_mono HO119.out (fun _ hk => hk.2)⟩, ⟨qr HO114.out⟩, ⟨qk BK115.out⟩, ⟨qb HB.out⟩⟩
   rw [if_neg c17] at H
   have c17b0 : (t112 != t111) = false := by simpa using c17
   (try (have c17b1 : decide (t112 = t111) = true := by simpa using c17))
   (try (have c17b2 : (t112 == t111) = true := by simpa using c17))
   clear c17
   (first | rw [c17b0] | (simp only [i64_w, i32_w]; rw [c17b0]) | skip)
   replace H := Option.bind_eq_some_iff.mp H
   obtain ⟨t103, A120, H⟩ := H
   have A18 := Aside0.mk A120
   clear A120
   by_cases c19 : t103 = true
   · subst c19
     rw [if_pos rfl] at H
     have H' := Aside0.mk H
     clear H
     obtain ⟨Ao20, co20, eo20⟩ := Kd.R_slice HO119.out
     subst eo20
     obtain ⟨Ao21, co21, eo21⟩ := Kd.R_slice HO117.out
     subst eo21
     go_wp2_with (first | (go_at_call 28; (with_reducible refine (laws_loInts.calls kj2 _ _ t102 _ _ t101 true _ ?side1 ?side2 ?side3 ?side4 A18.out).mono ?_); (case side1 => exact qc (Kd.R_reads' HO119.out).2.2); (case side2 => exact (Kd.R_reads' HO119.out).2.1); (case side3 => exact qc (Kd.R_reads' HO117.out).2.2); (case side4 => exact (Kd.R_reads' HO117.out).2.1); rintro e w' ⟨rfl, ⟨nd, rfl⟩⟩))
     go_meet
     case rel => exact ⟨_, (!t112), qs, H', ⟨by have := HJ2.out; first | omega | exact Nat.le_refl _⟩, ⟨by (with_reducible repeat (first | apply Kd.R_alloc | apply Kd.R_drewN | apply Kd.R_drew)); exact Kd.R_mono HO117.out (fun _ hk => hk.2)⟩, ⟨by (with_reducible repeat (first | apply Kd.R_alloc | apply Kd.R_drewN | apply Kd.R_drew)); exact Kd.R_mono HO119.out (fun _ hk => hk.2)⟩, ⟨qr HO114.out⟩, ⟨qk BK115.out⟩, ⟨qb HB.out⟩⟩
   replace c19 := Bool.eq_false_iff.mpr c19
   subst c19
   rw [if_neg nf] at H
   have H' := Aside0.mk H
   clear H
   obtain ⟨Ao22, co22, eo22⟩ := Kd.R_slice HO119.out
   subst eo22
   obtain ⟨Ao23, co23, eo23⟩ := Kd.R_slice HO117.out
   subst eo23
   go_wp2_with (first | (go_at_call 28; (with_reducible refine (laws_loInts.calls kj2 _ _ t102 _ _ t101 false _ ?side1 ?side2 ?side3 ?side4 A18.out).mono ?_); (case side1 => exact qc (Kd.R_reads' HO119.out).2.2); (case side2 => exact (Kd.R_reads' HO119.out).2.1); (case side3 => exact qc (Kd.R_reads' HO117.out).2.2); (case side4 => exact (Kd.R_reads' HO117.out).2.1); rintro e w' ⟨rfl, ⟨nd, rfl⟩⟩))
   go_meet
   case rel => exact ⟨_, (true), qs, H', ⟨by have := HJ2.out; first | omega | exact Nat.le_refl _⟩, ⟨by (with_reducible repeat (first | apply Kd.R_alloc | apply Kd.R_drewN | apply Kd.R_drew)); exact Kd.R_mono HO117.out (fun _ hk => hk.2)⟩, ⟨by (with_reducible repeat (first | apply Kd.R_alloc | apply Kd.R_drewN | apply Kd.R_drew)); exact Kd.R_mono HO119.out (fun _ hk => hk.2)⟩, ⟨qr HO114.out⟩, ⟨qk BK115.out⟩, ⟨qb HB.out⟩⟩
 clear HC9
 try clear c1
 try clear c2
 try clear p2
 try clear c4
 try clear c4b0
 try clear c4b1
 try clear c5
 try clear c14
 try clear c16
 try clear c17
 try clear c17b0
 try clear c17b1
 try clear c17b2
 try clear c19
 try clear hcz12_0
 try clear hcz12_1
 try clear hcz15_0
 try clear hcz15_1
 try clear hfz12_0
 try clear hfz12_1
 try clear hfz15_0
 try clear hfz15_1
 try clear p2
 obtain ⟨kq, x57_8, rfl, HA, HJ8, HO_8, HO_10, HO_101001, BK115, HB⟩ := hcut
 rcases kq with _ | kj8
 · exact absurd HA.out (by simp [laws_FnWayPiece.j1])
 have H := HA.out
 clear HA
 simp only [laws_FnWayPiece.j1] at H
 by_cases c24 : x57_8 = true
 · subst c24
   rw [if_pos rfl] at H
   by_cases c25 : (t112 == t111) = true
   rotate_left
   · rw [if_neg c25] at H
     have c25b0 : (t112 == t111) = false := by simpa using c25
     (try (have c25b1 : decide (t112 = t111) = false := by simpa using c25))
     (try (have c25b2 : (t112 == t111) = false := by simpa using c25))
     (try (have c25b3 : ¬ (t112 = t111) := by simpa using c25))
     clear c25
     obtain rfl := Option.some.inj H
     go_wp2
     go_ret
     exact ⟨qe, qb HB.out⟩
   rw [if_pos c25] at H
   have c25b0 : (t112 == t111) = true := c25
   (try (have c25b1 : decide (t112 = t111) = true := by simpa using c25))
   (try (have c25b2 : (t112 == t111) = true := by simpa using c25))
   clear c25
   replace H := Option.bind_eq_some_iff.mp H
   obtain ⟨t104, A121, H⟩ := H
   have A26 := Aside0.mk A121
   clear A121
   obtain rfl := Option.some.inj H
   obtain ⟨Ao27, co27, eo27⟩ := Kd.R_slice HO_10.out
   subst eo27
   obtain ⟨Ao28, co28, eo28⟩ := Kd.R_slice HO_8.out
   subst eo28
   go_wp2_with (first | (go_at_call 28; (with_reducible refine (laws_loInts.calls kj8 _ _ t102 _ _ t101 t104 _ ?side1 ?side2 ?side3 ?side4 A26.out).mono ?_); (case side1 => exact qc (Kd.R_reads' HO_10.out).2.2); (case side2 => exact (Kd.R_reads' HO_10.out).2.1); (case side3 => exact qc (Kd.R_reads' HO_8.out).2.2); (case side4 => exact (Kd.R_reads' HO_8.out).2.1); rintro e w' ⟨rfl, ⟨nd, rfl⟩⟩))
   go_ret
   exact ⟨qe, qb HB.out⟩
 replace c24 := Bool.eq_false_iff.mpr c24
 subst c24
 rw [if_neg nf] at H
 by_cases c29 : (t102.length : Int) = 0
 · rw [if_pos c29] at H
   exact absurd H (by simp)
 rw [if_neg c29] at H
 have c29b0 : ((t102.length : Int) == 0) = false := beq_eq_false_iff_ne.mpr c29
 have c29b1 : ((t102.length : Int) != 0) = true := bne_iff_ne.mpr c29
 have c29b2 : ¬ (t102 = []) := fun h_ => c29 (by rw [h_]; rfl)
 obtain ⟨ji30, hji30⟩ : ∃ j_ : Int, ((l1.length : Int) % (t102.length : Int)) = j_ := ⟨_, rfl⟩
 replace H : (if 0 ≤ (ji30) then (if (ji30) < (t102.length : Int) then ((impl_WayFind.f kj8 t100 t108 t109 (rd t102 (ji30))).bind fun bt105 => ((impl_WayFind.f kj8 t100 t108 (rd t102 (ji30)) t110).bind fun bt106 => (if bt105.2 = true then (if bt106.2 = true then (if (bt105.1.length : Int) = (wrap64 ((ji30) + 1)) then (if (ji30) ≤ (t102.length : Int) then ((laws_loInts.f kj8 bt106.1 (t102.drop ((ji30) : Int).toNat)).bind fun t107 => (some t107)) else (none)) else (some false)) else (some false)) else (some false)))) else (none)) else (none)) = some r := by first | (rw [hji30] at H; exact H) | (simp only [hji30] at H ⊢; exact H)
 by_cases c31 : 0 ≤ (ji30)
 rotate_left
 · rw [if_neg c31] at H
   exact absurd H (by simp)
 rw [if_pos c31] at H
 have c31b0 : decide (0 ≤ (ji30)) = true := decide_eq_true c31
 clear c31
 by_cases c32 : (ji30) < (t102.length : Int)
 rotate_left
 · rw [if_neg c32] at H
   exact absurd H (by simp)
 rw [if_pos c32] at H
 have c32b0 : decide ((ji30) < (t102.length : Int)) = true := decide_eq_true c32
 clear c32
 replace H := Option.bind_eq_some_iff.mp H
 obtain ⟨⟨t105, t122⟩, A123, H⟩ := H
 have A33 := Aside0.mk A123
 clear A123
 replace H := Option.bind_eq_some_iff.mp H
 obtain ⟨⟨t106, t124⟩, A125, H⟩ := H
 have A34 := Aside0.mk A125
 clear A125
 by_cases c35 : t122 = true
 rotate_left
 · replace c35 := Bool.eq_false_iff.mpr c35
   subst c35
   rw [if_neg nf] at H
   obtain rfl := Option.some.inj H
   obtain ⟨Ao60, co60, eo60⟩ := Kd.R_slice HO_10.out
   subst eo60
   try go_wp2
   replace HO_8 := q0 (Kd.R_drew HO_8.out)
   replace HO_10 := q0 (Kd.R_drew HO_10.out)
   replace HO_101001 := q0 (Kd.R_drew HO_101001.out)
   replace BK115 := q0 (blk_drew BK115.out)
   replace HB := q0 (below_drew1 HB.out)
   have p128 : 0 ≤ ((ji30) : Int) := of_decide_eq_true qa
   have q128 : (ji30) < (t102.length : Int) := of_decide_eq_true qa
   obtain ⟨ad128, e128, hx128_0⟩ := Kd.at_int (Kd.R_reads' HO_10.out).2.2 (ji30) p128 q128
   cases e128
   replace p128 := eq_true p128
   replace q128 := eq_true q128
   refine start_ (n := 12) (S := fun w' => w'.cell? ⟨gb115, 0, none⟩ = some (.int .i64 t100) ∧ w'.cell? ⟨gb115, 1, none⟩ = some (.slice Ao13 t108.length co13) ∧ w'.cell? (ad128.add ((ji30)).toNat) = some (.int .i64 (rd t102 (ji30)))) (ds := []) (ba 12 0) (by kernel_rfl) rfl (by kernel_rfl) ⟨(blk_cell BK115.out 0).trans rfl, (blk_cell BK115.out 1).trans rfl, hx128_0⟩ (fun hHeld => ?_); refine with_tabW laws_FnWayPiece.tab9 laws_FnWayPiece.bits9 (fun HT_ HW_ => ?_)
   generalize wc.drew = w61 at HO_8 HO_10 HO_101001 BK115 HB hx128_0 hHeld ⊢
   refine pu 1 (some 73) (ba 12 2) HT_.out ?_
   refine pu 2 (some 74) (ba 12 6) HT_.out ?_
   refine pu 3 (some 75) (ba 12 14) HT_.out ?_
   refine pu 4 (some 76) (ba 12 30) HT_.out ?_
   refine tu 0 (some 72) (ba 12 31) HT_.out HW_.out hHeld ?_
   refine tu 5 (some 77) (ba 12 63) HT_.out HW_.out hHeld ?_
   refine one_ (i := 6) (N := some 78) (ba 12 127) rfl rfl (one_of HT_.out (by kernel_rfl)) (by decide) (fun K hK => ?_)
   refine goes_ Try.func16 (by kernel_rfl) rfl #[.agg #[.int .i64 t100, .slice Ao13 t108.length co13], .int .i64 t109, .int .i64 (rd t102 (ji30))] (by rfl) rfl rfl (by (try simp only [List.map_toArray, List.map_cons, List.map_nil]); first | done | (simp only [hji30]; rfl) | rfl | (simp only [List.length_drop, List.length_take]; rfl)) ?_
   with_reducible refine (impl_WayFind.calls kj8 t100 _ _ t108 t109 (rd t102 (ji30)) t105 false _ ?side1 ?side2 A33.out).mono ?_
   (case side1 => exact qc (Kd.R_reads' HO_101001.out).2.2)
   (case side2 => exact (Kd.R_reads' HO_101001.out).2.1)
   rintro e w62 ⟨v129, rfl, ho0, hb⟩
   have HS2_ := (hb.cell (World.block_lt_of_cell? _ _ (hHeld.2.2))).trans (hHeld.2.2)
   refine ⟨_, rfl, ?_⟩
   replace HO_101001 := q0 (Kd.R_below (qr HO_101001.out) hb)
   have HO130 := q0 (Kd.R_lower (Kd.R_new' (Kd.R_new' ho0 (Kd.R_lt (qr HO_8.out))) (Kd.R_lt (qr HO_10.out))) (below_size (qb HB.out)))
   replace HO_8 := q0 (Kd.R_elder' (qr HO_8.out) (Kd.R_base ho0) hb)
   replace HO_10 := q0 (Kd.R_elder' (qr HO_10.out) (Kd.R_base ho0) hb)
   replace BK115 := q0 (kb BK115.out hb)
   replace HB := q0 (below_step (qb HB.out) hb)
   (try clear hb)
   (try clear hb2)
   (try clear hk)
   (try clear hi)
   (try clear ho0)
   refine hK.out _ _ ⟨(blk_cell BK115.out 0).trans rfl, (blk_cell BK115.out 1).trans rfl, HS2_⟩ (fun hHeld => ?_)
   clear hK K
   refine nu 78 ?_
   refine pu 7 (some 71) (ba 12 255) HT_.out ?_
   refine pu 8 (some 79) (ba 12 511) HT_.out ?_
   refine pu 9 (some 80) (ba 12 1023) HT_.out ?_
   refine pu 10 (some 13) (ba 12 2047) HT_.out ?_
   refine pu 11 (some 14) (ba 12 4095) HT_.out ?_
   refine done_ (done_of HT_.out (by kernel_rfl)) ?_
   try go_wp2
   replace HO_8 := q0 (Kd.R_drew HO_8.out)
   replace HO_10 := q0 (Kd.R_drew HO_10.out)
   replace HO_101001 := q0 (Kd.R_drew HO_101001.out)
   replace HO130 := q0 (Kd.R_drew HO130.out)
   replace BK115 := q0 (blk_drew BK115.out)
   replace HB := q0 (below_drew1 HB.out)
   have p131 : 0 ≤ ((ji30) : Int) := of_decide_eq_true qa
   have q131 : (ji30) < (t102.length : Int) := of_decide_eq_true qa
   obtain ⟨ad131, e131, hx131_0⟩ := Kd.at_int (Kd.R_reads' HO_10.out).2.2 (ji30) p131 q131
   obtain rfl : ad128 = ad131 := (by injection e131)
   replace p131 := eq_true p131
   replace q131 := eq_true q131
   refine start_ (n := 12) (S := fun w' => w'.cell? ⟨gb115, 0, none⟩ = some (.int .i64 t100) ∧ w'.cell? ⟨gb115, 1, none⟩ = some (.slice Ao13 t108.length co13) ∧ w'.cell? (ad128.add ((ji30)).toNat) = some (.int .i64 (rd t102 (ji30)))) (ds := []) (ba 12 0) (by kernel_rfl) rfl (by kernel_rfl) ⟨(blk_cell BK115.out 0).trans rfl, (blk_cell BK115.out 1).trans rfl, hx131_0⟩ (fun hHeld => ?_); refine with_tabW laws_FnWayPiece.tab10 laws_FnWayPiece.bits10 (fun HT_ HW_ => ?_)
   generalize w62.drew = w63 at HO_8 HO_10 HO_101001 HO130 BK115 HB hx131_0 hHeld ⊢
   refine pu 1 (some 83) (ba 12 2) HT_.out ?_
   refine pu 2 (some 84) (ba 12 6) HT_.out ?_
   refine pu 3 (some 85) (ba 12 14) HT_.out ?_
   refine pu 5 (some 87) (ba 12 46) HT_.out ?_
   refine tu 0 (some 82) (ba 12 47) HT_.out HW_.out hHeld ?_
   refine tu 4 (some 86) (ba 12 63) HT_.out HW_.out hHeld ?_
   refine one_ (i := 6) (N := some 88) (ba 12 127) rfl rfl (one_of HT_.out (by kernel_rfl)) (by decide) (fun K hK => ?_)
   refine goes_ Try.func16 (by kernel_rfl) rfl #[.agg #[.int .i64 t100, .slice Ao13 t108.length co13], .int .i64 (rd t102 (ji30)), .int .i64 t110] (by rfl) rfl rfl (by (try simp only [List.map_toArray, List.map_cons, List.map_nil]); first | done | (simp only [hji30]; rfl) | rfl | (simp only [List.length_drop, List.length_take]; rfl)) ?_
   with_reducible refine (impl_WayFind.calls kj8 t100 _ _ t108 (rd t102 (ji30)) t110 t106 t124 _ ?side1 ?side2 A34.out).mono ?_
   (case side1 => exact qc (Kd.R_reads' HO_101001.out).2.2)
   (case side2 => exact (Kd.R_reads' HO_101001.out).2.1)
   rintro e w64 ⟨v132, rfl, ho0, hb⟩
   have HS2_ := (hb.cell (World.block_lt_of_cell? _ _ (hHeld.2.2))).trans (hHeld.2.2)
   refine ⟨_, rfl, ?_⟩
   replace HO_101001 := q0 (Kd.R_below (qr HO_101001.out) hb)
   have HO133 := q0 (Kd.R_lower (Kd.R_new' (Kd.R_new' (Kd.R_new' ho0 (Kd.R_lt (qr HO_8.out))) (Kd.R_lt (qr HO_10.out))) (Kd.R_lt (qr HO130.out))) (below_size (qb HB.out)))
   replace HO_8 := q0 (Kd.R_elder' (qr HO_8.out) (Kd.R_base ho0) hb)
   replace HO_10 := q0 (Kd.R_elder' (qr HO_10.out) (Kd.R_base ho0) hb)
   replace HO130 := q0 (Kd.R_elder' (qr HO130.out) (Kd.R_base ho0) hb)
   replace BK115 := q0 (kb BK115.out hb)
   replace HB := q0 (below_step (qb HB.out) hb)
   (try clear hb)
   (try clear hb2)
   (try clear hk)
   (try clear hi)
   (try clear ho0)
   refine hK.out _ _ ⟨(blk_cell BK115.out 0).trans rfl, (blk_cell BK115.out 1).trans rfl, HS2_⟩ (fun hHeld => ?_)
   clear hK K
   refine nu 88 ?_
   refine pu 7 (some 81) (ba 12 255) HT_.out ?_
   refine pu 8 (some 89) (ba 12 511) HT_.out ?_
   refine pu 9 (some 90) (ba 12 1023) HT_.out ?_
   refine pu 10 (some 15) (ba 12 2047) HT_.out ?_
   refine pu 11 (some 16) (ba 12 4095) HT_.out ?_
   refine done_ (done_of HT_.out (by kernel_rfl)) ?_
   try go_wp2
   go_ret
   exact ⟨by first | rfl | (simp [errW_none, errW_some] <;> rfl) | (simp only [← hji30]; first | rfl | (simp [errW_none, errW_some] <;> rfl)) | (simp [*, errW_none, errW_some] <;> rfl), qb HB.out⟩
 subst c35
 rw [if_pos rfl] at H
 by_cases c36 : t124 = true
 rotate_left
 · replace c36 := Bool.eq_false_iff.mpr c36
   subst c36
   rw [if_neg nf] at H
   obtain rfl := Option.some.inj H
   obtain ⟨Ao55, co55, eo55⟩ := Kd.R_slice HO_10.out
   subst eo55
   try go_wp2
   replace HO_8 := q0 (Kd.R_drew HO_8.out)
   replace HO_10 := q0 (Kd.R_drew HO_10.out)
   replace HO_101001 := q0 (Kd.R_drew HO_101001.out)
   replace BK115 := q0 (blk_drew BK115.out)
   replace HB := q0 (below_drew1 HB.out)
   have p128 : 0 ≤ ((ji30) : Int) := of_decide_eq_true qa
   have q128 : (ji30) < (t102.length : Int) := of_decide_eq_true qa
   obtain ⟨ad128, e128, hx128_0⟩ := Kd.at_int (Kd.R_reads' HO_10.out).2.2 (ji30) p128 q128
   cases e128
   replace p128 := eq_true p128
   replace q128 := eq_true q128
   refine start_ (n := 12) (S := fun w' => w'.cell? ⟨gb115, 0, none⟩ = some (.int .i64 t100) ∧ w'.cell? ⟨gb115, 1, none⟩ = some (.slice Ao13 t108.length co13) ∧ w'.cell? (ad128.add ((ji30)).toNat) = some (.int .i64 (rd t102 (ji30)))) (ds := []) (ba 12 0) (by kernel_rfl) rfl (by kernel_rfl) ⟨(blk_cell BK115.out 0).trans rfl, (blk_cell BK115.out 1).trans rfl, hx128_0⟩ (fun hHeld => ?_); refine with_tabW laws_FnWayPiece.tab9 laws_FnWayPiece.bits9 (fun HT_ HW_ => ?_)
   generalize wc.drew = w56 at HO_8 HO_10 HO_101001 BK115 HB hx128_0 hHeld ⊢
   refine pu 1 (some 73) (ba 12 2) HT_.out ?_
   refine pu 2 (some 74) (ba 12 6) HT_.out ?_
   refine pu 3 (some 75) (ba 12 14) HT_.out ?_
   refine pu 4 (some 76) (ba 12 30) HT_.out ?_
   refine tu 0 (some 72) (ba 12 31) HT_.out HW_.out hHeld ?_
   refine tu 5 (some 77) (ba 12 63) HT_.out HW_.out hHeld ?_
   refine one_ (i := 6) (N := some 78) (ba 12 127) rfl rfl (one_of HT_.out (by kernel_rfl)) (by decide) (fun K hK => ?_)
   refine goes_ Try.func16 (by kernel_rfl) rfl #[.agg #[.int .i64 t100, .slice Ao13 t108.length co13], .int .i64 t109, .int .i64 (rd t102 (ji30))] (by rfl) rfl rfl (by (try simp only [List.map_toArray, List.map_cons, List.map_nil]); first | done | (simp only [hji30]; rfl) | rfl | (simp only [List.length_drop, List.length_take]; rfl)) ?_
   with_reducible refine (impl_WayFind.calls kj8 t100 _ _ t108 t109 (rd t102 (ji30)) t105 true _ ?side1 ?side2 A33.out).mono ?_
   (case side1 => exact qc (Kd.R_reads' HO_101001.out).2.2)
   (case side2 => exact (Kd.R_reads' HO_101001.out).2.1)
   rintro e w57 ⟨v129, rfl, ho0, hb⟩
   have HS2_ := (hb.cell (World.block_lt_of_cell? _ _ (hHeld.2.2))).trans (hHeld.2.2)
   refine ⟨_, rfl, ?_⟩
   replace HO_101001 := q0 (Kd.R_below (qr HO_101001.out) hb)
   have HO130 := q0 (Kd.R_lower (Kd.R_new' (Kd.R_new' ho0 (Kd.R_lt (qr HO_8.out))) (Kd.R_lt (qr HO_10.out))) (below_size (qb HB.out)))
   replace HO_8 := q0 (Kd.R_elder' (qr HO_8.out) (Kd.R_base ho0) hb)
   replace HO_10 := q0 (Kd.R_elder' (qr HO_10.out) (Kd.R_base ho0) hb)
   replace BK115 := q0 (kb BK115.out hb)
   replace HB := q0 (below_step (qb HB.out) hb)
   (try clear hb)
   (try clear hb2)
   (try clear hk)
   (try clear hi)
   (try clear ho0)
   refine hK.out _ _ ⟨(blk_cell BK115.out 0).trans rfl, (blk_cell BK115.out 1).trans rfl, HS2_⟩ (fun hHeld => ?_)
   clear hK K
   refine nu 78 ?_
   refine pu 7 (some 71) (ba 12 255) HT_.out ?_
   refine pu 8 (some 79) (ba 12 511) HT_.out ?_
   refine pu 9 (some 80) (ba 12 1023) HT_.out ?_
   refine pu 10 (some 13) (ba 12 2047) HT_.out ?_
   refine pu 11 (some 14) (ba 12 4095) HT_.out ?_
   refine done_ (done_of HT_.out (by kernel_rfl)) ?_
   try go_wp2
   replace HO_8 := q0 (Kd.R_drew HO_8.out)
   replace HO_10 := q0 (Kd.R_drew HO_10.out)
   replace HO_101001 := q0 (Kd.R_drew HO_101001.out)
   replace HO130 := q0 (Kd.R_drew HO130.out)
   replace BK115 := q0 (blk_drew BK115.out)
   replace HB := q0 (below_drew1 HB.out)
   have p131 : 0 ≤ ((ji30) : Int) := of_decide_eq_true qa
   have q131 : (ji30) < (t102.length : Int) := of_decide_eq_true qa
   obtain ⟨ad131, e131, hx131_0⟩ := Kd.at_int (Kd.R_reads' HO_10.out).2.2 (ji30) p131 q131
   obtain rfl : ad128 = ad131 := (by injection e131)
   replace p131 := eq_true p131
   replace q131 := eq_true q131
   refine start_ (n := 12) (S := fun w' => w'.cell? ⟨gb115, 0, none⟩ = some (.int .i64 t100) ∧ w'.cell? ⟨gb115, 1, none⟩ = some (.slice Ao13 t108.length co13) ∧ w'.cell? (ad128.add ((ji30)).toNat) = some (.int .i64 (rd t102 (ji30)))) (ds := []) (ba 12 0) (by kernel_rfl) rfl (by kernel_rfl) ⟨(blk_cell BK115.out 0).trans rfl, (blk_cell BK115.out 1).trans rfl, hx131_0⟩ (fun hHeld => ?_); refine with_tabW laws_FnWayPiece.tab10 laws_FnWayPiece.bits10 (fun HT_ HW_ => ?_)
   generalize w57.drew = w58 at HO_8 HO_10 HO_101001 HO130 BK115 HB hx131_0 hHeld ⊢
   refine pu 1 (some 83) (ba 12 2) HT_.out ?_
   refine pu 2 (some 84) (ba 12 6) HT_.out ?_
   refine pu 3 (some 85) (ba 12 14) HT_.out ?_
   refine pu 5 (some 87) (ba 12 46) HT_.out ?_
   refine tu 0 (some 82) (ba 12 47) HT_.out HW_.out hHeld ?_
   refine tu 4 (some 86) (ba 12 63) HT_.out HW_.out hHeld ?_
   refine one_ (i := 6) (N := some 88) (ba 12 127) rfl rfl (one_of HT_.out (by kernel_rfl)) (by decide) (fun K hK => ?_)
   refine goes_ Try.func16 (by kernel_rfl) rfl #[.agg #[.int .i64 t100, .slice Ao13 t108.length co13], .int .i64 (rd t102 (ji30)), .int .i64 t110] (by rfl) rfl rfl (by (try simp only [List.map_toArray, List.map_cons, List.map_nil]); first | done | (simp only [hji30]; rfl) | rfl | (simp only [List.length_drop, List.length_take]; rfl)) ?_
   with_reducible refine (impl_WayFind.calls kj8 t100 _ _ t108 (rd t102 (ji30)) t110 t106 false _ ?side1 ?side2 A34.out).mono ?_
   (case side1 => exact qc (Kd.R_reads' HO_101001.out).2.2)
   (case side2 => exact (Kd.R_reads' HO_101001.out).2.1)
   rintro e w59 ⟨v132, rfl, ho0, hb⟩
   have HS2_ := (hb.cell (World.block_lt_of_cell? _ _ (hHeld.2.2))).trans (hHeld.2.2)
   refine ⟨_, rfl, ?_⟩
   replace HO_101001 := q0 (Kd.R_below (qr HO_101001.out) hb)
   have HO133 := q0 (Kd.R_lower (Kd.R_new' (Kd.R_new' (Kd.R_new' ho0 (Kd.R_lt (qr HO_8.out))) (Kd.R_lt (qr HO_10.out))) (Kd.R_lt (qr HO130.out))) (below_size (qb HB.out)))
   replace HO_8 := q0 (Kd.R_elder' (qr HO_8.out) (Kd.R_base ho0) hb)
   replace HO_10 := q0 (Kd.R_elder' (qr HO_10.out) (Kd.R_base ho0) hb)
   replace HO130 := q0 (Kd.R_elder' (qr HO130.out) (Kd.R_base ho0) hb)
   replace BK115 := q0 (kb BK115.out hb)
   replace HB := q0 (below_step (qb HB.out) hb)
   (try clear hb)
   (try clear hb2)
   (try clear hk)
   (try clear hi)
   (try clear ho0)
   refine hK.out _ _ ⟨(blk_cell BK115.out 0).trans rfl, (blk_cell BK115.out 1).trans rfl, HS2_⟩ (fun hHeld => ?_)
   clear hK K
   refine nu 88 ?_
   refine pu 7 (some 81) (ba 12 255) HT_.out ?_
   refine pu 8 (some 89) (ba 12 511) HT_.out ?_
   refine pu 9 (some 90) (ba 12 1023) HT_.out ?_
   refine pu 10 (some 15) (ba 12 2047) HT_.out ?_
   refine pu 11 (some 16) (ba 12 4095) HT_.out ?_
   refine done_ (done_of HT_.out (by kernel_rfl)) ?_
   try go_wp2
   go_ret
   exact ⟨by first | rfl | (simp [errW_none, errW_some] <;> rfl) | (simp only [← hji30]; first | rfl | (simp [errW_none, errW_some] <;> rfl)) | (simp [*, errW_none, errW_some] <;> rfl), qb HB.out⟩
 subst c36
 rw [if_pos rfl] at H
 by_cases c37 : (t105.length : Int) = (wrap64 ((ji30) + 1))
 rotate_left
 · rw [if_neg c37] at H
   have c37b0 : ((t105.length : Int) == (wrap64 ((ji30) + 1))) = false := beq_eq_false_iff_ne.mpr c37
   have c37b1 : ((t105.length : Int) != (wrap64 ((ji30) + 1))) = true := bne_iff_ne.mpr c37
   obtain rfl := Option.some.inj H
   obtain ⟨Ao49, co49, eo49⟩ := Kd.R_slice HO_10.out
   subst eo49
   try go_wp2
   replace HO_8 := q0 (Kd.R_drew HO_8.out)
   replace HO_10 := q0 (Kd.R_drew HO_10.out)
   replace HO_101001 := q0 (Kd.R_drew HO_101001.out)
   replace BK115 := q0 (blk_drew BK115.out)
   replace HB := q0 (below_drew1 HB.out)
   have p128 : 0 ≤ ((ji30) : Int) := of_decide_eq_true qa
   have q128 : (ji30) < (t102.length : Int) := of_decide_eq_true qa
   obtain ⟨ad128, e128, hx128_0⟩ := Kd.at_int (Kd.R_reads' HO_10.out).2.2 (ji30) p128 q128
   cases e128
   replace p128 := eq_true p128
   replace q128 := eq_true q128
   refine start_ (n := 12) (S := fun w' => w'.cell? ⟨gb115, 0, none⟩ = some (.int .i64 t100) ∧ w'.cell? ⟨gb115, 1, none⟩ = some (.slice Ao13 t108.length co13) ∧ w'.cell? (ad128.add ((ji30)).toNat) = some (.int .i64 (rd t102 (ji30)))) (ds := []) (ba 12 0) (by kernel_rfl) rfl (by kernel_rfl) ⟨(blk_cell BK115.out 0).trans rfl, (blk_cell BK115.out 1).trans rfl, hx128_0⟩ (fun hHeld => ?_); refine with_tabW laws_FnWayPiece.tab9 laws_FnWayPiece.bits9 (fun HT_ HW_ => ?_)
   generalize wc.drew = w50 at HO_8 HO_10 HO_101001 BK115 HB hx128_0 hHeld ⊢
   refine pu 1 (some 73) (ba 12 2) HT_.out ?_
   refine pu 2 (some 74) (ba 12 6) HT_.out ?_
   refine pu 3 (some 75) (ba 12 14) HT_.out ?_
   refine pu 4 (some 76) (ba 12 30) HT_.out ?_
   refine tu 0 (some 72) (ba 12 31) HT_.out HW_.out hHeld ?_
   refine tu 5 (some 77) (ba 12 63) HT_.out HW_.out hHeld ?_
   refine one_ (i := 6) (N := some 78) (ba 12 127) rfl rfl (one_of HT_.out (by kernel_rfl)) (by decide) (fun K hK => ?_)
   refine goes_ Try.func16 (by kernel_rfl) rfl #[.agg #[.int .i64 t100, .slice Ao13 t108.length co13], .int .i64 t109, .int .i64 (rd t102 (ji30))] (by rfl) rfl rfl (by (try simp only [List.map_toArray, List.map_cons, List.map_nil]); first | done | (simp only [hji30]; rfl) | rfl | (simp only [List.length_drop, List.length_take]; rfl)) ?_
   with_reducible refine (impl_WayFind.calls kj8 t100 _ _ t108 t109 (rd t102 (ji30)) t105 true _ ?side1 ?side2 A33.out).mono ?_
   (case side1 => exact qc (Kd.R_reads' HO_101001.out).2.2)
   (case side2 => exact (Kd.R_reads' HO_101001.out).2.1)
   rintro e w51 ⟨v129, rfl, ho0, hb⟩
   have HS2_ := (hb.cell (World.block_lt_of_cell? _ _ (hHeld.2.2))).trans (hHeld.2.2)
   refine ⟨_, rfl, ?_⟩
   replace HO_101001 := q0 (Kd.R_below (qr HO_101001.out) hb)
   have HO130 := q0 (Kd.R_lower (Kd.R_new' (Kd.R_new' ho0 (Kd.R_lt (qr HO_8.out))) (Kd.R_lt (qr HO_10.out))) (below_size (qb HB.out)))
   replace HO_8 := q0 (Kd.R_elder' (qr HO_8.out) (Kd.R_base ho0) hb)
   replace HO_10 := q0 (Kd.R_elder' (qr HO_10.out) (Kd.R_base ho0) hb)
   replace BK115 := q0 (kb BK115.out hb)
   replace HB := q0 (below_step (qb HB.out) hb)
   (try clear hb)
   (try clear hb2)
   (try clear hk)
   (try clear hi)
   (try clear ho0)
   refine hK.out _ _ ⟨(blk_cell BK115.out 0).trans rfl, (blk_cell BK115.out 1).trans rfl, HS2_⟩ (fun hHeld => ?_)
   clear hK K
   refine nu 78 ?_
   refine pu 7 (some 71) (ba 12 255) HT_.out ?_
   refine pu 8 (some 79) (ba 12 511) HT_.out ?_
   refine pu 9 (some 80) (ba 12 1023) HT_.out ?_
   refine pu 10 (some 13) (ba 12 2047) HT_.out ?_
   refine pu 11 (some 14) (ba 12 4095) HT_.out ?_
   refine done_ (done_of HT_.out (by kernel_rfl)) ?_
   try go_wp2
   replace HO_8 := q0 (Kd.R_drew HO_8.out)
   replace HO_10 := q0 (Kd.R_drew HO_10.out)
   replace HO_101001 := q0 (Kd.R_drew HO_101001.out)
   replace HO130 := q0 (Kd.R_drew HO130.out)
   replace BK115 := q0 (blk_drew BK115.out)
   replace HB := q0 (below_drew1 HB.out)
   have p131 : 0 ≤ ((ji30) : Int) := of_decide_eq_true qa
   have q131 : (ji30) < (t102.length : Int) := of_decide_eq_true qa
   obtain ⟨ad131, e131, hx131_0⟩ := Kd.at_int (Kd.R_reads' HO_10.out).2.2 (ji30) p131 q131
   obtain rfl : ad128 = ad131 := (by injection e131)
   replace p131 := eq_true p131
   replace q131 := eq_true q131
   refine start_ (n := 12) (S := fun w' => w'.cell? ⟨gb115, 0, none⟩ = some (.int .i64 t100) ∧ w'.cell? ⟨gb115, 1, none⟩ = some (.slice Ao13 t108.length co13) ∧ w'.cell? (ad128.add ((ji30)).toNat) = some (.int .i64 (rd t102 (ji30)))) (ds := []) (ba 12 0) (by kernel_rfl) rfl (by kernel_rfl) ⟨(blk_cell BK115.out 0).trans rfl, (blk_cell BK115.out 1).trans rfl, hx131_0⟩ (fun hHeld => ?_); refine with_tabW laws_FnWayPiece.tab10 laws_FnWayPiece.bits10 (fun HT_ HW_ => ?_)
   generalize w51.drew = w52 at HO_8 HO_10 HO_101001 HO130 BK115 HB hx131_0 hHeld ⊢
   refine pu 1 (some 83) (ba 12 2) HT_.out ?_
   refine pu 2 (some 84) (ba 12 6) HT_.out ?_
   refine pu 3 (some 85) (ba 12 14) HT_.out ?_
   refine pu 5 (some 87) (ba 12 46) HT_.out ?_
   refine tu 0 (some 82) (ba 12 47) HT_.out HW_.out hHeld ?_
   refine tu 4 (some 86) (ba 12 63) HT_.out HW_.out hHeld ?_
   refine one_ (i := 6) (N := some 88) (ba 12 127) rfl rfl (one_of HT_.out (by kernel_rfl)) (by decide) (fun K hK => ?_)
   refine goes_ Try.func16 (by kernel_rfl) rfl #[.agg #[.int .i64 t100, .slice Ao13 t108.length co13], .int .i64 (rd t102 (ji30)), .int .i64 t110] (by rfl) rfl rfl (by (try simp only [List.map_toArray, List.map_cons, List.map_nil]); first | done | (simp only [hji30]; rfl) | rfl | (simp only [List.length_drop, List.length_take]; rfl)) ?_
   with_reducible refine (impl_WayFind.calls kj8 t100 _ _ t108 (rd t102 (ji30)) t110 t106 true _ ?side1 ?side2 A34.out).mono ?_
   (case side1 => exact qc (Kd.R_reads' HO_101001.out).2.2)
   (case side2 => exact (Kd.R_reads' HO_101001.out).2.1)
   rintro e w53 ⟨v132, rfl, ho0, hb⟩
   have HS2_ := (hb.cell (World.block_lt_of_cell? _ _ (hHeld.2.2))).trans (hHeld.2.2)
   refine ⟨_, rfl, ?_⟩
   replace HO_101001 := q0 (Kd.R_below (qr HO_101001.out) hb)
   have HO133 := q0 (Kd.R_lower (Kd.R_new' (Kd.R_new' (Kd.R_new' ho0 (Kd.R_lt (qr HO_8.out))) (Kd.R_lt (qr HO_10.out))) (Kd.R_lt (qr HO130.out))) (below_size (qb HB.out)))
   replace HO_8 := q0 (Kd.R_elder' (qr HO_8.out) (Kd.R_base ho0) hb)
   replace HO_10 := q0 (Kd.R_elder' (qr HO_10.out) (Kd.R_base ho0) hb)
   replace HO130 := q0 (Kd.R_elder' (qr HO130.out) (Kd.R_base ho0) hb)
   replace BK115 := q0 (kb BK115.out hb)
   replace HB := q0 (below_step (qb HB.out) hb)
   (try clear hb)
   (try clear hb2)
   (try clear hk)
   (try clear hi)
   (try clear ho0)
   refine hK.out _ _ ⟨(blk_cell BK115.out 0).trans rfl, (blk_cell BK115.out 1).trans rfl, HS2_⟩ (fun hHeld => ?_)
   clear hK K
   refine nu 88 ?_
   refine pu 7 (some 81) (ba 12 255) HT_.out ?_
   refine pu 8 (some 89) (ba 12 511) HT_.out ?_
   refine pu 9 (some 90) (ba 12 1023) HT_.out ?_
   refine pu 10 (some 15) (ba 12 2047) HT_.out ?_
   refine pu 11 (some 16) (ba 12 4095) HT_.out ?_
   refine done_ (done_of HT_.out (by kernel_rfl)) ?_
   obtain ⟨Ao54, co54, eo54⟩ := Kd.R_slice HO130.out
   subst eo54
   try go_wp2
   go_ret
   exact ⟨by first | rfl | (simp [errW_none, errW_some] <;> rfl) | (simp only [← hji30]; first | rfl | (simp [errW_none, errW_some] <;> rfl)) | (simp [*, errW_none, errW_some] <;> rfl), qb HB.out⟩
 rw [if_pos c37] at H
 have c37b0 : ((t105.length : Int) == (wrap64 ((ji30) + 1))) = true := beq_iff_eq.mpr c37
 have c37b1 : ((t105.length : Int) != (wrap64 ((ji30) + 1))) = false := bne_eq_false_iff_eq.mpr c37
 clear c37
 have c38b0 := eq_true (of_decide_eq_true qa : 0 ≤ (ji30))
 by_cases c39 : (ji30) ≤ (t102.length : Int)
 rotate_left
 · rw [if_neg c39] at H
   exact absurd H (by simp)
 rw [if_pos c39] at H
 have c39b0 := eq_true c39
 have c39b1 : decide ((ji30) ≤ (t102.length : Int)) = true := decide_eq_true c39
 clear c39
 obtain ⟨y126, hy126⟩ : ∃ y_ : List Int, y_ = (t102.drop ((ji30) : Int).toNat) := ⟨_, rfl⟩
 replace H : ((laws_loInts.f kj8 t106 y126).bind fun t107 => (some t107)) = some r := qy H hy126
 have Ny126 := Aside0.mk hy126
 clear hy126
 replace H := Option.bind_eq_some_iff.mp H
 obtain ⟨t107, A127, H⟩ := H
 have A40 := Aside0.mk A127
 clear A127
 obtain rfl := Option.some.inj H
 obtain ⟨Ao41, co41, eo41⟩ := Kd.R_slice HO_10.out
 subst eo41
 try go_wp2
 replace HO_8 := q0 (Kd.R_drew HO_8.out)
 replace HO_10 := q0 (Kd.R_drew HO_10.out)
 replace HO_101001 := q0 (Kd.R_drew HO_101001.out)
 replace BK115 := q0 (blk_drew BK115.out)
 replace HB := q0 (below_drew1 HB.out)
 have p128 : 0 ≤ ((ji30) : Int) := of_decide_eq_true qa
 have q128 : (ji30) < (t102.length : Int) := of_decide_eq_true qa
 obtain ⟨ad128, e128, hx128_0⟩ := Kd.at_int (Kd.R_reads' HO_10.out).2.2 (ji30) p128 q128
 cases e128
 replace p128 := eq_true p128
 replace q128 := eq_true q128
 refine start_ (n := 12) (S := fun w' => w'.cell? ⟨gb115, 0, none⟩ = some (.int .i64 t100) ∧ w'.cell? ⟨gb115, 1, none⟩ = some (.slice Ao13 t108.length co13) ∧ w'.cell? (ad128.add ((ji30)).toNat) = some (.int .i64 (rd t102 (ji30)))) (ds := []) (ba 12 0) (by kernel_rfl) rfl (by kernel_rfl) ⟨(blk_cell BK115.out 0).trans rfl, (blk_cell BK115.out 1).trans rfl, hx128_0⟩ (fun hHeld => ?_); refine with_tabW laws_FnWayPiece.tab9 laws_FnWayPiece.bits9 (fun HT_ HW_ => ?_)
 generalize wc.drew = w42 at HO_8 HO_10 HO_101001 BK115 HB hx128_0 hHeld ⊢
 refine pu 1 (some 73) (ba 12 2) HT_.out ?_
 refine pu 2 (some 74) (ba 12 6) HT_.out ?_
 refine pu 3 (some 75) (ba 12 14) HT_.out ?_
 refine pu 4 (some 76) (ba 12 30) HT_.out ?_
 refine tu 0 (some 72) (ba 12 31) HT_.out HW_.out hHeld ?_
 refine tu 5 (some 77) (ba 12 63) HT_.out HW_.out hHeld ?_
 refine one_ (i := 6) (N := some 78) (ba 12 127) rfl rfl (one_of HT_.out (by kernel_rfl)) (by decide) (fun K hK => ?_)
 refine goes_ Try.func16 (by kernel_rfl) rfl #[.agg #[.int .i64 t100, .slice Ao13 t108.length co13], .int .i64 t109, .int .i64 (rd t102 (ji30))] (by rfl) rfl rfl (by (try simp only [List.map_toArray, List.map_cons, List.map_nil]); first | done | (simp only [hji30]; rfl) | rfl | (simp only [List.length_drop, List.length_take]; rfl)) ?_
 with_reducible refine (impl_WayFind.calls kj8 t100 _ _ t108 t109 (rd t102 (ji30)) t105 true _ ?side1 ?side2 A33.out).mono ?_
 (case side1 => exact qc (Kd.R_reads' HO_101001.out).2.2)
 (case side2 => exact (Kd.R_reads' HO_101001.out).2.1)
 rintro e w43 ⟨v129, rfl, ho0, hb⟩
 have HS2_ := (hb.cell (World.block_lt_of_cell? _ _ (hHeld.2.2))).trans (hHeld.2.2)
 refine ⟨_, rfl, ?_⟩
 replace HO_101001 := q0 (Kd.R_below (qr HO_101001.out) hb)
 have HO130 := q0 (Kd.R_lower (Kd.R_new' (Kd.R_new' ho0 (Kd.R_lt (qr HO_8.out))) (Kd.R_lt (qr HO_10.out))) (below_size (qb HB.out)))
 replace HO_8 := q0 (Kd.R_elder' (qr HO_8.out) (Kd.R_base ho0) hb)
 replace HO_10 := q0 (Kd.R_elder' (qr HO_10.out) (Kd.R_base ho0) hb)
 replace BK115 := q0 (kb BK115.out hb)
 replace HB := q0 (below_step (qb HB.out) hb)
 (try clear hb)
 (try clear hb2)
 (try clear hk)
 (try clear hi)
 (try clear ho0)
 refine hK.out _ _ ⟨(blk_cell BK115.out 0).trans rfl, (blk_cell BK115.out 1).trans rfl, HS2_⟩ (fun hHeld => ?_)
 clear hK K
 refine nu 78 ?_
 refine pu 7 (some 71) (ba 12 255) HT_.out ?_
 refine pu 8 (some 79) (ba 12 511) HT_.out ?_
 refine pu 9 (some 80) (ba 12 1023) HT_.out ?_
 refine pu 10 (some 13) (ba 12 2047) HT_.out ?_
 refine pu 11 (some 14) (ba 12 4095) HT_.out ?_
 refine done_ (done_of HT_.out (by kernel_rfl)) ?_
 try go_wp2
 replace HO_8 := q0 (Kd.R_drew HO_8.out)
 replace HO_10 := q0 (Kd.R_drew HO_10.out)
 replace HO_101001 := q0 (Kd.R_drew HO_101001.out)
 replace HO130 := q0 (Kd.R_drew HO130.out)
 replace BK115 := q0 (blk_drew BK115.out)
 replace HB := q0 (below_drew1 HB.out)
 have p131 : 0 ≤ ((ji30) : Int) := of_decide_eq_true qa
 have q131 : (ji30) < (t102.length : Int) := of_decide_eq_true qa
 obtain ⟨ad131, e131, hx131_0⟩ := Kd.at_int (Kd.R_reads' HO_10.out).2.2 (ji30) p131 q131
 obtain rfl : ad128 = ad131 := (by injection e131)
 replace p131 := eq_true p131
 replace q131 := eq_true q131
 refine start_ (n := 12) (S := fun w' => w'.cell? ⟨gb115, 0, none⟩ = some (.int .i64 t100) ∧ w'.cell? ⟨gb115, 1, none⟩ = some (.slice Ao13 t108.length co13) ∧ w'.cell? (ad128.add ((ji30)).toNat) = some (.int .i64 (rd t102 (ji30)))) (ds := []) (ba 12 0) (by kernel_rfl) rfl (by kernel_rfl) ⟨(blk_cell BK115.out 0).trans rfl, (blk_cell BK115.out 1).trans rfl, hx131_0⟩ (fun hHeld => ?_); refine with_tabW laws_FnWayPiece.tab10 laws_FnWayPiece.bits10 (fun HT_ HW_ => ?_)
 generalize w43.drew = w44 at HO_8 HO_10 HO_101001 HO130 BK115 HB hx131_0 hHeld ⊢
 refine pu 1 (some 83) (ba 12 2) HT_.out ?_
 refine pu 2 (some 84) (ba 12 6) HT_.out ?_
 refine pu 3 (some 85) (ba 12 14) HT_.out ?_
 refine pu 5 (some 87) (ba 12 46) HT_.out ?_
 refine tu 0 (some 82) (ba 12 47) HT_.out HW_.out hHeld ?_
 refine tu 4 (some 86) (ba 12 63) HT_.out HW_.out hHeld ?_
 refine one_ (i := 6) (N := some 88) (ba 12 127) rfl rfl (one_of HT_.out (by kernel_rfl)) (by decide) (fun K hK => ?_)
 refine goes_ Try.func16 (by kernel_rfl) rfl #[.agg #[.int .i64 t100, .slice Ao13 t108.length co13], .int .i64 (rd t102 (ji30)), .int .i64 t110] (by rfl) rfl rfl (by (try simp only [List.map_toArray, List.map_cons, List.map_nil]); first | done | (simp only [hji30]; rfl) | rfl | (simp only [List.length_drop, List.length_take]; rfl)) ?_
 with_reducible refine (impl_WayFind.calls kj8 t100 _ _ t108 (rd t102 (ji30)) t110 t106 true _ ?side1 ?side2 A34.out).mono ?_
 (case side1 => exact qc (Kd.R_reads' HO_101001.out).2.2)
 (case side2 => exact (Kd.R_reads' HO_101001.out).2.1)
 rintro e w45 ⟨v132, rfl, ho0, hb⟩
 have HS2_ := (hb.cell (World.block_lt_of_cell? _ _ (hHeld.2.2))).trans (hHeld.2.2)
 refine ⟨_, rfl, ?_⟩
 replace HO_101001 := q0 (Kd.R_below (qr HO_101001.out) hb)
 have HO133 := q0 (Kd.R_lower (Kd.R_new' (Kd.R_new' (Kd.R_new' ho0 (Kd.R_lt (qr HO_8.out))) (Kd.R_lt (qr HO_10.out))) (Kd.R_lt (qr HO130.out))) (below_size (qb HB.out)))
 replace HO_8 := q0 (Kd.R_elder' (qr HO_8.out) (Kd.R_base ho0) hb)
 replace HO_10 := q0 (Kd.R_elder' (qr HO_10.out) (Kd.R_base ho0) hb)
 replace HO130 := q0 (Kd.R_elder' (qr HO130.out) (Kd.R_base ho0) hb)
 replace BK115 := q0 (kb BK115.out hb)
 replace HB := q0 (below_step (qb HB.out) hb)
 (try clear hb)
 (try clear hb2)
 (try clear hk)
 (try clear hi)
 (try clear ho0)
 refine hK.out _ _ ⟨(blk_cell BK115.out 0).trans rfl, (blk_cell BK115.out 1).trans rfl, HS2_⟩ (fun hHeld => ?_)
 clear hK K
 refine nu 88 ?_
 refine pu 7 (some 81) (ba 12 255) HT_.out ?_
 refine pu 8 (some 89) (ba 12 511) HT_.out ?_
 refine pu 9 (some 90) (ba 12 1023) HT_.out ?_
 refine pu 10 (some 15) (ba 12 2047) HT_.out ?_
 refine pu 11 (some 16) (ba 12 4095) HT_.out ?_
 refine done_ (done_of HT_.out (by kernel_rfl)) ?_
 obtain ⟨Ao46, co46, eo46⟩ := Kd.R_slice HO130.out
 subst eo46
 have q47 : ((ji30) : Int) ≤ ((t102.length : Int) : Int) := of_decide_eq_true qa
 obtain ⟨i134, hi134, _, hsz47, _⟩ := info_parts info3
 have hroom47 : t102.length ≤ co41 := (Kd.R_reads' HO_10.out).2.1
 have hC47 : Kd.C (Kd.int .i64) _ (some ad128) t102.length t102 := (Kd.R_reads' HO_10.out).2.2
 have q134 : (0 : Int) ≤ ((ji30) : Int) := of_decide_eq_true qa
 have hcut47 := cut_from (P := Try.prog) 26 3 .i64 Try.underlying26 hi134 1 hsz47 (some ad128) t102.length co41 (ji30) q134 q47
 have hr47 := Kd.C_drop (m := ((ji30) : Int).toNat) (c := co41) hC47 (by omega) hroom47
 obtain ⟨A47, hA47⟩ : ∃ A1, A1 = (if co41 = ((ji30) : Int).toNat then (some ad128) else ((some ad128) : Option Addr).map (·.add (((ji30) : Int).toNat * 1))) := ⟨_, rfl⟩
 obtain ⟨c47, hc47⟩ : ∃ c1, c1 = co41 - ((ji30) : Int).toNat := ⟨_, rfl⟩
 have hy47 : y126.length = t102.length - ((ji30) : Int).toNat := (by rw [Ny126.out, List.length_drop] <;> omega)
 rw [show (t102).drop ((ji30) : Int).toNat = y126 from Ny126.out.symm] at hr47
 replace hr47 : Kd.C (Kd.int .i64) _ A47 y126.length y126 := (by rw [hA47]; exact hr47)
 rw [← hy47, ← hA47, ← hc47] at hcut47
 have HR135 := Aside0.mk hr47
 have HC135 := q0 (show y126.length ≤ c47 from by rw [hy47, hc47]; exact Nat.sub_le_sub_right hroom47 _)
 clear hr47 hC47 hroom47 hi134 hsz47 hc47
 have KY47 := Aside0.mk hy47
 have KA47 := Aside0.mk hA47
 clear hy47 hA47
 have KL47 := q0 (show ((ji30) : Int).toNat ≤ t102.length from by omega)
 replace q47 := eq_true q47
 obtain ⟨Ao48, co48, eo48⟩ := Kd.R_slice HO133.out
 subst eo48
 try go_wp2_with (first | (go_at_call 28; (with_reducible refine (laws_loInts.calls kj8 _ _ t106 _ _ y126 t107 _ ?side1 ?side2 ?side3 ?side4 A40.out).mono ?_); (case side1 => exact qc (Kd.R_reads' HO133.out).2.2); (case side2 => exact (Kd.R_reads' HO133.out).2.1); (case side3 => repeat (first | exact (by repeat (first | (with_reducible exact HR135.out) | (with_reducible refine Kd.C_alloc ?_ _) | (with_reducible refine Kd.C_drewN ?_ _) | (with_reducible refine Kd.C_drew ?_) | exact HR135.out)) | (with_reducible refine Kd.C_alloc ?_ _) | (with_reducible refine Kd.C_drewN ?_ _) | (with_reducible refine Kd.C_drew ?_))); (case side4 => exact HC135.out); rintro e w' ⟨rfl, ⟨nd, rfl⟩⟩))
 go_ret
 exact ⟨by first | rfl | (simp [errW_none, errW_some] <;> rfl) | (simp only [← hji30]; first | rfl | (simp [errW_none, errW_some] <;> rfl)) | (simp [*, errW_none, errW_some] <;> rfl), qb HB.out⟩

theorem laws_FnWayPiece.walk (P : laws_FnWayPiece.Pure) (a0 : Option Addr) (len0 cap0 : Nat) (z0 : List Int) (a1 : Option Addr) (len1 cap1 : Nat) (z1 : List Int) (w : World) (w0 : (a0 = none ∧ len0 = 0 ∧ cap0 = 0 ∧ z0 = []) ∨ ∃ x, a0 = some x ∧ len0 ≤ cap0 ∧ cap0 ≤ maxLen ∧ z0.length = cap0 ∧ (∀ i, i < z0.length → w.cell? (x.add i) = some (.int .u8 (z0.getD i 0))) ∧ ∀ n ∈ z0, (Lit.int .u8 n).wf = true) (y0 : len0 * 1 ≤ 140737488351232) (w1 : (a1 = none ∧ len1 = 0 ∧ cap1 = 0 ∧ z1 = []) ∨ ∃ x, a1 = some x ∧ len1 ≤ cap1 ∧ cap1 ≤ maxLen ∧ z1.length = cap1 ∧ (∀ i, i < z1.length → w.cell? (x.add i) = some (.int .u8 (z1.getD i 0))) ∧ ∀ n ∈ z1, (Lit.int .u8 n).wf = true) (y1 : len1 * 1 ≤ 140737488351232) :
    Calls Try.prog 5 #[.slice a0 len0 cap0, .slice a1 len1 cap1] w fun e w' => e = .returned (.bool true) ∧ Below w.heap.size w w' := by
  obtain ⟨l0, rfl, hr0, hm0, hw0, hc0⟩ := ReadsInt.ofRowC w0
  obtain ⟨l1, rfl, hr1, hm1, hw1, hc1⟩ := ReadsInt.ofRowC w1
  obtain ⟨k, h⟩ := P l0 l1 hm0 y0 hw0 hm1 y1 hw1
  refine (laws_FnWayPiece.calls k _ _ l0 _ _ l1 true w (Kd.C_of_reads (d := (0 : Int)) (h1 := fun _ => rfl) hr0) hc0 (Kd.C_of_reads (d := (0 : Int)) (h1 := fun _ => rfl) hr1) hc1 h).mono ?_
  rintro e w' ⟨rfl, hd⟩
  exact ⟨rfl, hd⟩
end Go.Proofs.Ytmfmeenfhdohcaa.P
