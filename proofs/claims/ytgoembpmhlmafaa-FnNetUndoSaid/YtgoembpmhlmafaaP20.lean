import Derived.Test.YtgoembpmhlmafaaP0
import Derived.Test.YtgoembpmhlmafaaP2
import Derived.Test.YtgoembpmhlmafaaP4
import Derived.Test.YtgoembpmhlmafaaP5
import Derived.Test.YtgoembpmhlmafaaP6
import Derived.Test.YtgoembpmhlmafaaP11
namespace Go.Proofs.Ytgoembpmhlmafaa.P
open Go.RowKit Go.Proofs.YtgoembpmhlmafaaW.PrintWords Go.Proofs.YtgoembpmhlmafaaW.PrintLast Go.Proofs.YtgoembpmhlmafaaW.PrintMore
attribute [local go_sem] max2_int min2_int max_two min_two max_three min_three max_four min_four
set_option linter.unusedVariables false
set_option linter.unusedSimpArgs false
attribute [local go_sem high] eqATie
def spec_l71Tied.T3 : Bool × List (List Nat × List Nat) := (true, [([], []), ([0], [0]), ([], []), ([], []), ([3], [3]), ([4], [4]), ([2, 5], [2, 5]), ([1, 6], [1, 6]), ([7], [7]), ([], []), ([9, 8, 6, 0, 1, 2, 3, 4, 5, 6, 7, 8, 9], [8, 9])])
def spec_l71Tied.B3 : List Nat := [0, 1, 0, 0, 8, 24, 60, 127, 255, 0, 1023]
theorem spec_l71Tied.tab3 : rtab .any (opsOf Try.f79 3) = spec_l71Tied.T3 := by kernel_rfl
theorem spec_l71Tied.bits3 : waitsOk spec_l71Tied.T3.2 spec_l71Tied.B3 = true := by kernel_rfl
def spec_l71Tied.T5 : Bool × List (List Nat × List Nat) := (true, [([], []), ([], []), ([1], [1]), ([], []), ([3], [3]), ([0, 0], [0]), ([2, 5, 0, 1, 2, 5], [2]), ([4, 6, 0, 1, 2, 3, 4, 5, 6], [4])])
def spec_l71Tied.B5 : List Nat := [0, 0, 2, 0, 8, 1, 39, 127]
theorem spec_l71Tied.tab5 : rtab .any (opsOf Try.f79 5) = spec_l71Tied.T5 := by kernel_rfl
theorem spec_l71Tied.bits5 : waitsOk spec_l71Tied.T5.2 spec_l71Tied.B5 = true := by kernel_rfl
def spec_l71Tied.T6 : Bool × List (List Nat × List Nat) := (true, [([], []), ([], []), ([1], [1]), ([], []), ([3], [3]), ([0, 0], [0]), ([2, 5, 0, 1, 2, 5], [2]), ([4, 6, 0, 1, 2, 3, 4, 5, 6], [4])])
def spec_l71Tied.B6 : List Nat := [0, 0, 2, 0, 8, 1, 39, 127]
theorem spec_l71Tied.tab6 : rtab .any (opsOf Try.f79 6) = spec_l71Tied.T6 := by kernel_rfl
theorem spec_l71Tied.bits6 : waitsOk spec_l71Tied.T6.2 spec_l71Tied.B6 = true := by kernel_rfl
set_option maxHeartbeats 8000000 in
set_option maxRecDepth 100000 in
theorem spec_l71Tied.calls (k : Nat) (g : Nat) (s0_0 : List Int) (s0_1 : Int) (r1 : Int) (r2 : List (STie)) (r3 : Int) (r4 : Int) (r5 : Int) (w0 w : World) (hI : IsSRd w0 w g s0_0 s0_1) (hB : Below w0.heap.size w0 w) (h : spec_l71Tied.f k s0_0 s0_1 = some (r1, r2, r3, r4, r5)) :
    Calls Try.prog 79 #[.pointer (some ⟨g, 0, none⟩)] w fun e w' => ∃ v1_ : Value, e = .returned (.tuple #[.agg #[.int .i64 r1, v1_], .int .i64 r3, .int .i64 r4]) ∧ Kd.R kTie 32 w' w.heap.size (fun _ => True) v1_ r2 ∧ IsSRd w0 w' g s0_0 r5 ∧ Below w0.heap.size w0 w' ∧ KeepBut w w' g none := by
 have hu25 := Try.underlying25
 have hu32 := Try.underlying32
 have HI0 := Aside0.mk hI
 have HK := q0 (KeepBut.refl w g none)
 have HL := Aside0.mk hB.size
 clear hI
 have HW0 := Aside0.mk hB.size
 have HB := Aside0.mk hB
 clear hB
 have H : ((spec_l71Pair.f k s0_0 s0_1).bind fun bt105 => (if (bt105.2.1.length : Int) > 0 then ((spec_l6Rd_pick.f k s0_0 bt105.2.2.2.2 4).bind fun bt102 => (spec_l71Tied.j0 k bt105.2.2.1 bt105.2.2.2.1 (decide (bt102.1 > 0)) s0_0 bt102.2 bt105.1 bt105.2.1)) else (spec_l71Tied.j0 k bt105.2.2.1 bt105.2.2.2.1 false s0_0 bt105.2.2.2.2 bt105.1 bt105.2.1))) = some (r1, r2, r3, r4, r5) := h
 clear h
 replace H := Option.bind_eq_some_iff.mp H
 obtain ⟨⟨t105, t106, t107, t108, t109⟩, A20, H⟩ := H
 have A2 := Aside0.mk A20
 clear A20
 have HC3 := Aside0.mk H
 clear H
 go_enter Try.func79, Try.ntmps79
 go_upto_region 2 with (first | ((with_reducible refine gate_dst (N := 2) rfl ?_); refine be 2 #[.int .i64 0, .slice none 0 0] 25 ?_; intro gb110 hg w4 hbox hb; replace HB := q0 (below_step (qj HB.out HI0.out) hb); have BK110 := q0 (hbox); have GW110 := q0 ((by rw [hg]; exact (keep_size (w := w) (g := g) (row := none) (qh HK.out)) : w.heap.size ≤ gb110)); have GE110 := q0 ((Nat.le_trans HW0.out (by rw [hg]; exact (keep_size (w := w) (g := g) (row := none) (qh HK.out)) : w.heap.size ≤ gb110) : w0.heap.size ≤ gb110)); replace HK := q0 (KeepBut.trans (qh HK.out) (KeepBut.of_below hb g none) (.inl rfl)); have NB0_110 := q0 ((by rw [hg]; exact Nat.ne_of_lt (IsSRd.lt (show IsSRd w0 _ g s0_0 s0_1 from qi HI0.out)) : g ≠ gb110)); have NB110_0 := q0 ((by rw [hg]; exact Nat.ne_of_gt (IsSRd.lt (show IsSRd w0 _ g s0_0 s0_1 from qi HI0.out)) : gb110 ≠ g)); replace HI0 := q0 (IsSRd.below (qi HI0.out) hb); clear hb hbox hg) | ((with_reducible refine gate_callee (f := 77) rfl ?_); refine gl 11 Try.func77 #[.pointer (some ⟨g, 0, none⟩)] ?_; (with_reducible refine (spec_l71Pair.calls k g s0_0 s0_1 t105 t106 t107 t108 t109 w0 _ ?side1 ?side2 A2.out).mono ?_); (case side1 => exact qi HI0.out); (case side2 => exact qj HB.out HI0.out); rintro e w5 ⟨v111, rfl, ho0, hi, hb, hk⟩; refine ⟨_, rfl, ?_⟩; replace BK110 := q0 (kc hk BK110.out NB110_0.out); have HO112 := q0 (Kd.R_lower ho0 (keep_size (w := w) (g := g) (row := none) (qh HK.out))); replace HK := q0 (KeepBut.trans (qh HK.out) hk (.inl rfl)); replace HB := q0 (hb); replace HI0 := q0 (hi); (try clear hb); (try clear hb2); (try clear hk); (try clear hi); (try clear ho0)) | ((with_reducible refine gate_dst (N := 5) rfl ?_); refine be 5 #[.int .i64 0, .slice none 0 0] 25 ?_; intro gb113 hg w6 hbox hb; replace HO112 := q0 (Kd.R_below (qr HO112.out) hb); replace HB := q0 (below_step (qj HB.out HI0.out) hb); have BK113 := q0 (hbox); have GW113 := q0 ((by rw [hg]; exact (keep_size (w := w) (g := g) (row := none) (qh HK.out)) : w.heap.size ≤ gb113)); have GE113 := q0 ((Nat.le_trans HW0.out (by rw [hg]; exact (keep_size (w := w) (g := g) (row := none) (qh HK.out)) : w.heap.size ≤ gb113) : w0.heap.size ≤ gb113)); replace HK := q0 (KeepBut.trans (qh HK.out) (KeepBut.of_below hb g none) (.inl rfl)); have NB110_113 := q0 ((bl BK110.out hg : gb110 ≠ gb113)); have NB113_110 := q0 ((bg BK110.out hg : gb113 ≠ gb110)); replace BK110 := q0 (kb BK110.out hb); have NB0_113 := q0 ((by rw [hg]; exact Nat.ne_of_lt (IsSRd.lt (show IsSRd w0 _ g s0_0 t109 from qi HI0.out)) : g ≠ gb113)); have NB113_0 := q0 ((by rw [hg]; exact Nat.ne_of_gt (IsSRd.lt (show IsSRd w0 _ g s0_0 t109 from qi HI0.out)) : gb113 ≠ g)); replace HI0 := q0 (IsSRd.below (qi HI0.out) hb); clear hb hbox hg; have hnb7 := NB113_110.out; have hnc7 := NB110_113.out; have hnb8 := NB113_0.out; have hnc8 := NB0_113.out; have hcz9_0 : w6.cell? ⟨gb113, 0, none⟩ = some (.int .i64 0) := (blk_cell BK113.out 0).trans rfl; have hcz9_1 : w6.cell? ⟨gb113, 1, none⟩ = some (.slice none 0 0) := (blk_cell BK113.out 1).trans rfl; have hfz9_0 := blk_frozen BK113.out 0; have hfz9_1 := blk_frozen BK113.out 1; obtain ⟨Ao10, co10, eo10⟩ := Kd.R_slice HO112.out; subst eo10))
 (try simp only [Act.put, List.setIfInBounds_toArray, List.set_cons_zero, List.set_cons_succ])
 go_cut [23] (fun v23 wc => ∃ (kq : Nat) (x23_2 : Bool) (x101_2 : Int), v23 = .bool x23_2 ∧ Aside0 (spec_l71Tied.j0 kq t107 t108 x23_2 s0_0 x101_2 t105 t106 = some (r1, r2, r3, r4, r5)) ∧ Aside0 (kq ≤ k) ∧ Aside0 (Kd.R kTie 32 wc w.heap.size (fun _ => True) (.slice Ao10 t106.length co10) t106) ∧ Aside0 (wc.heap[gb110]? = some (.cells #[.int .i64 0, (.slice none 0 0)] 25 (0, 0))) ∧ Aside0 (wc.heap[gb113]? = some (.cells #[.int .i64 t105, (.slice Ao10 t106.length co10)] 25 (0, 0))) ∧ Aside0 (IsSRd w0 wc g s0_0 x101_2) ∧ Aside0 (KeepBut w wc g none) ∧ Aside0 (Below w0.heap.size w0 wc))
 case first =>
   have H := HC3.out
   clear HC3
   by_cases c11 : (t106.length : Int) > 0
   rotate_left
   · rw [if_neg c11] at H
     have c11b0 : decide (0 < (t106.length : Int)) = false := decide_eq_false c11
     have c11b1 : decide (0 < t106.length) = false := decide_eq_false (by omega)
     clear c11
     (first | rw [c11b0] | (simp only [i64_w, i32_w]; rw [c11b0]) | skip)
     have H' := Aside0.mk H
     clear H
     have hnb17 := NB113_110.out
     have hnc17 := NB110_113.out
     have hnb18 := NB113_0.out
     have hnc18 := NB0_113.out
     have hcz19_0 : w6.cell? ⟨gb113, 0, none⟩ = some (.int .i64 0) := (blk_cell BK113.out 0).trans rfl
     have hcz19_1 : w6.cell? ⟨gb113, 1, none⟩ = some (.slice none 0 0) := (blk_cell BK113.out 1).trans rfl
     have hfz19_0 := blk_frozen BK113.out 0
     have hfz19_1 := blk_frozen BK113.out 1
     go_wp2
     go_meet
     case rel => exact ⟨_, (false), (t109), qs, H', ⟨by first | omega | exact Nat.le_refl _⟩, ⟨by (with_reducible repeat (first | apply Kd.R_alloc | apply Kd.R_drewN | apply Kd.R_drew)); exact rf2 HO112.out BK113.out (fun _ hk => trivial)⟩, ⟨qf BK110.out⟩, ⟨by (with_reducible repeat (first | refine blk_drewN ?_ _ | refine blk_drew ?_ | refine blk_alloc ?_ _)); refine blk_put (cs := #[.int .i64 t105, .slice none 0 0]) ?_ 1 _ rfl; (with_reducible repeat (first | refine blk_drewN ?_ _ | refine blk_drew ?_ | refine blk_alloc ?_ _)); refine blk_put (cs := #[.int .i64 0, .slice none 0 0]) ?_ 0 _ rfl; (with_reducible repeat (first | refine blk_drewN ?_ _ | refine blk_drew ?_ | refine blk_alloc ?_ _)); exact BK113.out⟩, ⟨qi HI0.out⟩, ⟨qh HK.out⟩, ⟨qj HB.out HI0.out⟩⟩
   rw [if_pos c11] at H
   have c11b0 : decide (0 < (t106.length : Int)) = true := decide_eq_true c11
   have c11b1 : decide (0 < t106.length) = true := decide_eq_true (by omega)
   clear c11
   (first | rw [c11b0] | (simp only [i64_w, i32_w]; rw [c11b0]) | skip)
   replace H := Option.bind_eq_some_iff.mp H
   obtain ⟨⟨t102, t114⟩, A115, H⟩ := H
   have A12 := Aside0.mk A115
   clear A115
   have H' := Aside0.mk H
   clear H
   have hnb13 := NB113_110.out
   have hnc13 := NB110_113.out
   have hnb14 := NB113_0.out
   have hnc14 := NB0_113.out
   have hcz15_0 : w6.cell? ⟨gb113, 0, none⟩ = some (.int .i64 0) := (blk_cell BK113.out 0).trans rfl
   have hcz15_1 : w6.cell? ⟨gb113, 1, none⟩ = some (.slice none 0 0) := (blk_cell BK113.out 1).trans rfl
   have hfz15_0 := blk_frozen BK113.out 0
   have hfz15_1 := blk_frozen BK113.out 1
   go_wp2_with (first | (go_at_call 59; (with_reducible refine (spec_l6Rd_pick.calls k g s0_0 t109 4 t102 t114 w0 _ ?side1 ?side2 A12.out).mono ?_); (case side1 => exact qi HI0.out); (case side2 => exact qj HB.out HI0.out); rintro e w16 ⟨rfl, hi, hb, hk⟩; replace BK110 := q0 (kc hk BK110.out NB110_0.out); replace HO112 := q0 (Kd.R_mono (Kd.R_keep (IsSRd.apart (show IsSRd w0 _ g s0_0 t109 from qi HI0.out) (by (with_reducible repeat (first | apply Kd.R_alloc | apply Kd.R_drewN | apply Kd.R_drew)); exact (rf2 HO112.out BK113.out (fun _ h_ => h_.1))) (by decide)) hk (fun _ h => h.2)) (fun _ h => h.1)); replace BK113 := q0 (KeepBut.blk hk (g' := gb113) (o := .cells #[.int .i64 t105, .slice Ao10 t106.length co10] 25 (0, 0)) (by (with_reducible repeat (first | refine blk_drewN ?_ _ | refine blk_drew ?_ | refine blk_alloc ?_ _)); refine blk_put (cs := #[.int .i64 t105, .slice none 0 0]) ?_ 1 _ rfl; (with_reducible repeat (first | refine blk_drewN ?_ _ | refine blk_drew ?_ | refine blk_alloc ?_ _)); refine blk_put (cs := #[.int .i64 0, .slice none 0 0]) ?_ 0 _ rfl; (with_reducible repeat (first | refine blk_drewN ?_ _ | refine blk_drew ?_ | refine blk_alloc ?_ _)); exact BK113.out) NB113_0.out (by simp)); replace HK := q0 (KeepBut.trans (qh HK.out) hk (.inl rfl)); replace HB := q0 (hb); replace HI0 := q0 (hi); (try clear hb); (try clear hb2); (try clear hk); (try clear hi)))
   go_meet
   case rel => exact ⟨_, (decide (t102 > 0)), (t114), qs, H', ⟨by first | omega | exact Nat.le_refl _⟩, ⟨qr HO112.out⟩, ⟨qk BK110.out⟩, ⟨qk BK113.out⟩, ⟨qi HI0.out⟩, ⟨qh HK.out⟩, ⟨qj HB.out HI0.out⟩⟩
 clear HC3
 try clear c1
 try clear p2
 try clear c7
 try clear c8
 try clear c11
 try clear c11b0
 try clear c11b1
 try clear c13
 try clear c14
 try clear c17
 try clear c18
 try clear hcz15_0
 try clear hcz15_1
 try clear hcz19_0
 try clear hcz19_1
 try clear hcz9_0
 try clear hcz9_1
 try clear hfz15_0
 try clear hfz15_1
 try clear hfz19_0
 try clear hfz19_1
 try clear hfz9_0
 try clear hfz9_1
 obtain ⟨kq, x23_2, x101_2, rfl, HA, HJ2, HO_102001, BK110, BK113, HI0, HK, HB⟩ := hcut
 rcases kq with _ | kj2
 · exact absurd HA.out (by simp [spec_l71Tied.j0])
 have H := HA.out
 clear HA
 simp only [spec_l71Tied.j0] at H
 by_cases c20 : x23_2 = true
 rotate_left
 · replace c20 := Bool.eq_false_iff.mpr c20
   subst c20
   rw [if_neg nf] at H
   simp only [Option.some.injEq, Prod.mk.injEq] at H
   obtain ⟨rfl, rfl, rfl, rfl, rfl⟩ := H
   have hnb46 := NB113_110.out
   have hnc46 := NB110_113.out
   have hnb47 := NB113_0.out
   have hnc47 := NB0_113.out
   have hcz48_0 : wc.cell? ⟨gb113, 0, none⟩ = some (.int .i64 t105) := (blk_cell BK113.out 0).trans rfl
   have hcz48_1 : wc.cell? ⟨gb113, 1, none⟩ = some (.slice Ao10 t106.length co10) := (blk_cell BK113.out 1).trans rfl
   have hfz48_0 := blk_frozen BK113.out 0
   have hfz48_1 := blk_frozen BK113.out 1
   have hnb49 := NB110_0.out
   have hnc49 := NB0_110.out
   have hcz50_0 : wc.cell? ⟨gb110, 0, none⟩ = some (.int .i64 0) := (blk_cell BK110.out 0).trans rfl
   have hcz50_1 : wc.cell? ⟨gb110, 1, none⟩ = some (.slice none 0 0) := (blk_cell BK110.out 1).trans rfl
   have hfz50_0 := blk_frozen BK110.out 0
   have hfz50_1 := blk_frozen BK110.out 1
   go_wp2
   refine bodyPost_ret (results_ctt rfl _ _ gb110 25 #[.int .i64 t105, .slice Ao10 t106.length co10] (0, 0) _ rfl (by (with_reducible repeat (first | refine blk_drewN ?_ _ | refine blk_drew ?_ | refine blk_alloc ?_ _)); refine blk_put (cs := #[.int .i64 t105, .slice none 0 0]) ?_ 1 _ rfl; (with_reducible repeat (first | refine blk_drewN ?_ _ | refine blk_drew ?_ | refine blk_alloc ?_ _)); refine blk_put (cs := #[.int .i64 0, .slice none 0 0]) ?_ 0 _ rfl; (with_reducible repeat (first | refine blk_drewN ?_ _ | refine blk_drew ?_ | refine blk_alloc ?_ _)); exact BK110.out) Try.underlying25 rfl (by kernel_rfl)) rfl ?_
   exact ⟨_, qe, by (with_reducible repeat (first | apply Kd.R_alloc | apply Kd.R_drewN | apply Kd.R_drew)); exact rf2 HO_102001.out BK110.out (fun _ hk => trivial), qi HI0.out, qj HB.out HI0.out, by repeat (first | (with_reducible first | exact HK.out | apply KeepBut.set_ | apply keep_drewN | apply keep_drew | apply keep_alloc | refine keep_far ?_ GW110.out _ | refine keep_far ?_ GW113.out _) | exact HK.out)⟩
 subst c20
 rw [if_pos rfl] at H
 replace H := Option.bind_eq_some_iff.mp H
 obtain ⟨⟨t103, t116⟩, A117, H⟩ := H
 have A21 := Aside0.mk A117
 clear A117
 by_cases c22 : 0 ≤ t103
 rotate_left
 · rw [if_neg c22] at H
   exact absurd H (by simp)
 rw [if_pos c22] at H
 have c22b0 : decide (0 ≤ t103) = true := decide_eq_true c22
 clear c22
 by_cases c23 : t103 < (t106.length : Int)
 rotate_left
 · rw [if_neg c23] at H
   exact absurd H (by simp)
 rw [if_pos c23] at H
 have c23b0 : decide (t103 < (t106.length : Int)) = true := decide_eq_true c23
 clear c23
 replace H := Option.bind_eq_some_iff.mp H
 obtain ⟨⟨t104, t118⟩, A119, H⟩ := H
 have A24 := Aside0.mk A119
 clear A119
 by_cases c25 : t104 = 0
 rotate_left
 · rw [if_neg c25] at H
   have c25b0 : (t104 == 0) = false := beq_eq_false_iff_ne.mpr c25
   have c25b1 : (t104 != 0) = true := bne_iff_ne.mpr c25
   simp only [Option.some.injEq, Prod.mk.injEq] at H
   obtain ⟨rfl, rfl, rfl, rfl, rfl⟩ := H
   try go_wp2
   replace HO_102001 := q0 (Kd.R_drew HO_102001.out)
   replace BK110 := q0 (blk_drew BK110.out)
   replace BK113 := q0 (blk_drew BK113.out)
   replace HI0 := q0 (IsSRd.drew HI0.out)
   replace HK := q0 (keep_drew HK.out)
   replace HB := q0 (below_drew1 HB.out)
   have p120 : 0 ≤ (t103 : Int) := of_decide_eq_true qa
   have q120 : t103 < (t106.length : Int) := of_decide_eq_true qa
   obtain ⟨ad120, e120, hx120_0, hx120_1⟩ := at_TTie (Kd.R_reads' HO_102001.out).2.2 t103 p120 q120
   cases e120
   replace p120 := eq_true p120
   replace q120 := eq_true q120
   refine start_ (n := 11) (S := fun w' => w'.cell? ⟨gb113, 0, none⟩ = some (.int .i64 t105) ∧ w'.cell? ⟨gb113, 1, none⟩ = some (.slice (some ad120) t106.length co10) ∧ w'.cell? (ad120.add ((t103).toNat * 2)) = some (.int .i64 ((rd_TTie t106 t103).f0)) ∧ w'.cell? ⟨(ad120.add ((t103).toNat * 2)).block, (ad120.add ((t103).toNat * 2)).off + 1, none⟩ = some (.int .i64 ((rd_TTie t106 t103).f1))) (ds := []) (ba 11 0) (by kernel_rfl) rfl (by kernel_rfl) ⟨(blk_cell BK113.out 0).trans rfl, (blk_cell BK113.out 1).trans rfl, hx120_0, hx120_1⟩ (fun hHeld => ?_); refine with_tabW spec_l71Tied.tab3 spec_l71Tied.bits3 (fun HT_ HW_ => ?_)
   generalize wc.drew = w36 at HO_102001 BK110 BK113 HI0 HK HB hx120_0 hx120_1 hHeld ⊢
   refine pu 0 (some 24) (ba 11 1) HT_.out ?_
   refine pu 2 (some 26) (ba 11 5) HT_.out ?_
   refine pu 3 (some 27) (ba 11 13) HT_.out ?_
   refine tu 1 (some 25) (ba 11 15) HT_.out HW_.out hHeld ?_
   refine tu 4 (some 28) (ba 11 31) HT_.out HW_.out hHeld ?_
   refine pu 5 (some 29) (ba 11 63) HT_.out ?_
   refine join_ (σ := Nat) 1 (ba 11 1023) (fun s_ => [(30, .int .i64 t103), (8, .pointer (some ⟨s_, 0, none⟩)), (31, .pointer (some (ad120.add ((t103).toNat * 2)))), (32, .agg #[.int .i64 ((rd_TTie t106 t103).f0), .int .i64 ((rd_TTie t106 t103).f1)])]) (fun s_ w' => (w'.cell? ⟨gb113, 0, none⟩ = some (.int .i64 t105) ∧ w'.cell? ⟨gb113, 1, none⟩ = some (.slice (some ad120) t106.length co10) ∧ w'.cell? (ad120.add ((t103).toNat * 2)) = some (.int .i64 ((rd_TTie t106 t103).f0)) ∧ w'.cell? ⟨(ad120.add ((t103).toNat * 2)).block, (ad120.add ((t103).toNat * 2)).off + 1, none⟩ = some (.int .i64 ((rd_TTie t106 t103).f1))) ∧ (Kd.R kTie 32 w' w.heap.size (fun k_ => k_ ≠ s_) (.slice (some ad120) t106.length co10) t106) ∧ (w'.heap[gb110]? = some (.cells #[.int .i64 0, .slice none 0 0] 25 (0, 0))) ∧ (w'.heap[gb113]? = some (.cells #[.int .i64 t105, .slice (some ad120) t106.length co10] 25 (0, 0))) ∧ (w'.heap[s_]? = some (.cells #[.int .i64 0, .int .i64 0] 32 (0, 0))) ∧ (w.heap.size ≤ s_) ∧ (w0.heap.size ≤ s_) ∧ (g ≠ s_) ∧ (s_ ≠ g) ∧ (gb110 ≠ s_) ∧ (s_ ≠ gb110) ∧ (gb113 ≠ s_) ∧ (s_ ≠ gb113) ∧ (IsSRd w0 w' g s0_0 t116) ∧ (KeepBut w w' g none) ∧ (Below w0.heap.size w0 w')) ?_ ?_
   rotate_left
   · intro hCont
     refine two_ (i := 6) (j := 9) (Ni := some 30) (Nj := some 8) (ba 11 127) (ba 11 575) rfl rfl rfl rfl (two_of HT_.out (by kernel_rfl)) (by decide) (by decide) (fun K hK => ?_) (fun K hK => ?_)
     · skip
       refine goes_ Try.func59 (by kernel_rfl) rfl #[.pointer (some ⟨g, 0, none⟩), .int .i64 (t106.length : Int)] (by rfl) rfl rfl qm ?_
       with_reducible refine (spec_l6Rd_pick.calls kj2 g s0_0 x101_2 (t106.length : Int) t103 t116 w0 _ ?side1 ?side2 A21.out).mono ?_
       (case side1 => exact qi HI0.out)
       (case side2 => exact qj HB.out HI0.out)
       rintro e w37 ⟨rfl, hi, hb, hk⟩
       have HS2_ := keep_cell hk (hHeld.2.2.1) (by first | (rw [add_block]; exact Kd.own_blk (IsSRd.own_ne HI0.out HO_102001.out (by decide))) | (show (Addr.add _ _).block ≠ _; rw [add_block]; exact Kd.own_blk (IsSRd.own_ne HI0.out HO_102001.out (by decide))) | exact Kd.own_blk (IsSRd.own_ne HI0.out HO_102001.out (by decide)))
       have HS3_ := keep_cell hk (hHeld.2.2.2) (by first | (rw [add_block]; exact Kd.own_blk (IsSRd.own_ne HI0.out HO_102001.out (by decide))) | (show (Addr.add _ _).block ≠ _; rw [add_block]; exact Kd.own_blk (IsSRd.own_ne HI0.out HO_102001.out (by decide))) | exact Kd.own_blk (IsSRd.own_ne HI0.out HO_102001.out (by decide)))
       refine ⟨_, rfl, ?_⟩
       replace HO_102001 := q0 (Kd.R_mono (Kd.R_keep (IsSRd.apart (show IsSRd w0 _ g s0_0 x101_2 from qi HI0.out) (qr HO_102001.out) (by decide)) hk (fun _ h => h.2)) (fun _ h => h.1))
       replace BK110 := q0 (kc hk BK110.out NB110_0.out)
       replace BK113 := q0 (kc hk BK113.out NB113_0.out)
       replace HK := q0 (KeepBut.trans (qh HK.out) hk (.inl rfl))
       replace HB := q0 (hb)
       replace HI0 := q0 (hi)
       (try clear hb)
       (try clear hb2)
       (try clear hk)
       (try clear hi)
       refine hK.out _ _ ⟨(blk_cell BK113.out 0).trans rfl, (blk_cell BK113.out 1).trans rfl, HS2_, HS3_⟩ (fun hHeld => ?_)
       clear hK K
       refine nu 30 ?_
       refine pu 7 (some 31) (ba 11 255) HT_.out ?_
       refine tu 8 (some 32) (ba 11 511) HT_.out HW_.out hHeld ?_
       refine one_ (i := 9) (N := some 8) (ba 11 1023) rfl rfl (one_of HT_.out (by kernel_rfl)) (by decide) (fun K hK => ?_)
       refine box_step ?hg (N := 8) ?hd (cs := #[.int .i64 0, .int .i64 0]) (t := 32) ?hr ?_; (case hd => rfl); (case hg => rfl); (case hr => first | (go_simp; done) | (go_simp; rfl))
       intro gb121 hg w38 hbox hb
       have HS2_ := (hb.cell (World.block_lt_of_cell? _ _ (hHeld.2.2.1))).trans (hHeld.2.2.1)
       have HS3_ := (hb.cell (World.block_lt_of_cell? _ _ (hHeld.2.2.2))).trans (hHeld.2.2.2)
       replace HO_102001 := q0 (Kd.R_below (Kd.R_elderB (qr HO_102001.out) gb121 (Nat.le_of_eq hg.symm)) hb)
       replace HB := q0 (below_step (qj HB.out HI0.out) hb)
       have BK121 := q0 (hbox)
       have GW121 := q0 ((by rw [hg]; exact (keep_size (w := w) (g := g) (row := none) (qh HK.out)) : w.heap.size ≤ gb121))
       have GE121 := q0 ((Nat.le_trans HW0.out (by rw [hg]; exact (keep_size (w := w) (g := g) (row := none) (qh HK.out)) : w.heap.size ≤ gb121) : w0.heap.size ≤ gb121))
       replace HK := q0 (KeepBut.trans (qh HK.out) (KeepBut.of_below hb g none) (.inl rfl))
       have NB110_121 := q0 ((bl BK110.out hg : gb110 ≠ gb121))
       have NB121_110 := q0 ((bg BK110.out hg : gb121 ≠ gb110))
       replace BK110 := q0 (kb BK110.out hb)
       have NB113_121 := q0 ((bl BK113.out hg : gb113 ≠ gb121))
       have NB121_113 := q0 ((bg BK113.out hg : gb121 ≠ gb113))
       replace BK113 := q0 (kb BK113.out hb)
       have NB0_121 := q0 ((by rw [hg]; exact Nat.ne_of_lt (IsSRd.lt (show IsSRd w0 _ g s0_0 t116 from qi HI0.out)) : g ≠ gb121))
       have NB121_0 := q0 ((by rw [hg]; exact Nat.ne_of_gt (IsSRd.lt (show IsSRd w0 _ g s0_0 t116 from qi HI0.out)) : gb121 ≠ g))
       replace HI0 := q0 (IsSRd.below (qi HI0.out) hb)
       clear hb hbox hg
       refine hK.out _ _ ⟨(blk_cell BK113.out 0).trans rfl, (blk_cell BK113.out 1).trans rfl, HS2_, HS3_⟩ (fun hHeld => ?_)
       clear hK K
       refine nu 8 ?_
       exact norm_ (by simp only [putAll, Act.put, List.setIfInBounds_toArray, List.set_cons_zero, List.set_cons_succ]) (hCont (gb121) _ ⟨hHeld, (by (with_reducible repeat (first | apply Kd.R_alloc | apply Kd.R_drewN | apply Kd.R_drew)); exact Kd.R_mono HO_102001.out (fun _ hk => hk.2)), (qk BK110.out), (qk BK113.out), (qk BK121.out), GW121.out, GE121.out, NB0_121.out, NB121_0.out, NB110_121.out, NB121_110.out, NB113_121.out, NB121_113.out, (qi HI0.out), (qh HK.out), (qj HB.out HI0.out)⟩)
     · skip
       refine box_step ?hg (N := 8) ?hd (cs := #[.int .i64 0, .int .i64 0]) (t := 32) ?hr ?_; (case hd => rfl); (case hg => rfl); (case hr => first | (go_simp; done) | (go_simp; rfl))
       intro gb121 hg w37 hbox hb
       have HS2_ := (hb.cell (World.block_lt_of_cell? _ _ (hHeld.2.2.1))).trans (hHeld.2.2.1)
       have HS3_ := (hb.cell (World.block_lt_of_cell? _ _ (hHeld.2.2.2))).trans (hHeld.2.2.2)
       replace HO_102001 := q0 (Kd.R_below (Kd.R_elderB (qr HO_102001.out) gb121 (Nat.le_of_eq hg.symm)) hb)
       replace HB := q0 (below_step (qj HB.out HI0.out) hb)
       have BK121 := q0 (hbox)
       have GW121 := q0 ((by rw [hg]; exact (keep_size (w := w) (g := g) (row := none) (qh HK.out)) : w.heap.size ≤ gb121))
       have GE121 := q0 ((Nat.le_trans HW0.out (by rw [hg]; exact (keep_size (w := w) (g := g) (row := none) (qh HK.out)) : w.heap.size ≤ gb121) : w0.heap.size ≤ gb121))
       replace HK := q0 (KeepBut.trans (qh HK.out) (KeepBut.of_below hb g none) (.inl rfl))
       have NB110_121 := q0 ((bl BK110.out hg : gb110 ≠ gb121))
       have NB121_110 := q0 ((bg BK110.out hg : gb121 ≠ gb110))
       replace BK110 := q0 (kb BK110.out hb)
       have NB113_121 := q0 ((bl BK113.out hg : gb113 ≠ gb121))
       have NB121_113 := q0 ((bg BK113.out hg : gb121 ≠ gb113))
       replace BK113 := q0 (kb BK113.out hb)
       have NB0_121 := q0 ((by rw [hg]; exact Nat.ne_of_lt (IsSRd.lt (show IsSRd w0 _ g s0_0 x101_2 from qi HI0.out)) : g ≠ gb121))
       have NB121_0 := q0 ((by rw [hg]; exact Nat.ne_of_gt (IsSRd.lt (show IsSRd w0 _ g s0_0 x101_2 from qi HI0.out)) : gb121 ≠ g))
       replace HI0 := q0 (IsSRd.below (qi HI0.out) hb)
       clear hb hbox hg
       refine hK.out _ _ ⟨(blk_cell BK113.out 0).trans rfl, (blk_cell BK113.out 1).trans rfl, HS2_, HS3_⟩ (fun hHeld => ?_)
       clear hK K
       refine nu 8 ?_
       refine one_ (i := 6) (N := some 30) (ba 11 639) rfl rfl (one_of HT_.out (by kernel_rfl)) (by decide) (fun K hK => ?_)
       refine goes_ Try.func59 (by kernel_rfl) rfl #[.pointer (some ⟨g, 0, none⟩), .int .i64 (t106.length : Int)] (by rfl) rfl rfl qm ?_
       with_reducible refine (spec_l6Rd_pick.calls kj2 g s0_0 x101_2 (t106.length : Int) t103 t116 w0 _ ?side1 ?side2 A21.out).mono ?_
       (case side1 => exact qi HI0.out)
       (case side2 => exact qj HB.out HI0.out)
       rintro e w38 ⟨rfl, hi, hb, hk⟩
       have HS2_ := keep_cell hk (hHeld.2.2.1) (by first | (rw [add_block]; exact Kd.own_blk (IsSRd.own_ne HI0.out HO_102001.out (by decide))) | (show (Addr.add _ _).block ≠ _; rw [add_block]; exact Kd.own_blk (IsSRd.own_ne HI0.out HO_102001.out (by decide))) | exact Kd.own_blk (IsSRd.own_ne HI0.out HO_102001.out (by decide)))
       have HS3_ := keep_cell hk (hHeld.2.2.2) (by first | (rw [add_block]; exact Kd.own_blk (IsSRd.own_ne HI0.out HO_102001.out (by decide))) | (show (Addr.add _ _).block ≠ _; rw [add_block]; exact Kd.own_blk (IsSRd.own_ne HI0.out HO_102001.out (by decide))) | exact Kd.own_blk (IsSRd.own_ne HI0.out HO_102001.out (by decide)))
       refine ⟨_, rfl, ?_⟩
       replace HO_102001 := q0 (Kd.R_mono (Kd.R_keep (IsSRd.apart (show IsSRd w0 _ g s0_0 x101_2 from qi HI0.out) (qr HO_102001.out) (by decide)) hk (fun _ h => h.2)) (fun _ h => h.1))
       replace BK110 := q0 (kc hk BK110.out NB110_0.out)
       replace BK113 := q0 (kc hk BK113.out NB113_0.out)
       replace BK121 := q0 (kc hk BK121.out NB121_0.out)
       replace HK := q0 (KeepBut.trans (qh HK.out) hk (.inl rfl))
       replace HB := q0 (hb)
       replace HI0 := q0 (hi)
       (try clear hb)
       (try clear hb2)
       (try clear hk)
       (try clear hi)
       refine hK.out _ _ ⟨(blk_cell BK113.out 0).trans rfl, (blk_cell BK113.out 1).trans rfl, HS2_, HS3_⟩ (fun hHeld => ?_)
       clear hK K
       refine nu 30 ?_
       refine pu 7 (some 31) (ba 11 767) HT_.out ?_
       refine tu 8 (some 32) (ba 11 1023) HT_.out HW_.out hHeld ?_
       exact norm_ (by simp only [putAll, Act.put, List.setIfInBounds_toArray, List.set_cons_zero, List.set_cons_succ]) (hCont (gb121) _ ⟨hHeld, (by (with_reducible repeat (first | apply Kd.R_alloc | apply Kd.R_drewN | apply Kd.R_drew)); exact Kd.R_mono HO_102001.out (fun _ hk => hk.2)), (qk BK110.out), (qk BK113.out), (qk BK121.out), GW121.out, GE121.out, NB0_121.out, NB121_0.out, NB110_121.out, NB121_110.out, NB113_121.out, NB121_113.out, (qi HI0.out), (qh HK.out), (qj HB.out HI0.out)⟩)
   rintro gb121 w39 ⟨hS_, h0_, h1_, h2_, h3_, h4_, h5_, h6_, h7_, h8_, h9_, h10_, h11_, h12_, h13_, h14_⟩
   have n0_ : Aside0 (Kd.R kTie 32 w39 w.heap.size (fun k_ => k_ ≠ gb121) (.slice (some ad120) t106.length co10) t106) := ⟨h0_⟩
   have n1_ : Aside0 (w39.heap[gb110]? = some (.cells #[.int .i64 0, .slice none 0 0] 25 (0, 0))) := ⟨h1_⟩
   have n2_ : Aside0 (w39.heap[gb113]? = some (.cells #[.int .i64 t105, .slice (some ad120) t106.length co10] 25 (0, 0))) := ⟨h2_⟩
   have n3_ : Aside0 (w39.heap[gb121]? = some (.cells #[.int .i64 0, .int .i64 0] 32 (0, 0))) := ⟨h3_⟩
   have n4_ : Aside0 (w.heap.size ≤ gb121) := ⟨h4_⟩
   have n5_ : Aside0 (w0.heap.size ≤ gb121) := ⟨h5_⟩
   have n6_ : Aside0 (g ≠ gb121) := ⟨h6_⟩
   have n7_ : Aside0 (gb121 ≠ g) := ⟨h7_⟩
   have n8_ : Aside0 (gb110 ≠ gb121) := ⟨h8_⟩
   have n9_ : Aside0 (gb121 ≠ gb110) := ⟨h9_⟩
   have n10_ : Aside0 (gb113 ≠ gb121) := ⟨h10_⟩
   have n11_ : Aside0 (gb121 ≠ gb113) := ⟨h11_⟩
   have n12_ : Aside0 (IsSRd w0 w39 g s0_0 t116) := ⟨h12_⟩
   have n13_ : Aside0 (KeepBut w w39 g none) := ⟨h13_⟩
   have n14_ : Aside0 (Below w0.heap.size w0 w39) := ⟨h14_⟩
   clear HO_102001
   clear BK110
   clear BK113
   clear HI0
   clear HK
   clear HB
   clear h0_ h1_ h2_ h3_ h4_ h5_ h6_ h7_ h8_ h9_ h10_ h11_ h12_ h13_ h14_
   have HO_102001 := n0_
   have BK110 := n1_
   have BK113 := n2_
   have BK121 := n3_
   have GW121 := n4_
   have GE121 := n5_
   have NB0_121 := n6_
   have NB121_0 := n7_
   have NB110_121 := n8_
   have NB121_110 := n9_
   have NB113_121 := n10_
   have NB121_113 := n11_
   have HI0 := n12_
   have HK := n13_
   have HB := n14_
   clear n0_ n1_ n2_ n3_ n4_ n5_ n6_ n7_ n8_ n9_ n10_ n11_ n12_ n13_ n14_
   have hHeld : w39.cell? ⟨gb113, 0, none⟩ = some (.int .i64 t105) ∧ w39.cell? ⟨gb113, 1, none⟩ = some (.slice (some ad120) t106.length co10) ∧ w39.cell? (ad120.add ((t103).toNat * 2)) = some (.int .i64 ((rd_TTie t106 t103).f0)) ∧ w39.cell? ⟨(ad120.add ((t103).toNat * 2)).block, (ad120.add ((t103).toNat * 2)).off + 1, none⟩ = some (.int .i64 ((rd_TTie t106 t103).f1)) := hS_
   refine norm_ (a' := ?_) ?_ ?_
   rotate_left
   · simp only [putAll, Act.put, List.setIfInBounds_toArray, List.set_cons_zero, List.set_cons_succ]
     rfl
   refine one_ (i := 10) (N := none) (ba 11 2047) rfl rfl (one_of HT_.out (by kernel_rfl)) (by decide) (fun K hK => ?_)
   have hs40 : w39.cell? ⟨gb121, 0, none⟩ = some (.int .i64 0) := (blk_cell BK121.out 0).trans rfl
   have hfs40 := blk_frozen BK121.out 0
   have hns40_0 := NB110_121.out
   have hns40_1 := NB113_121.out
   have hms40_0 := NB121_110.out
   have hms40_1 := NB121_113.out
   have hs41 : w39.cell? ⟨gb121, 1, none⟩ = some (.int .i64 0) := (blk_cell BK121.out 1).trans rfl
   have hfs41 := blk_frozen BK121.out 1
   have hns41_0 := NB110_121.out
   have hns41_1 := NB113_121.out
   have hms41_0 := NB121_110.out
   have hms41_1 := NB121_113.out
   refine skip_ (w1 := ?_) (by rfl) rfl ?_ ?_
   rotate_left
   · go_simp
     rfl
   refine hK.out _ _ ⟨((cell_far (p := ⟨gb121, _, none⟩) NB113_121.out _).trans (((cell_far (p := ⟨gb121, _, none⟩) NB113_121.out _).trans (hHeld.1)))), ((cell_far (p := ⟨gb121, _, none⟩) NB113_121.out _).trans (((cell_far (p := ⟨gb121, _, none⟩) NB113_121.out _).trans (hHeld.2.1)))), ((cell_far (p := ⟨gb121, _, none⟩) (by first | exact Kd.own_blk (Kd.R_away HO_102001.out (fun _ hk => hk)) | (rw [add_block]; exact Kd.own_blk (Kd.R_away HO_102001.out (fun _ hk => hk))) | (show (Addr.add _ _).block ≠ _; rw [add_block]; exact Kd.own_blk (Kd.R_away HO_102001.out (fun _ hk => hk))) | (dsimp only; exact Kd.own_blk (Kd.R_away HO_102001.out (fun _ hk => hk)))) _).trans (((cell_far (p := ⟨gb121, _, none⟩) (by first | exact Kd.own_blk (Kd.R_away HO_102001.out (fun _ hk => hk)) | (rw [add_block]; exact Kd.own_blk (Kd.R_away HO_102001.out (fun _ hk => hk))) | (show (Addr.add _ _).block ≠ _; rw [add_block]; exact Kd.own_blk (Kd.R_away HO_102001.out (fun _ hk => hk))) | (dsimp only; exact Kd.own_blk (Kd.R_away HO_102001.out (fun _ hk => hk)))) _).trans (hHeld.2.2.1)))), ((cell_far (p := ⟨gb121, _, none⟩) (by first | exact Kd.own_blk (Kd.R_away HO_102001.out (fun _ hk => hk)) | (rw [add_block]; exact Kd.own_blk (Kd.R_away HO_102001.out (fun _ hk => hk))) | (show (Addr.add _ _).block ≠ _; rw [add_block]; exact Kd.own_blk (Kd.R_away HO_102001.out (fun _ hk => hk))) | (dsimp only; exact Kd.own_blk (Kd.R_away HO_102001.out (fun _ hk => hk)))) _).trans (((cell_far (p := ⟨gb121, _, none⟩) (by first | exact Kd.own_blk (Kd.R_away HO_102001.out (fun _ hk => hk)) | (rw [add_block]; exact Kd.own_blk (Kd.R_away HO_102001.out (fun _ hk => hk))) | (show (Addr.add _ _).block ≠ _; rw [add_block]; exact Kd.own_blk (Kd.R_away HO_102001.out (fun _ hk => hk))) | (dsimp only; exact Kd.own_blk (Kd.R_away HO_102001.out (fun _ hk => hk)))) _).trans (hHeld.2.2.2))))⟩ (fun hHeld => ?_)
   clear hK K
   refine done_ (done_of HT_.out (by kernel_rfl)) ?_
   try go_wp2_with (first | ((with_reducible refine gate_callee (f := 59) rfl ?_); refine gl 34 Try.func59 #[.pointer (some ⟨g, 0, none⟩), .int .i64 2] ?_; (with_reducible refine (spec_l6Rd_pick.calls kj2 g s0_0 t116 2 t104 t118 w0 _ ?side1 ?side2 A24.out).mono ?_); (case side1 => exact qi HI0.out); (case side2 => exact qj HB.out HI0.out); rintro e w42 ⟨rfl, hi, hb, hk⟩; refine ⟨_, rfl, ?_⟩; replace HO_102001 := q0 (Kd.R_mono (Kd.R_keep (IsSRd.apart (show IsSRd w0 _ g s0_0 t116 from qi HI0.out) (by (with_reducible repeat (first | apply Kd.R_alloc | apply Kd.R_drewN | apply Kd.R_drew)); exact (Kd.R_mono (Kd.R_far (p := ⟨gb121, 1, none⟩) (Kd.R_far (p := ⟨gb121, 0, none⟩) (Kd.R_mono HO_102001.out (fun k_ hk => (⟨hk, hk⟩ : _ ∧ k_ ≠ gb121))) (fun _ hk => hk.2) (.int .i64 ((rd_TTie t106 t103).f0))) (fun _ hk => hk.2) (.int .i64 ((rd_TTie t106 t103).f1))) (fun _ h_ => h_.1))) (by decide)) hk (fun _ h => h.2)) (fun _ h => h.1)); replace BK110 := q0 (kc hk BK110.out NB110_0.out); replace BK113 := q0 (kc hk BK113.out NB113_0.out); replace BK121 := q0 (KeepBut.blk hk (g' := gb121) (o := .cells #[.int .i64 ((rd_TTie t106 t103).f0), .int .i64 ((rd_TTie t106 t103).f1)] 32 (0, 0)) (by (with_reducible repeat (first | refine blk_drewN ?_ _ | refine blk_drew ?_ | refine blk_alloc ?_ _)); refine blk_put (cs := #[.int .i64 ((rd_TTie t106 t103).f0), .int .i64 0]) ?_ 1 _ rfl; (with_reducible repeat (first | refine blk_drewN ?_ _ | refine blk_drew ?_ | refine blk_alloc ?_ _)); refine blk_put (cs := #[.int .i64 0, .int .i64 0]) ?_ 0 _ rfl; (with_reducible repeat (first | refine blk_drewN ?_ _ | refine blk_drew ?_ | refine blk_alloc ?_ _)); exact BK121.out) NB121_0.out (by simp)); replace HK := q0 (KeepBut.trans (qh HK.out) hk (.inl rfl)); replace HB := q0 (hb); replace HI0 := q0 (hi); (try clear hb); (try clear hb2); (try clear hk); (try clear hi)))
   replace HO_102001 := q0 (Kd.R_drew HO_102001.out)
   replace BK110 := q0 (blk_drew BK110.out)
   replace BK113 := q0 (blk_drew BK113.out)
   replace BK121 := q0 (blk_drew BK121.out)
   replace HI0 := q0 (IsSRd.drew HI0.out)
   replace HK := q0 (keep_drew HK.out)
   replace HB := q0 (below_drew1 HB.out)
   refine start_ (n := 8) (S := fun w' => w'.cell? ⟨gb113, 0, none⟩ = some (.int .i64 t105) ∧ w'.cell? ⟨gb113, 1, none⟩ = some (.slice (some ad120) t106.length co10) ∧ w'.cell? ⟨gb121, 0, none⟩ = some (.int .i64 ((rd_TTie t106 t103).f0)) ∧ w'.cell? ⟨gb121, 1, none⟩ = some (.int .i64 ((rd_TTie t106 t103).f1))) (ds := []) (ba 8 0) (by kernel_rfl) rfl (by kernel_rfl) ⟨(blk_cell BK113.out 0).trans rfl, (blk_cell BK113.out 1).trans rfl, (blk_cell BK121.out 0).trans rfl, (blk_cell BK121.out 1).trans rfl⟩ (fun hHeld => ?_); refine with_tabW spec_l71Tied.tab6 spec_l71Tied.bits6 (fun HT_ HW_ => ?_)
   generalize w42.drew = w43 at HO_102001 BK110 BK113 BK121 HI0 HK HB hHeld ⊢
   refine pu 1 (some 42) (ba 8 2) HT_.out ?_
   refine pu 3 (some 44) (ba 8 10) HT_.out ?_
   refine tu 0 (some 41) (ba 8 11) HT_.out HW_.out hHeld ?_
   refine tu 2 (some 43) (ba 8 15) HT_.out HW_.out hHeld ?_
   refine tu 4 (some 45) (ba 8 31) HT_.out HW_.out hHeld ?_
   refine one_ (i := 5) (N := none) (ba 8 63) rfl rfl (one_of HT_.out (by kernel_rfl)) (by decide) (fun K hK => ?_)
   have hs44 : w43.cell? ⟨gb110, 0, none⟩ = some (.int .i64 0) := (blk_cell BK110.out 0).trans rfl
   have hfs44 := blk_frozen BK110.out 0
   have hns44_1 := NB113_110.out
   have hns44_2 := NB121_110.out
   have hms44_1 := NB110_113.out
   have hms44_2 := NB110_121.out
   have hs45 : w43.cell? ⟨gb110, 1, none⟩ = some (.slice none 0 0) := (blk_cell BK110.out 1).trans rfl
   have hfs45 := blk_frozen BK110.out 1
   have hns45_1 := NB113_110.out
   have hns45_2 := NB121_110.out
   have hms45_1 := NB110_113.out
   have hms45_2 := NB110_121.out
   refine skip_ (w1 := ?_) (by rfl) rfl ?_ ?_
   rotate_left
   · go_simp
     rfl
   refine hK.out _ _ ⟨((cell_far (p := ⟨gb110, _, none⟩) NB113_110.out _).trans (((cell_far (p := ⟨gb110, _, none⟩) NB113_110.out _).trans (hHeld.1)))), ((cell_far (p := ⟨gb110, _, none⟩) NB113_110.out _).trans (((cell_far (p := ⟨gb110, _, none⟩) NB113_110.out _).trans (hHeld.2.1)))), ((cell_far (p := ⟨gb110, _, none⟩) NB121_110.out _).trans (((cell_far (p := ⟨gb110, _, none⟩) NB121_110.out _).trans (hHeld.2.2.1)))), ((cell_far (p := ⟨gb110, _, none⟩) NB121_110.out _).trans (((cell_far (p := ⟨gb110, _, none⟩) NB121_110.out _).trans (hHeld.2.2.2))))⟩ (fun hHeld => ?_)
   clear hK K
   refine pu 6 (some 3) (ba 8 127) HT_.out ?_
   refine pu 7 (some 4) (ba 8 255) HT_.out ?_
   refine done_ (done_of HT_.out (by kernel_rfl)) ?_
   try go_wp2
   refine bodyPost_ret (results_ctt rfl _ _ gb110 25 #[.int .i64 t105, .slice (some ad120) t106.length co10] (0, 0) _ rfl (by (with_reducible repeat (first | refine blk_drewN ?_ _ | refine blk_drew ?_ | refine blk_alloc ?_ _)); refine blk_put (cs := #[.int .i64 t105, .slice none 0 0]) ?_ 1 _ rfl; (with_reducible repeat (first | refine blk_drewN ?_ _ | refine blk_drew ?_ | refine blk_alloc ?_ _)); refine blk_put (cs := #[.int .i64 0, .slice none 0 0]) ?_ 0 _ rfl; (with_reducible repeat (first | refine blk_drewN ?_ _ | refine blk_drew ?_ | refine blk_alloc ?_ _)); exact BK110.out) Try.underlying25 rfl (by kernel_rfl)) rfl ?_
   exact ⟨_, qe, by (with_reducible repeat (first | apply Kd.R_alloc | apply Kd.R_drewN | apply Kd.R_drew)); exact rf2 HO_102001.out BK110.out (fun _ hk => trivial), qi HI0.out, qj HB.out HI0.out, by repeat (first | (with_reducible first | exact HK.out | apply KeepBut.set_ | apply keep_drewN | apply keep_drew | apply keep_alloc | refine keep_far ?_ GW110.out _ | refine keep_far ?_ GW113.out _ | refine keep_far ?_ GW121.out _) | exact HK.out)⟩
 rw [if_pos c25] at H
 have c25b0 : (t104 == 0) = true := beq_iff_eq.mpr c25
 have c25b1 : (t104 != 0) = false := bne_eq_false_iff_eq.mpr c25
 clear c25
 simp only [Option.some.injEq, Prod.mk.injEq] at H
 obtain ⟨rfl, rfl, rfl, rfl, rfl⟩ := H
 try go_wp2
 replace HO_102001 := q0 (Kd.R_drew HO_102001.out)
 replace BK110 := q0 (blk_drew BK110.out)
 replace BK113 := q0 (blk_drew BK113.out)
 replace HI0 := q0 (IsSRd.drew HI0.out)
 replace HK := q0 (keep_drew HK.out)
 replace HB := q0 (below_drew1 HB.out)
 have p120 : 0 ≤ (t103 : Int) := of_decide_eq_true qa
 have q120 : t103 < (t106.length : Int) := of_decide_eq_true qa
 obtain ⟨ad120, e120, hx120_0, hx120_1⟩ := at_TTie (Kd.R_reads' HO_102001.out).2.2 t103 p120 q120
 cases e120
 replace p120 := eq_true p120
 replace q120 := eq_true q120
 refine start_ (n := 11) (S := fun w' => w'.cell? ⟨gb113, 0, none⟩ = some (.int .i64 t105) ∧ w'.cell? ⟨gb113, 1, none⟩ = some (.slice (some ad120) t106.length co10) ∧ w'.cell? (ad120.add ((t103).toNat * 2)) = some (.int .i64 ((rd_TTie t106 t103).f0)) ∧ w'.cell? ⟨(ad120.add ((t103).toNat * 2)).block, (ad120.add ((t103).toNat * 2)).off + 1, none⟩ = some (.int .i64 ((rd_TTie t106 t103).f1))) (ds := []) (ba 11 0) (by kernel_rfl) rfl (by kernel_rfl) ⟨(blk_cell BK113.out 0).trans rfl, (blk_cell BK113.out 1).trans rfl, hx120_0, hx120_1⟩ (fun hHeld => ?_); refine with_tabW spec_l71Tied.tab3 spec_l71Tied.bits3 (fun HT_ HW_ => ?_)
 generalize wc.drew = w26 at HO_102001 BK110 BK113 HI0 HK HB hx120_0 hx120_1 hHeld ⊢
 refine pu 0 (some 24) (ba 11 1) HT_.out ?_
 refine pu 2 (some 26) (ba 11 5) HT_.out ?_
 refine pu 3 (some 27) (ba 11 13) HT_.out ?_
 refine tu 1 (some 25) (ba 11 15) HT_.out HW_.out hHeld ?_
 refine tu 4 (some 28) (ba 11 31) HT_.out HW_.out hHeld ?_
 refine pu 5 (some 29) (ba 11 63) HT_.out ?_
 refine join_ (σ := Nat) 1 (ba 11 1023) (fun s_ => [(30, .int .i64 t103), (8, .pointer (some ⟨s_, 0, none⟩)), (31, .pointer (some (ad120.add ((t103).toNat * 2)))), (32, .agg #[.int .i64 ((rd_TTie t106 t103).f0), .int .i64 ((rd_TTie t106 t103).f1)])]) (fun s_ w' => (w'.cell? ⟨gb113, 0, none⟩ = some (.int .i64 t105) ∧ w'.cell? ⟨gb113, 1, none⟩ = some (.slice (some ad120) t106.length co10) ∧ w'.cell? (ad120.add ((t103).toNat * 2)) = some (.int .i64 ((rd_TTie t106 t103).f0)) ∧ w'.cell? ⟨(ad120.add ((t103).toNat * 2)).block, (ad120.add ((t103).toNat * 2)).off + 1, none⟩ = some (.int .i64 ((rd_TTie t106 t103).f1))) ∧ (Kd.R kTie 32 w' w.heap.size (fun k_ => k_ ≠ s_) (.slice (some ad120) t106.length co10) t106) ∧ (w'.heap[gb110]? = some (.cells #[.int .i64 0, .slice none 0 0] 25 (0, 0))) ∧ (w'.heap[gb113]? = some (.cells #[.int .i64 t105, .slice (some ad120) t106.length co10] 25 (0, 0))) ∧ (w'.heap[s_]? = some (.cells #[.int .i64 0, .int .i64 0] 32 (0, 0))) ∧ (w.heap.size ≤ s_) ∧ (w0.heap.size ≤ s_) ∧ (g ≠ s_) ∧ (s_ ≠ g) ∧ (gb110 ≠ s_) ∧ (s_ ≠ gb110) ∧ (gb113 ≠ s_) ∧ (s_ ≠ gb113) ∧ (IsSRd w0 w' g s0_0 t116) ∧ (KeepBut w w' g none) ∧ (Below w0.heap.size w0 w')) ?_ ?_
 rotate_left
 · intro hCont
   refine two_ (i := 6) (j := 9) (Ni := some 30) (Nj := some 8) (ba 11 127) (ba 11 575) rfl rfl rfl rfl (two_of HT_.out (by kernel_rfl)) (by decide) (by decide) (fun K hK => ?_) (fun K hK => ?_)
   · skip
     refine goes_ Try.func59 (by kernel_rfl) rfl #[.pointer (some ⟨g, 0, none⟩), .int .i64 (t106.length : Int)] (by rfl) rfl rfl qm ?_
     with_reducible refine (spec_l6Rd_pick.calls kj2 g s0_0 x101_2 (t106.length : Int) t103 t116 w0 _ ?side1 ?side2 A21.out).mono ?_
     (case side1 => exact qi HI0.out)
     (case side2 => exact qj HB.out HI0.out)
     rintro e w27 ⟨rfl, hi, hb, hk⟩
     have HS2_ := keep_cell hk (hHeld.2.2.1) (by first | (rw [add_block]; exact Kd.own_blk (IsSRd.own_ne HI0.out HO_102001.out (by decide))) | (show (Addr.add _ _).block ≠ _; rw [add_block]; exact Kd.own_blk (IsSRd.own_ne HI0.out HO_102001.out (by decide))) | exact Kd.own_blk (IsSRd.own_ne HI0.out HO_102001.out (by decide)))
     have HS3_ := keep_cell hk (hHeld.2.2.2) (by first | (rw [add_block]; exact Kd.own_blk (IsSRd.own_ne HI0.out HO_102001.out (by decide))) | (show (Addr.add _ _).block ≠ _; rw [add_block]; exact Kd.own_blk (IsSRd.own_ne HI0.out HO_102001.out (by decide))) | exact Kd.own_blk (IsSRd.own_ne HI0.out HO_102001.out (by decide)))
     refine ⟨_, rfl, ?_⟩
     replace HO_102001 := q0 (Kd.R_mono (Kd.R_keep (IsSRd.apart (show IsSRd w0 _ g s0_0 x101_2 from qi HI0.out) (qr HO_102001.out) (by decide)) hk (fun _ h => h.2)) (fun _ h => h.1))
     replace BK110 := q0 (kc hk BK110.out NB110_0.out)
     replace BK113 := q0 (kc hk BK113.out NB113_0.out)
     replace HK := q0 (KeepBut.trans (qh HK.out) hk (.inl rfl))
     replace HB := q0 (hb)
     replace HI0 := q0 (hi)
     (try clear hb)
     (try clear hb2)
     (try clear hk)
     (try clear hi)
     refine hK.out _ _ ⟨(blk_cell BK113.out 0).trans rfl, (blk_cell BK113.out 1).trans rfl, HS2_, HS3_⟩ (fun hHeld => ?_)
     clear hK K
     refine nu 30 ?_
     refine pu 7 (some 31) (ba 11 255) HT_.out ?_
     refine tu 8 (some 32) (ba 11 511) HT_.out HW_.out hHeld ?_
     refine one_ (i := 9) (N := some 8) (ba 11 1023) rfl rfl (one_of HT_.out (by kernel_rfl)) (by decide) (fun K hK => ?_)
     refine box_step ?hg (N := 8) ?hd (cs := #[.int .i64 0, .int .i64 0]) (t := 32) ?hr ?_; (case hd => rfl); (case hg => rfl); (case hr => first | (go_simp; done) | (go_simp; rfl))
     intro gb121 hg w28 hbox hb
     have HS2_ := (hb.cell (World.block_lt_of_cell? _ _ (hHeld.2.2.1))).trans (hHeld.2.2.1)
     have HS3_ := (hb.cell (World.block_lt_of_cell? _ _ (hHeld.2.2.2))).trans (hHeld.2.2.2)
     replace HO_102001 := q0 (Kd.R_below (Kd.R_elderB (qr HO_102001.out) gb121 (Nat.le_of_eq hg.symm)) hb)
     replace HB := q0 (below_step (qj HB.out HI0.out) hb)
     have BK121 := q0 (hbox)
     have GW121 := q0 ((by rw [hg]; exact (keep_size (w := w) (g := g) (row := none) (qh HK.out)) : w.heap.size ≤ gb121))
     have GE121 := q0 ((Nat.le_trans HW0.out (by rw [hg]; exact (keep_size (w := w) (g := g) (row := none) (qh HK.out)) : w.heap.size ≤ gb121) : w0.heap.size ≤ gb121))
     replace HK := q0 (KeepBut.trans (qh HK.out) (KeepBut.of_below hb g none) (.inl rfl))
     have NB110_121 := q0 ((bl BK110.out hg : gb110 ≠ gb121))
     have NB121_110 := q0 ((bg BK110.out hg : gb121 ≠ gb110))
     replace BK110 := q0 (kb BK110.out hb)
     have NB113_121 := q0 ((bl BK113.out hg : gb113 ≠ gb121))
     have NB121_113 := q0 ((bg BK113.out hg : gb121 ≠ gb113))
     replace BK113 := q0 (kb BK113.out hb)
     have NB0_121 := q0 ((by rw [hg]; exact Nat.ne_of_lt (IsSRd.lt (show IsSRd w0 _ g s0_0 t116 from qi HI0.out)) : g ≠ gb121))
     have NB121_0 := q0 ((by rw [hg]; exact Nat.ne_of_gt (IsSRd.lt (show IsSRd w0 _ g s0_0 t116 from qi HI0.out)) : gb121 ≠ g))
     replace HI0 := q0 (IsSRd.below (qi HI0.out) hb)
     clear hb hbox hg
     refine hK.out _ _ ⟨(blk_cell BK113.out 0).trans rfl, (blk_cell BK113.out 1).trans rfl, HS2_, HS3_⟩ (fun hHeld => ?_)
     clear hK K
     refine nu 8 ?_
     exact norm_ (by simp only [putAll, Act.put, List.setIfInBounds_toArray, List.set_cons_zero, List.set_cons_succ]) (hCont (gb121) _ ⟨hHeld, (by (with_reducible repeat (first | apply Kd.R_alloc | apply Kd.R_drewN | apply Kd.R_drew)); exact Kd.R_mono HO_102001.out (fun _ hk => hk.2)), (qk BK110.out), (qk BK113.out), (qk BK121.out), GW121.out, GE121.out, NB0_121.out, NB121_0.out, NB110_121.out, NB121_110.out, NB113_121.out, NB121_113.out, (qi HI0.out), (qh HK.out), (qj HB.out HI0.out)⟩)
   · skip
     refine box_step ?hg (N := 8) ?hd (cs := #[.int .i64 0, .int .i64 0]) (t := 32) ?hr ?_; (case hd => rfl); (case hg => rfl); (case hr => first | (go_simp; done) | (go_simp; rfl))
     intro gb121 hg w27 hbox hb
     have HS2_ := (hb.cell (World.block_lt_of_cell? _ _ (hHeld.2.2.1))).trans (hHeld.2.2.1)
     have HS3_ := (hb.cell (World.block_lt_of_cell? _ _ (hHeld.2.2.2))).trans (hHeld.2.2.2)
     replace HO_102001 := q0 (Kd.R_below (Kd.R_elderB (qr HO_102001.out) gb121 (Nat.le_of_eq hg.symm)) hb)
     replace HB := q0 (below_step (qj HB.out HI0.out) hb)
     have BK121 := q0 (hbox)
     have GW121 := q0 ((by rw [hg]; exact (keep_size (w := w) (g := g) (row := none) (qh HK.out)) : w.heap.size ≤ gb121))
     have GE121 := q0 ((Nat.le_trans HW0.out (by rw [hg]; exact (keep_size (w := w) (g := g) (row := none) (qh HK.out)) : w.heap.size ≤ gb121) : w0.heap.size ≤ gb121))
     replace HK := q0 (KeepBut.trans (qh HK.out) (KeepBut.of_below hb g none) (.inl rfl))
     have NB110_121 := q0 ((bl BK110.out hg : gb110 ≠ gb121))
     have NB121_110 := q0 ((bg BK110.out hg : gb121 ≠ gb110))
     replace BK110 := q0 (kb BK110.out hb)
     have NB113_121 := q0 ((bl BK113.out hg : gb113 ≠ gb121))
     have NB121_113 := q0 ((bg BK113.out hg : gb121 ≠ gb113))
     replace BK113 := q0 (kb BK113.out hb)
     have NB0_121 := q0 ((by rw [hg]; exact Nat.ne_of_lt (IsSRd.lt (show IsSRd w0 _ g s0_0 x101_2 from qi HI0.out)) : g ≠ gb121))
     have NB121_0 := q0 ((by rw [hg]; exact Nat.ne_of_gt (IsSRd.lt (show IsSRd w0 _ g s0_0 x101_2 from qi HI0.out)) : gb121 ≠ g))
     replace HI0 := q0 (IsSRd.below (qi HI0.out) hb)
     clear hb hbox hg
     refine hK.out _ _ ⟨(blk_cell BK113.out 0).trans rfl, (blk_cell BK113.out 1).trans rfl, HS2_, HS3_⟩ (fun hHeld => ?_)
     clear hK K
     refine nu 8 ?_
     refine one_ (i := 6) (N := some 30) (ba 11 639) rfl rfl (one_of HT_.out (by kernel_rfl)) (by decide) (fun K hK => ?_)
     refine goes_ Try.func59 (by kernel_rfl) rfl #[.pointer (some ⟨g, 0, none⟩), .int .i64 (t106.length : Int)] (by rfl) rfl rfl qm ?_
     with_reducible refine (spec_l6Rd_pick.calls kj2 g s0_0 x101_2 (t106.length : Int) t103 t116 w0 _ ?side1 ?side2 A21.out).mono ?_
     (case side1 => exact qi HI0.out)
     (case side2 => exact qj HB.out HI0.out)
     rintro e w28 ⟨rfl, hi, hb, hk⟩
     have HS2_ := keep_cell hk (hHeld.2.2.1) (by first | (rw [add_block]; exact Kd.own_blk (IsSRd.own_ne HI0.out HO_102001.out (by decide))) | (show (Addr.add _ _).block ≠ _; rw [add_block]; exact Kd.own_blk (IsSRd.own_ne HI0.out HO_102001.out (by decide))) | exact Kd.own_blk (IsSRd.own_ne HI0.out HO_102001.out (by decide)))
     have HS3_ := keep_cell hk (hHeld.2.2.2) (by first | (rw [add_block]; exact Kd.own_blk (IsSRd.own_ne HI0.out HO_102001.out (by decide))) | (show (Addr.add _ _).block ≠ _; rw [add_block]; exact Kd.own_blk (IsSRd.own_ne HI0.out HO_102001.out (by decide))) | exact Kd.own_blk (IsSRd.own_ne HI0.out HO_102001.out (by decide)))
     refine ⟨_, rfl, ?_⟩
     replace HO_102001 := q0 (Kd.R_mono (Kd.R_keep (IsSRd.apart (show IsSRd w0 _ g s0_0 x101_2 from qi HI0.out) (qr HO_102001.out) (by decide)) hk (fun _ h => h.2)) (fun _ h => h.1))
     replace BK110 := q0 (kc hk BK110.out NB110_0.out)
     replace BK113 := q0 (kc hk BK113.out NB113_0.out)
     replace BK121 := q0 (kc hk BK121.out NB121_0.out)
     replace HK := q0 (KeepBut.trans (qh HK.out) hk (.inl rfl))
     replace HB := q0 (hb)
     replace HI0 := q0 (hi)
     (try clear hb)
     (try clear hb2)
     (try clear hk)
     (try clear hi)
     refine hK.out _ _ ⟨(blk_cell BK113.out 0).trans rfl, (blk_cell BK113.out 1).trans rfl, HS2_, HS3_⟩ (fun hHeld => ?_)
     clear hK K
     refine nu 30 ?_
     refine pu 7 (some 31) (ba 11 767) HT_.out ?_
     refine tu 8 (some 32) (ba 11 1023) HT_.out HW_.out hHeld ?_
     exact norm_ (by simp only [putAll, Act.put, List.setIfInBounds_toArray, List.set_cons_zero, List.set_cons_succ]) (hCont (gb121) _ ⟨hHeld, (by (with_reducible repeat (first | apply Kd.R_alloc | apply Kd.R_drewN | apply Kd.R_drew)); exact Kd.R_mono HO_102001.out (fun _ hk => hk.2)), (qk BK110.out), (qk BK113.out), (qk BK121.out), GW121.out, GE121.out, NB0_121.out, NB121_0.out, NB110_121.out, NB121_110.out, NB113_121.out, NB121_113.out, (qi HI0.out), (qh HK.out), (qj HB.out HI0.out)⟩)
 rintro gb121 w29 ⟨hS_, h0_, h1_, h2_, h3_, h4_, h5_, h6_, h7_, h8_, h9_, h10_, h11_, h12_, h13_, h14_⟩
 have n0_ : Aside0 (Kd.R kTie 32 w29 w.heap.size (fun k_ => k_ ≠ gb121) (.slice (some ad120) t106.length co10) t106) := ⟨h0_⟩
 have n1_ : Aside0 (w29.heap[gb110]? = some (.cells #[.int .i64 0, .slice none 0 0] 25 (0, 0))) := ⟨h1_⟩
 have n2_ : Aside0 (w29.heap[gb113]? = some (.cells #[.int .i64 t105, .slice (some ad120) t106.length co10] 25 (0, 0))) := ⟨h2_⟩
 have n3_ : Aside0 (w29.heap[gb121]? = some (.cells #[.int .i64 0, .int .i64 0] 32 (0, 0))) := ⟨h3_⟩
 have n4_ : Aside0 (w.heap.size ≤ gb121) := ⟨h4_⟩
 have n5_ : Aside0 (w0.heap.size ≤ gb121) := ⟨h5_⟩
 have n6_ : Aside0 (g ≠ gb121) := ⟨h6_⟩
 have n7_ : Aside0 (gb121 ≠ g) := ⟨h7_⟩
 have n8_ : Aside0 (gb110 ≠ gb121) := ⟨h8_⟩
 have n9_ : Aside0 (gb121 ≠ gb110) := ⟨h9_⟩
 have n10_ : Aside0 (gb113 ≠ gb121) := ⟨h10_⟩
 have n11_ : Aside0 (gb121 ≠ gb113) := ⟨h11_⟩
 have n12_ : Aside0 (IsSRd w0 w29 g s0_0 t116) := ⟨h12_⟩
 have n13_ : Aside0 (KeepBut w w29 g none) := ⟨h13_⟩
 have n14_ : Aside0 (Below w0.heap.size w0 w29) := ⟨h14_⟩
 clear HO_102001
 clear BK110
 clear BK113
 clear HI0
 clear HK
 clear HB
 clear h0_ h1_ h2_ h3_ h4_ h5_ h6_ h7_ h8_ h9_ h10_ h11_ h12_ h13_ h14_
 have HO_102001 := n0_
 have BK110 := n1_
 have BK113 := n2_
 have BK121 := n3_
 have GW121 := n4_
 have GE121 := n5_
 have NB0_121 := n6_
 have NB121_0 := n7_
 have NB110_121 := n8_
 have NB121_110 := n9_
 have NB113_121 := n10_
 have NB121_113 := n11_
 have HI0 := n12_
 have HK := n13_
 have HB := n14_
 clear n0_ n1_ n2_ n3_ n4_ n5_ n6_ n7_ n8_ n9_ n10_ n11_ n12_ n13_ n14_
 have hHeld : w29.cell? ⟨gb113, 0, none⟩ = some (.int .i64 t105) ∧ w29.cell? ⟨gb113, 1, none⟩ = some (.slice (some ad120) t106.length co10) ∧ w29.cell? (ad120.add ((t103).toNat * 2)) = some (.int .i64 ((rd_TTie t106 t103).f0)) ∧ w29.cell? ⟨(ad120.add ((t103).toNat * 2)).block, (ad120.add ((t103).toNat * 2)).off + 1, none⟩ = some (.int .i64 ((rd_TTie t106 t103).f1)) := hS_
 refine norm_ (a' := ?_) ?_ ?_
 rotate_left
 · simp only [putAll, Act.put, List.setIfInBounds_toArray, List.set_cons_zero, List.set_cons_succ]
   rfl
 refine one_ (i := 10) (N := none) (ba 11 2047) rfl rfl (one_of HT_.out (by kernel_rfl)) (by decide) (fun K hK => ?_)
 have hs30 : w29.cell? ⟨gb121, 0, none⟩ = some (.int .i64 0) := (blk_cell BK121.out 0).trans rfl
 have hfs30 := blk_frozen BK121.out 0
 have hns30_0 := NB110_121.out
 have hns30_1 := NB113_121.out
 have hms30_0 := NB121_110.out
 have hms30_1 := NB121_113.out
 have hs31 : w29.cell? ⟨gb121, 1, none⟩ = some (.int .i64 0) := (blk_cell BK121.out 1).trans rfl
 have hfs31 := blk_frozen BK121.out 1
 have hns31_0 := NB110_121.out
 have hns31_1 := NB113_121.out
 have hms31_0 := NB121_110.out
 have hms31_1 := NB121_113.out
 refine skip_ (w1 := ?_) (by rfl) rfl ?_ ?_
 rotate_left
 · go_simp
   rfl
 refine hK.out _ _ ⟨((cell_far (p := ⟨gb121, _, none⟩) NB113_121.out _).trans (((cell_far (p := ⟨gb121, _, none⟩) NB113_121.out _).trans (hHeld.1)))), ((cell_far (p := ⟨gb121, _, none⟩) NB113_121.out _).trans (((cell_far (p := ⟨gb121, _, none⟩) NB113_121.out _).trans (hHeld.2.1)))), ((cell_far (p := ⟨gb121, _, none⟩) (by first | exact Kd.own_blk (Kd.R_away HO_102001.out (fun _ hk => hk)) | (rw [add_block]; exact Kd.own_blk (Kd.R_away HO_102001.out (fun _ hk => hk))) | (show (Addr.add _ _).block ≠ _; rw [add_block]; exact Kd.own_blk (Kd.R_away HO_102001.out (fun _ hk => hk))) | (dsimp only; exact Kd.own_blk (Kd.R_away HO_102001.out (fun _ hk => hk)))) _).trans (((cell_far (p := ⟨gb121, _, none⟩) (by first | exact Kd.own_blk (Kd.R_away HO_102001.out (fun _ hk => hk)) | (rw [add_block]; exact Kd.own_blk (Kd.R_away HO_102001.out (fun _ hk => hk))) | (show (Addr.add _ _).block ≠ _; rw [add_block]; exact Kd.own_blk (Kd.R_away HO_102001.out (fun _ hk => hk))) | (dsimp only; exact Kd.own_blk (Kd.R_away HO_102001.out (fun _ hk => hk)))) _).trans (hHeld.2.2.1)))), ((cell_far (p := ⟨gb121, _, none⟩) (by first | exact Kd.own_blk (Kd.R_away HO_102001.out (fun _ hk => hk)) | (rw [add_block]; exact Kd.own_blk (Kd.R_away HO_102001.out (fun _ hk => hk))) | (show (Addr.add _ _).block ≠ _; rw [add_block]; exact Kd.own_blk (Kd.R_away HO_102001.out (fun _ hk => hk))) | (dsimp only; exact Kd.own_blk (Kd.R_away HO_102001.out (fun _ hk => hk)))) _).trans (((cell_far (p := ⟨gb121, _, none⟩) (by first | exact Kd.own_blk (Kd.R_away HO_102001.out (fun _ hk => hk)) | (rw [add_block]; exact Kd.own_blk (Kd.R_away HO_102001.out (fun _ hk => hk))) | (show (Addr.add _ _).block ≠ _; rw [add_block]; exact Kd.own_blk (Kd.R_away HO_102001.out (fun _ hk => hk))) | (dsimp only; exact Kd.own_blk (Kd.R_away HO_102001.out (fun _ hk => hk)))) _).trans (hHeld.2.2.2))))⟩ (fun hHeld => ?_)
 clear hK K
 refine done_ (done_of HT_.out (by kernel_rfl)) ?_
 try go_wp2_with (first | ((with_reducible refine gate_callee (f := 59) rfl ?_); refine gl 34 Try.func59 #[.pointer (some ⟨g, 0, none⟩), .int .i64 2] ?_; (with_reducible refine (spec_l6Rd_pick.calls kj2 g s0_0 t116 2 t104 t118 w0 _ ?side1 ?side2 A24.out).mono ?_); (case side1 => exact qi HI0.out); (case side2 => exact qj HB.out HI0.out); rintro e w32 ⟨rfl, hi, hb, hk⟩; refine ⟨_, rfl, ?_⟩; replace HO_102001 := q0 (Kd.R_mono (Kd.R_keep (IsSRd.apart (show IsSRd w0 _ g s0_0 t116 from qi HI0.out) (by (with_reducible repeat (first | apply Kd.R_alloc | apply Kd.R_drewN | apply Kd.R_drew)); exact (Kd.R_mono (Kd.R_far (p := ⟨gb121, 1, none⟩) (Kd.R_far (p := ⟨gb121, 0, none⟩) (Kd.R_mono HO_102001.out (fun k_ hk => (⟨hk, hk⟩ : _ ∧ k_ ≠ gb121))) (fun _ hk => hk.2) (.int .i64 ((rd_TTie t106 t103).f0))) (fun _ hk => hk.2) (.int .i64 ((rd_TTie t106 t103).f1))) (fun _ h_ => h_.1))) (by decide)) hk (fun _ h => h.2)) (fun _ h => h.1)); replace BK110 := q0 (kc hk BK110.out NB110_0.out); replace BK113 := q0 (kc hk BK113.out NB113_0.out); replace BK121 := q0 (KeepBut.blk hk (g' := gb121) (o := .cells #[.int .i64 ((rd_TTie t106 t103).f0), .int .i64 ((rd_TTie t106 t103).f1)] 32 (0, 0)) (by (with_reducible repeat (first | refine blk_drewN ?_ _ | refine blk_drew ?_ | refine blk_alloc ?_ _)); refine blk_put (cs := #[.int .i64 ((rd_TTie t106 t103).f0), .int .i64 0]) ?_ 1 _ rfl; (with_reducible repeat (first | refine blk_drewN ?_ _ | refine blk_drew ?_ | refine blk_alloc ?_ _)); refine blk_put (cs := #[.int .i64 0, .int .i64 0]) ?_ 0 _ rfl; (with_reducible repeat (first | refine blk_drewN ?_ _ | refine blk_drew ?_ | refine blk_alloc ?_ _)); exact BK121.out) NB121_0.out (by simp)); replace HK := q0 (KeepBut.trans (qh HK.out) hk (.inl rfl)); replace HB := q0 (hb); replace HI0 := q0 (hi); (try clear hb); (try clear hb2); (try clear hk); (try clear hi)))
 replace HO_102001 := q0 (Kd.R_drew HO_102001.out)
 replace BK110 := q0 (blk_drew BK110.out)
 replace BK113 := q0 (blk_drew BK113.out)
 replace BK121 := q0 (blk_drew BK121.out)
 replace HI0 := q0 (IsSRd.drew HI0.out)
 replace HK := q0 (keep_drew HK.out)
 replace HB := q0 (below_drew1 HB.out)
 refine start_ (n := 8) (S := fun w' => w'.cell? ⟨gb113, 0, none⟩ = some (.int .i64 t105) ∧ w'.cell? ⟨gb113, 1, none⟩ = some (.slice (some ad120) t106.length co10) ∧ w'.cell? ⟨gb121, 0, none⟩ = some (.int .i64 ((rd_TTie t106 t103).f0)) ∧ w'.cell? ⟨gb121, 1, none⟩ = some (.int .i64 ((rd_TTie t106 t103).f1))) (ds := []) (ba 8 0) (by kernel_rfl) rfl (by kernel_rfl) ⟨(blk_cell BK113.out 0).trans rfl, (blk_cell BK113.out 1).trans rfl, (blk_cell BK121.out 0).trans rfl, (blk_cell BK121.out 1).trans rfl⟩ (fun hHeld => ?_); refine with_tabW spec_l71Tied.tab5 spec_l71Tied.bits5 (fun HT_ HW_ => ?_)
 generalize w32.drew = w33 at HO_102001 BK110 BK113 BK121 HI0 HK HB hHeld ⊢
 refine pu 1 (some 37) (ba 8 2) HT_.out ?_
 refine pu 3 (some 39) (ba 8 10) HT_.out ?_
 refine tu 0 (some 36) (ba 8 11) HT_.out HW_.out hHeld ?_
 refine tu 2 (some 38) (ba 8 15) HT_.out HW_.out hHeld ?_
 refine tu 4 (some 40) (ba 8 31) HT_.out HW_.out hHeld ?_
 refine one_ (i := 5) (N := none) (ba 8 63) rfl rfl (one_of HT_.out (by kernel_rfl)) (by decide) (fun K hK => ?_)
 have hs34 : w33.cell? ⟨gb110, 0, none⟩ = some (.int .i64 0) := (blk_cell BK110.out 0).trans rfl
 have hfs34 := blk_frozen BK110.out 0
 have hns34_1 := NB113_110.out
 have hns34_2 := NB121_110.out
 have hms34_1 := NB110_113.out
 have hms34_2 := NB110_121.out
 have hs35 : w33.cell? ⟨gb110, 1, none⟩ = some (.slice none 0 0) := (blk_cell BK110.out 1).trans rfl
 have hfs35 := blk_frozen BK110.out 1
 have hns35_1 := NB113_110.out
 have hns35_2 := NB121_110.out
 have hms35_1 := NB110_113.out
 have hms35_2 := NB110_121.out
 refine skip_ (w1 := ?_) (by rfl) rfl ?_ ?_
 rotate_left
 · go_simp
   rfl
 refine hK.out _ _ ⟨((cell_far (p := ⟨gb110, _, none⟩) NB113_110.out _).trans (((cell_far (p := ⟨gb110, _, none⟩) NB113_110.out _).trans (hHeld.1)))), ((cell_far (p := ⟨gb110, _, none⟩) NB113_110.out _).trans (((cell_far (p := ⟨gb110, _, none⟩) NB113_110.out _).trans (hHeld.2.1)))), ((cell_far (p := ⟨gb110, _, none⟩) NB121_110.out _).trans (((cell_far (p := ⟨gb110, _, none⟩) NB121_110.out _).trans (hHeld.2.2.1)))), ((cell_far (p := ⟨gb110, _, none⟩) NB121_110.out _).trans (((cell_far (p := ⟨gb110, _, none⟩) NB121_110.out _).trans (hHeld.2.2.2))))⟩ (fun hHeld => ?_)
 clear hK K
 refine pu 6 (some 3) (ba 8 127) HT_.out ?_
 refine pu 7 (some 4) (ba 8 255) HT_.out ?_
 refine done_ (done_of HT_.out (by kernel_rfl)) ?_
 try go_wp2
 refine bodyPost_ret (results_ctt rfl _ _ gb110 25 #[.int .i64 t105, .slice (some ad120) t106.length co10] (0, 0) _ rfl (by (with_reducible repeat (first | refine blk_drewN ?_ _ | refine blk_drew ?_ | refine blk_alloc ?_ _)); refine blk_put (cs := #[.int .i64 t105, .slice none 0 0]) ?_ 1 _ rfl; (with_reducible repeat (first | refine blk_drewN ?_ _ | refine blk_drew ?_ | refine blk_alloc ?_ _)); refine blk_put (cs := #[.int .i64 0, .slice none 0 0]) ?_ 0 _ rfl; (with_reducible repeat (first | refine blk_drewN ?_ _ | refine blk_drew ?_ | refine blk_alloc ?_ _)); exact BK110.out) Try.underlying25 rfl (by kernel_rfl)) rfl ?_
 exact ⟨_, qe, by (with_reducible repeat (first | apply Kd.R_alloc | apply Kd.R_drewN | apply Kd.R_drew)); exact rf2 HO_102001.out BK110.out (fun _ hk => trivial), qi HI0.out, qj HB.out HI0.out, by repeat (first | (with_reducible first | exact HK.out | apply KeepBut.set_ | apply keep_drewN | apply keep_drew | apply keep_alloc | refine keep_far ?_ GW110.out _ | refine keep_far ?_ GW113.out _ | refine keep_far ?_ GW121.out _) | exact HK.out)⟩

set_option maxHeartbeats 8000000 in
set_option maxRecDepth 100000 in
theorem spec_DrawNetHas.calls (k : Nat) (A0 : Option Addr) (c0 : Nat) (l0 : List Int) (r1 : Int) (r2 : List (STie)) (r3 : Int) (r4 : Int) (w : World) (hr0 : Kd.C (Kd.int .u8) w A0 l0.length l0) (hc0 : l0.length ≤ c0) (h : spec_DrawNetHas.f k l0 = some (r1, r2, r3, r4)) :
    Calls Try.prog 39 #[.slice A0 l0.length c0] w fun e w' => ∃ v1_ : Value, e = .returned (.tuple #[.agg #[.int .i64 r1, v1_], .int .i64 r3, .int .i64 r4]) ∧ Kd.R kTie 32 w' w.heap.size (fun _ => True) v1_ r2 ∧ Below w.heap.size w w' := by
 have hu25 := Try.underlying25
 have HR0 := Aside0.mk hr0
 have HC0 := Aside0.mk hc0
 clear hr0 hc0
 have HB := q0 (Below.refl w.heap.size w)
 have H : ((spec_l6Open.f l0).bind fun bt100 => ((spec_l71Tied.f k bt100.1 bt100.2).bind fun bt101 => (some (bt101.1, bt101.2.1, bt101.2.2.1, bt101.2.2.2.1)))) = some (r1, r2, r3, r4) := h
 clear h
 replace H := Option.bind_eq_some_iff.mp H
 obtain ⟨⟨t100, t102⟩, A20, H⟩ := H
 have A2 := Aside0.mk A20
 clear A20
 replace H := Option.bind_eq_some_iff.mp H
 obtain ⟨⟨t101, t103, t104, t105, t106⟩, A30, H⟩ := H
 have A3 := Aside0.mk A30
 clear A30
 simp only [Option.some.injEq, Prod.mk.injEq] at H
 obtain ⟨rfl, rfl, rfl, rfl⟩ := H
 go_enter Try.func39, Try.ntmps39
 go_wp2_with (first | ((with_reducible refine gate_dst (N := 2) rfl ?_); refine be 2 #[.int .i64 0, .slice none 0 0] 25 ?_; intro gb107 hg w4 hbox hb; have BK107 := q0 (hbox); have GW107 := q0 ((bs HB.out hg : w.heap.size ≤ gb107)); have GE107 := q0 ((bs HB.out hg : w.heap.size ≤ gb107)); replace HB := q0 (below_step (qb HB.out) hb); clear hb hbox hg) | ((with_reducible refine gate_callee (f := 52) rfl ?_); refine gl 6 Try.func52 #[.slice A0 l0.length c0] ?_; (with_reducible refine (spec_l6Open.calls _ _ l0 t100 t102 w _ ?side1 ?side2 ?side3 A2.out).mono ?_); (case side1 => exact qb HB.out); (case side2 => exact HR0.out); (case side3 => exact HC0.out); rintro e w5 ⟨g108, rfl, hi, hb, hb2⟩; refine ⟨_, rfl, ?_⟩; replace HB := q0 (hb); have HI108 := q0 (hi); have NB108_107 := q0 (IsSRd.ne_blk hi (kb BK107.out hb2) (by decide)); have NB107_108 := q0 (Ne.symm (IsSRd.ne_blk hi (kb BK107.out hb2) (by decide))); replace BK107 := q0 (kb BK107.out hb2); (try clear hb); (try clear hb2); (try clear hk); (try clear hi)) | ((with_reducible refine gate_callee (f := 79) rfl ?_); refine gl 7 Try.func79 #[.pointer (some ⟨g108, 0, none⟩)] ?_; (with_reducible refine (spec_l71Tied.calls k g108 t100 t102 t101 t103 t104 t105 t106 w _ ?side1 ?side2 A3.out).mono ?_); (case side1 => exact qi HI108.out); (case side2 => exact qj HB.out HI108.out); rintro e w6 ⟨v109, rfl, ho0, hi, hb, hk⟩; refine ⟨_, rfl, ?_⟩; replace BK107 := q0 (kc hk BK107.out NB107_108.out); have HO110 := q0 (Kd.R_lower ho0 (below_size (qj HB.out HI108.out))); replace HB := q0 (hb); replace HI108 := q0 (hi); (try clear hb); (try clear hb2); (try clear hk); (try clear hi); (try clear ho0); have hnb7 := NB107_108.out; have hnc7 := NB108_107.out; have hcz8_0 : w6.cell? ⟨gb107, 0, none⟩ = some (.int .i64 0) := (blk_cell BK107.out 0).trans rfl; have hcz8_1 : w6.cell? ⟨gb107, 1, none⟩ = some (.slice none 0 0) := (blk_cell BK107.out 1).trans rfl; have hfz8_0 := blk_frozen BK107.out 0; have hfz8_1 := blk_frozen BK107.out 1; obtain ⟨Ao9, co9, eo9⟩ := Kd.R_slice HO110.out; subst eo9))
 refine bodyPost_ret (results_ctt rfl _ _ gb107 25 #[.int .i64 t101, .slice Ao9 t103.length co9] (0, 0) _ rfl (by (with_reducible repeat (first | refine blk_drewN ?_ _ | refine blk_drew ?_ | refine blk_alloc ?_ _)); refine blk_put (cs := #[.int .i64 t101, .slice none 0 0]) ?_ 1 _ rfl; (with_reducible repeat (first | refine blk_drewN ?_ _ | refine blk_drew ?_ | refine blk_alloc ?_ _)); refine blk_put (cs := #[.int .i64 0, .slice none 0 0]) ?_ 0 _ rfl; (with_reducible repeat (first | refine blk_drewN ?_ _ | refine blk_drew ?_ | refine blk_alloc ?_ _)); exact BK107.out) Try.underlying25 rfl (by kernel_rfl)) rfl ?_
 exact ⟨_, qe, by (with_reducible repeat (first | apply Kd.R_alloc | apply Kd.R_drewN | apply Kd.R_drew)); exact rf2 HO110.out BK107.out (fun _ hk => trivial), qj HB.out HI108.out⟩

set_option maxHeartbeats 8000000 in
set_option maxRecDepth 100000 in
theorem laws_FnNetUndo.calls (k : Nat) (A0 : Option Addr) (c0 : Nat) (l0 : List Int) (r : Bool) (w : World) (hr0 : Kd.C (Kd.int .u8) w A0 l0.length l0) (hc0 : l0.length ≤ c0) (h : laws_FnNetUndo.f k l0 = some r) :
    Calls Try.prog 9 #[.slice A0 l0.length c0] w fun e w' => e = .returned (.bool r) ∧ Below w.heap.size w w' := by
 have hu25 := Try.underlying25
 have HR0 := Aside0.mk hr0
 have HC0 := Aside0.mk hc0
 clear hr0 hc0
 have HB := q0 (Below.refl w.heap.size w)
 have H : (if (l0.length : Int) > 1048576 then (some true) else ((spec_DrawNetHas.f k l0).bind fun bt107 => ((impl_NetCut.f k bt107.1 bt107.2.1 bt107.2.2.1 bt107.2.2.2).bind fun bt100 => ((impl_NetAdd.f k bt107.1 bt107.2.1 bt107.2.2.1 bt107.2.2.2).bind fun bt101 => ((spec_NetCut.f k bt107.1 bt107.2.1 bt107.2.2.1 bt107.2.2.2).bind fun bt102 => (if (bt100.2.2 != bt102.2.2) = true then (laws_FnNetUndo.j0 k bt107.2.2.1 bt107.2.2.2 bt100.2.2 bt101.2.2 true bt107.1 bt107.2.1 bt100.1 bt100.2.1 bt101.1 bt101.2.1) else ((laws_loNet.f k bt100.1 bt100.2.1 bt102.1 bt102.2.1).bind fun t108 => (if t108 = true then (if bt100.2.2 = true then (laws_FnNetUndo.j0 k bt107.2.2.1 bt107.2.2.2 bt100.2.2 bt101.2.2 bt101.2.2 bt107.1 bt107.2.1 bt100.1 bt100.2.1 bt101.1 bt101.2.1) else (laws_FnNetUndo.j0 k bt107.2.2.1 bt107.2.2.2 bt100.2.2 bt101.2.2 false bt107.1 bt107.2.1 bt100.1 bt100.2.1 bt101.1 bt101.2.1)) else (laws_FnNetUndo.j0 k bt107.2.2.1 bt107.2.2.2 bt100.2.2 bt101.2.2 true bt107.1 bt107.2.1 bt100.1 bt100.2.1 bt101.1 bt101.2.1))))))))) = some r := h
 clear h
 by_cases c2 : (l0.length : Int) > 1048576
 · rw [if_pos c2] at H
   have c2b0 : decide (1048576 < (l0.length : Int)) = true := decide_eq_true c2
   have c2b1 : decide (1048576 < l0.length) = true := decide_eq_true (by omega)
   clear c2
   obtain rfl := Option.some.inj H
   go_enter Try.func9, Try.ntmps9
   go_wp2
   go_ret
   exact ⟨qe, qb HB.out⟩
 rw [if_neg c2] at H
 have c2b0 : decide (1048576 < (l0.length : Int)) = false := decide_eq_false c2
 have c2b1 : decide (1048576 < l0.length) = false := decide_eq_false (by omega)
 clear c2
 replace H := Option.bind_eq_some_iff.mp H
 obtain ⟨⟨t107, t109, t110, t111⟩, A30, H⟩ := H
 have A3 := Aside0.mk A30
 clear A30
 replace H := Option.bind_eq_some_iff.mp H
 obtain ⟨⟨t100, t112, t113⟩, A40, H⟩ := H
 have A4 := Aside0.mk A40
 clear A40
 replace H := Option.bind_eq_some_iff.mp H
 obtain ⟨⟨t101, t114, t115⟩, A50, H⟩ := H
 have A5 := Aside0.mk A50
 clear A50
 replace H := Option.bind_eq_some_iff.mp H
 obtain ⟨⟨t102, t116, t117⟩, A60, H⟩ := H
 have A6 := Aside0.mk A60
 clear A60
 have HC7 := Aside0.mk H
 clear H
 go_enter Try.func9, Try.ntmps9
 go_upto_region 7 with (first | ((with_reducible refine gate_callee (f := 39) rfl ?_); refine gl 21 Try.func39 #[.slice A0 l0.length c0] ?_; (with_reducible refine (spec_DrawNetHas.calls k _ _ l0 t107 t109 t110 t111 _ ?side1 ?side2 A3.out).mono ?_); (case side1 => repeat (first | exact HR0.out | (with_reducible refine Kd.C_alloc ?_ _) | (with_reducible refine Kd.C_drewN ?_ _) | (with_reducible refine Kd.C_drew ?_))); (case side2 => exact HC0.out); rintro e w8 ⟨v118, rfl, ho0, hb⟩; refine ⟨_, rfl, ?_⟩; have HO119 := q0 (Kd.R_lower ho0 (below_size (qb HB.out))); replace HB := q0 (below_step (qb HB.out) hb); (try clear hb); (try clear hb2); (try clear hk); (try clear hi); (try clear ho0)) | ((with_reducible refine gate_dst (N := 3) rfl ?_); refine be 3 #[.int .i64 0, .slice none 0 0] 25 ?_; intro gb120 hg w9 hbox hb; replace HO119 := q0 (Kd.R_below (qr HO119.out) hb); have BK120 := q0 (hbox); have GW120 := q0 ((bs HB.out hg : w.heap.size ≤ gb120)); have GE120 := q0 ((bs HB.out hg : w.heap.size ≤ gb120)); replace HB := q0 (below_step (qb HB.out) hb); clear hb hbox hg; have hcz10_0 : w9.cell? ⟨gb120, 0, none⟩ = some (.int .i64 0) := (blk_cell BK120.out 0).trans rfl; have hcz10_1 : w9.cell? ⟨gb120, 1, none⟩ = some (.slice none 0 0) := (blk_cell BK120.out 1).trans rfl; have hfz10_0 := blk_frozen BK120.out 0; have hfz10_1 := blk_frozen BK120.out 1; obtain ⟨Ao11, co11, eo11⟩ := Kd.R_slice HO119.out; subst eo11) | ((with_reducible refine gate_callee (f := 18) rfl ?_); refine gl 29 Try.func18 #[.agg #[.int .i64 t107, .slice Ao11 t109.length co11], .int .i64 t110, .int .i64 t111] ?_; (with_reducible refine (impl_NetCut.calls k t107 _ _ t109 t110 t111 t100 t112 t113 _ ?side1 ?side2 A4.out).mono ?_); (case side1 => refine (Kd.R_reads' (e := 32) (base := w.heap.size) (ok := fun k_ => True) (n := t109.length) (c := co11) ?_).2.2; exact (by (with_reducible repeat (first | apply Kd.R_alloc | apply Kd.R_drewN | apply Kd.R_drew)); exact (rf2 HO119.out BK120.out (fun _ h_ => h_.1)))); (case side2 => exact (Kd.R_reads' HO119.out).2.1); rintro e w12 ⟨v121, rfl, ho0, hb⟩; refine ⟨_, rfl, ?_⟩; have HO122 := q0 (Kd.R_lower (Kd.R_new' ho0 (Kd.R_lt (by (with_reducible repeat (first | apply Kd.R_alloc | apply Kd.R_drewN | apply Kd.R_drew)); exact (rf2 HO119.out BK120.out (fun _ h_ => h_.1))))) (below_size (qb HB.out))); replace HO119 := q0 (Kd.R_elder' (by (with_reducible repeat (first | apply Kd.R_alloc | apply Kd.R_drewN | apply Kd.R_drew)); exact (rf2 HO119.out BK120.out (fun _ h_ => h_.1))) (Kd.R_base ho0) hb); replace BK120 := q0 (blk_below (g := gb120) (o := .cells #[.int .i64 t107, .slice Ao11 t109.length co11] 25 (0, 0)) (by (with_reducible repeat (first | refine blk_drewN ?_ _ | refine blk_drew ?_ | refine blk_alloc ?_ _)); refine blk_put (cs := #[.int .i64 t107, .slice none 0 0]) ?_ 1 _ rfl; (with_reducible repeat (first | refine blk_drewN ?_ _ | refine blk_drew ?_ | refine blk_alloc ?_ _)); refine blk_put (cs := #[.int .i64 0, .slice none 0 0]) ?_ 0 _ rfl; (with_reducible repeat (first | refine blk_drewN ?_ _ | refine blk_drew ?_ | refine blk_alloc ?_ _)); exact BK120.out) hb); replace HB := q0 (below_step (qb HB.out) hb); (try clear hb); (try clear hb2); (try clear hk); (try clear hi); (try clear ho0)) | ((with_reducible refine gate_dst (N := 6) rfl ?_); refine be 6 #[.int .i64 0, .slice none 0 0] 25 ?_; intro gb123 hg w13 hbox hb; replace HO119 := q0 (Kd.R_below (qr HO119.out) hb); replace HO122 := q0 (Kd.R_below (qr HO122.out) hb); have BK123 := q0 (hbox); have GW123 := q0 ((bs HB.out hg : w.heap.size ≤ gb123)); have GE123 := q0 ((bs HB.out hg : w.heap.size ≤ gb123)); replace HB := q0 (below_step (qb HB.out) hb); have NB120_123 := q0 ((bl BK120.out hg : gb120 ≠ gb123)); have NB123_120 := q0 ((bg BK120.out hg : gb123 ≠ gb120)); replace BK120 := q0 (kb BK120.out hb); clear hb hbox hg; have hnb14 := NB123_120.out; have hnc14 := NB120_123.out; have hcz15_0 : w13.cell? ⟨gb123, 0, none⟩ = some (.int .i64 0) := (blk_cell BK123.out 0).trans rfl; have hcz15_1 : w13.cell? ⟨gb123, 1, none⟩ = some (.slice none 0 0) := (blk_cell BK123.out 1).trans rfl; have hfz15_0 := blk_frozen BK123.out 0; have hfz15_1 := blk_frozen BK123.out 1; obtain ⟨Ao16, co16, eo16⟩ := Kd.R_slice HO122.out; subst eo16; have hcz17_0 : w13.cell? ⟨gb120, 0, none⟩ = some (.int .i64 t107) := (blk_cell BK120.out 0).trans rfl; have hcz17_1 : w13.cell? ⟨gb120, 1, none⟩ = some (.slice Ao11 t109.length co11) := (blk_cell BK120.out 1).trans rfl; have hfz17_0 := blk_frozen BK120.out 0; have hfz17_1 := blk_frozen BK120.out 1) | ((with_reducible refine gate_callee (f := 29) rfl ?_); refine gl 36 Try.func29 #[.agg #[.int .i64 t107, .slice Ao11 t109.length co11], .int .i64 t110, .int .i64 t111] ?_; (with_reducible refine (impl_NetAdd.calls k t107 _ _ t109 t110 t111 t101 t114 t115 _ ?side1 ?side2 A5.out).mono ?_); (case side1 => refine (Kd.R_reads' (e := 32) (base := w.heap.size) (ok := fun k_ => (True ∧ some k_ ≠ (.slice Ao16 t112.length co16 : Value).ownBlock)) (n := t109.length) (c := co11) ?_).2.2; exact (by (with_reducible repeat (first | apply Kd.R_alloc | apply Kd.R_drewN | apply Kd.R_drew)); exact (rf2 HO119.out BK123.out (fun _ h_ => h_.1)))); (case side2 => exact (Kd.R_reads' HO119.out).2.1); rintro e w18 ⟨v124, rfl, ho0, hb⟩; refine ⟨_, rfl, ?_⟩; have HO125 := q0 (Kd.R_lower (Kd.R_new' (Kd.R_new' ho0 (Kd.R_lt (by (with_reducible repeat (first | apply Kd.R_alloc | apply Kd.R_drewN | apply Kd.R_drew)); exact (rf2 HO119.out BK123.out (fun _ h_ => h_.1))))) (Kd.R_lt (by (with_reducible repeat (first | apply Kd.R_alloc | apply Kd.R_drewN | apply Kd.R_drew)); exact (rf2 HO122.out BK123.out (fun _ h_ => h_.1))))) (below_size (qb HB.out))); replace HO119 := q0 (Kd.R_elder' (by (with_reducible repeat (first | apply Kd.R_alloc | apply Kd.R_drewN | apply Kd.R_drew)); exact (rf2 HO119.out BK123.out (fun _ h_ => h_.1))) (Kd.R_base ho0) hb); replace HO122 := q0 (Kd.R_elder' (by (with_reducible repeat (first | apply Kd.R_alloc | apply Kd.R_drewN | apply Kd.R_drew)); exact (rf2 HO122.out BK123.out (fun _ h_ => h_.1))) (Kd.R_base ho0) hb); replace BK120 := q0 (kf BK120.out hb); replace BK123 := q0 (blk_below (g := gb123) (o := .cells #[.int .i64 t100, .slice Ao16 t112.length co16] 25 (0, 0)) (by (with_reducible repeat (first | refine blk_drewN ?_ _ | refine blk_drew ?_ | refine blk_alloc ?_ _)); refine blk_put (cs := #[.int .i64 t100, .slice none 0 0]) ?_ 1 _ rfl; (with_reducible repeat (first | refine blk_drewN ?_ _ | refine blk_drew ?_ | refine blk_alloc ?_ _)); refine blk_put (cs := #[.int .i64 0, .slice none 0 0]) ?_ 0 _ rfl; (with_reducible repeat (first | refine blk_drewN ?_ _ | refine blk_drew ?_ | refine blk_alloc ?_ _)); exact BK123.out) hb); replace HB := q0 (below_step (qb HB.out) hb); (try clear hb); (try clear hb2); (try clear hk); (try clear hi); (try clear ho0)) | ((with_reducible refine gate_dst (N := 8) rfl ?_); refine be 8 #[.int .i64 0, .slice none 0 0] 25 ?_; intro gb126 hg w19 hbox hb; replace HO119 := q0 (Kd.R_below (qr HO119.out) hb); replace HO122 := q0 (Kd.R_below (qr HO122.out) hb); replace HO125 := q0 (Kd.R_below (qr HO125.out) hb); have BK126 := q0 (hbox); have GW126 := q0 ((bs HB.out hg : w.heap.size ≤ gb126)); have GE126 := q0 ((bs HB.out hg : w.heap.size ≤ gb126)); replace HB := q0 (below_step (qb HB.out) hb); have NB120_126 := q0 ((bl BK120.out hg : gb120 ≠ gb126)); have NB126_120 := q0 ((bg BK120.out hg : gb126 ≠ gb120)); replace BK120 := q0 (kb BK120.out hb); have NB123_126 := q0 ((bl BK123.out hg : gb123 ≠ gb126)); have NB126_123 := q0 ((bg BK123.out hg : gb126 ≠ gb123)); replace BK123 := q0 (kb BK123.out hb); clear hb hbox hg; have hnb20 := NB126_120.out; have hnc20 := NB120_126.out; have hnb21 := NB126_123.out; have hnc21 := NB123_126.out; have hcz22_0 : w19.cell? ⟨gb126, 0, none⟩ = some (.int .i64 0) := (blk_cell BK126.out 0).trans rfl; have hcz22_1 : w19.cell? ⟨gb126, 1, none⟩ = some (.slice none 0 0) := (blk_cell BK126.out 1).trans rfl; have hfz22_0 := blk_frozen BK126.out 0; have hfz22_1 := blk_frozen BK126.out 1; obtain ⟨Ao23, co23, eo23⟩ := Kd.R_slice HO125.out; subst eo23; have hcz24_0 : w19.cell? ⟨gb120, 0, none⟩ = some (.int .i64 t107) := (blk_cell BK120.out 0).trans rfl; have hcz24_1 : w19.cell? ⟨gb120, 1, none⟩ = some (.slice Ao11 t109.length co11) := (blk_cell BK120.out 1).trans rfl; have hfz24_0 := blk_frozen BK120.out 0; have hfz24_1 := blk_frozen BK120.out 1) | ((with_reducible refine gate_callee (f := 40) rfl ?_); refine gl 43 Try.func40 #[.agg #[.int .i64 t107, .slice Ao11 t109.length co11], .int .i64 t110, .int .i64 t111] ?_; (with_reducible refine (spec_NetCut.calls k t107 _ _ t109 t110 t111 t102 t116 t117 _ ?side1 ?side2 A6.out).mono ?_); (case side1 => refine (Kd.R_reads' (e := 32) (base := w.heap.size) (ok := fun k_ => ((True ∧ some k_ ≠ (.slice Ao16 t112.length co16 : Value).ownBlock) ∧ some k_ ≠ (.slice Ao23 t114.length co23 : Value).ownBlock)) (n := t109.length) (c := co11) ?_).2.2; exact (by (with_reducible repeat (first | apply Kd.R_alloc | apply Kd.R_drewN | apply Kd.R_drew)); exact (rf2 HO119.out BK126.out (fun _ h_ => h_.1)))); (case side2 => exact (Kd.R_reads' HO119.out).2.1); rintro e w25 ⟨v127, rfl, ho0, hb⟩; refine ⟨_, rfl, ?_⟩; have HO128 := q0 (Kd.R_lower (Kd.R_new' (Kd.R_new' (Kd.R_new' ho0 (Kd.R_lt (by (with_reducible repeat (first | apply Kd.R_alloc | apply Kd.R_drewN | apply Kd.R_drew)); exact (rf2 HO119.out BK126.out (fun _ h_ => h_.1))))) (Kd.R_lt (by (with_reducible repeat (first | apply Kd.R_alloc | apply Kd.R_drewN | apply Kd.R_drew)); exact (rf2 HO122.out BK126.out (fun _ h_ => h_.1))))) (Kd.R_lt (by (with_reducible repeat (first | apply Kd.R_alloc | apply Kd.R_drewN | apply Kd.R_drew)); exact (rf2 HO125.out BK126.out (fun _ h_ => h_.1))))) (below_size (qb HB.out))); replace HO119 := q0 (Kd.R_elder' (by (with_reducible repeat (first | apply Kd.R_alloc | apply Kd.R_drewN | apply Kd.R_drew)); exact (rf2 HO119.out BK126.out (fun _ h_ => h_.1))) (Kd.R_base ho0) hb); replace HO122 := q0 (Kd.R_elder' (by (with_reducible repeat (first | apply Kd.R_alloc | apply Kd.R_drewN | apply Kd.R_drew)); exact (rf2 HO122.out BK126.out (fun _ h_ => h_.1))) (Kd.R_base ho0) hb); replace HO125 := q0 (Kd.R_elder' (by (with_reducible repeat (first | apply Kd.R_alloc | apply Kd.R_drewN | apply Kd.R_drew)); exact (rf2 HO125.out BK126.out (fun _ h_ => h_.1))) (Kd.R_base ho0) hb); replace BK120 := q0 (kf BK120.out hb); replace BK123 := q0 (kf BK123.out hb); replace BK126 := q0 (blk_below (g := gb126) (o := .cells #[.int .i64 t101, .slice Ao23 t114.length co23] 25 (0, 0)) (by (with_reducible repeat (first | refine blk_drewN ?_ _ | refine blk_drew ?_ | refine blk_alloc ?_ _)); refine blk_put (cs := #[.int .i64 t101, .slice none 0 0]) ?_ 1 _ rfl; (with_reducible repeat (first | refine blk_drewN ?_ _ | refine blk_drew ?_ | refine blk_alloc ?_ _)); refine blk_put (cs := #[.int .i64 0, .slice none 0 0]) ?_ 0 _ rfl; (with_reducible repeat (first | refine blk_drewN ?_ _ | refine blk_drew ?_ | refine blk_alloc ?_ _)); exact BK126.out) hb); replace HB := q0 (below_step (qb HB.out) hb); (try clear hb); (try clear hb2); (try clear hk); (try clear hi); (try clear ho0)) | ((with_reducible refine gate_dst (N := 10) rfl ?_); refine be 10 #[.int .i64 0, .slice none 0 0] 25 ?_; intro gb129 hg w26 hbox hb; replace HO119 := q0 (Kd.R_below (qr HO119.out) hb); replace HO122 := q0 (Kd.R_below (qr HO122.out) hb); replace HO125 := q0 (Kd.R_below (qr HO125.out) hb); replace HO128 := q0 (Kd.R_below (qr HO128.out) hb); have BK129 := q0 (hbox); have GW129 := q0 ((bs HB.out hg : w.heap.size ≤ gb129)); have GE129 := q0 ((bs HB.out hg : w.heap.size ≤ gb129)); replace HB := q0 (below_step (qb HB.out) hb); have NB120_129 := q0 ((bl BK120.out hg : gb120 ≠ gb129)); have NB129_120 := q0 ((bg BK120.out hg : gb129 ≠ gb120)); replace BK120 := q0 (kb BK120.out hb); have NB123_129 := q0 ((bl BK123.out hg : gb123 ≠ gb129)); have NB129_123 := q0 ((bg BK123.out hg : gb129 ≠ gb123)); replace BK123 := q0 (kb BK123.out hb); have NB126_129 := q0 ((bl BK126.out hg : gb126 ≠ gb129)); have NB129_126 := q0 ((bg BK126.out hg : gb129 ≠ gb126)); replace BK126 := q0 (kb BK126.out hb); clear hb hbox hg; have hnb27 := NB129_120.out; have hnc27 := NB120_129.out; have hnb28 := NB129_123.out; have hnc28 := NB123_129.out; have hnb29 := NB129_126.out; have hnc29 := NB126_129.out; have hcz30_0 : w26.cell? ⟨gb129, 0, none⟩ = some (.int .i64 0) := (blk_cell BK129.out 0).trans rfl; have hcz30_1 : w26.cell? ⟨gb129, 1, none⟩ = some (.slice none 0 0) := (blk_cell BK129.out 1).trans rfl; have hfz30_0 := blk_frozen BK129.out 0; have hfz30_1 := blk_frozen BK129.out 1; obtain ⟨Ao31, co31, eo31⟩ := Kd.R_slice HO128.out; subst eo31))
 (try simp only [Act.put, List.setIfInBounds_toArray, List.set_cons_zero, List.set_cons_succ])
 go_cut [60] (fun v60 wc => ∃ (kq : Nat) (x60_6 : Bool), v60 = .bool x60_6 ∧ Aside0 (laws_FnNetUndo.j0 kq t110 t111 t113 t115 x60_6 t107 t109 t100 t112 t101 t114 = some r) ∧ Aside0 (kq ≤ k) ∧ Aside0 (Kd.R kTie 32 wc w.heap.size (fun k_ => some k_ ≠ ((.slice Ao16 t112.length co16) : Value).ownBlock ∧ some k_ ≠ ((.slice Ao23 t114.length co23) : Value).ownBlock ∧ some k_ ≠ ((.slice Ao31 t116.length co31) : Value).ownBlock) (.slice Ao11 t109.length co11) t109) ∧ Aside0 (Kd.R kTie 32 wc w.heap.size (fun k_ => some k_ ≠ ((.slice Ao11 t109.length co11) : Value).ownBlock ∧ some k_ ≠ ((.slice Ao23 t114.length co23) : Value).ownBlock ∧ some k_ ≠ ((.slice Ao31 t116.length co31) : Value).ownBlock) (.slice Ao16 t112.length co16) t112) ∧ Aside0 (Kd.R kTie 32 wc w.heap.size (fun k_ => some k_ ≠ ((.slice Ao11 t109.length co11) : Value).ownBlock ∧ some k_ ≠ ((.slice Ao16 t112.length co16) : Value).ownBlock ∧ some k_ ≠ ((.slice Ao31 t116.length co31) : Value).ownBlock) (.slice Ao23 t114.length co23) t114) ∧ Aside0 (Kd.R kTie 32 wc w.heap.size (fun k_ => some k_ ≠ ((.slice Ao11 t109.length co11) : Value).ownBlock ∧ some k_ ≠ ((.slice Ao16 t112.length co16) : Value).ownBlock ∧ some k_ ≠ ((.slice Ao23 t114.length co23) : Value).ownBlock) (.slice Ao31 t116.length co31) t116) ∧ Aside0 (wc.heap[gb120]? = some (.cells #[.int .i64 t107, (.slice Ao11 t109.length co11)] 25 (0, 0))) ∧ Aside0 (wc.heap[gb123]? = some (.cells #[.int .i64 t100, (.slice Ao16 t112.length co16)] 25 (0, 0))) ∧ Aside0 (wc.heap[gb126]? = some (.cells #[.int .i64 t101, (.slice Ao23 t114.length co23)] 25 (0, 0))) ∧ Aside0 (wc.heap[gb129]? = some (.cells #[.int .i64 t102, (.slice Ao31 t116.length co31)] 25 (0, 0))) ∧ Aside0 (Below w.heap.size w wc))
 case first =>
   have H := HC7.out
   clear HC7
   by_cases c32 : (t113 != t117) = true
   · rw [if_pos c32] at H
     have c32b0 : (t113 != t117) = true := c32
     (try (have c32b1 : decide (t113 = t117) = false := by simpa using c32))
     (try (have c32b2 : (t113 == t117) = false := by simpa using c32))
     (try (have c32b3 : ¬ (t113 = t117) := by simpa using c32))
     clear c32
     (first | rw [c32b0] | (simp only [i64_w, i32_w]; rw [c32b0]) | skip)
     have H' := Aside0.mk H
     clear H
     go_wp2
     go_meet
     case rel => exact ⟨_, (true), qs, H', ⟨by first | omega | exact Nat.le_refl _⟩, ⟨by (with_reducible repeat (first | apply Kd.R_alloc | apply Kd.R_drewN | apply Kd.R_drew)); exact rf2 HO119.out BK129.out (fun _ hk => ⟨hk.1.1.1.2, ⟨hk.1.1.2, hk.1.2⟩⟩)⟩, ⟨by (with_reducible repeat (first | apply Kd.R_alloc | apply Kd.R_drewN | apply Kd.R_drew)); exact rf2 HO122.out BK129.out (fun _ hk => ⟨hk.1.1.1.2, ⟨hk.1.1.2, hk.1.2⟩⟩)⟩, ⟨by (with_reducible repeat (first | apply Kd.R_alloc | apply Kd.R_drewN | apply Kd.R_drew)); exact rf2 HO125.out BK129.out (fun _ hk => ⟨hk.1.1.1.2, ⟨hk.1.1.2, hk.1.2⟩⟩)⟩, ⟨by (with_reducible repeat (first | apply Kd.R_alloc | apply Kd.R_drewN | apply Kd.R_drew)); exact rf2 HO128.out BK129.out (fun _ hk => ⟨hk.1.1.1.2, ⟨hk.1.1.2, hk.1.2⟩⟩)⟩, ⟨qf BK120.out⟩, ⟨qf BK123.out⟩, ⟨qf BK126.out⟩, ⟨by (with_reducible repeat (first | refine blk_drewN ?_ _ | refine blk_drew ?_ | refine blk_alloc ?_ _)); refine blk_put (cs := #[.int .i64 t102, .slice none 0 0]) ?_ 1 _ rfl; (with_reducible repeat (first | refine blk_drewN ?_ _ | refine blk_drew ?_ | refine blk_alloc ?_ _)); refine blk_put (cs := #[.int .i64 0, .slice none 0 0]) ?_ 0 _ rfl; (with_reducible repeat (first | refine blk_drewN ?_ _ | refine blk_drew ?_ | refine blk_alloc ?_ _)); exact BK129.out⟩, ⟨qb HB.out⟩⟩
   rw [if_neg c32] at H
   have c32b0 : (t113 != t117) = false := by simpa using c32
   (try (have c32b1 : decide (t113 = t117) = true := by simpa using c32))
   (try (have c32b2 : (t113 == t117) = true := by simpa using c32))
   clear c32
   (first | rw [c32b0] | (simp only [i64_w, i32_w]; rw [c32b0]) | skip)
   replace H := Option.bind_eq_some_iff.mp H
   obtain ⟨t108, A130, H⟩ := H
   have A33 := Aside0.mk A130
   clear A130
   by_cases c34 : t108 = true
   rotate_left
   · replace c34 := Bool.eq_false_iff.mpr c34
     subst c34
     rw [if_neg nf] at H
     have H' := Aside0.mk H
     clear H
     have hnb52 := NB123_120.out
     have hnc52 := NB120_123.out
     have hnb53 := NB123_126.out
     have hnc53 := NB126_123.out
     have hnb54 := NB123_129.out
     have hnc54 := NB129_123.out
     have hcz55_0 : w26.cell? ⟨gb123, 0, none⟩ = some (.int .i64 t100) := (blk_cell BK123.out 0).trans rfl
     have hcz55_1 : w26.cell? ⟨gb123, 1, none⟩ = some (.slice Ao16 t112.length co16) := (blk_cell BK123.out 1).trans rfl
     have hfz55_0 := blk_frozen BK123.out 0
     have hfz55_1 := blk_frozen BK123.out 1
     have hnb56 := NB129_120.out
     have hnc56 := NB120_129.out
     have hnb57 := NB129_126.out
     have hnc57 := NB126_129.out
     have hcz58_0 : w26.cell? ⟨gb129, 0, none⟩ = some (.int .i64 0) := (blk_cell BK129.out 0).trans rfl
     have hcz58_1 : w26.cell? ⟨gb129, 1, none⟩ = some (.slice none 0 0) := (blk_cell BK129.out 1).trans rfl
     have hfz58_0 := blk_frozen BK129.out 0
     have hfz58_1 := blk_frozen BK129.out 1
     go_wp2_with (first | (go_at_call 34; (with_reducible refine (laws_loNet.calls k t100 _ _ t112 t102 _ _ t116 false _ ?side1 ?side2 ?side3 ?side4 A33.out).mono ?_); (case side1 => refine (Kd.R_reads' (e := 32) (base := w.heap.size) (ok := fun k_ => (((True ∧ some k_ ≠ (.slice Ao11 t109.length co11 : Value).ownBlock) ∧ some k_ ≠ (.slice Ao23 t114.length co23 : Value).ownBlock) ∧ some k_ ≠ (.slice Ao31 t116.length co31 : Value).ownBlock)) (n := t112.length) (c := co16) ?_).2.2; exact (by (with_reducible repeat (first | apply Kd.R_alloc | apply Kd.R_drewN | apply Kd.R_drew)); exact (rf2 HO122.out BK129.out (fun _ h_ => h_.1)))); (case side2 => exact (Kd.R_reads' HO122.out).2.1); (case side3 => refine (Kd.R_reads' (e := 32) (base := w.heap.size) (ok := fun k_ => (((True ∧ some k_ ≠ (.slice Ao11 t109.length co11 : Value).ownBlock) ∧ some k_ ≠ (.slice Ao16 t112.length co16 : Value).ownBlock) ∧ some k_ ≠ (.slice Ao23 t114.length co23 : Value).ownBlock)) (n := t116.length) (c := co31) ?_).2.2; exact (by (with_reducible repeat (first | apply Kd.R_alloc | apply Kd.R_drewN | apply Kd.R_drew)); exact (rf2 HO128.out BK129.out (fun _ h_ => h_.1)))); (case side4 => exact (Kd.R_reads' HO128.out).2.1); rintro e w59 ⟨rfl, hb⟩; replace HO119 := q0 (Kd.R_below (by (with_reducible repeat (first | apply Kd.R_alloc | apply Kd.R_drewN | apply Kd.R_drew)); exact (rf2 HO119.out BK129.out (fun _ h_ => h_.1))) hb); replace HO122 := q0 (Kd.R_below (by (with_reducible repeat (first | apply Kd.R_alloc | apply Kd.R_drewN | apply Kd.R_drew)); exact (rf2 HO122.out BK129.out (fun _ h_ => h_.1))) hb); replace HO125 := q0 (Kd.R_below (by (with_reducible repeat (first | apply Kd.R_alloc | apply Kd.R_drewN | apply Kd.R_drew)); exact (rf2 HO125.out BK129.out (fun _ h_ => h_.1))) hb); replace HO128 := q0 (Kd.R_below (by (with_reducible repeat (first | apply Kd.R_alloc | apply Kd.R_drewN | apply Kd.R_drew)); exact (rf2 HO128.out BK129.out (fun _ h_ => h_.1))) hb); replace BK120 := q0 (kf BK120.out hb); replace BK123 := q0 (kf BK123.out hb); replace BK126 := q0 (kf BK126.out hb); replace BK129 := q0 (blk_below (g := gb129) (o := .cells #[.int .i64 t102, .slice Ao31 t116.length co31] 25 (0, 0)) (by (with_reducible repeat (first | refine blk_drewN ?_ _ | refine blk_drew ?_ | refine blk_alloc ?_ _)); refine blk_put (cs := #[.int .i64 t102, .slice none 0 0]) ?_ 1 _ rfl; (with_reducible repeat (first | refine blk_drewN ?_ _ | refine blk_drew ?_ | refine blk_alloc ?_ _)); refine blk_put (cs := #[.int .i64 0, .slice none 0 0]) ?_ 0 _ rfl; (with_reducible repeat (first | refine blk_drewN ?_ _ | refine blk_drew ?_ | refine blk_alloc ?_ _)); exact BK129.out) hb); replace HB := q0 (below_step (qb HB.out) hb); (try clear hb); (try clear hb2); (try clear hk); (try clear hi)))
     go_meet
     case rel => exact ⟨_, (true), qs, H', ⟨by first | omega | exact Nat.le_refl _⟩, ⟨by (with_reducible repeat (first | apply Kd.R_alloc | apply Kd.R_drewN | apply Kd.R_drew)); exact Kd.R_mono HO119.out (fun _ hk => ⟨hk.1.1.2, ⟨hk.1.2, hk.2⟩⟩)⟩, ⟨by (with_reducible repeat (first | apply Kd.R_alloc | apply Kd.R_drewN | apply Kd.R_drew)); exact Kd.R_mono HO122.out (fun _ hk => ⟨hk.1.1.2, ⟨hk.1.2, hk.2⟩⟩)⟩, ⟨by (with_reducible repeat (first | apply Kd.R_alloc | apply Kd.R_drewN | apply Kd.R_drew)); exact Kd.R_mono HO125.out (fun _ hk => ⟨hk.1.1.2, ⟨hk.1.2, hk.2⟩⟩)⟩, ⟨by (with_reducible repeat (first | apply Kd.R_alloc | apply Kd.R_drewN | apply Kd.R_drew)); exact Kd.R_mono HO128.out (fun _ hk => ⟨hk.1.1.2, ⟨hk.1.2, hk.2⟩⟩)⟩, ⟨qk BK120.out⟩, ⟨qk BK123.out⟩, ⟨qk BK126.out⟩, ⟨qk BK129.out⟩, ⟨qb HB.out⟩⟩
   subst c34
   rw [if_pos rfl] at H
   by_cases c35 : t113 = true
   · subst c35
     rw [if_pos rfl] at H
     have H' := Aside0.mk H
     clear H
     have hnb36 := NB123_120.out
     have hnc36 := NB120_123.out
     have hnb37 := NB123_126.out
     have hnc37 := NB126_123.out
     have hnb38 := NB123_129.out
     have hnc38 := NB129_123.out
     have hcz39_0 : w26.cell? ⟨gb123, 0, none⟩ = some (.int .i64 t100) := (blk_cell BK123.out 0).trans rfl
     have hcz39_1 : w26.cell? ⟨gb123, 1, none⟩ = some (.slice Ao16 t112.length co16) := (blk_cell BK123.out 1).trans rfl
     have hfz39_0 := blk_frozen BK123.out 0
     have hfz39_1 := blk_frozen BK123.out 1
     have hnb40 := NB129_120.out
     have hnc40 := NB120_129.out
     have hnb41 := NB129_126.out
     have hnc41 := NB126_129.out
     have hcz42_0 : w26.cell? ⟨gb129, 0, none⟩ = some (.int .i64 0) := (blk_cell BK129.out 0).trans rfl
     have hcz42_1 : w26.cell? ⟨gb129, 1, none⟩ = some (.slice none 0 0) := (blk_cell BK129.out 1).trans rfl
     have hfz42_0 := blk_frozen BK129.out 0
     have hfz42_1 := blk_frozen BK129.out 1
     go_wp2_with (first | (go_at_call 34; (with_reducible refine (laws_loNet.calls k t100 _ _ t112 t102 _ _ t116 true _ ?side1 ?side2 ?side3 ?side4 A33.out).mono ?_); (case side1 => refine (Kd.R_reads' (e := 32) (base := w.heap.size) (ok := fun k_ => (((True ∧ some k_ ≠ (.slice Ao11 t109.length co11 : Value).ownBlock) ∧ some k_ ≠ (.slice Ao23 t114.length co23 : Value).ownBlock) ∧ some k_ ≠ (.slice Ao31 t116.length co31 : Value).ownBlock)) (n := t112.length) (c := co16) ?_).2.2; exact (by (with_reducible repeat (first | apply Kd.R_alloc | apply Kd.R_drewN | apply Kd.R_drew)); exact (rf2 HO122.out BK129.out (fun _ h_ => h_.1)))); (case side2 => exact (Kd.R_reads' HO122.out).2.1); (case side3 => refine (Kd.R_reads' (e := 32) (base := w.heap.size) (ok := fun k_ => (((True ∧ some k_ ≠ (.slice Ao11 t109.length co11 : Value).ownBlock) ∧ some k_ ≠ (.slice Ao16 t112.length co16 : Value).ownBlock) ∧ some k_ ≠ (.slice Ao23 t114.length co23 : Value).ownBlock)) (n := t116.length) (c := co31) ?_).2.2; exact (by (with_reducible repeat (first | apply Kd.R_alloc | apply Kd.R_drewN | apply Kd.R_drew)); exact (rf2 HO128.out BK129.out (fun _ h_ => h_.1)))); (case side4 => exact (Kd.R_reads' HO128.out).2.1); rintro e w43 ⟨rfl, hb⟩; replace HO119 := q0 (Kd.R_below (by (with_reducible repeat (first | apply Kd.R_alloc | apply Kd.R_drewN | apply Kd.R_drew)); exact (rf2 HO119.out BK129.out (fun _ h_ => h_.1))) hb); replace HO122 := q0 (Kd.R_below (by (with_reducible repeat (first | apply Kd.R_alloc | apply Kd.R_drewN | apply Kd.R_drew)); exact (rf2 HO122.out BK129.out (fun _ h_ => h_.1))) hb); replace HO125 := q0 (Kd.R_below (by (with_reducible repeat (first | apply Kd.R_alloc | apply Kd.R_drewN | apply Kd.R_drew)); exact (rf2 HO125.out BK129.out (fun _ h_ => h_.1))) hb); replace HO128 := q0 (Kd.R_below (by (with_reducible repeat (first | apply Kd.R_alloc | apply Kd.R_drewN | apply Kd.R_drew)); exact (rf2 HO128.out BK129.out (fun _ h_ => h_.1))) hb); replace BK120 := q0 (kf BK120.out hb); replace BK123 := q0 (kf BK123.out hb); replace BK126 := q0 (kf BK126.out hb); replace BK129 := q0 (blk_below (g := gb129) (o := .cells #[.int .i64 t102, .slice Ao31 t116.length co31] 25 (0, 0)) (by (with_reducible repeat (first | refine blk_drewN ?_ _ | refine blk_drew ?_ | refine blk_alloc ?_ _)); refine blk_put (cs := #[.int .i64 t102, .slice none 0 0]) ?_ 1 _ rfl; (with_reducible repeat (first | refine blk_drewN ?_ _ | refine blk_drew ?_ | refine blk_alloc ?_ _)); refine blk_put (cs := #[.int .i64 0, .slice none 0 0]) ?_ 0 _ rfl; (with_reducible repeat (first | refine blk_drewN ?_ _ | refine blk_drew ?_ | refine blk_alloc ?_ _)); exact BK129.out) hb); replace HB := q0 (below_step (qb HB.out) hb); (try clear hb); (try clear hb2); (try clear hk); (try clear hi)))
     go_meet
     case rel => exact ⟨_, (t115), qs, H', ⟨by first | omega | exact Nat.le_refl _⟩, ⟨by (with_reducible repeat (first | apply Kd.R_alloc | apply Kd.R_drewN | apply Kd.R_drew)); exact Kd.R_mono HO119.out (fun _ hk => ⟨hk.1.1.2, ⟨hk.1.2, hk.2⟩⟩)⟩, ⟨by (with_reducible repeat (first | apply Kd.R_alloc | apply Kd.R_drewN | apply Kd.R_drew)); exact Kd.R_mono HO122.out (fun _ hk => ⟨hk.1.1.2, ⟨hk.1.2, hk.2⟩⟩)⟩, ⟨by (with_reducible repeat (first | apply Kd.R_alloc | apply Kd.R_drewN | apply Kd.R_drew)); exact Kd.R_mono HO125.out (fun _ hk => ⟨hk.1.1.2, ⟨hk.1.2, hk.2⟩⟩)⟩, ⟨by (with_reducible repeat (first | apply Kd.R_alloc | apply Kd.R_drewN | apply Kd.R_drew)); exact Kd.R_mono HO128.out (fun _ hk => ⟨hk.1.1.2, ⟨hk.1.2, hk.2⟩⟩)⟩, ⟨qk BK120.out⟩, ⟨qk BK123.out⟩, ⟨qk BK126.out⟩, ⟨qk BK129.out⟩, ⟨qb HB.out⟩⟩
   replace c35 := Bool.eq_false_iff.mpr c35
   subst c35
   rw [if_neg nf] at H
   have H' := Aside0.mk H
   clear H
   have hnb44 := NB123_120.out
   have hnc44 := NB120_123.out
   have hnb45 := NB123_126.out
   have hnc45 := NB126_123.out
   have hnb46 := NB123_129.out
   have hnc46 := NB129_123.out
   have hcz47_0 : w26.cell? ⟨gb123, 0, none⟩ = some (.int .i64 t100) := (blk_cell BK123.out 0).trans rfl
   have hcz47_1 : w26.cell? ⟨gb123, 1, none⟩ = some (.slice Ao16 t112.length co16) := (blk_cell BK123.out 1).trans rfl
   have hfz47_0 := blk_frozen BK123.out 0
   have hfz47_1 := blk_frozen BK123.out 1
   have hnb48 := NB129_120.out
   have hnc48 := NB120_129.out
   have hnb49 := NB129_126.out
   have hnc49 := NB126_129.out
   have hcz50_0 : w26.cell? ⟨gb129, 0, none⟩ = some (.int .i64 0) := (blk_cell BK129.out 0).trans rfl
   have hcz50_1 : w26.cell? ⟨gb129, 1, none⟩ = some (.slice none 0 0) := (blk_cell BK129.out 1).trans rfl
   have hfz50_0 := blk_frozen BK129.out 0
   have hfz50_1 := blk_frozen BK129.out 1
   go_wp2_with (first | (go_at_call 34; (with_reducible refine (laws_loNet.calls k t100 _ _ t112 t102 _ _ t116 true _ ?side1 ?side2 ?side3 ?side4 A33.out).mono ?_); (case side1 => refine (Kd.R_reads' (e := 32) (base := w.heap.size) (ok := fun k_ => (((True ∧ some k_ ≠ (.slice Ao11 t109.length co11 : Value).ownBlock) ∧ some k_ ≠ (.slice Ao23 t114.length co23 : Value).ownBlock) ∧ some k_ ≠ (.slice Ao31 t116.length co31 : Value).ownBlock)) (n := t112.length) (c := co16) ?_).2.2; exact (by (with_reducible repeat (first | apply Kd.R_alloc | apply Kd.R_drewN | apply Kd.R_drew)); exact (rf2 HO122.out BK129.out (fun _ h_ => h_.1)))); (case side2 => exact (Kd.R_reads' HO122.out).2.1); (case side3 => refine (Kd.R_reads' (e := 32) (base := w.heap.size) (ok := fun k_ => (((True ∧ some k_ ≠ (.slice Ao11 t109.length co11 : Value).ownBlock) ∧ some k_ ≠ (.slice Ao16 t112.length co16 : Value).ownBlock) ∧ some k_ ≠ (.slice Ao23 t114.length co23 : Value).ownBlock)) (n := t116.length) (c := co31) ?_).2.2; exact (by (with_reducible repeat (first | apply Kd.R_alloc | apply Kd.R_drewN | apply Kd.R_drew)); exact (rf2 HO128.out BK129.out (fun _ h_ => h_.1)))); (case side4 => exact (Kd.R_reads' HO128.out).2.1); rintro e w51 ⟨rfl, hb⟩; replace HO119 := q0 (Kd.R_below (by (with_reducible repeat (first | apply Kd.R_alloc | apply Kd.R_drewN | apply Kd.R_drew)); exact (rf2 HO119.out BK129.out (fun _ h_ => h_.1))) hb); replace HO122 := q0 (Kd.R_below (by (with_reducible repeat (first | apply Kd.R_alloc | apply Kd.R_drewN | apply Kd.R_drew)); exact (rf2 HO122.out BK129.out (fun _ h_ => h_.1))) hb); replace HO125 := q0 (Kd.R_below (by (with_reducible repeat (first | apply Kd.R_alloc | apply Kd.R_drewN | apply Kd.R_drew)); exact (rf2 HO125.out BK129.out (fun _ h_ => h_.1))) hb); replace HO128 := q0 (Kd.R_below (by (with_reducible repeat (first | apply Kd.R_alloc | apply Kd.R_drewN | apply Kd.R_drew)); exact (rf2 HO128.out BK129.out (fun _ h_ => h_.1))) hb); replace BK120 := q0 (kf BK120.out hb); replace BK123 := q0 (kf BK123.out hb); replace BK126 := q0 (kf BK126.out hb); replace BK129 := q0 (blk_below (g := gb129) (o := .cells #[.int .i64 t102, .slice Ao31 t116.length co31] 25 (0, 0)) (by (with_reducible repeat (first | refine blk_drewN ?_ _ | refine blk_drew ?_ | refine blk_alloc ?_ _)); refine blk_put (cs := #[.int .i64 t102, .slice none 0 0]) ?_ 1 _ rfl; (with_reducible repeat (first | refine blk_drewN ?_ _ | refine blk_drew ?_ | refine blk_alloc ?_ _)); refine blk_put (cs := #[.int .i64 0, .slice none 0 0]) ?_ 0 _ rfl; (with_reducible repeat (first | refine blk_drewN ?_ _ | refine blk_drew ?_ | refine blk_alloc ?_ _)); exact BK129.out) hb); replace HB := q0 (below_step (qb HB.out) hb); (try clear hb); (try clear hb2); (try clear hk); (try clear hi)))
   go_meet
   case rel => exact ⟨_, (false), qs, H', ⟨by first | omega | exact Nat.le_refl _⟩, ⟨by (with_reducible repeat (first | apply Kd.R_alloc | apply Kd.R_drewN | apply Kd.R_drew)); exact Kd.R_mono HO119.out (fun _ hk => ⟨hk.1.1.2, ⟨hk.1.2, hk.2⟩⟩)⟩, ⟨by (with_reducible repeat (first | apply Kd.R_alloc | apply Kd.R_drewN | apply Kd.R_drew)); exact Kd.R_mono HO122.out (fun _ hk => ⟨hk.1.1.2, ⟨hk.1.2, hk.2⟩⟩)⟩, ⟨by (with_reducible repeat (first | apply Kd.R_alloc | apply Kd.R_drewN | apply Kd.R_drew)); exact Kd.R_mono HO125.out (fun _ hk => ⟨hk.1.1.2, ⟨hk.1.2, hk.2⟩⟩)⟩, ⟨by (with_reducible repeat (first | apply Kd.R_alloc | apply Kd.R_drewN | apply Kd.R_drew)); exact Kd.R_mono HO128.out (fun _ hk => ⟨hk.1.1.2, ⟨hk.1.2, hk.2⟩⟩)⟩, ⟨qk BK120.out⟩, ⟨qk BK123.out⟩, ⟨qk BK126.out⟩, ⟨qk BK129.out⟩, ⟨qb HB.out⟩⟩
 clear HC7
 try clear c1
 try clear c2
 try clear c2b0
 try clear c2b1
 try clear p2
 try clear c3
 try clear c4
 try clear c5
 try clear c9
 try clear c14
 try clear c18
 try clear c20
 try clear c21
 try clear c27
 try clear c28
 try clear c29
 try clear c32
 try clear c32b0
 try clear c32b1
 try clear c32b2
 try clear c34
 try clear c35
 try clear c36
 try clear c37
 try clear c38
 try clear c39
 try clear c40
 try clear c41
 try clear c44
 try clear c45
 try clear c46
 try clear c48
 try clear c49
 try clear c52
 try clear c53
 try clear c54
 try clear c56
 try clear c57
 try clear hcz10_0
 try clear hcz10_1
 try clear hcz15_0
 try clear hcz15_1
 try clear hcz17_0
 try clear hcz17_1
 try clear hcz22_0
 try clear hcz22_1
 try clear hcz24_0
 try clear hcz24_1
 try clear hcz30_0
 try clear hcz30_1
 try clear hcz39_0
 try clear hcz39_1
 try clear hcz42_0
 try clear hcz42_1
 try clear hcz47_0
 try clear hcz47_1
 try clear hcz50_0
 try clear hcz50_1
 try clear hcz55_0
 try clear hcz55_1
 try clear hcz58_0
 try clear hcz58_1
 try clear hfz10_0
 try clear hfz10_1
 try clear hfz15_0
 try clear hfz15_1
 try clear hfz17_0
 try clear hfz17_1
 try clear hfz22_0
 try clear hfz22_1
 try clear hfz24_0
 try clear hfz24_1
 try clear hfz30_0
 try clear hfz30_1
 try clear hfz39_0
 try clear hfz39_1
 try clear hfz42_0
 try clear hfz42_1
 try clear hfz47_0
 try clear hfz47_1
 try clear hfz50_0
 try clear hfz50_1
 try clear hfz55_0
 try clear hfz55_1
 try clear hfz58_0
 try clear hfz58_1
 obtain ⟨kq, x60_6, rfl, HA, HJ6, HO_100001, HO_101001, HO_102001, HO_108001, BK120, BK123, BK126, BK129, HB⟩ := hcut
 rcases kq with _ | kj6
 · exact absurd HA.out (by simp [laws_FnNetUndo.j0])
 have H := HA.out
 clear HA
 simp only [laws_FnNetUndo.j0] at H
 by_cases c60 : x60_6 = true
 · subst c60
   rw [if_pos rfl] at H
   obtain rfl := Option.some.inj H
   go_wp2
   go_ret
   exact ⟨qe, qb HB.out⟩
 replace c60 := Bool.eq_false_iff.mpr c60
 subst c60
 rw [if_neg nf] at H
 by_cases c61 : t113 = true
 · subst c61
   rw [if_pos rfl] at H
   replace H := Option.bind_eq_some_iff.mp H
   obtain ⟨⟨t103, t131, t132⟩, A133, H⟩ := H
   have A62 := Aside0.mk A133
   clear A133
   by_cases c63 : t132 = true
   rotate_left
   · replace c63 := Bool.eq_false_iff.mpr c63
     subst c63
     rw [if_neg nf] at H
     obtain rfl := Option.some.inj H
     have hnb81 := NB123_120.out
     have hnc81 := NB120_123.out
     have hnb82 := NB123_126.out
     have hnc82 := NB126_123.out
     have hnb83 := NB123_129.out
     have hnc83 := NB129_123.out
     have hcz84_0 : wc.cell? ⟨gb123, 0, none⟩ = some (.int .i64 t100) := (blk_cell BK123.out 0).trans rfl
     have hcz84_1 : wc.cell? ⟨gb123, 1, none⟩ = some (.slice Ao16 t112.length co16) := (blk_cell BK123.out 1).trans rfl
     have hfz84_0 := blk_frozen BK123.out 0
     have hfz84_1 := blk_frozen BK123.out 1
     go_wp2_with (first | ((with_reducible refine gate_callee (f := 29) rfl ?_); refine gl 66 Try.func29 #[.agg #[.int .i64 t100, .slice Ao16 t112.length co16], .int .i64 t111, .int .i64 t110] ?_; (with_reducible refine (impl_NetAdd.calls kj6 t100 _ _ t112 t111 t110 t103 t131 false _ ?side1 ?side2 A62.out).mono ?_); (case side1 => exact qc (Kd.R_reads' HO_101001.out).2.2); (case side2 => exact (Kd.R_reads' HO_101001.out).2.1); rintro e w85 ⟨v135, rfl, ho0, hb⟩; refine ⟨_, rfl, ?_⟩; have HO136 := q0 (Kd.R_lower (Kd.R_new' (Kd.R_new' (Kd.R_new' (Kd.R_new' ho0 (Kd.R_lt (qr HO_100001.out))) (Kd.R_lt (qr HO_101001.out))) (Kd.R_lt (qr HO_102001.out))) (Kd.R_lt (qr HO_108001.out))) (below_size (qb HB.out))); replace HO_100001 := q0 (Kd.R_elder' (qr HO_100001.out) (Kd.R_base ho0) hb); replace HO_101001 := q0 (Kd.R_elder' (qr HO_101001.out) (Kd.R_base ho0) hb); replace HO_102001 := q0 (Kd.R_elder' (qr HO_102001.out) (Kd.R_base ho0) hb); replace HO_108001 := q0 (Kd.R_elder' (qr HO_108001.out) (Kd.R_base ho0) hb); replace BK120 := q0 (kb BK120.out hb); replace BK123 := q0 (kb BK123.out hb); replace BK126 := q0 (kb BK126.out hb); replace BK129 := q0 (kb BK129.out hb); replace HB := q0 (below_step (qb HB.out) hb); (try clear hb); (try clear hb2); (try clear hk); (try clear hi); (try clear ho0)) | ((with_reducible refine gate_dst (N := 12) rfl ?_); refine be 12 #[.int .i64 0, .slice none 0 0] 25 ?_; intro gb137 hg w86 hbox hb; replace HO_100001 := q0 (Kd.R_below (qr HO_100001.out) hb); replace HO_101001 := q0 (Kd.R_below (qr HO_101001.out) hb); replace HO_102001 := q0 (Kd.R_below (qr HO_102001.out) hb); replace HO_108001 := q0 (Kd.R_below (qr HO_108001.out) hb); replace HO136 := q0 (Kd.R_below (qr HO136.out) hb); have BK137 := q0 (hbox); have GW137 := q0 ((bs HB.out hg : w.heap.size ≤ gb137)); have GE137 := q0 ((bs HB.out hg : w.heap.size ≤ gb137)); replace HB := q0 (below_step (qb HB.out) hb); have NB120_137 := q0 ((bl BK120.out hg : gb120 ≠ gb137)); have NB137_120 := q0 ((bg BK120.out hg : gb137 ≠ gb120)); replace BK120 := q0 (kb BK120.out hb); have NB123_137 := q0 ((bl BK123.out hg : gb123 ≠ gb137)); have NB137_123 := q0 ((bg BK123.out hg : gb137 ≠ gb123)); replace BK123 := q0 (kb BK123.out hb); have NB126_137 := q0 ((bl BK126.out hg : gb126 ≠ gb137)); have NB137_126 := q0 ((bg BK126.out hg : gb137 ≠ gb126)); replace BK126 := q0 (kb BK126.out hb); have NB129_137 := q0 ((bl BK129.out hg : gb129 ≠ gb137)); have NB137_129 := q0 ((bg BK129.out hg : gb137 ≠ gb129)); replace BK129 := q0 (kb BK129.out hb); clear hb hbox hg; have hnb87 := NB137_120.out; have hnc87 := NB120_137.out; have hnb88 := NB137_123.out; have hnc88 := NB123_137.out; have hnb89 := NB137_126.out; have hnc89 := NB126_137.out; have hnb90 := NB137_129.out; have hnc90 := NB129_137.out; have hcz91_0 : w86.cell? ⟨gb137, 0, none⟩ = some (.int .i64 0) := (blk_cell BK137.out 0).trans rfl; have hcz91_1 : w86.cell? ⟨gb137, 1, none⟩ = some (.slice none 0 0) := (blk_cell BK137.out 1).trans rfl; have hfz91_0 := blk_frozen BK137.out 0; have hfz91_1 := blk_frozen BK137.out 1; obtain ⟨Ao92, co92, eo92⟩ := Kd.R_slice HO136.out; subst eo92))
     go_ret
     exact ⟨qe, qb HB.out⟩
   subst c63
   rw [if_pos rfl] at H
   replace H := Option.bind_eq_some_iff.mp H
   obtain ⟨t104, A134, H⟩ := H
   have A64 := Aside0.mk A134
   clear A134
   obtain rfl := Option.some.inj H
   have hnb65 := NB123_120.out
   have hnc65 := NB120_123.out
   have hnb66 := NB123_126.out
   have hnc66 := NB126_123.out
   have hnb67 := NB123_129.out
   have hnc67 := NB129_123.out
   have hcz68_0 : wc.cell? ⟨gb123, 0, none⟩ = some (.int .i64 t100) := (blk_cell BK123.out 0).trans rfl
   have hcz68_1 : wc.cell? ⟨gb123, 1, none⟩ = some (.slice Ao16 t112.length co16) := (blk_cell BK123.out 1).trans rfl
   have hfz68_0 := blk_frozen BK123.out 0
   have hfz68_1 := blk_frozen BK123.out 1
   go_wp2_with (first | ((with_reducible refine gate_callee (f := 29) rfl ?_); refine gl 66 Try.func29 #[.agg #[.int .i64 t100, .slice Ao16 t112.length co16], .int .i64 t111, .int .i64 t110] ?_; (with_reducible refine (impl_NetAdd.calls kj6 t100 _ _ t112 t111 t110 t103 t131 true _ ?side1 ?side2 A62.out).mono ?_); (case side1 => exact qc (Kd.R_reads' HO_101001.out).2.2); (case side2 => exact (Kd.R_reads' HO_101001.out).2.1); rintro e w69 ⟨v135, rfl, ho0, hb⟩; refine ⟨_, rfl, ?_⟩; have HO136 := q0 (Kd.R_lower (Kd.R_new' (Kd.R_new' (Kd.R_new' (Kd.R_new' ho0 (Kd.R_lt (qr HO_100001.out))) (Kd.R_lt (qr HO_101001.out))) (Kd.R_lt (qr HO_102001.out))) (Kd.R_lt (qr HO_108001.out))) (below_size (qb HB.out))); replace HO_100001 := q0 (Kd.R_elder' (qr HO_100001.out) (Kd.R_base ho0) hb); replace HO_101001 := q0 (Kd.R_elder' (qr HO_101001.out) (Kd.R_base ho0) hb); replace HO_102001 := q0 (Kd.R_elder' (qr HO_102001.out) (Kd.R_base ho0) hb); replace HO_108001 := q0 (Kd.R_elder' (qr HO_108001.out) (Kd.R_base ho0) hb); replace BK120 := q0 (kb BK120.out hb); replace BK123 := q0 (kb BK123.out hb); replace BK126 := q0 (kb BK126.out hb); replace BK129 := q0 (kb BK129.out hb); replace HB := q0 (below_step (qb HB.out) hb); (try clear hb); (try clear hb2); (try clear hk); (try clear hi); (try clear ho0)) | ((with_reducible refine gate_dst (N := 12) rfl ?_); refine be 12 #[.int .i64 0, .slice none 0 0] 25 ?_; intro gb137 hg w70 hbox hb; replace HO_100001 := q0 (Kd.R_below (qr HO_100001.out) hb); replace HO_101001 := q0 (Kd.R_below (qr HO_101001.out) hb); replace HO_102001 := q0 (Kd.R_below (qr HO_102001.out) hb); replace HO_108001 := q0 (Kd.R_below (qr HO_108001.out) hb); replace HO136 := q0 (Kd.R_below (qr HO136.out) hb); have BK137 := q0 (hbox); have GW137 := q0 ((bs HB.out hg : w.heap.size ≤ gb137)); have GE137 := q0 ((bs HB.out hg : w.heap.size ≤ gb137)); replace HB := q0 (below_step (qb HB.out) hb); have NB120_137 := q0 ((bl BK120.out hg : gb120 ≠ gb137)); have NB137_120 := q0 ((bg BK120.out hg : gb137 ≠ gb120)); replace BK120 := q0 (kb BK120.out hb); have NB123_137 := q0 ((bl BK123.out hg : gb123 ≠ gb137)); have NB137_123 := q0 ((bg BK123.out hg : gb137 ≠ gb123)); replace BK123 := q0 (kb BK123.out hb); have NB126_137 := q0 ((bl BK126.out hg : gb126 ≠ gb137)); have NB137_126 := q0 ((bg BK126.out hg : gb137 ≠ gb126)); replace BK126 := q0 (kb BK126.out hb); have NB129_137 := q0 ((bl BK129.out hg : gb129 ≠ gb137)); have NB137_129 := q0 ((bg BK129.out hg : gb137 ≠ gb129)); replace BK129 := q0 (kb BK129.out hb); clear hb hbox hg; have hnb71 := NB137_120.out; have hnc71 := NB120_137.out; have hnb72 := NB137_123.out; have hnc72 := NB123_137.out; have hnb73 := NB137_126.out; have hnc73 := NB126_137.out; have hnb74 := NB137_129.out; have hnc74 := NB129_137.out; have hcz75_0 : w70.cell? ⟨gb137, 0, none⟩ = some (.int .i64 0) := (blk_cell BK137.out 0).trans rfl; have hcz75_1 : w70.cell? ⟨gb137, 1, none⟩ = some (.slice none 0 0) := (blk_cell BK137.out 1).trans rfl; have hfz75_0 := blk_frozen BK137.out 0; have hfz75_1 := blk_frozen BK137.out 1; obtain ⟨Ao76, co76, eo76⟩ := Kd.R_slice HO136.out; subst eo76; have hnb77 := NB120_126.out; have hnc77 := NB126_120.out; have hnb78 := NB120_129.out; have hnc78 := NB129_120.out; have hcz79_0 : w70.cell? ⟨gb120, 0, none⟩ = some (.int .i64 t107) := (blk_cell BK120.out 0).trans rfl; have hcz79_1 : w70.cell? ⟨gb120, 1, none⟩ = some (.slice Ao11 t109.length co11) := (blk_cell BK120.out 1).trans rfl; have hfz79_0 := blk_frozen BK120.out 0; have hfz79_1 := blk_frozen BK120.out 1) | (go_at_call 34; (with_reducible refine (laws_loNet.calls kj6 t103 _ _ t131 t107 _ _ t109 t104 _ ?side1 ?side2 ?side3 ?side4 A64.out).mono ?_); (case side1 => refine (Kd.R_reads' (e := 32) (base := w.heap.size) (ok := fun k_ => ((((True ∧ some k_ ≠ (.slice Ao11 t109.length co11 : Value).ownBlock) ∧ some k_ ≠ (.slice Ao16 t112.length co16 : Value).ownBlock) ∧ some k_ ≠ (.slice Ao23 t114.length co23 : Value).ownBlock) ∧ some k_ ≠ (.slice Ao31 t116.length co31 : Value).ownBlock)) (n := t131.length) (c := co76) ?_).2.2; exact (by (with_reducible repeat (first | apply Kd.R_alloc | apply Kd.R_drewN | apply Kd.R_drew)); exact (rf2 HO136.out BK137.out (fun _ h_ => h_.1)))); (case side2 => exact (Kd.R_reads' HO136.out).2.1); (case side3 => refine (Kd.R_reads' (e := 32) (base := w.heap.size) (ok := fun k_ => ((some k_ ≠ (.slice Ao16 t112.length co16 : Value).ownBlock ∧ (some k_ ≠ (.slice Ao23 t114.length co23 : Value).ownBlock ∧ some k_ ≠ (.slice Ao31 t116.length co31 : Value).ownBlock)) ∧ some k_ ≠ (.slice Ao76 t131.length co76 : Value).ownBlock)) (n := t109.length) (c := co11) ?_).2.2; exact (by (with_reducible repeat (first | apply Kd.R_alloc | apply Kd.R_drewN | apply Kd.R_drew)); exact (rf2 HO_100001.out BK137.out (fun _ h_ => h_.1)))); (case side4 => exact (Kd.R_reads' HO_100001.out).2.1); rintro e w80 ⟨rfl, hb⟩; replace HO_100001 := q0 (Kd.R_below (by (with_reducible repeat (first | apply Kd.R_alloc | apply Kd.R_drewN | apply Kd.R_drew)); exact (rf2 HO_100001.out BK137.out (fun _ h_ => h_.1))) hb); replace HO_101001 := q0 (Kd.R_below (by (with_reducible repeat (first | apply Kd.R_alloc | apply Kd.R_drewN | apply Kd.R_drew)); exact (rf2 HO_101001.out BK137.out (fun _ h_ => h_.1))) hb); replace HO_102001 := q0 (Kd.R_below (by (with_reducible repeat (first | apply Kd.R_alloc | apply Kd.R_drewN | apply Kd.R_drew)); exact (rf2 HO_102001.out BK137.out (fun _ h_ => h_.1))) hb); replace HO_108001 := q0 (Kd.R_below (by (with_reducible repeat (first | apply Kd.R_alloc | apply Kd.R_drewN | apply Kd.R_drew)); exact (rf2 HO_108001.out BK137.out (fun _ h_ => h_.1))) hb); replace HO136 := q0 (Kd.R_below (by (with_reducible repeat (first | apply Kd.R_alloc | apply Kd.R_drewN | apply Kd.R_drew)); exact (rf2 HO136.out BK137.out (fun _ h_ => h_.1))) hb); replace BK120 := q0 (kf BK120.out hb); replace BK123 := q0 (kf BK123.out hb); replace BK126 := q0 (kf BK126.out hb); replace BK129 := q0 (kf BK129.out hb); replace BK137 := q0 (blk_below (g := gb137) (o := .cells #[.int .i64 t103, .slice Ao76 t131.length co76] 25 (0, 0)) (by (with_reducible repeat (first | refine blk_drewN ?_ _ | refine blk_drew ?_ | refine blk_alloc ?_ _)); refine blk_put (cs := #[.int .i64 t103, .slice none 0 0]) ?_ 1 _ rfl; (with_reducible repeat (first | refine blk_drewN ?_ _ | refine blk_drew ?_ | refine blk_alloc ?_ _)); refine blk_put (cs := #[.int .i64 0, .slice none 0 0]) ?_ 0 _ rfl; (with_reducible repeat (first | refine blk_drewN ?_ _ | refine blk_drew ?_ | refine blk_alloc ?_ _)); exact BK137.out) hb); replace HB := q0 (below_step (qb HB.out) hb); (try clear hb); (try clear hb2); (try clear hk); (try clear hi)))
   go_ret
   exact ⟨qe, qb HB.out⟩
 replace c61 := Bool.eq_false_iff.mpr c61
 subst c61
 rw [if_neg nf] at H
 by_cases c93 : t115 = true
 rotate_left
 · replace c93 := Bool.eq_false_iff.mpr c93
   subst c93
   rw [if_neg nf] at H
   obtain rfl := Option.some.inj H
   go_wp2
   go_ret
   exact ⟨qe, qb HB.out⟩
 subst c93
 rw [if_pos rfl] at H
 replace H := Option.bind_eq_some_iff.mp H
 obtain ⟨⟨t105, t138, t139⟩, A111, H⟩ := H
 have A94 := Aside0.mk A111
 clear A111
 by_cases c95 : t139 = true
 rotate_left
 · replace c95 := Bool.eq_false_iff.mpr c95
   subst c95
   rw [if_neg nf] at H
   obtain rfl := Option.some.inj H
   have hnb156 := NB126_120.out
   have hnc156 := NB120_126.out
   have hnb157 := NB126_123.out
   have hnc157 := NB123_126.out
   have hnb158 := NB126_129.out
   have hnc158 := NB129_126.out
   have hcz159_0 : wc.cell? ⟨gb126, 0, none⟩ = some (.int .i64 t101) := (blk_cell BK126.out 0).trans rfl
   have hcz159_1 : wc.cell? ⟨gb126, 1, none⟩ = some (.slice Ao23 t114.length co23) := (blk_cell BK126.out 1).trans rfl
   have hfz159_0 := blk_frozen BK126.out 0
   have hfz159_1 := blk_frozen BK126.out 1
   go_wp2_with (first | ((with_reducible refine gate_callee (f := 18) rfl ?_); refine gl 80 Try.func18 #[.agg #[.int .i64 t101, .slice Ao23 t114.length co23], .int .i64 t111, .int .i64 t110] ?_; (with_reducible refine (impl_NetCut.calls kj6 t101 _ _ t114 t111 t110 t105 t138 false _ ?side1 ?side2 A94.out).mono ?_); (case side1 => exact qc (Kd.R_reads' HO_102001.out).2.2); (case side2 => exact (Kd.R_reads' HO_102001.out).2.1); rintro e w160 ⟨v142, rfl, ho0, hb⟩; refine ⟨_, rfl, ?_⟩; have HO143 := q0 (Kd.R_lower (Kd.R_new' (Kd.R_new' (Kd.R_new' (Kd.R_new' ho0 (Kd.R_lt (qr HO_100001.out))) (Kd.R_lt (qr HO_101001.out))) (Kd.R_lt (qr HO_102001.out))) (Kd.R_lt (qr HO_108001.out))) (below_size (qb HB.out))); replace HO_100001 := q0 (Kd.R_elder' (qr HO_100001.out) (Kd.R_base ho0) hb); replace HO_101001 := q0 (Kd.R_elder' (qr HO_101001.out) (Kd.R_base ho0) hb); replace HO_102001 := q0 (Kd.R_elder' (qr HO_102001.out) (Kd.R_base ho0) hb); replace HO_108001 := q0 (Kd.R_elder' (qr HO_108001.out) (Kd.R_base ho0) hb); replace BK120 := q0 (kb BK120.out hb); replace BK123 := q0 (kb BK123.out hb); replace BK126 := q0 (kb BK126.out hb); replace BK129 := q0 (kb BK129.out hb); replace HB := q0 (below_step (qb HB.out) hb); (try clear hb); (try clear hb2); (try clear hk); (try clear hi); (try clear ho0)) | ((with_reducible refine gate_dst (N := 14) rfl ?_); refine be 14 #[.int .i64 0, .slice none 0 0] 25 ?_; intro gb144 hg w161 hbox hb; replace HO_100001 := q0 (Kd.R_below (qr HO_100001.out) hb); replace HO_101001 := q0 (Kd.R_below (qr HO_101001.out) hb); replace HO_102001 := q0 (Kd.R_below (qr HO_102001.out) hb); replace HO_108001 := q0 (Kd.R_below (qr HO_108001.out) hb); replace HO143 := q0 (Kd.R_below (qr HO143.out) hb); have BK144 := q0 (hbox); have GW144 := q0 ((bs HB.out hg : w.heap.size ≤ gb144)); have GE144 := q0 ((bs HB.out hg : w.heap.size ≤ gb144)); replace HB := q0 (below_step (qb HB.out) hb); have NB120_144 := q0 ((bl BK120.out hg : gb120 ≠ gb144)); have NB144_120 := q0 ((bg BK120.out hg : gb144 ≠ gb120)); replace BK120 := q0 (kb BK120.out hb); have NB123_144 := q0 ((bl BK123.out hg : gb123 ≠ gb144)); have NB144_123 := q0 ((bg BK123.out hg : gb144 ≠ gb123)); replace BK123 := q0 (kb BK123.out hb); have NB126_144 := q0 ((bl BK126.out hg : gb126 ≠ gb144)); have NB144_126 := q0 ((bg BK126.out hg : gb144 ≠ gb126)); replace BK126 := q0 (kb BK126.out hb); have NB129_144 := q0 ((bl BK129.out hg : gb129 ≠ gb144)); have NB144_129 := q0 ((bg BK129.out hg : gb144 ≠ gb129)); replace BK129 := q0 (kb BK129.out hb); clear hb hbox hg; have hnb162 := NB144_120.out; have hnc162 := NB120_144.out; have hnb163 := NB144_123.out; have hnc163 := NB123_144.out; have hnb164 := NB144_126.out; have hnc164 := NB126_144.out; have hnb165 := NB144_129.out; have hnc165 := NB129_144.out; have hcz166_0 : w161.cell? ⟨gb144, 0, none⟩ = some (.int .i64 0) := (blk_cell BK144.out 0).trans rfl; have hcz166_1 : w161.cell? ⟨gb144, 1, none⟩ = some (.slice none 0 0) := (blk_cell BK144.out 1).trans rfl; have hfz166_0 := blk_frozen BK144.out 0; have hfz166_1 := blk_frozen BK144.out 1; obtain ⟨Ao167, co167, eo167⟩ := Kd.R_slice HO143.out; subst eo167))
   go_ret
   exact ⟨qe, qb HB.out⟩
 subst c95
 rw [if_pos rfl] at H
 replace H := Option.bind_eq_some_iff.mp H
 obtain ⟨t106, A108, H⟩ := H
 have A96 := Aside0.mk A108
 clear A108
 obtain rfl := Option.some.inj H
 have hnb97 := NB126_120.out
 have hnc97 := NB120_126.out
 have hnb98 := NB126_123.out
 have hnc98 := NB123_126.out
 have hnb99 := NB126_129.out
 have hnc99 := NB129_126.out
 have hcz140_0 : wc.cell? ⟨gb126, 0, none⟩ = some (.int .i64 t101) := (blk_cell BK126.out 0).trans rfl
 have hcz140_1 : wc.cell? ⟨gb126, 1, none⟩ = some (.slice Ao23 t114.length co23) := (blk_cell BK126.out 1).trans rfl
 have hfz140_0 := blk_frozen BK126.out 0
 have hfz140_1 := blk_frozen BK126.out 1
 go_wp2_with (first | ((with_reducible refine gate_callee (f := 18) rfl ?_); refine gl 80 Try.func18 #[.agg #[.int .i64 t101, .slice Ao23 t114.length co23], .int .i64 t111, .int .i64 t110] ?_; (with_reducible refine (impl_NetCut.calls kj6 t101 _ _ t114 t111 t110 t105 t138 true _ ?side1 ?side2 A94.out).mono ?_); (case side1 => exact qc (Kd.R_reads' HO_102001.out).2.2); (case side2 => exact (Kd.R_reads' HO_102001.out).2.1); rintro e w141 ⟨v142, rfl, ho0, hb⟩; refine ⟨_, rfl, ?_⟩; have HO143 := q0 (Kd.R_lower (Kd.R_new' (Kd.R_new' (Kd.R_new' (Kd.R_new' ho0 (Kd.R_lt (qr HO_100001.out))) (Kd.R_lt (qr HO_101001.out))) (Kd.R_lt (qr HO_102001.out))) (Kd.R_lt (qr HO_108001.out))) (below_size (qb HB.out))); replace HO_100001 := q0 (Kd.R_elder' (qr HO_100001.out) (Kd.R_base ho0) hb); replace HO_101001 := q0 (Kd.R_elder' (qr HO_101001.out) (Kd.R_base ho0) hb); replace HO_102001 := q0 (Kd.R_elder' (qr HO_102001.out) (Kd.R_base ho0) hb); replace HO_108001 := q0 (Kd.R_elder' (qr HO_108001.out) (Kd.R_base ho0) hb); replace BK120 := q0 (kb BK120.out hb); replace BK123 := q0 (kb BK123.out hb); replace BK126 := q0 (kb BK126.out hb); replace BK129 := q0 (kb BK129.out hb); replace HB := q0 (below_step (qb HB.out) hb); (try clear hb); (try clear hb2); (try clear hk); (try clear hi); (try clear ho0)) | ((with_reducible refine gate_dst (N := 14) rfl ?_); refine be 14 #[.int .i64 0, .slice none 0 0] 25 ?_; intro gb144 hg w145 hbox hb; replace HO_100001 := q0 (Kd.R_below (qr HO_100001.out) hb); replace HO_101001 := q0 (Kd.R_below (qr HO_101001.out) hb); replace HO_102001 := q0 (Kd.R_below (qr HO_102001.out) hb); replace HO_108001 := q0 (Kd.R_below (qr HO_108001.out) hb); replace HO143 := q0 (Kd.R_below (qr HO143.out) hb); have BK144 := q0 (hbox); have GW144 := q0 ((bs HB.out hg : w.heap.size ≤ gb144)); have GE144 := q0 ((bs HB.out hg : w.heap.size ≤ gb144)); replace HB := q0 (below_step (qb HB.out) hb); have NB120_144 := q0 ((bl BK120.out hg : gb120 ≠ gb144)); have NB144_120 := q0 ((bg BK120.out hg : gb144 ≠ gb120)); replace BK120 := q0 (kb BK120.out hb); have NB123_144 := q0 ((bl BK123.out hg : gb123 ≠ gb144)); have NB144_123 := q0 ((bg BK123.out hg : gb144 ≠ gb123)); replace BK123 := q0 (kb BK123.out hb); have NB126_144 := q0 ((bl BK126.out hg : gb126 ≠ gb144)); have NB144_126 := q0 ((bg BK126.out hg : gb144 ≠ gb126)); replace BK126 := q0 (kb BK126.out hb); have NB129_144 := q0 ((bl BK129.out hg : gb129 ≠ gb144)); have NB144_129 := q0 ((bg BK129.out hg : gb144 ≠ gb129)); replace BK129 := q0 (kb BK129.out hb); clear hb hbox hg; have hnb146 := NB144_120.out; have hnc146 := NB120_144.out; have hnb147 := NB144_123.out; have hnc147 := NB123_144.out; have hnb148 := NB144_126.out; have hnc148 := NB126_144.out; have hnb149 := NB144_129.out; have hnc149 := NB129_144.out; have hcz150_0 : w145.cell? ⟨gb144, 0, none⟩ = some (.int .i64 0) := (blk_cell BK144.out 0).trans rfl; have hcz150_1 : w145.cell? ⟨gb144, 1, none⟩ = some (.slice none 0 0) := (blk_cell BK144.out 1).trans rfl; have hfz150_0 := blk_frozen BK144.out 0; have hfz150_1 := blk_frozen BK144.out 1; obtain ⟨Ao151, co151, eo151⟩ := Kd.R_slice HO143.out; subst eo151; have hnb152 := NB120_123.out; have hnc152 := NB123_120.out; have hnb153 := NB120_129.out; have hnc153 := NB129_120.out; have hcz154_0 : w145.cell? ⟨gb120, 0, none⟩ = some (.int .i64 t107) := (blk_cell BK120.out 0).trans rfl; have hcz154_1 : w145.cell? ⟨gb120, 1, none⟩ = some (.slice Ao11 t109.length co11) := (blk_cell BK120.out 1).trans rfl; have hfz154_0 := blk_frozen BK120.out 0; have hfz154_1 := blk_frozen BK120.out 1) | (go_at_call 34; (with_reducible refine (laws_loNet.calls kj6 t105 _ _ t138 t107 _ _ t109 t106 _ ?side1 ?side2 ?side3 ?side4 A96.out).mono ?_); (case side1 => refine (Kd.R_reads' (e := 32) (base := w.heap.size) (ok := fun k_ => ((((True ∧ some k_ ≠ (.slice Ao11 t109.length co11 : Value).ownBlock) ∧ some k_ ≠ (.slice Ao16 t112.length co16 : Value).ownBlock) ∧ some k_ ≠ (.slice Ao23 t114.length co23 : Value).ownBlock) ∧ some k_ ≠ (.slice Ao31 t116.length co31 : Value).ownBlock)) (n := t138.length) (c := co151) ?_).2.2; exact (by (with_reducible repeat (first | apply Kd.R_alloc | apply Kd.R_drewN | apply Kd.R_drew)); exact (rf2 HO143.out BK144.out (fun _ h_ => h_.1)))); (case side2 => exact (Kd.R_reads' HO143.out).2.1); (case side3 => refine (Kd.R_reads' (e := 32) (base := w.heap.size) (ok := fun k_ => ((some k_ ≠ (.slice Ao16 t112.length co16 : Value).ownBlock ∧ (some k_ ≠ (.slice Ao23 t114.length co23 : Value).ownBlock ∧ some k_ ≠ (.slice Ao31 t116.length co31 : Value).ownBlock)) ∧ some k_ ≠ (.slice Ao151 t138.length co151 : Value).ownBlock)) (n := t109.length) (c := co11) ?_).2.2; exact (by (with_reducible repeat (first | apply Kd.R_alloc | apply Kd.R_drewN | apply Kd.R_drew)); exact (rf2 HO_100001.out BK144.out (fun _ h_ => h_.1)))); (case side4 => exact (Kd.R_reads' HO_100001.out).2.1); rintro e w155 ⟨rfl, hb⟩; replace HO_100001 := q0 (Kd.R_below (by (with_reducible repeat (first | apply Kd.R_alloc | apply Kd.R_drewN | apply Kd.R_drew)); exact (rf2 HO_100001.out BK144.out (fun _ h_ => h_.1))) hb); replace HO_101001 := q0 (Kd.R_below (by (with_reducible repeat (first | apply Kd.R_alloc | apply Kd.R_drewN | apply Kd.R_drew)); exact (rf2 HO_101001.out BK144.out (fun _ h_ => h_.1))) hb); replace HO_102001 := q0 (Kd.R_below (by (with_reducible repeat (first | apply Kd.R_alloc | apply Kd.R_drewN | apply Kd.R_drew)); exact (rf2 HO_102001.out BK144.out (fun _ h_ => h_.1))) hb); replace HO_108001 := q0 (Kd.R_below (by (with_reducible repeat (first | apply Kd.R_alloc | apply Kd.R_drewN | apply Kd.R_drew)); exact (rf2 HO_108001.out BK144.out (fun _ h_ => h_.1))) hb); replace HO143 := q0 (Kd.R_below (by (with_reducible repeat (first | apply Kd.R_alloc | apply Kd.R_drewN | apply Kd.R_drew)); exact (rf2 HO143.out BK144.out (fun _ h_ => h_.1))) hb); replace BK120 := q0 (kf BK120.out hb); replace BK123 := q0 (kf BK123.out hb); replace BK126 := q0 (kf BK126.out hb); replace BK129 := q0 (kf BK129.out hb); replace BK144 := q0 (blk_below (g := gb144) (o := .cells #[.int .i64 t105, .slice Ao151 t138.length co151] 25 (0, 0)) (by (with_reducible repeat (first | refine blk_drewN ?_ _ | refine blk_drew ?_ | refine blk_alloc ?_ _)); refine blk_put (cs := #[.int .i64 t105, .slice none 0 0]) ?_ 1 _ rfl; (with_reducible repeat (first | refine blk_drewN ?_ _ | refine blk_drew ?_ | refine blk_alloc ?_ _)); refine blk_put (cs := #[.int .i64 0, .slice none 0 0]) ?_ 0 _ rfl; (with_reducible repeat (first | refine blk_drewN ?_ _ | refine blk_drew ?_ | refine blk_alloc ?_ _)); exact BK144.out) hb); replace HB := q0 (below_step (qb HB.out) hb); (try clear hb); (try clear hb2); (try clear hk); (try clear hi)))
 go_ret
 exact ⟨qe, qb HB.out⟩

theorem laws_FnNetUndo.walk (P : laws_FnNetUndo.Pure) (a0 : Option Addr) (len0 cap0 : Nat) (z0 : List Int) (w : World) (w0 : (a0 = none ∧ len0 = 0 ∧ cap0 = 0 ∧ z0 = []) ∨ ∃ x, a0 = some x ∧ len0 ≤ cap0 ∧ cap0 ≤ maxLen ∧ z0.length = cap0 ∧ (∀ i, i < z0.length → w.cell? (x.add i) = some (.int .u8 (z0.getD i 0))) ∧ ∀ n ∈ z0, (Lit.int .u8 n).wf = true) (y0 : len0 * 1 ≤ 140737488351232) :
    Calls Try.prog 9 #[.slice a0 len0 cap0] w fun e w' => e = .returned (.bool true) ∧ Below w.heap.size w w' := by
  obtain ⟨l0, rfl, hr0, hm0, hw0, hc0⟩ := ReadsInt.ofRowC w0
  obtain ⟨k, h⟩ := P l0 hm0 y0 hw0
  refine (laws_FnNetUndo.calls k _ _ l0 true w (Kd.C_of_reads (d := (0 : Int)) (h1 := fun _ => rfl) hr0) hc0 h).mono ?_
  rintro e w' ⟨rfl, hd⟩
  exact ⟨rfl, hd⟩
end Go.Proofs.Ytgoembpmhlmafaa.P
