import Derived.Test.YtmfmeenfhdohcaaP0
import Derived.Test.YtmfmeenfhdohcaaP2
import Derived.Test.YtmfmeenfhdohcaaP3
import Derived.Test.YtmfmeenfhdohcaaP5
import Derived.Test.YtmfmeenfhdohcaaP6
namespace Go.Proofs.Ytmfmeenfhdohcaa.P
open Go.RowKit Go.Proofs.YtmfmeenfhdohcaaW.PrintWords Go.Proofs.YtmfmeenfhdohcaaW.PrintLast Go.Proofs.YtmfmeenfhdohcaaW.PrintMore
attribute [local go_sem] max2_int min2_int max_two min_two max_three min_three max_four min_four
set_option linter.unusedVariables false
set_option linter.unusedSimpArgs false
attribute [local go_sem high] eqATie
set_option maxHeartbeats 8000000 in
set_option maxRecDepth 100000 in
theorem laws_loAhead.calls (k : Nat) (A0 : Option Addr) (c0 : Nat) (l0 : List Int) (A1 : Option Addr) (c1 : Nat) (l1 : List Int) (r : Bool) (w : World) (hr0 : Kd.C (Kd.int .i64) w A0 l0.length l0) (hc0 : l0.length ≤ c0) (hr1 : Kd.C (Kd.int .i64) w A1 l1.length l1) (hc1 : l1.length ≤ c1) (h : laws_loAhead.f k l0 l1 = some r) :
    Calls Try.prog 33 #[.slice A0 l0.length c0, .slice A1 l1.length c1] w fun e w' => e = .returned (.bool r) ∧ Drawn0 w w' := by
 have HR0 := Aside0.mk hr0
 have HC0 := Aside0.mk hc0
 clear hr0 hc0
 have HR1 := Aside0.mk hr1
 have HC1 := Aside0.mk hc1
 clear hr1 hc1
 have H : (if (l0.length : Int) = (l1.length : Int) then (laws_loAhead.l0 k l0 l1 0) else (some (decide ((l0.length : Int) < (l1.length : Int))))) = some r := h
 clear h
 by_cases c3 : (l0.length : Int) = (l1.length : Int)
 rotate_left
 · rw [if_neg c3] at H
   have c3b0 : ((l0.length : Int) == (l1.length : Int)) = false := beq_eq_false_iff_ne.mpr c3
   have c3b1 : ((l0.length : Int) != (l1.length : Int)) = true := bne_iff_ne.mpr c3
   have c3b2 : (l0.length == l1.length) = false := by first | simpa using c3 | (simp at c3 ⊢; omega)
   obtain rfl := Option.some.inj H
   go_enter Try.func33, Try.ntmps33
   go_wp2
   repeat (go_quiet (fail); try go_wp2)
   go_ret
   exact ⟨by first | rfl | (simp; done) | (simp [*]; done), by repeat (first | exact Drawn0.refl _ | apply Drawn0.step)⟩
 rw [if_pos c3] at H
 have c3b0 : ((l0.length : Int) == (l1.length : Int)) = true := beq_iff_eq.mpr c3
 have c3b1 : ((l0.length : Int) != (l1.length : Int)) = false := bne_eq_false_iff_eq.mpr c3
 have c3b2 : (l0.length == l1.length) = true := by first | simpa using c3 | (simp at c3 ⊢; omega)
 clear c3
 have H' := Aside0.mk H
 clear H
 go_enter Try.func33, Try.ntmps33
 go_wp2
 repeat (go_quiet (fail); try go_wp2)
 go_loopg [5] k (fun kq v5 w' => ∃ (x5_1 : Int), v5 = .int .i64 x5_1 ∧ Aside0 (laws_loAhead.l0 kq l0 l1 x5_1 = some r) ∧ Aside0 (kq ≤ k) ∧ Drawn0 w w')
 case atStart => exact ⟨(0), qs, H', ⟨Nat.le_refl _⟩, by repeat (first | exact Drawn0.refl _ | apply Drawn0.step)⟩
 clear H'
 try clear c1
 try clear p2
 try clear c3
 try clear c3b0
 try clear c3b1
 try clear c3b2
 obtain ⟨x5_1, rfl, HA, HK1, ⟨m1, rfl⟩⟩ := hrel
 rcases gk with _ | k1
 · exact absurd HA.out (by simp [laws_loAhead.l0])
 have H := HA.out
 clear HA
 simp only [laws_loAhead.l0] at H
 by_cases c4 : x5_1 < (l0.length : Int)
 rotate_left
 · rw [if_neg c4] at H
   have c4b0 : decide (x5_1 < (l0.length : Int)) = false := decide_eq_false c4
   clear c4
   obtain rfl := Option.some.inj H
   go_wp2
   repeat (go_quiet (fail); try go_wp2)
   go_ret
   exact ⟨by first | rfl | (simp; done) | (simp [*]; done), by repeat (first | exact Drawn0.refl _ | apply Drawn0.step)⟩
 rw [if_pos c4] at H
 have c4b0 : decide (x5_1 < (l0.length : Int)) = true := decide_eq_true c4
 clear c4
 by_cases c5 : 0 ≤ x5_1
 rotate_left
 · rw [if_neg c5] at H
   exact absurd H (by simp)
 rw [if_pos c5] at H
 have c5b0 : decide (0 ≤ x5_1) = true := decide_eq_true c5
 clear c5
 by_cases c6 : x5_1 < (l1.length : Int)
 rotate_left
 · rw [if_neg c6] at H
   exact absurd H (by simp)
 rw [if_pos c6] at H
 have c6b0 : decide (x5_1 < (l1.length : Int)) = true := decide_eq_true c6
 clear c6
 by_cases c7 : (rd l0 x5_1) = (rd l1 x5_1)
 · rw [if_pos c7] at H
   have c7b0 : ((rd l0 x5_1) == (rd l1 x5_1)) = true := beq_iff_eq.mpr c7
   have c7b1 : ((rd l0 x5_1) != (rd l1 x5_1)) = false := bne_eq_false_iff_eq.mpr c7
   clear c7
   have H' := Aside0.mk H
   clear H
   have p100 : 0 ≤ (x5_1 : Int) := of_decide_eq_true qa
   have q100 : x5_1 < (l0.length : Int) := of_decide_eq_true qa
   obtain ⟨ad100, e100, hx100_0⟩ := Kd.at_int HR0.out x5_1 p100 q100
   cases e100
   replace p100 := eq_true p100
   replace q100 := eq_true q100
   have p101 : 0 ≤ (x5_1 : Int) := of_decide_eq_true qa
   have q101 : x5_1 < (l1.length : Int) := of_decide_eq_true qa
   obtain ⟨ad101, e101, hx101_0⟩ := Kd.at_int HR1.out x5_1 p101 q101
   cases e101
   replace p101 := eq_true p101
   replace q101 := eq_true q101
   go_wp2
   repeat (go_quiet (fail); try go_wp2)
   go_roundg k1
   case measure => have := HK1.out; omega
   case rel => exact ⟨(wrap64 (x5_1 + 1)), qs, H', ⟨by have := HK1.out; omega⟩, by repeat (first | exact Drawn0.refl _ | apply Drawn0.step)⟩
 rw [if_neg c7] at H
 have c7b0 : ((rd l0 x5_1) == (rd l1 x5_1)) = false := beq_eq_false_iff_ne.mpr c7
 have c7b1 : ((rd l0 x5_1) != (rd l1 x5_1)) = true := bne_iff_ne.mpr c7
 obtain rfl := Option.some.inj H
 have p100 : 0 ≤ (x5_1 : Int) := of_decide_eq_true qa
 have q100 : x5_1 < (l0.length : Int) := of_decide_eq_true qa
 obtain ⟨ad100, e100, hx100_0⟩ := Kd.at_int HR0.out x5_1 p100 q100
 cases e100
 replace p100 := eq_true p100
 replace q100 := eq_true q100
 have p101 : 0 ≤ (x5_1 : Int) := of_decide_eq_true qa
 have q101 : x5_1 < (l1.length : Int) := of_decide_eq_true qa
 obtain ⟨ad101, e101, hx101_0⟩ := Kd.at_int HR1.out x5_1 p101 q101
 cases e101
 replace p101 := eq_true p101
 replace q101 := eq_true q101
 have p102 : 0 ≤ (x5_1 : Int) := of_decide_eq_true qa
 have q102 : x5_1 < (l0.length : Int) := of_decide_eq_true qa
 obtain ⟨ad102, e102, hx102_0⟩ := Kd.at_int HR0.out x5_1 p102 q102
 obtain rfl : ad100 = ad102 := (by injection e102)
 replace p102 := eq_true p102
 replace q102 := eq_true q102
 have p103 : 0 ≤ (x5_1 : Int) := of_decide_eq_true qa
 have q103 : x5_1 < (l1.length : Int) := of_decide_eq_true qa
 obtain ⟨ad103, e103, hx103_0⟩ := Kd.at_int HR1.out x5_1 p103 q103
 obtain rfl : ad101 = ad103 := (by injection e103)
 replace p103 := eq_true p103
 replace q103 := eq_true q103
 go_wp2
 repeat (go_quiet (fail); try go_wp2)
 go_ret
 exact ⟨by first | rfl | (simp; done) | (simp [*]; done), by repeat (first | exact Drawn0.refl _ | apply Drawn0.step)⟩

set_option maxHeartbeats 8000000 in
set_option maxRecDepth 100000 in
theorem laws_FnWayShort.calls (k : Nat) (A0 : Option Addr) (c0 : Nat) (l0 : List Int) (r : Bool) (w : World) (hr0 : Kd.C (Kd.int .u8) w A0 l0.length l0) (hc0 : l0.length ≤ c0) (h : laws_FnWayShort.f k l0 = some r) :
    Calls Try.prog 9 #[.slice A0 l0.length c0] w fun e w' => e = .returned (.bool r) ∧ Below w.heap.size w w' := by
 have hu31 := Try.underlying31
 have HR0 := Aside0.mk hr0
 have HC0 := Aside0.mk hc0
 clear hr0 hc0
 have HB := q0 (Below.refl w.heap.size w)
 have H : (if (l0.length : Int) > 1048576 then (some true) else ((spec_DrawWayFind.f k l0).bind fun bt104 => ((spec_WayFind.f k bt104.1 bt104.2.1 bt104.2.2.1 bt104.2.2.2).bind fun bt100 => ((impl_WayFind.f k bt104.1 bt104.2.1 bt104.2.2.1 bt104.2.2.2).bind fun bt105 => (if (bt105.2 != bt100.2) = true then (laws_FnWayShort.j0 k bt104.2.2.1 bt104.2.2.2 bt105.1 bt105.2 true bt104.1 bt104.2.1) else ((laws_loInts.f k bt105.1 bt100.1).bind fun t106 => (laws_FnWayShort.j0 k bt104.2.2.1 bt104.2.2.2 bt105.1 bt105.2 (!t106) bt104.1 bt104.2.1))))))) = some r := h
 clear h
 by_cases c2 : (l0.length : Int) > 1048576
 · rw [if_pos c2] at H
   have c2b0 : decide (1048576 < (l0.length : Int)) = true := decide_eq_true c2
   have c2b1 : decide (1048576 < l0.length) = true := decide_eq_true (by omega)
   clear c2
   obtain rfl := Option.some.inj H
   go_enter Try.func9, Try.ntmps9
   go_wp2
   go_ret
   exact ⟨qe, qb HB.out⟩
 rw [if_neg c2] at H
 have c2b0 : decide (1048576 < (l0.length : Int)) = false := decide_eq_false c2
 have c2b1 : decide (1048576 < l0.length) = false := decide_eq_false (by omega)
 clear c2
 replace H := Option.bind_eq_some_iff.mp H
 obtain ⟨⟨t104, t107, t108, t109⟩, A30, H⟩ := H
 have A3 := Aside0.mk A30
 clear A30
 replace H := Option.bind_eq_some_iff.mp H
 obtain ⟨⟨t100, t110⟩, A40, H⟩ := H
 have A4 := Aside0.mk A40
 clear A40
 replace H := Option.bind_eq_some_iff.mp H
 obtain ⟨⟨t105, t111⟩, A50, H⟩ := H
 have A5 := Aside0.mk A50
 clear A50
 have HC6 := Aside0.mk H
 clear H
 go_enter Try.func9, Try.ntmps9
 go_upto_region 6 with (first | ((with_reducible refine gate_callee (f := 27) rfl ?_); refine gl 17 Try.func27 #[.slice A0 l0.length c0] ?_; (with_reducible refine (spec_DrawWayFind.calls k _ _ l0 t104 t107 t108 t109 _ ?side1 ?side2 A3.out).mono ?_); (case side1 => repeat (first | exact HR0.out | (with_reducible refine Kd.C_alloc ?_ _) | (with_reducible refine Kd.C_drewN ?_ _) | (with_reducible refine Kd.C_drew ?_))); (case side2 => exact HC0.out); rintro e w7 ⟨v112, rfl, ho0, hb⟩; refine ⟨_, rfl, ?_⟩; have HO113 := q0 (Kd.R_lower ho0 (below_size (qb HB.out))); replace HB := q0 (below_step (qb HB.out) hb); (try clear hb); (try clear hb2); (try clear hk); (try clear hi); (try clear ho0)) | ((with_reducible refine gate_dst (N := 3) rfl ?_); refine be 3 #[.int .i64 0, .slice none 0 0] 31 ?_; intro gb114 hg w8 hbox hb; replace HO113 := q0 (Kd.R_below (qr HO113.out) hb); have BK114 := q0 (hbox); have GW114 := q0 ((bs HB.out hg : w.heap.size ≤ gb114)); have GE114 := q0 ((bs HB.out hg : w.heap.size ≤ gb114)); replace HB := q0 (below_step (qb HB.out) hb); clear hb hbox hg; have hcz9_0 : w8.cell? ⟨gb114, 0, none⟩ = some (.int .i64 0) := (blk_cell BK114.out 0).trans rfl; have hcz9_1 : w8.cell? ⟨gb114, 1, none⟩ = some (.slice none 0 0) := (blk_cell BK114.out 1).trans rfl; have hfz9_0 := blk_frozen BK114.out 0; have hfz9_1 := blk_frozen BK114.out 1; obtain ⟨Ao10, co10, eo10⟩ := Kd.R_slice HO113.out; subst eo10) | ((with_reducible refine gate_callee (f := 14) rfl ?_); refine gl 25 Try.func14 #[.agg #[.int .i64 t104, .slice Ao10 t107.length co10], .int .i64 t108, .int .i64 t109] ?_; (with_reducible refine (spec_WayFind.calls k t104 _ _ t107 t108 t109 t100 t110 _ ?side1 ?side2 A4.out).mono ?_); (case side1 => refine (Kd.R_reads' (e := 74) (base := w.heap.size) (ok := fun k_ => True) (n := t107.length) (c := co10) ?_).2.2; exact (by (with_reducible repeat (first | apply Kd.R_alloc | apply Kd.R_drewN | apply Kd.R_drew)); exact (rf2 HO113.out BK114.out (fun _ h_ => h_.1)))); (case side2 => exact (Kd.R_reads' HO113.out).2.1); rintro e w11 ⟨v115, rfl, ho0, hb⟩; refine ⟨_, rfl, ?_⟩; replace HO113 := q0 (Kd.R_below (by (with_reducible repeat (first | apply Kd.R_alloc | apply Kd.R_drewN | apply Kd.R_drew)); exact (rf2 HO113.out BK114.out (fun _ h_ => h_.1))) hb); have HO116 := q0 (Kd.R_lower ho0 (below_size (qb HB.out))); replace BK114 := q0 (blk_below (g := gb114) (o := .cells #[.int .i64 t104, .slice Ao10 t107.length co10] 31 (0, 0)) (by (with_reducible repeat (first | refine blk_drewN ?_ _ | refine blk_drew ?_ | refine blk_alloc ?_ _)); refine blk_put (cs := #[.int .i64 t104, .slice none 0 0]) ?_ 1 _ rfl; (with_reducible repeat (first | refine blk_drewN ?_ _ | refine blk_drew ?_ | refine blk_alloc ?_ _)); refine blk_put (cs := #[.int .i64 0, .slice none 0 0]) ?_ 0 _ rfl; (with_reducible repeat (first | refine blk_drewN ?_ _ | refine blk_drew ?_ | refine blk_alloc ?_ _)); exact BK114.out) hb); replace HB := q0 (below_step (qb HB.out) hb); (try clear hb); (try clear hb2); (try clear hk); (try clear hi); (try clear ho0); have hcz12_0 : w11.cell? ⟨gb114, 0, none⟩ = some (.int .i64 t104) := (blk_cell BK114.out 0).trans rfl; have hcz12_1 : w11.cell? ⟨gb114, 1, none⟩ = some (.slice Ao10 t107.length co10) := (blk_cell BK114.out 1).trans rfl; have hfz12_0 := blk_frozen BK114.out 0; have hfz12_1 := blk_frozen BK114.out 1) | ((with_reducible refine gate_callee (f := 16) rfl ?_); refine gl 32 Try.func16 #[.agg #[.int .i64 t104, .slice Ao10 t107.length co10], .int .i64 t108, .int .i64 t109] ?_; (with_reducible refine (impl_WayFind.calls k t104 _ _ t107 t108 t109 t105 t111 _ ?side1 ?side2 A5.out).mono ?_); (case side1 => exact qc (Kd.R_reads' HO113.out).2.2); (case side2 => exact (Kd.R_reads' HO113.out).2.1); rintro e w13 ⟨v117, rfl, ho0, hb⟩; refine ⟨_, rfl, ?_⟩; replace HO113 := q0 (Kd.R_below (qr HO113.out) hb); have HO118 := q0 (Kd.R_lower (Kd.R_new' ho0 (Kd.R_lt (qr HO116.out))) (below_size (qb HB.out))); replace HO116 := q0 (Kd.R_elder' (qr HO116.out) (Kd.R_base ho0) hb); replace BK114 := q0 (kb BK114.out hb); replace HB := q0 (below_step (qb HB.out) hb); (try clear hb); (try clear hb2); (try clear hk); (try clear hi); (try clear ho0)))
 (try simp only [Act.put, List.setIfInBounds_toArray, List.set_cons_zero, List.set_cons_succ])
 go_cut [43] (fun v43 wc => ∃ (kq : Nat) (x43_5 : Bool), v43 = .bool x43_5 ∧ Aside0 (laws_FnWayShort.j0 kq t108 t109 t105 t111 x43_5 t104 t107 = some r) ∧ Aside0 (kq ≤ k) ∧ Aside0 (Kd.R (Kd.int .i64) 3 wc w.heap.size (fun _ => True) v117 t105) ∧ Aside0 (Kd.R kTie 74 wc w.heap.size (fun _ => True) (.slice Ao10 t107.length co10) t107) ∧ Aside0 (wc.heap[gb114]? = some (.cells #[.int .i64 t104, (.slice Ao10 t107.length co10)] 31 (0, 0))) ∧ Aside0 (Below w.heap.size w wc))
 case first =>
   have H := HC6.out
   clear HC6
   by_cases c14 : (t111 != t110) = true
   · rw [if_pos c14] at H
     have c14b0 : (t111 != t110) = true := c14
     (try (have c14b1 : decide (t111 = t110) = false := by simpa using c14))
     (try (have c14b2 : (t111 == t110) = false := by simpa using c14))
     (try (have c14b3 : ¬ (t111 = t110) := by simpa using c14))
     clear c14
     (first | rw [c14b0] | (simp only [i64_w, i32_w]; rw [c14b0]) | skip)
     have H' := Aside0.mk H
     clear H
     go_wp2
     go_meet
     case rel => exact ⟨_, (true), qs, H', ⟨by first | omega | exact Nat.le_refl _⟩, ⟨by (with_reducible repeat (first | apply Kd.R_alloc | apply Kd.R_drewN | apply Kd.R_drew)); exact Kd.R_mono HO118.out (fun _ hk => trivial)⟩, ⟨qr HO113.out⟩, ⟨qk BK114.out⟩, ⟨qb HB.out⟩⟩
   rw [if_neg c14] at H
   have c14b0 : (t111 != t110) = false := by simpa using c14
   (try (have c14b1 : decide (t111 = t110) = true := by simpa using c14))
   (try (have c14b2 : (t111 == t110) = true := by simpa using c14))
   clear c14
   (first | rw [c14b0] | (simp only [i64_w, i32_w]; rw [c14b0]) | skip)
   replace H := Option.bind_eq_some_iff.mp H
   obtain ⟨t106, A119, H⟩ := H
   have A15 := Aside0.mk A119
   clear A119
   have H' := Aside0.mk H
   clear H
   obtain ⟨Ao16, co16, eo16⟩ := Kd.R_slice HO118.out
   subst eo16
   obtain ⟨Ao17, co17, eo17⟩ := Kd.R_slice HO116.out
   subst eo17
   go_wp2_with (first | (go_at_call 28; (with_reducible refine (laws_loInts.calls k _ _ t105 _ _ t100 t106 _ ?side1 ?side2 ?side3 ?side4 A15.out).mono ?_); (case side1 => exact qc (Kd.R_reads' HO118.out).2.2); (case side2 => exact (Kd.R_reads' HO118.out).2.1); (case side3 => exact qc (Kd.R_reads' HO116.out).2.2); (case side4 => exact (Kd.R_reads' HO116.out).2.1); rintro e w' ⟨rfl, ⟨nd, rfl⟩⟩))
   go_meet
   case rel => exact ⟨_, (!t106), qs, H', ⟨by first | omega | exact Nat.le_refl _⟩, ⟨by (with_reducible repeat (first | apply Kd.R_alloc | apply Kd.R_drewN | apply Kd.R_drew)); exact Kd.R_mono HO118.out (fun _ hk => trivial)⟩, ⟨qr HO113.out⟩, ⟨qk BK114.out⟩, ⟨qb HB.out⟩⟩
 clear HC6
 try clear c1
 try clear c2
 try clear c2b0
 try clear c2b1
 try clear p2
 try clear c9
 try clear c14
 try clear c14b0
 try clear c14b1
 try clear c14b2
 try clear c16
 try clear hcz12_0
 try clear hcz12_1
 try clear hcz9_0
 try clear hcz9_1
 try clear hfz12_0
 try clear hfz12_1
 try clear hfz9_0
 try clear hfz9_1
 obtain ⟨kq, x43_5, rfl, HA, HJ5, HO_8, HO_100001, BK114, HB⟩ := hcut
 rcases kq with _ | kj5
 · exact absurd HA.out (by simp [laws_FnWayShort.j0])
 have H := HA.out
 clear HA
 simp only [laws_FnWayShort.j0] at H
 by_cases c18 : x43_5 = true
 · subst c18
   rw [if_pos rfl] at H
   obtain rfl := Option.some.inj H
   go_wp2
   go_ret
   exact ⟨qe, qb HB.out⟩
 replace c18 := Bool.eq_false_iff.mpr c18
 subst c18
 rw [if_neg nf] at H
 replace H := Option.bind_eq_some_iff.mp H
 obtain ⟨t101, A120, H⟩ := H
 have A19 := Aside0.mk A120
 clear A120
 have H' := Aside0.mk H
 clear H
 have hcz20_0 : wc.cell? ⟨gb114, 0, none⟩ = some (.int .i64 t104) := (blk_cell BK114.out 0).trans rfl
 have hcz20_1 : wc.cell? ⟨gb114, 1, none⟩ = some (.slice Ao10 t107.length co10) := (blk_cell BK114.out 1).trans rfl
 have hfz20_0 := blk_frozen BK114.out 0
 have hfz20_1 := blk_frozen BK114.out 1
 go_wp2_with (first | ((with_reducible refine gate_callee (f := 23) rfl ?_); refine gl 47 Try.func23 #[.agg #[.int .i64 t104, .slice Ao10 t107.length co10], .int .i64 t108, .int .i64 t109] ?_; (with_reducible refine (impl_WayAll.calls kj5 t104 _ _ t107 t108 t109 t101 _ ?side1 ?side2 A19.out).mono ?_); (case side1 => exact qc (Kd.R_reads' HO_100001.out).2.2); (case side2 => exact (Kd.R_reads' HO_100001.out).2.1); rintro e w21 ⟨v121, rfl, ho0, hb⟩; refine ⟨_, rfl, ?_⟩; replace HO_100001 := q0 (Kd.R_below (qr HO_100001.out) hb); have HO122 := q0 (Kd.S_lower (Kd.S_new' ho0 (Kd.R_lt (qr HO_8.out))) (below_size (qb HB.out))); replace HO_8 := q0 (Kd.R_below (qr HO_8.out) hb); replace BK114 := q0 (kb BK114.out hb); replace HB := q0 (below_step (qb HB.out) hb); (try clear hb); (try clear hb2); (try clear hk); (try clear hi); (try clear ho0)))
 go_loopg [11] kj5 (fun kq v11 w' => ∃ (x11_2 : Int), v11 = .int .i64 x11_2 ∧ Aside0 (laws_FnWayShort.l0 kq t105 t111 t101 x11_2 = some r) ∧ Aside0 (kq ≤ kj5) ∧ Aside0 (Kd.R (Kd.int .i64) 3 w' w.heap.size (fun _ => True) v117 t105) ∧ Aside0 (Kd.S (Kd.slice 3 (Kd.int .i64)) 26 w' w.heap.size (fun k_ => some k_ ≠ (v117 : Value).ownBlock) v121 t101) ∧ Aside0 (Kd.R kTie 74 w' w.heap.size (fun _ => True) (.slice Ao10 t107.length co10) t107) ∧ Aside0 (w'.heap[gb114]? = some (.cells #[.int .i64 t104, (.slice Ao10 t107.length co10)] 31 (0, 0))) ∧ Aside0 (Below w.heap.size w w'))
 case atStart => exact ⟨(0), qs, H', ⟨Nat.le_refl _⟩, ⟨qr HO_8.out⟩, ⟨by (with_reducible repeat (first | apply Kd.S_alloc | apply Kd.S_drewN | apply Kd.S_drew)); exact Kd.S_mono HO122.out (fun _ hk => hk.2)⟩, ⟨qr HO_100001.out⟩, ⟨qk BK114.out⟩, ⟨qb HB.out⟩⟩
 clear H'
 try clear c1
 try clear c2
 try clear c2b0
 try clear c2b1
 try clear p2
 try clear c9
 try clear c14
 try clear c14b0
 try clear c14b1
 try clear c14b2
 try clear c16
 try clear c18
 try clear hcz12_0
 try clear hcz12_1
 try clear hcz20_0
 try clear hcz20_1
 try clear hcz9_0
 try clear hcz9_1
 try clear hfz12_0
 try clear hfz12_1
 try clear hfz20_0
 try clear hfz20_1
 try clear hfz9_0
 try clear hfz9_1
 try clear p2
 obtain ⟨x11_2, rfl, HA, HK2, HO_8, HO_10, HO_100001, BK114, HB⟩ := hrel
 rcases gk with _ | k2
 · exact absurd HA.out (by simp [laws_FnWayShort.l0])
 have H := HA.out
 clear HA
 simp only [laws_FnWayShort.l0] at H
 by_cases c22 : x11_2 < (t101.length : Int)
 · rw [if_pos c22] at H
   have c22b0 : decide (x11_2 < (t101.length : Int)) = true := decide_eq_true c22
   clear c22
   by_cases c23 : 0 ≤ x11_2
   rotate_left
   · rw [if_neg c23] at H
     exact absurd H (by simp)
   rw [if_pos c23] at H
   have c23b0 : decide (0 ≤ x11_2) = true := decide_eq_true c23
   clear c23
   replace H := Option.bind_eq_some_iff.mp H
   obtain ⟨t102, A123, H⟩ := H
   have A24 := Aside0.mk A123
   clear A123
   by_cases c25 : t102 = true
   · subst c25
     rw [if_pos rfl] at H
     obtain rfl := Option.some.inj H
     obtain ⟨Ao26, co26, eo26⟩ := Kd.S_slice HO_10.out
     subst eo26
     have p124 : 0 ≤ (x11_2 : Int) := of_decide_eq_true qa
     have q124 : x11_2 < (t101.length : Int) := of_decide_eq_true qa
     obtain ⟨ad124, A124_0, c124_0, e124, hx124_0, hl124_0, hi124_0⟩ := at_LI (Kd.S_reads' HO_10.out).2.2 x11_2 p124 q124
     cases e124
     obtain ⟨ce124, hce124, hMe124, hcc124⟩ := Kd.S_get HO_10.out [] x11_2 p124 (by first | exact q124 | exact of_decide_eq_true qa | (have e_ := (Kd.S_reads' HO_10.out).1; omega))
     obtain ⟨ve124_0, rfl, ge124_0⟩ := hMe124
     have hv124_0 := hcc124 0 _ rfl
     rw [Nat.add_zero, show ((Kd.slice 3 (Kd.int .i64))).sz = 1 from rfl, Nat.mul_one] at hv124_0
     replace hv124_0 := Option.some.inj (hv124_0.symm.trans hx124_0)
     rw [hv124_0] at ge124_0
     have HL124_0 := q0 (show Kd.R (Kd.int .i64) 3 _ _ _ _ (rd_LI t101 x11_2) from ge124_0)
     clear hv124_0 ge124_0
     clear hcc124 hce124
     have HR124_0 := Aside0.mk hi124_0
     have HC124_0 := Aside0.mk hl124_0
     clear hi124_0 hl124_0
     replace p124 := eq_true p124
     replace q124 := eq_true q124
     obtain ⟨Ao27, co27, eo27⟩ := Kd.R_slice HO_8.out
     subst eo27
     go_wp2_with (first | ((with_reducible refine gate_callee (f := 33) rfl ?_); refine gl 59 Try.func33 #[.slice A124_0 (rd_LI t101 x11_2).length c124_0, .slice Ao27 t105.length co27] ?_; (with_reducible refine (laws_loAhead.calls k2 _ _ (rd_LI t101 x11_2) _ _ t105 true _ ?side1 ?side2 ?side3 ?side4 A24.out).mono ?_); (case side1 => repeat (first | exact (by repeat (first | (with_reducible exact HR124_0.out) | (with_reducible refine Kd.C_alloc ?_ _) | (with_reducible refine Kd.C_drewN ?_ _) | (with_reducible refine Kd.C_drew ?_) | exact HR124_0.out)) | (with_reducible refine Kd.C_alloc ?_ _) | (with_reducible refine Kd.C_drewN ?_ _) | (with_reducible refine Kd.C_drew ?_))); (case side2 => exact HC124_0.out); (case side3 => exact qc (Kd.R_reads' HO_8.out).2.2); (case side4 => exact (Kd.R_reads' HO_8.out).2.1); rintro e w' ⟨rfl, ⟨nd, rfl⟩⟩; refine ⟨_, rfl, ?_⟩))
     go_ret
     exact ⟨qe, qb HB.out⟩
   replace c25 := Bool.eq_false_iff.mpr c25
   subst c25
   rw [if_neg nf] at H
   have H' := Aside0.mk H
   clear H
   obtain ⟨Ao28, co28, eo28⟩ := Kd.S_slice HO_10.out
   subst eo28
   have p124 : 0 ≤ (x11_2 : Int) := of_decide_eq_true qa
   have q124 : x11_2 < (t101.length : Int) := of_decide_eq_true qa
   obtain ⟨ad124, A124_0, c124_0, e124, hx124_0, hl124_0, hi124_0⟩ := at_LI (Kd.S_reads' HO_10.out).2.2 x11_2 p124 q124
   cases e124
   obtain ⟨ce124, hce124, hMe124, hcc124⟩ := Kd.S_get HO_10.out [] x11_2 p124 (by first | exact q124 | exact of_decide_eq_true qa | (have e_ := (Kd.S_reads' HO_10.out).1; omega))
   obtain ⟨ve124_0, rfl, ge124_0⟩ := hMe124
   have hv124_0 := hcc124 0 _ rfl
   rw [Nat.add_zero, show ((Kd.slice 3 (Kd.int .i64))).sz = 1 from rfl, Nat.mul_one] at hv124_0
   replace hv124_0 := Option.some.inj (hv124_0.symm.trans hx124_0)
   rw [hv124_0] at ge124_0
   have HL124_0 := q0 (show Kd.R (Kd.int .i64) 3 _ _ _ _ (rd_LI t101 x11_2) from ge124_0)
   clear hv124_0 ge124_0
   clear hcc124 hce124
   have HR124_0 := Aside0.mk hi124_0
   have HC124_0 := Aside0.mk hl124_0
   clear hi124_0 hl124_0
   replace p124 := eq_true p124
   replace q124 := eq_true q124
   obtain ⟨Ao29, co29, eo29⟩ := Kd.R_slice HO_8.out
   subst eo29
   go_wp2_with (first | ((with_reducible refine gate_callee (f := 33) rfl ?_); refine gl 59 Try.func33 #[.slice A124_0 (rd_LI t101 x11_2).length c124_0, .slice Ao29 t105.length co29] ?_; (with_reducible refine (laws_loAhead.calls k2 _ _ (rd_LI t101 x11_2) _ _ t105 false _ ?side1 ?side2 ?side3 ?side4 A24.out).mono ?_); (case side1 => repeat (first | exact (by repeat (first | (with_reducible exact HR124_0.out) | (with_reducible refine Kd.C_alloc ?_ _) | (with_reducible refine Kd.C_drewN ?_ _) | (with_reducible refine Kd.C_drew ?_) | exact HR124_0.out)) | (with_reducible refine Kd.C_alloc ?_ _) | (with_reducible refine Kd.C_drewN ?_ _) | (with_reducible refine Kd.C_drew ?_))); (case side2 => exact HC124_0.out); (case side3 => exact qc (Kd.R_reads' HO_8.out).2.2); (case side4 => exact (Kd.R_reads' HO_8.out).2.1); rintro e w' ⟨rfl, ⟨nd, rfl⟩⟩; refine ⟨_, rfl, ?_⟩))
   go_roundg k2
   case measure => have := HJ5.out; have := HK2.out; omega
   case rel => exact ⟨(wrap64 (x11_2 + 1)), qs, H', ⟨by have := HJ5.out; have := HK2.out; omega⟩, ⟨qr HO_8.out⟩, ⟨qv HO_10.out⟩, ⟨qr HO_100001.out⟩, ⟨qk BK114.out⟩, ⟨qb HB.out⟩⟩
 rw [if_neg c22] at H
 have c22b0 : decide (x11_2 < (t101.length : Int)) = false := decide_eq_false c22
 clear c22
 by_cases c30 : (t111 == (decide ((t101.length : Int) > 0))) = true
 rotate_left
 · rw [if_neg c30] at H
   have c30b0 : (t111 == (decide ((t101.length : Int) > 0))) = false := by simpa using c30
   have c30b8 : (t111 = decide (0 < t101.length)) = False := eq_false (by simpa using c30b0)
   have c30b9 : (t111 == decide (0 < t101.length)) = false := by simpa using c30b0
   (try (have c30b1 : decide (t111 = (decide ((t101.length : Int) > 0))) = false := by simpa using c30))
   (try (have c30b2 : (t111 == (decide ((t101.length : Int) > 0))) = false := by simpa using c30))
   (try (have c30b3 : ¬ (t111 = (decide ((t101.length : Int) > 0))) := by simpa using c30))
   clear c30
   obtain rfl := Option.some.inj H
   obtain ⟨Ao37, co37, eo37⟩ := Kd.S_slice HO_10.out
   subst eo37
   go_wp2
   go_ret
   exact ⟨qe, qb HB.out⟩
 rw [if_pos c30] at H
 have c30b0 : (t111 == (decide ((t101.length : Int) > 0))) = true := c30
 have c30b8 : (t111 = decide (0 < t101.length)) = True := eq_true (by simpa using c30b0)
 have c30b9 : (t111 == decide (0 < t101.length)) = true := by simpa using c30b0
 (try (have c30b1 : decide (t111 = (decide ((t101.length : Int) > 0))) = true := by simpa using c30))
 (try (have c30b2 : (t111 == (decide ((t101.length : Int) > 0))) = true := by simpa using c30))
 clear c30
 by_cases c31 : t111 = true
 rotate_left
 · replace c31 := Bool.eq_false_iff.mpr c31
   subst c31
   rw [if_neg nf] at H
   obtain rfl := Option.some.inj H
   obtain ⟨Ao36, co36, eo36⟩ := Kd.S_slice HO_10.out
   subst eo36
   go_wp2
   go_ret
   exact ⟨qe, qb HB.out⟩
 subst c31
 rw [if_pos rfl] at H
 by_cases c32 : 0 < (t101.length : Int)
 rotate_left
 · rw [if_neg c32] at H
   exact absurd H (by simp)
 rw [if_pos c32] at H
 have c32b0 : decide (0 < (t101.length : Int)) = true := decide_eq_true c32
 have c32b1 : decide (0 < t101.length) = true := decide_eq_true (by omega)
 clear c32
 replace H := Option.bind_eq_some_iff.mp H
 obtain ⟨t103, A125, H⟩ := H
 have A33 := Aside0.mk A125
 clear A125
 obtain rfl := Option.some.inj H
 obtain ⟨Ao34, co34, eo34⟩ := Kd.S_slice HO_10.out
 subst eo34
 have p126 : 0 ≤ (0 : Int) := (by omega)
 have q126 : 0 < (t101.length : Int) := of_decide_eq_true qa
 obtain ⟨ad126, A126_0, c126_0, e126, hx126_0, hl126_0, hi126_0⟩ := at_LI (Kd.S_reads' HO_10.out).2.2 0 p126 q126
 cases e126
 obtain ⟨ce126, hce126, hMe126, hcc126⟩ := Kd.S_get HO_10.out [] 0 p126 (by first | exact q126 | exact of_decide_eq_true qa | (have e_ := (Kd.S_reads' HO_10.out).1; omega))
 obtain ⟨ve126_0, rfl, ge126_0⟩ := hMe126
 have hv126_0 := hcc126 0 _ rfl
 rw [Nat.add_zero, show ((Kd.slice 3 (Kd.int .i64))).sz = 1 from rfl, Nat.mul_one] at hv126_0
 replace hv126_0 := Option.some.inj (hv126_0.symm.trans hx126_0)
 rw [hv126_0] at ge126_0
 have HL126_0 := q0 (show Kd.R (Kd.int .i64) 3 _ _ _ _ (rd_LI t101 0) from ge126_0)
 clear hv126_0 ge126_0
 clear hcc126 hce126
 have qi126 : (0 < t101.length) = True := eq_true (by omega)
 (try rw [show ((0 : Int)).toNat = 0 from rfl] at hx126_0)
 (try rw [Addr.add_zero'] at hx126_0)
 have HR126_0 := Aside0.mk hi126_0
 have HC126_0 := Aside0.mk hl126_0
 clear hi126_0 hl126_0
 replace p126 := eq_true p126
 replace q126 := eq_true q126
 obtain ⟨Ao35, co35, eo35⟩ := Kd.R_slice HO_8.out
 subst eo35
 go_wp2_with (first | (go_at_call 28; (with_reducible refine (laws_loInts.calls k2 _ _ (rd_LI t101 0) _ _ t105 t103 _ ?side1 ?side2 ?side3 ?side4 A33.out).mono ?_); (case side1 => repeat (first | exact (by repeat (first | (with_reducible exact HR126_0.out) | (with_reducible refine Kd.C_alloc ?_ _) | (with_reducible refine Kd.C_drewN ?_ _) | (with_reducible refine Kd.C_drew ?_) | exact HR126_0.out)) | (with_reducible refine Kd.C_alloc ?_ _) | (with_reducible refine Kd.C_drewN ?_ _) | (with_reducible refine Kd.C_drew ?_))); (case side2 => exact HC126_0.out); (case side3 => exact qc (Kd.R_reads' HO_8.out).2.2); (case side4 => exact (Kd.R_reads' HO_8.out).2.1); rintro e w' ⟨rfl, ⟨nd, rfl⟩⟩))
 go_ret
 exact ⟨qe, qb HB.out⟩

theorem laws_FnWayShort.walk (P : laws_FnWayShort.Pure) (a0 : Option Addr) (len0 cap0 : Nat) (z0 : List Int) (w : World) (w0 : (a0 = none ∧ len0 = 0 ∧ cap0 = 0 ∧ z0 = []) ∨ ∃ x, a0 = some x ∧ len0 ≤ cap0 ∧ cap0 ≤ maxLen ∧ z0.length = cap0 ∧ (∀ i, i < z0.length → w.cell? (x.add i) = some (.int .u8 (z0.getD i 0))) ∧ ∀ n ∈ z0, (Lit.int .u8 n).wf = true) (y0 : len0 * 1 ≤ 140737488351232) :
    Calls Try.prog 9 #[.slice a0 len0 cap0] w fun e w' => e = .returned (.bool true) ∧ Below w.heap.size w w' := by
  obtain ⟨l0, rfl, hr0, hm0, hw0, hc0⟩ := ReadsInt.ofRowC w0
  obtain ⟨k, h⟩ := P l0 hm0 y0 hw0
  refine (laws_FnWayShort.calls k _ _ l0 true w (Kd.C_of_reads (d := (0 : Int)) (h1 := fun _ => rfl) hr0) hc0 h).mono ?_
  rintro e w' ⟨rfl, hd⟩
  exact ⟨rfl, hd⟩
end Go.Proofs.Ytmfmeenfhdohcaa.P
