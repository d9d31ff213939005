import Derived.Test.YtgoembpmhlmafaaP0
import Derived.Test.YtgoembpmhlmafaaP3
import Derived.Test.YtgoembpmhlmafaaP4
import Derived.Test.YtgoembpmhlmafaaP5
import Derived.Test.YtgoembpmhlmafaaP6
import Derived.Test.YtgoembpmhlmafaaP8
namespace Go.Proofs.Ytgoembpmhlmafaa.P
open Go.RowKit Go.Proofs.YtgoembpmhlmafaaW.PrintWords Go.Proofs.YtgoembpmhlmafaaW.PrintLast Go.Proofs.YtgoembpmhlmafaaW.PrintMore
attribute [local go_sem] max2_int min2_int max_two min_two max_three min_three max_four min_four
set_option linter.unusedVariables false
set_option linter.unusedSimpArgs false
attribute [local go_sem high] eqATie
def laws_FnTreeSwap.T10 : Bool × List (List Nat × List Nat) := (true, [([], []), ([], []), ([], []), ([1, 2], [1, 2]), ([3], [3]), ([], []), ([], []), ([6], [6]), ([5, 7], [5, 7]), ([8], [8]), ([0, 4, 9], [0, 4, 9]), ([10], [10]), ([11], [11]), ([11], [11]), ([], []), ([14, 12, 10, 0, 1, 2, 3, 4, 5, 6, 7, 8, 9, 10, 11, 12, 14], [12, 14]), ([13, 15, 0, 1, 2, 3, 4, 5, 6, 7, 8, 9, 10, 11, 12, 13, 14, 15], [13])])
def laws_FnTreeSwap.B10 : List Nat := [0, 0, 0, 6, 14, 0, 0, 64, 224, 480, 1023, 2047, 4095, 4095, 0, 24575, 65535]
theorem laws_FnTreeSwap.tab10 : rtab .any (opsOf Try.f13 10) = laws_FnTreeSwap.T10 := by kernel_rfl
theorem laws_FnTreeSwap.bits10 : waitsOk laws_FnTreeSwap.T10.2 laws_FnTreeSwap.B10 = true := by kernel_rfl
def laws_FnTreeSwap.T11 : Bool × List (List Nat × List Nat) := (true, [([], []), ([], []), ([1], [1]), ([2], [2]), ([], []), ([], []), ([5], [5]), ([6], [6]), ([4, 7], [4, 7]), ([8], [8]), ([0, 3, 9], [0, 3, 9]), ([10], [10]), ([11], [11]), ([11], [11]), ([], []), ([14, 12, 10, 0, 1, 2, 3, 4, 5, 6, 7, 8, 9, 10, 11, 12, 14], [12, 14]), ([13, 15, 0, 1, 2, 3, 4, 5, 6, 7, 8, 9, 10, 11, 12, 13, 14, 15], [13])])
def laws_FnTreeSwap.B11 : List Nat := [0, 0, 2, 6, 0, 0, 32, 96, 240, 496, 1023, 2047, 4095, 4095, 0, 24575, 65535]
theorem laws_FnTreeSwap.tab11 : rtab .any (opsOf Try.f13 11) = laws_FnTreeSwap.T11 := by kernel_rfl
theorem laws_FnTreeSwap.bits11 : waitsOk laws_FnTreeSwap.T11.2 laws_FnTreeSwap.B11 = true := by kernel_rfl
set_option maxHeartbeats 8000000 in
set_option maxRecDepth 100000 in
theorem laws_FnTreeSwap.calls (k : Nat) (A0 : Option Addr) (c0 : Nat) (l0 : List Int) (A1 : Option Addr) (c1 : Nat) (l1 : List Int) (r : Bool) (w : World) (hr0 : Kd.C (Kd.int .u8) w A0 l0.length l0) (hc0 : l0.length ≤ c0) (hr1 : Kd.C (Kd.int .u8) w A1 l1.length l1) (hc1 : l1.length ≤ c1) (h : laws_FnTreeSwap.f k l0 l1 = some r) :
  Calls Try.prog 13 #[.slice A0 l0.length c0, .slice A1 l1.length c1] w fun e w' => e = .returned (.bool r) ∧ Below w.heap.size w w' := by
 have hu25 := Try.underlying25
 have HR0 := q0 hr0
 have HC0 := q0 hc0
 clear hr0 hc0
 have HR1 := q0 hr1
 have HC1 := q0 hc1
 clear hr1 hc1
 have HB := q0 (Below.refl w.heap.size w)
 have H : (if (l0.length : Int) > 1048576 then (laws_FnTreeSwap.j0 k l0 l1 true) else (laws_FnTreeSwap.j0 k l0 l1 (decide ((l1.length : Int) > 1048576)))) = some r := h
 clear h
 have HC3 := q0 H
 clear H
 go_enter Try.func13, Try.ntmps13
 go_upto_region 1 with (fail)
 go_cut [21] (fun v21 wc => ∃ (kq : Nat) (x21_2 : Bool), v21 = .bool x21_2 ∧ Aside0 (laws_FnTreeSwap.j0 kq l0 l1 x21_2 = some r) ∧ Aside0 (kq ≤ k) ∧ Aside0 (Below w.heap.size w wc))
 case first =>
  have H := HC3.out
  clear HC3
  by_cases c4 : (l0.length : Int) > 1048576
  ·rw [if_pos c4] at H
   have c4b0 := decide_eq_true c4
   have c4b1 : decide (1048576 < l0.length) = true := decide_eq_true (by omega)
   clear c4
   (first | rw [c4b0] | (simp only [i64_w, i32_w]; rw [c4b0]) | skip)
   have H' := q0 H
   clear H
   go_wp2
   go_meet
   case rel => exact ⟨_, (true), qs, H', ⟨by first | omega | exact Nat.le_refl _⟩, ⟨qb HB.out⟩⟩
  rw [if_neg c4] at H
  have c4b0 := decide_eq_false c4
  have c4b1 : decide (1048576 < l0.length) = false := decide_eq_false (by omega)
  clear c4
  (first | rw [c4b0] | (simp only [i64_w, i32_w]; rw [c4b0]) | skip)
  have H' := q0 H
  clear H
  go_wp2
  go_meet
  case rel => exact ⟨_, (decide ((l1.length : Int) > 1048576)), qs, H', ⟨by first | omega | exact Nat.le_refl _⟩, ⟨qb HB.out⟩⟩
 clear HC3
 try clear c1
 try clear p2
 try clear c4
 try clear c4b0
 try clear c4b1
 obtain ⟨kq, x21_2, rfl, HA, HJ2, HB⟩ := hcut
 rcases kq with _ | kj2
 ·exact absurd HA.out (by simp [laws_FnTreeSwap.j0])
 have H := HA.out
 clear HA
 simp only [laws_FnTreeSwap.j0] at H
 by_cases c5 : x21_2 = true
 ·subst c5
  rw [if_pos rfl] at H
  obtain rfl := Option.some.inj H
  go_wp2
  go_ret
  exact ⟨qe, qb HB.out⟩
 replace c5 := Bool.eq_false_iff.mpr c5
 subst c5
 rw [if_neg nf] at H
 obtain ⟨⟨t100, t110⟩, A6, H⟩ := ob H
 obtain ⟨t101, A7, H⟩ := ob H
 have HC8 := q0 H
 clear H
 go_upto_region 5 with (first | ((with_reducible refine gf 47 ?_); refine gl 23 Try.func47 #[.slice A0 l0.length c0] ?_; (with_reducible refine (spec_DrawTreeRings.calls kj2 _ _ l0 t100 t110 _ ?side1 ?side2 A6.out).mono ?_); (case side1 => exact qc (Kd.C_below HR0.out HB.out)); (case side2 => exact HC0.out); rintro e w9 ⟨v111, rfl, ho0, hb⟩; refine ⟨_, rfl, ?_⟩; have HO112 := q0 (Kd.R_lower ho0 (below_size (qb HB.out))); replace HB := bp HB hb; (try clear hb); (try clear hb2); (try clear hk); (try clear hi); (try clear ho0)) | ((with_reducible refine gd 5 ?_); (try (refine gate_guard (by rfl) ?_; dsimp only)); refine be 5 #[.int .i64 0, .slice none 0 0] 25 ?_; intro gb113 hg w10 hbox hb; replace HO112 := q0 (Kd.R_below (qr HO112.out) hb); have BK113 := q0 (hbox); have GW113 := gw HB hg; have GE113 := gw HB hg; replace HB := bp HB hb; clear hb hbox hg; obtain ⟨hcz11_0, hcz11_1, hfz11_0, hfz11_1⟩ := b2 BK113; obtain ⟨Ao12, co12, eo12⟩ := Kd.R_slice HO112.out; subst eo12) | ((with_reducible refine gf 43 ?_); refine gl 25 Try.func43 #[.agg #[.int .i64 t100, .slice Ao12 t110.length co12]] ?_; (with_reducible refine (impl_TreeRings.calls kj2 t100 _ _ t110 t101 _ ?side1 ?side2 A7.out).mono ?_); (case side1 => refine (Kd.R_reads' (e := 32) (base := w.heap.size) (ok := fun k_ => True) (n := t110.length) (c := co12) ?_).2.2; exact (by (with_reducible repeat (first | apply Kd.R_alloc | apply Kd.R_drewN | apply Kd.R_drew)); exact (rf2 HO112.out BK113.out (fun _ h_ => h_.1)))); (case side2 => exact (Kd.R_reads' HO112.out).2.1); rintro e w13 ⟨v114, rfl, ho0, hb⟩; refine ⟨_, rfl, ?_⟩; replace HO112 := q0 (Kd.R_below (by (with_reducible repeat (first | apply Kd.R_alloc | apply Kd.R_drewN | apply Kd.R_drew)); exact (rf2 HO112.out BK113.out (fun _ h_ => h_.1))) hb); have HO115 := q0 (Kd.S_lower ho0 (below_size (qb HB.out))); replace BK113 := q0 (blk_below (g := gb113) (o := .cells #[.int .i64 t100, .slice Ao12 t110.length co12] 25 (0, 0)) (by (with_reducible repeat (first | refine blk_drewN ?_ _ | refine blk_drew ?_ | refine blk_alloc ?_ _)); refine blk_put (cs := #[.int .i64 t100, .slice none 0 0]) ?_ 1 _ rfl; (with_reducible repeat (first | refine blk_drewN ?_ _ | refine blk_drew ?_ | refine blk_alloc ?_ _)); refine blk_put (cs := #[.int .i64 0, .slice none 0 0]) ?_ 0 _ rfl; (with_reducible repeat (first | refine blk_drewN ?_ _ | refine blk_drew ?_ | refine blk_alloc ?_ _)); exact BK113.out) hb); replace HB := bp HB hb; (try clear hb); (try clear hb2); (try clear hk); (try clear hi); (try clear ho0)))
 (try simp only [Act.put, List.setIfInBounds_toArray, List.set_cons_zero, List.set_cons_succ])
 go_cut [35] (fun v35 wc => ∃ (kq : Nat) (x35_7 : Bool), v35 = .bool x35_7 ∧ Aside0 (laws_FnTreeSwap.j1 kq l1 t101 x35_7 t100 t110 = some r) ∧ Aside0 (kq ≤ kj2) ∧ Aside0 (Kd.S (Kd.slice 3 (Kd.int .i64)) 60 wc w.heap.size (fun _ => True) v114 t101) ∧ Aside0 (Kd.R kTie 32 wc w.heap.size (fun _ => True) (.slice Ao12 t110.length co12) t110) ∧ Aside0 (wc.heap[gb113]? = some (.cells #[.int .i64 t100, (.slice Ao12 t110.length co12)] 25 (0, 0))) ∧ Aside0 (Below w.heap.size w wc))
 case first =>
  have H := HC8.out
  clear HC8
  obtain ⟨t102, A14, H⟩ := ob H
  obtain ⟨t103, A15, H⟩ := ob H
  by_cases c16 : t103 = true
  ·subst c16
   rw [if_pos rfl] at H
   have H' := q0 H
   clear H
   obtain ⟨hcz17_0, hcz17_1, hfz17_0, hfz17_1⟩ := b2 BK113
   go_wp2_with (first | ((with_reducible refine gf 42 ?_); refine gl 28 Try.func42 #[.agg #[.int .i64 t100, .slice Ao12 t110.length co12]] ?_; (with_reducible refine (spec_TreeRings.calls kj2 t100 _ _ t110 t102 _ ?side1 ?side2 A14.out).mono ?_); (case side1 => exact qc (Kd.R_reads' HO112.out).2.2); (case side2 => exact (Kd.R_reads' HO112.out).2.1); rintro e w18 ⟨v118, rfl, ho0, hb⟩; refine ⟨_, rfl, ?_⟩; replace HO112 := q0 (Kd.R_below (qr HO112.out) hb); have HO119 := q0 (Kd.S_lower (Kd.S_new' ho0 (Kd.S_lt (qv HO115.out))) (below_size (qb HB.out))); replace HO115 := q0 (Kd.S_elder' (qv HO115.out) (Kd.S_base ho0) hb); replace BK113 := kd BK113 hb; replace HB := bp HB hb; (try clear hb); (try clear hb2); (try clear hk); (try clear hi); (try clear ho0); obtain ⟨Ao19, co19, eo19⟩ := Kd.S_slice HO115.out; subst eo19; obtain ⟨Ao20, co20, eo20⟩ := Kd.S_slice HO119.out; subst eo20) | ((with_reducible refine gf 48 ?_); refine gl 29 Try.func48 #[.slice Ao19 t101.length co19, .slice Ao20 t102.length co20] ?_; (with_reducible refine (laws_loRows.calls kj2 _ _ t101 _ _ t102 true _ ?side1 ?side2 ?side3 ?side4 A15.out).mono ?_); (case side1 => exact qc (Kd.S_reads' HO115.out).2.2); (case side2 => exact (Kd.S_reads' HO115.out).2.1); (case side3 => exact qc (Kd.S_reads' HO119.out).2.2); (case side4 => exact (Kd.S_reads' HO119.out).2.1); rintro e w' ⟨rfl, ⟨nd, rfl⟩⟩; refine ⟨_, rfl, ?_⟩))
   go_meet
   case rel => exact ⟨_, (((t101.length : Int) == 0)), qs, H', ⟨by have := HJ2.out; first | omega | exact Nat.le_refl _⟩, ⟨by (with_reducible repeat (first | apply Kd.S_alloc | apply Kd.S_drewN | apply Kd.S_drew)); exact Kd.S_mono HO115.out (fun _ hk => trivial)⟩, ⟨qr HO112.out⟩, ⟨qk BK113.out⟩, ⟨qb HB.out⟩⟩
  replace c16 := Bool.eq_false_iff.mpr c16
  subst c16
  rw [if_neg nf] at H
  have H' := q0 H
  clear H
  obtain ⟨hcz21_0, hcz21_1, hfz21_0, hfz21_1⟩ := b2 BK113
  go_wp2_with (first | ((with_reducible refine gf 42 ?_); refine gl 28 Try.func42 #[.agg #[.int .i64 t100, .slice Ao12 t110.length co12]] ?_; (with_reducible refine (spec_TreeRings.calls kj2 t100 _ _ t110 t102 _ ?side1 ?side2 A14.out).mono ?_); (case side1 => exact qc (Kd.R_reads' HO112.out).2.2); (case side2 => exact (Kd.R_reads' HO112.out).2.1); rintro e w22 ⟨v118, rfl, ho0, hb⟩; refine ⟨_, rfl, ?_⟩; replace HO112 := q0 (Kd.R_below (qr HO112.out) hb); have HO119 := q0 (Kd.S_lower (Kd.S_new' ho0 (Kd.S_lt (qv HO115.out))) (below_size (qb HB.out))); replace HO115 := q0 (Kd.S_elder' (qv HO115.out) (Kd.S_base ho0) hb); replace BK113 := kd BK113 hb; replace HB := bp HB hb; (try clear hb); (try clear hb2); (try clear hk); (try clear hi); (try clear ho0); obtain ⟨Ao23, co23, eo23⟩ := Kd.S_slice HO115.out; subst eo23; obtain ⟨Ao24, co24, eo24⟩ := Kd.S_slice HO119.out; subst eo24) | ((with_reducible refine gf 48 ?_); refine gl 29 Try.func48 #[.slice Ao23 t101.length co23, .slice Ao24 t102.length co24] ?_; (with_reducible refine (laws_loRows.calls kj2 _ _ t101 _ _ t102 false _ ?side1 ?side2 ?side3 ?side4 A15.out).mono ?_); (case side1 => exact qc (Kd.S_reads' HO115.out).2.2); (case side2 => exact (Kd.S_reads' HO115.out).2.1); (case side3 => exact qc (Kd.S_reads' HO119.out).2.2); (case side4 => exact (Kd.S_reads' HO119.out).2.1); rintro e w' ⟨rfl, ⟨nd, rfl⟩⟩; refine ⟨_, rfl, ?_⟩))
  go_meet
  case rel => exact ⟨_, (true), qs, H', ⟨by have := HJ2.out; first | omega | exact Nat.le_refl _⟩, ⟨by (with_reducible repeat (first | apply Kd.S_alloc | apply Kd.S_drewN | apply Kd.S_drew)); exact Kd.S_mono HO115.out (fun _ hk => trivial)⟩, ⟨qr HO112.out⟩, ⟨qk BK113.out⟩, ⟨qb HB.out⟩⟩
 clear HC8
 try clear c1
 try clear p2
 try clear c4
 try clear c4b0
 try clear c4b1
 try clear c5
 try clear c13
 try clear c16
 try clear hcz11_0
 try clear hcz11_1
 try clear hcz17_0
 try clear hcz17_1
 try clear hcz21_0
 try clear hcz21_1
 try clear hfz11_0
 try clear hfz11_1
 try clear hfz17_0
 try clear hfz17_1
 try clear hfz21_0
 try clear hfz21_1
 try clear p2
 obtain ⟨kq, x35_7, rfl, HA, HJ7, HO_6, HO_101001, BK113, HB⟩ := hcut
 rcases kq with _ | kj7
 ·exact absurd HA.out (by simp [laws_FnTreeSwap.j1])
 have H := HA.out
 clear HA
 simp only [laws_FnTreeSwap.j1] at H
 by_cases c25 : x35_7 = true
 ·subst c25
  rw [if_pos rfl] at H
  obtain ⟨t104, A26, H⟩ := ob H
  obtain ⟨t105, A27, H⟩ := ob H
  obtain rfl := Option.some.inj H
  obtain ⟨hcz28_0, hcz28_1, hfz28_0, hfz28_1⟩ := b2 BK113
  go_wp2_with (first | ((with_reducible refine gf 42 ?_); refine gl 38 Try.func42 #[.agg #[.int .i64 t100, .slice Ao12 t110.length co12]] ?_; (with_reducible refine (spec_TreeRings.calls kj7 t100 _ _ t110 t104 _ ?side1 ?side2 A26.out).mono ?_); (case side1 => exact qc (Kd.R_reads' HO_101001.out).2.2); (case side2 => exact (Kd.R_reads' HO_101001.out).2.1); rintro e w29 ⟨v122, rfl, ho0, hb⟩; refine ⟨_, rfl, ?_⟩; replace HO_101001 := q0 (Kd.R_below (qr HO_101001.out) hb); have HO123 := q0 (Kd.S_lower (Kd.S_new' ho0 (Kd.S_lt (qv HO_6.out))) (below_size (qb HB.out))); replace HO_6 := q0 (Kd.S_elder' (qv HO_6.out) (Kd.S_base ho0) hb); replace BK113 := kd BK113 hb; replace HB := bp HB hb; (try clear hb); (try clear hb2); (try clear hk); (try clear hi); (try clear ho0); obtain ⟨Ao30, co30, eo30⟩ := Kd.S_slice HO_6.out; subst eo30; obtain ⟨Ao31, co31, eo31⟩ := Kd.S_slice HO123.out; subst eo31) | ((with_reducible refine gf 48 ?_); refine gl 39 Try.func48 #[.slice Ao30 t101.length co30, .slice Ao31 t104.length co31] ?_; (with_reducible refine (laws_loRows.calls kj7 _ _ t101 _ _ t104 t105 _ ?side1 ?side2 ?side3 ?side4 A27.out).mono ?_); (case side1 => exact qc (Kd.S_reads' HO_6.out).2.2); (case side2 => exact (Kd.S_reads' HO_6.out).2.1); (case side3 => exact qc (Kd.S_reads' HO123.out).2.2); (case side4 => exact (Kd.S_reads' HO123.out).2.1); rintro e w' ⟨rfl, ⟨nd, rfl⟩⟩; refine ⟨_, rfl, ?_⟩))
  go_ret
  exact ⟨qe, qb HB.out⟩
 replace c25 := Bool.eq_false_iff.mpr c25
 subst c25
 rw [if_neg nf] at H
 by_cases c32 : (t101.length : Int) = 0
 ·rw [if_pos c32] at H
  exact absurd H (by simp)
 rw [if_neg c32] at H
 have c32b0 : ((t101.length : Int) == 0) = false := beq_eq_false_iff_ne.mpr c32
 have c32b1 : ((t101.length : Int) != 0) = true := bne_iff_ne.mpr c32
 have c32b2 : ¬ (t101 = []) := fun h_ => c32 (by rw [h_]; rfl)
 obtain ⟨ji33, hji33⟩ : ∃ j_ : Int, ((l1.length : Int) % (t101.length : Int)) = j_ := ⟨_, rfl⟩
 replace H : (if 0 ≤ (ji33) then (if (ji33) < (t101.length : Int) then ((impl_TreeOf.f kj7 t100 t110).bind fun t106 => (if (wrap64 (((rd_LI t101 (ji33)).length : Int) - 1)) = 0 then (none) else (if 0 ≤ (Int.tmod (wrap64 ((l1.length : Int) / (t101.length : Int))) (wrap64 (((rd_LI t101 (ji33)).length : Int) - 1))) then (if (Int.tmod (wrap64 ((l1.length : Int) / (t101.length : Int))) (wrap64 (((rd_LI t101 (ji33)).length : Int) - 1))) < ((rd_LI t101 (ji33)).length : Int) then (if 0 ≤ (wrap64 ((Int.tmod (wrap64 ((l1.length : Int) / (t101.length : Int))) (wrap64 (((rd_LI t101 (ji33)).length : Int) - 1))) + 1)) then (if (wrap64 ((Int.tmod (wrap64 ((l1.length : Int) / (t101.length : Int))) (wrap64 (((rd_LI t101 (ji33)).length : Int) - 1))) + 1)) < ((rd_LI t101 (ji33)).length : Int) then ((impl_NetCut.f kj7 t100 t106 (rd (rd_LI t101 (ji33)) (Int.tmod (wrap64 ((l1.length : Int) / (t101.length : Int))) (wrap64 (((rd_LI t101 (ji33)).length : Int) - 1)))) (rd (rd_LI t101 (ji33)) (wrap64 ((Int.tmod (wrap64 ((l1.length : Int) / (t101.length : Int))) (wrap64 (((rd_LI t101 (ji33)).length : Int) - 1))) + 1)))).bind fun bt107 => (if 0 < ((rd_LI t101 (ji33)).length : Int) then (if 0 ≤ (wrap64 (((rd_LI t101 (ji33)).length : Int) - 1)) then (if (wrap64 (((rd_LI t101 (ji33)).length : Int) - 1)) < ((rd_LI t101 (ji33)).length : Int) then ((impl_NetAdd.f kj7 bt107.1 bt107.2.1 (rd (rd_LI t101 (ji33)) 0) (rd (rd_LI t101 (ji33)) (wrap64 (((rd_LI t101 (ji33)).length : Int) - 1)))).bind fun bt108 => (if bt107.2.2 = true then (if bt108.2.2 = true then ((impl_TreeOk.f kj7 t100 t110 bt108.2.1).bind fun t109 => (some t109)) else (none)) else (none))) else (none)) else (none)) else (none))) else (none)) else (none)) else (none)) else (none)))) else (none)) else (none)) = some r := by first | (rw [hji33] at H; exact H) | (simp only [hji33] at H ⊢; exact H)
 obtain ⟨c34, H⟩ : (0 ≤ (ji33)) ∧ _ := og H
 have c34b0 := decide_eq_true c34
 clear c34
 obtain ⟨c35, H⟩ : ((ji33) < (t101.length : Int)) ∧ _ := og H
 have c35b0 := decide_eq_true c35
 clear c35
 obtain ⟨t106, A36, H⟩ := ob H
 by_cases c37 : (wrap64 (((rd_LI t101 (ji33)).length : Int) - 1)) = 0
 ·rw [if_pos c37] at H
  exact absurd H (by simp)
 rw [if_neg c37] at H
 have c37b0 : ((wrap64 (((rd_LI t101 (ji33)).length : Int) - 1)) == 0) = false := beq_eq_false_iff_ne.mpr c37
 have c37b1 : ((wrap64 (((rd_LI t101 (ji33)).length : Int) - 1)) != 0) = true := bne_iff_ne.mpr c37
 obtain ⟨ji38, hji38⟩ : ∃ j_ : Int, (Int.tmod (wrap64 ((l1.length : Int) / (t101.length : Int))) (wrap64 (((rd_LI t101 (ji33)).length : Int) - 1))) = j_ := ⟨_, rfl⟩
 replace H : (if 0 ≤ (ji38) then (if (ji38) < ((rd_LI t101 (ji33)).length : Int) then (if 0 ≤ (wrap64 ((ji38) + 1)) then (if (wrap64 ((ji38) + 1)) < ((rd_LI t101 (ji33)).length : Int) then ((impl_NetCut.f kj7 t100 t106 (rd (rd_LI t101 (ji33)) (ji38)) (rd (rd_LI t101 (ji33)) (wrap64 ((ji38) + 1)))).bind fun bt107 => (if 0 < ((rd_LI t101 (ji33)).length : Int) then (if 0 ≤ (wrap64 (((rd_LI t101 (ji33)).length : Int) - 1)) then (if (wrap64 (((rd_LI t101 (ji33)).length : Int) - 1)) < ((rd_LI t101 (ji33)).length : Int) then ((impl_NetAdd.f kj7 bt107.1 bt107.2.1 (rd (rd_LI t101 (ji33)) 0) (rd (rd_LI t101 (ji33)) (wrap64 (((rd_LI t101 (ji33)).length : Int) - 1)))).bind fun bt108 => (if bt107.2.2 = true then (if bt108.2.2 = true then ((impl_TreeOk.f kj7 t100 t110 bt108.2.1).bind fun t109 => (some t109)) else (none)) else (none))) else (none)) else (none)) else (none))) else (none)) else (none)) else (none)) else (none)) = some r := by first | (rw [hji38] at H; exact H) | (simp only [hji38] at H ⊢; exact H)
 (try rw [hji38] at A36)
 obtain ⟨c39, H⟩ : (0 ≤ (ji38)) ∧ _ := og H
 have c39b0 := decide_eq_true c39
 clear c39
 obtain ⟨c40, H⟩ : ((ji38) < ((rd_LI t101 (ji33)).length : Int)) ∧ _ := og H
 have c40b0 := decide_eq_true c40
 clear c40
 obtain ⟨ji41, hji41⟩ : ∃ j_ : Int, (wrap64 ((ji38) + 1)) = j_ := ⟨_, rfl⟩
 replace H : (if 0 ≤ (ji41) then (if (ji41) < ((rd_LI t101 (ji33)).length : Int) then ((impl_NetCut.f kj7 t100 t106 (rd (rd_LI t101 (ji33)) (ji38)) (rd (rd_LI t101 (ji33)) (ji41))).bind fun bt107 => (if 0 < ((rd_LI t101 (ji33)).length : Int) then (if 0 ≤ (wrap64 (((rd_LI t101 (ji33)).length : Int) - 1)) then (if (wrap64 (((rd_LI t101 (ji33)).length : Int) - 1)) < ((rd_LI t101 (ji33)).length : Int) then ((impl_NetAdd.f kj7 bt107.1 bt107.2.1 (rd (rd_LI t101 (ji33)) 0) (rd (rd_LI t101 (ji33)) (wrap64 (((rd_LI t101 (ji33)).length : Int) - 1)))).bind fun bt108 => (if bt107.2.2 = true then (if bt108.2.2 = true then ((impl_TreeOk.f kj7 t100 t110 bt108.2.1).bind fun t109 => (some t109)) else (none)) else (none))) else (none)) else (none)) else (none))) else (none)) else (none)) = some r := by first | (rw [hji41] at H; exact H) | (simp only [hji41] at H ⊢; exact H)
 (try rw [hji41] at A36)
 have hji41w : (IntKind.i64.wrap ((ji38) + 1)) = ji41 := (i64_w _).trans hji41
 obtain ⟨c42, H⟩ : (0 ≤ (ji41)) ∧ _ := og H
 have c42b0 := decide_eq_true c42
 clear c42
 obtain ⟨c43, H⟩ : ((ji41) < ((rd_LI t101 (ji33)).length : Int)) ∧ _ := og H
 have c43b0 := decide_eq_true c43
 clear c43
 obtain ⟨⟨t107, t125, t126⟩, A44, H⟩ := ob H
 obtain ⟨c45, H⟩ : (0 < ((rd_LI t101 (ji33)).length : Int)) ∧ _ := og H
 have c45b0 := decide_eq_true c45
 have c45b1 : decide (0 < (rd_LI t101 (ji33)).length) = true := decide_eq_true (by omega)
 clear c45
 obtain ⟨ji46, hji46⟩ : ∃ j_ : Int, (wrap64 (((rd_LI t101 (ji33)).length : Int) - 1)) = j_ := ⟨_, rfl⟩
 replace H : (if 0 ≤ (ji46) then (if (ji46) < ((rd_LI t101 (ji33)).length : Int) then ((impl_NetAdd.f kj7 t107 t125 (rd (rd_LI t101 (ji33)) 0) (rd (rd_LI t101 (ji33)) (ji46))).bind fun bt108 => (if t126 = true then (if bt108.2.2 = true then ((impl_TreeOk.f kj7 t100 t110 bt108.2.1).bind fun t109 => (some t109)) else (none)) else (none))) else (none)) else (none)) = some r := by first | (rw [hji46] at H; exact H) | (simp only [hji46] at H ⊢; exact H)
 (try rw [hji46] at c37b0)
 (try rw [hji46] at c37b1)
 (try rw [hji46] at A36)
 (try rw [hji46] at A44)
 have hji46w : (IntKind.i64.wrap (((rd_LI t101 (ji33)).length : Int) - 1)) = ji46 := (i64_w _).trans hji46
 (try rw [hji46] at hji33)
 (try rw [hji46] at hji38)
 (try rw [hji46] at hji41)
 obtain ⟨c47, H⟩ : (0 ≤ (ji46)) ∧ _ := og H
 have c47b0 := decide_eq_true c47
 clear c47
 obtain ⟨c48, H⟩ : ((ji46) < ((rd_LI t101 (ji33)).length : Int)) ∧ _ := og H
 have c48b0 := decide_eq_true c48
 clear c48
 obtain ⟨⟨t108, t128, t129⟩, A49, H⟩ := ob H
 by_cases c50 : t126 = true
 rotate_left
 ·replace c50 := Bool.eq_false_iff.mpr c50
  subst c50
  rw [if_neg nf] at H
  exact absurd H (by simp)
 subst c50
 rw [if_pos rfl] at H
 by_cases c51 : t129 = true
 rotate_left
 ·replace c51 := Bool.eq_false_iff.mpr c51
  subst c51
  rw [if_neg nf] at H
  exact absurd H (by simp)
 subst c51
 rw [if_pos rfl] at H
 obtain ⟨t109, A52, H⟩ := ob H
 obtain rfl := Option.some.inj H
 obtain ⟨Ao53, co53, eo53⟩ := Kd.S_slice HO_6.out
 subst eo53
 have p132 : 0 ≤ ((ji33) : Int) := of_decide_eq_true qa
 have q132 : (ji33) < (t101.length : Int) := of_decide_eq_true qa
 obtain ⟨ad132, A132_0, c132_0, e132, hx132_0, hl132_0, hi132_0⟩ := at_LI (Kd.S_reads' HO_6.out).2.2 (ji33) p132 q132
 cases e132
 obtain ⟨ce132, hce132, hMe132, hcc132⟩ := Kd.S_get HO_6.out [] (ji33) p132 (by first | exact q132 | exact of_decide_eq_true qa | (have e_ := (Kd.S_reads' HO_6.out).1; omega))
 obtain ⟨ve132_0, rfl, ge132_0⟩ := hMe132
 have hv132_0 := hcc132 0 _ rfl
 rw [Nat.add_zero, show ((Kd.slice 3 (Kd.int .i64))).sz = 1 from rfl, Nat.mul_one] at hv132_0
 replace hv132_0 := Option.some.inj (hv132_0.symm.trans hx132_0)
 rw [hv132_0] at ge132_0
 have HL132_0 := q0 (show Kd.R (Kd.int .i64) 3 _ _ _ _ (rd_LI t101 (ji33)) from ge132_0)
 clear hv132_0 ge132_0 hcc132 hce132
 have HR132_0 := q0 hi132_0
 have HC132_0 := q0 hl132_0
 clear hi132_0 hl132_0
 replace p132 := eq_true p132
 replace q132 := eq_true q132
 try go_wp2
 replace HO_6 := q0 (Kd.S_drew HO_6.out)
 replace HO_101001 := q0 (Kd.R_drew HO_101001.out)
 replace HL132_0 := q0 (Kd.R_drew HL132_0.out)
 replace BK113 := q0 (blk_drew BK113.out)
 replace HR132_0 := q0 (Kd.C_drew HR132_0.out)
 replace HB := q0 (below_drew1 HB.out)
 refine start_ (n := 7) (S := fun w' => w'.cell? ⟨gb113, 0, none⟩ = some (.int .i64 t100) ∧ w'.cell? ⟨gb113, 1, none⟩ = some (.slice Ao12 t110.length co12)) (ds := []) (ba 7 0) (by kernel_rfl) rfl (by kernel_rfl) ⟨bca BK113, bcb BK113⟩ (fun hHeld => ?_)
 generalize wc.drew = w54 at HO_6 HO_101001 HL132_0 BK113 HR132_0 HB hHeld ⊢
 refine pw 0 (some 48) (ba 7 1) ?_
 refine tw 1 (some 49) (ba 7 3) hHeld ?_
 refine tw 2 (some 50) (ba 7 7) hHeld ?_
 refine join_ (σ := Value × Nat) 1 (ba 7 63) (fun s_ => [(51, s_.1), (8, .pointer (some ⟨s_.2, 0, none⟩)), (52, .agg #[.int .i64 t100, s_.1])]) (fun s_ w' => (w'.cell? ⟨gb113, 0, none⟩ = some (.int .i64 t100) ∧ w'.cell? ⟨gb113, 1, none⟩ = some (.slice Ao12 t110.length co12)) ∧ (Kd.R (Kd.int .i64) 3 w' w.heap.size (fun k_ => some k_ ≠ (.slice (some ad132) t101.length co53 : Value).ownBlock) (.slice A132_0 (rd_LI t101 (ji33)).length c132_0) (rd_LI t101 (ji33))) ∧ (Kd.R kTie 32 w' w.heap.size (fun k_ => some k_ ≠ (.slice Ao12 t110.length co12 : Value).ownBlock) s_.1 t106) ∧ (Kd.S (Kd.slice 3 (Kd.int .i64)) 60 w' w.heap.size (fun _ => True) (.slice (some ad132) t101.length co53) t101) ∧ (Kd.R kTie 32 w' w.heap.size (fun k_ => some k_ ≠ (s_.1 : Value).ownBlock) (.slice Ao12 t110.length co12) t110) ∧ (w'.heap[gb113]? = some (.cells #[.int .i64 t100, .slice Ao12 t110.length co12] 25 (0, 0))) ∧ (w'.heap[s_.2]? = some (.cells #[.int .i64 0, .slice none 0 0] 25 (0, 0))) ∧ (w.heap.size ≤ s_.2) ∧ (w.heap.size ≤ s_.2) ∧ (gb113 ≠ s_.2) ∧ (s_.2 ≠ gb113) ∧ (Below w.heap.size w w')) ?_ ?_
 rotate_left
 ·intro hCont
  refine two_ (i := 3) (j := 5) (Ni := some 51) (Nj := some 8) (ba 7 15) (ba 7 39) rfl rfl rfl rfl (by kernel_rfl) (by decide) (by decide) (fun K hK => ?_) (fun K hK => ?_)
  ·skip
   refine goes_ Try.func22 (by kernel_rfl) rfl #[.agg #[.int .i64 t100, .slice Ao12 t110.length co12]] (by rfl) rfl rfl qm ?_
   with_reducible refine (impl_TreeOf.calls kj7 t100 _ _ t110 t106 _ ?side1 ?side2 A36.out).mono ?_
   (case side1 => exact qc (Kd.R_reads' HO_101001.out).2.2)
   (case side2 => exact (Kd.R_reads' HO_101001.out).2.1)
   rintro e w55 ⟨v133, rfl, ho0, hb⟩
   refine ⟨_, rfl, ?_⟩
   replace HO_6 := q0 (Kd.S_below (qv HO_6.out) hb)
   replace HL132_0 := q0 (Kd.R_below (qr HL132_0.out) hb)
   have HO134 := q0 (Kd.R_lower (Kd.R_new' ho0 (Kd.R_lt (qr HO_101001.out))) (below_size (qb HB.out)))
   replace HO_101001 := q0 (Kd.R_elder' (qr HO_101001.out) (Kd.R_base ho0) hb)
   replace BK113 := kd BK113 hb
   replace HR132_0 := q0 (Kd.C_below (by repeat (first | (with_reducible exact HR132_0.out) | (with_reducible refine Kd.C_alloc ?_ _) | (with_reducible refine Kd.C_drewN ?_ _) | (with_reducible refine Kd.C_drew ?_) | exact HR132_0.out)) hb)
   replace HB := bp HB hb
   (try clear hb)
   (try clear hb2)
   (try clear hk)
   (try clear hi)
   (try clear ho0)
   obtain ⟨Ao56, co56, eo56⟩ := Kd.R_slice HO134.out
   (first | subst eo56 | (injection eo56 with f1_ f2_ f3_; have f4_ := f1_.symm; have f5_ := f3_.symm; clear f1_ f2_ f3_; subst f4_; subst f5_))
   refine hK.out _ _ ⟨bca BK113, bcb BK113⟩ (fun hHeld => ?_)
   clear hK K
   refine nu 51 ?_
   refine pw 4 (some 52) (ba 7 31) ?_
   refine one_ (i := 5) (N := some 8) (ba 7 63) rfl rfl (by kernel_rfl) (by decide) (fun K hK => ?_)
   refine box_step ?hg (N := 8) ?hd (cs := #[.int .i64 0, .slice none 0 0]) (t := 25) ?hr ?_; (case hd => rfl); (case hg => rfl); (case hr => first | (go_simp; done) | (go_simp; rfl))
   intro gb135 hg w57 hbox hb
   replace HO_6 := q0 (Kd.S_below (qv HO_6.out) hb)
   replace HO_101001 := q0 (Kd.R_below (qr HO_101001.out) hb)
   replace HL132_0 := q0 (Kd.R_below (qr HL132_0.out) hb)
   replace HO134 := q0 (Kd.R_below (qr HO134.out) hb)
   replace HR132_0 := q0 (Kd.C_below (by repeat (first | (with_reducible exact HR132_0.out) | (with_reducible refine Kd.C_alloc ?_ _) | (with_reducible refine Kd.C_drewN ?_ _) | (with_reducible refine Kd.C_drew ?_) | exact HR132_0.out)) hb)
   have BK135 := q0 (hbox)
   have GW135 := gw HB hg
   have GE135 := gw HB hg
   replace HB := bp HB hb
   have NB113_135 := nl BK113 hg
   have NB135_113 := ng BK113 hg
   replace BK113 := kd BK113 hb
   clear hb hbox hg
   refine hK.out _ _ ⟨bca BK113, bcb BK113⟩ (fun hHeld => ?_)
   clear hK K
   refine nu 8 ?_
   exact norm_ (by simp only [putAll, Act.put, List.setIfInBounds_toArray, List.set_cons_zero, List.set_cons_succ]) (hCont (.slice Ao56 t106.length co56, gb135) _ ⟨hHeld, (by (with_reducible repeat (first | apply Kd.R_alloc | apply Kd.R_drewN | apply Kd.R_drew)); exact Kd.R_mono HL132_0.out (fun _ hk => hk.2)), (by (with_reducible repeat (first | apply Kd.R_alloc | apply Kd.R_drewN | apply Kd.R_drew)); exact Kd.R_mono HO134.out (fun _ hk => hk.2)), (qv HO_6.out), (by (with_reducible repeat (first | apply Kd.R_alloc | apply Kd.R_drewN | apply Kd.R_drew)); exact Kd.R_mono HO_101001.out (fun _ hk => hk.2)), (qk BK113.out), (qk BK135.out), GW135.out, GE135.out, NB113_135.out, NB135_113.out, (qb HB.out)⟩)
  ·skip
   refine box_step ?hg (N := 8) ?hd (cs := #[.int .i64 0, .slice none 0 0]) (t := 25) ?hr ?_; (case hd => rfl); (case hg => rfl); (case hr => first | (go_simp; done) | (go_simp; rfl))
   intro gb135 hg w55 hbox hb
   replace HO_6 := q0 (Kd.S_below (qv HO_6.out) hb)
   replace HO_101001 := q0 (Kd.R_below (qr HO_101001.out) hb)
   replace HL132_0 := q0 (Kd.R_below (qr HL132_0.out) hb)
   replace HR132_0 := q0 (Kd.C_below (by repeat (first | (with_reducible exact HR132_0.out) | (with_reducible refine Kd.C_alloc ?_ _) | (with_reducible refine Kd.C_drewN ?_ _) | (with_reducible refine Kd.C_drew ?_) | exact HR132_0.out)) hb)
   have BK135 := q0 (hbox)
   have GW135 := gw HB hg
   have GE135 := gw HB hg
   replace HB := bp HB hb
   have NB113_135 := nl BK113 hg
   have NB135_113 := ng BK113 hg
   replace BK113 := kd BK113 hb
   clear hb hbox hg
   refine hK.out _ _ ⟨bca BK113, bcb BK113⟩ (fun hHeld => ?_)
   clear hK K
   refine nu 8 ?_
   refine one_ (i := 3) (N := some 51) (ba 7 47) rfl rfl (by kernel_rfl) (by decide) (fun K hK => ?_)
   refine goes_ Try.func22 (by kernel_rfl) rfl #[.agg #[.int .i64 t100, .slice Ao12 t110.length co12]] (by rfl) rfl rfl qm ?_
   with_reducible refine (impl_TreeOf.calls kj7 t100 _ _ t110 t106 _ ?side1 ?side2 A36.out).mono ?_
   (case side1 => exact qc (Kd.R_reads' HO_101001.out).2.2)
   (case side2 => exact (Kd.R_reads' HO_101001.out).2.1)
   rintro e w56 ⟨v133, rfl, ho0, hb⟩
   refine ⟨_, rfl, ?_⟩
   replace HO_6 := q0 (Kd.S_below (qv HO_6.out) hb)
   replace HL132_0 := q0 (Kd.R_below (qr HL132_0.out) hb)
   have HO134 := q0 (Kd.R_lower (Kd.R_new' ho0 (Kd.R_lt (qr HO_101001.out))) (below_size (qb HB.out)))
   replace HO_101001 := q0 (Kd.R_elder' (qr HO_101001.out) (Kd.R_base ho0) hb)
   replace BK113 := kd BK113 hb
   replace HR132_0 := q0 (Kd.C_below (by repeat (first | (with_reducible exact HR132_0.out) | (with_reducible refine Kd.C_alloc ?_ _) | (with_reducible refine Kd.C_drewN ?_ _) | (with_reducible refine Kd.C_drew ?_) | exact HR132_0.out)) hb)
   replace BK135 := kd BK135 hb
   replace HB := bp HB hb
   (try clear hb)
   (try clear hb2)
   (try clear hk)
   (try clear hi)
   (try clear ho0)
   obtain ⟨Ao57, co57, eo57⟩ := Kd.R_slice HO134.out
   (first | subst eo57 | (injection eo57 with f1_ f2_ f3_; have f4_ := f1_.symm; have f5_ := f3_.symm; clear f1_ f2_ f3_; subst f4_; subst f5_))
   refine hK.out _ _ ⟨bca BK113, bcb BK113⟩ (fun hHeld => ?_)
   clear hK K
   refine nu 51 ?_
   refine pw 4 (some 52) (ba 7 63) ?_
   exact norm_ (by simp only [putAll, Act.put, List.setIfInBounds_toArray, List.set_cons_zero, List.set_cons_succ]) (hCont (.slice Ao57 t106.length co57, gb135) _ ⟨hHeld, (by (with_reducible repeat (first | apply Kd.R_alloc | apply Kd.R_drewN | apply Kd.R_drew)); exact Kd.R_mono HL132_0.out (fun _ hk => hk.2)), (by (with_reducible repeat (first | apply Kd.R_alloc | apply Kd.R_drewN | apply Kd.R_drew)); exact Kd.R_mono HO134.out (fun _ hk => hk.2)), (qv HO_6.out), (by (with_reducible repeat (first | apply Kd.R_alloc | apply Kd.R_drewN | apply Kd.R_drew)); exact Kd.R_mono HO_101001.out (fun _ hk => hk.2)), (qk BK113.out), (qk BK135.out), GW135.out, GE135.out, NB113_135.out, NB135_113.out, (qb HB.out)⟩)
 rintro ⟨v133, gb135⟩ w58 ⟨hS_, h0_, h1_, h2_, h3_, h4_, h5_, h6_, h7_, h8_, h9_, h10_⟩
 have n0_ : Aside0 (Kd.R (Kd.int .i64) 3 w58 w.heap.size (fun k_ => some k_ ≠ (.slice (some ad132) t101.length co53 : Value).ownBlock) (.slice A132_0 (rd_LI t101 (ji33)).length c132_0) (rd_LI t101 (ji33))) := ⟨h0_⟩
 have n1_ : Aside0 (Kd.R kTie 32 w58 w.heap.size (fun k_ => some k_ ≠ (.slice Ao12 t110.length co12 : Value).ownBlock) v133 t106) := ⟨h1_⟩
 have n2_ : Aside0 (Kd.S (Kd.slice 3 (Kd.int .i64)) 60 w58 w.heap.size (fun _ => True) (.slice (some ad132) t101.length co53) t101) := ⟨h2_⟩
 have n3_ : Aside0 (Kd.R kTie 32 w58 w.heap.size (fun k_ => some k_ ≠ (v133 : Value).ownBlock) (.slice Ao12 t110.length co12) t110) := ⟨h3_⟩
 have n4_ : Aside0 (w58.heap[gb113]? = some (.cells #[.int .i64 t100, .slice Ao12 t110.length co12] 25 (0, 0))) := ⟨h4_⟩
 have n5_ : Aside0 (w58.heap[gb135]? = some (.cells #[.int .i64 0, .slice none 0 0] 25 (0, 0))) := ⟨h5_⟩
 have n6_ : Aside0 (w.heap.size ≤ gb135) := ⟨h6_⟩
 have n7_ : Aside0 (w.heap.size ≤ gb135) := ⟨h7_⟩
 have n8_ : Aside0 (gb113 ≠ gb135) := ⟨h8_⟩
 have n9_ : Aside0 (gb135 ≠ gb113) := ⟨h9_⟩
 have n10_ : Aside0 (Below w.heap.size w w58) := ⟨h10_⟩
 clear HO_6 HO_101001 HL132_0 BK113 HR132_0 HB h0_ h1_ h2_ h3_ h4_ h5_ h6_ h7_ h8_ h9_ h10_
 have HL132_0 := n0_
 have HO134 := n1_
 have HO_6 := n2_
 have HO_101001 := n3_
 have BK113 := n4_
 have BK135 := n5_
 have GW135 := n6_
 have GE135 := n7_
 have NB113_135 := n8_
 have NB135_113 := n9_
 have HB := n10_
 clear n0_ n1_ n2_ n3_ n4_ n5_ n6_ n7_ n8_ n9_ n10_
 have hHeld : w58.cell? ⟨gb113, 0, none⟩ = some (.int .i64 t100) ∧ w58.cell? ⟨gb113, 1, none⟩ = some (.slice Ao12 t110.length co12) := hS_
 obtain ⟨Ao59, co59, eo59⟩ := Kd.R_slice HO134.out
 (first | subst eo59 | (injection eo59 with f1_ f2_ f3_; have f4_ := f1_.symm; have f5_ := f3_.symm; clear f1_ f2_ f3_; subst f4_; subst f5_))
 refine norm_ (a' := ?_) ?_ ?_
 rotate_left
 ·simp only [putAll, Act.put, List.setIfInBounds_toArray, List.set_cons_zero, List.set_cons_succ]
  rfl
 refine one_ (i := 6) (N := none) (ba 7 127) rfl rfl (by kernel_rfl) (by decide) (fun K hK => ?_)
 have hs60 : w58.cell? ⟨gb135, 0, none⟩ = some (.int .i64 0) := (blk_cell BK135.out 0).trans rfl
 have hfs60 := blk_frozen BK135.out 0
 have hns60_0 := NB113_135.out
 have hms60_0 := NB135_113.out
 have hs61 : w58.cell? ⟨gb135, 1, none⟩ = some (.slice none 0 0) := (blk_cell BK135.out 1).trans rfl
 have hfs61 := blk_frozen BK135.out 1
 have hns61_0 := NB113_135.out
 have hms61_0 := NB135_113.out
 refine skip_ (w1 := ?_) (by rfl) rfl ?_ ?_
 rotate_left
 ·go_simp
  rfl
 refine hK.out _ _ ⟨((cell_far (p := ⟨gb135, _, none⟩) NB113_135.out _).trans (((cell_far (p := ⟨gb135, _, none⟩) NB113_135.out _).trans (hHeld.1)))), ((cell_far (p := ⟨gb135, _, none⟩) NB113_135.out _).trans (((cell_far (p := ⟨gb135, _, none⟩) NB113_135.out _).trans (hHeld.2))))⟩ (fun hHeld => ?_)
 clear hK K
 refine done_ (by kernel_rfl) ?_
 try go_wp2
 have n0_ : Aside0 (Kd.S (Kd.slice 3 (Kd.int .i64)) 60 ((w58.setCell ⟨gb135, 0, none⟩ (.int .i64 t100)).setCell ⟨gb135, 1, none⟩ (.slice Ao59 t106.length co59)) w.heap.size (fun _ => True) (.slice (some ad132) t101.length co53) t101) := ⟨by (with_reducible repeat (first | apply Kd.S_alloc | apply Kd.S_drewN | apply Kd.S_drew)); exact Kd.S_mono (Kd.S_far (p := ⟨gb135, 1, none⟩) (Kd.S_far (p := ⟨gb135, 0, none⟩) (Kd.S_types HO_6.out BK135.out (by decide)) (fun _ hk => hk.2) (.int .i64 t100)) (fun _ hk => hk.2) (.slice Ao59 t106.length co59)) (fun _ hk => trivial)⟩
 have n1_ : Aside0 (Kd.R kTie 32 ((w58.setCell ⟨gb135, 0, none⟩ (.int .i64 t100)).setCell ⟨gb135, 1, none⟩ (.slice Ao59 t106.length co59)) w.heap.size (fun k_ => some k_ ≠ (.slice Ao59 t106.length co59 : Value).ownBlock) (.slice Ao12 t110.length co12) t110) := ⟨by (with_reducible repeat (first | apply Kd.R_alloc | apply Kd.R_drewN | apply Kd.R_drew)); exact rf2 HO_101001.out BK135.out (fun _ hk => hk.1)⟩
 have n2_ : Aside0 (Kd.R (Kd.int .i64) 3 ((w58.setCell ⟨gb135, 0, none⟩ (.int .i64 t100)).setCell ⟨gb135, 1, none⟩ (.slice Ao59 t106.length co59)) w.heap.size (fun k_ => some k_ ≠ (.slice (some ad132) t101.length co53 : Value).ownBlock) (.slice A132_0 (rd_LI t101 (ji33)).length c132_0) (rd_LI t101 (ji33))) := ⟨by (with_reducible repeat (first | apply Kd.R_alloc | apply Kd.R_drewN | apply Kd.R_drew)); exact rf2 HL132_0.out BK135.out (fun _ hk => hk.1)⟩
 have n3_ : Aside0 (Kd.R kTie 32 ((w58.setCell ⟨gb135, 0, none⟩ (.int .i64 t100)).setCell ⟨gb135, 1, none⟩ (.slice Ao59 t106.length co59)) w.heap.size (fun k_ => some k_ ≠ (.slice Ao12 t110.length co12 : Value).ownBlock) (.slice Ao59 t106.length co59) t106) := ⟨by (with_reducible repeat (first | apply Kd.R_alloc | apply Kd.R_drewN | apply Kd.R_drew)); exact rf2 HO134.out BK135.out (fun _ hk => hk.1)⟩
 have n4_ : Aside0 (((w58.setCell ⟨gb135, 0, none⟩ (.int .i64 t100)).setCell ⟨gb135, 1, none⟩ (.slice Ao59 t106.length co59)).heap[gb113]? = some (.cells #[.int .i64 t100, .slice Ao12 t110.length co12] 25 (0, 0))) := ⟨qf BK113.out⟩
 have n5_ : Aside0 (((w58.setCell ⟨gb135, 0, none⟩ (.int .i64 t100)).setCell ⟨gb135, 1, none⟩ (.slice Ao59 t106.length co59)).heap[gb135]? = some (.cells #[.int .i64 t100, .slice Ao59 t106.length co59] 25 (0, 0))) := ⟨by (with_reducible repeat (first | refine blk_drewN ?_ _ | refine blk_drew ?_ | refine blk_alloc ?_ _)); refine blk_put (cs := #[.int .i64 t100, .slice none 0 0]) ?_ 1 _ rfl; (with_reducible repeat (first | refine blk_drewN ?_ _ | refine blk_drew ?_ | refine blk_alloc ?_ _)); refine blk_put (cs := #[.int .i64 0, .slice none 0 0]) ?_ 0 _ rfl; (with_reducible repeat (first | refine blk_drewN ?_ _ | refine blk_drew ?_ | refine blk_alloc ?_ _)); exact BK135.out⟩
 have n6_ : Aside0 (Below w.heap.size w ((w58.setCell ⟨gb135, 0, none⟩ (.int .i64 t100)).setCell ⟨gb135, 1, none⟩ (.slice Ao59 t106.length co59))) := ⟨qb HB.out⟩
 (try clear HO_6)
 (try clear HO_101001)
 (try clear HL132_0)
 (try clear HO134)
 (try clear BK113)
 (try clear BK135)
 (try clear HB)
 generalize ((w58.setCell ⟨gb135, 0, none⟩ (.int .i64 t100)).setCell ⟨gb135, 1, none⟩ (.slice Ao59 t106.length co59)) = w62 at n0_ n1_ n2_ n3_ n4_ n5_ n6_ ⊢
 have HO_6 := n0_
 have HO_101001 := n1_
 have HL132_0 := n2_
 have HO134 := n3_
 have BK113 := n4_
 have BK135 := n5_
 have HB := n6_
 clear n0_ n1_ n2_ n3_ n4_ n5_ n6_
 replace HO_6 := q0 (Kd.S_drew HO_6.out)
 replace HO_101001 := q0 (Kd.R_drew HO_101001.out)
 replace HL132_0 := q0 (Kd.R_drew HL132_0.out)
 replace HO134 := q0 (Kd.R_drew HO134.out)
 replace BK113 := q0 (blk_drew BK113.out)
 replace BK135 := q0 (blk_drew BK135.out)
 replace HB := q0 (below_drew1 HB.out)
 have p136 : 0 ≤ ((ji38) : Int) := of_decide_eq_true qa
 have q136 : (ji38) < ((rd_LI t101 (ji33)).length : Int) := of_decide_eq_true qa
 obtain ⟨ad136, e136, hx136_0⟩ := Kd.at_int ((Kd.R_reads' HL132_0.out).2.2) (ji38) p136 q136
 cases e136
 replace p136 := eq_true p136
 replace q136 := eq_true q136
 have p137 : 0 ≤ ((ji41) : Int) := of_decide_eq_true qa
 have q137 : (ji41) < ((rd_LI t101 (ji33)).length : Int) := of_decide_eq_true qa
 obtain ⟨ad137, e137, hx137_0⟩ := Kd.at_int ((Kd.R_reads' HL132_0.out).2.2) (ji41) p137 q137
 obtain rfl : ad136 = ad137 := (by injection e137)
 replace p137 := eq_true p137
 replace q137 := eq_true q137
 refine start_ (n := 17) (S := fun w' => w'.cell? ⟨gb135, 0, none⟩ = some (.int .i64 t100) ∧ w'.cell? ⟨gb135, 1, none⟩ = some (.slice Ao59 t106.length co59) ∧ w'.cell? (ad136.add ((ji38)).toNat) = some (.int .i64 (rd (rd_LI t101 (ji33)) (ji38))) ∧ w'.cell? (ad136.add ((ji41)).toNat) = some (.int .i64 (rd (rd_LI t101 (ji33)) (ji41)))) (ds := []) (ba 17 0) (by kernel_rfl) rfl (by kernel_rfl) ⟨bca BK135, bcb BK135, hx136_0, hx137_0⟩ (fun hHeld => ?_); refine with_tabW laws_FnTreeSwap.tab10 laws_FnTreeSwap.bits10 (fun HT_ HW_ => ?_)
 generalize w62.drew = w63 at HO_6 HO_101001 HL132_0 HO134 BK113 BK135 HB hx136_0 hx137_0 hHeld ⊢
 refine pU 1 64 17 2 HT_ ?_
 refine pU 2 65 17 6 HT_ ?_
 refine pU 3 66 17 14 HT_ ?_
 refine pU 5 68 17 46 HT_ ?_
 refine pU 6 69 17 110 HT_ ?_
 refine pU 7 70 17 238 HT_ ?_
 refine pU 8 71 17 494 HT_ ?_
 refine tU 0 63 17 495 HT_ HW_ hHeld ?_
 refine tU 4 67 17 511 HT_ HW_ hHeld ?_
 refine tU 9 72 17 1023 HT_ HW_ hHeld ?_
 refine join_ (σ := Value × Nat) 2 (ba 17 32767) (fun s_ => [(73, .tuple #[.agg #[.int .i64 t107, s_.1], .bool true]), (10, .pointer (some ⟨s_.2, 0, none⟩)), (62, .tuple #[.agg #[.int .i64 t107, s_.1], .bool true]), (74, .agg #[.int .i64 t107, s_.1]), (75, .bool true)]) (fun s_ w' => (w'.cell? ⟨gb135, 0, none⟩ = some (.int .i64 t100) ∧ w'.cell? ⟨gb135, 1, none⟩ = some (.slice Ao59 t106.length co59) ∧ w'.cell? (ad136.add ((ji38)).toNat) = some (.int .i64 (rd (rd_LI t101 (ji33)) (ji38))) ∧ w'.cell? (ad136.add ((ji41)).toNat) = some (.int .i64 (rd (rd_LI t101 (ji33)) (ji41)))) ∧ (Kd.R (Kd.int .i64) 3 w' w.heap.size (fun k_ => some k_ ≠ (.slice (some ad132) t101.length co53 : Value).ownBlock) (.slice (some ad136) (rd_LI t101 (ji33)).length c132_0) (rd_LI t101 (ji33))) ∧ (Kd.R kTie 32 w' w.heap.size (fun k_ => some k_ ≠ (s_.1 : Value).ownBlock ∧ some k_ ≠ (.slice Ao12 t110.length co12 : Value).ownBlock) (.slice Ao59 t106.length co59) t106) ∧ (Kd.R kTie 32 w' w.heap.size (fun k_ => some k_ ≠ (.slice Ao59 t106.length co59 : Value).ownBlock ∧ some k_ ≠ (.slice Ao12 t110.length co12 : Value).ownBlock) s_.1 t125) ∧ (Kd.S (Kd.slice 3 (Kd.int .i64)) 60 w' w.heap.size (fun _ => True) (.slice (some ad132) t101.length co53) t101) ∧ (Kd.R kTie 32 w' w.heap.size (fun k_ => some k_ ≠ (.slice Ao59 t106.length co59 : Value).ownBlock ∧ some k_ ≠ (s_.1 : Value).ownBlock) (.slice Ao12 t110.length co12) t110) ∧ (w'.heap[gb113]? = some (.cells #[.int .i64 t100, .slice Ao12 t110.length co12] 25 (0, 0))) ∧ (w'.heap[gb135]? = some (.cells #[.int .i64 t100, .slice Ao59 t106.length co59] 25 (0, 0))) ∧ (w'.heap[s_.2]? = some (.cells #[.int .i64 0, .slice none 0 0] 25 (0, 0))) ∧ (w.heap.size ≤ s_.2) ∧ (w.heap.size ≤ s_.2) ∧ (gb113 ≠ s_.2) ∧ (s_.2 ≠ gb113) ∧ (gb135 ≠ s_.2) ∧ (s_.2 ≠ gb135) ∧ (Below w.heap.size w w')) ?_ ?_
 rotate_left
 ·intro hCont
  refine two_ (i := 10) (j := 14) (Ni := some 73) (Nj := some 10) (ba 17 2047) (ba 17 17407) rfl rfl rfl rfl (two_of HT_.out (by kernel_rfl)) (by decide) (by decide) (fun K hK => ?_) (fun K hK => ?_)
  ·skip
   refine goes_ Try.func18 (by kernel_rfl) rfl #[.agg #[.int .i64 t100, .slice Ao59 t106.length co59], .int .i64 (rd (rd_LI t101 (ji33)) (ji38)), .int .i64 (rd (rd_LI t101 (ji33)) (ji41))] (by rfl) rfl rfl (by (try simp only [List.map_toArray, List.map_cons, List.map_nil]); first | done | (simp only [hji33, hji38, hji41]; rfl) | rfl | (simp only [List.length_drop, List.length_take]; rfl)) ?_
   with_reducible refine (impl_NetCut.calls kj7 t100 _ _ t106 (rd (rd_LI t101 (ji33)) (ji38)) (rd (rd_LI t101 (ji33)) (ji41)) t107 t125 true _ ?side1 ?side2 A44.out).mono ?_
   (case side1 => exact qc (Kd.R_reads' HO134.out).2.2)
   (case side2 => exact (Kd.R_reads' HO134.out).2.1)
   rintro e w64 ⟨v138, rfl, ho0, hb⟩
   have HS2_ := hcl hb hHeld.2.2.1
   have HS3_ := hcl hb hHeld.2.2.2
   refine ⟨_, rfl, ?_⟩
   replace HO_6 := q0 (Kd.S_below (qv HO_6.out) hb)
   replace HL132_0 := q0 (Kd.R_below (qr HL132_0.out) hb)
   have HO139 := q0 (Kd.R_lower (Kd.R_new' (Kd.R_new' ho0 (Kd.R_lt (qr HO_101001.out))) (Kd.R_lt (qr HO134.out))) (below_size (qb HB.out)))
   replace HO_101001 := q0 (Kd.R_elder' (qr HO_101001.out) (Kd.R_base ho0) hb)
   replace HO134 := q0 (Kd.R_elder' (qr HO134.out) (Kd.R_base ho0) hb)
   replace BK113 := kd BK113 hb
   replace BK135 := kd BK135 hb
   replace HB := bp HB hb
   (try clear hb)
   (try clear hb2)
   (try clear hk)
   (try clear hi)
   (try clear ho0)
   refine hK.out _ _ ⟨bca BK135, bcb BK135, HS2_, HS3_⟩ (fun hHeld => ?_)
   clear hK K
   refine nu 73 ?_
   refine pU 11 62 17 4095 HT_ ?_
   refine pU 12 74 17 8191 HT_ ?_
   refine pU 13 75 17 16383 HT_ ?_
   refine one_ (i := 14) (N := some 10) (ba 17 32767) rfl rfl (one_of HT_.out (by kernel_rfl)) (by decide) (fun K hK => ?_)
   refine box_step ?hg (N := 10) ?hd (cs := #[.int .i64 0, .slice none 0 0]) (t := 25) ?hr ?_; (case hd => rfl); (case hg => rfl); (case hr => first | (go_simp; done) | (go_simp; rfl))
   intro gb140 hg w65 hbox hb
   have HS2_ := hcl hb hHeld.2.2.1
   have HS3_ := hcl hb hHeld.2.2.2
   replace HO_6 := q0 (Kd.S_below (qv HO_6.out) hb)
   replace HO_101001 := q0 (Kd.R_below (qr HO_101001.out) hb)
   replace HL132_0 := q0 (Kd.R_below (qr HL132_0.out) hb)
   replace HO134 := q0 (Kd.R_below (qr HO134.out) hb)
   replace HO139 := q0 (Kd.R_below (qr HO139.out) hb)
   have BK140 := q0 (hbox)
   have GW140 := gw HB hg
   have GE140 := gw HB hg
   replace HB := bp HB hb
   have NB113_140 := nl BK113 hg
   have NB140_113 := ng BK113 hg
   replace BK113 := kd BK113 hb
   have NB135_140 := nl BK135 hg
   have NB140_135 := ng BK135 hg
   replace BK135 := kd BK135 hb
   clear hb hbox hg
   refine hK.out _ _ ⟨bca BK135, bcb BK135, HS2_, HS3_⟩ (fun hHeld => ?_)
   clear hK K
   refine nu 10 ?_
   exact norm_ (by simp only [putAll, Act.put, List.setIfInBounds_toArray, List.set_cons_zero, List.set_cons_succ]) (hCont (v138, gb140) _ ⟨hHeld, (qr HL132_0.out), (by (with_reducible repeat (first | apply Kd.R_alloc | apply Kd.R_drewN | apply Kd.R_drew)); exact Kd.R_mono HO134.out (fun _ hk => ⟨hk.2, hk.1⟩)), (by (with_reducible repeat (first | apply Kd.R_alloc | apply Kd.R_drewN | apply Kd.R_drew)); exact Kd.R_mono HO139.out (fun _ hk => ⟨hk.2, hk.1.2⟩)), (qv HO_6.out), (qr HO_101001.out), (qk BK113.out), (qk BK135.out), (qk BK140.out), GW140.out, GE140.out, NB113_140.out, NB140_113.out, NB135_140.out, NB140_135.out, (qb HB.out)⟩)
  ·skip
   refine box_step ?hg (N := 10) ?hd (cs := #[.int .i64 0, .slice none 0 0]) (t := 25) ?hr ?_; (case hd => rfl); (case hg => rfl); (case hr => first | (go_simp; done) | (go_simp; rfl))
   intro gb140 hg w64 hbox hb
   have HS2_ := hcl hb hHeld.2.2.1
   have HS3_ := hcl hb hHeld.2.2.2
   replace HO_6 := q0 (Kd.S_below (qv HO_6.out) hb)
   replace HO_101001 := q0 (Kd.R_below (qr HO_101001.out) hb)
   replace HL132_0 := q0 (Kd.R_below (qr HL132_0.out) hb)
   replace HO134 := q0 (Kd.R_below (qr HO134.out) hb)
   have BK140 := q0 (hbox)
   have GW140 := gw HB hg
   have GE140 := gw HB hg
   replace HB := bp HB hb
   have NB113_140 := nl BK113 hg
   have NB140_113 := ng BK113 hg
   replace BK113 := kd BK113 hb
   have NB135_140 := nl BK135 hg
   have NB140_135 := ng BK135 hg
   replace BK135 := kd BK135 hb
   clear hb hbox hg
   refine hK.out _ _ ⟨bca BK135, bcb BK135, HS2_, HS3_⟩ (fun hHeld => ?_)
   clear hK K
   refine nu 10 ?_
   refine one_ (i := 10) (N := some 73) (ba 17 18431) rfl rfl (one_of HT_.out (by kernel_rfl)) (by decide) (fun K hK => ?_)
   refine goes_ Try.func18 (by kernel_rfl) rfl #[.agg #[.int .i64 t100, .slice Ao59 t106.length co59], .int .i64 (rd (rd_LI t101 (ji33)) (ji38)), .int .i64 (rd (rd_LI t101 (ji33)) (ji41))] (by rfl) rfl rfl (by (try simp only [List.map_toArray, List.map_cons, List.map_nil]); first | done | (simp only [hji33, hji38, hji41]; rfl) | rfl | (simp only [List.length_drop, List.length_take]; rfl)) ?_
   with_reducible refine (impl_NetCut.calls kj7 t100 _ _ t106 (rd (rd_LI t101 (ji33)) (ji38)) (rd (rd_LI t101 (ji33)) (ji41)) t107 t125 true _ ?side1 ?side2 A44.out).mono ?_
   (case side1 => exact qc (Kd.R_reads' HO134.out).2.2)
   (case side2 => exact (Kd.R_reads' HO134.out).2.1)
   rintro e w65 ⟨v138, rfl, ho0, hb⟩
   have HS2_ := hcl hb hHeld.2.2.1
   have HS3_ := hcl hb hHeld.2.2.2
   refine ⟨_, rfl, ?_⟩
   replace HO_6 := q0 (Kd.S_below (qv HO_6.out) hb)
   replace HL132_0 := q0 (Kd.R_below (qr HL132_0.out) hb)
   have HO139 := q0 (Kd.R_lower (Kd.R_new' (Kd.R_new' ho0 (Kd.R_lt (qr HO_101001.out))) (Kd.R_lt (qr HO134.out))) (below_size (qb HB.out)))
   replace HO_101001 := q0 (Kd.R_elder' (qr HO_101001.out) (Kd.R_base ho0) hb)
   replace HO134 := q0 (Kd.R_elder' (qr HO134.out) (Kd.R_base ho0) hb)
   replace BK113 := kd BK113 hb
   replace BK135 := kd BK135 hb
   replace BK140 := kd BK140 hb
   replace HB := bp HB hb
   (try clear hb)
   (try clear hb2)
   (try clear hk)
   (try clear hi)
   (try clear ho0)
   refine hK.out _ _ ⟨bca BK135, bcb BK135, HS2_, HS3_⟩ (fun hHeld => ?_)
   clear hK K
   refine nu 73 ?_
   refine pU 11 62 17 20479 HT_ ?_
   refine pU 12 74 17 24575 HT_ ?_
   refine pU 13 75 17 32767 HT_ ?_
   exact norm_ (by simp only [putAll, Act.put, List.setIfInBounds_toArray, List.set_cons_zero, List.set_cons_succ]) (hCont (v138, gb140) _ ⟨hHeld, (qr HL132_0.out), (by (with_reducible repeat (first | apply Kd.R_alloc | apply Kd.R_drewN | apply Kd.R_drew)); exact Kd.R_mono HO134.out (fun _ hk => ⟨hk.2, hk.1⟩)), (by (with_reducible repeat (first | apply Kd.R_alloc | apply Kd.R_drewN | apply Kd.R_drew)); exact Kd.R_mono HO139.out (fun _ hk => ⟨hk.2, hk.1.2⟩)), (qv HO_6.out), (qr HO_101001.out), (qk BK113.out), (qk BK135.out), (qk BK140.out), GW140.out, GE140.out, NB113_140.out, NB140_113.out, NB135_140.out, NB140_135.out, (qb HB.out)⟩)
 rintro ⟨v138, gb140⟩ w66 ⟨hS_, h0_, h1_, h2_, h3_, h4_, h5_, h6_, h7_, h8_, h9_, h10_, h11_, h12_, h13_, h14_⟩
 have n0_ : Aside0 (Kd.R (Kd.int .i64) 3 w66 w.heap.size (fun k_ => some k_ ≠ (.slice (some ad132) t101.length co53 : Value).ownBlock) (.slice (some ad136) (rd_LI t101 (ji33)).length c132_0) (rd_LI t101 (ji33))) := ⟨h0_⟩
 have n1_ : Aside0 (Kd.R kTie 32 w66 w.heap.size (fun k_ => some k_ ≠ (v138 : Value).ownBlock ∧ some k_ ≠ (.slice Ao12 t110.length co12 : Value).ownBlock) (.slice Ao59 t106.length co59) t106) := ⟨h1_⟩
 have n2_ : Aside0 (Kd.R kTie 32 w66 w.heap.size (fun k_ => some k_ ≠ (.slice Ao59 t106.length co59 : Value).ownBlock ∧ some k_ ≠ (.slice Ao12 t110.length co12 : Value).ownBlock) v138 t125) := ⟨h2_⟩
 have n3_ : Aside0 (Kd.S (Kd.slice 3 (Kd.int .i64)) 60 w66 w.heap.size (fun _ => True) (.slice (some ad132) t101.length co53) t101) := ⟨h3_⟩
 have n4_ : Aside0 (Kd.R kTie 32 w66 w.heap.size (fun k_ => some k_ ≠ (.slice Ao59 t106.length co59 : Value).ownBlock ∧ some k_ ≠ (v138 : Value).ownBlock) (.slice Ao12 t110.length co12) t110) := ⟨h4_⟩
 have n5_ : Aside0 (w66.heap[gb113]? = some (.cells #[.int .i64 t100, .slice Ao12 t110.length co12] 25 (0, 0))) := ⟨h5_⟩
 have n6_ : Aside0 (w66.heap[gb135]? = some (.cells #[.int .i64 t100, .slice Ao59 t106.length co59] 25 (0, 0))) := ⟨h6_⟩
 have n7_ : Aside0 (w66.heap[gb140]? = some (.cells #[.int .i64 0, .slice none 0 0] 25 (0, 0))) := ⟨h7_⟩
 have n8_ : Aside0 (w.heap.size ≤ gb140) := ⟨h8_⟩
 have n9_ : Aside0 (w.heap.size ≤ gb140) := ⟨h9_⟩
 have n10_ : Aside0 (gb113 ≠ gb140) := ⟨h10_⟩
 have n11_ : Aside0 (gb140 ≠ gb113) := ⟨h11_⟩
 have n12_ : Aside0 (gb135 ≠ gb140) := ⟨h12_⟩
 have n13_ : Aside0 (gb140 ≠ gb135) := ⟨h13_⟩
 have n14_ : Aside0 (Below w.heap.size w w66) := ⟨h14_⟩
 clear HO_6 HO_101001 HL132_0 HO134 BK113 BK135 HB h0_ h1_ h2_ h3_ h4_ h5_ h6_ h7_ h8_ h9_ h10_ h11_ h12_ h13_ h14_
 have HL132_0 := n0_
 have HO134 := n1_
 have HO139 := n2_
 have HO_6 := n3_
 have HO_101001 := n4_
 have BK113 := n5_
 have BK135 := n6_
 have BK140 := n7_
 have GW140 := n8_
 have GE140 := n9_
 have NB113_140 := n10_
 have NB140_113 := n11_
 have NB135_140 := n12_
 have NB140_135 := n13_
 have HB := n14_
 clear n0_ n1_ n2_ n3_ n4_ n5_ n6_ n7_ n8_ n9_ n10_ n11_ n12_ n13_ n14_
 have hHeld : w66.cell? ⟨gb135, 0, none⟩ = some (.int .i64 t100) ∧ w66.cell? ⟨gb135, 1, none⟩ = some (.slice Ao59 t106.length co59) ∧ w66.cell? (ad136.add ((ji38)).toNat) = some (.int .i64 (rd (rd_LI t101 (ji33)) (ji38))) ∧ w66.cell? (ad136.add ((ji41)).toNat) = some (.int .i64 (rd (rd_LI t101 (ji33)) (ji41))) := hS_
 obtain ⟨Ao68, co68, eo68⟩ := Kd.R_slice HO139.out
 (first | subst eo68 | (injection eo68 with f1_ f2_ f3_; have f4_ := f1_.symm; have f5_ := f3_.symm; clear f1_ f2_ f3_; subst f4_; subst f5_))
 refine norm_ (a' := ?_) ?_ ?_
 rotate_left
 ·simp only [putAll, Act.put, List.setIfInBounds_toArray, List.set_cons_zero, List.set_cons_succ]
  rfl
 refine one_ (i := 15) (N := none) (ba 17 65535) rfl rfl (one_of HT_.out (by kernel_rfl)) (by decide) (fun K hK => ?_)
 have hs67 : w66.cell? ⟨gb140, 0, none⟩ = some (.int .i64 0) := (blk_cell BK140.out 0).trans rfl
 have hfs67 := blk_frozen BK140.out 0
 have hns67_0 := NB113_140.out
 have hns67_1 := NB135_140.out
 have hms67_0 := NB140_113.out
 have hms67_1 := NB140_135.out
 have hs69 : w66.cell? ⟨gb140, 1, none⟩ = some (.slice none 0 0) := (blk_cell BK140.out 1).trans rfl
 have hfs69 := blk_frozen BK140.out 1
 have hns69_0 := NB113_140.out
 have hns69_1 := NB135_140.out
 have hms69_0 := NB140_113.out
 have hms69_1 := NB140_135.out
 refine skip_ (w1 := ?_) (by rfl) rfl ?_ ?_
 rotate_left
 ·go_simp
  rfl
 refine hK.out _ _ ⟨((cell_far (p := ⟨gb140, _, none⟩) NB135_140.out _).trans (((cell_far (p := ⟨gb140, _, none⟩) NB135_140.out _).trans (hHeld.1)))), ((cell_far (p := ⟨gb140, _, none⟩) NB135_140.out _).trans (((cell_far (p := ⟨gb140, _, none⟩) NB135_140.out _).trans (hHeld.2.1)))), ((cell_far (p := ⟨gb140, _, none⟩) (by first | exact Kd.own_blk (Kd.R_ne HL132_0.out BK140.out (by decide)) | (rw [add_block]; exact Kd.own_blk (Kd.R_ne HL132_0.out BK140.out (by decide))) | (show (Addr.add _ _).block ≠ _; rw [add_block]; exact Kd.own_blk (Kd.R_ne HL132_0.out BK140.out (by decide))) | (dsimp only; exact Kd.own_blk (Kd.R_ne HL132_0.out BK140.out (by decide)))) _).trans (((cell_far (p := ⟨gb140, _, none⟩) (by first | exact Kd.own_blk (Kd.R_ne HL132_0.out BK140.out (by decide)) | (rw [add_block]; exact Kd.own_blk (Kd.R_ne HL132_0.out BK140.out (by decide))) | (show (Addr.add _ _).block ≠ _; rw [add_block]; exact Kd.own_blk (Kd.R_ne HL132_0.out BK140.out (by decide))) | (dsimp only; exact Kd.own_blk (Kd.R_ne HL132_0.out BK140.out (by decide)))) _).trans (hHeld.2.2.1)))), ((cell_far (p := ⟨gb140, _, none⟩) (by first | exact Kd.own_blk (Kd.R_ne HL132_0.out BK140.out (by decide)) | (rw [add_block]; exact Kd.own_blk (Kd.R_ne HL132_0.out BK140.out (by decide))) | (show (Addr.add _ _).block ≠ _; rw [add_block]; exact Kd.own_blk (Kd.R_ne HL132_0.out BK140.out (by decide))) | (dsimp only; exact Kd.own_blk (Kd.R_ne HL132_0.out BK140.out (by decide)))) _).trans (((cell_far (p := ⟨gb140, _, none⟩) (by first | exact Kd.own_blk (Kd.R_ne HL132_0.out BK140.out (by decide)) | (rw [add_block]; exact Kd.own_blk (Kd.R_ne HL132_0.out BK140.out (by decide))) | (show (Addr.add _ _).block ≠ _; rw [add_block]; exact Kd.own_blk (Kd.R_ne HL132_0.out BK140.out (by decide))) | (dsimp only; exact Kd.own_blk (Kd.R_ne HL132_0.out BK140.out (by decide)))) _).trans (hHeld.2.2.2))))⟩ (fun hHeld => ?_)
 clear hK K
 refine pU 16 11 17 131071 HT_ ?_
 refine done_ (done_of HT_.out (by kernel_rfl)) ?_
 try go_wp2
 have n0_ : Aside0 (Kd.S (Kd.slice 3 (Kd.int .i64)) 60 ((w66.setCell ⟨gb140, 0, none⟩ (.int .i64 t107)).setCell ⟨gb140, 1, none⟩ (.slice Ao68 t125.length co68)) w.heap.size (fun _ => True) (.slice (some ad132) t101.length co53) t101) := ⟨by (with_reducible repeat (first | apply Kd.S_alloc | apply Kd.S_drewN | apply Kd.S_drew)); exact Kd.S_mono (Kd.S_far (p := ⟨gb140, 1, none⟩) (Kd.S_far (p := ⟨gb140, 0, none⟩) (Kd.S_types HO_6.out BK140.out (by decide)) (fun _ hk => hk.2) (.int .i64 t107)) (fun _ hk => hk.2) (.slice Ao68 t125.length co68)) (fun _ hk => trivial)⟩
 have n1_ : Aside0 (Kd.R kTie 32 ((w66.setCell ⟨gb140, 0, none⟩ (.int .i64 t107)).setCell ⟨gb140, 1, none⟩ (.slice Ao68 t125.length co68)) w.heap.size (fun k_ => some k_ ≠ (.slice Ao59 t106.length co59 : Value).ownBlock ∧ some k_ ≠ (.slice Ao68 t125.length co68 : Value).ownBlock) (.slice Ao12 t110.length co12) t110) := ⟨by (with_reducible repeat (first | apply Kd.R_alloc | apply Kd.R_drewN | apply Kd.R_drew)); exact rf2 HO_101001.out BK140.out (fun _ hk => ⟨hk.1.1, hk.1.2⟩)⟩
 have n2_ : Aside0 (Kd.R (Kd.int .i64) 3 ((w66.setCell ⟨gb140, 0, none⟩ (.int .i64 t107)).setCell ⟨gb140, 1, none⟩ (.slice Ao68 t125.length co68)) w.heap.size (fun k_ => some k_ ≠ (.slice (some ad132) t101.length co53 : Value).ownBlock) (.slice (some ad136) (rd_LI t101 (ji33)).length c132_0) (rd_LI t101 (ji33))) := ⟨by (with_reducible repeat (first | apply Kd.R_alloc | apply Kd.R_drewN | apply Kd.R_drew)); exact rf2 HL132_0.out BK140.out (fun _ hk => hk.1)⟩
 have n3_ : Aside0 (Kd.R kTie 32 ((w66.setCell ⟨gb140, 0, none⟩ (.int .i64 t107)).setCell ⟨gb140, 1, none⟩ (.slice Ao68 t125.length co68)) w.heap.size (fun k_ => some k_ ≠ (.slice Ao12 t110.length co12 : Value).ownBlock ∧ some k_ ≠ (.slice Ao68 t125.length co68 : Value).ownBlock) (.slice Ao59 t106.length co59) t106) := ⟨by (with_reducible repeat (first | apply Kd.R_alloc | apply Kd.R_drewN | apply Kd.R_drew)); exact rf2 HO134.out BK140.out (fun _ hk => ⟨hk.1.2, hk.1.1⟩)⟩
 have n4_ : Aside0 (Kd.R kTie 32 ((w66.setCell ⟨gb140, 0, none⟩ (.int .i64 t107)).setCell ⟨gb140, 1, none⟩ (.slice Ao68 t125.length co68)) w.heap.size (fun k_ => some k_ ≠ (.slice Ao12 t110.length co12 : Value).ownBlock ∧ some k_ ≠ (.slice Ao59 t106.length co59 : Value).ownBlock) (.slice Ao68 t125.length co68) t125) := ⟨by (with_reducible repeat (first | apply Kd.R_alloc | apply Kd.R_drewN | apply Kd.R_drew)); exact rf2 HO139.out BK140.out (fun _ hk => ⟨hk.1.2, hk.1.1⟩)⟩
 have n5_ : Aside0 (((w66.setCell ⟨gb140, 0, none⟩ (.int .i64 t107)).setCell ⟨gb140, 1, none⟩ (.slice Ao68 t125.length co68)).heap[gb113]? = some (.cells #[.int .i64 t100, .slice Ao12 t110.length co12] 25 (0, 0))) := ⟨qf BK113.out⟩
 have n6_ : Aside0 (((w66.setCell ⟨gb140, 0, none⟩ (.int .i64 t107)).setCell ⟨gb140, 1, none⟩ (.slice Ao68 t125.length co68)).heap[gb135]? = some (.cells #[.int .i64 t100, .slice Ao59 t106.length co59] 25 (0, 0))) := ⟨qf BK135.out⟩
 have n7_ : Aside0 (((w66.setCell ⟨gb140, 0, none⟩ (.int .i64 t107)).setCell ⟨gb140, 1, none⟩ (.slice Ao68 t125.length co68)).heap[gb140]? = some (.cells #[.int .i64 t107, .slice Ao68 t125.length co68] 25 (0, 0))) := ⟨by (with_reducible repeat (first | refine blk_drewN ?_ _ | refine blk_drew ?_ | refine blk_alloc ?_ _)); refine blk_put (cs := #[.int .i64 t107, .slice none 0 0]) ?_ 1 _ rfl; (with_reducible repeat (first | refine blk_drewN ?_ _ | refine blk_drew ?_ | refine blk_alloc ?_ _)); refine blk_put (cs := #[.int .i64 0, .slice none 0 0]) ?_ 0 _ rfl; (with_reducible repeat (first | refine blk_drewN ?_ _ | refine blk_drew ?_ | refine blk_alloc ?_ _)); exact BK140.out⟩
 have n8_ : Aside0 (Below w.heap.size w ((w66.setCell ⟨gb140, 0, none⟩ (.int .i64 t107)).setCell ⟨gb140, 1, none⟩ (.slice Ao68 t125.length co68))) := ⟨qb HB.out⟩
 (try clear HO_6)
 (try clear HO_101001)
 (try clear HL132_0)
 (try clear HO134)
 (try clear HO139)
 (try clear BK113)
 (try clear BK135)
 (try clear BK140)
 (try clear HB)
 generalize ((w66.setCell ⟨gb140, 0, none⟩ (.int .i64 t107)).setCell ⟨gb140, 1, none⟩ (.slice Ao68 t125.length co68)) = w70 at n0_ n1_ n2_ n3_ n4_ n5_ n6_ n7_ n8_ ⊢
 have HO_6 := n0_
 have HO_101001 := n1_
 have HL132_0 := n2_
 have HO134 := n3_
 have HO139 := n4_
 have BK113 := n5_
 have BK135 := n6_
 have BK140 := n7_
 have HB := n8_
 clear n0_ n1_ n2_ n3_ n4_ n5_ n6_ n7_ n8_
 replace HO_6 := q0 (Kd.S_drew HO_6.out)
 replace HO_101001 := q0 (Kd.R_drew HO_101001.out)
 replace HL132_0 := q0 (Kd.R_drew HL132_0.out)
 replace HO134 := q0 (Kd.R_drew HO134.out)
 replace HO139 := q0 (Kd.R_drew HO139.out)
 replace BK113 := q0 (blk_drew BK113.out)
 replace BK135 := q0 (blk_drew BK135.out)
 replace BK140 := q0 (blk_drew BK140.out)
 replace HB := q0 (below_drew1 HB.out)
 have p141 : 0 ≤ (0 : Int) := (by omega)
 have q141 : 0 < ((rd_LI t101 (ji33)).length : Int) := of_decide_eq_true qa
 obtain ⟨ad141, e141, hx141_0⟩ := Kd.at_int ((Kd.R_reads' HL132_0.out).2.2) 0 p141 q141
 obtain rfl : ad136 = ad141 := (by injection e141)
 have qi141 : (0 < (rd_LI t101 (ji33)).length) = True := eq_true (by omega)
 (try rw [show ((0 : Int)).toNat = 0 from rfl] at hx141_0)
 (try rw [Addr.add_zero'] at hx141_0)
 replace p141 := eq_true p141
 replace q141 := eq_true q141
 have p142 : 0 ≤ ((ji46) : Int) := of_decide_eq_true qa
 have q142 : (ji46) < ((rd_LI t101 (ji33)).length : Int) := of_decide_eq_true qa
 obtain ⟨ad142, e142, hx142_0⟩ := Kd.at_int ((Kd.R_reads' HL132_0.out).2.2) (ji46) p142 q142
 obtain rfl : ad136 = ad142 := (by injection e142)
 replace p142 := eq_true p142
 replace q142 := eq_true q142
 refine start_ (n := 17) (S := fun w' => w'.cell? ⟨gb140, 0, none⟩ = some (.int .i64 t107) ∧ w'.cell? ⟨gb140, 1, none⟩ = some (.slice Ao68 t125.length co68) ∧ w'.cell? ad136 = some (.int .i64 (rd (rd_LI t101 (ji33)) 0)) ∧ w'.cell? (ad136.add ((ji46)).toNat) = some (.int .i64 (rd (rd_LI t101 (ji33)) (ji46)))) (ds := []) (ba 17 0) (by kernel_rfl) rfl (by kernel_rfl) ⟨bca BK140, bcb BK140, hx141_0, hx142_0⟩ (fun hHeld => ?_); refine with_tabW laws_FnTreeSwap.tab11 laws_FnTreeSwap.bits11 (fun HT_ HW_ => ?_)
 generalize w70.drew = w71 at HO_6 HO_101001 HL132_0 HO134 HO139 BK113 BK135 BK140 HB hx141_0 hx142_0 hHeld ⊢
 refine pU 1 78 17 2 HT_ ?_
 refine pU 2 79 17 6 HT_ ?_
 refine pU 4 81 17 22 HT_ ?_
 refine pU 5 82 17 54 HT_ ?_
 refine pU 6 83 17 118 HT_ ?_
 refine pU 7 84 17 246 HT_ ?_
 refine pU 8 85 17 502 HT_ ?_
 refine tU 0 77 17 503 HT_ HW_ hHeld ?_
 refine tU 3 80 17 511 HT_ HW_ hHeld ?_
 refine tU 9 86 17 1023 HT_ HW_ hHeld ?_
 refine join_ (σ := Value × Nat) 2 (ba 17 32767) (fun s_ => [(87, .tuple #[.agg #[.int .i64 t108, s_.1], .bool true]), (12, .pointer (some ⟨s_.2, 0, none⟩)), (76, .tuple #[.agg #[.int .i64 t108, s_.1], .bool true]), (88, .agg #[.int .i64 t108, s_.1]), (89, .bool true)]) (fun s_ w' => (w'.cell? ⟨gb140, 0, none⟩ = some (.int .i64 t107) ∧ w'.cell? ⟨gb140, 1, none⟩ = some (.slice Ao68 t125.length co68) ∧ w'.cell? ad136 = some (.int .i64 (rd (rd_LI t101 (ji33)) 0)) ∧ w'.cell? (ad136.add ((ji46)).toNat) = some (.int .i64 (rd (rd_LI t101 (ji33)) (ji46)))) ∧ (Kd.R (Kd.int .i64) 3 w' w.heap.size (fun k_ => some k_ ≠ (.slice (some ad132) t101.length co53 : Value).ownBlock) (.slice (some ad136) (rd_LI t101 (ji33)).length c132_0) (rd_LI t101 (ji33))) ∧ (Kd.R kTie 32 w' w.heap.size (fun k_ => some k_ ≠ (.slice Ao68 t125.length co68 : Value).ownBlock ∧ some k_ ≠ (s_.1 : Value).ownBlock ∧ some k_ ≠ (.slice Ao12 t110.length co12 : Value).ownBlock) (.slice Ao59 t106.length co59) t106) ∧ (Kd.R kTie 32 w' w.heap.size (fun k_ => some k_ ≠ (.slice Ao59 t106.length co59 : Value).ownBlock ∧ some k_ ≠ (s_.1 : Value).ownBlock ∧ some k_ ≠ (.slice Ao12 t110.length co12 : Value).ownBlock) (.slice Ao68 t125.length co68) t125) ∧ (Kd.R kTie 32 w' w.heap.size (fun k_ => some k_ ≠ (.slice Ao59 t106.length co59 : Value).ownBlock ∧ some k_ ≠ (.slice Ao68 t125.length co68 : Value).ownBlock ∧ some k_ ≠ (.slice Ao12 t110.length co12 : Value).ownBlock) s_.1 t128) ∧ (Kd.S (Kd.slice 3 (Kd.int .i64)) 60 w' w.heap.size (fun _ => True) (.slice (some ad132) t101.length co53) t101) ∧ (Kd.R kTie 32 w' w.heap.size (fun k_ => some k_ ≠ (.slice Ao59 t106.length co59 : Value).ownBlock ∧ some k_ ≠ (.slice Ao68 t125.length co68 : Value).ownBlock ∧ some k_ ≠ (s_.1 : Value).ownBlock) (.slice Ao12 t110.length co12) t110) ∧ (w'.heap[gb113]? = some (.cells #[.int .i64 t100, .slice Ao12 t110.length co12] 25 (0, 0))) ∧ (w'.heap[gb135]? = some (.cells #[.int .i64 t100, .slice Ao59 t106.length co59] 25 (0, 0))) ∧ (w'.heap[gb140]? = some (.cells #[.int .i64 t107, .slice Ao68 t125.length co68] 25 (0, 0))) ∧ (w'.heap[s_.2]? = some (.cells #[.int .i64 0, .slice none 0 0] 25 (0, 0))) ∧ (w.heap.size ≤ s_.2) ∧ (w.heap.size ≤ s_.2) ∧ (gb113 ≠ s_.2) ∧ (s_.2 ≠ gb113) ∧ (gb135 ≠ s_.2) ∧ (s_.2 ≠ gb135) ∧ (gb140 ≠ s_.2) ∧ (s_.2 ≠ gb140) ∧ (Below w.heap.size w w')) ?_ ?_
 rotate_left
 ·intro hCont
  refine two_ (i := 10) (j := 14) (Ni := some 87) (Nj := some 12) (ba 17 2047) (ba 17 17407) rfl rfl rfl rfl (two_of HT_.out (by kernel_rfl)) (by decide) (by decide) (fun K hK => ?_) (fun K hK => ?_)
  ·skip
   refine goes_ Try.func29 (by kernel_rfl) rfl #[.agg #[.int .i64 t107, .slice Ao68 t125.length co68], .int .i64 (rd (rd_LI t101 (ji33)) 0), .int .i64 (rd (rd_LI t101 (ji33)) (ji46))] (by rfl) rfl rfl (by (try simp only [List.map_toArray, List.map_cons, List.map_nil]); first | done | (simp only [hji33, hji46]; rfl) | rfl | (simp only [List.length_drop, List.length_take]; rfl)) ?_
   with_reducible refine (impl_NetAdd.calls kj7 t107 _ _ t125 (rd (rd_LI t101 (ji33)) 0) (rd (rd_LI t101 (ji33)) (ji46)) t108 t128 true _ ?side1 ?side2 A49.out).mono ?_
   (case side1 => exact qc (Kd.R_reads' HO139.out).2.2)
   (case side2 => exact (Kd.R_reads' HO139.out).2.1)
   rintro e w72 ⟨v143, rfl, ho0, hb⟩
   have HS2_ := hcl hb hHeld.2.2.1
   have HS3_ := hcl hb hHeld.2.2.2
   refine ⟨_, rfl, ?_⟩
   replace HO_6 := q0 (Kd.S_below (qv HO_6.out) hb)
   replace HL132_0 := q0 (Kd.R_below (qr HL132_0.out) hb)
   have HO144 := q0 (Kd.R_lower (Kd.R_new' (Kd.R_new' (Kd.R_new' ho0 (Kd.R_lt (qr HO_101001.out))) (Kd.R_lt (qr HO134.out))) (Kd.R_lt (qr HO139.out))) (below_size (qb HB.out)))
   replace HO_101001 := q0 (Kd.R_elder' (qr HO_101001.out) (Kd.R_base ho0) hb)
   replace HO134 := q0 (Kd.R_elder' (qr HO134.out) (Kd.R_base ho0) hb)
   replace HO139 := q0 (Kd.R_elder' (qr HO139.out) (Kd.R_base ho0) hb)
   replace BK113 := kd BK113 hb
   replace BK135 := kd BK135 hb
   replace BK140 := kd BK140 hb
   replace HB := bp HB hb
   (try clear hb)
   (try clear hb2)
   (try clear hk)
   (try clear hi)
   (try clear ho0)
   refine hK.out _ _ ⟨bca BK140, bcb BK140, HS2_, HS3_⟩ (fun hHeld => ?_)
   clear hK K
   refine nu 87 ?_
   refine pU 11 76 17 4095 HT_ ?_
   refine pU 12 88 17 8191 HT_ ?_
   refine pU 13 89 17 16383 HT_ ?_
   refine one_ (i := 14) (N := some 12) (ba 17 32767) rfl rfl (one_of HT_.out (by kernel_rfl)) (by decide) (fun K hK => ?_)
   refine box_step ?hg (N := 12) ?hd (cs := #[.int .i64 0, .slice none 0 0]) (t := 25) ?hr ?_; (case hd => rfl); (case hg => rfl); (case hr => first | (go_simp; done) | (go_simp; rfl))
   intro gb145 hg w73 hbox hb
   have HS2_ := hcl hb hHeld.2.2.1
   have HS3_ := hcl hb hHeld.2.2.2
   replace HO_6 := q0 (Kd.S_below (qv HO_6.out) hb)
   replace HO_101001 := q0 (Kd.R_below (qr HO_101001.out) hb)
   replace HL132_0 := q0 (Kd.R_below (qr HL132_0.out) hb)
   replace HO134 := q0 (Kd.R_below (qr HO134.out) hb)
   replace HO139 := q0 (Kd.R_below (qr HO139.out) hb)
   replace HO144 := q0 (Kd.R_below (qr HO144.out) hb)
   have BK145 := q0 (hbox)
   have GW145 := gw HB hg
   have GE145 := gw HB hg
   replace HB := bp HB hb
   have NB113_145 := nl BK113 hg
   have NB145_113 := ng BK113 hg
   replace BK113 := kd BK113 hb
   have NB135_145 := nl BK135 hg
   have NB145_135 := ng BK135 hg
   replace BK135 := kd BK135 hb
   have NB140_145 := nl BK140 hg
   have NB145_140 := ng BK140 hg
   replace BK140 := kd BK140 hb
   clear hb hbox hg
   refine hK.out _ _ ⟨bca BK140, bcb BK140, HS2_, HS3_⟩ (fun hHeld => ?_)
   clear hK K
   refine nu 12 ?_
   exact norm_ (by simp only [putAll, Act.put, List.setIfInBounds_toArray, List.set_cons_zero, List.set_cons_succ]) (hCont (v143, gb145) _ ⟨hHeld, (qr HL132_0.out), (by (with_reducible repeat (first | apply Kd.R_alloc | apply Kd.R_drewN | apply Kd.R_drew)); exact Kd.R_mono HO134.out (fun _ hk => ⟨hk.1.2, ⟨hk.2, hk.1.1⟩⟩)), (by (with_reducible repeat (first | apply Kd.R_alloc | apply Kd.R_drewN | apply Kd.R_drew)); exact Kd.R_mono HO139.out (fun _ hk => ⟨hk.1.2, ⟨hk.2, hk.1.1⟩⟩)), (by (with_reducible repeat (first | apply Kd.R_alloc | apply Kd.R_drewN | apply Kd.R_drew)); exact Kd.R_mono HO144.out (fun _ hk => ⟨hk.1.2, ⟨hk.2, hk.1.1.2⟩⟩)), (qv HO_6.out), (by (with_reducible repeat (first | apply Kd.R_alloc | apply Kd.R_drewN | apply Kd.R_drew)); exact Kd.R_mono HO_101001.out (fun _ hk => ⟨hk.1.1, ⟨hk.1.2, hk.2⟩⟩)), (qk BK113.out), (qk BK135.out), (qk BK140.out), (qk BK145.out), GW145.out, GE145.out, NB113_145.out, NB145_113.out, NB135_145.out, NB145_135.out, NB140_145.out, NB145_140.out, (qb HB.out)⟩)
  ·skip
   refine box_step ?hg (N := 12) ?hd (cs := #[.int .i64 0, .slice none 0 0]) (t := 25) ?hr ?_; (case hd => rfl); (case hg => rfl); (case hr => first | (go_simp; done) | (go_simp; rfl))
   intro gb145 hg w72 hbox hb
   have HS2_ := hcl hb hHeld.2.2.1
   have HS3_ := hcl hb hHeld.2.2.2
   replace HO_6 := q0 (Kd.S_below (qv HO_6.out) hb)
   replace HO_101001 := q0 (Kd.R_below (qr HO_101001.out) hb)
   replace HL132_0 := q0 (Kd.R_below (qr HL132_0.out) hb)
   replace HO134 := q0 (Kd.R_below (qr HO134.out) hb)
   replace HO139 := q0 (Kd.R_below (qr HO139.out) hb)
   have BK145 := q0 (hbox)
   have GW145 := gw HB hg
   have GE145 := gw HB hg
   replace HB := bp HB hb
   have NB113_145 := nl BK113 hg
   have NB145_113 := ng BK113 hg
   replace BK113 := kd BK113 hb
   have NB135_145 := nl BK135 hg
   have NB145_135 := ng BK135 hg
   replace BK135 := kd BK135 hb
   have NB140_145 := nl BK140 hg
   have NB145_140 := ng BK140 hg
   replace BK140 := kd BK140 hb
   clear hb hbox hg
   refine hK.out _ _ ⟨bca BK140, bcb BK140, HS2_, HS3_⟩ (fun hHeld => ?_)
   clear hK K
   refine nu 12 ?_
   refine one_ (i := 10) (N := some 87) (ba 17 18431) rfl rfl (one_of HT_.out (by kernel_rfl)) (by decide) (fun K hK => ?_)
   refine goes_ Try.func29 (by kernel_rfl) rfl #[.agg #[.int .i64 t107, .slice Ao68 t125.length co68], .int .i64 (rd (rd_LI t101 (ji33)) 0), .int .i64 (rd (rd_LI t101 (ji33)) (ji46))] (by rfl) rfl rfl (by (try simp only [List.map_toArray, List.map_cons, List.map_nil]); first | done | (simp only [hji33, hji46]; rfl) | rfl | (simp only [List.length_drop, List.length_take]; rfl)) ?_
   with_reducible refine (impl_NetAdd.calls kj7 t107 _ _ t125 (rd (rd_LI t101 (ji33)) 0) (rd (rd_LI t101 (ji33)) (ji46)) t108 t128 true _ ?side1 ?side2 A49.out).mono ?_
   (case side1 => exact qc (Kd.R_reads' HO139.out).2.2)
   (case side2 => exact (Kd.R_reads' HO139.out).2.1)
   rintro e w73 ⟨v143, rfl, ho0, hb⟩
   have HS2_ := hcl hb hHeld.2.2.1
   have HS3_ := hcl hb hHeld.2.2.2
   refine ⟨_, rfl, ?_⟩
   replace HO_6 := q0 (Kd.S_below (qv HO_6.out) hb)
   replace HL132_0 := q0 (Kd.R_below (qr HL132_0.out) hb)
   have HO144 := q0 (Kd.R_lower (Kd.R_new' (Kd.R_new' (Kd.R_new' ho0 (Kd.R_lt (qr HO_101001.out))) (Kd.R_lt (qr HO134.out))) (Kd.R_lt (qr HO139.out))) (below_size (qb HB.out)))
   replace HO_101001 := q0 (Kd.R_elder' (qr HO_101001.out) (Kd.R_base ho0) hb)
   replace HO134 := q0 (Kd.R_elder' (qr HO134.out) (Kd.R_base ho0) hb)
   replace HO139 := q0 (Kd.R_elder' (qr HO139.out) (Kd.R_base ho0) hb)
   replace BK113 := kd BK113 hb
   replace BK135 := kd BK135 hb
   replace BK140 := kd BK140 hb
   replace BK145 := kd BK145 hb
   replace HB := bp HB hb
   (try clear hb)
   (try clear hb2)
   (try clear hk)
   (try clear hi)
   (try clear ho0)
   refine hK.out _ _ ⟨bca BK140, bcb BK140, HS2_, HS3_⟩ (fun hHeld => ?_)
   clear hK K
   refine nu 87 ?_
   refine pU 11 76 17 20479 HT_ ?_
   refine pU 12 88 17 24575 HT_ ?_
   refine pU 13 89 17 32767 HT_ ?_
   exact norm_ (by simp only [putAll, Act.put, List.setIfInBounds_toArray, List.set_cons_zero, List.set_cons_succ]) (hCont (v143, gb145) _ ⟨hHeld, (qr HL132_0.out), (by (with_reducible repeat (first | apply Kd.R_alloc | apply Kd.R_drewN | apply Kd.R_drew)); exact Kd.R_mono HO134.out (fun _ hk => ⟨hk.1.2, ⟨hk.2, hk.1.1⟩⟩)), (by (with_reducible repeat (first | apply Kd.R_alloc | apply Kd.R_drewN | apply Kd.R_drew)); exact Kd.R_mono HO139.out (fun _ hk => ⟨hk.1.2, ⟨hk.2, hk.1.1⟩⟩)), (by (with_reducible repeat (first | apply Kd.R_alloc | apply Kd.R_drewN | apply Kd.R_drew)); exact Kd.R_mono HO144.out (fun _ hk => ⟨hk.1.2, ⟨hk.2, hk.1.1.2⟩⟩)), (qv HO_6.out), (by (with_reducible repeat (first | apply Kd.R_alloc | apply Kd.R_drewN | apply Kd.R_drew)); exact Kd.R_mono HO_101001.out (fun _ hk => ⟨hk.1.1, ⟨hk.1.2, hk.2⟩⟩)), (qk BK113.out), (qk BK135.out), (qk BK140.out), (qk BK145.out), GW145.out, GE145.out, NB113_145.out, NB145_113.out, NB135_145.out, NB145_135.out, NB140_145.out, NB145_140.out, (qb HB.out)⟩)
 rintro ⟨v143, gb145⟩ w74 ⟨hS_, h0_, h1_, h2_, h3_, h4_, h5_, h6_, h7_, h8_, h9_, h10_, h11_, h12_, h13_, h14_, h15_, h16_, h17_, h18_⟩
 have n0_ : Aside0 (Kd.R (Kd.int .i64) 3 w74 w.heap.size (fun k_ => some k_ ≠ (.slice (some ad132) t101.length co53 : Value).ownBlock) (.slice (some ad136) (rd_LI t101 (ji33)).length c132_0) (rd_LI t101 (ji33))) := ⟨h0_⟩
 have n1_ : Aside0 (Kd.R kTie 32 w74 w.heap.size (fun k_ => some k_ ≠ (.slice Ao68 t125.length co68 : Value).ownBlock ∧ some k_ ≠ (v143 : Value).ownBlock ∧ some k_ ≠ (.slice Ao12 t110.length co12 : Value).ownBlock) (.slice Ao59 t106.length co59) t106) := ⟨h1_⟩
 have n2_ : Aside0 (Kd.R kTie 32 w74 w.heap.size (fun k_ => some k_ ≠ (.slice Ao59 t106.length co59 : Value).ownBlock ∧ some k_ ≠ (v143 : Value).ownBlock ∧ some k_ ≠ (.slice Ao12 t110.length co12 : Value).ownBlock) (.slice Ao68 t125.length co68) t125) := ⟨h2_⟩
 have n3_ : Aside0 (Kd.R kTie 32 w74 w.heap.size (fun k_ => some k_ ≠ (.slice Ao59 t106.length co59 : Value).ownBlock ∧ some k_ ≠ (.slice Ao68 t125.length co68 : Value).ownBlock ∧ some k_ ≠ (.slice Ao12 t110.length co12 : Value).ownBlock) v143 t128) := ⟨h3_⟩
 have n4_ : Aside0 (Kd.S (Kd.slice 3 (Kd.int .i64)) 60 w74 w.heap.size (fun _ => True) (.slice (some ad132) t101.length co53) t101) := ⟨h4_⟩
 have n5_ : Aside0 (Kd.R kTie 32 w74 w.heap.size (fun k_ => some k_ ≠ (.slice Ao59 t106.length co59 : Value).ownBlock ∧ some k_ ≠ (.slice Ao68 t125.length co68 : Value).ownBlock ∧ some k_ ≠ (v143 : Value).ownBlock) (.slice Ao12 t110.length co12) t110) := ⟨h5_⟩
 have n6_ : Aside0 (w74.heap[gb113]? = some (.cells #[.int .i64 t100, .slice Ao12 t110.length co12] 25 (0, 0))) := ⟨h6_⟩
 have n7_ : Aside0 (w74.heap[gb135]? = some (.cells #[.int .i64 t100, .slice Ao59 t106.length co59] 25 (0, 0))) := ⟨h7_⟩
 have n8_ : Aside0 (w74.heap[gb140]? = some (.cells #[.int .i64 t107, .slice Ao68 t125.length co68] 25 (0, 0))) := ⟨h8_⟩
 have n9_ : Aside0 (w74.heap[gb145]? = some (.cells #[.int .i64 0, .slice none 0 0] 25 (0, 0))) := ⟨h9_⟩
 have n10_ : Aside0 (w.heap.size ≤ gb145) := ⟨h10_⟩
 have n11_ : Aside0 (w.heap.size ≤ gb145) := ⟨h11_⟩
 have n12_ : Aside0 (gb113 ≠ gb145) := ⟨h12_⟩
 have n13_ : Aside0 (gb145 ≠ gb113) := ⟨h13_⟩
 have n14_ : Aside0 (gb135 ≠ gb145) := ⟨h14_⟩
 have n15_ : Aside0 (gb145 ≠ gb135) := ⟨h15_⟩
 have n16_ : Aside0 (gb140 ≠ gb145) := ⟨h16_⟩
 have n17_ : Aside0 (gb145 ≠ gb140) := ⟨h17_⟩
 have n18_ : Aside0 (Below w.heap.size w w74) := ⟨h18_⟩
 clear HO_6 HO_101001 HL132_0 HO134 HO139 BK113 BK135 BK140 HB h0_ h1_ h2_ h3_ h4_ h5_ h6_ h7_ h8_ h9_ h10_ h11_ h12_ h13_ h14_ h15_ h16_ h17_ h18_
 have HL132_0 := n0_
 have HO134 := n1_
 have HO139 := n2_
 have HO144 := n3_
 have HO_6 := n4_
 have HO_101001 := n5_
 have BK113 := n6_
 have BK135 := n7_
 have BK140 := n8_
 have BK145 := n9_
 have GW145 := n10_
 have GE145 := n11_
 have NB113_145 := n12_
 have NB145_113 := n13_
 have NB135_145 := n14_
 have NB145_135 := n15_
 have NB140_145 := n16_
 have NB145_140 := n17_
 have HB := n18_
 clear n0_ n1_ n2_ n3_ n4_ n5_ n6_ n7_ n8_ n9_ n10_ n11_ n12_ n13_ n14_ n15_ n16_ n17_ n18_
 have hHeld : w74.cell? ⟨gb140, 0, none⟩ = some (.int .i64 t107) ∧ w74.cell? ⟨gb140, 1, none⟩ = some (.slice Ao68 t125.length co68) ∧ w74.cell? ad136 = some (.int .i64 (rd (rd_LI t101 (ji33)) 0)) ∧ w74.cell? (ad136.add ((ji46)).toNat) = some (.int .i64 (rd (rd_LI t101 (ji33)) (ji46))) := hS_
 obtain ⟨Ao76, co76, eo76⟩ := Kd.R_slice HO144.out
 (first | subst eo76 | (injection eo76 with f1_ f2_ f3_; have f4_ := f1_.symm; have f5_ := f3_.symm; clear f1_ f2_ f3_; subst f4_; subst f5_))
 refine norm_ (a' := ?_) ?_ ?_
 rotate_left
 ·simp only [putAll, Act.put, List.setIfInBounds_toArray, List.set_cons_zero, List.set_cons_succ]
  rfl
 refine one_ (i := 15) (N := none) (ba 17 65535) rfl rfl (one_of HT_.out (by kernel_rfl)) (by decide) (fun K hK => ?_)
 have hs75 : w74.cell? ⟨gb145, 0, none⟩ = some (.int .i64 0) := (blk_cell BK145.out 0).trans rfl
 have hfs75 := blk_frozen BK145.out 0
 have hns75_0 := NB113_145.out
 have hns75_1 := NB135_145.out
 have hns75_2 := NB140_145.out
 have hms75_0 := NB145_113.out
 have hms75_1 := NB145_135.out
 have hms75_2 := NB145_140.out
 have hs77 : w74.cell? ⟨gb145, 1, none⟩ = some (.slice none 0 0) := (blk_cell BK145.out 1).trans rfl
 have hfs77 := blk_frozen BK145.out 1
 have hns77_0 := NB113_145.out
 have hns77_1 := NB135_145.out
 have hns77_2 := NB140_145.out
 have hms77_0 := NB145_113.out
 have hms77_1 := NB145_135.out
 have hms77_2 := NB145_140.out
 refine skip_ (w1 := ?_) (by rfl) rfl ?_ ?_
 rotate_left
 ·go_simp
  rfl
 refine hK.out _ _ ⟨((cell_far (p := ⟨gb145, _, none⟩) NB140_145.out _).trans (((cell_far (p := ⟨gb145, _, none⟩) NB140_145.out _).trans (hHeld.1)))), ((cell_far (p := ⟨gb145, _, none⟩) NB140_145.out _).trans (((cell_far (p := ⟨gb145, _, none⟩) NB140_145.out _).trans (hHeld.2.1)))), ((cell_far (p := ⟨gb145, _, none⟩) (by first | exact Kd.own_blk (Kd.R_ne HL132_0.out BK145.out (by decide)) | (rw [add_block]; exact Kd.own_blk (Kd.R_ne HL132_0.out BK145.out (by decide))) | (show (Addr.add _ _).block ≠ _; rw [add_block]; exact Kd.own_blk (Kd.R_ne HL132_0.out BK145.out (by decide))) | (dsimp only; exact Kd.own_blk (Kd.R_ne HL132_0.out BK145.out (by decide)))) _).trans (((cell_far (p := ⟨gb145, _, none⟩) (by first | exact Kd.own_blk (Kd.R_ne HL132_0.out BK145.out (by decide)) | (rw [add_block]; exact Kd.own_blk (Kd.R_ne HL132_0.out BK145.out (by decide))) | (show (Addr.add _ _).block ≠ _; rw [add_block]; exact Kd.own_blk (Kd.R_ne HL132_0.out BK145.out (by decide))) | (dsimp only; exact Kd.own_blk (Kd.R_ne HL132_0.out BK145.out (by decide)))) _).trans (hHeld.2.2.1)))), ((cell_far (p := ⟨gb145, _, none⟩) (by first | exact Kd.own_blk (Kd.R_ne HL132_0.out BK145.out (by decide)) | (rw [add_block]; exact Kd.own_blk (Kd.R_ne HL132_0.out BK145.out (by decide))) | (show (Addr.add _ _).block ≠ _; rw [add_block]; exact Kd.own_blk (Kd.R_ne HL132_0.out BK145.out (by decide))) | (dsimp only; exact Kd.own_blk (Kd.R_ne HL132_0.out BK145.out (by decide)))) _).trans (((cell_far (p := ⟨gb145, _, none⟩) (by first | exact Kd.own_blk (Kd.R_ne HL132_0.out BK145.out (by decide)) | (rw [add_block]; exact Kd.own_blk (Kd.R_ne HL132_0.out BK145.out (by decide))) | (show (Addr.add _ _).block ≠ _; rw [add_block]; exact Kd.own_blk (Kd.R_ne HL132_0.out BK145.out (by decide))) | (dsimp only; exact Kd.own_blk (Kd.R_ne HL132_0.out BK145.out (by decide)))) _).trans (hHeld.2.2.2))))⟩ (fun hHeld => ?_)
 clear hK K
 refine pU 16 13 17 131071 HT_ ?_
 refine done_ (done_of HT_.out (by kernel_rfl)) ?_
 have hnb78 := NB113_135.out
 have hnc78 := NB135_113.out
 have hnb79 := NB113_140.out
 have hnc79 := NB140_113.out
 have hnb80 := NB113_145.out
 have hnc80 := NB145_113.out
 obtain ⟨hcz81_0, hcz81_1, hfz81_0, hfz81_1⟩ := b2 BK113
 have hnb82 := NB145_135.out
 have hnc82 := NB135_145.out
 have hnb83 := NB145_140.out
 have hnc83 := NB140_145.out
 obtain ⟨hcz84_0, hcz84_1, hfz84_0, hfz84_1⟩ := b2 BK145
 try go_wp2_with (first | (go_at_call 21; (with_reducible refine (impl_TreeOk.calls kj7 t100 _ _ t110 _ _ t128 t109 _ ?side1 ?side2 ?side3 ?side4 A52.out).mono ?_); (case side1 => refine (Kd.R_reads' (e := 32) (base := w.heap.size) (ok := fun k_ => (some k_ ≠ (.slice Ao59 t106.length co59 : Value).ownBlock ∧ (some k_ ≠ (.slice Ao68 t125.length co68 : Value).ownBlock ∧ some k_ ≠ (.slice Ao76 t128.length co76 : Value).ownBlock))) (n := t110.length) (c := co12) ?_).2.2; exact (by (with_reducible repeat (first | apply Kd.R_alloc | apply Kd.R_drewN | apply Kd.R_drew)); exact (rf2 HO_101001.out BK145.out (fun _ h_ => h_.1)))); (case side2 => exact (Kd.R_reads' HO_101001.out).2.1); (case side3 => refine (Kd.R_reads' (e := 32) (base := w.heap.size) (ok := fun k_ => (some k_ ≠ (.slice Ao59 t106.length co59 : Value).ownBlock ∧ (some k_ ≠ (.slice Ao68 t125.length co68 : Value).ownBlock ∧ some k_ ≠ (.slice Ao12 t110.length co12 : Value).ownBlock))) (n := t128.length) (c := co76) ?_).2.2; exact (by (with_reducible repeat (first | apply Kd.R_alloc | apply Kd.R_drewN | apply Kd.R_drew)); exact (rf2 HO144.out BK145.out (fun _ h_ => h_.1)))); (case side4 => exact (Kd.R_reads' HO144.out).2.1); rintro e w85 ⟨rfl, hb⟩; replace HO_6 := q0 (Kd.S_below (by (with_reducible repeat (first | apply Kd.S_alloc | apply Kd.S_drewN | apply Kd.S_drew)); exact (Kd.S_mono (Kd.S_far (p := ⟨gb145, 1, none⟩) (Kd.S_far (p := ⟨gb145, 0, none⟩) (Kd.S_types HO_6.out BK145.out (by decide)) (fun _ hk => hk.2) (.int .i64 t108)) (fun _ hk => hk.2) (.slice Ao76 t128.length co76)) (fun _ h_ => h_.1))) hb); replace HO_101001 := q0 (Kd.R_below (by (with_reducible repeat (first | apply Kd.R_alloc | apply Kd.R_drewN | apply Kd.R_drew)); exact (rf2 HO_101001.out BK145.out (fun _ h_ => h_.1))) hb); replace HL132_0 := q0 (Kd.R_below (by (with_reducible repeat (first | apply Kd.R_alloc | apply Kd.R_drewN | apply Kd.R_drew)); exact (rf2 HL132_0.out BK145.out (fun _ h_ => h_.1))) hb); replace HO134 := q0 (Kd.R_below (by (with_reducible repeat (first | apply Kd.R_alloc | apply Kd.R_drewN | apply Kd.R_drew)); exact (rf2 HO134.out BK145.out (fun _ h_ => h_.1))) hb); replace HO139 := q0 (Kd.R_below (by (with_reducible repeat (first | apply Kd.R_alloc | apply Kd.R_drewN | apply Kd.R_drew)); exact (rf2 HO139.out BK145.out (fun _ h_ => h_.1))) hb); replace HO144 := q0 (Kd.R_below (by (with_reducible repeat (first | apply Kd.R_alloc | apply Kd.R_drewN | apply Kd.R_drew)); exact (rf2 HO144.out BK145.out (fun _ h_ => h_.1))) hb); replace BK113 := q0 (kf BK113.out hb); replace BK135 := q0 (kf BK135.out hb); replace BK140 := q0 (kf BK140.out hb); replace BK145 := q0 (blk_below (g := gb145) (o := .cells #[.int .i64 t108, .slice Ao76 t128.length co76] 25 (0, 0)) (by (with_reducible repeat (first | refine blk_drewN ?_ _ | refine blk_drew ?_ | refine blk_alloc ?_ _)); refine blk_put (cs := #[.int .i64 t108, .slice none 0 0]) ?_ 1 _ rfl; (with_reducible repeat (first | refine blk_drewN ?_ _ | refine blk_drew ?_ | refine blk_alloc ?_ _)); refine blk_put (cs := #[.int .i64 0, .slice none 0 0]) ?_ 0 _ rfl; (with_reducible repeat (first | refine blk_drewN ?_ _ | refine blk_drew ?_ | refine blk_alloc ?_ _)); exact BK145.out) hb); replace HB := bp HB hb; (try clear hb); (try clear hb2); (try clear hk); (try clear hi)))
 go_ret
 exact ⟨by first | rfl | (simp [errW_none, errW_some] <;> rfl) | (simp only [← hji33, ← hji38, ← hji41, ← hji46]; first | rfl | (simp [errW_none, errW_some] <;> rfl)) | (simp [*, errW_none, errW_some] <;> rfl), qb HB.out⟩

end Go.Proofs.Ytgoembpmhlmafaa.P
