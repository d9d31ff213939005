import Derived.Test.YtgoembpmhlmafaaP0
namespace Go.Proofs.Ytgoembpmhlmafaa.P
open Go.RowKit Go.Proofs.YtgoembpmhlmafaaW.PrintWords Go.Proofs.YtgoembpmhlmafaaW.PrintLast Go.Proofs.YtgoembpmhlmafaaW.PrintMore
attribute [local go_sem] max2_int min2_int max_two min_two max_three min_three max_four min_four
set_option linter.unusedVariables false
set_option linter.unusedSimpArgs false
attribute [local go_sem high] eqATie
set_option maxHeartbeats 8000000 in
set_option maxRecDepth 100000 in
theorem cmp_Or_int.calls (k : Nat) (A0 : Option Addr) (c0 : Nat) (l0 : List Int) (r : Int) (w : World) (hr0 : Kd.C (Kd.int .i64) w A0 l0.length l0) (hc0 : l0.length ≤ c0) (h : cmp_Or_int.f k l0 = some r) :
    Calls Try.prog 99 #[.slice A0 l0.length c0] w fun e w' => e = .returned (.int .i64 r) ∧ Drawn0 w w' := by
 have HR0 := q0 hr0
 have HC0 := q0 hc0
 clear hr0 hc0
 have H : (cmp_Or_int.l0 k 0 l0 (l0.length : Int) 0) = some r := h
 clear h
 have H' := q0 H
 clear H
 go_enter Try.func99, Try.ntmps99
 go_wp2
 go_loopg [8] k (fun kq v8 w' => ∃ (x8_1 : Int), v8 = .int .i64 x8_1 ∧ Aside0 (cmp_Or_int.l0 kq 0 l0 (l0.length : Int) x8_1 = some r) ∧ Aside0 (kq ≤ k) ∧ Drawn0 w w')
 case atStart => exact ⟨(0), qs, H', ⟨Nat.le_refl _⟩, by repeat (first | exact Drawn0.refl _ | apply Drawn0.step)⟩
 clear H'
 obtain ⟨x8_1, rfl, HA, HK1, ⟨m1, rfl⟩⟩ := hrel
 rcases gk with _ | k1
 · exact absurd HA.out (by simp [cmp_Or_int.l0])
 have H := HA.out
 clear HA
 simp only [cmp_Or_int.l0] at H
 by_cases c2 : x8_1 < (l0.length : Int)
 rotate_left
 · rw [if_neg c2] at H
   have c2b0 := decide_eq_false c2
   clear c2
   obtain rfl := Option.some.inj H
   go_wp2
   go_ret
   exact ⟨by first | rfl | (simp; done) | (simp [*]; done), by repeat (first | exact Drawn0.refl _ | apply Drawn0.step)⟩
 rw [if_pos c2] at H
 have c2b0 := decide_eq_true c2
 clear c2
 obtain ⟨c3, H⟩ : (0 ≤ x8_1) ∧ _ := og H
 have c3b0 := decide_eq_true c3
 clear c3
 obtain ⟨c4, H⟩ : (x8_1 < (l0.length : Int)) ∧ _ := og H
 have c4b0 := decide_eq_true c4
 clear c4
 by_cases c5 : (rd l0 x8_1) = 0
 rotate_left
 · rw [if_neg c5] at H
   have c5b0 : ((rd l0 x8_1) == 0) = false := beq_eq_false_iff_ne.mpr c5
   have c5b1 : ((rd l0 x8_1) != 0) = true := bne_iff_ne.mpr c5
   obtain rfl := Option.some.inj H
   have p100 : 0 ≤ (x8_1 : Int) := of_decide_eq_true qa
   have q100 : x8_1 < (l0.length : Int) := of_decide_eq_true qa
   obtain ⟨ad100, e100, hx100_0⟩ := Kd.at_int HR0.out x8_1 p100 q100
   cases e100
   replace p100 := eq_true p100
   replace q100 := eq_true q100
   go_wp2
   go_ret
   exact ⟨by first | rfl | (simp; done) | (simp [*]; done), by repeat (first | exact Drawn0.refl _ | apply Drawn0.step)⟩
 rw [if_pos c5] at H
 have c5b0 : ((rd l0 x8_1) == 0) = true := beq_iff_eq.mpr c5
 have c5b1 : ((rd l0 x8_1) != 0) = false := bne_eq_false_iff_eq.mpr c5
 clear c5
 have H' := q0 H
 clear H
 have p100 : 0 ≤ (x8_1 : Int) := of_decide_eq_true qa
 have q100 : x8_1 < (l0.length : Int) := of_decide_eq_true qa
 obtain ⟨ad100, e100, hx100_0⟩ := Kd.at_int HR0.out x8_1 p100 q100
 cases e100
 replace p100 := eq_true p100
 replace q100 := eq_true q100
 go_wp2
 go_roundg k1
 case measure => have := HK1.out; omega
 case rel => exact ⟨(wrap64 (x8_1 + 1)), qs, H', ⟨by have := HK1.out; omega⟩, by repeat (first | exact Drawn0.refl _ | apply Drawn0.step)⟩

set_option maxHeartbeats 8000000 in
set_option maxRecDepth 100000 in
theorem cmp_isNaN_int.calls (a0 : Int) (r : Bool) (w : World) (h : cmp_isNaN_int.f a0 = some r) :
    Calls Try.prog 120 #[.int .i64 a0] w fun e w' => e = .returned (.bool r) ∧ Drawn0 w w' := by
 have H : (some (a0 != a0)) = some r := h
 clear h
 obtain rfl := Option.some.inj H
 go_enter Try.func120, Try.ntmps120
 go_wp2
 go_ret
 exact ⟨by first | rfl | (simp; done) | (simp [*]; done), by repeat (first | exact Drawn0.refl _ | apply Drawn0.step)⟩

set_option maxHeartbeats 8000000 in
set_option maxRecDepth 100000 in
theorem cmp_Compare_int.calls (a0 : Int) (a1 : Int) (r : Int) (w : World) (h : cmp_Compare_int.f a0 a1 = some r) :
    Calls Try.prog 100 #[.int .i64 a0, .int .i64 a1] w fun e w' => e = .returned (.int .i64 r) ∧ Drawn0 w w' := by
 have H : ((cmp_isNaN_int.f a0).bind fun t100 => ((cmp_isNaN_int.f a1).bind fun t101 => (if t100 = true then (if t101 = true then (some 0) else (some (-1))) else (if t101 = true then (some 1) else (if a0 < a1 then (some (-1)) else (if a0 > a1 then (some 1) else (some 0))))))) = some r := h
 clear h
 obtain ⟨t100, A3, H⟩ := ob H
 obtain ⟨t101, A4, H⟩ := ob H
 by_cases c5 : t100 = true
 · subst c5
   rw [if_pos rfl] at H
   by_cases c6 : t101 = true
   · subst c6
     rw [if_pos rfl] at H
     obtain rfl := Option.some.inj H
     go_enter Try.func100, Try.ntmps100
     go_wp2_with (first | ((with_reducible refine gf 120 ?_); refine gl 8 Try.func120 #[.int .i64 a0] ?_; (with_reducible refine (cmp_isNaN_int.calls a0 true _ A3.out).mono ?_); rintro e w' ⟨rfl, ⟨nd, rfl⟩⟩; refine ⟨_, rfl, ?_⟩) | ((with_reducible refine gf 120 ?_); refine gl 10 Try.func120 #[.int .i64 a1] ?_; (with_reducible refine (cmp_isNaN_int.calls a1 true _ A4.out).mono ?_); rintro e w' ⟨rfl, ⟨nd, rfl⟩⟩; refine ⟨_, rfl, ?_⟩))
     go_ret
     exact ⟨by first | rfl | (simp; done) | (simp [*]; done), by repeat (first | exact Drawn0.refl _ | apply Drawn0.step)⟩
   replace c6 := Bool.eq_false_iff.mpr c6
   subst c6
   rw [if_neg nf] at H
   obtain rfl := Option.some.inj H
   go_enter Try.func100, Try.ntmps100
   go_wp2_with (first | ((with_reducible refine gf 120 ?_); refine gl 8 Try.func120 #[.int .i64 a0] ?_; (with_reducible refine (cmp_isNaN_int.calls a0 true _ A3.out).mono ?_); rintro e w' ⟨rfl, ⟨nd, rfl⟩⟩; refine ⟨_, rfl, ?_⟩) | ((with_reducible refine gf 120 ?_); refine gl 10 Try.func120 #[.int .i64 a1] ?_; (with_reducible refine (cmp_isNaN_int.calls a1 false _ A4.out).mono ?_); rintro e w' ⟨rfl, ⟨nd, rfl⟩⟩; refine ⟨_, rfl, ?_⟩))
   go_ret
   exact ⟨by first | rfl | (simp; done) | (simp [*]; done), by repeat (first | exact Drawn0.refl _ | apply Drawn0.step)⟩
 replace c5 := Bool.eq_false_iff.mpr c5
 subst c5
 rw [if_neg nf] at H
 by_cases c7 : t101 = true
 · subst c7
   rw [if_pos rfl] at H
   obtain rfl := Option.some.inj H
   go_enter Try.func100, Try.ntmps100
   go_wp2_with (first | ((with_reducible refine gf 120 ?_); refine gl 8 Try.func120 #[.int .i64 a0] ?_; (with_reducible refine (cmp_isNaN_int.calls a0 false _ A3.out).mono ?_); rintro e w' ⟨rfl, ⟨nd, rfl⟩⟩; refine ⟨_, rfl, ?_⟩) | ((with_reducible refine gf 120 ?_); refine gl 10 Try.func120 #[.int .i64 a1] ?_; (with_reducible refine (cmp_isNaN_int.calls a1 true _ A4.out).mono ?_); rintro e w' ⟨rfl, ⟨nd, rfl⟩⟩; refine ⟨_, rfl, ?_⟩))
   go_ret
   exact ⟨by first | rfl | (simp; done) | (simp [*]; done), by repeat (first | exact Drawn0.refl _ | apply Drawn0.step)⟩
 replace c7 := Bool.eq_false_iff.mpr c7
 subst c7
 rw [if_neg nf] at H
 by_cases c8 : a0 < a1
 · rw [if_pos c8] at H
   have c8b0 := decide_eq_true c8
   clear c8
   obtain rfl := Option.some.inj H
   go_enter Try.func100, Try.ntmps100
   go_wp2_with (first | ((with_reducible refine gf 120 ?_); refine gl 8 Try.func120 #[.int .i64 a0] ?_; (with_reducible refine (cmp_isNaN_int.calls a0 false _ A3.out).mono ?_); rintro e w' ⟨rfl, ⟨nd, rfl⟩⟩; refine ⟨_, rfl, ?_⟩) | ((with_reducible refine gf 120 ?_); refine gl 10 Try.func120 #[.int .i64 a1] ?_; (with_reducible refine (cmp_isNaN_int.calls a1 false _ A4.out).mono ?_); rintro e w' ⟨rfl, ⟨nd, rfl⟩⟩; refine ⟨_, rfl, ?_⟩))
   go_ret
   exact ⟨by first | rfl | (simp; done) | (simp [*]; done), by repeat (first | exact Drawn0.refl _ | apply Drawn0.step)⟩
 rw [if_neg c8] at H
 have c8b0 := decide_eq_false c8
 clear c8
 by_cases c9 : a0 > a1
 · rw [if_pos c9] at H
   have c9b0 := decide_eq_true c9
   clear c9
   obtain rfl := Option.some.inj H
   go_enter Try.func100, Try.ntmps100
   go_wp2_with (first | ((with_reducible refine gf 120 ?_); refine gl 8 Try.func120 #[.int .i64 a0] ?_; (with_reducible refine (cmp_isNaN_int.calls a0 false _ A3.out).mono ?_); rintro e w' ⟨rfl, ⟨nd, rfl⟩⟩; refine ⟨_, rfl, ?_⟩) | ((with_reducible refine gf 120 ?_); refine gl 10 Try.func120 #[.int .i64 a1] ?_; (with_reducible refine (cmp_isNaN_int.calls a1 false _ A4.out).mono ?_); rintro e w' ⟨rfl, ⟨nd, rfl⟩⟩; refine ⟨_, rfl, ?_⟩))
   go_ret
   exact ⟨by first | rfl | (simp; done) | (simp [*]; done), by repeat (first | exact Drawn0.refl _ | apply Drawn0.step)⟩
 rw [if_neg c9] at H
 have c9b0 := decide_eq_false c9
 clear c9
 obtain rfl := Option.some.inj H
 go_enter Try.func100, Try.ntmps100
 go_wp2_with (first | ((with_reducible refine gf 120 ?_); refine gl 8 Try.func120 #[.int .i64 a0] ?_; (with_reducible refine (cmp_isNaN_int.calls a0 false _ A3.out).mono ?_); rintro e w' ⟨rfl, ⟨nd, rfl⟩⟩; refine ⟨_, rfl, ?_⟩) | ((with_reducible refine gf 120 ?_); refine gl 10 Try.func120 #[.int .i64 a1] ?_; (with_reducible refine (cmp_isNaN_int.calls a1 false _ A4.out).mono ?_); rintro e w' ⟨rfl, ⟨nd, rfl⟩⟩; refine ⟨_, rfl, ?_⟩))
 go_ret
 exact ⟨by first | rfl | (simp; done) | (simp [*]; done), by repeat (first | exact Drawn0.refl _ | apply Drawn0.step)⟩

def impl_tieOrder.T1 : Bool × List (List Nat × List Nat) := (true, [([], []), ([0], [0]), ([], []), ([2], [2]), ([1, 3], [1, 3]), ([], []), ([5], [5]), ([], []), ([7], [7]), ([6, 8, 4], [6, 8]), ([4, 9], [4, 9]), ([10, 9], [10]), ([11, 11, 0, 1, 2, 3, 4, 5, 6, 7, 8, 9, 10, 11], [11])])
def impl_tieOrder.B1 : List Nat := [0, 1, 0, 4, 15, 0, 32, 0, 128, 511, 1023, 2047, 4095]
theorem impl_tieOrder.tab1 : rtab .any (opsOf Try.f73 1) = impl_tieOrder.T1 := by kernel_rfl
theorem impl_tieOrder.bits1 : waitsOk impl_tieOrder.T1.2 impl_tieOrder.B1 = true := by kernel_rfl
set_option maxHeartbeats 8000000 in
set_option maxRecDepth 100000 in
theorem impl_tieOrder.calls (k : Nat) (a0_0 : Int) (a0_1 : Int) (a1_0 : Int) (a1_1 : Int) (r : Int) (w : World) (h : impl_tieOrder.f k a0_0 a0_1 a1_0 a1_1 = some r) :
    Calls Try.prog 73 #[.agg #[.int .i64 a0_0, .int .i64 a0_1], .agg #[.int .i64 a1_0, .int .i64 a1_1]] w fun e w' => e = .returned (.int .i64 r) ∧ Below w.heap.size w w' := by
 have hu32 := Try.underlying32
 have HB := q0 (Below.refl w.heap.size w)
 have H : ((cmp_Compare_int.f a0_0 a1_0).bind fun t100 => ((cmp_Compare_int.f a0_1 a1_1).bind fun t101 => ((cmp_Or_int.f k (([t100, t101] : List Int))).bind fun t102 => (some t102)))) = some r := h
 clear h
 obtain ⟨t100, A3, H⟩ := ob H
 obtain ⟨t101, A4, H⟩ := ob H
 obtain ⟨y103, hy103⟩ : ∃ y_ : List Int, y_ = (([t100, t101] : List Int)) := ⟨_, rfl⟩
 replace H : ((cmp_Or_int.f k y103).bind fun t102 => (some t102)) = some r := qy H hy103
 have Ny103 := q0 hy103
 clear hy103
 obtain ⟨t102, A5, H⟩ := ob H
 obtain rfl := Option.some.inj H
 go_enter Try.func73, Try.ntmps73
 try go_wp2_with (first | ((with_reducible refine gd 2 ?_); refine be 2 #[.int .i64 a0_0, .int .i64 a0_1] 32 ?_; intro gb104 hg w6 hbox hb; have BK104 := q0 (hbox); have GW104 := gw HB hg; have GE104 := gw HB hg; replace HB := bp HB hb; clear hb hbox hg) | ((with_reducible refine gd 3 ?_); refine be 3 #[.int .i64 a1_0, .int .i64 a1_1] 32 ?_; intro gb105 hg w7 hbox hb; have BK105 := q0 (hbox); have GW105 := gw HB hg; have GE105 := gw HB hg; replace HB := bp HB hb; have NB104_105 := nl BK104 hg; have NB105_104 := ng BK104 hg; replace BK104 := kd BK104 hb; clear hb hbox hg))
 replace BK104 := q0 (blk_drew BK104.out)
 replace BK105 := q0 (blk_drew BK105.out)
 replace HB := q0 (below_drew1 HB.out)
 refine start_ (n := 13) (S := fun w' => w'.cell? ⟨gb104, 0, none⟩ = some (.int .i64 a0_0) ∧ w'.cell? ⟨gb104, 1, none⟩ = some (.int .i64 a0_1) ∧ w'.cell? ⟨gb105, 0, none⟩ = some (.int .i64 a1_0) ∧ w'.cell? ⟨gb105, 1, none⟩ = some (.int .i64 a1_1)) (ds := []) (ba 13 0) (by kernel_rfl) rfl (by kernel_rfl) ⟨bca BK104, bcb BK104, bca BK105, bcb BK105⟩ (fun hHeld => ?_); refine with_tabW impl_tieOrder.tab1 impl_tieOrder.bits1 (fun HT_ HW_ => ?_)
 generalize w7.drew = w8 at BK104 BK105 HB hHeld ⊢
 refine pU 0 5 13 1 HT_ ?_
 refine pU 2 7 13 5 HT_ ?_
 refine pU 5 10 13 37 HT_ ?_
 refine pU 7 12 13 165 HT_ ?_
 refine tU 1 6 13 167 HT_ HW_ hHeld ?_
 refine tU 3 8 13 175 HT_ HW_ hHeld ?_
 refine tU 6 11 13 239 HT_ HW_ hHeld ?_
 refine tU 8 13 13 495 HT_ HW_ hHeld ?_
 refine one_ (i := 4) (N := some 9) (ba 13 511) rfl rfl (one_of HT_.out (by kernel_rfl)) (by decide) (fun K hK => ?_)
 refine goes_ Try.func100 (by kernel_rfl) rfl #[.int .i64 a0_0, .int .i64 a1_0] (by rfl) rfl rfl qm ?_
 with_reducible refine (cmp_Compare_int.calls a0_0 a1_0 t100 _ A3.out).mono ?_
 rintro e w' ⟨rfl, ⟨nd, rfl⟩⟩
 refine ⟨_, rfl, ?_⟩
 refine hK.out _ _ ⟨bca BK104, bcb BK104, bca BK105, bcb BK105⟩ (fun hHeld => ?_)
 clear hK K
 refine nu 9 ?_
 refine one_ (i := 9) (N := some 14) (ba 13 1023) rfl rfl (one_of HT_.out (by kernel_rfl)) (by decide) (fun K hK => ?_)
 refine goes_ Try.func100 (by kernel_rfl) rfl #[.int .i64 a0_1, .int .i64 a1_1] (by rfl) rfl rfl qm ?_
 with_reducible refine (cmp_Compare_int.calls a0_1 a1_1 t101 _ A4.out).mono ?_
 rintro e w' ⟨rfl, ⟨nd, rfl⟩⟩
 refine ⟨_, rfl, ?_⟩
 refine hK.out _ _ ⟨bca BK104, bcb BK104, bca BK105, bcb BK105⟩ (fun hHeld => ?_)
 clear hK K
 refine nu 14 ?_
 refine one_ (i := 10) (N := some 15) (ba 13 2047) rfl rfl (one_of HT_.out (by kernel_rfl)) (by decide) (fun K hK => ?_)
 refine Kd.R_lit_step (Kd.int .i64) _ 3 ?hg (N := 15) ?hd (xs := ([t100, t101] : List Int)) (inner := [.int .i64 t100, .int .i64 t101]) (ok := fun _ => True) (okp := fun _ => True) ?hr ?hp (fun _ hk => hk) trivial (Below.refl _ _) (Nat.le_refl _) (by simp) ?_; (case hd => rfl); (case hg => rfl); (case hr => first | (go_simp; done) | (go_simp; rfl)); (case hp => exact (Reps.one (show Kd.M (Kd.int .i64) _ _ _ t100 [.int .i64 t100] from rfl) (Reps.one (show Kd.M (Kd.int .i64) _ _ _ t101 [.int .i64 t101] from rfl) (Reps.none _ _))))
 intro v106 w9 ho10 hb hg_ hnew_
 clear hg_ hnew_
 (first | rw [← Ny103.out] at ho10 | (simp only [Int.reduceToNat] at ho10; rw [← Ny103.out] at ho10))
 have HO107 := q0 (Kd.R_lower ho10 (below_size (qb HB.out)))
 replace BK104 := kd BK104 hb
 replace BK105 := kd BK105 hb
 replace HB := bp HB hb
 clear hb ho10
 obtain ⟨Ao11, co11, eo11⟩ := Kd.R_slice HO107.out
 (first | subst eo11 | (injection eo11 with f1_ f2_ f3_; have f4_ := f1_.symm; have f5_ := f3_.symm; clear f1_ f2_ f3_; subst f4_; subst f5_))
 refine hK.out _ _ ⟨bca BK104, bcb BK104, bca BK105, bcb BK105⟩ (fun hHeld => ?_)
 clear hK K
 refine nu 15 ?_
 refine one_ (i := 11) (N := some 16) (ba 13 4095) rfl rfl (one_of HT_.out (by kernel_rfl)) (by decide) (fun K hK => ?_)
 refine goes_ Try.func99 (by kernel_rfl) rfl #[.slice Ao11 y103.length co11] (by rfl) rfl rfl qm ?_
 with_reducible refine (cmp_Or_int.calls k _ _ y103 t102 _ ?side1 ?side2 A5.out).mono ?_
 (case side1 => exact qc (Kd.R_reads' HO107.out).2.2)
 (case side2 => exact (Kd.R_reads' HO107.out).2.1)
 rintro e w' ⟨rfl, ⟨nd, rfl⟩⟩
 refine ⟨_, rfl, ?_⟩
 refine hK.out _ _ ⟨bca BK104, bcb BK104, bca BK105, bcb BK105⟩ (fun hHeld => ?_)
 clear hK K
 refine nu 16 ?_
 refine pU 12 4 13 8191 HT_ ?_
 refine done_ (done_of HT_.out (by kernel_rfl)) ?_
 try go_wp2
 go_ret
 exact ⟨qe, qb HB.out⟩

def impl_ascending.T4 : Bool × List (List Nat × List Nat) := (true, [([], []), ([], []), ([1], [1]), ([0, 2], [0, 2]), ([3], [3]), ([], []), ([], []), ([5, 6], [5, 6]), ([7], [7]), ([4, 8], [4, 8]), ([9], [9])])
def impl_ascending.B4 : List Nat := [0, 0, 2, 7, 15, 0, 0, 96, 224, 511, 1023]
theorem impl_ascending.tab4 : rtab .any (opsOf Try.f78 4) = impl_ascending.T4 := by kernel_rfl
theorem impl_ascending.bits4 : waitsOk impl_ascending.T4.2 impl_ascending.B4 = true := by kernel_rfl
set_option maxHeartbeats 8000000 in
set_option maxRecDepth 100000 in
theorem impl_ascending.calls (k : Nat) (A0 : Option Addr) (c0 : Nat) (l0 : List (STie)) (r : Bool) (w : World) (hr0 : Kd.C kTie w A0 l0.length l0) (hc0 : l0.length ≤ c0) (h : impl_ascending.f k l0 = some r) :
    Calls Try.prog 78 #[.slice A0 l0.length c0] w fun e w' => e = .returned (.bool r) ∧ Below w.heap.size w w' := by
 have hu32 := Try.underlying32
 have HR0 := q0 hr0
 have HC0 := q0 hc0
 clear hr0 hc0
 have HB := q0 (Below.refl w.heap.size w)
 have H : (impl_ascending.l0 k l0 1) = some r := h
 clear h
 have H' := q0 H
 clear H
 go_enter Try.func78, Try.ntmps78
 go_wp2
 go_loopg [3] k (fun kq v3 w' => ∃ (x3_1 : Int), v3 = .int .i64 x3_1 ∧ Aside0 (impl_ascending.l0 kq l0 x3_1 = some r) ∧ Aside0 (kq ≤ k) ∧ Aside0 (Below w.heap.size w w'))
 case atStart => exact ⟨(1), qs, H', ⟨Nat.le_refl _⟩, ⟨qb HB.out⟩⟩
 clear H'
 obtain ⟨x3_1, rfl, HA, HK1, HB⟩ := hrel
 rcases gk with _ | k1
 · exact absurd HA.out (by simp [impl_ascending.l0])
 have H := HA.out
 clear HA
 simp only [impl_ascending.l0] at H
 by_cases c2 : x3_1 < (l0.length : Int)
 rotate_left
 · rw [if_neg c2] at H
   have c2b0 := decide_eq_false c2
   clear c2
   obtain rfl := Option.some.inj H
   go_wp2
   go_ret
   exact ⟨qe, qb HB.out⟩
 rw [if_pos c2] at H
 have c2b0 := decide_eq_true c2
 clear c2
 obtain ⟨ji3, hji3⟩ : ∃ j_ : Int, (wrap64 (x3_1 - 1)) = j_ := ⟨_, rfl⟩
 replace H : (if 0 ≤ (ji3) then (if (ji3) < (l0.length : Int) then (if 0 ≤ x3_1 then ((impl_tieOrder.f k1 ((rd_TTie l0 (ji3)).f0) ((rd_TTie l0 (ji3)).f1) ((rd_TTie l0 x3_1).f0) ((rd_TTie l0 x3_1).f1)).bind fun t100 => (if t100 ≥ 0 then (some false) else (impl_ascending.l0 k1 l0 (wrap64 (x3_1 + 1))))) else (none)) else (none)) else (none)) = some r := by first | (rw [hji3] at H; exact H) | (simp only [hji3] at H ⊢; exact H)
 have hji3w : (IntKind.i64.wrap (x3_1 - 1)) = ji3 := (i64_w _).trans hji3
 obtain ⟨c4, H⟩ : (0 ≤ (ji3)) ∧ _ := og H
 have c4b0 := decide_eq_true c4
 clear c4
 obtain ⟨c5, H⟩ : ((ji3) < (l0.length : Int)) ∧ _ := og H
 have c5b0 := decide_eq_true c5
 clear c5
 obtain ⟨c6, H⟩ : (0 ≤ x3_1) ∧ _ := og H
 have c6b0 := decide_eq_true c6
 clear c6
 obtain ⟨t100, A7, H⟩ := ob H
 by_cases c8 : t100 ≥ 0
 · rw [if_pos c8] at H
   have c8b0 := decide_eq_true c8
   clear c8
   obtain rfl := Option.some.inj H
   try go_wp2
   replace HB := q0 (below_drew1 HB.out)
   have p101 : 0 ≤ ((ji3) : Int) := of_decide_eq_true qa
   have q101 : (ji3) < (l0.length : Int) := of_decide_eq_true qa
   obtain ⟨ad101, e101, hx101_0, hx101_1⟩ := at_TTie HR0.out (ji3) p101 q101
   have hw101_1 := hx101_1
   have hw101_0 := hx101_0
   cases e101
   replace hx101_0 := hcl HB.out hx101_0
   replace hx101_1 := hcl HB.out hx101_1
   replace p101 := eq_true p101
   replace q101 := eq_true q101
   have p102 : 0 ≤ (x3_1 : Int) := of_decide_eq_true qa
   have q102 : x3_1 < (l0.length : Int) := of_decide_eq_true qa
   obtain ⟨ad102, e102, hx102_0, hx102_1⟩ := at_TTie HR0.out x3_1 p102 q102
   have hw102_1 := hx102_1
   have hw102_0 := hx102_0
   obtain rfl : ad101 = ad102 := (by injection e102)
   replace hx102_0 := hcl HB.out hx102_0
   replace hx102_1 := hcl HB.out hx102_1
   replace p102 := eq_true p102
   replace q102 := eq_true q102
   refine start_ (n := 11) (S := fun w' => w'.cell? (ad101.add (((ji3)).toNat * 2)) = some (.int .i64 ((rd_TTie l0 (ji3)).f0)) ∧ w'.cell? ⟨(ad101.add (((ji3)).toNat * 2)).block, (ad101.add (((ji3)).toNat * 2)).off + 1, none⟩ = some (.int .i64 ((rd_TTie l0 (ji3)).f1)) ∧ w'.cell? (ad101.add ((x3_1).toNat * 2)) = some (.int .i64 ((rd_TTie l0 x3_1).f0)) ∧ w'.cell? ⟨(ad101.add ((x3_1).toNat * 2)).block, (ad101.add ((x3_1).toNat * 2)).off + 1, none⟩ = some (.int .i64 ((rd_TTie l0 x3_1).f1))) (ds := []) (ba 11 0) (by kernel_rfl) rfl (by kernel_rfl) ⟨((HB.out.cell (World.block_lt_of_cell? w _ hw101_0)).trans hw101_0), ((HB.out.cell (World.block_lt_of_cell? w _ hw101_1)).trans hw101_1), ((HB.out.cell (World.block_lt_of_cell? w _ hw102_0)).trans hw102_0), ((HB.out.cell (World.block_lt_of_cell? w _ hw102_1)).trans hw102_1)⟩ (fun hHeld => ?_); refine with_tabW impl_ascending.tab4 impl_ascending.bits4 (fun HT_ HW_ => ?_)
   generalize wr.drew = w9 at HB hx101_0 hx101_1 hx102_0 hx102_1 hHeld ⊢
   refine pU 0 10 11 1 HT_ ?_
   refine pU 1 11 11 3 HT_ ?_
   refine pU 2 12 11 7 HT_ ?_
   refine pU 3 13 11 15 HT_ ?_
   refine pU 5 15 11 47 HT_ ?_
   refine pU 6 16 11 111 HT_ ?_
   refine pU 7 17 11 239 HT_ ?_
   refine tU 4 14 11 255 HT_ HW_ hHeld ?_
   refine tU 8 18 11 511 HT_ HW_ hHeld ?_
   refine one_ (i := 9) (N := some 19) (ba 11 1023) rfl rfl (one_of HT_.out (by kernel_rfl)) (by decide) (fun K hK => ?_)
   refine goes_ Try.func73 (by kernel_rfl) rfl #[.agg #[.int .i64 ((rd_TTie l0 (ji3)).f0), .int .i64 ((rd_TTie l0 (ji3)).f1)], .agg #[.int .i64 ((rd_TTie l0 x3_1).f0), .int .i64 ((rd_TTie l0 x3_1).f1)]] (by rfl) rfl rfl (by (try simp only [List.map_toArray, List.map_cons, List.map_nil]); first | done | (simp only [hji3]; rfl) | rfl | (simp only [List.length_drop, List.length_take]; rfl)) ?_
   with_reducible refine (impl_tieOrder.calls k1 ((rd_TTie l0 (ji3)).f0) ((rd_TTie l0 (ji3)).f1) ((rd_TTie l0 x3_1).f0) ((rd_TTie l0 x3_1).f1) t100 _ A7.out).mono ?_
   rintro e w10 ⟨rfl, hb⟩
   refine ⟨_, rfl, ?_⟩
   replace HB := bp HB hb
   (try clear hb)
   (try clear hb2)
   (try clear hk)
   (try clear hi)
   refine hK.out _ _ ⟨((HB.out.cell (World.block_lt_of_cell? w _ hw101_0)).trans hw101_0), ((HB.out.cell (World.block_lt_of_cell? w _ hw101_1)).trans hw101_1), ((HB.out.cell (World.block_lt_of_cell? w _ hw102_0)).trans hw102_0), ((HB.out.cell (World.block_lt_of_cell? w _ hw102_1)).trans hw102_1)⟩ (fun hHeld => ?_)
   clear hK K
   refine nu 19 ?_
   refine pU 10 20 11 2047 HT_ ?_
   refine done_ (done_of HT_.out (by kernel_rfl)) ?_
   try go_wp2
   go_ret
   exact ⟨by first | rfl | (simp [errW_none, errW_some] <;> rfl) | (simp only [← hji3]; first | rfl | (simp [errW_none, errW_some] <;> rfl)) | (simp [*, errW_none, errW_some] <;> rfl), qb HB.out⟩
 rw [if_neg c8] at H
 have c8b0 := decide_eq_false c8
 clear c8
 have H' := q0 H
 clear H
 try go_wp2
 replace HB := q0 (below_drew1 HB.out)
 have p101 : 0 ≤ ((ji3) : Int) := of_decide_eq_true qa
 have q101 : (ji3) < (l0.length : Int) := of_decide_eq_true qa
 obtain ⟨ad101, e101, hx101_0, hx101_1⟩ := at_TTie HR0.out (ji3) p101 q101
 have hw101_1 := hx101_1
 have hw101_0 := hx101_0
 cases e101
 replace hx101_0 := hcl HB.out hx101_0
 replace hx101_1 := hcl HB.out hx101_1
 replace p101 := eq_true p101
 replace q101 := eq_true q101
 have p102 : 0 ≤ (x3_1 : Int) := of_decide_eq_true qa
 have q102 : x3_1 < (l0.length : Int) := of_decide_eq_true qa
 obtain ⟨ad102, e102, hx102_0, hx102_1⟩ := at_TTie HR0.out x3_1 p102 q102
 have hw102_1 := hx102_1
 have hw102_0 := hx102_0
 obtain rfl : ad101 = ad102 := (by injection e102)
 replace hx102_0 := hcl HB.out hx102_0
 replace hx102_1 := hcl HB.out hx102_1
 replace p102 := eq_true p102
 replace q102 := eq_true q102
 refine start_ (n := 11) (S := fun w' => w'.cell? (ad101.add (((ji3)).toNat * 2)) = some (.int .i64 ((rd_TTie l0 (ji3)).f0)) ∧ w'.cell? ⟨(ad101.add (((ji3)).toNat * 2)).block, (ad101.add (((ji3)).toNat * 2)).off + 1, none⟩ = some (.int .i64 ((rd_TTie l0 (ji3)).f1)) ∧ w'.cell? (ad101.add ((x3_1).toNat * 2)) = some (.int .i64 ((rd_TTie l0 x3_1).f0)) ∧ w'.cell? ⟨(ad101.add ((x3_1).toNat * 2)).block, (ad101.add ((x3_1).toNat * 2)).off + 1, none⟩ = some (.int .i64 ((rd_TTie l0 x3_1).f1))) (ds := []) (ba 11 0) (by kernel_rfl) rfl (by kernel_rfl) ⟨((HB.out.cell (World.block_lt_of_cell? w _ hw101_0)).trans hw101_0), ((HB.out.cell (World.block_lt_of_cell? w _ hw101_1)).trans hw101_1), ((HB.out.cell (World.block_lt_of_cell? w _ hw102_0)).trans hw102_0), ((HB.out.cell (World.block_lt_of_cell? w _ hw102_1)).trans hw102_1)⟩ (fun hHeld => ?_); refine with_tabW impl_ascending.tab4 impl_ascending.bits4 (fun HT_ HW_ => ?_)
 generalize wr.drew = w11 at HB hx101_0 hx101_1 hx102_0 hx102_1 hHeld ⊢
 refine pU 0 10 11 1 HT_ ?_
 refine pU 1 11 11 3 HT_ ?_
 refine pU 2 12 11 7 HT_ ?_
 refine pU 3 13 11 15 HT_ ?_
 refine pU 5 15 11 47 HT_ ?_
 refine pU 6 16 11 111 HT_ ?_
 refine pU 7 17 11 239 HT_ ?_
 refine tU 4 14 11 255 HT_ HW_ hHeld ?_
 refine tU 8 18 11 511 HT_ HW_ hHeld ?_
 refine one_ (i := 9) (N := some 19) (ba 11 1023) rfl rfl (one_of HT_.out (by kernel_rfl)) (by decide) (fun K hK => ?_)
 refine goes_ Try.func73 (by kernel_rfl) rfl #[.agg #[.int .i64 ((rd_TTie l0 (ji3)).f0), .int .i64 ((rd_TTie l0 (ji3)).f1)], .agg #[.int .i64 ((rd_TTie l0 x3_1).f0), .int .i64 ((rd_TTie l0 x3_1).f1)]] (by rfl) rfl rfl (by (try simp only [List.map_toArray, List.map_cons, List.map_nil]); first | done | (simp only [hji3]; rfl) | rfl | (simp only [List.length_drop, List.length_take]; rfl)) ?_
 with_reducible refine (impl_tieOrder.calls k1 ((rd_TTie l0 (ji3)).f0) ((rd_TTie l0 (ji3)).f1) ((rd_TTie l0 x3_1).f0) ((rd_TTie l0 x3_1).f1) t100 _ A7.out).mono ?_
 rintro e w12 ⟨rfl, hb⟩
 refine ⟨_, rfl, ?_⟩
 replace HB := bp HB hb
 (try clear hb)
 (try clear hb2)
 (try clear hk)
 (try clear hi)
 refine hK.out _ _ ⟨((HB.out.cell (World.block_lt_of_cell? w _ hw101_0)).trans hw101_0), ((HB.out.cell (World.block_lt_of_cell? w _ hw101_1)).trans hw101_1), ((HB.out.cell (World.block_lt_of_cell? w _ hw102_0)).trans hw102_0), ((HB.out.cell (World.block_lt_of_cell? w _ hw102_1)).trans hw102_1)⟩ (fun hHeld => ?_)
 clear hK K
 refine nu 19 ?_
 refine pU 10 20 11 2047 HT_ ?_
 refine done_ (done_of HT_.out (by kernel_rfl)) ?_
 try go_wp2
 go_roundg k1
 case measure => have := HK1.out; omega
 case rel => exact ⟨(wrap64 (x3_1 + 1)), qs, H', ⟨by have := HK1.out; omega⟩, ⟨qb HB.out⟩⟩

set_option maxHeartbeats 8000000 in
set_option maxRecDepth 100000 in
theorem impl_NetOk.calls (k : Nat) (a0_0 : Int) (A0_1 : Option Addr) (c0_1 : Nat) (l0_1 : List (STie)) (r : Bool) (w : World) (hr0_1 : Kd.C kTie w A0_1 l0_1.length l0_1) (hc0_1 : l0_1.length ≤ c0_1) (h : impl_NetOk.f k a0_0 l0_1 = some r) :
    Calls Try.prog 37 #[.agg #[.int .i64 a0_0, .slice A0_1 l0_1.length c0_1]] w fun e w' => e = .returned (.bool r) ∧ Below w.heap.size w w' := by
 have hu25 := Try.underlying25
 have hu32 := Try.underlying32
 have HR0_1 := q0 hr0_1
 have HC0_1 := q0 hc0_1
 clear hr0_1 hc0_1
 have HB := q0 (Below.refl w.heap.size w)
 have H : (if a0_0 < 0 then (impl_NetOk.j0 k true a0_0 l0_1) else (impl_NetOk.j0 k (decide (a0_0 > 8)) a0_0 l0_1)) = some r := h
 clear h
 have HC2 := q0 H
 clear H
 go_enter Try.func37, Try.ntmps37
 go_upto_region 1 with (first | ((with_reducible refine gd 1 ?_); refine be 1 #[.int .i64 a0_0, .slice A0_1 l0_1.length c0_1] 25 ?_; intro gb102 hg w3 hbox hb; have BK102 := q0 (hbox); have GW102 := gw HB hg; have GE102 := gw HB hg; replace HB := bp HB hb; clear hb hbox hg))
 (try simp only [Act.put, List.setIfInBounds_toArray, List.set_cons_zero, List.set_cons_succ])
 go_cut [12] (fun v12 wc => ∃ (kq : Nat) (x12_1 : Bool), v12 = .bool x12_1 ∧ Aside0 (impl_NetOk.j0 kq x12_1 a0_0 l0_1 = some r) ∧ Aside0 (kq ≤ k) ∧ Aside0 (wc.heap[gb102]? = some (.cells #[.int .i64 a0_0, (.slice A0_1 l0_1.length c0_1)] 25 (0, 0))) ∧ Aside0 (Below w.heap.size w wc))
 case first =>
   have H := HC2.out
   clear HC2
   by_cases c4 : a0_0 < 0
   · rw [if_pos c4] at H
     have c4b0 := decide_eq_true c4
     clear c4
     (first | rw [c4b0] | (simp only [i64_w, i32_w]; rw [c4b0]) | skip)
     have H' := q0 H
     clear H
     obtain ⟨hcz5_0, hcz5_1, hfz5_0, hfz5_1⟩ := b2 BK102
     go_wp2
     go_meet
     case rel => exact ⟨_, (true), qs, H', ⟨by first | omega | exact Nat.le_refl _⟩, ⟨qk BK102.out⟩, ⟨qb HB.out⟩⟩
   rw [if_neg c4] at H
   have c4b0 := decide_eq_false c4
   clear c4
   (first | rw [c4b0] | (simp only [i64_w, i32_w]; rw [c4b0]) | skip)
   have H' := q0 H
   clear H
   obtain ⟨hcz6_0, hcz6_1, hfz6_0, hfz6_1⟩ := b2 BK102
   go_wp2
   go_meet
   case rel => exact ⟨_, (decide (a0_0 > 8)), qs, H', ⟨by first | omega | exact Nat.le_refl _⟩, ⟨qk BK102.out⟩, ⟨qb HB.out⟩⟩
 clear HC2
 try clear p2
 try clear c3
 try clear c4
 try clear c4b0
 try clear hcz5_0
 try clear hcz5_1
 try clear hcz6_0
 try clear hcz6_1
 try clear hfz5_0
 try clear hfz5_1
 try clear hfz6_0
 try clear hfz6_1
 obtain ⟨kq, x12_1, rfl, HA, HJ1, BK102, HB⟩ := hcut
 rcases kq with _ | kj1
 · exact absurd HA.out (by simp [impl_NetOk.j0])
 have H := HA.out
 clear HA
 simp only [impl_NetOk.j0] at H
 by_cases c7 : x12_1 = true
 · subst c7
   rw [if_pos rfl] at H
   obtain rfl := Option.some.inj H
   go_wp2
   go_ret
   exact ⟨qe, qb HB.out⟩
 replace c7 := Bool.eq_false_iff.mpr c7
 subst c7
 rw [if_neg nf] at H
 have H' := q0 H
 clear H
 obtain ⟨hcz8_0, hcz8_1, hfz8_0, hfz8_1⟩ := b2 BK102
 go_wp2
 go_loopg [16] kj1 (fun kq v16 w' => ∃ (x16_2 : Int), v16 = .int .i64 x16_2 ∧ Aside0 (impl_NetOk.l0 kq l0_1 (l0_1.length : Int) x16_2 a0_0 l0_1 = some r) ∧ Aside0 (kq ≤ kj1) ∧ Aside0 (w'.heap[gb102]? = some (.cells #[.int .i64 a0_0, (.slice A0_1 l0_1.length c0_1)] 25 (0, 0))) ∧ Aside0 (Below w.heap.size w w'))
 case atStart => exact ⟨(0), qs, H', ⟨Nat.le_refl _⟩, ⟨qk BK102.out⟩, ⟨qb HB.out⟩⟩
 clear H'
 try clear p2
 try clear c3
 try clear c4
 try clear c4b0
 try clear c7
 try clear hcz5_0
 try clear hcz5_1
 try clear hcz6_0
 try clear hcz6_1
 try clear hcz8_0
 try clear hcz8_1
 try clear hfz5_0
 try clear hfz5_1
 try clear hfz6_0
 try clear hfz6_1
 try clear hfz8_0
 try clear hfz8_1
 try clear p2
 obtain ⟨x16_2, rfl, HA, HK2, BK102, HB⟩ := hrel
 rcases gk with _ | k2
 · exact absurd HA.out (by simp [impl_NetOk.l0])
 have H := HA.out
 clear HA
 simp only [impl_NetOk.l0] at H
 by_cases c9 : x16_2 < (l0_1.length : Int)
 rotate_left
 · rw [if_neg c9] at H
   have c9b0 := decide_eq_false c9
   clear c9
   obtain ⟨t101, A29, H⟩ := ob H
   obtain rfl := Option.some.inj H
   obtain ⟨hcz30_0, hcz30_1, hfz30_0, hfz30_1⟩ := b2 BK102
   go_wp2_with (first | ((with_reducible refine gf 78 ?_); refine gl 40 Try.func78 #[.slice A0_1 l0_1.length c0_1] ?_; (with_reducible refine (impl_ascending.calls k2 _ _ l0_1 t101 _ ?side1 ?side2 A29.out).mono ?_); (case side1 => exact qc (Kd.C_below HR0_1.out HB.out)); (case side2 => exact HC0_1.out); rintro e w31 ⟨rfl, hb⟩; refine ⟨_, rfl, ?_⟩; replace BK102 := kd BK102 hb; replace HB := bp HB hb; (try clear hb); (try clear hb2); (try clear hk); (try clear hi)))
   go_ret
   exact ⟨qe, qb HB.out⟩
 rw [if_pos c9] at H
 have c9b0 := decide_eq_true c9
 clear c9
 obtain ⟨c10, H⟩ : (0 ≤ x16_2) ∧ _ := og H
 have c10b0 := decide_eq_true c10
 clear c10
 obtain ⟨c11, H⟩ : (x16_2 < (l0_1.length : Int)) ∧ _ := og H
 have c11b0 := decide_eq_true c11
 clear c11
 by_cases c12 : ((rd_TTie l0_1 x16_2).f0) < 0
 · rw [if_pos c12] at H
   have c12b0 := decide_eq_true c12
   clear c12
   obtain rfl := Option.some.inj H
   have p100 : 0 ≤ (x16_2 : Int) := of_decide_eq_true qa
   have q100 : x16_2 < (l0_1.length : Int) := of_decide_eq_true qa
   obtain ⟨ad100, e100, hx100_0, hx100_1⟩ := at_TTie HR0_1.out x16_2 p100 q100
   cases e100
   replace hx100_0 := hcl HB.out hx100_0
   replace hx100_1 := hcl HB.out hx100_1
   replace p100 := eq_true p100
   replace q100 := eq_true q100
   go_wp2_with (first | ((with_reducible refine gd 4 ?_); refine be 4 #[.int .i64 0, .int .i64 0] 32 ?_; intro gb103 hg w13 hbox hb; have BK103 := q0 (hbox); have GW103 := gw HB hg; have GE103 := gw HB hg; replace HB := bp HB hb; have NB102_103 := nl BK102 hg; have NB103_102 := ng BK102 hg; replace BK102 := kd BK102 hb; clear hb hbox hg; have hnb14 := NB103_102.out; have hnc14 := NB102_103.out; obtain ⟨hcz15_0, hcz15_1, hfz15_0, hfz15_1⟩ := b2 BK103))
   go_ret
   exact ⟨qe, qb HB.out⟩
 rw [if_neg c12] at H
 have c12b0 := decide_eq_false c12
 clear c12
 by_cases c16 : ((rd_TTie l0_1 x16_2).f0) ≥ ((rd_TTie l0_1 x16_2).f1)
 · rw [if_pos c16] at H
   have c16b0 := decide_eq_true c16
   clear c16
   obtain rfl := Option.some.inj H
   have p100 : 0 ≤ (x16_2 : Int) := of_decide_eq_true qa
   have q100 : x16_2 < (l0_1.length : Int) := of_decide_eq_true qa
   obtain ⟨ad100, e100, hx100_0, hx100_1⟩ := at_TTie HR0_1.out x16_2 p100 q100
   cases e100
   replace hx100_0 := hcl HB.out hx100_0
   replace hx100_1 := hcl HB.out hx100_1
   replace p100 := eq_true p100
   replace q100 := eq_true q100
   go_wp2_with (first | ((with_reducible refine gd 4 ?_); refine be 4 #[.int .i64 0, .int .i64 0] 32 ?_; intro gb103 hg w17 hbox hb; have BK103 := q0 (hbox); have GW103 := gw HB hg; have GE103 := gw HB hg; replace HB := bp HB hb; have NB102_103 := nl BK102 hg; have NB103_102 := ng BK102 hg; replace BK102 := kd BK102 hb; clear hb hbox hg; have hnb18 := NB103_102.out; have hnc18 := NB102_103.out; obtain ⟨hcz19_0, hcz19_1, hfz19_0, hfz19_1⟩ := b2 BK103))
   go_ret
   exact ⟨qe, qb HB.out⟩
 rw [if_neg c16] at H
 have c16b0 := decide_eq_false c16
 clear c16
 by_cases c20 : ((rd_TTie l0_1 x16_2).f1) ≥ a0_0
 · rw [if_pos c20] at H
   have c20b0 := decide_eq_true c20
   clear c20
   obtain rfl := Option.some.inj H
   have p100 : 0 ≤ (x16_2 : Int) := of_decide_eq_true qa
   have q100 : x16_2 < (l0_1.length : Int) := of_decide_eq_true qa
   obtain ⟨ad100, e100, hx100_0, hx100_1⟩ := at_TTie HR0_1.out x16_2 p100 q100
   cases e100
   replace hx100_0 := hcl HB.out hx100_0
   replace hx100_1 := hcl HB.out hx100_1
   replace p100 := eq_true p100
   replace q100 := eq_true q100
   go_wp2_with (first | ((with_reducible refine gd 4 ?_); refine be 4 #[.int .i64 0, .int .i64 0] 32 ?_; intro gb103 hg w21 hbox hb; have BK103 := q0 (hbox); have GW103 := gw HB hg; have GE103 := gw HB hg; replace HB := bp HB hb; have NB102_103 := nl BK102 hg; have NB103_102 := ng BK102 hg; replace BK102 := kd BK102 hb; clear hb hbox hg; have hnb22 := NB103_102.out; have hnc22 := NB102_103.out; obtain ⟨hcz23_0, hcz23_1, hfz23_0, hfz23_1⟩ := b2 BK103; obtain ⟨hcz24_0, hcz24_1, hfz24_0, hfz24_1⟩ := b2 BK102))
   go_ret
   exact ⟨qe, qb HB.out⟩
 rw [if_neg c20] at H
 have c20b0 := decide_eq_false c20
 clear c20
 have H' := q0 H
 clear H
 have p100 : 0 ≤ (x16_2 : Int) := of_decide_eq_true qa
 have q100 : x16_2 < (l0_1.length : Int) := of_decide_eq_true qa
 obtain ⟨ad100, e100, hx100_0, hx100_1⟩ := at_TTie HR0_1.out x16_2 p100 q100
 cases e100
 replace hx100_0 := hcl HB.out hx100_0
 replace hx100_1 := hcl HB.out hx100_1
 replace p100 := eq_true p100
 replace q100 := eq_true q100
 go_wp2_with (first | ((with_reducible refine gd 4 ?_); refine be 4 #[.int .i64 0, .int .i64 0] 32 ?_; intro gb103 hg w25 hbox hb; have BK103 := q0 (hbox); have GW103 := gw HB hg; have GE103 := gw HB hg; replace HB := bp HB hb; have NB102_103 := nl BK102 hg; have NB103_102 := ng BK102 hg; replace BK102 := kd BK102 hb; clear hb hbox hg; have hnb26 := NB103_102.out; have hnc26 := NB102_103.out; obtain ⟨hcz27_0, hcz27_1, hfz27_0, hfz27_1⟩ := b2 BK103; obtain ⟨hcz28_0, hcz28_1, hfz28_0, hfz28_1⟩ := b2 BK102))
 go_roundg k2
 case measure => have := HJ1.out; have := HK2.out; omega
 case rel => exact ⟨(wrap64 (x16_2 + 1)), qs, H', ⟨by have := HJ1.out; have := HK2.out; omega⟩, ⟨qf BK102.out⟩, ⟨qb HB.out⟩⟩

set_option maxHeartbeats 8000000 in
set_option maxRecDepth 100000 in
theorem spec_l1Less.calls (a0_0 : Int) (a0_1 : Int) (a1_0 : Int) (a1_1 : Int) (r : Bool) (w : World) (h : spec_l1Less.f a0_0 a0_1 a1_0 a1_1 = some r) :
    Calls Try.prog 69 #[.agg #[.int .i64 a0_0, .int .i64 a0_1], .agg #[.int .i64 a1_0, .int .i64 a1_1]] w fun e w' => e = .returned (.bool r) ∧ Below w.heap.size w w' := by
 have hu32 := Try.underlying32
 have HB := q0 (Below.refl w.heap.size w)
 have H : (if a0_0 < a1_0 then (some true) else (if a0_0 = a1_0 then (some (decide (a0_1 < a1_1))) else (some false))) = some r := h
 clear h
 by_cases c3 : a0_0 < a1_0
 · rw [if_pos c3] at H
   have c3b0 := decide_eq_true c3
   clear c3
   obtain rfl := Option.some.inj H
   go_enter Try.func69, Try.ntmps69
   go_wp2_with (first | ((with_reducible refine gd 2 ?_); refine be 2 #[.int .i64 a0_0, .int .i64 a0_1] 32 ?_; intro gb100 hg w4 hbox hb; have BK100 := q0 (hbox); have GW100 := gw HB hg; have GE100 := gw HB hg; replace HB := bp HB hb; clear hb hbox hg) | ((with_reducible refine gd 3 ?_); refine be 3 #[.int .i64 a1_0, .int .i64 a1_1] 32 ?_; intro gb101 hg w5 hbox hb; have BK101 := q0 (hbox); have GW101 := gw HB hg; have GE101 := gw HB hg; replace HB := bp HB hb; have NB100_101 := nl BK100 hg; have NB101_100 := ng BK100 hg; replace BK100 := kd BK100 hb; clear hb hbox hg; have hnb6 := NB100_101.out; have hnc6 := NB101_100.out; obtain ⟨hcz7_0, hcz7_1, hfz7_0, hfz7_1⟩ := b2 BK100; obtain ⟨hcz8_0, hcz8_1, hfz8_0, hfz8_1⟩ := b2 BK101))
   go_ret
   exact ⟨qe, qb HB.out⟩
 rw [if_neg c3] at H
 have c3b0 := decide_eq_false c3
 clear c3
 by_cases c9 : a0_0 = a1_0
 rotate_left
 · rw [if_neg c9] at H
   have c9b0 : (a0_0 == a1_0) = false := beq_eq_false_iff_ne.mpr c9
   have c9b1 : (a0_0 != a1_0) = true := bne_iff_ne.mpr c9
   obtain rfl := Option.some.inj H
   go_enter Try.func69, Try.ntmps69
   go_wp2_with (first | ((with_reducible refine gd 2 ?_); refine be 2 #[.int .i64 a0_0, .int .i64 a0_1] 32 ?_; intro gb100 hg w15 hbox hb; have BK100 := q0 (hbox); have GW100 := gw HB hg; have GE100 := gw HB hg; replace HB := bp HB hb; clear hb hbox hg) | ((with_reducible refine gd 3 ?_); refine be 3 #[.int .i64 a1_0, .int .i64 a1_1] 32 ?_; intro gb101 hg w16 hbox hb; have BK101 := q0 (hbox); have GW101 := gw HB hg; have GE101 := gw HB hg; replace HB := bp HB hb; have NB100_101 := nl BK100 hg; have NB101_100 := ng BK100 hg; replace BK100 := kd BK100 hb; clear hb hbox hg; have hnb17 := NB100_101.out; have hnc17 := NB101_100.out; obtain ⟨hcz18_0, hcz18_1, hfz18_0, hfz18_1⟩ := b2 BK100; obtain ⟨hcz19_0, hcz19_1, hfz19_0, hfz19_1⟩ := b2 BK101))
   go_ret
   exact ⟨qe, qb HB.out⟩
 rw [if_pos c9] at H
 have c9b0 : (a0_0 == a1_0) = true := beq_iff_eq.mpr c9
 have c9b1 : (a0_0 != a1_0) = false := bne_eq_false_iff_eq.mpr c9
 clear c9
 obtain rfl := Option.some.inj H
 go_enter Try.func69, Try.ntmps69
 go_wp2_with (first | ((with_reducible refine gd 2 ?_); refine be 2 #[.int .i64 a0_0, .int .i64 a0_1] 32 ?_; intro gb100 hg w10 hbox hb; have BK100 := q0 (hbox); have GW100 := gw HB hg; have GE100 := gw HB hg; replace HB := bp HB hb; clear hb hbox hg) | ((with_reducible refine gd 3 ?_); refine be 3 #[.int .i64 a1_0, .int .i64 a1_1] 32 ?_; intro gb101 hg w11 hbox hb; have BK101 := q0 (hbox); have GW101 := gw HB hg; have GE101 := gw HB hg; replace HB := bp HB hb; have NB100_101 := nl BK100 hg; have NB101_100 := ng BK100 hg; replace BK100 := kd BK100 hb; clear hb hbox hg; have hnb12 := NB100_101.out; have hnc12 := NB101_100.out; obtain ⟨hcz13_0, hcz13_1, hfz13_0, hfz13_1⟩ := b2 BK100; obtain ⟨hcz14_0, hcz14_1, hfz14_0, hfz14_1⟩ := b2 BK101))
 go_ret
 exact ⟨qe, qb HB.out⟩

set_option maxHeartbeats 8000000 in
set_option maxRecDepth 100000 in
theorem spec_l6In.calls (a0 : Int) (a1 : Int) (a2 : Int) (r : Bool) (w : World) (h : spec_l6In.f a0 a1 a2 = some r) :
    Calls Try.prog 88 #[.int .i64 a0, .int .i64 a1, .int .i64 a2] w fun e w' => e = .returned (.bool r) ∧ Drawn0 w w' := by
 have H : (if a0 ≥ a1 then (some (decide (a0 ≤ a2))) else (some false)) = some r := h
 clear h
 by_cases c4 : a0 ≥ a1
 · rw [if_pos c4] at H
   have c4b0 := decide_eq_true c4
   clear c4
   obtain rfl := Option.some.inj H
   go_enter Try.func88, Try.ntmps88
   go_wp2
   go_ret
   exact ⟨by first | rfl | (simp; done) | (simp [*]; done), by repeat (first | exact Drawn0.refl _ | apply Drawn0.step)⟩
 rw [if_neg c4] at H
 have c4b0 := decide_eq_false c4
 clear c4
 obtain rfl := Option.some.inj H
 go_enter Try.func88, Try.ntmps88
 go_wp2
 go_ret
 exact ⟨by first | rfl | (simp; done) | (simp [*]; done), by repeat (first | exact Drawn0.refl _ | apply Drawn0.step)⟩

def spec_NetOk.T7 : Bool × List (List Nat × List Nat) := (true, [([], []), ([0], [0]), ([], []), ([2], [2]), ([3], [3]), ([1, 4], [1, 4]), ([5], [5]), ([6, 5], [6]), ([7], [7]), ([8, 7], [7, 8]), ([7], [7]), ([10, 7], [7, 10]), ([11, 7], [7, 11]), ([7], [7]), ([13, 7], [7, 13]), ([14, 7], [7, 14]), ([9, 12, 15, 7, 7], [7, 9, 12, 15]), ([16, 7], [7, 16]), ([7, 17], [7, 17]), ([18, 16], [18]), ([19], [19]), ([20, 19], [19, 20]), ([21, 19, 19], [19, 21]), ([22], [22]), ([23, 22], [22, 23]), ([22], [22]), ([25, 22], [22, 25]), ([24, 26, 22], [22, 24, 26]), ([27, 22], [22, 27]), ([22], [22]), ([28, 29, 22, 22], [22, 28, 29]), ([30, 22], [22, 30]), ([22, 31, 19], [19, 22, 31]), ([19, 32], [19, 32])])
def spec_NetOk.B7 : List Nat := [0, 1, 0, 4, 12, 31, 63, 127, 255, 511, 255, 1279, 3327, 255, 8447, 24831, 65535, 131071, 262143, 524287, 1048575, 2097151, 4194303, 8388607, 16777215, 8388607, 41943039, 134217727, 268435455, 8388607, 1073741823, 2147483647, 4294967295, 8589934591]
theorem spec_NetOk.tab7 : rtab .any (opsOf Try.f49 7) = spec_NetOk.T7 := by kernel_rfl
theorem spec_NetOk.bits7 : waitsOk spec_NetOk.T7.2 spec_NetOk.B7 = true := by kernel_rfl
set_option maxHeartbeats 8000000 in
set_option maxRecDepth 100000 in
theorem spec_NetOk.calls (k : Nat) (a0_0 : Int) (A0_1 : Option Addr) (c0_1 : Nat) (l0_1 : List (STie)) (r : Bool) (w : World) (hr0_1 : Kd.C kTie w A0_1 l0_1.length l0_1) (hc0_1 : l0_1.length ≤ c0_1) (h : spec_NetOk.f k a0_0 l0_1 = some r) :
    Calls Try.prog 49 #[.agg #[.int .i64 a0_0, .slice A0_1 l0_1.length c0_1]] w fun e w' => e = .returned (.bool r) ∧ Below w.heap.size w w' := by
 have hu25 := Try.underlying25
 have hu32 := Try.underlying32
 have HR0_1 := q0 hr0_1
 have HC0_1 := q0 hc0_1
 clear hr0_1 hc0_1
 have HB := q0 (Below.refl w.heap.size w)
 have H : ((spec_l6In.f a0_0 0 8).bind fun t100 => (if t100 = true then (spec_NetOk.j0 k (decide ((l0_1.length : Int) > 64)) a0_0 l0_1) else (spec_NetOk.j0 k true a0_0 l0_1))) = some r := h
 clear h
 have HC2 := q0 H
 clear H
 go_enter Try.func49, Try.ntmps49
 go_upto_region 1 with (first | ((with_reducible refine gd 1 ?_); (try (refine gate_guard (by rfl) ?_; dsimp only)); refine be 1 #[.int .i64 a0_0, .slice A0_1 l0_1.length c0_1] 25 ?_; intro gb104 hg w3 hbox hb; have BK104 := q0 (hbox); have GW104 := gw HB hg; have GE104 := gw HB hg; replace HB := bp HB hb; clear hb hbox hg))
 (try simp only [Act.put, List.setIfInBounds_toArray, List.set_cons_zero, List.set_cons_succ])
 go_cut [14] (fun v14 wc => ∃ (kq : Nat) (x14_1 : Bool), v14 = .bool x14_1 ∧ Aside0 (spec_NetOk.j0 kq x14_1 a0_0 l0_1 = some r) ∧ Aside0 (kq ≤ k) ∧ Aside0 (wc.heap[gb104]? = some (.cells #[.int .i64 a0_0, (.slice A0_1 l0_1.length c0_1)] 25 (0, 0))) ∧ Aside0 (Below w.heap.size w wc))
 case first =>
   have H := HC2.out
   clear HC2
   obtain ⟨t100, A4, H⟩ := ob H
   by_cases c5 : t100 = true
   · subst c5
     rw [if_pos rfl] at H
     have H' := q0 H
     clear H
     obtain ⟨hcz6_0, hcz6_1, hfz6_0, hfz6_1⟩ := b2 BK104
     go_wp2_with (first | ((with_reducible refine gf 88 ?_); refine gl 7 Try.func88 #[.int .i64 a0_0, .int .i64 0, .int .i64 8] ?_; (with_reducible refine (spec_l6In.calls a0_0 0 8 true _ A4.out).mono ?_); rintro e w' ⟨rfl, ⟨nd, rfl⟩⟩; refine ⟨_, rfl, ?_⟩))
     go_meet
     case rel => exact ⟨_, (decide ((l0_1.length : Int) > 64)), qs, H', ⟨by first | omega | exact Nat.le_refl _⟩, ⟨qk BK104.out⟩, ⟨qb HB.out⟩⟩
   replace c5 := Bool.eq_false_iff.mpr c5
   subst c5
   rw [if_neg nf] at H
   have H' := q0 H
   clear H
   obtain ⟨hcz7_0, hcz7_1, hfz7_0, hfz7_1⟩ := b2 BK104
   go_wp2_with (first | ((with_reducible refine gf 88 ?_); refine gl 7 Try.func88 #[.int .i64 a0_0, .int .i64 0, .int .i64 8] ?_; (with_reducible refine (spec_l6In.calls a0_0 0 8 false _ A4.out).mono ?_); rintro e w' ⟨rfl, ⟨nd, rfl⟩⟩; refine ⟨_, rfl, ?_⟩))
   go_meet
   case rel => exact ⟨_, (true), qs, H', ⟨by first | omega | exact Nat.le_refl _⟩, ⟨qk BK104.out⟩, ⟨qb HB.out⟩⟩
 clear HC2
 try clear p2
 try clear c4
 try clear c5
 try clear hcz6_0
 try clear hcz6_1
 try clear hcz7_0
 try clear hcz7_1
 try clear hfz6_0
 try clear hfz6_1
 try clear hfz7_0
 try clear hfz7_1
 obtain ⟨kq, x14_1, rfl, HA, HJ1, BK104, HB⟩ := hcut
 rcases kq with _ | kj1
 · exact absurd HA.out (by simp [spec_NetOk.j0])
 have H := HA.out
 clear HA
 simp only [spec_NetOk.j0] at H
 by_cases c8 : x14_1 = true
 · subst c8
   rw [if_pos rfl] at H
   obtain rfl := Option.some.inj H
   go_wp2
   go_ret
   exact ⟨qe, qb HB.out⟩
 replace c8 := Bool.eq_false_iff.mpr c8
 subst c8
 rw [if_neg nf] at H
 have H' := q0 H
 clear H
 go_wp2
 go_loopg [3] kj1 (fun kq v3 w' => ∃ (x3_2 : Int), v3 = .int .i64 x3_2 ∧ Aside0 (spec_NetOk.l0 kq x3_2 a0_0 l0_1 = some r) ∧ Aside0 (kq ≤ kj1) ∧ Aside0 (w'.heap[gb104]? = some (.cells #[.int .i64 a0_0, (.slice A0_1 l0_1.length c0_1)] 25 (0, 0))) ∧ Aside0 (Below w.heap.size w w'))
 case atStart => exact ⟨(0), qs, H', ⟨Nat.le_refl _⟩, ⟨qk BK104.out⟩, ⟨qb HB.out⟩⟩
 clear H'
 try clear p2
 try clear c4
 try clear c5
 try clear c8
 try clear hcz6_0
 try clear hcz6_1
 try clear hcz7_0
 try clear hcz7_1
 try clear hfz6_0
 try clear hfz6_1
 try clear hfz7_0
 try clear hfz7_1
 try clear p2
 obtain ⟨x3_2, rfl, HA, HK2, BK104, HB⟩ := hrel
 rcases gk with _ | k2
 · exact absurd HA.out (by simp [spec_NetOk.l0])
 have H := HA.out
 clear HA
 simp only [spec_NetOk.l0] at H
 by_cases c9 : x3_2 < (l0_1.length : Int)
 rotate_left
 · rw [if_neg c9] at H
   have c9b0 := decide_eq_false c9
   clear c9
   obtain rfl := Option.some.inj H
   obtain ⟨hcz53_0, hcz53_1, hfz53_0, hfz53_1⟩ := b2 BK104
   go_wp2
   go_ret
   exact ⟨qe, qb HB.out⟩
 rw [if_pos c9] at H
 have c9b0 := decide_eq_true c9
 clear c9
 obtain ⟨c10, H⟩ : (0 ≤ x3_2) ∧ _ := og H
 have c10b0 := decide_eq_true c10
 clear c10
 obtain ⟨t101, A11, H⟩ := ob H
 by_cases c12 : t101 = true
 rotate_left
 · replace c12 := Bool.eq_false_iff.mpr c12
   subst c12
   rw [if_neg nf] at H
   obtain rfl := Option.some.inj H
   obtain ⟨hcz47_0, hcz47_1, hfz47_0, hfz47_1⟩ := b2 BK104
   have p108 : 0 ≤ (x3_2 : Int) := of_decide_eq_true qa
   have q108 : x3_2 < (l0_1.length : Int) := of_decide_eq_true qa
   obtain ⟨ad108, e108, hx108_0, hx108_1⟩ := at_TTie HR0_1.out x3_2 p108 q108
   cases e108
   replace hx108_0 := hcl HB.out hx108_0
   replace hx108_1 := hcl HB.out hx108_1
   replace p108 := eq_true p108
   replace q108 := eq_true q108
   try go_wp2_with (first | ((with_reducible refine gd 4 ?_); (try (refine gate_guard (by rfl) ?_; dsimp only)); refine be 4 #[.int .i64 0, .int .i64 0] 32 ?_; intro gb109 hg w48 hbox hb; have BK109 := q0 (hbox); have GW109 := gw HB hg; have GE109 := gw HB hg; replace HB := bp HB hb; have NB104_109 := nl BK104 hg; have NB109_104 := ng BK104 hg; replace BK104 := kd BK104 hb; clear hb hbox hg; have hnb49 := NB109_104.out; have hnc49 := NB104_109.out; obtain ⟨hcz50_0, hcz50_1, hfz50_0, hfz50_1⟩ := b2 BK109))
   have n0_ : Aside0 (((w48.setCell ⟨gb109, 0, none⟩ (.int .i64 ((rd_TTie l0_1 x3_2).f0))).setCell ⟨gb109, 1, none⟩ (.int .i64 ((rd_TTie l0_1 x3_2).f1))).heap[gb104]? = some (.cells #[.int .i64 a0_0, .slice (some ad108) l0_1.length c0_1] 25 (0, 0))) := ⟨qf BK104.out⟩
   have n1_ : Aside0 (((w48.setCell ⟨gb109, 0, none⟩ (.int .i64 ((rd_TTie l0_1 x3_2).f0))).setCell ⟨gb109, 1, none⟩ (.int .i64 ((rd_TTie l0_1 x3_2).f1))).heap[gb109]? = some (.cells #[.int .i64 ((rd_TTie l0_1 x3_2).f0), .int .i64 ((rd_TTie l0_1 x3_2).f1)] 32 (0, 0))) := ⟨by (with_reducible repeat (first | refine blk_drewN ?_ _ | refine blk_drew ?_ | refine blk_alloc ?_ _)); refine blk_put (cs := #[.int .i64 ((rd_TTie l0_1 x3_2).f0), .int .i64 0]) ?_ 1 _ rfl; (with_reducible repeat (first | refine blk_drewN ?_ _ | refine blk_drew ?_ | refine blk_alloc ?_ _)); refine blk_put (cs := #[.int .i64 0, .int .i64 0]) ?_ 0 _ rfl; (with_reducible repeat (first | refine blk_drewN ?_ _ | refine blk_drew ?_ | refine blk_alloc ?_ _)); exact BK109.out⟩
   have n2_ : Aside0 (Below w.heap.size w ((w48.setCell ⟨gb109, 0, none⟩ (.int .i64 ((rd_TTie l0_1 x3_2).f0))).setCell ⟨gb109, 1, none⟩ (.int .i64 ((rd_TTie l0_1 x3_2).f1)))) := ⟨qb HB.out⟩
   (try clear BK104)
   (try clear BK109)
   (try clear HB)
   generalize ((w48.setCell ⟨gb109, 0, none⟩ (.int .i64 ((rd_TTie l0_1 x3_2).f0))).setCell ⟨gb109, 1, none⟩ (.int .i64 ((rd_TTie l0_1 x3_2).f1))) = w51 at n0_ n1_ n2_ ⊢
   have BK104 := n0_
   have BK109 := n1_
   have HB := n2_
   clear n0_ n1_ n2_
   replace BK104 := q0 (blk_drew BK104.out)
   replace BK109 := q0 (blk_drew BK109.out)
   replace HB := q0 (below_drew1 HB.out)
   refine start_ (n := 34) (S := fun w' => w'.cell? ⟨gb109, 0, none⟩ = some (.int .i64 ((rd_TTie l0_1 x3_2).f0)) ∧ w'.cell? ⟨gb109, 1, none⟩ = some (.int .i64 ((rd_TTie l0_1 x3_2).f1)) ∧ w'.cell? ⟨gb104, 0, none⟩ = some (.int .i64 a0_0) ∧ w'.cell? ⟨gb104, 1, none⟩ = some (.slice (some ad108) l0_1.length c0_1)) (ds := []) (ba 34 0) (by kernel_rfl) rfl (by kernel_rfl) ⟨bca BK109, bcb BK109, bca BK104, bcb BK104⟩ (fun hHeld => ?_); refine with_tabW spec_NetOk.tab7 spec_NetOk.bits7 (fun HT_ HW_ => ?_)
   generalize w51.drew = w52 at BK104 BK109 HB hHeld ⊢
   refine pU 0 27 34 1 HT_ ?_
   refine pU 2 29 34 5 HT_ ?_
   refine tU 1 28 34 7 HT_ HW_ hHeld ?_
   refine tU 3 30 34 15 HT_ HW_ hHeld ?_
   refine pU 4 31 34 31 HT_ ?_
   refine one_ (i := 5) (N := some 32) (ba 34 63) rfl rfl (one_of HT_.out (by kernel_rfl)) (by decide) (fun K hK => ?_)
   refine goes_ Try.func88 (by kernel_rfl) rfl #[.int .i64 ((rd_TTie l0_1 x3_2).f0), .int .i64 0, .int .i64 (wrap64 (a0_0 - 1))] (by rfl) rfl rfl qm ?_
   with_reducible refine (spec_l6In.calls ((rd_TTie l0_1 x3_2).f0) 0 (wrap64 (a0_0 - 1)) false _ A11.out).mono ?_
   rintro e w' ⟨rfl, ⟨nd, rfl⟩⟩
   refine ⟨_, rfl, ?_⟩
   refine hK.out _ _ ⟨bca BK109, bcb BK109, bca BK104, bcb BK104⟩ (fun hHeld => ?_)
   clear hK K
   refine nu 32 ?_
   refine pU 6 33 34 127 HT_ ?_
   refine pU 7 34 34 255 HT_ ?_
   refine pV 8 35 34 511 HT_ ?_
   refine pV 9 36 34 1023 HT_ ?_
   refine pV 10 37 34 2047 HT_ ?_
   refine pV 11 38 34 4095 HT_ ?_
   refine pV 12 39 34 8191 HT_ ?_
   refine pV 13 40 34 16383 HT_ ?_
   refine pV 14 41 34 32767 HT_ ?_
   refine pV 15 42 34 65535 HT_ ?_
   refine pV 16 43 34 131071 HT_ ?_
   refine pV 17 44 34 262143 HT_ ?_
   refine pU 18 45 34 524287 HT_ ?_
   refine pU 19 46 34 1048575 HT_ ?_
   refine pV 20 47 34 2097151 HT_ ?_
   refine pV 21 48 34 4194303 HT_ ?_
   refine pV 22 49 34 8388607 HT_ ?_
   refine pV 23 50 34 16777215 HT_ ?_
   refine pV 24 51 34 33554431 HT_ ?_
   refine pV 25 52 34 67108863 HT_ ?_
   refine pV 26 53 34 134217727 HT_ ?_
   refine pV 27 54 34 268435455 HT_ ?_
   refine pV 28 55 34 536870911 HT_ ?_
   refine pV 29 56 34 1073741823 HT_ ?_
   refine pV 30 57 34 2147483647 HT_ ?_
   refine pV 31 58 34 4294967295 HT_ ?_
   refine pV 32 59 34 8589934591 HT_ ?_
   refine pU 33 60 34 17179869183 HT_ ?_
   refine done_ (done_of HT_.out (by kernel_rfl)) ?_
   try go_wp2
   go_ret
   exact ⟨qe, qb HB.out⟩
 subst c12
 rw [if_pos rfl] at H
 obtain ⟨t102, A13, H⟩ := ob H
 by_cases c14 : t102 = true
 rotate_left
 · replace c14 := Bool.eq_false_iff.mpr c14
   subst c14
   rw [if_neg nf] at H
   obtain rfl := Option.some.inj H
   obtain ⟨hcz41_0, hcz41_1, hfz41_0, hfz41_1⟩ := b2 BK104
   have p108 : 0 ≤ (x3_2 : Int) := of_decide_eq_true qa
   have q108 : x3_2 < (l0_1.length : Int) := of_decide_eq_true qa
   obtain ⟨ad108, e108, hx108_0, hx108_1⟩ := at_TTie HR0_1.out x3_2 p108 q108
   cases e108
   replace hx108_0 := hcl HB.out hx108_0
   replace hx108_1 := hcl HB.out hx108_1
   replace p108 := eq_true p108
   replace q108 := eq_true q108
   try go_wp2_with (first | ((with_reducible refine gd 4 ?_); (try (refine gate_guard (by rfl) ?_; dsimp only)); refine be 4 #[.int .i64 0, .int .i64 0] 32 ?_; intro gb109 hg w42 hbox hb; have BK109 := q0 (hbox); have GW109 := gw HB hg; have GE109 := gw HB hg; replace HB := bp HB hb; have NB104_109 := nl BK104 hg; have NB109_104 := ng BK104 hg; replace BK104 := kd BK104 hb; clear hb hbox hg; have hnb43 := NB109_104.out; have hnc43 := NB104_109.out; obtain ⟨hcz44_0, hcz44_1, hfz44_0, hfz44_1⟩ := b2 BK109))
   have n0_ : Aside0 (((w42.setCell ⟨gb109, 0, none⟩ (.int .i64 ((rd_TTie l0_1 x3_2).f0))).setCell ⟨gb109, 1, none⟩ (.int .i64 ((rd_TTie l0_1 x3_2).f1))).heap[gb104]? = some (.cells #[.int .i64 a0_0, .slice (some ad108) l0_1.length c0_1] 25 (0, 0))) := ⟨qf BK104.out⟩
   have n1_ : Aside0 (((w42.setCell ⟨gb109, 0, none⟩ (.int .i64 ((rd_TTie l0_1 x3_2).f0))).setCell ⟨gb109, 1, none⟩ (.int .i64 ((rd_TTie l0_1 x3_2).f1))).heap[gb109]? = some (.cells #[.int .i64 ((rd_TTie l0_1 x3_2).f0), .int .i64 ((rd_TTie l0_1 x3_2).f1)] 32 (0, 0))) := ⟨by (with_reducible repeat (first | refine blk_drewN ?_ _ | refine blk_drew ?_ | refine blk_alloc ?_ _)); refine blk_put (cs := #[.int .i64 ((rd_TTie l0_1 x3_2).f0), .int .i64 0]) ?_ 1 _ rfl; (with_reducible repeat (first | refine blk_drewN ?_ _ | refine blk_drew ?_ | refine blk_alloc ?_ _)); refine blk_put (cs := #[.int .i64 0, .int .i64 0]) ?_ 0 _ rfl; (with_reducible repeat (first | refine blk_drewN ?_ _ | refine blk_drew ?_ | refine blk_alloc ?_ _)); exact BK109.out⟩
   have n2_ : Aside0 (Below w.heap.size w ((w42.setCell ⟨gb109, 0, none⟩ (.int .i64 ((rd_TTie l0_1 x3_2).f0))).setCell ⟨gb109, 1, none⟩ (.int .i64 ((rd_TTie l0_1 x3_2).f1)))) := ⟨qb HB.out⟩
   (try clear BK104)
   (try clear BK109)
   (try clear HB)
   generalize ((w42.setCell ⟨gb109, 0, none⟩ (.int .i64 ((rd_TTie l0_1 x3_2).f0))).setCell ⟨gb109, 1, none⟩ (.int .i64 ((rd_TTie l0_1 x3_2).f1))) = w45 at n0_ n1_ n2_ ⊢
   have BK104 := n0_
   have BK109 := n1_
   have HB := n2_
   clear n0_ n1_ n2_
   replace BK104 := q0 (blk_drew BK104.out)
   replace BK109 := q0 (blk_drew BK109.out)
   replace HB := q0 (below_drew1 HB.out)
   refine start_ (n := 34) (S := fun w' => w'.cell? ⟨gb109, 0, none⟩ = some (.int .i64 ((rd_TTie l0_1 x3_2).f0)) ∧ w'.cell? ⟨gb109, 1, none⟩ = some (.int .i64 ((rd_TTie l0_1 x3_2).f1)) ∧ w'.cell? ⟨gb104, 0, none⟩ = some (.int .i64 a0_0) ∧ w'.cell? ⟨gb104, 1, none⟩ = some (.slice (some ad108) l0_1.length c0_1)) (ds := []) (ba 34 0) (by kernel_rfl) rfl (by kernel_rfl) ⟨bca BK109, bcb BK109, bca BK104, bcb BK104⟩ (fun hHeld => ?_); refine with_tabW spec_NetOk.tab7 spec_NetOk.bits7 (fun HT_ HW_ => ?_)
   generalize w45.drew = w46 at BK104 BK109 HB hHeld ⊢
   refine pU 0 27 34 1 HT_ ?_
   refine pU 2 29 34 5 HT_ ?_
   refine tU 1 28 34 7 HT_ HW_ hHeld ?_
   refine tU 3 30 34 15 HT_ HW_ hHeld ?_
   refine pU 4 31 34 31 HT_ ?_
   refine one_ (i := 5) (N := some 32) (ba 34 63) rfl rfl (one_of HT_.out (by kernel_rfl)) (by decide) (fun K hK => ?_)
   refine goes_ Try.func88 (by kernel_rfl) rfl #[.int .i64 ((rd_TTie l0_1 x3_2).f0), .int .i64 0, .int .i64 (wrap64 (a0_0 - 1))] (by rfl) rfl rfl qm ?_
   with_reducible refine (spec_l6In.calls ((rd_TTie l0_1 x3_2).f0) 0 (wrap64 (a0_0 - 1)) true _ A11.out).mono ?_
   rintro e w' ⟨rfl, ⟨nd, rfl⟩⟩
   refine ⟨_, rfl, ?_⟩
   refine hK.out _ _ ⟨bca BK109, bcb BK109, bca BK104, bcb BK104⟩ (fun hHeld => ?_)
   clear hK K
   refine nu 32 ?_
   refine pU 6 33 34 127 HT_ ?_
   refine pU 7 34 34 255 HT_ ?_
   refine pU 8 35 34 511 HT_ ?_
   refine pU 10 37 34 1535 HT_ ?_
   refine pU 13 40 34 9727 HT_ ?_
   refine tU 9 36 34 10239 HT_ HW_ hHeld ?_
   refine tU 11 38 34 12287 HT_ HW_ hHeld ?_
   refine pU 12 39 34 16383 HT_ ?_
   refine tU 14 41 34 32767 HT_ HW_ hHeld ?_
   refine pU 15 42 34 65535 HT_ ?_
   refine one_ (i := 16) (N := some 43) (ba 34 131071) rfl rfl (one_of HT_.out (by kernel_rfl)) (by decide) (fun K hK => ?_)
   refine goes_ Try.func88 (by kernel_rfl) rfl #[.int .i64 ((rd_TTie l0_1 x3_2).f1), .int .i64 (wrap64 (((rd_TTie l0_1 x3_2).f0) + 1)), .int .i64 (wrap64 (a0_0 - 1))] (by rfl) rfl rfl qm ?_
   with_reducible refine (spec_l6In.calls ((rd_TTie l0_1 x3_2).f1) (wrap64 (((rd_TTie l0_1 x3_2).f0) + 1)) (wrap64 (a0_0 - 1)) false _ A13.out).mono ?_
   rintro e w' ⟨rfl, ⟨nd, rfl⟩⟩
   refine ⟨_, rfl, ?_⟩
   refine hK.out _ _ ⟨bca BK109, bcb BK109, bca BK104, bcb BK104⟩ (fun hHeld => ?_)
   clear hK K
   refine nu 43 ?_
   refine pU 17 44 34 262143 HT_ ?_
   refine pU 18 45 34 524287 HT_ ?_
   refine pU 19 46 34 1048575 HT_ ?_
   refine pV 20 47 34 2097151 HT_ ?_
   refine pV 21 48 34 4194303 HT_ ?_
   refine pV 22 49 34 8388607 HT_ ?_
   refine pV 23 50 34 16777215 HT_ ?_
   refine pV 24 51 34 33554431 HT_ ?_
   refine pV 25 52 34 67108863 HT_ ?_
   refine pV 26 53 34 134217727 HT_ ?_
   refine pV 27 54 34 268435455 HT_ ?_
   refine pV 28 55 34 536870911 HT_ ?_
   refine pV 29 56 34 1073741823 HT_ ?_
   refine pV 30 57 34 2147483647 HT_ ?_
   refine pV 31 58 34 4294967295 HT_ ?_
   refine pV 32 59 34 8589934591 HT_ ?_
   refine pU 33 60 34 17179869183 HT_ ?_
   refine done_ (done_of HT_.out (by kernel_rfl)) ?_
   try go_wp2
   go_ret
   exact ⟨qe, qb HB.out⟩
 subst c14
 rw [if_pos rfl] at H
 by_cases c15 : x3_2 > 0
 rotate_left
 · rw [if_neg c15] at H
   have c15b0 := decide_eq_false c15
   clear c15
   have H' := q0 H
   clear H
   obtain ⟨hcz35_0, hcz35_1, hfz35_0, hfz35_1⟩ := b2 BK104
   have p108 : 0 ≤ (x3_2 : Int) := of_decide_eq_true qa
   have q108 : x3_2 < (l0_1.length : Int) := of_decide_eq_true qa
   obtain ⟨ad108, e108, hx108_0, hx108_1⟩ := at_TTie HR0_1.out x3_2 p108 q108
   cases e108
   replace hx108_0 := hcl HB.out hx108_0
   replace hx108_1 := hcl HB.out hx108_1
   replace p108 := eq_true p108
   replace q108 := eq_true q108
   try go_wp2_with (first | ((with_reducible refine gd 4 ?_); (try (refine gate_guard (by rfl) ?_; dsimp only)); refine be 4 #[.int .i64 0, .int .i64 0] 32 ?_; intro gb109 hg w36 hbox hb; have BK109 := q0 (hbox); have GW109 := gw HB hg; have GE109 := gw HB hg; replace HB := bp HB hb; have NB104_109 := nl BK104 hg; have NB109_104 := ng BK104 hg; replace BK104 := kd BK104 hb; clear hb hbox hg; have hnb37 := NB109_104.out; have hnc37 := NB104_109.out; obtain ⟨hcz38_0, hcz38_1, hfz38_0, hfz38_1⟩ := b2 BK109))
   have n0_ : Aside0 (((w36.setCell ⟨gb109, 0, none⟩ (.int .i64 ((rd_TTie l0_1 x3_2).f0))).setCell ⟨gb109, 1, none⟩ (.int .i64 ((rd_TTie l0_1 x3_2).f1))).heap[gb104]? = some (.cells #[.int .i64 a0_0, .slice (some ad108) l0_1.length c0_1] 25 (0, 0))) := ⟨qf BK104.out⟩
   have n1_ : Aside0 (((w36.setCell ⟨gb109, 0, none⟩ (.int .i64 ((rd_TTie l0_1 x3_2).f0))).setCell ⟨gb109, 1, none⟩ (.int .i64 ((rd_TTie l0_1 x3_2).f1))).heap[gb109]? = some (.cells #[.int .i64 ((rd_TTie l0_1 x3_2).f0), .int .i64 ((rd_TTie l0_1 x3_2).f1)] 32 (0, 0))) := ⟨by (with_reducible repeat (first | refine blk_drewN ?_ _ | refine blk_drew ?_ | refine blk_alloc ?_ _)); refine blk_put (cs := #[.int .i64 ((rd_TTie l0_1 x3_2).f0), .int .i64 0]) ?_ 1 _ rfl; (with_reducible repeat (first | refine blk_drewN ?_ _ | refine blk_drew ?_ | refine blk_alloc ?_ _)); refine blk_put (cs := #[.int .i64 0, .int .i64 0]) ?_ 0 _ rfl; (with_reducible repeat (first | refine blk_drewN ?_ _ | refine blk_drew ?_ | refine blk_alloc ?_ _)); exact BK109.out⟩
   have n2_ : Aside0 (Below w.heap.size w ((w36.setCell ⟨gb109, 0, none⟩ (.int .i64 ((rd_TTie l0_1 x3_2).f0))).setCell ⟨gb109, 1, none⟩ (.int .i64 ((rd_TTie l0_1 x3_2).f1)))) := ⟨qb HB.out⟩
   (try clear BK104)
   (try clear BK109)
   (try clear HB)
   generalize ((w36.setCell ⟨gb109, 0, none⟩ (.int .i64 ((rd_TTie l0_1 x3_2).f0))).setCell ⟨gb109, 1, none⟩ (.int .i64 ((rd_TTie l0_1 x3_2).f1))) = w39 at n0_ n1_ n2_ ⊢
   have BK104 := n0_
   have BK109 := n1_
   have HB := n2_
   clear n0_ n1_ n2_
   replace BK104 := q0 (blk_drew BK104.out)
   replace BK109 := q0 (blk_drew BK109.out)
   replace HB := q0 (below_drew1 HB.out)
   refine start_ (n := 34) (S := fun w' => w'.cell? ⟨gb109, 0, none⟩ = some (.int .i64 ((rd_TTie l0_1 x3_2).f0)) ∧ w'.cell? ⟨gb109, 1, none⟩ = some (.int .i64 ((rd_TTie l0_1 x3_2).f1)) ∧ w'.cell? ⟨gb104, 0, none⟩ = some (.int .i64 a0_0) ∧ w'.cell? ⟨gb104, 1, none⟩ = some (.slice (some ad108) l0_1.length c0_1)) (ds := []) (ba 34 0) (by kernel_rfl) rfl (by kernel_rfl) ⟨bca BK109, bcb BK109, bca BK104, bcb BK104⟩ (fun hHeld => ?_); refine with_tabW spec_NetOk.tab7 spec_NetOk.bits7 (fun HT_ HW_ => ?_)
   generalize w39.drew = w40 at BK104 BK109 HB hHeld ⊢
   refine pU 0 27 34 1 HT_ ?_
   refine pU 2 29 34 5 HT_ ?_
   refine tU 1 28 34 7 HT_ HW_ hHeld ?_
   refine tU 3 30 34 15 HT_ HW_ hHeld ?_
   refine pU 4 31 34 31 HT_ ?_
   refine one_ (i := 5) (N := some 32) (ba 34 63) rfl rfl (one_of HT_.out (by kernel_rfl)) (by decide) (fun K hK => ?_)
   refine goes_ Try.func88 (by kernel_rfl) rfl #[.int .i64 ((rd_TTie l0_1 x3_2).f0), .int .i64 0, .int .i64 (wrap64 (a0_0 - 1))] (by rfl) rfl rfl qm ?_
   with_reducible refine (spec_l6In.calls ((rd_TTie l0_1 x3_2).f0) 0 (wrap64 (a0_0 - 1)) true _ A11.out).mono ?_
   rintro e w' ⟨rfl, ⟨nd, rfl⟩⟩
   refine ⟨_, rfl, ?_⟩
   refine hK.out _ _ ⟨bca BK109, bcb BK109, bca BK104, bcb BK104⟩ (fun hHeld => ?_)
   clear hK K
   refine nu 32 ?_
   refine pU 6 33 34 127 HT_ ?_
   refine pU 7 34 34 255 HT_ ?_
   refine pU 8 35 34 511 HT_ ?_
   refine pU 10 37 34 1535 HT_ ?_
   refine pU 13 40 34 9727 HT_ ?_
   refine tU 9 36 34 10239 HT_ HW_ hHeld ?_
   refine tU 11 38 34 12287 HT_ HW_ hHeld ?_
   refine pU 12 39 34 16383 HT_ ?_
   refine tU 14 41 34 32767 HT_ HW_ hHeld ?_
   refine pU 15 42 34 65535 HT_ ?_
   refine one_ (i := 16) (N := some 43) (ba 34 131071) rfl rfl (one_of HT_.out (by kernel_rfl)) (by decide) (fun K hK => ?_)
   refine goes_ Try.func88 (by kernel_rfl) rfl #[.int .i64 ((rd_TTie l0_1 x3_2).f1), .int .i64 (wrap64 (((rd_TTie l0_1 x3_2).f0) + 1)), .int .i64 (wrap64 (a0_0 - 1))] (by rfl) rfl rfl qm ?_
   with_reducible refine (spec_l6In.calls ((rd_TTie l0_1 x3_2).f1) (wrap64 (((rd_TTie l0_1 x3_2).f0) + 1)) (wrap64 (a0_0 - 1)) true _ A13.out).mono ?_
   rintro e w' ⟨rfl, ⟨nd, rfl⟩⟩
   refine ⟨_, rfl, ?_⟩
   refine hK.out _ _ ⟨bca BK109, bcb BK109, bca BK104, bcb BK104⟩ (fun hHeld => ?_)
   clear hK K
   refine nu 43 ?_
   refine pU 17 44 34 262143 HT_ ?_
   refine pU 18 45 34 524287 HT_ ?_
   refine pU 19 46 34 1048575 HT_ ?_
   refine pU 20 47 34 2097151 HT_ ?_
   refine pU 21 48 34 4194303 HT_ ?_
   refine pU 22 49 34 8388607 HT_ ?_
   refine pV 23 50 34 16777215 HT_ ?_
   refine pV 24 51 34 33554431 HT_ ?_
   refine pV 25 52 34 67108863 HT_ ?_
   refine pV 26 53 34 134217727 HT_ ?_
   refine pV 27 54 34 268435455 HT_ ?_
   refine pV 28 55 34 536870911 HT_ ?_
   refine pV 29 56 34 1073741823 HT_ ?_
   refine pV 30 57 34 2147483647 HT_ ?_
   refine pV 31 58 34 4294967295 HT_ ?_
   refine pU 32 59 34 8589934591 HT_ ?_
   refine pU 33 60 34 17179869183 HT_ ?_
   refine done_ (done_of HT_.out (by kernel_rfl)) ?_
   try go_wp2
   go_roundg k2
   case measure => have := HJ1.out; have := HK2.out; omega
   case rel => exact ⟨(wrap64 (x3_2 + 1)), qs, H', ⟨by have := HJ1.out; have := HK2.out; omega⟩, ⟨qk BK104.out⟩, ⟨qb HB.out⟩⟩
 rw [if_pos c15] at H
 have c15b0 := decide_eq_true c15
 clear c15
 obtain ⟨ji16, hji16⟩ : ∃ j_ : Int, (wrap64 (x3_2 - 1)) = j_ := ⟨_, rfl⟩
 replace H : (if 0 ≤ (ji16) then (if (ji16) < (l0_1.length : Int) then ((spec_l1Less.f ((rd_TTie l0_1 (ji16)).f0) ((rd_TTie l0_1 (ji16)).f1) ((rd_TTie l0_1 x3_2).f0) ((rd_TTie l0_1 x3_2).f1)).bind fun t103 => (if t103 = true then (spec_NetOk.l0 k2 (wrap64 (x3_2 + 1)) a0_0 l0_1) else (some false))) else (none)) else (none)) = some r := by first | (rw [hji16] at H; exact H) | (simp only [hji16] at H ⊢; exact H)
 (try rw [hji16] at A11)
 (try rw [hji16] at A13)
 have hji16w : (IntKind.i64.wrap (x3_2 - 1)) = ji16 := (i64_w _).trans hji16
 obtain ⟨c17, H⟩ : (0 ≤ (ji16)) ∧ _ := og H
 have c17b0 := decide_eq_true c17
 clear c17
 obtain ⟨c18, H⟩ : ((ji16) < (l0_1.length : Int)) ∧ _ := og H
 have c18b0 := decide_eq_true c18
 clear c18
 obtain ⟨t103, A19, H⟩ := ob H
 by_cases c20 : t103 = true
 rotate_left
 · replace c20 := Bool.eq_false_iff.mpr c20
   subst c20
   rw [if_neg nf] at H
   obtain rfl := Option.some.inj H
   obtain ⟨hcz28_0, hcz28_1, hfz28_0, hfz28_1⟩ := b2 BK104
   have p108 : 0 ≤ (x3_2 : Int) := of_decide_eq_true qa
   have q108 : x3_2 < (l0_1.length : Int) := of_decide_eq_true qa
   obtain ⟨ad108, e108, hx108_0, hx108_1⟩ := at_TTie HR0_1.out x3_2 p108 q108
   cases e108
   replace hx108_0 := hcl HB.out hx108_0
   replace hx108_1 := hcl HB.out hx108_1
   replace p108 := eq_true p108
   replace q108 := eq_true q108
   try go_wp2_with (first | ((with_reducible refine gd 4 ?_); (try (refine gate_guard (by rfl) ?_; dsimp only)); refine be 4 #[.int .i64 0, .int .i64 0] 32 ?_; intro gb109 hg w29 hbox hb; have BK109 := q0 (hbox); have GW109 := gw HB hg; have GE109 := gw HB hg; replace HB := bp HB hb; have NB104_109 := nl BK104 hg; have NB109_104 := ng BK104 hg; replace BK104 := kd BK104 hb; clear hb hbox hg; have hnb30 := NB109_104.out; have hnc30 := NB104_109.out; obtain ⟨hcz31_0, hcz31_1, hfz31_0, hfz31_1⟩ := b2 BK109))
   have n0_ : Aside0 (((w29.setCell ⟨gb109, 0, none⟩ (.int .i64 ((rd_TTie l0_1 x3_2).f0))).setCell ⟨gb109, 1, none⟩ (.int .i64 ((rd_TTie l0_1 x3_2).f1))).heap[gb104]? = some (.cells #[.int .i64 a0_0, .slice (some ad108) l0_1.length c0_1] 25 (0, 0))) := ⟨qf BK104.out⟩
   have n1_ : Aside0 (((w29.setCell ⟨gb109, 0, none⟩ (.int .i64 ((rd_TTie l0_1 x3_2).f0))).setCell ⟨gb109, 1, none⟩ (.int .i64 ((rd_TTie l0_1 x3_2).f1))).heap[gb109]? = some (.cells #[.int .i64 ((rd_TTie l0_1 x3_2).f0), .int .i64 ((rd_TTie l0_1 x3_2).f1)] 32 (0, 0))) := ⟨by (with_reducible repeat (first | refine blk_drewN ?_ _ | refine blk_drew ?_ | refine blk_alloc ?_ _)); refine blk_put (cs := #[.int .i64 ((rd_TTie l0_1 x3_2).f0), .int .i64 0]) ?_ 1 _ rfl; (with_reducible repeat (first | refine blk_drewN ?_ _ | refine blk_drew ?_ | refine blk_alloc ?_ _)); refine blk_put (cs := #[.int .i64 0, .int .i64 0]) ?_ 0 _ rfl; (with_reducible repeat (first | refine blk_drewN ?_ _ | refine blk_drew ?_ | refine blk_alloc ?_ _)); exact BK109.out⟩
   have n2_ : Aside0 (Below w.heap.size w ((w29.setCell ⟨gb109, 0, none⟩ (.int .i64 ((rd_TTie l0_1 x3_2).f0))).setCell ⟨gb109, 1, none⟩ (.int .i64 ((rd_TTie l0_1 x3_2).f1)))) := ⟨qb HB.out⟩
   (try clear BK104)
   (try clear BK109)
   (try clear HB)
   generalize ((w29.setCell ⟨gb109, 0, none⟩ (.int .i64 ((rd_TTie l0_1 x3_2).f0))).setCell ⟨gb109, 1, none⟩ (.int .i64 ((rd_TTie l0_1 x3_2).f1))) = w32 at n0_ n1_ n2_ ⊢
   have BK104 := n0_
   have BK109 := n1_
   have HB := n2_
   clear n0_ n1_ n2_
   replace BK104 := q0 (blk_drew BK104.out)
   replace BK109 := q0 (blk_drew BK109.out)
   replace HB := q0 (below_drew1 HB.out)
   have p110 : 0 ≤ ((ji16) : Int) := of_decide_eq_true qa
   have q110 : (ji16) < (l0_1.length : Int) := of_decide_eq_true qa
   obtain ⟨ad110, e110, hx110_0, hx110_1⟩ := at_TTie HR0_1.out (ji16) p110 q110
   have hw110_1 := hx110_1
   have hw110_0 := hx110_0
   obtain rfl : ad108 = ad110 := (by injection e110)
   replace hx110_0 := hcl HB.out hx110_0
   replace hx110_1 := hcl HB.out hx110_1
   replace p110 := eq_true p110
   replace q110 := eq_true q110
   refine start_ (n := 34) (S := fun w' => w'.cell? ⟨gb109, 0, none⟩ = some (.int .i64 ((rd_TTie l0_1 x3_2).f0)) ∧ w'.cell? ⟨gb109, 1, none⟩ = some (.int .i64 ((rd_TTie l0_1 x3_2).f1)) ∧ w'.cell? ⟨gb104, 0, none⟩ = some (.int .i64 a0_0) ∧ w'.cell? ⟨gb104, 1, none⟩ = some (.slice (some ad108) l0_1.length c0_1) ∧ w'.cell? (ad108.add (((ji16)).toNat * 2)) = some (.int .i64 ((rd_TTie l0_1 (ji16)).f0)) ∧ w'.cell? ⟨(ad108.add (((ji16)).toNat * 2)).block, (ad108.add (((ji16)).toNat * 2)).off + 1, none⟩ = some (.int .i64 ((rd_TTie l0_1 (ji16)).f1))) (ds := []) (ba 34 0) (by kernel_rfl) rfl (by kernel_rfl) ⟨bca BK109, bcb BK109, bca BK104, bcb BK104, ((HB.out.cell (World.block_lt_of_cell? w _ hw110_0)).trans hw110_0), ((HB.out.cell (World.block_lt_of_cell? w _ hw110_1)).trans hw110_1)⟩ (fun hHeld => ?_); refine with_tabW spec_NetOk.tab7 spec_NetOk.bits7 (fun HT_ HW_ => ?_)
   generalize w32.drew = w33 at BK104 BK109 HB hx110_0 hx110_1 hHeld ⊢
   refine pU 0 27 34 1 HT_ ?_
   refine pU 2 29 34 5 HT_ ?_
   refine tU 1 28 34 7 HT_ HW_ hHeld ?_
   refine tU 3 30 34 15 HT_ HW_ hHeld ?_
   refine pU 4 31 34 31 HT_ ?_
   refine one_ (i := 5) (N := some 32) (ba 34 63) rfl rfl (one_of HT_.out (by kernel_rfl)) (by decide) (fun K hK => ?_)
   refine goes_ Try.func88 (by kernel_rfl) rfl #[.int .i64 ((rd_TTie l0_1 x3_2).f0), .int .i64 0, .int .i64 (wrap64 (a0_0 - 1))] (by rfl) rfl rfl qm ?_
   with_reducible refine (spec_l6In.calls ((rd_TTie l0_1 x3_2).f0) 0 (wrap64 (a0_0 - 1)) true _ A11.out).mono ?_
   rintro e w' ⟨rfl, ⟨nd, rfl⟩⟩
   refine ⟨_, rfl, ?_⟩
   refine hK.out _ _ ⟨bca BK109, bcb BK109, bca BK104, bcb BK104, ((HB.out.cell (World.block_lt_of_cell? w _ hw110_0)).trans hw110_0), ((HB.out.cell (World.block_lt_of_cell? w _ hw110_1)).trans hw110_1)⟩ (fun hHeld => ?_)
   clear hK K
   refine nu 32 ?_
   refine pU 6 33 34 127 HT_ ?_
   refine pU 7 34 34 255 HT_ ?_
   refine pU 8 35 34 511 HT_ ?_
   refine pU 10 37 34 1535 HT_ ?_
   refine pU 13 40 34 9727 HT_ ?_
   refine tU 9 36 34 10239 HT_ HW_ hHeld ?_
   refine tU 11 38 34 12287 HT_ HW_ hHeld ?_
   refine pU 12 39 34 16383 HT_ ?_
   refine tU 14 41 34 32767 HT_ HW_ hHeld ?_
   refine pU 15 42 34 65535 HT_ ?_
   refine one_ (i := 16) (N := some 43) (ba 34 131071) rfl rfl (one_of HT_.out (by kernel_rfl)) (by decide) (fun K hK => ?_)
   refine goes_ Try.func88 (by kernel_rfl) rfl #[.int .i64 ((rd_TTie l0_1 x3_2).f1), .int .i64 (wrap64 (((rd_TTie l0_1 x3_2).f0) + 1)), .int .i64 (wrap64 (a0_0 - 1))] (by rfl) rfl rfl qm ?_
   with_reducible refine (spec_l6In.calls ((rd_TTie l0_1 x3_2).f1) (wrap64 (((rd_TTie l0_1 x3_2).f0) + 1)) (wrap64 (a0_0 - 1)) true _ A13.out).mono ?_
   rintro e w' ⟨rfl, ⟨nd, rfl⟩⟩
   refine ⟨_, rfl, ?_⟩
   refine hK.out _ _ ⟨bca BK109, bcb BK109, bca BK104, bcb BK104, ((HB.out.cell (World.block_lt_of_cell? w _ hw110_0)).trans hw110_0), ((HB.out.cell (World.block_lt_of_cell? w _ hw110_1)).trans hw110_1)⟩ (fun hHeld => ?_)
   clear hK K
   refine nu 43 ?_
   refine pU 17 44 34 262143 HT_ ?_
   refine pU 18 45 34 524287 HT_ ?_
   refine pU 19 46 34 1048575 HT_ ?_
   refine pU 20 47 34 2097151 HT_ ?_
   refine pU 21 48 34 4194303 HT_ ?_
   refine pU 22 49 34 8388607 HT_ ?_
   refine pU 23 50 34 16777215 HT_ ?_
   refine pU 25 52 34 50331647 HT_ ?_
   refine pU 26 53 34 117440511 HT_ ?_
   refine tU 24 51 34 134217727 HT_ HW_ hHeld ?_
   refine pU 27 54 34 268435455 HT_ ?_
   refine tU 28 55 34 536870911 HT_ HW_ hHeld ?_
   refine tU 29 56 34 1073741823 HT_ HW_ hHeld ?_
   refine one_ (i := 30) (N := some 57) (ba 34 2147483647) rfl rfl (one_of HT_.out (by kernel_rfl)) (by decide) (fun K hK => ?_)
   refine goes_ Try.func69 (by kernel_rfl) rfl #[.agg #[.int .i64 ((rd_TTie l0_1 (ji16)).f0), .int .i64 ((rd_TTie l0_1 (ji16)).f1)], .agg #[.int .i64 ((rd_TTie l0_1 x3_2).f0), .int .i64 ((rd_TTie l0_1 x3_2).f1)]] (by rfl) rfl rfl (by (try simp only [List.map_toArray, List.map_cons, List.map_nil]); first | done | (simp only [hji16]; rfl) | rfl | (simp only [List.length_drop, List.length_take]; rfl)) ?_
   with_reducible refine (spec_l1Less.calls ((rd_TTie l0_1 (ji16)).f0) ((rd_TTie l0_1 (ji16)).f1) ((rd_TTie l0_1 x3_2).f0) ((rd_TTie l0_1 x3_2).f1) false _ A19.out).mono ?_
   rintro e w34 ⟨rfl, hb⟩
   refine ⟨_, rfl, ?_⟩
   replace BK104 := kd BK104 hb
   replace BK109 := kd BK109 hb
   replace HB := bp HB hb
   (try clear hb)
   (try clear hb2)
   (try clear hk)
   (try clear hi)
   refine hK.out _ _ ⟨bca BK109, bcb BK109, bca BK104, bcb BK104, ((HB.out.cell (World.block_lt_of_cell? w _ hw110_0)).trans hw110_0), ((HB.out.cell (World.block_lt_of_cell? w _ hw110_1)).trans hw110_1)⟩ (fun hHeld => ?_)
   clear hK K
   refine nu 57 ?_
   refine pU 31 58 34 4294967295 HT_ ?_
   refine pU 32 59 34 8589934591 HT_ ?_
   refine pU 33 60 34 17179869183 HT_ ?_
   refine done_ (done_of HT_.out (by kernel_rfl)) ?_
   try go_wp2
   go_ret
   exact ⟨by first | rfl | (simp [errW_none, errW_some] <;> rfl) | (simp only [← hji16]; first | rfl | (simp [errW_none, errW_some] <;> rfl)) | (simp [*, errW_none, errW_some] <;> rfl), qb HB.out⟩
 subst c20
 rw [if_pos rfl] at H
 have H' := q0 H
 clear H
 obtain ⟨hcz21_0, hcz21_1, hfz21_0, hfz21_1⟩ := b2 BK104
 have p108 : 0 ≤ (x3_2 : Int) := of_decide_eq_true qa
 have q108 : x3_2 < (l0_1.length : Int) := of_decide_eq_true qa
 obtain ⟨ad108, e108, hx108_0, hx108_1⟩ := at_TTie HR0_1.out x3_2 p108 q108
 cases e108
 replace hx108_0 := hcl HB.out hx108_0
 replace hx108_1 := hcl HB.out hx108_1
 replace p108 := eq_true p108
 replace q108 := eq_true q108
 try go_wp2_with (first | ((with_reducible refine gd 4 ?_); (try (refine gate_guard (by rfl) ?_; dsimp only)); refine be 4 #[.int .i64 0, .int .i64 0] 32 ?_; intro gb109 hg w22 hbox hb; have BK109 := q0 (hbox); have GW109 := gw HB hg; have GE109 := gw HB hg; replace HB := bp HB hb; have NB104_109 := nl BK104 hg; have NB109_104 := ng BK104 hg; replace BK104 := kd BK104 hb; clear hb hbox hg; have hnb23 := NB109_104.out; have hnc23 := NB104_109.out; obtain ⟨hcz24_0, hcz24_1, hfz24_0, hfz24_1⟩ := b2 BK109))
 have n0_ : Aside0 (((w22.setCell ⟨gb109, 0, none⟩ (.int .i64 ((rd_TTie l0_1 x3_2).f0))).setCell ⟨gb109, 1, none⟩ (.int .i64 ((rd_TTie l0_1 x3_2).f1))).heap[gb104]? = some (.cells #[.int .i64 a0_0, .slice (some ad108) l0_1.length c0_1] 25 (0, 0))) := ⟨qf BK104.out⟩
 have n1_ : Aside0 (((w22.setCell ⟨gb109, 0, none⟩ (.int .i64 ((rd_TTie l0_1 x3_2).f0))).setCell ⟨gb109, 1, none⟩ (.int .i64 ((rd_TTie l0_1 x3_2).f1))).heap[gb109]? = some (.cells #[.int .i64 ((rd_TTie l0_1 x3_2).f0), .int .i64 ((rd_TTie l0_1 x3_2).f1)] 32 (0, 0))) := ⟨by (with_reducible repeat (first | refine blk_drewN ?_ _ | refine blk_drew ?_ | refine blk_alloc ?_ _)); refine blk_put (cs := #[.int .i64 ((rd_TTie l0_1 x3_2).f0), .int .i64 0]) ?_ 1 _ rfl; (with_reducible repeat (first | refine blk_drewN ?_ _ | refine blk_drew ?_ | refine blk_alloc ?_ _)); refine blk_put (cs := #[.int .i64 0, .int .i64 0]) ?_ 0 _ rfl; (with_reducible repeat (first | refine blk_drewN ?_ _ | refine blk_drew ?_ | refine blk_alloc ?_ _)); exact BK109.out⟩
 have n2_ : Aside0 (Below w.heap.size w ((w22.setCell ⟨gb109, 0, none⟩ (.int .i64 ((rd_TTie l0_1 x3_2).f0))).setCell ⟨gb109, 1, none⟩ (.int .i64 ((rd_TTie l0_1 x3_2).f1)))) := ⟨qb HB.out⟩
 (try clear BK104)
 (try clear BK109)
 (try clear HB)
 generalize ((w22.setCell ⟨gb109, 0, none⟩ (.int .i64 ((rd_TTie l0_1 x3_2).f0))).setCell ⟨gb109, 1, none⟩ (.int .i64 ((rd_TTie l0_1 x3_2).f1))) = w25 at n0_ n1_ n2_ ⊢
 have BK104 := n0_
 have BK109 := n1_
 have HB := n2_
 clear n0_ n1_ n2_
 replace BK104 := q0 (blk_drew BK104.out)
 replace BK109 := q0 (blk_drew BK109.out)
 replace HB := q0 (below_drew1 HB.out)
 have p110 : 0 ≤ ((ji16) : Int) := of_decide_eq_true qa
 have q110 : (ji16) < (l0_1.length : Int) := of_decide_eq_true qa
 obtain ⟨ad110, e110, hx110_0, hx110_1⟩ := at_TTie HR0_1.out (ji16) p110 q110
 have hw110_1 := hx110_1
 have hw110_0 := hx110_0
 obtain rfl : ad108 = ad110 := (by injection e110)
 replace hx110_0 := hcl HB.out hx110_0
 replace hx110_1 := hcl HB.out hx110_1
 replace p110 := eq_true p110
 replace q110 := eq_true q110
 refine start_ (n := 34) (S := fun w' => w'.cell? ⟨gb109, 0, none⟩ = some (.int .i64 ((rd_TTie l0_1 x3_2).f0)) ∧ w'.cell? ⟨gb109, 1, none⟩ = some (.int .i64 ((rd_TTie l0_1 x3_2).f1)) ∧ w'.cell? ⟨gb104, 0, none⟩ = some (.int .i64 a0_0) ∧ w'.cell? ⟨gb104, 1, none⟩ = some (.slice (some ad108) l0_1.length c0_1) ∧ w'.cell? (ad108.add (((ji16)).toNat * 2)) = some (.int .i64 ((rd_TTie l0_1 (ji16)).f0)) ∧ w'.cell? ⟨(ad108.add (((ji16)).toNat * 2)).block, (ad108.add (((ji16)).toNat * 2)).off + 1, none⟩ = some (.int .i64 ((rd_TTie l0_1 (ji16)).f1))) (ds := []) (ba 34 0) (by kernel_rfl) rfl (by kernel_rfl) ⟨bca BK109, bcb BK109, bca BK104, bcb BK104, ((HB.out.cell (World.block_lt_of_cell? w _ hw110_0)).trans hw110_0), ((HB.out.cell (World.block_lt_of_cell? w _ hw110_1)).trans hw110_1)⟩ (fun hHeld => ?_); refine with_tabW spec_NetOk.tab7 spec_NetOk.bits7 (fun HT_ HW_ => ?_)
 generalize w25.drew = w26 at BK104 BK109 HB hx110_0 hx110_1 hHeld ⊢
 refine pU 0 27 34 1 HT_ ?_
 refine pU 2 29 34 5 HT_ ?_
 refine tU 1 28 34 7 HT_ HW_ hHeld ?_
 refine tU 3 30 34 15 HT_ HW_ hHeld ?_
 refine pU 4 31 34 31 HT_ ?_
 refine one_ (i := 5) (N := some 32) (ba 34 63) rfl rfl (one_of HT_.out (by kernel_rfl)) (by decide) (fun K hK => ?_)
 refine goes_ Try.func88 (by kernel_rfl) rfl #[.int .i64 ((rd_TTie l0_1 x3_2).f0), .int .i64 0, .int .i64 (wrap64 (a0_0 - 1))] (by rfl) rfl rfl qm ?_
 with_reducible refine (spec_l6In.calls ((rd_TTie l0_1 x3_2).f0) 0 (wrap64 (a0_0 - 1)) true _ A11.out).mono ?_
 rintro e w' ⟨rfl, ⟨nd, rfl⟩⟩
 refine ⟨_, rfl, ?_⟩
 refine hK.out _ _ ⟨bca BK109, bcb BK109, bca BK104, bcb BK104, ((HB.out.cell (World.block_lt_of_cell? w _ hw110_0)).trans hw110_0), ((HB.out.cell (World.block_lt_of_cell? w _ hw110_1)).trans hw110_1)⟩ (fun hHeld => ?_)
 clear hK K
 refine nu 32 ?_
 refine pU 6 33 34 127 HT_ ?_
 refine pU 7 34 34 255 HT_ ?_
 refine pU 8 35 34 511 HT_ ?_
 refine pU 10 37 34 1535 HT_ ?_
 refine pU 13 40 34 9727 HT_ ?_
 refine tU 9 36 34 10239 HT_ HW_ hHeld ?_
 refine tU 11 38 34 12287 HT_ HW_ hHeld ?_
 refine pU 12 39 34 16383 HT_ ?_
 refine tU 14 41 34 32767 HT_ HW_ hHeld ?_
 refine pU 15 42 34 65535 HT_ ?_
 refine one_ (i := 16) (N := some 43) (ba 34 131071) rfl rfl (one_of HT_.out (by kernel_rfl)) (by decide) (fun K hK => ?_)
 refine goes_ Try.func88 (by kernel_rfl) rfl #[.int .i64 ((rd_TTie l0_1 x3_2).f1), .int .i64 (wrap64 (((rd_TTie l0_1 x3_2).f0) + 1)), .int .i64 (wrap64 (a0_0 - 1))] (by rfl) rfl rfl qm ?_
 with_reducible refine (spec_l6In.calls ((rd_TTie l0_1 x3_2).f1) (wrap64 (((rd_TTie l0_1 x3_2).f0) + 1)) (wrap64 (a0_0 - 1)) true _ A13.out).mono ?_
 rintro e w' ⟨rfl, ⟨nd, rfl⟩⟩
 refine ⟨_, rfl, ?_⟩
 refine hK.out _ _ ⟨bca BK109, bcb BK109, bca BK104, bcb BK104, ((HB.out.cell (World.block_lt_of_cell? w _ hw110_0)).trans hw110_0), ((HB.out.cell (World.block_lt_of_cell? w _ hw110_1)).trans hw110_1)⟩ (fun hHeld => ?_)
 clear hK K
 refine nu 43 ?_
 refine pU 17 44 34 262143 HT_ ?_
 refine pU 18 45 34 524287 HT_ ?_
 refine pU 19 46 34 1048575 HT_ ?_
 refine pU 20 47 34 2097151 HT_ ?_
 refine pU 21 48 34 4194303 HT_ ?_
 refine pU 22 49 34 8388607 HT_ ?_
 refine pU 23 50 34 16777215 HT_ ?_
 refine pU 25 52 34 50331647 HT_ ?_
 refine pU 26 53 34 117440511 HT_ ?_
 refine tU 24 51 34 134217727 HT_ HW_ hHeld ?_
 refine pU 27 54 34 268435455 HT_ ?_
 refine tU 28 55 34 536870911 HT_ HW_ hHeld ?_
 refine tU 29 56 34 1073741823 HT_ HW_ hHeld ?_
 refine one_ (i := 30) (N := some 57) (ba 34 2147483647) rfl rfl (one_of HT_.out (by kernel_rfl)) (by decide) (fun K hK => ?_)
 refine goes_ Try.func69 (by kernel_rfl) rfl #[.agg #[.int .i64 ((rd_TTie l0_1 (ji16)).f0), .int .i64 ((rd_TTie l0_1 (ji16)).f1)], .agg #[.int .i64 ((rd_TTie l0_1 x3_2).f0), .int .i64 ((rd_TTie l0_1 x3_2).f1)]] (by rfl) rfl rfl (by (try simp only [List.map_toArray, List.map_cons, List.map_nil]); first | done | (simp only [hji16]; rfl) | rfl | (simp only [List.length_drop, List.length_take]; rfl)) ?_
 with_reducible refine (spec_l1Less.calls ((rd_TTie l0_1 (ji16)).f0) ((rd_TTie l0_1 (ji16)).f1) ((rd_TTie l0_1 x3_2).f0) ((rd_TTie l0_1 x3_2).f1) true _ A19.out).mono ?_
 rintro e w27 ⟨rfl, hb⟩
 refine ⟨_, rfl, ?_⟩
 replace BK104 := kd BK104 hb
 replace BK109 := kd BK109 hb
 replace HB := bp HB hb
 (try clear hb)
 (try clear hb2)
 (try clear hk)
 (try clear hi)
 refine hK.out _ _ ⟨bca BK109, bcb BK109, bca BK104, bcb BK104, ((HB.out.cell (World.block_lt_of_cell? w _ hw110_0)).trans hw110_0), ((HB.out.cell (World.block_lt_of_cell? w _ hw110_1)).trans hw110_1)⟩ (fun hHeld => ?_)
 clear hK K
 refine nu 57 ?_
 refine pU 31 58 34 4294967295 HT_ ?_
 refine pU 32 59 34 8589934591 HT_ ?_
 refine pU 33 60 34 17179869183 HT_ ?_
 refine done_ (done_of HT_.out (by kernel_rfl)) ?_
 try go_wp2
 go_roundg k2
 case measure => have := HJ1.out; have := HK2.out; omega
 case rel => exact ⟨(wrap64 (x3_2 + 1)), qs, H', ⟨by have := HJ1.out; have := HK2.out; omega⟩, ⟨qk BK104.out⟩, ⟨qb HB.out⟩⟩

set_option maxHeartbeats 8000000 in
set_option maxRecDepth 100000 in
theorem spec_l1Knot.calls (k : Nat) (a0_0 : Int) (A0_1 : Option Addr) (c0_1 : Nat) (l0_1 : List (STie)) (a1 : Int) (r : Bool) (w : World) (hr0_1 : Kd.C kTie w A0_1 l0_1.length l0_1) (hc0_1 : l0_1.length ≤ c0_1) (h : spec_l1Knot.f k a0_0 l0_1 a1 = some r) :
    Calls Try.prog 67 #[.agg #[.int .i64 a0_0, .slice A0_1 l0_1.length c0_1], .int .i64 a1] w fun e w' => e = .returned (.bool r) ∧ Below w.heap.size w w' := by
 have hu25 := Try.underlying25
 have HR0_1 := q0 hr0_1
 have HC0_1 := q0 hc0_1
 clear hr0_1 hc0_1
 have HB := q0 (Below.refl w.heap.size w)
 have H : ((spec_NetOk.f k a0_0 l0_1).bind fun t100 => (if t100 = true then ((spec_l6In.f a1 0 (wrap64 (a0_0 - 1))).bind fun t101 => (some t101)) else (some false))) = some r := h
 clear h
 obtain ⟨t100, A3, H⟩ := ob H
 by_cases c4 : t100 = true
 rotate_left
 · replace c4 := Bool.eq_false_iff.mpr c4
   subst c4
   rw [if_neg nf] at H
   obtain rfl := Option.some.inj H
   go_enter Try.func67, Try.ntmps67
   go_wp2_with (first | ((with_reducible refine gd 2 ?_); refine be 2 #[.int .i64 a0_0, .slice A0_1 l0_1.length c0_1] 25 ?_; intro gb102 hg w10 hbox hb; have BK102 := q0 (hbox); have GW102 := gw HB hg; have GE102 := gw HB hg; replace HB := bp HB hb; clear hb hbox hg; obtain ⟨hcz11_0, hcz11_1, hfz11_0, hfz11_1⟩ := b2 BK102) | ((with_reducible refine gf 49 ?_); refine gl 6 Try.func49 #[.agg #[.int .i64 a0_0, .slice A0_1 l0_1.length c0_1]] ?_; (with_reducible refine (spec_NetOk.calls k a0_0 _ _ l0_1 false _ ?side1 ?side2 A3.out).mono ?_); (case side1 => exact qc (Kd.C_below HR0_1.out HB.out)); (case side2 => exact HC0_1.out); rintro e w12 ⟨rfl, hb⟩; refine ⟨_, rfl, ?_⟩; replace BK102 := kd BK102 hb; replace HB := bp HB hb; (try clear hb); (try clear hb2); (try clear hk); (try clear hi)))
   go_ret
   exact ⟨qe, qb HB.out⟩
 subst c4
 rw [if_pos rfl] at H
 obtain ⟨t101, A5, H⟩ := ob H
 obtain rfl := Option.some.inj H
 go_enter Try.func67, Try.ntmps67
 go_wp2_with (first | ((with_reducible refine gd 2 ?_); refine be 2 #[.int .i64 a0_0, .slice A0_1 l0_1.length c0_1] 25 ?_; intro gb102 hg w6 hbox hb; have BK102 := q0 (hbox); have GW102 := gw HB hg; have GE102 := gw HB hg; replace HB := bp HB hb; clear hb hbox hg; obtain ⟨hcz7_0, hcz7_1, hfz7_0, hfz7_1⟩ := b2 BK102) | ((with_reducible refine gf 49 ?_); refine gl 6 Try.func49 #[.agg #[.int .i64 a0_0, .slice A0_1 l0_1.length c0_1]] ?_; (with_reducible refine (spec_NetOk.calls k a0_0 _ _ l0_1 true _ ?side1 ?side2 A3.out).mono ?_); (case side1 => exact qc (Kd.C_below HR0_1.out HB.out)); (case side2 => exact HC0_1.out); rintro e w8 ⟨rfl, hb⟩; refine ⟨_, rfl, ?_⟩; replace BK102 := kd BK102 hb; replace HB := bp HB hb; (try clear hb); (try clear hb2); (try clear hk); (try clear hi); obtain ⟨hcz9_0, hcz9_1, hfz9_0, hfz9_1⟩ := b2 BK102) | (go_at_call 88; (with_reducible refine (spec_l6In.calls a1 0 (wrap64 (a0_0 - 1)) t101 _ A5.out).mono ?_); rintro e w' ⟨rfl, ⟨nd, rfl⟩⟩))
 go_ret
 exact ⟨qe, qb HB.out⟩

set_option maxHeartbeats 8000000 in
set_option maxRecDepth 100000 in
theorem spec_l1Tie.calls (a0 : Int) (a1 : Int) (r1 : Int) (r2 : Int) (w : World) (h : spec_l1Tie.f a0 a1 = some (r1, r2)) :
    Calls Try.prog 68 #[.int .i64 a0, .int .i64 a1] w fun e w' => e = .returned (.agg #[.int .i64 r1, .int .i64 r2]) ∧ Below w.heap.size w w' := by
 have hu32 := Try.underlying32
 have HB := q0 (Below.refl w.heap.size w)
 have H : (if a0 < a1 then (some (a0, a1)) else (some (a1, a0))) = some (r1, r2) := h
 clear h
 by_cases c3 : a0 < a1
 · rw [if_pos c3] at H
   have c3b0 := decide_eq_true c3
   clear c3
   simp only [Option.some.injEq, Prod.mk.injEq] at H
   obtain ⟨rfl, rfl⟩ := H
   go_enter Try.func68, Try.ntmps68
   go_wp2_with (first | ((with_reducible refine gd 4 ?_); refine be 4 #[.int .i64 0, .int .i64 0] 32 ?_; intro gb100 hg w4 hbox hb; have BK100 := q0 (hbox); have GW100 := gw HB hg; have GE100 := gw HB hg; replace HB := bp HB hb; clear hb hbox hg; obtain ⟨hcz5_0, hcz5_1, hfz5_0, hfz5_1⟩ := b2 BK100))
   refine bodyPost_ret (results_cell_row rfl _ _ gb100 32 #[.int .i64 a0, .int .i64 a1] (0, 0) _ rfl (by (with_reducible repeat (first | refine blk_drewN ?_ _ | refine blk_drew ?_ | refine blk_alloc ?_ _)); refine blk_put (cs := #[.int .i64 a0, .int .i64 0]) ?_ 1 _ rfl; (with_reducible repeat (first | refine blk_drewN ?_ _ | refine blk_drew ?_ | refine blk_alloc ?_ _)); refine blk_put (cs := #[.int .i64 0, .int .i64 0]) ?_ 0 _ rfl; (with_reducible repeat (first | refine blk_drewN ?_ _ | refine blk_drew ?_ | refine blk_alloc ?_ _)); exact BK100.out) Try.underlying32 rfl (by kernel_rfl)) rfl ?_
   exact ⟨qe, qb HB.out⟩
 rw [if_neg c3] at H
 have c3b0 := decide_eq_false c3
 clear c3
 simp only [Option.some.injEq, Prod.mk.injEq] at H
 obtain ⟨rfl, rfl⟩ := H
 go_enter Try.func68, Try.ntmps68
 go_wp2_with (first | ((with_reducible refine gd 4 ?_); refine be 4 #[.int .i64 0, .int .i64 0] 32 ?_; intro gb100 hg w6 hbox hb; have BK100 := q0 (hbox); have GW100 := gw HB hg; have GE100 := gw HB hg; replace HB := bp HB hb; clear hb hbox hg; obtain ⟨hcz7_0, hcz7_1, hfz7_0, hfz7_1⟩ := b2 BK100))
 refine bodyPost_ret (results_cell_row rfl _ _ gb100 32 #[.int .i64 a1, .int .i64 a0] (0, 0) _ rfl (by (with_reducible repeat (first | refine blk_drewN ?_ _ | refine blk_drew ?_ | refine blk_alloc ?_ _)); refine blk_put (cs := #[.int .i64 a1, .int .i64 0]) ?_ 1 _ rfl; (with_reducible repeat (first | refine blk_drewN ?_ _ | refine blk_drew ?_ | refine blk_alloc ?_ _)); refine blk_put (cs := #[.int .i64 0, .int .i64 0]) ?_ 0 _ rfl; (with_reducible repeat (first | refine blk_drewN ?_ _ | refine blk_drew ?_ | refine blk_alloc ?_ _)); exact BK100.out) Try.underlying32 rfl (by kernel_rfl)) rfl ?_
 exact ⟨qe, qb HB.out⟩

attribute [local go_sem high] eqATie
def spec_l1Has.T4 : Bool × List (List Nat × List Nat) := (true, [([], []), ([0], [0]), ([], []), ([1, 2], [1, 2]), ([3], [3]), ([], []), ([], []), ([5, 6], [5, 6]), ([4, 7], [4, 7])])
def spec_l1Has.B4 : List Nat := [0, 1, 0, 7, 15, 0, 0, 96, 255]
theorem spec_l1Has.tab4 : rtab .any (opsOf Try.f80 4) = spec_l1Has.T4 := by kernel_rfl
theorem spec_l1Has.bits4 : waitsOk spec_l1Has.T4.2 spec_l1Has.B4 = true := by kernel_rfl
set_option maxHeartbeats 8000000 in
set_option maxRecDepth 100000 in
theorem spec_l1Has.calls (k : Nat) (a0_0 : Int) (A0_1 : Option Addr) (c0_1 : Nat) (l0_1 : List (STie)) (a1 : Int) (a2 : Int) (r : Bool) (w : World) (hr0_1 : Kd.C kTie w A0_1 l0_1.length l0_1) (hc0_1 : l0_1.length ≤ c0_1) (h : spec_l1Has.f k a0_0 l0_1 a1 a2 = some r) :
    Calls Try.prog 80 #[.agg #[.int .i64 a0_0, .slice A0_1 l0_1.length c0_1], .int .i64 a1, .int .i64 a2] w fun e w' => e = .returned (.bool r) ∧ Below w.heap.size w w' := by
 have hu25 := Try.underlying25
 have hu32 := Try.underlying32
 have HR0_1 := q0 hr0_1
 have HC0_1 := q0 hc0_1
 clear hr0_1 hc0_1
 have HB := q0 (Below.refl w.heap.size w)
 have H : (spec_l1Has.l0 k a1 a2 0 a0_0 l0_1) = some r := h
 clear h
 have H' := q0 H
 clear H
 go_enter Try.func80, Try.ntmps80
 go_wp2_with (first | ((with_reducible refine gd 3 ?_); refine be 3 #[.int .i64 a0_0, .slice A0_1 l0_1.length c0_1] 25 ?_; intro gb102 hg w4 hbox hb; have BK102 := q0 (hbox); have GW102 := gw HB hg; have GE102 := gw HB hg; replace HB := bp HB hb; clear hb hbox hg))
 go_loopg [7] k (fun kq v7 w' => ∃ (x7_1 : Int), v7 = .int .i64 x7_1 ∧ Aside0 (spec_l1Has.l0 kq a1 a2 x7_1 a0_0 l0_1 = some r) ∧ Aside0 (kq ≤ k) ∧ Aside0 (w'.heap[gb102]? = some (.cells #[.int .i64 a0_0, (.slice A0_1 l0_1.length c0_1)] 25 (0, 0))) ∧ Aside0 (Below w.heap.size w w'))
 case atStart => exact ⟨(0), qs, H', ⟨Nat.le_refl _⟩, ⟨qk BK102.out⟩, ⟨qb HB.out⟩⟩
 clear H'
 try clear p2
 obtain ⟨x7_1, rfl, HA, HK1, BK102, HB⟩ := hrel
 rcases gk with _ | k1
 · exact absurd HA.out (by simp [spec_l1Has.l0])
 have H := HA.out
 clear HA
 simp only [spec_l1Has.l0] at H
 by_cases c5 : x7_1 < (l0_1.length : Int)
 rotate_left
 · rw [if_neg c5] at H
   have c5b0 := decide_eq_false c5
   clear c5
   obtain rfl := Option.some.inj H
   obtain ⟨hcz15_0, hcz15_1, hfz15_0, hfz15_1⟩ := b2 BK102
   go_wp2
   go_ret
   exact ⟨qe, qb HB.out⟩
 rw [if_pos c5] at H
 have c5b0 := decide_eq_true c5
 clear c5
 obtain ⟨c6, H⟩ : (0 ≤ x7_1) ∧ _ := og H
 have c6b0 := decide_eq_true c6
 clear c6
 obtain ⟨⟨t101, t103⟩, A7, H⟩ := ob H
 by_cases c8 : (((rd_TTie l0_1 x7_1).f0) == t101 && (((rd_TTie l0_1 x7_1).f1) == t103)) = true
 · rw [if_pos c8] at H
   have c8b0 : (((rd_TTie l0_1 x7_1).f0) == t101 && (((rd_TTie l0_1 x7_1).f1) == t103)) = true := c8
   (try (have c8b1 : decide (((rd_TTie l0_1 x7_1).f0) = t101 && (((rd_TTie l0_1 x7_1).f1) == t103)) = true := by simpa using c8))
   (try (have c8b2 : (((rd_TTie l0_1 x7_1).f0) == t101 && (((rd_TTie l0_1 x7_1).f1) == t103)) = true := by simpa using c8))
   clear c8
   obtain rfl := Option.some.inj H
   obtain ⟨hcz9_0, hcz9_1, hfz9_0, hfz9_1⟩ := b2 BK102
   try go_wp2
   replace BK102 := q0 (blk_drew BK102.out)
   replace HB := q0 (below_drew1 HB.out)
   have p100 : 0 ≤ (x7_1 : Int) := of_decide_eq_true qa
   have q100 : x7_1 < (l0_1.length : Int) := of_decide_eq_true qa
   obtain ⟨ad100, e100, hx100_0, hx100_1⟩ := at_TTie HR0_1.out x7_1 p100 q100
   have hw100_1 := hx100_1
   have hw100_0 := hx100_0
   cases e100
   replace hx100_0 := hcl HB.out hx100_0
   replace hx100_1 := hcl HB.out hx100_1
   replace p100 := eq_true p100
   replace q100 := eq_true q100
   refine start_ (n := 9) (S := fun w' => w'.cell? ⟨gb102, 0, none⟩ = some (.int .i64 a0_0) ∧ w'.cell? ⟨gb102, 1, none⟩ = some (.slice (some ad100) l0_1.length c0_1) ∧ w'.cell? (ad100.add ((x7_1).toNat * 2)) = some (.int .i64 ((rd_TTie l0_1 x7_1).f0)) ∧ w'.cell? ⟨(ad100.add ((x7_1).toNat * 2)).block, (ad100.add ((x7_1).toNat * 2)).off + 1, none⟩ = some (.int .i64 ((rd_TTie l0_1 x7_1).f1))) (ds := []) (ba 9 0) (by kernel_rfl) rfl (by kernel_rfl) ⟨bca BK102, bcb BK102, ((HB.out.cell (World.block_lt_of_cell? w _ hw100_0)).trans hw100_0), ((HB.out.cell (World.block_lt_of_cell? w _ hw100_1)).trans hw100_1)⟩ (fun hHeld => ?_); refine with_tabW spec_l1Has.tab4 spec_l1Has.bits4 (fun HT_ HW_ => ?_)
   generalize wr.drew = w10 at BK102 HB hx100_0 hx100_1 hHeld ⊢
   refine pU 0 15 9 1 HT_ ?_
   refine pU 2 17 9 5 HT_ ?_
   refine pU 5 20 9 37 HT_ ?_
   refine pU 6 21 9 101 HT_ ?_
   refine tU 1 16 9 103 HT_ HW_ hHeld ?_
   refine pU 3 18 9 111 HT_ ?_
   refine tU 4 19 9 127 HT_ HW_ hHeld ?_
   refine one_ (i := 7) (N := some 22) (ba 9 255) rfl rfl (one_of HT_.out (by kernel_rfl)) (by decide) (fun K hK => ?_)
   refine goes_ Try.func68 (by kernel_rfl) rfl #[.int .i64 a1, .int .i64 a2] (by rfl) rfl rfl qm ?_
   with_reducible refine (spec_l1Tie.calls a1 a2 t101 t103 _ A7.out).mono ?_
   rintro e w11 ⟨rfl, hb⟩
   refine ⟨_, rfl, ?_⟩
   replace BK102 := kd BK102 hb
   replace HB := bp HB hb
   (try clear hb)
   (try clear hb2)
   (try clear hk)
   (try clear hi)
   refine hK.out _ _ ⟨bca BK102, bcb BK102, ((HB.out.cell (World.block_lt_of_cell? w _ hw100_0)).trans hw100_0), ((HB.out.cell (World.block_lt_of_cell? w _ hw100_1)).trans hw100_1)⟩ (fun hHeld => ?_)
   clear hK K
   refine nu 22 ?_
   refine pU 8 23 9 511 HT_ ?_
   refine done_ (done_of HT_.out (by kernel_rfl)) ?_
   try go_wp2
   go_ret
   exact ⟨qe, qb HB.out⟩
 rw [if_neg c8] at H
 have c8b0 : (((rd_TTie l0_1 x7_1).f0) == t101 && (((rd_TTie l0_1 x7_1).f1) == t103)) = false := by simpa using c8
 (try (have c8b1 : decide (((rd_TTie l0_1 x7_1).f0) = t101 && (((rd_TTie l0_1 x7_1).f1) == t103)) = false := by simpa using c8))
 (try (have c8b2 : (((rd_TTie l0_1 x7_1).f0) == t101 && (((rd_TTie l0_1 x7_1).f1) == t103)) = false := by simpa using c8))
 (try (have c8b3 : ¬ (((rd_TTie l0_1 x7_1).f0) = t101 && (((rd_TTie l0_1 x7_1).f1) == t103)) := by simpa using c8))
 clear c8
 have H' := q0 H
 clear H
 obtain ⟨hcz12_0, hcz12_1, hfz12_0, hfz12_1⟩ := b2 BK102
 try go_wp2
 replace BK102 := q0 (blk_drew BK102.out)
 replace HB := q0 (below_drew1 HB.out)
 have p100 : 0 ≤ (x7_1 : Int) := of_decide_eq_true qa
 have q100 : x7_1 < (l0_1.length : Int) := of_decide_eq_true qa
 obtain ⟨ad100, e100, hx100_0, hx100_1⟩ := at_TTie HR0_1.out x7_1 p100 q100
 have hw100_1 := hx100_1
 have hw100_0 := hx100_0
 cases e100
 replace hx100_0 := hcl HB.out hx100_0
 replace hx100_1 := hcl HB.out hx100_1
 replace p100 := eq_true p100
 replace q100 := eq_true q100
 refine start_ (n := 9) (S := fun w' => w'.cell? ⟨gb102, 0, none⟩ = some (.int .i64 a0_0) ∧ w'.cell? ⟨gb102, 1, none⟩ = some (.slice (some ad100) l0_1.length c0_1) ∧ w'.cell? (ad100.add ((x7_1).toNat * 2)) = some (.int .i64 ((rd_TTie l0_1 x7_1).f0)) ∧ w'.cell? ⟨(ad100.add ((x7_1).toNat * 2)).block, (ad100.add ((x7_1).toNat * 2)).off + 1, none⟩ = some (.int .i64 ((rd_TTie l0_1 x7_1).f1))) (ds := []) (ba 9 0) (by kernel_rfl) rfl (by kernel_rfl) ⟨bca BK102, bcb BK102, ((HB.out.cell (World.block_lt_of_cell? w _ hw100_0)).trans hw100_0), ((HB.out.cell (World.block_lt_of_cell? w _ hw100_1)).trans hw100_1)⟩ (fun hHeld => ?_); refine with_tabW spec_l1Has.tab4 spec_l1Has.bits4 (fun HT_ HW_ => ?_)
 generalize wr.drew = w13 at BK102 HB hx100_0 hx100_1 hHeld ⊢
 refine pU 0 15 9 1 HT_ ?_
 refine pU 2 17 9 5 HT_ ?_
 refine pU 5 20 9 37 HT_ ?_
 refine pU 6 21 9 101 HT_ ?_
 refine tU 1 16 9 103 HT_ HW_ hHeld ?_
 refine pU 3 18 9 111 HT_ ?_
 refine tU 4 19 9 127 HT_ HW_ hHeld ?_
 refine one_ (i := 7) (N := some 22) (ba 9 255) rfl rfl (one_of HT_.out (by kernel_rfl)) (by decide) (fun K hK => ?_)
 refine goes_ Try.func68 (by kernel_rfl) rfl #[.int .i64 a1, .int .i64 a2] (by rfl) rfl rfl qm ?_
 with_reducible refine (spec_l1Tie.calls a1 a2 t101 t103 _ A7.out).mono ?_
 rintro e w14 ⟨rfl, hb⟩
 refine ⟨_, rfl, ?_⟩
 replace BK102 := kd BK102 hb
 replace HB := bp HB hb
 (try clear hb)
 (try clear hb2)
 (try clear hk)
 (try clear hi)
 refine hK.out _ _ ⟨bca BK102, bcb BK102, ((HB.out.cell (World.block_lt_of_cell? w _ hw100_0)).trans hw100_0), ((HB.out.cell (World.block_lt_of_cell? w _ hw100_1)).trans hw100_1)⟩ (fun hHeld => ?_)
 clear hK K
 refine nu 22 ?_
 refine pU 8 23 9 511 HT_ ?_
 refine done_ (done_of HT_.out (by kernel_rfl)) ?_
 try go_wp2
 go_roundg k1
 case measure => have := HK1.out; omega
 case rel => exact ⟨(wrap64 (x7_1 + 1)), qs, H', ⟨by have := HK1.out; omega⟩, ⟨qk BK102.out⟩, ⟨qb HB.out⟩⟩

attribute [local go_sem high] eqATie
set_option maxHeartbeats 8000000 in
set_option maxRecDepth 100000 in
theorem slices_Index_Tie.calls (k : Nat) (A0 : Option Addr) (c0 : Nat) (l0 : List (STie)) (a1_0 : Int) (a1_1 : Int) (r : Int) (w : World) (hr0 : Kd.C kTie w A0 l0.length l0) (hc0 : l0.length ≤ c0) (h : slices_Index_Tie.f k l0 a1_0 a1_1 = some r) :
    Calls Try.prog 104 #[.slice A0 l0.length c0, .agg #[.int .i64 a1_0, .int .i64 a1_1]] w fun e w' => e = .returned (.int .i64 r) ∧ Below w.heap.size w w' := by
 have hu32 := Try.underlying32
 have HR0 := q0 hr0
 have HC0 := q0 hc0
 clear hr0 hc0
 have HB := q0 (Below.refl w.heap.size w)
 have H : (slices_Index_Tie.l0 k l0 (l0.length : Int) 0 a1_0 a1_1) = some r := h
 clear h
 have H' := q0 H
 clear H
 go_enter Try.func104, Try.ntmps104
 go_wp2_with (first | ((with_reducible refine gd 3 ?_); refine be 3 #[.int .i64 a1_0, .int .i64 a1_1] 32 ?_; intro gb101 hg w3 hbox hb; have BK101 := q0 (hbox); have GW101 := gw HB hg; have GE101 := gw HB hg; replace HB := bp HB hb; clear hb hbox hg))
 repeat (go_quiet (first | ((with_reducible refine gd 3 ?_); refine be 3 #[.int .i64 a1_0, .int .i64 a1_1] 32 ?_; intro gb101 hg w3 hbox hb; have BK101 := q0 (hbox); have GW101 := gw HB hg; have GE101 := gw HB hg; replace HB := bp HB hb; clear hb hbox hg)); try go_wp2_with (first | ((with_reducible refine gd 3 ?_); refine be 3 #[.int .i64 a1_0, .int .i64 a1_1] 32 ?_; intro gb101 hg w3 hbox hb; have BK101 := q0 (hbox); have GW101 := gw HB hg; have GE101 := gw HB hg; replace HB := bp HB hb; clear hb hbox hg)))
 go_loopg [8] k (fun kq v8 w' => ∃ (x8_1 : Int), v8 = .int .i64 x8_1 ∧ Aside0 (slices_Index_Tie.l0 kq l0 (l0.length : Int) x8_1 a1_0 a1_1 = some r) ∧ Aside0 (kq ≤ k) ∧ Aside0 (w'.heap[gb101]? = some (.cells #[.int .i64 a1_0, .int .i64 a1_1] 32 (0, 0))) ∧ Aside0 (Below w.heap.size w w'))
 case atStart => exact ⟨(0), qs, H', ⟨Nat.le_refl _⟩, ⟨qk BK101.out⟩, ⟨qb HB.out⟩⟩
 clear H'
 try clear c1
 try clear p2
 obtain ⟨x8_1, rfl, HA, HK1, BK101, HB⟩ := hrel
 rcases gk with _ | k1
 · exact absurd HA.out (by simp [slices_Index_Tie.l0])
 have H := HA.out
 clear HA
 simp only [slices_Index_Tie.l0] at H
 by_cases c4 : x8_1 < (l0.length : Int)
 rotate_left
 · rw [if_neg c4] at H
   have c4b0 := decide_eq_false c4
   clear c4
   obtain rfl := Option.some.inj H
   go_wp2
   repeat (go_quiet (fail); try go_wp2)
   go_ret
   exact ⟨qe, qb HB.out⟩
 rw [if_pos c4] at H
 have c4b0 := decide_eq_true c4
 clear c4
 obtain ⟨c5, H⟩ : (0 ≤ x8_1) ∧ _ := og H
 have c5b0 := decide_eq_true c5
 clear c5
 obtain ⟨c6, H⟩ : (x8_1 < (l0.length : Int)) ∧ _ := og H
 have c6b0 := decide_eq_true c6
 clear c6
 by_cases c7 : (a1_0 == ((rd_TTie l0 x8_1).f0) && (a1_1 == ((rd_TTie l0 x8_1).f1))) = true
 · rw [if_pos c7] at H
   have c7b0 : (a1_0 == ((rd_TTie l0 x8_1).f0) && (a1_1 == ((rd_TTie l0 x8_1).f1))) = true := c7
   (try (have c7b1 : decide (a1_0 = ((rd_TTie l0 x8_1).f0) && (a1_1 == ((rd_TTie l0 x8_1).f1))) = true := by simpa using c7))
   (try (have c7b2 : (a1_0 == ((rd_TTie l0 x8_1).f0) && (a1_1 == ((rd_TTie l0 x8_1).f1))) = true := by simpa using c7))
   clear c7
   obtain rfl := Option.some.inj H
   obtain ⟨hcz8_0, hcz8_1, hfz8_0, hfz8_1⟩ := b2 BK101
   have p100 : 0 ≤ (x8_1 : Int) := of_decide_eq_true qa
   have q100 : x8_1 < (l0.length : Int) := of_decide_eq_true qa
   obtain ⟨ad100, e100, hx100_0, hx100_1⟩ := at_TTie HR0.out x8_1 p100 q100
   cases e100
   replace hx100_0 := hcl HB.out hx100_0
   replace hx100_1 := hcl HB.out hx100_1
   replace p100 := eq_true p100
   replace q100 := eq_true q100
   go_wp2
   repeat (go_quiet (fail); try go_wp2)
   go_ret
   exact ⟨qe, qb HB.out⟩
 rw [if_neg c7] at H
 have c7b0 : (a1_0 == ((rd_TTie l0 x8_1).f0) && (a1_1 == ((rd_TTie l0 x8_1).f1))) = false := by simpa using c7
 (try (have c7b1 : decide (a1_0 = ((rd_TTie l0 x8_1).f0) && (a1_1 == ((rd_TTie l0 x8_1).f1))) = false := by simpa using c7))
 (try (have c7b2 : (a1_0 == ((rd_TTie l0 x8_1).f0) && (a1_1 == ((rd_TTie l0 x8_1).f1))) = false := by simpa using c7))
 (try (have c7b3 : ¬ (a1_0 = ((rd_TTie l0 x8_1).f0) && (a1_1 == ((rd_TTie l0 x8_1).f1))) := by simpa using c7))
 clear c7
 have H' := q0 H
 clear H
 obtain ⟨hcz9_0, hcz9_1, hfz9_0, hfz9_1⟩ := b2 BK101
 have p100 : 0 ≤ (x8_1 : Int) := of_decide_eq_true qa
 have q100 : x8_1 < (l0.length : Int) := of_decide_eq_true qa
 obtain ⟨ad100, e100, hx100_0, hx100_1⟩ := at_TTie HR0.out x8_1 p100 q100
 cases e100
 replace hx100_0 := hcl HB.out hx100_0
 replace hx100_1 := hcl HB.out hx100_1
 replace p100 := eq_true p100
 replace q100 := eq_true q100
 go_wp2
 repeat (go_quiet (fail); try go_wp2)
 go_roundg k1
 case measure => have := HK1.out; omega
 case rel => exact ⟨(wrap64 (x8_1 + 1)), qs, H', ⟨by have := HK1.out; omega⟩, ⟨qk BK101.out⟩, ⟨qb HB.out⟩⟩

set_option maxHeartbeats 8000000 in
set_option maxRecDepth 100000 in
theorem slices_Contains_Tie.calls (k : Nat) (A0 : Option Addr) (c0 : Nat) (l0 : List (STie)) (a1_0 : Int) (a1_1 : Int) (r : Bool) (w : World) (hr0 : Kd.C kTie w A0 l0.length l0) (hc0 : l0.length ≤ c0) (h : slices_Contains_Tie.f k l0 a1_0 a1_1 = some r) :
    Calls Try.prog 82 #[.slice A0 l0.length c0, .agg #[.int .i64 a1_0, .int .i64 a1_1]] w fun e w' => e = .returned (.bool r) ∧ Below w.heap.size w w' := by
 have hu32 := Try.underlying32
 have HR0 := q0 hr0
 have HC0 := q0 hc0
 clear hr0 hc0
 have HB := q0 (Below.refl w.heap.size w)
 have H : ((slices_Index_Tie.f k l0 a1_0 a1_1).bind fun t100 => (some (decide (t100 ≥ 0)))) = some r := h
 clear h
 obtain ⟨t100, A3, H⟩ := ob H
 obtain rfl := Option.some.inj H
 go_enter Try.func82, Try.ntmps82
 go_wp2_with (first | ((with_reducible refine gd 3 ?_); refine be 3 #[.int .i64 a1_0, .int .i64 a1_1] 32 ?_; intro gb101 hg w4 hbox hb; have BK101 := q0 (hbox); have GW101 := gw HB hg; have GE101 := gw HB hg; replace HB := bp HB hb; clear hb hbox hg; obtain ⟨hcz5_0, hcz5_1, hfz5_0, hfz5_1⟩ := b2 BK101) | ((with_reducible refine gf 104 ?_); refine gl 7 Try.func104 #[.slice A0 l0.length c0, .agg #[.int .i64 a1_0, .int .i64 a1_1]] ?_; (with_reducible refine (slices_Index_Tie.calls k _ _ l0 a1_0 a1_1 t100 _ ?side1 ?side2 A3.out).mono ?_); (case side1 => exact qc (Kd.C_below HR0.out HB.out)); (case side2 => exact HC0.out); rintro e w6 ⟨rfl, hb⟩; refine ⟨_, rfl, ?_⟩; replace BK101 := kd BK101 hb; replace HB := bp HB hb; (try clear hb); (try clear hb2); (try clear hk); (try clear hi)))
 go_ret
 exact ⟨qe, qb HB.out⟩

set_option maxHeartbeats 8000000 in
set_option maxRecDepth 100000 in
theorem impl_tie.calls (a0 : Int) (a1 : Int) (r1 : Int) (r2 : Int) (w : World) (h : impl_tie.f a0 a1 = some (r1, r2)) :
    Calls Try.prog 56 #[.int .i64 a0, .int .i64 a1] w fun e w' => e = .returned (.agg #[.int .i64 r1, .int .i64 r2]) ∧ Below w.heap.size w w' := by
 have hu32 := Try.underlying32
 have HB := q0 (Below.refl w.heap.size w)
 have H : (some (mn a0 a1, mx a0 a1)) = some (r1, r2) := h
 clear h
 obtain ⟨ji3, hji3⟩ : ∃ j_ : Int, (mn a0 a1) = j_ := ⟨_, rfl⟩
 replace H : (some (ji3, mx a0 a1)) = some (r1, r2) := by first | (rw [hji3] at H; exact H) | (simp only [hji3] at H ⊢; exact H)
 have hji3_ : (if a1 < a0 then a1 else a0) = ji3 := hji3
 obtain ⟨ji4, hji4⟩ : ∃ j_ : Int, (mx a0 a1) = j_ := ⟨_, rfl⟩
 replace H : (some (ji3, ji4)) = some (r1, r2) := by first | (rw [hji4] at H; exact H) | (simp only [hji4] at H ⊢; exact H)
 have hji4_ : (if a0 < a1 then a1 else a0) = ji4 := hji4
 simp only [Option.some.injEq, Prod.mk.injEq] at H
 obtain ⟨rfl, rfl⟩ := H
 go_enter Try.func56, Try.ntmps56
 go_wp2_with (first | ((with_reducible refine gd 4 ?_); refine be 4 #[.int .i64 0, .int .i64 0] 32 ?_; intro gb100 hg w5 hbox hb; have BK100 := q0 (hbox); have GW100 := gw HB hg; have GE100 := gw HB hg; replace HB := bp HB hb; clear hb hbox hg; obtain ⟨hcz6_0, hcz6_1, hfz6_0, hfz6_1⟩ := b2 BK100))
 refine bodyPost_ret (results_cell_row rfl _ _ gb100 32 #[.int .i64 ji3, .int .i64 ji4] (0, 0) _ rfl (by (with_reducible repeat (first | refine blk_drewN ?_ _ | refine blk_drew ?_ | refine blk_alloc ?_ _)); refine blk_put (cs := #[.int .i64 ji3, .int .i64 0]) ?_ 1 _ rfl; (with_reducible repeat (first | refine blk_drewN ?_ _ | refine blk_drew ?_ | refine blk_alloc ?_ _)); refine blk_put (cs := #[.int .i64 0, .int .i64 0]) ?_ 0 _ rfl; (with_reducible repeat (first | refine blk_drewN ?_ _ | refine blk_drew ?_ | refine blk_alloc ?_ _)); exact BK100.out) Try.underlying32 rfl (by kernel_rfl)) rfl ?_
 exact ⟨by first | rfl | (simp [errW_none, errW_some] <;> rfl) | (simp only [← hji3, ← hji4]; first | rfl | (simp [errW_none, errW_some] <;> rfl)) | (simp [*, errW_none, errW_some] <;> rfl), qb HB.out⟩

set_option maxHeartbeats 8000000 in
set_option maxRecDepth 100000 in
theorem impl_Net_has.calls (k : Nat) (a0_0 : Int) (A0_1 : Option Addr) (c0_1 : Nat) (l0_1 : List (STie)) (a1 : Int) (a2 : Int) (r : Bool) (w : World) (hr0_1 : Kd.C kTie w A0_1 l0_1.length l0_1) (hc0_1 : l0_1.length ≤ c0_1) (h : impl_Net_has.f k a0_0 l0_1 a1 a2 = some r) :
    Calls Try.prog 71 #[.agg #[.int .i64 a0_0, .slice A0_1 l0_1.length c0_1], .int .i64 a1, .int .i64 a2] w fun e w' => e = .returned (.bool r) ∧ Below w.heap.size w w' := by
 have hu25 := Try.underlying25
 have HR0_1 := q0 hr0_1
 have HC0_1 := q0 hc0_1
 clear hr0_1 hc0_1
 have HB := q0 (Below.refl w.heap.size w)
 have H : ((impl_tie.f a1 a2).bind fun bt100 => ((slices_Contains_Tie.f k l0_1 bt100.1 bt100.2).bind fun t101 => (some t101))) = some r := h
 clear h
 obtain ⟨⟨t100, t102⟩, A4, H⟩ := ob H
 obtain ⟨t101, A5, H⟩ := ob H
 obtain rfl := Option.some.inj H
 go_enter Try.func71, Try.ntmps71
 try go_wp2_with (first | ((with_reducible refine gd 3 ?_); refine be 3 #[.int .i64 a0_0, .slice A0_1 l0_1.length c0_1] 25 ?_; intro gb103 hg w6 hbox hb; have BK103 := q0 (hbox); have GW103 := gw HB hg; have GE103 := gw HB hg; replace HB := bp HB hb; clear hb hbox hg))
 replace BK103 := q0 (blk_drew BK103.out)
 replace HB := q0 (below_drew1 HB.out)
 refine start_ (n := 7) (S := fun w' => w'.cell? ⟨gb103, 0, none⟩ = some (.int .i64 a0_0) ∧ w'.cell? ⟨gb103, 1, none⟩ = some (.slice A0_1 l0_1.length c0_1)) (ds := []) (ba 7 0) (by kernel_rfl) rfl (by kernel_rfl) ⟨bca BK103, bcb BK103⟩ (fun hHeld => ?_)
 generalize w6.drew = w7 at BK103 HB hHeld ⊢
 refine pw 0 (some 7) (ba 7 1) ?_
 refine pw 2 (some 9) (ba 7 5) ?_
 refine pw 3 (some 10) (ba 7 13) ?_
 refine tw 1 (some 8) (ba 7 15) hHeld ?_
 refine one_ (i := 4) (N := some 11) (ba 7 31) rfl rfl (by kernel_rfl) (by decide) (fun K hK => ?_)
 refine goes_ Try.func56 (by kernel_rfl) rfl #[.int .i64 a1, .int .i64 a2] (by rfl) rfl rfl qm ?_
 with_reducible refine (impl_tie.calls a1 a2 t100 t102 _ A4.out).mono ?_
 rintro e w8 ⟨rfl, hb⟩
 refine ⟨_, rfl, ?_⟩
 replace BK103 := kd BK103 hb
 replace HB := bp HB hb
 (try clear hb)
 (try clear hb2)
 (try clear hk)
 (try clear hi)
 refine hK.out _ _ ⟨bca BK103, bcb BK103⟩ (fun hHeld => ?_)
 clear hK K
 refine nu 11 ?_
 refine one_ (i := 5) (N := some 12) (ba 7 63) rfl rfl (by kernel_rfl) (by decide) (fun K hK => ?_)
 refine goes_ Try.func82 (by kernel_rfl) rfl #[.slice A0_1 l0_1.length c0_1, .agg #[.int .i64 t100, .int .i64 t102]] (by rfl) rfl rfl qm ?_
 with_reducible refine (slices_Contains_Tie.calls k _ _ l0_1 t100 t102 t101 _ ?side1 ?side2 A5.out).mono ?_
 (case side1 => exact qc (Kd.C_below HR0_1.out HB.out))
 (case side2 => exact HC0_1.out)
 rintro e w9 ⟨rfl, hb⟩
 refine ⟨_, rfl, ?_⟩
 replace BK103 := kd BK103 hb
 replace HB := bp HB hb
 (try clear hb)
 (try clear hb2)
 (try clear hk)
 (try clear hi)
 refine hK.out _ _ ⟨bca BK103, bcb BK103⟩ (fun hHeld => ?_)
 clear hK K
 refine nu 12 ?_
 refine pw 6 (some 6) (ba 7 127) ?_
 refine done_ (by kernel_rfl) ?_
 try go_wp2
 go_ret
 exact ⟨qe, qb HB.out⟩

set_option maxHeartbeats 8000000 in
set_option maxRecDepth 100000 in
theorem spec_NetHas.calls (k : Nat) (a0_0 : Int) (A0_1 : Option Addr) (c0_1 : Nat) (l0_1 : List (STie)) (a1 : Int) (a2 : Int) (r : Bool) (w : World) (hr0_1 : Kd.C kTie w A0_1 l0_1.length l0_1) (hc0_1 : l0_1.length ≤ c0_1) (h : spec_NetHas.f k a0_0 l0_1 a1 a2 = some r) :
    Calls Try.prog 63 #[.agg #[.int .i64 a0_0, .slice A0_1 l0_1.length c0_1], .int .i64 a1, .int .i64 a2] w fun e w' => e = .returned (.bool r) ∧ Below w.heap.size w w' := by
 have hu25 := Try.underlying25
 have HR0_1 := q0 hr0_1
 have HC0_1 := q0 hc0_1
 clear hr0_1 hc0_1
 have HB := q0 (Below.refl w.heap.size w)
 have H : ((spec_NetOk.f k a0_0 l0_1).bind fun t100 => (if t100 = true then ((spec_l1Has.f k a0_0 l0_1 a1 a2).bind fun t101 => (some t101)) else (some false))) = some r := h
 clear h
 obtain ⟨t100, A4, H⟩ := ob H
 by_cases c5 : t100 = true
 rotate_left
 · replace c5 := Bool.eq_false_iff.mpr c5
   subst c5
   rw [if_neg nf] at H
   obtain rfl := Option.some.inj H
   go_enter Try.func63, Try.ntmps63
   go_wp2_with (first | ((with_reducible refine gd 3 ?_); refine be 3 #[.int .i64 a0_0, .slice A0_1 l0_1.length c0_1] 25 ?_; intro gb102 hg w12 hbox hb; have BK102 := q0 (hbox); have GW102 := gw HB hg; have GE102 := gw HB hg; replace HB := bp HB hb; clear hb hbox hg; obtain ⟨hcz13_0, hcz13_1, hfz13_0, hfz13_1⟩ := b2 BK102) | ((with_reducible refine gf 49 ?_); refine gl 8 Try.func49 #[.agg #[.int .i64 a0_0, .slice A0_1 l0_1.length c0_1]] ?_; (with_reducible refine (spec_NetOk.calls k a0_0 _ _ l0_1 false _ ?side1 ?side2 A4.out).mono ?_); (case side1 => exact qc (Kd.C_below HR0_1.out HB.out)); (case side2 => exact HC0_1.out); rintro e w14 ⟨rfl, hb⟩; refine ⟨_, rfl, ?_⟩; replace BK102 := kd BK102 hb; replace HB := bp HB hb; (try clear hb); (try clear hb2); (try clear hk); (try clear hi)))
   go_ret
   exact ⟨qe, qb HB.out⟩
 subst c5
 rw [if_pos rfl] at H
 obtain ⟨t101, A6, H⟩ := ob H
 obtain rfl := Option.some.inj H
 go_enter Try.func63, Try.ntmps63
 go_wp2_with (first | ((with_reducible refine gd 3 ?_); refine be 3 #[.int .i64 a0_0, .slice A0_1 l0_1.length c0_1] 25 ?_; intro gb102 hg w7 hbox hb; have BK102 := q0 (hbox); have GW102 := gw HB hg; have GE102 := gw HB hg; replace HB := bp HB hb; clear hb hbox hg; obtain ⟨hcz8_0, hcz8_1, hfz8_0, hfz8_1⟩ := b2 BK102) | ((with_reducible refine gf 49 ?_); refine gl 8 Try.func49 #[.agg #[.int .i64 a0_0, .slice A0_1 l0_1.length c0_1]] ?_; (with_reducible refine (spec_NetOk.calls k a0_0 _ _ l0_1 true _ ?side1 ?side2 A4.out).mono ?_); (case side1 => exact qc (Kd.C_below HR0_1.out HB.out)); (case side2 => exact HC0_1.out); rintro e w9 ⟨rfl, hb⟩; refine ⟨_, rfl, ?_⟩; replace BK102 := kd BK102 hb; replace HB := bp HB hb; (try clear hb); (try clear hb2); (try clear hk); (try clear hi); obtain ⟨hcz10_0, hcz10_1, hfz10_0, hfz10_1⟩ := b2 BK102) | (go_at_call 80; (with_reducible refine (spec_l1Has.calls k a0_0 _ _ l0_1 a1 a2 t101 _ ?side1 ?side2 A6.out).mono ?_); (case side1 => exact qc (Kd.C_below HR0_1.out HB.out)); (case side2 => exact HC0_1.out); rintro e w11 ⟨rfl, hb⟩; replace BK102 := kd BK102 hb; replace HB := bp HB hb; (try clear hb); (try clear hb2); (try clear hk); (try clear hi)))
 go_ret
 exact ⟨qe, qb HB.out⟩

def spec_NetAdd.T9 : Bool × List (List Nat × List Nat) := (true, [([], []), ([0], [0]), ([1], [1]), ([2], [2]), ([2], [2]), ([4, 2], [2, 4]), ([2], [2]), ([5, 6, 2], [2, 5, 6]), ([7, 2], [2, 7]), ([3, 8, 2, 2], [2, 3, 8]), ([2, 9], [2, 9])])
def spec_NetAdd.B9 : List Nat := [0, 1, 3, 7, 7, 23, 7, 119, 247, 511, 1023]
theorem spec_NetAdd.tab9 : rtab .any (opsOf Try.f27 9) = spec_NetAdd.T9 := by kernel_rfl
theorem spec_NetAdd.bits9 : waitsOk spec_NetAdd.T9.2 spec_NetAdd.B9 = true := by kernel_rfl
def spec_NetAdd.T12 : Bool × List (List Nat × List Nat) := (true, [([], []), ([0], [0]), ([], []), ([2], [2]), ([], []), ([3, 4], [3, 4]), ([5], [5]), ([6], [6]), ([1, 7], [1, 7]), ([0, 1, 2, 3, 4, 5, 6, 7, 8], []), ([9, 8, 8, 0, 1, 2, 3, 4, 5, 6, 7, 8], [8, 9])])
def spec_NetAdd.B12 : List Nat := [0, 1, 0, 4, 0, 28, 60, 124, 255, 511, 1023]
theorem spec_NetAdd.tab12 : rtab .any (opsOf Try.f27 12) = spec_NetAdd.T12 := by kernel_rfl
theorem spec_NetAdd.bits12 : waitsOk spec_NetAdd.T12.2 spec_NetAdd.B12 = true := by kernel_rfl
set_option maxHeartbeats 8000000 in
set_option maxRecDepth 100000 in
theorem spec_NetAdd.calls (k : Nat) (a0_0 : Int) (A0_1 : Option Addr) (c0_1 : Nat) (l0_1 : List (STie)) (a1 : Int) (a2 : Int) (r1 : Int) (r2 : List (STie)) (r3 : Bool) (w : World) (hr0_1 : Kd.C kTie w A0_1 l0_1.length l0_1) (hc0_1 : l0_1.length ≤ c0_1) (h : spec_NetAdd.f k a0_0 l0_1 a1 a2 = some (r1, r2, r3)) :
    Calls Try.prog 27 #[.agg #[.int .i64 a0_0, .slice A0_1 l0_1.length c0_1], .int .i64 a1, .int .i64 a2] w fun e w' => ∃ v1_ : Value, e = .returned (.tuple #[.agg #[.int .i64 r1, v1_], .bool r3]) ∧ Kd.R kTie 32 w' w.heap.size (fun _ => True) v1_ r2 ∧ Below w.heap.size w w' := by
 have hu25 := Try.underlying25
 have hu32 := Try.underlying32
 have HR0_1 := q0 hr0_1
 have HC0_1 := q0 hc0_1
 clear hr0_1 hc0_1
 have HB := q0 (Below.refl w.heap.size w)
 have H : ((spec_l1Knot.f k a0_0 l0_1 a1).bind fun t105 => (if t105 = true then ((spec_l1Knot.f k a0_0 l0_1 a2).bind fun t106 => (if t106 = true then (if a1 = a2 then (spec_NetAdd.j0 k a1 a2 true a0_0 l0_1) else ((spec_NetHas.f k a0_0 l0_1 a1 a2).bind fun t107 => (spec_NetAdd.j0 k a1 a2 t107 a0_0 l0_1))) else (spec_NetAdd.j0 k a1 a2 true a0_0 l0_1))) else (spec_NetAdd.j0 k a1 a2 true a0_0 l0_1))) = some (r1, r2, r3) := h
 clear h
 have HC4 := q0 H
 clear H
 go_enter Try.func27, Try.ntmps27
 go_upto_region 1 with (first | ((with_reducible refine gd 3 ?_); refine be 3 #[.int .i64 a0_0, .slice A0_1 l0_1.length c0_1] 25 ?_; intro gb108 hg w5 hbox hb; have BK108 := q0 (hbox); have GW108 := gw HB hg; have GE108 := gw HB hg; replace HB := bp HB hb; clear hb hbox hg) | ((with_reducible refine gd 6 ?_); refine be 6 #[.int .i64 0, .slice none 0 0] 25 ?_; intro gb100 hg w6 hbox hb; have BK100 := q0 (hbox); have GW100 := gw HB hg; have GE100 := gw HB hg; replace HB := bp HB hb; have NB108_100 := nl BK108 hg; have NB100_108 := ng BK108 hg; replace BK108 := kd BK108 hb; clear hb hbox hg))
 (try simp only [Act.put, List.setIfInBounds_toArray, List.set_cons_zero, List.set_cons_succ])
 go_cut [32] (fun v32 wc => ∃ (kq : Nat) (x32_3 : Bool), v32 = .bool x32_3 ∧ Aside0 (spec_NetAdd.j0 kq a1 a2 x32_3 a0_0 l0_1 = some (r1, r2, r3)) ∧ Aside0 (kq ≤ k) ∧ Aside0 (wc.heap[gb108]? = some (.cells #[.int .i64 a0_0, (.slice A0_1 l0_1.length c0_1)] 25 (0, 0))) ∧ Aside0 (wc.heap[gb100]? = some (.cells #[.int .i64 0, (.slice none 0 0)] 25 (0, 0))) ∧ Aside0 (Below w.heap.size w wc))
 case first =>
   have H := HC4.out
   clear HC4
   obtain ⟨t105, A7, H⟩ := ob H
   by_cases c8 : t105 = true
   rotate_left
   · replace c8 := Bool.eq_false_iff.mpr c8
     subst c8
     rw [if_neg nf] at H
     have H' := q0 H
     clear H
     have hnb30 := NB108_100.out
     have hnc30 := NB100_108.out
     obtain ⟨hcz31_0, hcz31_1, hfz31_0, hfz31_1⟩ := b2 BK108
     go_wp2_with (first | ((with_reducible refine gf 67 ?_); refine gl 14 Try.func67 #[.agg #[.int .i64 a0_0, .slice A0_1 l0_1.length c0_1], .int .i64 a1] ?_; (with_reducible refine (spec_l1Knot.calls k a0_0 _ _ l0_1 a1 false _ ?side1 ?side2 A7.out).mono ?_); (case side1 => exact qc (Kd.C_below HR0_1.out HB.out)); (case side2 => exact HC0_1.out); rintro e w32 ⟨rfl, hb⟩; refine ⟨_, rfl, ?_⟩; replace BK108 := kd BK108 hb; replace BK100 := kd BK100 hb; replace HB := bp HB hb; (try clear hb); (try clear hb2); (try clear hk); (try clear hi)))
     go_meet
     case rel => exact ⟨_, (true), qs, H', ⟨by first | omega | exact Nat.le_refl _⟩, ⟨qk BK108.out⟩, ⟨qk BK100.out⟩, ⟨qb HB.out⟩⟩
   subst c8
   rw [if_pos rfl] at H
   obtain ⟨t106, A9, H⟩ := ob H
   by_cases c10 : t106 = true
   rotate_left
   · replace c10 := Bool.eq_false_iff.mpr c10
     subst c10
     rw [if_neg nf] at H
     have H' := q0 H
     clear H
     have hnb25 := NB108_100.out
     have hnc25 := NB100_108.out
     obtain ⟨hcz26_0, hcz26_1, hfz26_0, hfz26_1⟩ := b2 BK108
     go_wp2_with (first | ((with_reducible refine gf 67 ?_); refine gl 14 Try.func67 #[.agg #[.int .i64 a0_0, .slice A0_1 l0_1.length c0_1], .int .i64 a1] ?_; (with_reducible refine (spec_l1Knot.calls k a0_0 _ _ l0_1 a1 true _ ?side1 ?side2 A7.out).mono ?_); (case side1 => exact qc (Kd.C_below HR0_1.out HB.out)); (case side2 => exact HC0_1.out); rintro e w27 ⟨rfl, hb⟩; refine ⟨_, rfl, ?_⟩; replace BK108 := kd BK108 hb; replace BK100 := kd BK100 hb; replace HB := bp HB hb; (try clear hb); (try clear hb2); (try clear hk); (try clear hi); obtain ⟨hcz28_0, hcz28_1, hfz28_0, hfz28_1⟩ := b2 BK108) | (go_at_call 67; (with_reducible refine (spec_l1Knot.calls k a0_0 _ _ l0_1 a2 false _ ?side1 ?side2 A9.out).mono ?_); (case side1 => exact qc (Kd.C_below HR0_1.out HB.out)); (case side2 => exact HC0_1.out); rintro e w29 ⟨rfl, hb⟩; replace BK108 := kd BK108 hb; replace BK100 := kd BK100 hb; replace HB := bp HB hb; (try clear hb); (try clear hb2); (try clear hk); (try clear hi)))
     go_meet
     case rel => exact ⟨_, (true), qs, H', ⟨by first | omega | exact Nat.le_refl _⟩, ⟨qk BK108.out⟩, ⟨qk BK100.out⟩, ⟨qb HB.out⟩⟩
   subst c10
   rw [if_pos rfl] at H
   by_cases c11 : a1 = a2
   · rw [if_pos c11] at H
     have c11b0 : (a1 == a2) = true := beq_iff_eq.mpr c11
     have c11b1 : (a1 != a2) = false := bne_eq_false_iff_eq.mpr c11
     clear c11
     (first | rw [c11b0] | (simp only [i64_w, i32_w]; rw [c11b0]) | skip)
     have H' := q0 H
     clear H
     have hnb12 := NB108_100.out
     have hnc12 := NB100_108.out
     obtain ⟨hcz13_0, hcz13_1, hfz13_0, hfz13_1⟩ := b2 BK108
     go_wp2_with (first | ((with_reducible refine gf 67 ?_); refine gl 14 Try.func67 #[.agg #[.int .i64 a0_0, .slice A0_1 l0_1.length c0_1], .int .i64 a1] ?_; (with_reducible refine (spec_l1Knot.calls k a0_0 _ _ l0_1 a1 true _ ?side1 ?side2 A7.out).mono ?_); (case side1 => exact qc (Kd.C_below HR0_1.out HB.out)); (case side2 => exact HC0_1.out); rintro e w14 ⟨rfl, hb⟩; refine ⟨_, rfl, ?_⟩; replace BK108 := kd BK108 hb; replace BK100 := kd BK100 hb; replace HB := bp HB hb; (try clear hb); (try clear hb2); (try clear hk); (try clear hi); obtain ⟨hcz15_0, hcz15_1, hfz15_0, hfz15_1⟩ := b2 BK108) | (go_at_call 67; (with_reducible refine (spec_l1Knot.calls k a0_0 _ _ l0_1 a2 true _ ?side1 ?side2 A9.out).mono ?_); (case side1 => exact qc (Kd.C_below HR0_1.out HB.out)); (case side2 => exact HC0_1.out); rintro e w16 ⟨rfl, hb⟩; replace BK108 := kd BK108 hb; replace BK100 := kd BK100 hb; replace HB := bp HB hb; (try clear hb); (try clear hb2); (try clear hk); (try clear hi)))
     go_meet
     case rel => exact ⟨_, (true), qs, H', ⟨by first | omega | exact Nat.le_refl _⟩, ⟨qk BK108.out⟩, ⟨qk BK100.out⟩, ⟨qb HB.out⟩⟩
   rw [if_neg c11] at H
   have c11b0 : (a1 == a2) = false := beq_eq_false_iff_ne.mpr c11
   have c11b1 : (a1 != a2) = true := bne_iff_ne.mpr c11
   (first | rw [c11b0] | (simp only [i64_w, i32_w]; rw [c11b0]) | skip)
   obtain ⟨t107, A17, H⟩ := ob H
   have H' := q0 H
   clear H
   have hnb18 := NB108_100.out
   have hnc18 := NB100_108.out
   obtain ⟨hcz19_0, hcz19_1, hfz19_0, hfz19_1⟩ := b2 BK108
   go_wp2_with (first | ((with_reducible refine gf 67 ?_); refine gl 14 Try.func67 #[.agg #[.int .i64 a0_0, .slice A0_1 l0_1.length c0_1], .int .i64 a1] ?_; (with_reducible refine (spec_l1Knot.calls k a0_0 _ _ l0_1 a1 true _ ?side1 ?side2 A7.out).mono ?_); (case side1 => exact qc (Kd.C_below HR0_1.out HB.out)); (case side2 => exact HC0_1.out); rintro e w20 ⟨rfl, hb⟩; refine ⟨_, rfl, ?_⟩; replace BK108 := kd BK108 hb; replace BK100 := kd BK100 hb; replace HB := bp HB hb; (try clear hb); (try clear hb2); (try clear hk); (try clear hi); obtain ⟨hcz21_0, hcz21_1, hfz21_0, hfz21_1⟩ := b2 BK108) | (go_at_call 67; (with_reducible refine (spec_l1Knot.calls k a0_0 _ _ l0_1 a2 true _ ?side1 ?side2 A9.out).mono ?_); (case side1 => exact qc (Kd.C_below HR0_1.out HB.out)); (case side2 => exact HC0_1.out); rintro e w22 ⟨rfl, hb⟩; replace BK108 := kd BK108 hb; replace BK100 := kd BK100 hb; replace HB := bp HB hb; (try clear hb); (try clear hb2); (try clear hk); (try clear hi); obtain ⟨hcz23_0, hcz23_1, hfz23_0, hfz23_1⟩ := b2 BK108) | (go_at_call 63; (with_reducible refine (spec_NetHas.calls k a0_0 _ _ l0_1 a1 a2 t107 _ ?side1 ?side2 A17.out).mono ?_); (case side1 => exact qc (Kd.C_below HR0_1.out HB.out)); (case side2 => exact HC0_1.out); rintro e w24 ⟨rfl, hb⟩; replace BK108 := kd BK108 hb; replace BK100 := kd BK100 hb; replace HB := bp HB hb; (try clear hb); (try clear hb2); (try clear hk); (try clear hi)))
   go_meet
   case rel => exact ⟨_, (t107), qs, H', ⟨by first | omega | exact Nat.le_refl _⟩, ⟨qk BK108.out⟩, ⟨qk BK100.out⟩, ⟨qb HB.out⟩⟩
 clear HC4
 try clear c1
 try clear c2
 try clear p2
 try clear c3
 try clear c6
 try clear c8
 try clear c10
 try clear c11
 try clear c11b0
 try clear c11b1
 try clear c12
 try clear c18
 try clear c25
 try clear c27
 try clear c30
 try clear hcz13_0
 try clear hcz13_1
 try clear hcz15_0
 try clear hcz15_1
 try clear hcz19_0
 try clear hcz19_1
 try clear hcz21_0
 try clear hcz21_1
 try clear hcz23_0
 try clear hcz23_1
 try clear hcz26_0
 try clear hcz26_1
 try clear hcz28_0
 try clear hcz28_1
 try clear hcz31_0
 try clear hcz31_1
 try clear hfz13_0
 try clear hfz13_1
 try clear hfz15_0
 try clear hfz15_1
 try clear hfz19_0
 try clear hfz19_1
 try clear hfz21_0
 try clear hfz21_1
 try clear hfz23_0
 try clear hfz23_1
 try clear hfz26_0
 try clear hfz26_1
 try clear hfz28_0
 try clear hfz28_1
 try clear hfz31_0
 try clear hfz31_1
 obtain ⟨kq, x32_3, rfl, HA, HJ3, BK108, BK100, HB⟩ := hcut
 rcases kq with _ | kj3
 · exact absurd HA.out (by simp [spec_NetAdd.j0])
 have H := HA.out
 clear HA
 simp only [spec_NetAdd.j0] at H
 by_cases c33 : x32_3 = true
 · subst c33
   rw [if_pos rfl] at H
   simp only [Option.some.injEq, Prod.mk.injEq] at H
   obtain ⟨rfl, rfl, rfl⟩ := H
   have hnb34 := NB100_108.out
   have hnc34 := NB108_100.out
   obtain ⟨hcz35_0, hcz35_1, hfz35_0, hfz35_1⟩ := b2 BK100
   go_wp2
   refine bodyPost_ret (results_ct rfl _ _ gb100 25 #[.int .i64 0, .slice none 0 0] (0, 0) _ rfl (by (with_reducible repeat (first | refine blk_drewN ?_ _ | refine blk_drew ?_ | refine blk_alloc ?_ _)); refine blk_put (cs := #[.int .i64 0, .slice none 0 0]) ?_ 1 _ rfl; (with_reducible repeat (first | refine blk_drewN ?_ _ | refine blk_drew ?_ | refine blk_alloc ?_ _)); refine blk_put (cs := #[.int .i64 0, .slice none 0 0]) ?_ 0 _ rfl; (with_reducible repeat (first | refine blk_drewN ?_ _ | refine blk_drew ?_ | refine blk_alloc ?_ _)); exact BK100.out) Try.underlying25 rfl (by kernel_rfl)) rfl ?_
   exact ⟨_, qe, by first | exact Kd.R_nil _ _ _ _ _ | exact Kd.N_nil _ _ _ _ _ | exact Kd.V_nil _ _ _ _ _ | exact Kd.Q_nil _ _ _ _ _ | exact Kd.S_nil _ _ _ _ _, qb HB.out⟩
 replace c33 := Bool.eq_false_iff.mpr c33
 subst c33
 rw [if_neg nf] at H
 obtain ⟨⟨t101, t110⟩, A36, H⟩ := ob H
 have H' := q0 H
 clear H
 have hnb37 := NB108_100.out
 have hnc37 := NB100_108.out
 obtain ⟨hcz38_0, hcz38_1, hfz38_0, hfz38_1⟩ := b2 BK108
 go_wp2_with (first | ((with_reducible refine gd 8 ?_); refine be 8 #[.int .i64 0, .slice none 0 0] 25 ?_; intro gb112 hg w39 hbox hb; have BK112 := q0 (hbox); have GW112 := gw HB hg; have GE112 := gw HB hg; replace HB := bp HB hb; have NB108_112 := nl BK108 hg; have NB112_108 := ng BK108 hg; replace BK108 := kd BK108 hb; have NB100_112 := nl BK100 hg; have NB112_100 := ng BK100 hg; replace BK100 := kd BK100 hb; clear hb hbox hg; have hnb40 := NB112_108.out; have hnc40 := NB108_112.out; have hnb41 := NB112_100.out; have hnc41 := NB100_112.out; obtain ⟨hcz42_0, hcz42_1, hfz42_0, hfz42_1⟩ := b2 BK112) | ((with_reducible refine gf 68 ?_); refine gl 39 Try.func68 #[.int .i64 a1, .int .i64 a2] ?_; (with_reducible refine (spec_l1Tie.calls a1 a2 t101 t110 _ A36.out).mono ?_); rintro e w43 ⟨rfl, hb⟩; refine ⟨_, rfl, ?_⟩; replace BK108 := q0 (kf BK108.out hb); replace BK100 := q0 (kf BK100.out hb); replace BK112 := q0 (blk_below (g := gb112) (o := .cells #[.int .i64 a0_0, .slice none 0 0] 25 (0, 0)) (by (with_reducible repeat (first | refine blk_drewN ?_ _ | refine blk_drew ?_ | refine blk_alloc ?_ _)); refine blk_put (cs := #[.int .i64 a0_0, .slice none 0 0]) ?_ 1 _ rfl; (with_reducible repeat (first | refine blk_drewN ?_ _ | refine blk_drew ?_ | refine blk_alloc ?_ _)); refine blk_put (cs := #[.int .i64 0, .slice none 0 0]) ?_ 0 _ rfl; (with_reducible repeat (first | refine blk_drewN ?_ _ | refine blk_drew ?_ | refine blk_alloc ?_ _)); exact BK112.out) hb); replace HB := bp HB hb; (try clear hb); (try clear hb2); (try clear hk); (try clear hi)) | ((with_reducible refine gd 9 ?_); refine be 9 #[.int .i64 0, .int .i64 0] 32 ?_; intro gb113 hg w44 hbox hb; have BK113 := q0 (hbox); have GW113 := gw HB hg; have GE113 := gw HB hg; replace HB := bp HB hb; have NB108_113 := nl BK108 hg; have NB113_108 := ng BK108 hg; replace BK108 := kd BK108 hb; have NB100_113 := nl BK100 hg; have NB113_100 := ng BK100 hg; replace BK100 := kd BK100 hb; have NB112_113 := nl BK112 hg; have NB113_112 := ng BK112 hg; replace BK112 := kd BK112 hb; clear hb hbox hg; have hnb45 := NB113_108.out; have hnc45 := NB108_113.out; have hnb46 := NB113_100.out; have hnc46 := NB100_113.out; have hnb47 := NB113_112.out; have hnc47 := NB112_113.out; obtain ⟨hcz48_0, hcz48_1, hfz48_0, hfz48_1⟩ := b2 BK113))
 go_loopg [10, 11] kj3 (fun kq v10 v11 w' => ∃ (x10_2 : Bool) (x11_2 : Int) (x101001_2 : List (STie)) (u101001 : Value), v10 = .bool x10_2 ∧ v11 = .int .i64 x11_2 ∧ Aside0 (spec_NetAdd.l0 kq x10_2 x11_2 a0_0 l0_1 a0_0 x101001_2 t101 t110 = some (r1, r2, r3)) ∧ Aside0 (kq ≤ kj3) ∧ Aside0 (Kd.R kTie 32 w' w.heap.size (fun k_ => k_ ≠ gb113) u101001 x101001_2) ∧ Aside0 (w'.heap[gb108]? = some (.cells #[.int .i64 a0_0, (.slice A0_1 l0_1.length c0_1)] 25 (0, 0))) ∧ Aside0 (w'.heap[gb100]? = some (.cells #[.int .i64 0, (.slice none 0 0)] 25 (0, 0))) ∧ Aside0 (w'.heap[gb112]? = some (.cells #[.int .i64 a0_0, u101001] 25 (0, 0))) ∧ Aside0 (w'.heap[gb113]? = some (.cells #[.int .i64 t101, .int .i64 t110] 32 (0, 0))) ∧ Aside0 (Below w.heap.size w w'))
 case atStart => exact ⟨(false), (0), (([] : List (STie))), (.slice none 0 0), qs, qs, H', ⟨Nat.le_refl _⟩, ⟨by first | exact Kd.R_nil _ _ _ _ _ | exact Kd.N_nil _ _ _ _ _ | exact Kd.V_nil _ _ _ _ _ | exact Kd.Q_nil _ _ _ _ _ | exact Kd.S_nil _ _ _ _ _⟩, ⟨qf BK108.out⟩, ⟨qf BK100.out⟩, ⟨qf BK112.out⟩, ⟨by (with_reducible repeat (first | refine blk_drewN ?_ _ | refine blk_drew ?_ | refine blk_alloc ?_ _)); refine blk_put (cs := #[.int .i64 t101, .int .i64 0]) ?_ 1 _ rfl; (with_reducible repeat (first | refine blk_drewN ?_ _ | refine blk_drew ?_ | refine blk_alloc ?_ _)); refine blk_put (cs := #[.int .i64 0, .int .i64 0]) ?_ 0 _ rfl; (with_reducible repeat (first | refine blk_drewN ?_ _ | refine blk_drew ?_ | refine blk_alloc ?_ _)); exact BK113.out⟩, ⟨qb HB.out⟩⟩
 clear H'
 try clear c1
 try clear c2
 try clear p2
 try clear c3
 try clear c4
 try clear c6
 try clear c8
 try clear c10
 try clear c11
 try clear c11b0
 try clear c11b1
 try clear c12
 try clear c18
 try clear c25
 try clear c27
 try clear c30
 try clear c33
 try clear c34
 try clear c37
 try clear c40
 try clear c41
 try clear c45
 try clear c46
 try clear c47
 try clear hcz13_0
 try clear hcz13_1
 try clear hcz15_0
 try clear hcz15_1
 try clear hcz19_0
 try clear hcz19_1
 try clear hcz21_0
 try clear hcz21_1
 try clear hcz23_0
 try clear hcz23_1
 try clear hcz26_0
 try clear hcz26_1
 try clear hcz28_0
 try clear hcz28_1
 try clear hcz31_0
 try clear hcz31_1
 try clear hcz35_0
 try clear hcz35_1
 try clear hcz38_0
 try clear hcz38_1
 try clear hcz42_0
 try clear hcz42_1
 try clear hcz48_0
 try clear hcz48_1
 try clear hfz13_0
 try clear hfz13_1
 try clear hfz15_0
 try clear hfz15_1
 try clear hfz19_0
 try clear hfz19_1
 try clear hfz21_0
 try clear hfz21_1
 try clear hfz23_0
 try clear hfz23_1
 try clear hfz26_0
 try clear hfz26_1
 try clear hfz28_0
 try clear hfz28_1
 try clear hfz31_0
 try clear hfz31_1
 try clear hfz35_0
 try clear hfz35_1
 try clear hfz38_0
 try clear hfz38_1
 try clear hfz42_0
 try clear hfz42_1
 try clear hfz48_0
 try clear hfz48_1
 try clear p2
 obtain ⟨x10_2, x11_2, x101001_2, u101001, rfl, rfl, HA, HK2, HO_101001, BK108, BK100, BK112, BK113, HB⟩ := hrel
 rcases gk with _ | k2
 · exact absurd HA.out (by simp [spec_NetAdd.l0])
 have H := HA.out
 clear HA
 simp only [spec_NetAdd.l0] at H
 by_cases c49 : x11_2 < (l0_1.length : Int)
 rotate_left
 · rw [if_neg c49] at H
   have c49b0 := decide_eq_false c49
   clear c49
   by_cases c97 : x10_2 = true
   · subst c97
     rw [if_pos rfl] at H
     simp only [Option.some.injEq, Prod.mk.injEq] at H
     obtain ⟨rfl, rfl, rfl⟩ := H
     have hnb98 := NB108_100.out
     have hnc98 := NB100_108.out
     have hnb99 := NB108_112.out
     have hnc99 := NB112_108.out
     have hnb129 := NB108_113.out
     have hnc129 := NB113_108.out
     obtain ⟨hcz130_0, hcz130_1, hfz130_0, hfz130_1⟩ := b2 BK108
     have hnb131 := NB112_100.out
     have hnc131 := NB100_112.out
     have hnb132 := NB112_113.out
     have hnc132 := NB113_112.out
     obtain ⟨hcz133_0, hcz133_1, hfz133_0, hfz133_1⟩ := b2 BK112
     have hnb134 := NB100_113.out
     have hnc134 := NB113_100.out
     obtain ⟨hcz135_0, hcz135_1, hfz135_0, hfz135_1⟩ := b2 BK100
     obtain ⟨Ao136, co136, eo136⟩ := Kd.R_slice HO_101001.out
     subst eo136
     go_wp2
     refine bodyPost_ret (results_ct rfl _ _ gb100 25 #[.int .i64 a0_0, .slice Ao136 x101001_2.length co136] (0, 0) _ rfl (by (with_reducible repeat (first | refine blk_drewN ?_ _ | refine blk_drew ?_ | refine blk_alloc ?_ _)); refine blk_put (cs := #[.int .i64 a0_0, .slice none 0 0]) ?_ 1 _ rfl; (with_reducible repeat (first | refine blk_drewN ?_ _ | refine blk_drew ?_ | refine blk_alloc ?_ _)); refine blk_put (cs := #[.int .i64 0, .slice none 0 0]) ?_ 0 _ rfl; (with_reducible repeat (first | refine blk_drewN ?_ _ | refine blk_drew ?_ | refine blk_alloc ?_ _)); exact BK100.out) Try.underlying25 rfl (by kernel_rfl)) rfl ?_
     exact ⟨_, qe, by (with_reducible repeat (first | apply Kd.R_alloc | apply Kd.R_drewN | apply Kd.R_drew)); exact rf2 HO_101001.out BK100.out (fun _ hk => trivial), qb HB.out⟩
   replace c97 := Bool.eq_false_iff.mpr c97
   subst c97
   rw [if_neg nf] at H
   obtain ⟨c137, H⟩ : (x101001_2.length < 8796093022208) ∧ _ := og H
   have LMc137 := q0 c137
   clear c137
   obtain ⟨y138, hy138⟩ : ∃ y_ : List (STie), y_ = (x101001_2 ++ [(⟨t101, t110⟩ : STie)]) := ⟨_, rfl⟩
   replace H : (some (a0_0, y138, true)) = some (r1, r2, r3) := qy H hy138
   have Ny138 := q0 hy138
   clear hy138
   simp only [Option.some.injEq, Prod.mk.injEq] at H
   obtain ⟨rfl, rfl, rfl⟩ := H
   have hnb139 := NB108_100.out
   have hnc139 := NB100_108.out
   have hnb140 := NB108_112.out
   have hnc140 := NB112_108.out
   have hnb141 := NB108_113.out
   have hnc141 := NB113_108.out
   obtain ⟨hcz142_0, hcz142_1, hfz142_0, hfz142_1⟩ := b2 BK108
   have hnb143 := NB112_100.out
   have hnc143 := NB100_112.out
   have hnb144 := NB112_113.out
   have hnc144 := NB113_112.out
   obtain ⟨hcz145_0, hcz145_1, hfz145_0, hfz145_1⟩ := b2 BK112
   have hnb146 := NB113_100.out
   have hnc146 := NB100_113.out
   obtain ⟨hcz147_0, hcz147_1, hfz147_0, hfz147_1⟩ := b2 BK113
   go_wp2_with (first | ((with_reducible refine gate_builtin (b := .append) (xs := #[.tmp 77, .tmp 79]) rfl ?_); at_builtin; refine Kd.R_append kTie (w0 := w) w.heap.size rfl (.tmp 77) (.tmp 79) 23 32 (.agg #[(.int .i64 0), (.int .i64 0)]) 16 rfl Try.underlying23 info32 rfl (by decide) (by omega) u101001 x101001_2 (⟨t101, t110⟩ : STie) [.int .i64 t101, .int .i64 t110] (fun k_ => k_ ≠ gb113) (fun _ => False) rfl rfl ?aP (fun _ hk => hk.elim) ?aF ?aO ?aB ?aS ?aL ?_; (case aP => exact kTie_mkM _ _ _ (⟨t101, t110⟩ : STie)); (case aB => exact (qb HB.out)); (case aF => exact (fun k_ hk => Kd.freshB (g := gb113) (o := .cells #[.int .i64 t101, .int .i64 t110] 32 (0, 0)) (qk BK113.out) k_ hk)); (case aO => exact (qr HO_101001.out)); (case aS => exact (below_size (qb HB.out))); (case aL => have := LMc137.out; omega); intro v148 w149 ho hb hg hat; rw [← Ny138.out] at ho; replace BK108 := q0 (blk_grown (g := gb108) (o := .cells #[.int .i64 a0_0, .slice A0_1 l0_1.length c0_1] 25 (0, 0)) (qk BK108.out) hg (Kd.R_ne HO_101001.out BK108.out (by decide))); replace BK100 := q0 (blk_grown (g := gb100) (o := .cells #[.int .i64 0, .slice none 0 0] 25 (0, 0)) (qk BK100.out) hg (Kd.R_ne HO_101001.out BK100.out (by decide))); replace BK112 := q0 (blk_grown (g := gb112) (o := .cells #[.int .i64 a0_0, u101001] 25 (0, 0)) (qk BK112.out) hg (Kd.R_ne HO_101001.out BK112.out (by decide))); replace BK113 := q0 (blk_grown (g := gb113) (o := .cells #[.int .i64 t101, .int .i64 t110] 32 (0, 0)) (qk BK113.out) hg (Kd.R_away HO_101001.out (fun _ hk => hk))); replace HB := q0 (hb); have HO150 := q0 (ho); clear HO_101001; clear ho hb hg hat; obtain ⟨Ao151, co151, eo151⟩ := Kd.R_slice HO150.out; subst eo151; obtain ⟨hcz152_0, hcz152_1, hfz152_0, hfz152_1⟩ := b2 BK112; obtain ⟨hcz153_0, hcz153_1, hfz153_0, hfz153_1⟩ := b2 BK100))
   refine bodyPost_ret (results_ct rfl _ _ gb100 25 #[.int .i64 a0_0, .slice Ao151 y138.length co151] (0, 0) _ rfl (by (with_reducible repeat (first | refine blk_drewN ?_ _ | refine blk_drew ?_ | refine blk_alloc ?_ _)); refine blk_put (cs := #[.int .i64 a0_0, .slice none 0 0]) ?_ 1 _ rfl; (with_reducible repeat (first | refine blk_drewN ?_ _ | refine blk_drew ?_ | refine blk_alloc ?_ _)); refine blk_put (cs := #[.int .i64 0, .slice none 0 0]) ?_ 0 _ rfl; (with_reducible repeat (first | refine blk_drewN ?_ _ | refine blk_drew ?_ | refine blk_alloc ?_ _)); refine blk_far ?_ NB100_112.out _; (with_reducible repeat (first | refine blk_drewN ?_ _ | refine blk_drew ?_ | refine blk_alloc ?_ _)); exact BK100.out) Try.underlying25 rfl (by kernel_rfl)) rfl ?_
   exact ⟨_, qe, by (with_reducible repeat (first | apply Kd.R_alloc | apply Kd.R_drewN | apply Kd.R_drew)); exact Kd.R_mono (Kd.R_far (p := ⟨gb100, 1, none⟩) (Kd.R_far (p := ⟨gb100, 0, none⟩) (Kd.R_far (p := ⟨gb112, 1, none⟩) (Kd.R_types (Kd.R_types HO150.out BK112.out (by decide)) BK100.out (by decide)) (fun _ hk => hk.1.2) (.slice Ao151 y138.length co151)) (fun _ hk => hk.2) (.int .i64 a0_0)) (fun _ hk => hk.2) (.slice Ao151 y138.length co151)) (fun _ hk => trivial), qb HB.out⟩
 rw [if_pos c49] at H
 have c49b0 := decide_eq_true c49
 clear c49
 by_cases c50 : x10_2 = true
 · subst c50
   rw [if_pos rfl] at H
   obtain ⟨c51, H⟩ : (0 ≤ x11_2) ∧ _ := og H
   have c51b0 := decide_eq_true c51
   clear c51
   obtain ⟨c52, H⟩ : (x101001_2.length < 8796093022208) ∧ _ := og H
   have LMc52 := q0 c52
   clear c52
   obtain ⟨y114, hy114⟩ : ∃ y_ : List (STie), y_ = (x101001_2 ++ [(⟨(rd_TTie l0_1 x11_2).f0, (rd_TTie l0_1 x11_2).f1⟩ : STie)]) := ⟨_, rfl⟩
   replace H : (spec_NetAdd.l0 k2 true (wrap64 (x11_2 + 1)) a0_0 l0_1 a0_0 y114 t101 t110) = some (r1, r2, r3) := qy H hy114
   have Ny114 := q0 hy114
   clear hy114
   have H' := q0 H
   clear H
   have hnb53 := NB108_100.out
   have hnc53 := NB100_108.out
   have hnb54 := NB108_112.out
   have hnc54 := NB112_108.out
   have hnb55 := NB108_113.out
   have hnc55 := NB113_108.out
   obtain ⟨hcz56_0, hcz56_1, hfz56_0, hfz56_1⟩ := b2 BK108
   try go_wp2
   replace HO_101001 := q0 (Kd.R_drew HO_101001.out)
   replace BK108 := q0 (blk_drew BK108.out)
   replace BK100 := q0 (blk_drew BK100.out)
   replace BK112 := q0 (blk_drew BK112.out)
   replace BK113 := q0 (blk_drew BK113.out)
   replace HB := q0 (below_drew1 HB.out)
   refine start_ (n := 11) (S := fun w' => True) (ds := []) (ba 11 0) (by kernel_rfl) rfl (by kernel_rfl) trivial (fun hHeld => ?_); refine with_tabW spec_NetAdd.tab9 spec_NetAdd.bits9 (fun HT_ HW_ => ?_)
   generalize wr.drew = w57 at HO_101001 BK108 BK100 BK112 BK113 HB hHeld ⊢
   refine pU 0 47 11 1 HT_ ?_
   refine pU 1 48 11 3 HT_ ?_
   refine pU 2 49 11 7 HT_ ?_
   refine pV 3 50 11 15 HT_ ?_
   refine pV 4 51 11 31 HT_ ?_
   refine pV 5 52 11 63 HT_ ?_
   refine pV 6 53 11 127 HT_ ?_
   refine pV 7 54 11 255 HT_ ?_
   refine pV 8 55 11 511 HT_ ?_
   refine pV 9 56 11 1023 HT_ ?_
   refine pU 10 57 11 2047 HT_ ?_
   refine done_ (done_of HT_.out (by kernel_rfl)) ?_
   try go_wp2
   replace HO_101001 := q0 (Kd.R_drew HO_101001.out)
   replace BK108 := q0 (blk_drew BK108.out)
   replace BK100 := q0 (blk_drew BK100.out)
   replace BK112 := q0 (blk_drew BK112.out)
   replace BK113 := q0 (blk_drew BK113.out)
   replace HB := q0 (below_drew1 HB.out)
   have p102 : 0 ≤ (x11_2 : Int) := of_decide_eq_true qa
   have q102 : x11_2 < (l0_1.length : Int) := of_decide_eq_true qa
   obtain ⟨ad102, e102, hx102_0, hx102_1⟩ := at_TTie HR0_1.out x11_2 p102 q102
   have hw102_1 := hx102_1
   have hw102_0 := hx102_0
   cases e102
   replace hx102_0 := hcl HB.out hx102_0
   replace hx102_1 := hcl HB.out hx102_1
   replace p102 := eq_true p102
   replace q102 := eq_true q102
   refine start_ (n := 11) (S := fun w' => w'.cell? ⟨gb112, 0, none⟩ = some (.int .i64 a0_0) ∧ w'.cell? ⟨gb112, 1, none⟩ = some (u101001) ∧ w'.cell? ⟨gb108, 0, none⟩ = some (.int .i64 a0_0) ∧ w'.cell? ⟨gb108, 1, none⟩ = some (.slice (some ad102) l0_1.length c0_1) ∧ w'.cell? (ad102.add ((x11_2).toNat * 2)) = some (.int .i64 ((rd_TTie l0_1 x11_2).f0)) ∧ w'.cell? ⟨(ad102.add ((x11_2).toNat * 2)).block, (ad102.add ((x11_2).toNat * 2)).off + 1, none⟩ = some (.int .i64 ((rd_TTie l0_1 x11_2).f1))) (ds := [10]) (ba 11 0) (by kernel_rfl) rfl (by kernel_rfl) ⟨bca BK112, bcb BK112, bca BK108, bcb BK108, ((HB.out.cell (World.block_lt_of_cell? w _ hw102_0)).trans hw102_0), ((HB.out.cell (World.block_lt_of_cell? w _ hw102_1)).trans hw102_1)⟩ (fun hHeld => ?_); refine with_tabW spec_NetAdd.tab12 spec_NetAdd.bits12 (fun HT_ HW_ => ?_)
   generalize w57.drew = w58 at HO_101001 BK108 BK100 BK112 BK113 HB hx102_0 hx102_1 hHeld ⊢
   refine pU 0 64 11 1 HT_ ?_
   refine pU 2 66 11 5 HT_ ?_
   refine pU 4 68 11 21 HT_ ?_
   refine tU 1 65 11 23 HT_ HW_ hHeld ?_
   refine tU 3 67 11 31 HT_ HW_ hHeld ?_
   refine pU 5 69 11 63 HT_ ?_
   refine tU 6 70 11 127 HT_ HW_ hHeld ?_
   refine one_ (i := 7) (N := some 71) (ba 11 255) rfl rfl (one_of HT_.out (by kernel_rfl)) (by decide) (fun K hK => ?_)
   refine value_ (w1 := ?_) (v := ?_) (by rfl) rfl ?_ ?_
   rotate_left 2
   · go_simp
     constructor
     · rfl
     · rfl
   refine hK.out _ _ ⟨(blk_cell (blk_alloc BK112.out _) 0).trans rfl, (blk_cell (blk_alloc BK112.out _) 1).trans rfl, (blk_cell (blk_alloc BK108.out _) 0).trans rfl, (blk_cell (blk_alloc BK108.out _) 1).trans rfl, (World.cell?_alloc_lt _ _ _ (World.block_lt_of_cell? _ _ (((HB.out.cell (World.block_lt_of_cell? w _ hw102_0)).trans hw102_0)))).trans (((HB.out.cell (World.block_lt_of_cell? w _ hw102_0)).trans hw102_0)), (World.cell?_alloc_lt _ _ _ (World.block_lt_of_cell? _ _ (((HB.out.cell (World.block_lt_of_cell? w _ hw102_1)).trans hw102_1)))).trans (((HB.out.cell (World.block_lt_of_cell? w _ hw102_1)).trans hw102_1))⟩ (fun hHeld => ?_)
   clear hK K
   refine nu 71 ?_
   refine one_ (i := 8) (N := some 72) (ba 11 511) rfl rfl (one_of HT_.out (by kernel_rfl)) (by decide) (fun K hK => ?_)
   refine Kd.R_append_step kTie (w0 := w) w.heap.size (by rfl) (.tmp 65) (.tmp 71) 23 32 (.agg #[(.int .i64 0), (.int .i64 0)]) 16 rfl Try.underlying23 info32 rfl (by decide) (by omega) u101001 x101001_2 (⟨(rd_TTie l0_1 x11_2).f0, (rd_TTie l0_1 x11_2).f1⟩ : STie) [.int .i64 ((rd_TTie l0_1 x11_2).f0), .int .i64 ((rd_TTie l0_1 x11_2).f1)] (fun k_ => k_ ≠ gb113) (fun _ => False) rfl rfl ?aP (fun _ hk => hk.elim) ?aF ?aO ?aB ?aS ?aL ?_
   (case aP => exact kTie_mkM _ _ _ (⟨(rd_TTie l0_1 x11_2).f0, (rd_TTie l0_1 x11_2).f1⟩ : STie))
   (case aB => exact (qb HB.out))
   (case aF => exact (fun k_ hk => Kd.freshB (g := gb113) (o := .cells #[.int .i64 t101, .int .i64 t110] 32 (0, 0)) (qk BK113.out) k_ hk))
   (case aO => exact (qr HO_101001.out))
   (case aS => exact (below_size (qb HB.out)))
   (case aL => have := LMc52.out; omega)
   intro v115 w59 ho hb hg hat
   rw [← Ny114.out] at ho
   replace BK108 := q0 (blk_grown (g := gb108) (o := .cells #[.int .i64 a0_0, .slice (some ad102) l0_1.length c0_1] 25 (0, 0)) (qk BK108.out) hg (Kd.R_ne HO_101001.out BK108.out (by decide)))
   replace BK100 := q0 (blk_grown (g := gb100) (o := .cells #[.int .i64 0, .slice none 0 0] 25 (0, 0)) (qk BK100.out) hg (Kd.R_ne HO_101001.out BK100.out (by decide)))
   replace BK112 := q0 (blk_grown (g := gb112) (o := .cells #[.int .i64 a0_0, u101001] 25 (0, 0)) (qk BK112.out) hg (Kd.R_ne HO_101001.out BK112.out (by decide)))
   replace BK113 := q0 (blk_grown (g := gb113) (o := .cells #[.int .i64 t101, .int .i64 t110] 32 (0, 0)) (qk BK113.out) hg (Kd.R_away HO_101001.out (fun _ hk => hk)))
   replace HB := q0 (hb)
   have HO116 := q0 (ho)
   clear HO_101001
   clear ho hb hg hat
   obtain ⟨Ao60, co60, eo60⟩ := Kd.R_slice HO116.out
   (first | subst eo60 | (injection eo60 with f1_ f2_ f3_; have f4_ := f1_.symm; have f5_ := f3_.symm; clear f1_ f2_ f3_; subst f4_; subst f5_))
   refine hK.out _ _ ⟨bca BK112, bcb BK112, bca BK108, bcb BK108, ((HB.out.cell (World.block_lt_of_cell? w _ hw102_0)).trans hw102_0), ((HB.out.cell (World.block_lt_of_cell? w _ hw102_1)).trans hw102_1)⟩ (fun hHeld => ?_)
   clear hK K
   refine nu 72 ?_
   refine pU 9 73 11 1023 HT_ ?_
   refine last_ (i := 10) (N := none) (ba 11 2047) rfl rfl (one_of HT_.out (by kernel_rfl)) (by decide) (fun K hK => ?_)
   have hs61 : w59.cell? ⟨gb112, 1, none⟩ = some (u101001) := (blk_cell BK112.out 1).trans rfl
   have hfs61 := blk_frozen BK112.out 1
   have hns61_0 := NB108_112.out
   have hns61_1 := NB100_112.out
   have hns61_3 := NB113_112.out
   have hms61_0 := NB112_108.out
   have hms61_1 := NB112_100.out
   have hms61_3 := NB112_113.out
   refine skip_ (w1 := ?_) (by rfl) rfl ?_ ?_
   rotate_left
   · go_simp
     rfl
   refine hK.out _ _ ?_
   clear hK K
   refine done_ (done_of HT_.out (by kernel_rfl)) ?_
   try go_wp2
   go_roundg k2
   case measure => have := HJ3.out; have := HK2.out; omega
   case rel => exact ⟨(true), (wrap64 (x11_2 + 1)), (y114), (.slice Ao60 y114.length co60), qs, qs, H', ⟨by have := HJ3.out; have := HK2.out; omega⟩, ⟨by (with_reducible repeat (first | apply Kd.R_alloc | apply Kd.R_drewN | apply Kd.R_drew)); exact Kd.R_mono (Kd.R_far (p := ⟨gb112, 1, none⟩) (Kd.R_types HO116.out BK112.out (by decide)) (fun _ hk => hk.2) (.slice Ao60 y114.length co60)) (fun _ hk => hk.1)⟩, ⟨qf BK108.out⟩, ⟨qf BK100.out⟩, ⟨by (with_reducible repeat (first | refine blk_drewN ?_ _ | refine blk_drew ?_ | refine blk_alloc ?_ _)); refine blk_put (cs := #[.int .i64 a0_0, u101001]) ?_ 1 _ rfl; (with_reducible repeat (first | refine blk_drewN ?_ _ | refine blk_drew ?_ | refine blk_alloc ?_ _)); exact BK112.out⟩, ⟨qf BK113.out⟩, ⟨qb HB.out⟩⟩
 replace c50 := Bool.eq_false_iff.mpr c50
 subst c50
 rw [if_neg nf] at H
 obtain ⟨c62, H⟩ : (0 ≤ x11_2) ∧ _ := og H
 have c62b0 := decide_eq_true c62
 clear c62
 obtain ⟨t103, A63, H⟩ := ob H
 by_cases c64 : t103 = true
 rotate_left
 · replace c64 := Bool.eq_false_iff.mpr c64
   subst c64
   rw [if_neg nf] at H
   obtain ⟨c86, H⟩ : (x101001_2.length < 8796093022208) ∧ _ := og H
   have LMc86 := q0 c86
   clear c86
   obtain ⟨y125, hy125⟩ : ∃ y_ : List (STie), y_ = (x101001_2 ++ [(⟨(rd_TTie l0_1 x11_2).f0, (rd_TTie l0_1 x11_2).f1⟩ : STie)]) := ⟨_, rfl⟩
   replace H : (spec_NetAdd.l0 k2 false (wrap64 (x11_2 + 1)) a0_0 l0_1 a0_0 y125 t101 t110) = some (r1, r2, r3) := qy H hy125
   have Ny125 := q0 hy125
   clear hy125
   have H' := q0 H
   clear H
   have hnb87 := NB108_100.out
   have hnc87 := NB100_108.out
   have hnb88 := NB108_112.out
   have hnc88 := NB112_108.out
   have hnb89 := NB108_113.out
   have hnc89 := NB113_108.out
   obtain ⟨hcz90_0, hcz90_1, hfz90_0, hfz90_1⟩ := b2 BK108
   try go_wp2
   replace HO_101001 := q0 (Kd.R_drew HO_101001.out)
   replace BK108 := q0 (blk_drew BK108.out)
   replace BK100 := q0 (blk_drew BK100.out)
   replace BK112 := q0 (blk_drew BK112.out)
   replace BK113 := q0 (blk_drew BK113.out)
   replace HB := q0 (below_drew1 HB.out)
   have p119 : 0 ≤ (x11_2 : Int) := of_decide_eq_true qa
   have q119 : x11_2 < (l0_1.length : Int) := of_decide_eq_true qa
   obtain ⟨ad119, e119, hx119_0, hx119_1⟩ := at_TTie HR0_1.out x11_2 p119 q119
   have hw119_1 := hx119_1
   have hw119_0 := hx119_0
   cases e119
   replace hx119_0 := hcl HB.out hx119_0
   replace hx119_1 := hcl HB.out hx119_1
   replace p119 := eq_true p119
   replace q119 := eq_true q119
   refine start_ (n := 11) (S := fun w' => w'.cell? ⟨gb113, 0, none⟩ = some (.int .i64 t101) ∧ w'.cell? ⟨gb113, 1, none⟩ = some (.int .i64 t110) ∧ w'.cell? ⟨gb108, 0, none⟩ = some (.int .i64 a0_0) ∧ w'.cell? ⟨gb108, 1, none⟩ = some (.slice (some ad119) l0_1.length c0_1) ∧ w'.cell? (ad119.add ((x11_2).toNat * 2)) = some (.int .i64 ((rd_TTie l0_1 x11_2).f0)) ∧ w'.cell? ⟨(ad119.add ((x11_2).toNat * 2)).block, (ad119.add ((x11_2).toNat * 2)).off + 1, none⟩ = some (.int .i64 ((rd_TTie l0_1 x11_2).f1))) (ds := []) (ba 11 0) (by kernel_rfl) rfl (by kernel_rfl) ⟨bca BK113, bcb BK113, bca BK108, bcb BK108, ((HB.out.cell (World.block_lt_of_cell? w _ hw119_0)).trans hw119_0), ((HB.out.cell (World.block_lt_of_cell? w _ hw119_1)).trans hw119_1)⟩ (fun hHeld => ?_); refine with_tabW spec_NetAdd.tab9 spec_NetAdd.bits9 (fun HT_ HW_ => ?_)
   generalize wr.drew = w91 at HO_101001 BK108 BK100 BK112 BK113 HB hx119_0 hx119_1 hHeld ⊢
   refine pU 0 47 11 1 HT_ ?_
   refine pU 1 48 11 3 HT_ ?_
   refine pU 2 49 11 7 HT_ ?_
   refine pU 4 51 11 23 HT_ ?_
   refine pU 6 53 11 87 HT_ ?_
   refine tU 3 50 11 95 HT_ HW_ hHeld ?_
   refine tU 5 52 11 127 HT_ HW_ hHeld ?_
   refine pU 7 54 11 255 HT_ ?_
   refine tU 8 55 11 511 HT_ HW_ hHeld ?_
   refine one_ (i := 9) (N := some 56) (ba 11 1023) rfl rfl (one_of HT_.out (by kernel_rfl)) (by decide) (fun K hK => ?_)
   refine goes_ Try.func69 (by kernel_rfl) rfl #[.agg #[.int .i64 t101, .int .i64 t110], .agg #[.int .i64 ((rd_TTie l0_1 x11_2).f0), .int .i64 ((rd_TTie l0_1 x11_2).f1)]] (by rfl) rfl rfl qm ?_
   with_reducible refine (spec_l1Less.calls t101 t110 ((rd_TTie l0_1 x11_2).f0) ((rd_TTie l0_1 x11_2).f1) false _ A63.out).mono ?_
   rintro e w92 ⟨rfl, hb⟩
   refine ⟨_, rfl, ?_⟩
   replace HO_101001 := q0 (Kd.R_below (qr HO_101001.out) hb)
   replace BK108 := kd BK108 hb
   replace BK100 := kd BK100 hb
   replace BK112 := kd BK112 hb
   replace BK113 := kd BK113 hb
   replace HB := bp HB hb
   (try clear hb)
   (try clear hb2)
   (try clear hk)
   (try clear hi)
   refine hK.out _ _ ⟨bca BK113, bcb BK113, bca BK108, bcb BK108, ((HB.out.cell (World.block_lt_of_cell? w _ hw119_0)).trans hw119_0), ((HB.out.cell (World.block_lt_of_cell? w _ hw119_1)).trans hw119_1)⟩ (fun hHeld => ?_)
   clear hK K
   refine nu 56 ?_
   refine pU 10 57 11 2047 HT_ ?_
   refine done_ (done_of HT_.out (by kernel_rfl)) ?_
   try go_wp2
   replace HO_101001 := q0 (Kd.R_drew HO_101001.out)
   replace BK108 := q0 (blk_drew BK108.out)
   replace BK100 := q0 (blk_drew BK100.out)
   replace BK112 := q0 (blk_drew BK112.out)
   replace BK113 := q0 (blk_drew BK113.out)
   replace HB := q0 (below_drew1 HB.out)
   have p126 : 0 ≤ (x11_2 : Int) := of_decide_eq_true qa
   have q126 : x11_2 < (l0_1.length : Int) := of_decide_eq_true qa
   obtain ⟨ad126, e126, hx126_0, hx126_1⟩ := at_TTie HR0_1.out x11_2 p126 q126
   have hw126_1 := hx126_1
   have hw126_0 := hx126_0
   obtain rfl : ad119 = ad126 := (by injection e126)
   replace hx126_0 := hcl HB.out hx126_0
   replace hx126_1 := hcl HB.out hx126_1
   replace p126 := eq_true p126
   replace q126 := eq_true q126
   refine start_ (n := 11) (S := fun w' => w'.cell? ⟨gb112, 0, none⟩ = some (.int .i64 a0_0) ∧ w'.cell? ⟨gb112, 1, none⟩ = some (u101001) ∧ w'.cell? ⟨gb108, 0, none⟩ = some (.int .i64 a0_0) ∧ w'.cell? ⟨gb108, 1, none⟩ = some (.slice (some ad119) l0_1.length c0_1) ∧ w'.cell? (ad119.add ((x11_2).toNat * 2)) = some (.int .i64 ((rd_TTie l0_1 x11_2).f0)) ∧ w'.cell? ⟨(ad119.add ((x11_2).toNat * 2)).block, (ad119.add ((x11_2).toNat * 2)).off + 1, none⟩ = some (.int .i64 ((rd_TTie l0_1 x11_2).f1))) (ds := [10]) (ba 11 0) (by kernel_rfl) rfl (by kernel_rfl) ⟨bca BK112, bcb BK112, bca BK108, bcb BK108, ((HB.out.cell (World.block_lt_of_cell? w _ hw126_0)).trans hw126_0), ((HB.out.cell (World.block_lt_of_cell? w _ hw126_1)).trans hw126_1)⟩ (fun hHeld => ?_); refine with_tabW spec_NetAdd.tab12 spec_NetAdd.bits12 (fun HT_ HW_ => ?_)
   generalize w92.drew = w93 at HO_101001 BK108 BK100 BK112 BK113 HB hx126_0 hx126_1 hHeld ⊢
   refine pU 0 64 11 1 HT_ ?_
   refine pU 2 66 11 5 HT_ ?_
   refine pU 4 68 11 21 HT_ ?_
   refine tU 1 65 11 23 HT_ HW_ hHeld ?_
   refine tU 3 67 11 31 HT_ HW_ hHeld ?_
   refine pU 5 69 11 63 HT_ ?_
   refine tU 6 70 11 127 HT_ HW_ hHeld ?_
   refine one_ (i := 7) (N := some 71) (ba 11 255) rfl rfl (one_of HT_.out (by kernel_rfl)) (by decide) (fun K hK => ?_)
   refine value_ (w1 := ?_) (v := ?_) (by rfl) rfl ?_ ?_
   rotate_left 2
   · go_simp
     constructor
     · rfl
     · rfl
   refine hK.out _ _ ⟨(blk_cell (blk_alloc BK112.out _) 0).trans rfl, (blk_cell (blk_alloc BK112.out _) 1).trans rfl, (blk_cell (blk_alloc BK108.out _) 0).trans rfl, (blk_cell (blk_alloc BK108.out _) 1).trans rfl, (World.cell?_alloc_lt _ _ _ (World.block_lt_of_cell? _ _ (((HB.out.cell (World.block_lt_of_cell? w _ hw126_0)).trans hw126_0)))).trans (((HB.out.cell (World.block_lt_of_cell? w _ hw126_0)).trans hw126_0)), (World.cell?_alloc_lt _ _ _ (World.block_lt_of_cell? _ _ (((HB.out.cell (World.block_lt_of_cell? w _ hw126_1)).trans hw126_1)))).trans (((HB.out.cell (World.block_lt_of_cell? w _ hw126_1)).trans hw126_1))⟩ (fun hHeld => ?_)
   clear hK K
   refine nu 71 ?_
   refine one_ (i := 8) (N := some 72) (ba 11 511) rfl rfl (one_of HT_.out (by kernel_rfl)) (by decide) (fun K hK => ?_)
   refine Kd.R_append_step kTie (w0 := w) w.heap.size (by rfl) (.tmp 65) (.tmp 71) 23 32 (.agg #[(.int .i64 0), (.int .i64 0)]) 16 rfl Try.underlying23 info32 rfl (by decide) (by omega) u101001 x101001_2 (⟨(rd_TTie l0_1 x11_2).f0, (rd_TTie l0_1 x11_2).f1⟩ : STie) [.int .i64 ((rd_TTie l0_1 x11_2).f0), .int .i64 ((rd_TTie l0_1 x11_2).f1)] (fun k_ => k_ ≠ gb113) (fun _ => False) rfl rfl ?aP (fun _ hk => hk.elim) ?aF ?aO ?aB ?aS ?aL ?_
   (case aP => exact kTie_mkM _ _ _ (⟨(rd_TTie l0_1 x11_2).f0, (rd_TTie l0_1 x11_2).f1⟩ : STie))
   (case aB => exact (qb HB.out))
   (case aF => exact (fun k_ hk => Kd.freshB (g := gb113) (o := .cells #[.int .i64 t101, .int .i64 t110] 32 (0, 0)) (qk BK113.out) k_ hk))
   (case aO => exact (qr HO_101001.out))
   (case aS => exact (below_size (qb HB.out)))
   (case aL => have := LMc86.out; omega)
   intro v127 w94 ho hb hg hat
   rw [← Ny125.out] at ho
   replace BK108 := q0 (blk_grown (g := gb108) (o := .cells #[.int .i64 a0_0, .slice (some ad119) l0_1.length c0_1] 25 (0, 0)) (qk BK108.out) hg (Kd.R_ne HO_101001.out BK108.out (by decide)))
   replace BK100 := q0 (blk_grown (g := gb100) (o := .cells #[.int .i64 0, .slice none 0 0] 25 (0, 0)) (qk BK100.out) hg (Kd.R_ne HO_101001.out BK100.out (by decide)))
   replace BK112 := q0 (blk_grown (g := gb112) (o := .cells #[.int .i64 a0_0, u101001] 25 (0, 0)) (qk BK112.out) hg (Kd.R_ne HO_101001.out BK112.out (by decide)))
   replace BK113 := q0 (blk_grown (g := gb113) (o := .cells #[.int .i64 t101, .int .i64 t110] 32 (0, 0)) (qk BK113.out) hg (Kd.R_away HO_101001.out (fun _ hk => hk)))
   replace HB := q0 (hb)
   have HO128 := q0 (ho)
   clear HO_101001
   clear ho hb hg hat
   obtain ⟨Ao95, co95, eo95⟩ := Kd.R_slice HO128.out
   (first | subst eo95 | (injection eo95 with f1_ f2_ f3_; have f4_ := f1_.symm; have f5_ := f3_.symm; clear f1_ f2_ f3_; subst f4_; subst f5_))
   refine hK.out _ _ ⟨bca BK112, bcb BK112, bca BK108, bcb BK108, ((HB.out.cell (World.block_lt_of_cell? w _ hw126_0)).trans hw126_0), ((HB.out.cell (World.block_lt_of_cell? w _ hw126_1)).trans hw126_1)⟩ (fun hHeld => ?_)
   clear hK K
   refine nu 72 ?_
   refine pU 9 73 11 1023 HT_ ?_
   refine last_ (i := 10) (N := none) (ba 11 2047) rfl rfl (one_of HT_.out (by kernel_rfl)) (by decide) (fun K hK => ?_)
   have hs96 : w94.cell? ⟨gb112, 1, none⟩ = some (u101001) := (blk_cell BK112.out 1).trans rfl
   have hfs96 := blk_frozen BK112.out 1
   have hns96_0 := NB108_112.out
   have hns96_1 := NB100_112.out
   have hns96_3 := NB113_112.out
   have hms96_0 := NB112_108.out
   have hms96_1 := NB112_100.out
   have hms96_3 := NB112_113.out
   refine skip_ (w1 := ?_) (by rfl) rfl ?_ ?_
   rotate_left
   · go_simp
     rfl
   refine hK.out _ _ ?_
   clear hK K
   refine done_ (done_of HT_.out (by kernel_rfl)) ?_
   try go_wp2
   go_roundg k2
   case measure => have := HJ3.out; have := HK2.out; omega
   case rel => exact ⟨(false), (wrap64 (x11_2 + 1)), (y125), (.slice Ao95 y125.length co95), qs, qs, H', ⟨by have := HJ3.out; have := HK2.out; omega⟩, ⟨by (with_reducible repeat (first | apply Kd.R_alloc | apply Kd.R_drewN | apply Kd.R_drew)); exact Kd.R_mono (Kd.R_far (p := ⟨gb112, 1, none⟩) (Kd.R_types HO128.out BK112.out (by decide)) (fun _ hk => hk.2) (.slice Ao95 y125.length co95)) (fun _ hk => hk.1)⟩, ⟨qf BK108.out⟩, ⟨qf BK100.out⟩, ⟨by (with_reducible repeat (first | refine blk_drewN ?_ _ | refine blk_drew ?_ | refine blk_alloc ?_ _)); refine blk_put (cs := #[.int .i64 a0_0, u101001]) ?_ 1 _ rfl; (with_reducible repeat (first | refine blk_drewN ?_ _ | refine blk_drew ?_ | refine blk_alloc ?_ _)); exact BK112.out⟩, ⟨qf BK113.out⟩, ⟨qb HB.out⟩⟩
 subst c64
 rw [if_pos rfl] at H
 obtain ⟨c65, H⟩ : (x101001_2.length < 8796093022208) ∧ _ := og H
 have LMc65 := q0 c65
 clear c65
 obtain ⟨y104, hy104⟩ : ∃ y_ : List (STie), y_ = (x101001_2 ++ [(⟨t101, t110⟩ : STie)]) := ⟨_, rfl⟩
 replace H : (if y104.length < 8796093022208 then (spec_NetAdd.l0 k2 true (wrap64 (x11_2 + 1)) a0_0 l0_1 a0_0 (y104 ++ [(⟨(rd_TTie l0_1 x11_2).f0, (rd_TTie l0_1 x11_2).f1⟩ : STie)]) t101 t110) else (none)) = some (r1, r2, r3) := qy H hy104
 have Ny104 := q0 hy104
 clear hy104
 obtain ⟨c66, H⟩ : (y104.length < 8796093022208) ∧ _ := og H
 have LMc66 := q0 c66
 clear c66
 obtain ⟨y118, hy118⟩ : ∃ y_ : List (STie), y_ = (y104 ++ [(⟨(rd_TTie l0_1 x11_2).f0, (rd_TTie l0_1 x11_2).f1⟩ : STie)]) := ⟨_, rfl⟩
 replace H : (spec_NetAdd.l0 k2 true (wrap64 (x11_2 + 1)) a0_0 l0_1 a0_0 y118 t101 t110) = some (r1, r2, r3) := qy H hy118
 have Ny118 := q0 hy118
 clear hy118
 have H' := q0 H
 clear H
 have hnb67 := NB108_100.out
 have hnc67 := NB100_108.out
 have hnb68 := NB108_112.out
 have hnc68 := NB112_108.out
 have hnb69 := NB108_113.out
 have hnc69 := NB113_108.out
 obtain ⟨hcz70_0, hcz70_1, hfz70_0, hfz70_1⟩ := b2 BK108
 try go_wp2
 replace HO_101001 := q0 (Kd.R_drew HO_101001.out)
 replace BK108 := q0 (blk_drew BK108.out)
 replace BK100 := q0 (blk_drew BK100.out)
 replace BK112 := q0 (blk_drew BK112.out)
 replace BK113 := q0 (blk_drew BK113.out)
 replace HB := q0 (below_drew1 HB.out)
 have p119 : 0 ≤ (x11_2 : Int) := of_decide_eq_true qa
 have q119 : x11_2 < (l0_1.length : Int) := of_decide_eq_true qa
 obtain ⟨ad119, e119, hx119_0, hx119_1⟩ := at_TTie HR0_1.out x11_2 p119 q119
 have hw119_1 := hx119_1
 have hw119_0 := hx119_0
 cases e119
 replace hx119_0 := hcl HB.out hx119_0
 replace hx119_1 := hcl HB.out hx119_1
 replace p119 := eq_true p119
 replace q119 := eq_true q119
 refine start_ (n := 11) (S := fun w' => w'.cell? ⟨gb113, 0, none⟩ = some (.int .i64 t101) ∧ w'.cell? ⟨gb113, 1, none⟩ = some (.int .i64 t110) ∧ w'.cell? ⟨gb108, 0, none⟩ = some (.int .i64 a0_0) ∧ w'.cell? ⟨gb108, 1, none⟩ = some (.slice (some ad119) l0_1.length c0_1) ∧ w'.cell? (ad119.add ((x11_2).toNat * 2)) = some (.int .i64 ((rd_TTie l0_1 x11_2).f0)) ∧ w'.cell? ⟨(ad119.add ((x11_2).toNat * 2)).block, (ad119.add ((x11_2).toNat * 2)).off + 1, none⟩ = some (.int .i64 ((rd_TTie l0_1 x11_2).f1))) (ds := []) (ba 11 0) (by kernel_rfl) rfl (by kernel_rfl) ⟨bca BK113, bcb BK113, bca BK108, bcb BK108, ((HB.out.cell (World.block_lt_of_cell? w _ hw119_0)).trans hw119_0), ((HB.out.cell (World.block_lt_of_cell? w _ hw119_1)).trans hw119_1)⟩ (fun hHeld => ?_); refine with_tabW spec_NetAdd.tab9 spec_NetAdd.bits9 (fun HT_ HW_ => ?_)
 generalize wr.drew = w71 at HO_101001 BK108 BK100 BK112 BK113 HB hx119_0 hx119_1 hHeld ⊢
 refine pU 0 47 11 1 HT_ ?_
 refine pU 1 48 11 3 HT_ ?_
 refine pU 2 49 11 7 HT_ ?_
 refine pU 4 51 11 23 HT_ ?_
 refine pU 6 53 11 87 HT_ ?_
 refine tU 3 50 11 95 HT_ HW_ hHeld ?_
 refine tU 5 52 11 127 HT_ HW_ hHeld ?_
 refine pU 7 54 11 255 HT_ ?_
 refine tU 8 55 11 511 HT_ HW_ hHeld ?_
 refine one_ (i := 9) (N := some 56) (ba 11 1023) rfl rfl (one_of HT_.out (by kernel_rfl)) (by decide) (fun K hK => ?_)
 refine goes_ Try.func69 (by kernel_rfl) rfl #[.agg #[.int .i64 t101, .int .i64 t110], .agg #[.int .i64 ((rd_TTie l0_1 x11_2).f0), .int .i64 ((rd_TTie l0_1 x11_2).f1)]] (by rfl) rfl rfl qm ?_
 with_reducible refine (spec_l1Less.calls t101 t110 ((rd_TTie l0_1 x11_2).f0) ((rd_TTie l0_1 x11_2).f1) true _ A63.out).mono ?_
 rintro e w72 ⟨rfl, hb⟩
 refine ⟨_, rfl, ?_⟩
 replace HO_101001 := q0 (Kd.R_below (qr HO_101001.out) hb)
 replace BK108 := kd BK108 hb
 replace BK100 := kd BK100 hb
 replace BK112 := kd BK112 hb
 replace BK113 := kd BK113 hb
 replace HB := bp HB hb
 (try clear hb)
 (try clear hb2)
 (try clear hk)
 (try clear hi)
 refine hK.out _ _ ⟨bca BK113, bcb BK113, bca BK108, bcb BK108, ((HB.out.cell (World.block_lt_of_cell? w _ hw119_0)).trans hw119_0), ((HB.out.cell (World.block_lt_of_cell? w _ hw119_1)).trans hw119_1)⟩ (fun hHeld => ?_)
 clear hK K
 refine nu 56 ?_
 refine pU 10 57 11 2047 HT_ ?_
 refine done_ (done_of HT_.out (by kernel_rfl)) ?_
 have hnb73 := NB112_100.out
 have hnc73 := NB100_112.out
 have hnb74 := NB112_113.out
 have hnc74 := NB113_112.out
 obtain ⟨hcz75_0, hcz75_1, hfz75_0, hfz75_1⟩ := b2 BK112
 have hnb76 := NB113_100.out
 have hnc76 := NB100_113.out
 obtain ⟨hcz77_0, hcz77_1, hfz77_0, hfz77_1⟩ := b2 BK113
 try go_wp2_with (first | ((with_reducible refine gate_builtin (b := .append) (xs := #[.tmp 59, .tmp 61]) rfl ?_); at_builtin; refine Kd.R_append kTie (w0 := w) w.heap.size rfl (.tmp 59) (.tmp 61) 23 32 (.agg #[(.int .i64 0), (.int .i64 0)]) 16 rfl Try.underlying23 info32 rfl (by decide) (by omega) u101001 x101001_2 (⟨t101, t110⟩ : STie) [.int .i64 t101, .int .i64 t110] (fun k_ => k_ ≠ gb113) (fun _ => False) rfl rfl ?aP (fun _ hk => hk.elim) ?aF ?aO ?aB ?aS ?aL ?_; (case aP => exact kTie_mkM _ _ _ (⟨t101, t110⟩ : STie)); (case aB => exact (qb HB.out)); (case aF => exact (fun k_ hk => Kd.freshB (g := gb113) (o := .cells #[.int .i64 t101, .int .i64 t110] 32 (0, 0)) (qk BK113.out) k_ hk)); (case aO => exact (qr HO_101001.out)); (case aS => exact (below_size (qb HB.out))); (case aL => have := LMc65.out; omega); intro v120 w78 ho hb hg hat; rw [← Ny104.out] at ho; replace BK108 := q0 (blk_grown (g := gb108) (o := .cells #[.int .i64 a0_0, .slice (some ad119) l0_1.length c0_1] 25 (0, 0)) (qk BK108.out) hg (Kd.R_ne HO_101001.out BK108.out (by decide))); replace BK100 := q0 (blk_grown (g := gb100) (o := .cells #[.int .i64 0, .slice none 0 0] 25 (0, 0)) (qk BK100.out) hg (Kd.R_ne HO_101001.out BK100.out (by decide))); replace BK112 := q0 (blk_grown (g := gb112) (o := .cells #[.int .i64 a0_0, u101001] 25 (0, 0)) (qk BK112.out) hg (Kd.R_ne HO_101001.out BK112.out (by decide))); replace BK113 := q0 (blk_grown (g := gb113) (o := .cells #[.int .i64 t101, .int .i64 t110] 32 (0, 0)) (qk BK113.out) hg (Kd.R_away HO_101001.out (fun _ hk => hk))); replace HB := q0 (hb); have HO121 := q0 (ho); clear HO_101001; clear ho hb hg hat; obtain ⟨Ao79, co79, eo79⟩ := Kd.R_slice HO121.out; subst eo79; obtain ⟨hcz80_0, hcz80_1, hfz80_0, hfz80_1⟩ := b2 BK112))
 have n0_ : Aside0 (Kd.R kTie 32 (w78.setCell ⟨gb112, 1, none⟩ (.slice Ao79 y104.length co79)) w.heap.size (fun k_ => k_ ≠ gb113) (.slice Ao79 y104.length co79) y104) := ⟨by (with_reducible repeat (first | apply Kd.R_alloc | apply Kd.R_drewN | apply Kd.R_drew)); exact Kd.R_mono (Kd.R_far (p := ⟨gb112, 1, none⟩) (Kd.R_types HO121.out BK112.out (by decide)) (fun _ hk => hk.2) (.slice Ao79 y104.length co79)) (fun _ hk => hk.1)⟩
 have n1_ : Aside0 ((w78.setCell ⟨gb112, 1, none⟩ (.slice Ao79 y104.length co79)).heap[gb108]? = some (.cells #[.int .i64 a0_0, .slice (some ad119) l0_1.length c0_1] 25 (0, 0))) := ⟨qf BK108.out⟩
 have n2_ : Aside0 ((w78.setCell ⟨gb112, 1, none⟩ (.slice Ao79 y104.length co79)).heap[gb100]? = some (.cells #[.int .i64 0, .slice none 0 0] 25 (0, 0))) := ⟨qf BK100.out⟩
 have n3_ : Aside0 ((w78.setCell ⟨gb112, 1, none⟩ (.slice Ao79 y104.length co79)).heap[gb112]? = some (.cells #[.int .i64 a0_0, .slice Ao79 y104.length co79] 25 (0, 0))) := ⟨by (with_reducible repeat (first | refine blk_drewN ?_ _ | refine blk_drew ?_ | refine blk_alloc ?_ _)); refine blk_put (cs := #[.int .i64 a0_0, u101001]) ?_ 1 _ rfl; (with_reducible repeat (first | refine blk_drewN ?_ _ | refine blk_drew ?_ | refine blk_alloc ?_ _)); exact BK112.out⟩
 have n4_ : Aside0 ((w78.setCell ⟨gb112, 1, none⟩ (.slice Ao79 y104.length co79)).heap[gb113]? = some (.cells #[.int .i64 t101, .int .i64 t110] 32 (0, 0))) := ⟨qf BK113.out⟩
 have n5_ : Aside0 (Below w.heap.size w (w78.setCell ⟨gb112, 1, none⟩ (.slice Ao79 y104.length co79))) := ⟨qb HB.out⟩
 (try clear HO121)
 (try clear BK108)
 (try clear BK100)
 (try clear BK112)
 (try clear BK113)
 (try clear HB)
 generalize (w78.setCell ⟨gb112, 1, none⟩ (.slice Ao79 y104.length co79)) = w81 at n0_ n1_ n2_ n3_ n4_ n5_ ⊢
 have HO121 := n0_
 have BK108 := n1_
 have BK100 := n2_
 have BK112 := n3_
 have BK113 := n4_
 have HB := n5_
 clear n0_ n1_ n2_ n3_ n4_ n5_
 replace HO121 := q0 (Kd.R_drew HO121.out)
 replace BK108 := q0 (blk_drew BK108.out)
 replace BK100 := q0 (blk_drew BK100.out)
 replace BK112 := q0 (blk_drew BK112.out)
 replace BK113 := q0 (blk_drew BK113.out)
 replace HB := q0 (below_drew1 HB.out)
 have p122 : 0 ≤ (x11_2 : Int) := of_decide_eq_true qa
 have q122 : x11_2 < (l0_1.length : Int) := of_decide_eq_true qa
 obtain ⟨ad122, e122, hx122_0, hx122_1⟩ := at_TTie HR0_1.out x11_2 p122 q122
 have hw122_1 := hx122_1
 have hw122_0 := hx122_0
 obtain rfl : ad119 = ad122 := (by injection e122)
 replace hx122_0 := hcl HB.out hx122_0
 replace hx122_1 := hcl HB.out hx122_1
 replace p122 := eq_true p122
 replace q122 := eq_true q122
 refine start_ (n := 11) (S := fun w' => w'.cell? ⟨gb112, 0, none⟩ = some (.int .i64 a0_0) ∧ w'.cell? ⟨gb112, 1, none⟩ = some (.slice Ao79 y104.length co79) ∧ w'.cell? ⟨gb108, 0, none⟩ = some (.int .i64 a0_0) ∧ w'.cell? ⟨gb108, 1, none⟩ = some (.slice (some ad119) l0_1.length c0_1) ∧ w'.cell? (ad119.add ((x11_2).toNat * 2)) = some (.int .i64 ((rd_TTie l0_1 x11_2).f0)) ∧ w'.cell? ⟨(ad119.add ((x11_2).toNat * 2)).block, (ad119.add ((x11_2).toNat * 2)).off + 1, none⟩ = some (.int .i64 ((rd_TTie l0_1 x11_2).f1))) (ds := [10]) (ba 11 0) (by kernel_rfl) rfl (by kernel_rfl) ⟨bca BK112, bcb BK112, bca BK108, bcb BK108, ((HB.out.cell (World.block_lt_of_cell? w _ hw122_0)).trans hw122_0), ((HB.out.cell (World.block_lt_of_cell? w _ hw122_1)).trans hw122_1)⟩ (fun hHeld => ?_); refine with_tabW spec_NetAdd.tab12 spec_NetAdd.bits12 (fun HT_ HW_ => ?_)
 generalize w81.drew = w82 at HO121 BK108 BK100 BK112 BK113 HB hx122_0 hx122_1 hHeld ⊢
 refine pU 0 64 11 1 HT_ ?_
 refine pU 2 66 11 5 HT_ ?_
 refine pU 4 68 11 21 HT_ ?_
 refine tU 1 65 11 23 HT_ HW_ hHeld ?_
 refine tU 3 67 11 31 HT_ HW_ hHeld ?_
 refine pU 5 69 11 63 HT_ ?_
 refine tU 6 70 11 127 HT_ HW_ hHeld ?_
 refine one_ (i := 7) (N := some 71) (ba 11 255) rfl rfl (one_of HT_.out (by kernel_rfl)) (by decide) (fun K hK => ?_)
 refine value_ (w1 := ?_) (v := ?_) (by rfl) rfl ?_ ?_
 rotate_left 2
 · go_simp
   constructor
   · rfl
   · rfl
 refine hK.out _ _ ⟨(blk_cell (blk_alloc BK112.out _) 0).trans rfl, (blk_cell (blk_alloc BK112.out _) 1).trans rfl, (blk_cell (blk_alloc BK108.out _) 0).trans rfl, (blk_cell (blk_alloc BK108.out _) 1).trans rfl, (World.cell?_alloc_lt _ _ _ (World.block_lt_of_cell? _ _ (((HB.out.cell (World.block_lt_of_cell? w _ hw122_0)).trans hw122_0)))).trans (((HB.out.cell (World.block_lt_of_cell? w _ hw122_0)).trans hw122_0)), (World.cell?_alloc_lt _ _ _ (World.block_lt_of_cell? _ _ (((HB.out.cell (World.block_lt_of_cell? w _ hw122_1)).trans hw122_1)))).trans (((HB.out.cell (World.block_lt_of_cell? w _ hw122_1)).trans hw122_1))⟩ (fun hHeld => ?_)
 clear hK K
 refine nu 71 ?_
 refine one_ (i := 8) (N := some 72) (ba 11 511) rfl rfl (one_of HT_.out (by kernel_rfl)) (by decide) (fun K hK => ?_)
 refine Kd.R_append_step kTie (w0 := w) w.heap.size (by rfl) (.tmp 65) (.tmp 71) 23 32 (.agg #[(.int .i64 0), (.int .i64 0)]) 16 rfl Try.underlying23 info32 rfl (by decide) (by omega) (.slice Ao79 y104.length co79) y104 (⟨(rd_TTie l0_1 x11_2).f0, (rd_TTie l0_1 x11_2).f1⟩ : STie) [.int .i64 ((rd_TTie l0_1 x11_2).f0), .int .i64 ((rd_TTie l0_1 x11_2).f1)] (fun k_ => k_ ≠ gb113) (fun _ => False) rfl rfl ?aP (fun _ hk => hk.elim) ?aF ?aO ?aB ?aS ?aL ?_
 (case aP => exact kTie_mkM _ _ _ (⟨(rd_TTie l0_1 x11_2).f0, (rd_TTie l0_1 x11_2).f1⟩ : STie))
 (case aB => exact (qb HB.out))
 (case aF => exact (fun k_ hk => Kd.freshB (g := gb113) (o := .cells #[.int .i64 t101, .int .i64 t110] 32 (0, 0)) (qk BK113.out) k_ hk))
 (case aO => exact (qr HO121.out))
 (case aS => exact (below_size (qb HB.out)))
 (case aL => have := LMc66.out; omega)
 intro v123 w83 ho hb hg hat
 rw [← Ny118.out] at ho
 replace BK108 := q0 (blk_grown (g := gb108) (o := .cells #[.int .i64 a0_0, .slice (some ad119) l0_1.length c0_1] 25 (0, 0)) (qk BK108.out) hg (Kd.R_ne HO121.out BK108.out (by decide)))
 replace BK100 := q0 (blk_grown (g := gb100) (o := .cells #[.int .i64 0, .slice none 0 0] 25 (0, 0)) (qk BK100.out) hg (Kd.R_ne HO121.out BK100.out (by decide)))
 replace BK112 := q0 (blk_grown (g := gb112) (o := .cells #[.int .i64 a0_0, .slice Ao79 y104.length co79] 25 (0, 0)) (qk BK112.out) hg (Kd.R_ne HO121.out BK112.out (by decide)))
 replace BK113 := q0 (blk_grown (g := gb113) (o := .cells #[.int .i64 t101, .int .i64 t110] 32 (0, 0)) (qk BK113.out) hg (Kd.R_away HO121.out (fun _ hk => hk)))
 replace HB := q0 (hb)
 have HO124 := q0 (ho)
 clear HO121
 clear ho hb hg hat
 obtain ⟨Ao84, co84, eo84⟩ := Kd.R_slice HO124.out
 (first | subst eo84 | (injection eo84 with f1_ f2_ f3_; have f4_ := f1_.symm; have f5_ := f3_.symm; clear f1_ f2_ f3_; subst f4_; subst f5_))
 refine hK.out _ _ ⟨bca BK112, bcb BK112, bca BK108, bcb BK108, ((HB.out.cell (World.block_lt_of_cell? w _ hw122_0)).trans hw122_0), ((HB.out.cell (World.block_lt_of_cell? w _ hw122_1)).trans hw122_1)⟩ (fun hHeld => ?_)
 clear hK K
 refine nu 72 ?_
 refine pU 9 73 11 1023 HT_ ?_
 refine last_ (i := 10) (N := none) (ba 11 2047) rfl rfl (one_of HT_.out (by kernel_rfl)) (by decide) (fun K hK => ?_)
 have hs85 : w83.cell? ⟨gb112, 1, none⟩ = some (.slice Ao79 y104.length co79) := (blk_cell BK112.out 1).trans rfl
 have hfs85 := blk_frozen BK112.out 1
 have hns85_0 := NB108_112.out
 have hns85_1 := NB100_112.out
 have hns85_3 := NB113_112.out
 have hms85_0 := NB112_108.out
 have hms85_1 := NB112_100.out
 have hms85_3 := NB112_113.out
 refine skip_ (w1 := ?_) (by rfl) rfl ?_ ?_
 rotate_left
 · go_simp
   rfl
 refine hK.out _ _ ?_
 clear hK K
 refine done_ (done_of HT_.out (by kernel_rfl)) ?_
 try go_wp2
 go_roundg k2
 case measure => have := HJ3.out; have := HK2.out; omega
 case rel => exact ⟨(true), (wrap64 (x11_2 + 1)), (y118), (.slice Ao84 y118.length co84), qs, qs, H', ⟨by have := HJ3.out; have := HK2.out; omega⟩, ⟨by (with_reducible repeat (first | apply Kd.R_alloc | apply Kd.R_drewN | apply Kd.R_drew)); exact Kd.R_mono (Kd.R_far (p := ⟨gb112, 1, none⟩) (Kd.R_types HO124.out BK112.out (by decide)) (fun _ hk => hk.2) (.slice Ao84 y118.length co84)) (fun _ hk => hk.1)⟩, ⟨qf BK108.out⟩, ⟨qf BK100.out⟩, ⟨by (with_reducible repeat (first | refine blk_drewN ?_ _ | refine blk_drew ?_ | refine blk_alloc ?_ _)); refine blk_put (cs := #[.int .i64 a0_0, .slice Ao79 y104.length co79]) ?_ 1 _ rfl; (with_reducible repeat (first | refine blk_drewN ?_ _ | refine blk_drew ?_ | refine blk_alloc ?_ _)); exact BK112.out⟩, ⟨qf BK113.out⟩, ⟨qb HB.out⟩⟩

set_option maxHeartbeats 8000000 in
set_option maxRecDepth 100000 in
theorem impl_Net_knot.calls (a0_0 : Int) (A0_1 : Option Addr) (c0_1 : Nat) (l0_1 : List (STie)) (a1 : Int) (r : Bool) (w : World) (hr0_1 : Kd.C kTie w A0_1 l0_1.length l0_1) (hc0_1 : l0_1.length ≤ c0_1) (h : impl_Net_knot.f a0_0 l0_1 a1 = some r) :
    Calls Try.prog 57 #[.agg #[.int .i64 a0_0, .slice A0_1 l0_1.length c0_1], .int .i64 a1] w fun e w' => e = .returned (.bool r) ∧ Below w.heap.size w w' := by
 have hu25 := Try.underlying25
 have HR0_1 := q0 hr0_1
 have HC0_1 := q0 hc0_1
 clear hr0_1 hc0_1
 have HB := q0 (Below.refl w.heap.size w)
 have H : (if a1 ≥ 0 then (some (decide (a1 < a0_0))) else (some false)) = some r := h
 clear h
 by_cases c3 : a1 ≥ 0
 · rw [if_pos c3] at H
   have c3b0 := decide_eq_true c3
   clear c3
   obtain rfl := Option.some.inj H
   go_enter Try.func57, Try.ntmps57
   go_wp2_with (first | ((with_reducible refine gd 2 ?_); refine be 2 #[.int .i64 a0_0, .slice A0_1 l0_1.length c0_1] 25 ?_; intro gb100 hg w4 hbox hb; have BK100 := q0 (hbox); have GW100 := gw HB hg; have GE100 := gw HB hg; replace HB := bp HB hb; clear hb hbox hg; obtain ⟨hcz5_0, hcz5_1, hfz5_0, hfz5_1⟩ := b2 BK100))
   go_ret
   exact ⟨qe, qb HB.out⟩
 rw [if_neg c3] at H
 have c3b0 := decide_eq_false c3
 clear c3
 obtain rfl := Option.some.inj H
 go_enter Try.func57, Try.ntmps57
 go_wp2_with (first | ((with_reducible refine gd 2 ?_); refine be 2 #[.int .i64 a0_0, .slice A0_1 l0_1.length c0_1] 25 ?_; intro gb100 hg w6 hbox hb; have BK100 := q0 (hbox); have GW100 := gw HB hg; have GE100 := gw HB hg; replace HB := bp HB hb; clear hb hbox hg))
 go_ret
 exact ⟨qe, qb HB.out⟩

end Go.Proofs.Ytgoembpmhlmafaa.P
