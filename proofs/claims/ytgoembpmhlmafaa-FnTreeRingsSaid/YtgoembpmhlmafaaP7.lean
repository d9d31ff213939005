import Derived.Test.YtgoembpmhlmafaaP0
import Derived.Test.YtgoembpmhlmafaaP1
import Derived.Test.YtgoembpmhlmafaaP3
import Derived.Test.YtgoembpmhlmafaaP4
import Derived.Test.YtgoembpmhlmafaaP5
namespace Go.Proofs.Ytgoembpmhlmafaa.P
open Go.RowKit Go.Proofs.YtgoembpmhlmafaaW.PrintWords Go.Proofs.YtgoembpmhlmafaaW.PrintLast Go.Proofs.YtgoembpmhlmafaaW.PrintMore
attribute [local go_sem] max2_int min2_int max_two min_two max_three min_three max_four min_four
set_option linter.unusedVariables false
set_option linter.unusedSimpArgs false
attribute [local go_sem high] eqATie
set_option maxHeartbeats 8000000 in
set_option maxRecDepth 100000 in
theorem laws_loTie.calls (a0 : Int) (a1 : Int) (r1 : Int) (r2 : Int) (w : World) (h : laws_loTie.f a0 a1 = some (r1, r2)) :
    Calls Try.prog 35 #[.int .i64 a0, .int .i64 a1] w fun e w' => e = .returned (.agg #[.int .i64 r1, .int .i64 r2]) ∧ Below w.heap.size w w' := by
 have hu32 := Try.underlying32
 have HB := q0 (Below.refl w.heap.size w)
 have H : (if a0 < a1 then (some (a0, a1)) else (some (a1, a0))) = some (r1, r2) := h
 clear h
 by_cases c3 : a0 < a1
 · rw [if_pos c3] at H
   have c3b0 := decide_eq_true c3
   clear c3
   simp only [Option.some.injEq, Prod.mk.injEq] at H
   obtain ⟨rfl, rfl⟩ := H
   go_enter Try.func35, Try.ntmps35
   go_wp2_with (first | ((with_reducible refine gd 4 ?_); refine be 4 #[.int .i64 0, .int .i64 0] 32 ?_; intro gb100 hg w4 hbox hb; have BK100 := q0 (hbox); have GW100 := gw HB hg; have GE100 := gw HB hg; replace HB := bp HB hb; clear hb hbox hg; obtain ⟨hcz5_0, hcz5_1, hfz5_0, hfz5_1⟩ := b2 BK100))
   refine bodyPost_ret (results_cell_row rfl _ _ gb100 32 #[.int .i64 a0, .int .i64 a1] (0, 0) _ rfl (by (with_reducible repeat (first | refine blk_drewN ?_ _ | refine blk_drew ?_ | refine blk_alloc ?_ _)); refine blk_put (cs := #[.int .i64 a0, .int .i64 0]) ?_ 1 _ rfl; (with_reducible repeat (first | refine blk_drewN ?_ _ | refine blk_drew ?_ | refine blk_alloc ?_ _)); refine blk_put (cs := #[.int .i64 0, .int .i64 0]) ?_ 0 _ rfl; (with_reducible repeat (first | refine blk_drewN ?_ _ | refine blk_drew ?_ | refine blk_alloc ?_ _)); exact BK100.out) Try.underlying32 rfl (by kernel_rfl)) rfl ?_
   exact ⟨qe, qb HB.out⟩
 rw [if_neg c3] at H
 have c3b0 := decide_eq_false c3
 clear c3
 simp only [Option.some.injEq, Prod.mk.injEq] at H
 obtain ⟨rfl, rfl⟩ := H
 go_enter Try.func35, Try.ntmps35
 go_wp2_with (first | ((with_reducible refine gd 4 ?_); refine be 4 #[.int .i64 0, .int .i64 0] 32 ?_; intro gb100 hg w6 hbox hb; have BK100 := q0 (hbox); have GW100 := gw HB hg; have GE100 := gw HB hg; replace HB := bp HB hb; clear hb hbox hg; obtain ⟨hcz7_0, hcz7_1, hfz7_0, hfz7_1⟩ := b2 BK100))
 refine bodyPost_ret (results_cell_row rfl _ _ gb100 32 #[.int .i64 a1, .int .i64 a0] (0, 0) _ rfl (by (with_reducible repeat (first | refine blk_drewN ?_ _ | refine blk_drew ?_ | refine blk_alloc ?_ _)); refine blk_put (cs := #[.int .i64 a1, .int .i64 0]) ?_ 1 _ rfl; (with_reducible repeat (first | refine blk_drewN ?_ _ | refine blk_drew ?_ | refine blk_alloc ?_ _)); refine blk_put (cs := #[.int .i64 0, .int .i64 0]) ?_ 0 _ rfl; (with_reducible repeat (first | refine blk_drewN ?_ _ | refine blk_drew ?_ | refine blk_alloc ?_ _)); exact BK100.out) Try.underlying32 rfl (by kernel_rfl)) rfl ?_
 exact ⟨qe, qb HB.out⟩

attribute [local go_sem high] eqATie
set_option maxHeartbeats 8000000 in
set_option maxRecDepth 100000 in
theorem laws_loHas.calls (k : Nat) (A0 : Option Addr) (c0 : Nat) (l0 : List (STie)) (a1_0 : Int) (a1_1 : Int) (r : Bool) (w : World) (hr0 : Kd.C kTie w A0 l0.length l0) (hc0 : l0.length ≤ c0) (h : laws_loHas.f k l0 a1_0 a1_1 = some r) :
    Calls Try.prog 36 #[.slice A0 l0.length c0, .agg #[.int .i64 a1_0, .int .i64 a1_1]] w fun e w' => e = .returned (.bool r) ∧ Below w.heap.size w w' := by
 have hu32 := Try.underlying32
 have HR0 := q0 hr0
 have HC0 := q0 hc0
 clear hr0 hc0
 have HB := q0 (Below.refl w.heap.size w)
 have H : (laws_loHas.l0 k l0 0 a1_0 a1_1) = some r := h
 clear h
 have H' := q0 H
 clear H
 go_enter Try.func36, Try.ntmps36
 go_wp2_with (first | ((with_reducible refine gd 3 ?_); refine be 3 #[.int .i64 a1_0, .int .i64 a1_1] 32 ?_; intro gb101 hg w3 hbox hb; have BK101 := q0 (hbox); have GW101 := gw HB hg; have GE101 := gw HB hg; replace HB := bp HB hb; clear hb hbox hg))
 repeat (go_quiet (first | ((with_reducible refine gd 3 ?_); refine be 3 #[.int .i64 a1_0, .int .i64 a1_1] 32 ?_; intro gb101 hg w3 hbox hb; have BK101 := q0 (hbox); have GW101 := gw HB hg; have GE101 := gw HB hg; replace HB := bp HB hb; clear hb hbox hg)); try go_wp2_with (first | ((with_reducible refine gd 3 ?_); refine be 3 #[.int .i64 a1_0, .int .i64 a1_1] 32 ?_; intro gb101 hg w3 hbox hb; have BK101 := q0 (hbox); have GW101 := gw HB hg; have GE101 := gw HB hg; replace HB := bp HB hb; clear hb hbox hg)))
 go_loopg [5] k (fun kq v5 w' => ∃ (x5_1 : Int), v5 = .int .i64 x5_1 ∧ Aside0 (laws_loHas.l0 kq l0 x5_1 a1_0 a1_1 = some r) ∧ Aside0 (kq ≤ k) ∧ Aside0 (w'.heap[gb101]? = some (.cells #[.int .i64 a1_0, .int .i64 a1_1] 32 (0, 0))) ∧ Aside0 (Below w.heap.size w w'))
 case atStart => exact ⟨(0), qs, H', ⟨Nat.le_refl _⟩, ⟨qk BK101.out⟩, ⟨qb HB.out⟩⟩
 clear H'
 try clear p2
 try clear c3
 obtain ⟨x5_1, rfl, HA, HK1, BK101, HB⟩ := hrel
 rcases gk with _ | k1
 · exact absurd HA.out (by simp [laws_loHas.l0])
 have H := HA.out
 clear HA
 simp only [laws_loHas.l0] at H
 by_cases c4 : x5_1 < (l0.length : Int)
 rotate_left
 · rw [if_neg c4] at H
   have c4b0 := decide_eq_false c4
   clear c4
   obtain rfl := Option.some.inj H
   go_wp2
   repeat (go_quiet (fail); try go_wp2)
   go_ret
   exact ⟨qe, qb HB.out⟩
 rw [if_pos c4] at H
 have c4b0 := decide_eq_true c4
 clear c4
 obtain ⟨c5, H⟩ : (0 ≤ x5_1) ∧ _ := og H
 have c5b0 := decide_eq_true c5
 clear c5
 by_cases c6 : (((rd_TTie l0 x5_1).f0) == a1_0 && (((rd_TTie l0 x5_1).f1) == a1_1)) = true
 · rw [if_pos c6] at H
   have c6b0 : (((rd_TTie l0 x5_1).f0) == a1_0 && (((rd_TTie l0 x5_1).f1) == a1_1)) = true := c6
   (try (have c6b1 : decide (((rd_TTie l0 x5_1).f0) = a1_0 && (((rd_TTie l0 x5_1).f1) == a1_1)) = true := by simpa using c6))
   (try (have c6b2 : (((rd_TTie l0 x5_1).f0) == a1_0 && (((rd_TTie l0 x5_1).f1) == a1_1)) = true := by simpa using c6))
   clear c6
   obtain rfl := Option.some.inj H
   have p100 : 0 ≤ (x5_1 : Int) := of_decide_eq_true qa
   have q100 : x5_1 < (l0.length : Int) := of_decide_eq_true qa
   obtain ⟨ad100, e100, hx100_0, hx100_1⟩ := at_TTie HR0.out x5_1 p100 q100
   cases e100
   replace hx100_0 := hcl HB.out hx100_0
   replace hx100_1 := hcl HB.out hx100_1
   replace p100 := eq_true p100
   replace q100 := eq_true q100
   obtain ⟨hcz7_0, hcz7_1, hfz7_0, hfz7_1⟩ := b2 BK101
   go_wp2
   repeat (go_quiet (fail); try go_wp2)
   go_ret
   exact ⟨qe, qb HB.out⟩
 rw [if_neg c6] at H
 have c6b0 : (((rd_TTie l0 x5_1).f0) == a1_0 && (((rd_TTie l0 x5_1).f1) == a1_1)) = false := by simpa using c6
 (try (have c6b1 : decide (((rd_TTie l0 x5_1).f0) = a1_0 && (((rd_TTie l0 x5_1).f1) == a1_1)) = false := by simpa using c6))
 (try (have c6b2 : (((rd_TTie l0 x5_1).f0) == a1_0 && (((rd_TTie l0 x5_1).f1) == a1_1)) = false := by simpa using c6))
 (try (have c6b3 : ¬ (((rd_TTie l0 x5_1).f0) = a1_0 && (((rd_TTie l0 x5_1).f1) == a1_1)) := by simpa using c6))
 clear c6
 have H' := q0 H
 clear H
 have p100 : 0 ≤ (x5_1 : Int) := of_decide_eq_true qa
 have q100 : x5_1 < (l0.length : Int) := of_decide_eq_true qa
 obtain ⟨ad100, e100, hx100_0, hx100_1⟩ := at_TTie HR0.out x5_1 p100 q100
 cases e100
 replace hx100_0 := hcl HB.out hx100_0
 replace hx100_1 := hcl HB.out hx100_1
 replace p100 := eq_true p100
 replace q100 := eq_true q100
 obtain ⟨hcz8_0, hcz8_1, hfz8_0, hfz8_1⟩ := b2 BK101
 go_wp2
 repeat (go_quiet (fail); try go_wp2)
 go_roundg k1
 case measure => have := HK1.out; omega
 case rel => exact ⟨(wrap64 (x5_1 + 1)), qs, H', ⟨by have := HK1.out; omega⟩, ⟨qk BK101.out⟩, ⟨qb HB.out⟩⟩

def impl_Net_walk.T4 : Bool × List (List Nat × List Nat) := (true, [([], []), ([], []), ([0, 1], [0, 1]), ([2], [2]), ([3, 2], [3]), ([4], [4]), ([5, 4], [4, 5]), ([6, 4, 4], [4, 6]), ([7], [7]), ([7], [7]), ([7], [7]), ([10, 7], [7, 10]), ([9, 11, 7], [7, 9, 11]), ([12, 7], [7, 12]), ([7], [7]), ([8, 13, 14, 7, 7], [7, 8, 13, 14]), ([15, 7], [7, 15]), ([7, 16, 4], [4, 7, 16]), ([4, 17], [4, 17])])
def impl_Net_walk.B4 : List Nat := [0, 0, 3, 7, 15, 31, 63, 127, 255, 255, 255, 1279, 3839, 7935, 255, 32767, 65535, 131071, 262143]
theorem impl_Net_walk.tab4 : rtab .any (opsOf Try.f89 4) = impl_Net_walk.T4 := by kernel_rfl
theorem impl_Net_walk.bits4 : waitsOk impl_Net_walk.T4.2 impl_Net_walk.B4 = true := by kernel_rfl
set_option maxHeartbeats 8000000 in
set_option maxRecDepth 100000 in
theorem impl_Net_walk.calls (k : Nat) (a0_0 : Int) (A0_1 : Option Addr) (c0_1 : Nat) (l0_1 : List (STie)) (A1 : Option Addr) (c1 : Nat) (l1 : List Int) (r : Bool) (w : World) (hr0_1 : Kd.C kTie w A0_1 l0_1.length l0_1) (hc0_1 : l0_1.length ≤ c0_1) (hr1 : Kd.C (Kd.int .i64) w A1 l1.length l1) (hc1 : l1.length ≤ c1) (h : impl_Net_walk.f k a0_0 l0_1 l1 = some r) :
    Calls Try.prog 89 #[.agg #[.int .i64 a0_0, .slice A0_1 l0_1.length c0_1], .slice A1 l1.length c1] w fun e w' => e = .returned (.bool r) ∧ Below w.heap.size w w' := by
 have hu25 := Try.underlying25
 have HR0_1 := q0 hr0_1
 have HC0_1 := q0 hc0_1
 clear hr0_1 hc0_1
 have HR1 := q0 hr1
 have HC1 := q0 hc1
 clear hr1 hc1
 have HB := q0 (Below.refl w.heap.size w)
 have H : (impl_Net_walk.l0 k l1 l1 (l1.length : Int) 0 a0_0 l0_1) = some r := h
 clear h
 have H' := q0 H
 clear H
 go_enter Try.func89, Try.ntmps89
 go_wp2_with (first | ((with_reducible refine gd 2 ?_); refine be 2 #[.int .i64 a0_0, .slice A0_1 l0_1.length c0_1] 25 ?_; intro gb103 hg w3 hbox hb; have BK103 := q0 (hbox); have GW103 := gw HB hg; have GE103 := gw HB hg; replace HB := bp HB hb; clear hb hbox hg))
 go_loopg [9] k (fun kq v9 w' => ∃ (x9_1 : Int), v9 = .int .i64 x9_1 ∧ Aside0 (impl_Net_walk.l0 kq l1 l1 (l1.length : Int) x9_1 a0_0 l0_1 = some r) ∧ Aside0 (kq ≤ k) ∧ Aside0 (w'.heap[gb103]? = some (.cells #[.int .i64 a0_0, (.slice A0_1 l0_1.length c0_1)] 25 (0, 0))) ∧ Aside0 (Below w.heap.size w w'))
 case atStart => exact ⟨(0), qs, H', ⟨Nat.le_refl _⟩, ⟨qk BK103.out⟩, ⟨qb HB.out⟩⟩
 clear H'
 try clear c1
 try clear p2
 obtain ⟨x9_1, rfl, HA, HK1, BK103, HB⟩ := hrel
 rcases gk with _ | k1
 · exact absurd HA.out (by simp [impl_Net_walk.l0])
 have H := HA.out
 clear HA
 simp only [impl_Net_walk.l0] at H
 by_cases c4 : x9_1 < (l1.length : Int)
 rotate_left
 · rw [if_neg c4] at H
   have c4b0 := decide_eq_false c4
   clear c4
   obtain rfl := Option.some.inj H
   go_wp2
   go_ret
   exact ⟨qe, qb HB.out⟩
 rw [if_pos c4] at H
 have c4b0 := decide_eq_true c4
 clear c4
 obtain ⟨c5, H⟩ : (0 ≤ x9_1) ∧ _ := og H
 have c5b0 := decide_eq_true c5
 clear c5
 obtain ⟨c6, H⟩ : (x9_1 < (l1.length : Int)) ∧ _ := og H
 have c6b0 := decide_eq_true c6
 clear c6
 obtain ⟨t101, A7, H⟩ := ob H
 by_cases c8 : t101 = true
 rotate_left
 · replace c8 := Bool.eq_false_iff.mpr c8
   subst c8
   rw [if_neg nf] at H
   obtain rfl := Option.some.inj H
   have p100 : 0 ≤ (x9_1 : Int) := of_decide_eq_true qa
   have q100 : x9_1 < (l1.length : Int) := of_decide_eq_true qa
   obtain ⟨ad100, e100, hx100_0⟩ := Kd.at_int HR1.out x9_1 p100 q100
   cases e100
   replace hx100_0 := hcl HB.out hx100_0
   replace p100 := eq_true p100
   replace q100 := eq_true q100
   try go_wp2
   replace BK103 := q0 (blk_drew BK103.out)
   replace HB := q0 (below_drew1 HB.out)
   refine start_ (n := 19) (S := fun w' => w'.cell? ⟨gb103, 0, none⟩ = some (.int .i64 a0_0) ∧ w'.cell? ⟨gb103, 1, none⟩ = some (.slice A0_1 l0_1.length c0_1)) (ds := []) (ba 19 0) (by kernel_rfl) rfl (by kernel_rfl) ⟨bca BK103, bcb BK103⟩ (fun hHeld => ?_); refine with_tabW impl_Net_walk.tab4 impl_Net_walk.bits4 (fun HT_ HW_ => ?_)
   generalize wr.drew = w23 at BK103 HB hHeld ⊢
   refine pU 1 15 19 2 HT_ ?_
   refine tU 0 14 19 3 HT_ HW_ hHeld ?_
   refine one_ (i := 2) (N := some 16) (ba 19 7) rfl rfl (one_of HT_.out (by kernel_rfl)) (by decide) (fun K hK => ?_)
   refine goes_ Try.func57 (by kernel_rfl) rfl #[.agg #[.int .i64 a0_0, .slice A0_1 l0_1.length c0_1], .int .i64 (rd l1 x9_1)] (by rfl) rfl rfl qm ?_
   with_reducible refine (impl_Net_knot.calls a0_0 _ _ l0_1 (rd l1 x9_1) false _ ?side1 ?side2 A7.out).mono ?_
   (case side1 => exact qc (Kd.C_below HR0_1.out HB.out))
   (case side2 => exact HC0_1.out)
   rintro e w24 ⟨rfl, hb⟩
   refine ⟨_, rfl, ?_⟩
   replace BK103 := kd BK103 hb
   replace HB := bp HB hb
   (try clear hb)
   (try clear hb2)
   (try clear hk)
   (try clear hi)
   refine hK.out _ _ ⟨bca BK103, bcb BK103⟩ (fun hHeld => ?_)
   clear hK K
   refine nu 16 ?_
   refine pU 3 17 19 15 HT_ ?_
   refine pU 4 18 19 31 HT_ ?_
   refine pV 5 19 19 63 HT_ ?_
   refine pV 6 20 19 127 HT_ ?_
   refine pV 7 21 19 255 HT_ ?_
   refine pV 8 22 19 511 HT_ ?_
   refine pV 9 23 19 1023 HT_ ?_
   refine pV 10 24 19 2047 HT_ ?_
   refine pV 11 25 19 4095 HT_ ?_
   refine pV 12 26 19 8191 HT_ ?_
   refine pV 13 27 19 16383 HT_ ?_
   refine pV 14 28 19 32767 HT_ ?_
   refine pV 15 29 19 65535 HT_ ?_
   refine pV 16 30 19 131071 HT_ ?_
   refine pV 17 31 19 262143 HT_ ?_
   refine pU 18 32 19 524287 HT_ ?_
   refine done_ (done_of HT_.out (by kernel_rfl)) ?_
   try go_wp2
   go_ret
   exact ⟨qe, qb HB.out⟩
 subst c8
 rw [if_pos rfl] at H
 by_cases c9 : x9_1 > 0
 rotate_left
 · rw [if_neg c9] at H
   have c9b0 := decide_eq_false c9
   clear c9
   have H' := q0 H
   clear H
   have p100 : 0 ≤ (x9_1 : Int) := of_decide_eq_true qa
   have q100 : x9_1 < (l1.length : Int) := of_decide_eq_true qa
   obtain ⟨ad100, e100, hx100_0⟩ := Kd.at_int HR1.out x9_1 p100 q100
   cases e100
   replace hx100_0 := hcl HB.out hx100_0
   replace p100 := eq_true p100
   replace q100 := eq_true q100
   try go_wp2
   replace BK103 := q0 (blk_drew BK103.out)
   replace HB := q0 (below_drew1 HB.out)
   refine start_ (n := 19) (S := fun w' => w'.cell? ⟨gb103, 0, none⟩ = some (.int .i64 a0_0) ∧ w'.cell? ⟨gb103, 1, none⟩ = some (.slice A0_1 l0_1.length c0_1)) (ds := []) (ba 19 0) (by kernel_rfl) rfl (by kernel_rfl) ⟨bca BK103, bcb BK103⟩ (fun hHeld => ?_); refine with_tabW impl_Net_walk.tab4 impl_Net_walk.bits4 (fun HT_ HW_ => ?_)
   generalize wr.drew = w21 at BK103 HB hHeld ⊢
   refine pU 1 15 19 2 HT_ ?_
   refine tU 0 14 19 3 HT_ HW_ hHeld ?_
   refine one_ (i := 2) (N := some 16) (ba 19 7) rfl rfl (one_of HT_.out (by kernel_rfl)) (by decide) (fun K hK => ?_)
   refine goes_ Try.func57 (by kernel_rfl) rfl #[.agg #[.int .i64 a0_0, .slice A0_1 l0_1.length c0_1], .int .i64 (rd l1 x9_1)] (by rfl) rfl rfl qm ?_
   with_reducible refine (impl_Net_knot.calls a0_0 _ _ l0_1 (rd l1 x9_1) true _ ?side1 ?side2 A7.out).mono ?_
   (case side1 => exact qc (Kd.C_below HR0_1.out HB.out))
   (case side2 => exact HC0_1.out)
   rintro e w22 ⟨rfl, hb⟩
   refine ⟨_, rfl, ?_⟩
   replace BK103 := kd BK103 hb
   replace HB := bp HB hb
   (try clear hb)
   (try clear hb2)
   (try clear hk)
   (try clear hi)
   refine hK.out _ _ ⟨bca BK103, bcb BK103⟩ (fun hHeld => ?_)
   clear hK K
   refine nu 16 ?_
   refine pU 3 17 19 15 HT_ ?_
   refine pU 4 18 19 31 HT_ ?_
   refine pU 5 19 19 63 HT_ ?_
   refine pU 6 20 19 127 HT_ ?_
   refine pU 7 21 19 255 HT_ ?_
   refine pV 8 22 19 511 HT_ ?_
   refine pV 9 23 19 1023 HT_ ?_
   refine pV 10 24 19 2047 HT_ ?_
   refine pV 11 25 19 4095 HT_ ?_
   refine pV 12 26 19 8191 HT_ ?_
   refine pV 13 27 19 16383 HT_ ?_
   refine pV 14 28 19 32767 HT_ ?_
   refine pV 15 29 19 65535 HT_ ?_
   refine pV 16 30 19 131071 HT_ ?_
   refine pU 17 31 19 262143 HT_ ?_
   refine pU 18 32 19 524287 HT_ ?_
   refine done_ (done_of HT_.out (by kernel_rfl)) ?_
   try go_wp2
   go_roundg k1
   case measure => have := HK1.out; omega
   case rel => exact ⟨(wrap64 (x9_1 + 1)), qs, H', ⟨by have := HK1.out; omega⟩, ⟨qk BK103.out⟩, ⟨qb HB.out⟩⟩
 rw [if_pos c9] at H
 have c9b0 := decide_eq_true c9
 clear c9
 obtain ⟨ji10, hji10⟩ : ∃ j_ : Int, (wrap64 (x9_1 - 1)) = j_ := ⟨_, rfl⟩
 replace H : (if 0 ≤ (ji10) then (if (ji10) < (l1.length : Int) then ((impl_Net_has.f k1 a0_0 l0_1 (rd l1 (ji10)) (rd l1 x9_1)).bind fun t102 => (if t102 = true then (impl_Net_walk.l0 k1 l1 l1 (l1.length : Int) (wrap64 (x9_1 + 1)) a0_0 l0_1) else (some false))) else (none)) else (none)) = some r := by first | (rw [hji10] at H; exact H) | (simp only [hji10] at H ⊢; exact H)
 (try rw [hji10] at A7)
 have hji10w : (IntKind.i64.wrap (x9_1 - 1)) = ji10 := (i64_w _).trans hji10
 obtain ⟨c11, H⟩ : (0 ≤ (ji10)) ∧ _ := og H
 have c11b0 := decide_eq_true c11
 clear c11
 obtain ⟨c12, H⟩ : ((ji10) < (l1.length : Int)) ∧ _ := og H
 have c12b0 := decide_eq_true c12
 clear c12
 obtain ⟨t102, A13, H⟩ := ob H
 by_cases c14 : t102 = true
 rotate_left
 · replace c14 := Bool.eq_false_iff.mpr c14
   subst c14
   rw [if_neg nf] at H
   obtain rfl := Option.some.inj H
   have p100 : 0 ≤ (x9_1 : Int) := of_decide_eq_true qa
   have q100 : x9_1 < (l1.length : Int) := of_decide_eq_true qa
   obtain ⟨ad100, e100, hx100_0⟩ := Kd.at_int HR1.out x9_1 p100 q100
   cases e100
   replace hx100_0 := hcl HB.out hx100_0
   replace p100 := eq_true p100
   replace q100 := eq_true q100
   try go_wp2
   replace BK103 := q0 (blk_drew BK103.out)
   replace HB := q0 (below_drew1 HB.out)
   have p105 : 0 ≤ ((ji10) : Int) := of_decide_eq_true qa
   have q105 : (ji10) < (l1.length : Int) := of_decide_eq_true qa
   obtain ⟨ad105, e105, hx105_0⟩ := Kd.at_int HR1.out (ji10) p105 q105
   have hw105_0 := hx105_0
   obtain rfl : ad100 = ad105 := (by injection e105)
   replace hx105_0 := hcl HB.out hx105_0
   replace p105 := eq_true p105
   replace q105 := eq_true q105
   refine start_ (n := 19) (S := fun w' => w'.cell? ⟨gb103, 0, none⟩ = some (.int .i64 a0_0) ∧ w'.cell? ⟨gb103, 1, none⟩ = some (.slice A0_1 l0_1.length c0_1) ∧ w'.cell? (ad100.add ((ji10)).toNat) = some (.int .i64 (rd l1 (ji10)))) (ds := []) (ba 19 0) (by kernel_rfl) rfl (by kernel_rfl) ⟨bca BK103, bcb BK103, ((HB.out.cell (World.block_lt_of_cell? w _ hw105_0)).trans hw105_0)⟩ (fun hHeld => ?_); refine with_tabW impl_Net_walk.tab4 impl_Net_walk.bits4 (fun HT_ HW_ => ?_)
   generalize wr.drew = w18 at BK103 HB hx105_0 hHeld ⊢
   refine pU 1 15 19 2 HT_ ?_
   refine tU 0 14 19 3 HT_ HW_ hHeld ?_
   refine one_ (i := 2) (N := some 16) (ba 19 7) rfl rfl (one_of HT_.out (by kernel_rfl)) (by decide) (fun K hK => ?_)
   refine goes_ Try.func57 (by kernel_rfl) rfl #[.agg #[.int .i64 a0_0, .slice A0_1 l0_1.length c0_1], .int .i64 (rd l1 x9_1)] (by rfl) rfl rfl qm ?_
   with_reducible refine (impl_Net_knot.calls a0_0 _ _ l0_1 (rd l1 x9_1) true _ ?side1 ?side2 A7.out).mono ?_
   (case side1 => exact qc (Kd.C_below HR0_1.out HB.out))
   (case side2 => exact HC0_1.out)
   rintro e w19 ⟨rfl, hb⟩
   refine ⟨_, rfl, ?_⟩
   replace BK103 := kd BK103 hb
   replace HB := bp HB hb
   (try clear hb)
   (try clear hb2)
   (try clear hk)
   (try clear hi)
   refine hK.out _ _ ⟨bca BK103, bcb BK103, ((HB.out.cell (World.block_lt_of_cell? w _ hw105_0)).trans hw105_0)⟩ (fun hHeld => ?_)
   clear hK K
   refine nu 16 ?_
   refine pU 3 17 19 15 HT_ ?_
   refine pU 4 18 19 31 HT_ ?_
   refine pU 5 19 19 63 HT_ ?_
   refine pU 6 20 19 127 HT_ ?_
   refine pU 7 21 19 255 HT_ ?_
   refine pU 9 23 19 767 HT_ ?_
   refine pU 10 24 19 1791 HT_ ?_
   refine pU 11 25 19 3839 HT_ ?_
   refine pU 12 26 19 7935 HT_ ?_
   refine pU 14 28 19 24319 HT_ ?_
   refine tU 8 22 19 24575 HT_ HW_ hHeld ?_
   refine tU 13 27 19 32767 HT_ HW_ hHeld ?_
   refine one_ (i := 15) (N := some 29) (ba 19 65535) rfl rfl (one_of HT_.out (by kernel_rfl)) (by decide) (fun K hK => ?_)
   refine goes_ Try.func71 (by kernel_rfl) rfl #[.agg #[.int .i64 a0_0, .slice A0_1 l0_1.length c0_1], .int .i64 (rd l1 (ji10)), .int .i64 (rd l1 x9_1)] (by rfl) rfl rfl (by (try simp only [List.map_toArray, List.map_cons, List.map_nil]); first | done | (simp only [hji10]; rfl) | rfl | (simp only [List.length_drop, List.length_take]; rfl)) ?_
   with_reducible refine (impl_Net_has.calls k1 a0_0 _ _ l0_1 (rd l1 (ji10)) (rd l1 x9_1) false _ ?side1 ?side2 A13.out).mono ?_
   (case side1 => exact qc (Kd.C_below HR0_1.out HB.out))
   (case side2 => exact HC0_1.out)
   rintro e w20 ⟨rfl, hb⟩
   refine ⟨_, rfl, ?_⟩
   replace BK103 := kd BK103 hb
   replace HB := bp HB hb
   (try clear hb)
   (try clear hb2)
   (try clear hk)
   (try clear hi)
   refine hK.out _ _ ⟨bca BK103, bcb BK103, ((HB.out.cell (World.block_lt_of_cell? w _ hw105_0)).trans hw105_0)⟩ (fun hHeld => ?_)
   clear hK K
   refine nu 29 ?_
   refine pU 16 30 19 131071 HT_ ?_
   refine pU 17 31 19 262143 HT_ ?_
   refine pU 18 32 19 524287 HT_ ?_
   refine done_ (done_of HT_.out (by kernel_rfl)) ?_
   try go_wp2
   go_ret
   exact ⟨by first | rfl | (simp [errW_none, errW_some] <;> rfl) | (simp only [← hji10]; first | rfl | (simp [errW_none, errW_some] <;> rfl)) | (simp [*, errW_none, errW_some] <;> rfl), qb HB.out⟩
 subst c14
 rw [if_pos rfl] at H
 have H' := q0 H
 clear H
 have p100 : 0 ≤ (x9_1 : Int) := of_decide_eq_true qa
 have q100 : x9_1 < (l1.length : Int) := of_decide_eq_true qa
 obtain ⟨ad100, e100, hx100_0⟩ := Kd.at_int HR1.out x9_1 p100 q100
 cases e100
 replace hx100_0 := hcl HB.out hx100_0
 replace p100 := eq_true p100
 replace q100 := eq_true q100
 try go_wp2
 replace BK103 := q0 (blk_drew BK103.out)
 replace HB := q0 (below_drew1 HB.out)
 have p105 : 0 ≤ ((ji10) : Int) := of_decide_eq_true qa
 have q105 : (ji10) < (l1.length : Int) := of_decide_eq_true qa
 obtain ⟨ad105, e105, hx105_0⟩ := Kd.at_int HR1.out (ji10) p105 q105
 have hw105_0 := hx105_0
 obtain rfl : ad100 = ad105 := (by injection e105)
 replace hx105_0 := hcl HB.out hx105_0
 replace p105 := eq_true p105
 replace q105 := eq_true q105
 refine start_ (n := 19) (S := fun w' => w'.cell? ⟨gb103, 0, none⟩ = some (.int .i64 a0_0) ∧ w'.cell? ⟨gb103, 1, none⟩ = some (.slice A0_1 l0_1.length c0_1) ∧ w'.cell? (ad100.add ((ji10)).toNat) = some (.int .i64 (rd l1 (ji10)))) (ds := []) (ba 19 0) (by kernel_rfl) rfl (by kernel_rfl) ⟨bca BK103, bcb BK103, ((HB.out.cell (World.block_lt_of_cell? w _ hw105_0)).trans hw105_0)⟩ (fun hHeld => ?_); refine with_tabW impl_Net_walk.tab4 impl_Net_walk.bits4 (fun HT_ HW_ => ?_)
 generalize wr.drew = w15 at BK103 HB hx105_0 hHeld ⊢
 refine pU 1 15 19 2 HT_ ?_
 refine tU 0 14 19 3 HT_ HW_ hHeld ?_
 refine one_ (i := 2) (N := some 16) (ba 19 7) rfl rfl (one_of HT_.out (by kernel_rfl)) (by decide) (fun K hK => ?_)
 refine goes_ Try.func57 (by kernel_rfl) rfl #[.agg #[.int .i64 a0_0, .slice A0_1 l0_1.length c0_1], .int .i64 (rd l1 x9_1)] (by rfl) rfl rfl qm ?_
 with_reducible refine (impl_Net_knot.calls a0_0 _ _ l0_1 (rd l1 x9_1) true _ ?side1 ?side2 A7.out).mono ?_
 (case side1 => exact qc (Kd.C_below HR0_1.out HB.out))
 (case side2 => exact HC0_1.out)
 rintro e w16 ⟨rfl, hb⟩
 refine ⟨_, rfl, ?_⟩
 replace BK103 := kd BK103 hb
 replace HB := bp HB hb
 (try clear hb)
 (try clear hb2)
 (try clear hk)
 (try clear hi)
 refine hK.out _ _ ⟨bca BK103, bcb BK103, ((HB.out.cell (World.block_lt_of_cell? w _ hw105_0)).trans hw105_0)⟩ (fun hHeld => ?_)
 clear hK K
 refine nu 16 ?_
 refine pU 3 17 19 15 HT_ ?_
 refine pU 4 18 19 31 HT_ ?_
 refine pU 5 19 19 63 HT_ ?_
 refine pU 6 20 19 127 HT_ ?_
 refine pU 7 21 19 255 HT_ ?_
 refine pU 9 23 19 767 HT_ ?_
 refine pU 10 24 19 1791 HT_ ?_
 refine pU 11 25 19 3839 HT_ ?_
 refine pU 12 26 19 7935 HT_ ?_
 refine pU 14 28 19 24319 HT_ ?_
 refine tU 8 22 19 24575 HT_ HW_ hHeld ?_
 refine tU 13 27 19 32767 HT_ HW_ hHeld ?_
 refine one_ (i := 15) (N := some 29) (ba 19 65535) rfl rfl (one_of HT_.out (by kernel_rfl)) (by decide) (fun K hK => ?_)
 refine goes_ Try.func71 (by kernel_rfl) rfl #[.agg #[.int .i64 a0_0, .slice A0_1 l0_1.length c0_1], .int .i64 (rd l1 (ji10)), .int .i64 (rd l1 x9_1)] (by rfl) rfl rfl (by (try simp only [List.map_toArray, List.map_cons, List.map_nil]); first | done | (simp only [hji10]; rfl) | rfl | (simp only [List.length_drop, List.length_take]; rfl)) ?_
 with_reducible refine (impl_Net_has.calls k1 a0_0 _ _ l0_1 (rd l1 (ji10)) (rd l1 x9_1) true _ ?side1 ?side2 A13.out).mono ?_
 (case side1 => exact qc (Kd.C_below HR0_1.out HB.out))
 (case side2 => exact HC0_1.out)
 rintro e w17 ⟨rfl, hb⟩
 refine ⟨_, rfl, ?_⟩
 replace BK103 := kd BK103 hb
 replace HB := bp HB hb
 (try clear hb)
 (try clear hb2)
 (try clear hk)
 (try clear hi)
 refine hK.out _ _ ⟨bca BK103, bcb BK103, ((HB.out.cell (World.block_lt_of_cell? w _ hw105_0)).trans hw105_0)⟩ (fun hHeld => ?_)
 clear hK K
 refine nu 29 ?_
 refine pU 16 30 19 131071 HT_ ?_
 refine pU 17 31 19 262143 HT_ ?_
 refine pU 18 32 19 524287 HT_ ?_
 refine done_ (done_of HT_.out (by kernel_rfl)) ?_
 try go_wp2
 go_roundg k1
 case measure => have := HK1.out; omega
 case rel => exact ⟨(wrap64 (x9_1 + 1)), qs, H', ⟨by have := HK1.out; omega⟩, ⟨qk BK103.out⟩, ⟨qb HB.out⟩⟩

set_option maxHeartbeats 8000000 in
set_option maxRecDepth 100000 in
theorem impl_different.calls (k : Nat) (A0 : Option Addr) (c0 : Nat) (l0 : List Int) (r : Bool) (w : World) (hr0 : Kd.C (Kd.int .i64) w A0 l0.length l0) (hc0 : l0.length ≤ c0) (h : impl_different.f k l0 = some r) :
    Calls Try.prog 90 #[.slice A0 l0.length c0] w fun e w' => e = .returned (.bool r) ∧ Drawn0 w w' := by
 have HR0 := q0 hr0
 have HC0 := q0 hc0
 clear hr0 hc0
 have H : (impl_different.l0 k l0 l0 (l0.length : Int) 0) = some r := h
 clear h
 have H' := q0 H
 clear H
 go_enter Try.func90, Try.ntmps90
 go_wp2
 go_loopg [7] k (fun kq v7 w' => ∃ (x7_1 : Int), v7 = .int .i64 x7_1 ∧ Aside0 (impl_different.l0 kq l0 l0 (l0.length : Int) x7_1 = some r) ∧ Aside0 (kq ≤ k) ∧ Drawn0 w w')
 case atStart => exact ⟨(0), qs, H', ⟨Nat.le_refl _⟩, by repeat (first | exact Drawn0.refl _ | apply Drawn0.step)⟩
 clear H'
 obtain ⟨x7_1, rfl, HA, HK1, ⟨m1, rfl⟩⟩ := hrel
 rcases gk with _ | k1
 · exact absurd HA.out (by simp [impl_different.l0])
 have H := HA.out
 clear HA
 simp only [impl_different.l0] at H
 by_cases c2 : x7_1 < (l0.length : Int)
 rotate_left
 · rw [if_neg c2] at H
   have c2b0 := decide_eq_false c2
   clear c2
   obtain rfl := Option.some.inj H
   go_wp2
   go_ret
   exact ⟨by first | rfl | (simp; done) | (simp [*]; done), by repeat (first | exact Drawn0.refl _ | apply Drawn0.step)⟩
 rw [if_pos c2] at H
 have c2b0 := decide_eq_true c2
 clear c2
 obtain ⟨c3, H⟩ : (0 ≤ x7_1) ∧ _ := og H
 have c3b0 := decide_eq_true c3
 clear c3
 obtain ⟨c4, H⟩ : (x7_1 < (l0.length : Int)) ∧ _ := og H
 have c4b0 := decide_eq_true c4
 clear c4
 have c5b0 := eq_true (of_decide_eq_true qa : 0 ≤ x7_1)
 obtain ⟨c6, H⟩ : (x7_1 ≤ (l0.length : Int)) ∧ _ := og H
 have c6b0 := eq_true c6
 have c6b1 := decide_eq_true c6
 clear c6
 obtain ⟨t100, A7, H⟩ := ob H
 by_cases c8 : t100 = true
 · subst c8
   rw [if_pos rfl] at H
   obtain rfl := Option.some.inj H
   have p101 : 0 ≤ (x7_1 : Int) := of_decide_eq_true qa
   have q101 : x7_1 < (l0.length : Int) := of_decide_eq_true qa
   obtain ⟨ad101, e101, hx101_0⟩ := Kd.at_int HR0.out x7_1 p101 q101
   cases e101
   replace p101 := eq_true p101
   replace q101 := eq_true q101
   obtain ⟨i09, hi09, _, hsz9, _⟩ := info_parts info3
   obtain ⟨hcut9, hA9, hC9⟩ := print_take_of (P := Try.prog) (Value.int .i64) 0 60 3 .i64 Try.underlying60 hi09 hsz9 (some ad101) c0 l0 x7_1 (of_decide_eq_true qa) (of_decide_eq_true qa) HC0.out
   have HR102 := q0 (Kd.C_of_reads (h1 := fun _ => rfl) (hA9 _ (Kd.reads_of_C HR0.out)))
   have HC102 := q0 hC9
   clear hA9 hC9 hi09 hsz9
   go_wp2_with (first | ((with_reducible refine gf 108 ?_); refine goesL_ (some 16) rfl rfl Try.func108 (by kernel_rfl) rfl #[.slice (some ad101) (l0.take (x7_1 : Int).toNat).length c0, .int .i64 (rd l0 x7_1)] rfl (by (try simp only [List.map_toArray, List.map_cons, List.map_nil]); first | done | (rw [show (l0.take (x7_1 : Int).toNat).length = x7_1.toNat from (by rw [List.length_take]; have h_ : (x7_1 : Int) ≤ (l0.length : Int) := of_decide_eq_true qa; omega)] <;> rfl) | rfl | (simp only [List.length_drop, List.length_take]; rfl)) ?_; (with_reducible refine (slices_Contains_int.calls k1 _ _ (l0.take (x7_1 : Int).toNat) (rd l0 x7_1) true _ ?side1 ?side2 A7.out).mono ?_); (case side1 => repeat (first | exact HR102.out | (with_reducible refine Kd.C_alloc ?_ _) | (with_reducible refine Kd.C_drewN ?_ _) | (with_reducible refine Kd.C_drew ?_))); (case side2 => exact HC102.out); rintro e w' ⟨rfl, ⟨nd, rfl⟩⟩; refine ⟨_, rfl, ?_⟩))
   go_ret
   exact ⟨by first | rfl | (simp; done) | (simp [*]; done), by repeat (first | exact Drawn0.refl _ | apply Drawn0.step)⟩
 replace c8 := Bool.eq_false_iff.mpr c8
 subst c8
 rw [if_neg nf] at H
 have H' := q0 H
 clear H
 have p101 : 0 ≤ (x7_1 : Int) := of_decide_eq_true qa
 have q101 : x7_1 < (l0.length : Int) := of_decide_eq_true qa
 obtain ⟨ad101, e101, hx101_0⟩ := Kd.at_int HR0.out x7_1 p101 q101
 cases e101
 replace p101 := eq_true p101
 replace q101 := eq_true q101
 obtain ⟨i103, hi103, _, hsz10, _⟩ := info_parts info3
 obtain ⟨hcut10, hA10, hC10⟩ := print_take_of (P := Try.prog) (Value.int .i64) 0 60 3 .i64 Try.underlying60 hi103 hsz10 (some ad101) c0 l0 x7_1 (of_decide_eq_true qa) (of_decide_eq_true qa) HC0.out
 have HR102 := q0 (Kd.C_of_reads (h1 := fun _ => rfl) (hA10 _ (Kd.reads_of_C HR0.out)))
 have HC102 := q0 hC10
 clear hA10 hC10 hi103 hsz10
 go_wp2_with (first | ((with_reducible refine gf 108 ?_); refine goesL_ (some 16) rfl rfl Try.func108 (by kernel_rfl) rfl #[.slice (some ad101) (l0.take (x7_1 : Int).toNat).length c0, .int .i64 (rd l0 x7_1)] rfl (by (try simp only [List.map_toArray, List.map_cons, List.map_nil]); first | done | (rw [show (l0.take (x7_1 : Int).toNat).length = x7_1.toNat from (by rw [List.length_take]; have h_ : (x7_1 : Int) ≤ (l0.length : Int) := of_decide_eq_true qa; omega)] <;> rfl) | rfl | (simp only [List.length_drop, List.length_take]; rfl)) ?_; (with_reducible refine (slices_Contains_int.calls k1 _ _ (l0.take (x7_1 : Int).toNat) (rd l0 x7_1) false _ ?side1 ?side2 A7.out).mono ?_); (case side1 => repeat (first | exact HR102.out | (with_reducible refine Kd.C_alloc ?_ _) | (with_reducible refine Kd.C_drewN ?_ _) | (with_reducible refine Kd.C_drew ?_))); (case side2 => exact HC102.out); rintro e w' ⟨rfl, ⟨nd, rfl⟩⟩; refine ⟨_, rfl, ?_⟩))
 go_roundg k1
 case measure => have := HK1.out; omega
 case rel => exact ⟨(wrap64 (x7_1 + 1)), qs, H', ⟨by have := HK1.out; omega⟩, by repeat (first | exact Drawn0.refl _ | apply Drawn0.step)⟩

set_option maxHeartbeats 8000000 in
set_option maxRecDepth 100000 in
theorem impl_WayOk.calls (k : Nat) (a0_0 : Int) (A0_1 : Option Addr) (c0_1 : Nat) (l0_1 : List (STie)) (A1 : Option Addr) (c1 : Nat) (l1 : List Int) (r : Bool) (w : World) (hr0_1 : Kd.C kTie w A0_1 l0_1.length l0_1) (hc0_1 : l0_1.length ≤ c0_1) (hr1 : Kd.C (Kd.int .i64) w A1 l1.length l1) (hc1 : l1.length ≤ c1) (h : impl_WayOk.f k a0_0 l0_1 l1 = some r) :
    Calls Try.prog 50 #[.agg #[.int .i64 a0_0, .slice A0_1 l0_1.length c0_1], .slice A1 l1.length c1] w fun e w' => e = .returned (.bool r) ∧ Below w.heap.size w w' := by
 have hu25 := Try.underlying25
 have HR0_1 := q0 hr0_1
 have HC0_1 := q0 hc0_1
 clear hr0_1 hc0_1
 have HR1 := q0 hr1
 have HC1 := q0 hc1
 clear hr1 hc1
 have HB := q0 (Below.refl w.heap.size w)
 have H : ((impl_NetOk.f k a0_0 l0_1).bind fun t100 => (if t100 = true then (if (l1.length : Int) > 0 then ((impl_Net_walk.f k a0_0 l0_1 l1).bind fun t101 => (if t101 = true then ((impl_different.f k l1).bind fun t102 => (some t102)) else (some false))) else (some false)) else (some false))) = some r := h
 clear h
 obtain ⟨t100, A3, H⟩ := ob H
 by_cases c4 : t100 = true
 rotate_left
 · replace c4 := Bool.eq_false_iff.mpr c4
   subst c4
   rw [if_neg nf] at H
   obtain rfl := Option.some.inj H
   go_enter Try.func50, Try.ntmps50
   go_wp2_with (first | ((with_reducible refine gd 2 ?_); (try (refine gate_guard (by rfl) ?_; dsimp only)); refine be 2 #[.int .i64 a0_0, .slice A0_1 l0_1.length c0_1] 25 ?_; intro gb103 hg w22 hbox hb; have BK103 := q0 (hbox); have GW103 := gw HB hg; have GE103 := gw HB hg; replace HB := bp HB hb; clear hb hbox hg; obtain ⟨hcz23_0, hcz23_1, hfz23_0, hfz23_1⟩ := b2 BK103) | ((with_reducible refine gf 37 ?_); refine gl 6 Try.func37 #[.agg #[.int .i64 a0_0, .slice A0_1 l0_1.length c0_1]] ?_; (with_reducible refine (impl_NetOk.calls k a0_0 _ _ l0_1 false _ ?side1 ?side2 A3.out).mono ?_); (case side1 => exact qc (Kd.C_below HR0_1.out HB.out)); (case side2 => exact HC0_1.out); rintro e w24 ⟨rfl, hb⟩; refine ⟨_, rfl, ?_⟩; replace BK103 := kd BK103 hb; replace HB := bp HB hb; (try clear hb); (try clear hb2); (try clear hk); (try clear hi)))
   go_ret
   exact ⟨qe, qb HB.out⟩
 subst c4
 rw [if_pos rfl] at H
 by_cases c5 : (l1.length : Int) > 0
 rotate_left
 · rw [if_neg c5] at H
   have c5b0 := decide_eq_false c5
   have c5b1 : decide (0 < l1.length) = false := decide_eq_false (by omega)
   clear c5
   obtain rfl := Option.some.inj H
   go_enter Try.func50, Try.ntmps50
   go_wp2_with (first | ((with_reducible refine gd 2 ?_); (try (refine gate_guard (by rfl) ?_; dsimp only)); refine be 2 #[.int .i64 a0_0, .slice A0_1 l0_1.length c0_1] 25 ?_; intro gb103 hg w19 hbox hb; have BK103 := q0 (hbox); have GW103 := gw HB hg; have GE103 := gw HB hg; replace HB := bp HB hb; clear hb hbox hg; obtain ⟨hcz20_0, hcz20_1, hfz20_0, hfz20_1⟩ := b2 BK103) | ((with_reducible refine gf 37 ?_); refine gl 6 Try.func37 #[.agg #[.int .i64 a0_0, .slice A0_1 l0_1.length c0_1]] ?_; (with_reducible refine (impl_NetOk.calls k a0_0 _ _ l0_1 true _ ?side1 ?side2 A3.out).mono ?_); (case side1 => exact qc (Kd.C_below HR0_1.out HB.out)); (case side2 => exact HC0_1.out); rintro e w21 ⟨rfl, hb⟩; refine ⟨_, rfl, ?_⟩; replace BK103 := kd BK103 hb; replace HB := bp HB hb; (try clear hb); (try clear hb2); (try clear hk); (try clear hi)))
   go_ret
   exact ⟨qe, qb HB.out⟩
 rw [if_pos c5] at H
 have c5b0 := decide_eq_true c5
 have c5b1 : decide (0 < l1.length) = true := decide_eq_true (by omega)
 clear c5
 obtain ⟨t101, A6, H⟩ := ob H
 by_cases c7 : t101 = true
 rotate_left
 · replace c7 := Bool.eq_false_iff.mpr c7
   subst c7
   rw [if_neg nf] at H
   obtain rfl := Option.some.inj H
   go_enter Try.func50, Try.ntmps50
   go_wp2_with (first | ((with_reducible refine gd 2 ?_); (try (refine gate_guard (by rfl) ?_; dsimp only)); refine be 2 #[.int .i64 a0_0, .slice A0_1 l0_1.length c0_1] 25 ?_; intro gb103 hg w14 hbox hb; have BK103 := q0 (hbox); have GW103 := gw HB hg; have GE103 := gw HB hg; replace HB := bp HB hb; clear hb hbox hg; obtain ⟨hcz15_0, hcz15_1, hfz15_0, hfz15_1⟩ := b2 BK103) | ((with_reducible refine gf 37 ?_); refine gl 6 Try.func37 #[.agg #[.int .i64 a0_0, .slice A0_1 l0_1.length c0_1]] ?_; (with_reducible refine (impl_NetOk.calls k a0_0 _ _ l0_1 true _ ?side1 ?side2 A3.out).mono ?_); (case side1 => exact qc (Kd.C_below HR0_1.out HB.out)); (case side2 => exact HC0_1.out); rintro e w16 ⟨rfl, hb⟩; refine ⟨_, rfl, ?_⟩; replace BK103 := kd BK103 hb; replace HB := bp HB hb; (try clear hb); (try clear hb2); (try clear hk); (try clear hi); obtain ⟨hcz17_0, hcz17_1, hfz17_0, hfz17_1⟩ := b2 BK103) | (go_at_call 89; (with_reducible refine (impl_Net_walk.calls k a0_0 _ _ l0_1 _ _ l1 false _ ?side1 ?side2 ?side3 ?side4 A6.out).mono ?_); (case side1 => exact qc (Kd.C_below HR0_1.out HB.out)); (case side2 => exact HC0_1.out); (case side3 => exact qc (Kd.C_below HR1.out HB.out)); (case side4 => exact HC1.out); rintro e w18 ⟨rfl, hb⟩; replace BK103 := kd BK103 hb; replace HB := bp HB hb; (try clear hb); (try clear hb2); (try clear hk); (try clear hi)))
   go_ret
   exact ⟨qe, qb HB.out⟩
 subst c7
 rw [if_pos rfl] at H
 obtain ⟨t102, A8, H⟩ := ob H
 obtain rfl := Option.some.inj H
 go_enter Try.func50, Try.ntmps50
 go_wp2_with (first | ((with_reducible refine gd 2 ?_); (try (refine gate_guard (by rfl) ?_; dsimp only)); refine be 2 #[.int .i64 a0_0, .slice A0_1 l0_1.length c0_1] 25 ?_; intro gb103 hg w9 hbox hb; have BK103 := q0 (hbox); have GW103 := gw HB hg; have GE103 := gw HB hg; replace HB := bp HB hb; clear hb hbox hg; obtain ⟨hcz10_0, hcz10_1, hfz10_0, hfz10_1⟩ := b2 BK103) | ((with_reducible refine gf 37 ?_); refine gl 6 Try.func37 #[.agg #[.int .i64 a0_0, .slice A0_1 l0_1.length c0_1]] ?_; (with_reducible refine (impl_NetOk.calls k a0_0 _ _ l0_1 true _ ?side1 ?side2 A3.out).mono ?_); (case side1 => exact qc (Kd.C_below HR0_1.out HB.out)); (case side2 => exact HC0_1.out); rintro e w11 ⟨rfl, hb⟩; refine ⟨_, rfl, ?_⟩; replace BK103 := kd BK103 hb; replace HB := bp HB hb; (try clear hb); (try clear hb2); (try clear hk); (try clear hi); obtain ⟨hcz12_0, hcz12_1, hfz12_0, hfz12_1⟩ := b2 BK103) | (go_at_call 89; (with_reducible refine (impl_Net_walk.calls k a0_0 _ _ l0_1 _ _ l1 true _ ?side1 ?side2 ?side3 ?side4 A6.out).mono ?_); (case side1 => exact qc (Kd.C_below HR0_1.out HB.out)); (case side2 => exact HC0_1.out); (case side3 => exact qc (Kd.C_below HR1.out HB.out)); (case side4 => exact HC1.out); rintro e w13 ⟨rfl, hb⟩; replace BK103 := kd BK103 hb; replace HB := bp HB hb; (try clear hb); (try clear hb2); (try clear hk); (try clear hi)) | (go_at_call 90; (with_reducible refine (impl_different.calls k _ _ l1 t102 _ ?side1 ?side2 A8.out).mono ?_); (case side1 => exact qc (Kd.C_below HR1.out HB.out)); (case side2 => exact HC1.out); rintro e w' ⟨rfl, ⟨nd, rfl⟩⟩))
 go_ret
 exact ⟨qe, qb HB.out⟩

def laws_FnTreeRings.T11 : Bool × List (List Nat × List Nat) := (true, [([], []), ([], []), ([0, 1], [0, 1]), ([2], [2]), ([3], [3]), ([4], [4]), ([], []), ([], []), ([6, 7], [6, 7]), ([8], [8]), ([], []), ([], []), ([10, 11], [10, 11]), ([12], [12]), ([13], [13]), ([14], [14]), ([9, 15], [9, 15]), ([16], [16]), ([5, 17], [5, 17]), ([], []), ([19, 18, 18, 0, 1, 2, 3, 4, 5, 6, 7, 8, 9, 10, 11, 12, 13, 14, 15, 16, 17, 18, 19], [18, 19])])
def laws_FnTreeRings.B11 : List Nat := [0, 0, 3, 7, 15, 31, 0, 0, 192, 448, 0, 0, 3072, 7168, 15360, 31744, 65472, 131008, 262143, 0, 1048575]
theorem laws_FnTreeRings.tab11 : rtab .any (opsOf Try.f12 11) = laws_FnTreeRings.T11 := by kernel_rfl
theorem laws_FnTreeRings.bits11 : waitsOk laws_FnTreeRings.T11.2 laws_FnTreeRings.B11 = true := by kernel_rfl
def laws_FnTreeRings.T12 : Bool × List (List Nat × List Nat) := (true, [([], []), ([], []), ([], []), ([1, 2], [1, 2]), ([3], [3]), ([0, 4], [0, 4]), ([5], [5]), ([6, 5], [6]), ([7], [7]), ([7], [7]), ([8, 9, 7], [7, 8, 9]), ([10, 7], [7, 10]), ([11, 7], [7, 11]), ([12, 7], [7, 12]), ([7, 13], [7, 13]), ([14, 7], [14]), ([15], [15]), ([16, 15], [15, 16]), ([15], [15]), ([17, 18, 15, 15], [15, 17, 18]), ([19, 15], [15, 19]), ([15, 20], [15, 20]), ([21, 19], [21]), ([22], [22]), ([22], [22]), ([23, 24, 22, 22], [22, 23, 24]), ([22, 25], [22, 25])])
def laws_FnTreeRings.B12 : List Nat := [0, 0, 0, 6, 14, 31, 63, 127, 255, 255, 1023, 2047, 4095, 8191, 16383, 32767, 65535, 131071, 65535, 524287, 1048575, 2097151, 4194303, 8388607, 8388607, 33554431, 67108863]
theorem laws_FnTreeRings.tab12 : rtab .any (opsOf Try.f12 12) = laws_FnTreeRings.T12 := by kernel_rfl
theorem laws_FnTreeRings.bits12 : waitsOk laws_FnTreeRings.T12.2 laws_FnTreeRings.B12 = true := by kernel_rfl
set_option maxHeartbeats 8000000 in
set_option maxRecDepth 100000 in
theorem laws_FnTreeRings.calls (k : Nat) (A0 : Option Addr) (c0 : Nat) (l0 : List Int) (r : Bool) (w : World) (hr0 : Kd.C (Kd.int .u8) w A0 l0.length l0) (hc0 : l0.length ≤ c0) (h : laws_FnTreeRings.f k l0 = some r) :
    Calls Try.prog 12 #[.slice A0 l0.length c0] w fun e w' => e = .returned (.bool r) ∧ Below w.heap.size w w' := by
 have hu25 := Try.underlying25
 have hu32 := Try.underlying32
 have HR0 := q0 hr0
 have HC0 := q0 hc0
 clear hr0 hc0
 have HB := q0 (Below.refl w.heap.size w)
 have H : (if (l0.length : Int) > 1048576 then (some true) else ((spec_DrawTreeRings.f k l0).bind fun bt108 => ((impl_TreeRings.f k bt108.1 bt108.2).bind fun t100 => ((spec_TreeRings.f k bt108.1 bt108.2).bind fun t109 => ((laws_loRows.f k t100 t109).bind fun t110 => (if t110 = true then ((spec_NetOk.f k bt108.1 bt108.2).bind fun t111 => (laws_FnTreeRings.j0 k t100 (!t111) bt108.1 bt108.2)) else (laws_FnTreeRings.j0 k t100 true bt108.1 bt108.2))))))) = some r := h
 clear h
 by_cases c2 : (l0.length : Int) > 1048576
 · rw [if_pos c2] at H
   have c2b0 := decide_eq_true c2
   have c2b1 : decide (1048576 < l0.length) = true := decide_eq_true (by omega)
   clear c2
   obtain rfl := Option.some.inj H
   go_enter Try.func12, Try.ntmps12
   go_wp2
   go_ret
   exact ⟨qe, qb HB.out⟩
 rw [if_neg c2] at H
 have c2b0 := decide_eq_false c2
 have c2b1 : decide (1048576 < l0.length) = false := decide_eq_false (by omega)
 clear c2
 obtain ⟨⟨t108, t112⟩, A3, H⟩ := ob H
 obtain ⟨t100, A4, H⟩ := ob H
 have HC5 := q0 H
 clear H
 go_enter Try.func12, Try.ntmps12
 go_upto_region 5 with (first | ((with_reducible refine gf 47 ?_); refine gl 12 Try.func47 #[.slice A0 l0.length c0] ?_; (with_reducible refine (spec_DrawTreeRings.calls k _ _ l0 t108 t112 _ ?side1 ?side2 A3.out).mono ?_); (case side1 => repeat (first | exact HR0.out | (with_reducible refine Kd.C_alloc ?_ _) | (with_reducible refine Kd.C_drewN ?_ _) | (with_reducible refine Kd.C_drew ?_))); (case side2 => exact HC0.out); rintro e w6 ⟨v113, rfl, ho0, hb⟩; refine ⟨_, rfl, ?_⟩; have HO114 := q0 (Kd.R_lower ho0 (below_size (qb HB.out))); replace HB := bp HB hb; (try clear hb); (try clear hb2); (try clear hk); (try clear hi); (try clear ho0)) | ((with_reducible refine gd 3 ?_); (try (refine gate_guard (by rfl) ?_; dsimp only)); refine be 3 #[.int .i64 0, .slice none 0 0] 25 ?_; intro gb115 hg w7 hbox hb; replace HO114 := q0 (Kd.R_below (qr HO114.out) hb); have BK115 := q0 (hbox); have GW115 := gw HB hg; have GE115 := gw HB hg; replace HB := bp HB hb; clear hb hbox hg; obtain ⟨hcz8_0, hcz8_1, hfz8_0, hfz8_1⟩ := b2 BK115; obtain ⟨Ao9, co9, eo9⟩ := Kd.R_slice HO114.out; subst eo9) | ((with_reducible refine gf 43 ?_); refine gl 14 Try.func43 #[.agg #[.int .i64 t108, .slice Ao9 t112.length co9]] ?_; (with_reducible refine (impl_TreeRings.calls k t108 _ _ t112 t100 _ ?side1 ?side2 A4.out).mono ?_); (case side1 => refine (Kd.R_reads' (e := 32) (base := w.heap.size) (ok := fun k_ => True) (n := t112.length) (c := co9) ?_).2.2; exact (by (with_reducible repeat (first | apply Kd.R_alloc | apply Kd.R_drewN | apply Kd.R_drew)); exact (rf2 HO114.out BK115.out (fun _ h_ => h_.1)))); (case side2 => exact (Kd.R_reads' HO114.out).2.1); rintro e w10 ⟨v116, rfl, ho0, hb⟩; refine ⟨_, rfl, ?_⟩; replace HO114 := q0 (Kd.R_below (by (with_reducible repeat (first | apply Kd.R_alloc | apply Kd.R_drewN | apply Kd.R_drew)); exact (rf2 HO114.out BK115.out (fun _ h_ => h_.1))) hb); have HO117 := q0 (Kd.S_lower ho0 (below_size (qb HB.out))); replace BK115 := q0 (blk_below (g := gb115) (o := .cells #[.int .i64 t108, .slice Ao9 t112.length co9] 25 (0, 0)) (by (with_reducible repeat (first | refine blk_drewN ?_ _ | refine blk_drew ?_ | refine blk_alloc ?_ _)); refine blk_put (cs := #[.int .i64 t108, .slice none 0 0]) ?_ 1 _ rfl; (with_reducible repeat (first | refine blk_drewN ?_ _ | refine blk_drew ?_ | refine blk_alloc ?_ _)); refine blk_put (cs := #[.int .i64 0, .slice none 0 0]) ?_ 0 _ rfl; (with_reducible repeat (first | refine blk_drewN ?_ _ | refine blk_drew ?_ | refine blk_alloc ?_ _)); exact BK115.out) hb); replace HB := bp HB hb; (try clear hb); (try clear hb2); (try clear hk); (try clear hi); (try clear ho0)))
 (try simp only [Act.put, List.setIfInBounds_toArray, List.set_cons_zero, List.set_cons_succ])
 go_cut [24] (fun v24 wc => ∃ (kq : Nat) (x24_4 : Bool), v24 = .bool x24_4 ∧ Aside0 (laws_FnTreeRings.j0 kq t100 x24_4 t108 t112 = some r) ∧ Aside0 (kq ≤ k) ∧ Aside0 (Kd.S (Kd.slice 3 (Kd.int .i64)) 60 wc w.heap.size (fun _ => True) v116 t100) ∧ Aside0 (Kd.R kTie 32 wc w.heap.size (fun _ => True) (.slice Ao9 t112.length co9) t112) ∧ Aside0 (wc.heap[gb115]? = some (.cells #[.int .i64 t108, (.slice Ao9 t112.length co9)] 25 (0, 0))) ∧ Aside0 (Below w.heap.size w wc))
 case first =>
   have H := HC5.out
   clear HC5
   obtain ⟨t109, A11, H⟩ := ob H
   obtain ⟨t110, A12, H⟩ := ob H
   by_cases c13 : t110 = true
   rotate_left
   · replace c13 := Bool.eq_false_iff.mpr c13
     subst c13
     rw [if_neg nf] at H
     have H' := q0 H
     clear H
     obtain ⟨hcz21_0, hcz21_1, hfz21_0, hfz21_1⟩ := b2 BK115
     go_wp2_with (first | ((with_reducible refine gf 42 ?_); refine gl 17 Try.func42 #[.agg #[.int .i64 t108, .slice Ao9 t112.length co9]] ?_; (with_reducible refine (spec_TreeRings.calls k t108 _ _ t112 t109 _ ?side1 ?side2 A11.out).mono ?_); (case side1 => exact qc (Kd.R_reads' HO114.out).2.2); (case side2 => exact (Kd.R_reads' HO114.out).2.1); rintro e w22 ⟨v121, rfl, ho0, hb⟩; refine ⟨_, rfl, ?_⟩; replace HO114 := q0 (Kd.R_below (qr HO114.out) hb); have HO122 := q0 (Kd.S_lower (Kd.S_new' ho0 (Kd.S_lt (qv HO117.out))) (below_size (qb HB.out))); replace HO117 := q0 (Kd.S_elder' (qv HO117.out) (Kd.S_base ho0) hb); replace BK115 := kd BK115 hb; replace HB := bp HB hb; (try clear hb); (try clear hb2); (try clear hk); (try clear hi); (try clear ho0); obtain ⟨Ao23, co23, eo23⟩ := Kd.S_slice HO117.out; subst eo23; obtain ⟨Ao24, co24, eo24⟩ := Kd.S_slice HO122.out; subst eo24) | ((with_reducible refine gf 48 ?_); refine gl 18 Try.func48 #[.slice Ao23 t100.length co23, .slice Ao24 t109.length co24] ?_; (with_reducible refine (laws_loRows.calls k _ _ t100 _ _ t109 false _ ?side1 ?side2 ?side3 ?side4 A12.out).mono ?_); (case side1 => exact qc (Kd.S_reads' HO117.out).2.2); (case side2 => exact (Kd.S_reads' HO117.out).2.1); (case side3 => exact qc (Kd.S_reads' HO122.out).2.2); (case side4 => exact (Kd.S_reads' HO122.out).2.1); rintro e w' ⟨rfl, ⟨nd, rfl⟩⟩; refine ⟨_, rfl, ?_⟩))
     go_meet
     case rel => exact ⟨_, (true), qs, H', ⟨by first | omega | exact Nat.le_refl _⟩, ⟨by (with_reducible repeat (first | apply Kd.S_alloc | apply Kd.S_drewN | apply Kd.S_drew)); exact Kd.S_mono HO117.out (fun _ hk => trivial)⟩, ⟨qr HO114.out⟩, ⟨qk BK115.out⟩, ⟨qb HB.out⟩⟩
   subst c13
   rw [if_pos rfl] at H
   obtain ⟨t111, A14, H⟩ := ob H
   have H' := q0 H
   clear H
   obtain ⟨hcz15_0, hcz15_1, hfz15_0, hfz15_1⟩ := b2 BK115
   go_wp2_with (first | ((with_reducible refine gf 42 ?_); refine gl 17 Try.func42 #[.agg #[.int .i64 t108, .slice Ao9 t112.length co9]] ?_; (with_reducible refine (spec_TreeRings.calls k t108 _ _ t112 t109 _ ?side1 ?side2 A11.out).mono ?_); (case side1 => exact qc (Kd.R_reads' HO114.out).2.2); (case side2 => exact (Kd.R_reads' HO114.out).2.1); rintro e w16 ⟨v121, rfl, ho0, hb⟩; refine ⟨_, rfl, ?_⟩; replace HO114 := q0 (Kd.R_below (qr HO114.out) hb); have HO122 := q0 (Kd.S_lower (Kd.S_new' ho0 (Kd.S_lt (qv HO117.out))) (below_size (qb HB.out))); replace HO117 := q0 (Kd.S_elder' (qv HO117.out) (Kd.S_base ho0) hb); replace BK115 := kd BK115 hb; replace HB := bp HB hb; (try clear hb); (try clear hb2); (try clear hk); (try clear hi); (try clear ho0); obtain ⟨Ao17, co17, eo17⟩ := Kd.S_slice HO117.out; subst eo17; obtain ⟨Ao18, co18, eo18⟩ := Kd.S_slice HO122.out; subst eo18) | ((with_reducible refine gf 48 ?_); refine gl 18 Try.func48 #[.slice Ao17 t100.length co17, .slice Ao18 t109.length co18] ?_; (with_reducible refine (laws_loRows.calls k _ _ t100 _ _ t109 true _ ?side1 ?side2 ?side3 ?side4 A12.out).mono ?_); (case side1 => exact qc (Kd.S_reads' HO117.out).2.2); (case side2 => exact (Kd.S_reads' HO117.out).2.1); (case side3 => exact qc (Kd.S_reads' HO122.out).2.2); (case side4 => exact (Kd.S_reads' HO122.out).2.1); rintro e w' ⟨rfl, ⟨nd, rfl⟩⟩; refine ⟨_, rfl, ?_⟩; obtain ⟨hcz19_0, hcz19_1, hfz19_0, hfz19_1⟩ := b2 BK115) | (go_at_call 49; (with_reducible refine (spec_NetOk.calls k t108 _ _ t112 t111 _ ?side1 ?side2 A14.out).mono ?_); (case side1 => exact qc (Kd.R_reads' HO114.out).2.2); (case side2 => exact (Kd.R_reads' HO114.out).2.1); rintro e w20 ⟨rfl, hb⟩; replace HO114 := q0 (Kd.R_below (qr HO114.out) hb); replace HO117 := q0 (Kd.S_below (qv HO117.out) hb); replace HO122 := q0 (Kd.S_below (qv HO122.out) hb); replace BK115 := kd BK115 hb; replace HB := bp HB hb; (try clear hb); (try clear hb2); (try clear hk); (try clear hi)))
   go_meet
   case rel => exact ⟨_, (!t111), qs, H', ⟨by first | omega | exact Nat.le_refl _⟩, ⟨by (with_reducible repeat (first | apply Kd.S_alloc | apply Kd.S_drewN | apply Kd.S_drew)); exact Kd.S_mono HO117.out (fun _ hk => trivial)⟩, ⟨qr HO114.out⟩, ⟨qk BK115.out⟩, ⟨qb HB.out⟩⟩
 clear HC5
 try clear c1
 try clear c2
 try clear c2b0
 try clear c2b1
 try clear p2
 try clear c4
 try clear c12
 try clear c13
 try clear hcz15_0
 try clear hcz15_1
 try clear hcz19_0
 try clear hcz19_1
 try clear hcz21_0
 try clear hcz21_1
 try clear hcz8_0
 try clear hcz8_1
 try clear hfz15_0
 try clear hfz15_1
 try clear hfz19_0
 try clear hfz19_1
 try clear hfz21_0
 try clear hfz21_1
 try clear hfz8_0
 try clear hfz8_1
 obtain ⟨kq, x24_4, rfl, HA, HJ4, HO_4, HO_100001, BK115, HB⟩ := hcut
 rcases kq with _ | kj4
 · exact absurd HA.out (by simp [laws_FnTreeRings.j0])
 have H := HA.out
 clear HA
 simp only [laws_FnTreeRings.j0] at H
 by_cases c25 : x24_4 = true
 · subst c25
   rw [if_pos rfl] at H
   obtain ⟨t101, A26, H⟩ := ob H
   obtain ⟨t102, A27, H⟩ := ob H
   obtain rfl := Option.some.inj H
   obtain ⟨hcz28_0, hcz28_1, hfz28_0, hfz28_1⟩ := b2 BK115
   go_wp2_with (first | ((with_reducible refine gf 42 ?_); refine gl 27 Try.func42 #[.agg #[.int .i64 t108, .slice Ao9 t112.length co9]] ?_; (with_reducible refine (spec_TreeRings.calls kj4 t108 _ _ t112 t101 _ ?side1 ?side2 A26.out).mono ?_); (case side1 => exact qc (Kd.R_reads' HO_100001.out).2.2); (case side2 => exact (Kd.R_reads' HO_100001.out).2.1); rintro e w29 ⟨v125, rfl, ho0, hb⟩; refine ⟨_, rfl, ?_⟩; replace HO_100001 := q0 (Kd.R_below (qr HO_100001.out) hb); have HO126 := q0 (Kd.S_lower (Kd.S_new' ho0 (Kd.S_lt (qv HO_4.out))) (below_size (qb HB.out))); replace HO_4 := q0 (Kd.S_elder' (qv HO_4.out) (Kd.S_base ho0) hb); replace BK115 := kd BK115 hb; replace HB := bp HB hb; (try clear hb); (try clear hb2); (try clear hk); (try clear hi); (try clear ho0); obtain ⟨Ao30, co30, eo30⟩ := Kd.S_slice HO_4.out; subst eo30; obtain ⟨Ao31, co31, eo31⟩ := Kd.S_slice HO126.out; subst eo31) | ((with_reducible refine gf 48 ?_); refine gl 28 Try.func48 #[.slice Ao30 t100.length co30, .slice Ao31 t101.length co31] ?_; (with_reducible refine (laws_loRows.calls kj4 _ _ t100 _ _ t101 t102 _ ?side1 ?side2 ?side3 ?side4 A27.out).mono ?_); (case side1 => exact qc (Kd.S_reads' HO_4.out).2.2); (case side2 => exact (Kd.S_reads' HO_4.out).2.1); (case side3 => exact qc (Kd.S_reads' HO126.out).2.2); (case side4 => exact (Kd.S_reads' HO126.out).2.1); rintro e w' ⟨rfl, ⟨nd, rfl⟩⟩; refine ⟨_, rfl, ?_⟩))
   go_ret
   exact ⟨qe, qb HB.out⟩
 replace c25 := Bool.eq_false_iff.mpr c25
 subst c25
 rw [if_neg nf] at H
 obtain ⟨t103, A32, H⟩ := ob H
 have H' := q0 H
 clear H
 obtain ⟨hcz33_0, hcz33_1, hfz33_0, hfz33_1⟩ := b2 BK115
 go_wp2_with (first | ((with_reducible refine gf 22 ?_); refine gl 30 Try.func22 #[.agg #[.int .i64 t108, .slice Ao9 t112.length co9]] ?_; (with_reducible refine (impl_TreeOf.calls kj4 t108 _ _ t112 t103 _ ?side1 ?side2 A32.out).mono ?_); (case side1 => exact qc (Kd.R_reads' HO_100001.out).2.2); (case side2 => exact (Kd.R_reads' HO_100001.out).2.1); rintro e w34 ⟨v128, rfl, ho0, hb⟩; refine ⟨_, rfl, ?_⟩; replace HO_4 := q0 (Kd.S_below (qv HO_4.out) hb); have HO129 := q0 (Kd.R_lower (Kd.R_new' ho0 (Kd.R_lt (qr HO_100001.out))) (below_size (qb HB.out))); replace HO_100001 := q0 (Kd.R_elder' (qr HO_100001.out) (Kd.R_base ho0) hb); replace BK115 := kd BK115 hb; replace HB := bp HB hb; (try clear hb); (try clear hb2); (try clear hk); (try clear hi); (try clear ho0)))
 go_loopg [6] kj4 (fun kq v6 w' => ∃ (x6_2 : Int), v6 = .int .i64 x6_2 ∧ Aside0 (laws_FnTreeRings.l0 kq t100 t103 x6_2 t108 t112 = some r) ∧ Aside0 (kq ≤ kj4) ∧ Aside0 (Kd.S (Kd.slice 3 (Kd.int .i64)) 60 w' w.heap.size (fun _ => True) v116 t100) ∧ Aside0 (Kd.R kTie 32 w' w.heap.size (fun k_ => some k_ ≠ ((.slice Ao9 t112.length co9) : Value).ownBlock) v128 t103) ∧ Aside0 (Kd.R kTie 32 w' w.heap.size (fun k_ => some k_ ≠ (v128 : Value).ownBlock) (.slice Ao9 t112.length co9) t112) ∧ Aside0 (w'.heap[gb115]? = some (.cells #[.int .i64 t108, (.slice Ao9 t112.length co9)] 25 (0, 0))) ∧ Aside0 (Below w.heap.size w w'))
 case atStart => exact ⟨(0), qs, H', ⟨Nat.le_refl _⟩, ⟨qv HO_4.out⟩, ⟨by (with_reducible repeat (first | apply Kd.R_alloc | apply Kd.R_drewN | apply Kd.R_drew)); exact Kd.R_mono HO129.out (fun _ hk => hk.2)⟩, ⟨by (with_reducible repeat (first | apply Kd.R_alloc | apply Kd.R_drewN | apply Kd.R_drew)); exact Kd.R_mono HO_100001.out (fun _ hk => hk.2)⟩, ⟨qk BK115.out⟩, ⟨qb HB.out⟩⟩
 clear H'
 try clear c1
 try clear c2
 try clear c2b0
 try clear c2b1
 try clear p2
 try clear c4
 try clear c12
 try clear c13
 try clear c22
 try clear c25
 try clear hcz15_0
 try clear hcz15_1
 try clear hcz19_0
 try clear hcz19_1
 try clear hcz21_0
 try clear hcz21_1
 try clear hcz28_0
 try clear hcz28_1
 try clear hcz33_0
 try clear hcz33_1
 try clear hcz8_0
 try clear hcz8_1
 try clear hfz15_0
 try clear hfz15_1
 try clear hfz19_0
 try clear hfz19_1
 try clear hfz21_0
 try clear hfz21_1
 try clear hfz28_0
 try clear hfz28_1
 try clear hfz33_0
 try clear hfz33_1
 try clear hfz8_0
 try clear hfz8_1
 try clear p2
 obtain ⟨x6_2, rfl, HA, HK2, HO_4, HO_5, HO_100001, BK115, HB⟩ := hrel
 rcases gk with _ | k2
 · exact absurd HA.out (by simp [laws_FnTreeRings.l0])
 have H := HA.out
 clear HA
 simp only [laws_FnTreeRings.l0] at H
 by_cases c35 : x6_2 < (t100.length : Int)
 rotate_left
 · rw [if_neg c35] at H
   have c35b0 := decide_eq_false c35
   clear c35
   obtain rfl := Option.some.inj H
   obtain ⟨Ao62, co62, eo62⟩ := Kd.S_slice HO_4.out
   subst eo62
   obtain ⟨hcz63_0, hcz63_1, hfz63_0, hfz63_1⟩ := b2 BK115
   obtain ⟨Ao64, co64, eo64⟩ := Kd.R_slice HO_5.out
   subst eo64
   go_wp2
   go_ret
   exact ⟨qe, qb HB.out⟩
 rw [if_pos c35] at H
 have c35b0 := decide_eq_true c35
 clear c35
 obtain ⟨c36, H⟩ : (0 ≤ x6_2) ∧ _ := og H
 have c36b0 := decide_eq_true c36
 clear c36
 obtain ⟨c37, H⟩ : (0 < ((rd_LI t100 x6_2).length : Int)) ∧ _ := og H
 have c37b0 := decide_eq_true c37
 have c37b1 : decide (0 < (rd_LI t100 x6_2).length) = true := decide_eq_true (by omega)
 clear c37
 obtain ⟨ji38, hji38⟩ : ∃ j_ : Int, (wrap64 (((rd_LI t100 x6_2).length : Int) - 1)) = j_ := ⟨_, rfl⟩
 replace H : (if 0 ≤ (ji38) then (if (ji38) < ((rd_LI t100 x6_2).length : Int) then ((laws_loTie.f (rd (rd_LI t100 x6_2) 0) (rd (rd_LI t100 x6_2) (ji38))).bind fun bt104 => ((impl_WayOk.f k2 t108 t112 (rd_LI t100 x6_2)).bind fun t105 => (if t105 = true then (if ((rd_LI t100 x6_2).length : Int) < 3 then (none) else ((laws_loHas.f k2 t112 bt104.1 bt104.2).bind fun t106 => (if t106 = true then ((laws_loHas.f k2 t103 bt104.1 bt104.2).bind fun t107 => (if t107 = true then (none) else (laws_FnTreeRings.l0 k2 t100 t103 (wrap64 (x6_2 + 1)) t108 t112))) else (none)))) else (none)))) else (none)) else (none)) = some r := by first | (rw [hji38] at H; exact H) | (simp only [hji38] at H ⊢; exact H)
 have hji38w : (IntKind.i64.wrap (((rd_LI t100 x6_2).length : Int) - 1)) = ji38 := (i64_w _).trans hji38
 obtain ⟨c39, H⟩ : (0 ≤ (ji38)) ∧ _ := og H
 have c39b0 := decide_eq_true c39
 clear c39
 obtain ⟨c40, H⟩ : ((ji38) < ((rd_LI t100 x6_2).length : Int)) ∧ _ := og H
 have c40b0 := decide_eq_true c40
 clear c40
 obtain ⟨⟨t104, t130⟩, A41, H⟩ := ob H
 obtain ⟨t105, A42, H⟩ := ob H
 by_cases c43 : t105 = true
 rotate_left
 · replace c43 := Bool.eq_false_iff.mpr c43
   subst c43
   rw [if_neg nf] at H
   exact absurd H (by simp)
 subst c43
 rw [if_pos rfl] at H
 by_cases c44 : ((rd_LI t100 x6_2).length : Int) < 3
 · rw [if_pos c44] at H
   have c44b0 := decide_eq_true c44
   have c44b1 : decide ((rd_LI t100 x6_2).length < 3) = true := decide_eq_true (by omega)
   clear c44
   exact absurd H (by simp)
 rw [if_neg c44] at H
 have c44b0 := decide_eq_false c44
 have c44b1 : decide ((rd_LI t100 x6_2).length < 3) = false := decide_eq_false (by omega)
 clear c44
 obtain ⟨t106, A45, H⟩ := ob H
 by_cases c46 : t106 = true
 rotate_left
 · replace c46 := Bool.eq_false_iff.mpr c46
   subst c46
   rw [if_neg nf] at H
   exact absurd H (by simp)
 subst c46
 rw [if_pos rfl] at H
 obtain ⟨t107, A47, H⟩ := ob H
 by_cases c48 : t107 = true
 · subst c48
   rw [if_pos rfl] at H
   exact absurd H (by simp)
 replace c48 := Bool.eq_false_iff.mpr c48
 subst c48
 rw [if_neg nf] at H
 have H' := q0 H
 clear H
 obtain ⟨Ao49, co49, eo49⟩ := Kd.S_slice HO_4.out
 subst eo49
 try go_wp2
 replace HO_4 := q0 (Kd.S_drew HO_4.out)
 replace HO_5 := q0 (Kd.R_drew HO_5.out)
 replace HO_100001 := q0 (Kd.R_drew HO_100001.out)
 replace BK115 := q0 (blk_drew BK115.out)
 replace HB := q0 (below_drew1 HB.out)
 have p135 : 0 ≤ (x6_2 : Int) := of_decide_eq_true qa
 have q135 : x6_2 < (t100.length : Int) := of_decide_eq_true qa
 obtain ⟨ad135, A135_0, c135_0, e135, hx135_0, hl135_0, hi135_0⟩ := at_LI (Kd.S_reads' HO_4.out).2.2 x6_2 p135 q135
 cases e135
 obtain ⟨ce135, hce135, hMe135, hcc135⟩ := Kd.S_get HO_4.out [] x6_2 p135 (by first | exact q135 | exact of_decide_eq_true qa | (have e_ := (Kd.S_reads' HO_4.out).1; omega))
 obtain ⟨ve135_0, rfl, ge135_0⟩ := hMe135
 have hv135_0 := hcc135 0 _ rfl
 rw [Nat.add_zero, show ((Kd.slice 3 (Kd.int .i64))).sz = 1 from rfl, Nat.mul_one] at hv135_0
 replace hv135_0 := Option.some.inj (hv135_0.symm.trans hx135_0)
 rw [hv135_0] at ge135_0
 have HL135_0 := q0 (show Kd.R (Kd.int .i64) 3 _ _ _ _ (rd_LI t100 x6_2) from ge135_0)
 clear hv135_0 ge135_0
 clear hcc135 hce135
 have HR135_0 := q0 hi135_0
 have HC135_0 := q0 hl135_0
 clear hi135_0 hl135_0
 replace p135 := eq_true p135
 replace q135 := eq_true q135
 have p136 : 0 ≤ (0 : Int) := (by omega)
 have q136 : 0 < ((rd_LI t100 x6_2).length : Int) := of_decide_eq_true qa
 obtain ⟨ad136, e136, hx136_0⟩ := Kd.at_int (by repeat (first | (with_reducible exact HR135_0.out) | (with_reducible refine Kd.C_alloc ?_ _) | (with_reducible refine Kd.C_drewN ?_ _) | (with_reducible refine Kd.C_drew ?_) | exact HR135_0.out)) 0 p136 q136
 cases e136
 have qi136 : (0 < (rd_LI t100 x6_2).length) = True := eq_true (by omega)
 (try rw [show ((0 : Int)).toNat = 0 from rfl] at hx136_0)
 (try rw [Addr.add_zero'] at hx136_0)
 replace p136 := eq_true p136
 replace q136 := eq_true q136
 have p137 : 0 ≤ (x6_2 : Int) := of_decide_eq_true qa
 have q137 : x6_2 < (t100.length : Int) := of_decide_eq_true qa
 obtain ⟨ad137, A137_0, c137_0, e137, hx137_0, hl137_0, hi137_0⟩ := at_LI (Kd.S_reads' HO_4.out).2.2 x6_2 p137 q137
 obtain rfl : ad135 = ad137 := (by injection e137)
 have ee_ := Option.some.inj (hx135_0.symm.trans hx137_0)
 injection ee_ with ea_ en_ ec_
 subst ea_
 subst ec_
 clear en_
 obtain ⟨ce137, hce137, hMe137, hcc137⟩ := Kd.S_get HO_4.out [] x6_2 p137 (by first | exact q137 | exact of_decide_eq_true qa | (have e_ := (Kd.S_reads' HO_4.out).1; omega))
 obtain ⟨ve137_0, rfl, ge137_0⟩ := hMe137
 have hv137_0 := hcc137 0 _ rfl
 rw [Nat.add_zero, show ((Kd.slice 3 (Kd.int .i64))).sz = 1 from rfl, Nat.mul_one] at hv137_0
 replace hv137_0 := Option.some.inj (hv137_0.symm.trans hx137_0)
 rw [hv137_0] at ge137_0
 have HL137_0 := q0 (show Kd.R (Kd.int .i64) 3 _ _ _ _ (rd_LI t100 x6_2) from ge137_0)
 clear hv137_0 ge137_0
 clear hcc137 hce137
 have HR137_0 := q0 hi137_0
 have HC137_0 := q0 hl137_0
 clear hi137_0 hl137_0
 replace p137 := eq_true p137
 replace q137 := eq_true q137
 have p138 : 0 ≤ (x6_2 : Int) := of_decide_eq_true qa
 have q138 : x6_2 < (t100.length : Int) := of_decide_eq_true qa
 obtain ⟨ad138, A138_0, c138_0, e138, hx138_0, hl138_0, hi138_0⟩ := at_LI (Kd.S_reads' HO_4.out).2.2 x6_2 p138 q138
 obtain rfl : ad135 = ad138 := (by injection e138)
 have ee_ := Option.some.inj (hx135_0.symm.trans hx138_0)
 injection ee_ with ea_ en_ ec_
 subst ea_
 subst ec_
 clear en_
 obtain ⟨ce138, hce138, hMe138, hcc138⟩ := Kd.S_get HO_4.out [] x6_2 p138 (by first | exact q138 | exact of_decide_eq_true qa | (have e_ := (Kd.S_reads' HO_4.out).1; omega))
 obtain ⟨ve138_0, rfl, ge138_0⟩ := hMe138
 have hv138_0 := hcc138 0 _ rfl
 rw [Nat.add_zero, show ((Kd.slice 3 (Kd.int .i64))).sz = 1 from rfl, Nat.mul_one] at hv138_0
 replace hv138_0 := Option.some.inj (hv138_0.symm.trans hx138_0)
 rw [hv138_0] at ge138_0
 have HL138_0 := q0 (show Kd.R (Kd.int .i64) 3 _ _ _ _ (rd_LI t100 x6_2) from ge138_0)
 clear hv138_0 ge138_0
 clear hcc138 hce138
 have HR138_0 := q0 hi138_0
 have HC138_0 := q0 hl138_0
 clear hi138_0 hl138_0
 replace p138 := eq_true p138
 replace q138 := eq_true q138
 have p139 : 0 ≤ ((ji38) : Int) := of_decide_eq_true qa
 have q139 : (ji38) < ((rd_LI t100 x6_2).length : Int) := of_decide_eq_true qa
 obtain ⟨ad139, e139, hx139_0⟩ := Kd.at_int (by repeat (first | (with_reducible exact HR137_0.out) | (with_reducible refine Kd.C_alloc ?_ _) | (with_reducible refine Kd.C_drewN ?_ _) | (with_reducible refine Kd.C_drew ?_) | exact HR137_0.out)) (ji38) p139 q139
 obtain rfl : ad136 = ad139 := (by injection e139)
 replace p139 := eq_true p139
 replace q139 := eq_true q139
 refine start_ (n := 21) (S := fun w' => w'.cell? (ad135.add (x6_2).toNat) = some (.slice (some ad136) (rd_LI t100 x6_2).length c135_0) ∧ w'.cell? ad136 = some (.int .i64 (rd (rd_LI t100 x6_2) 0)) ∧ w'.cell? (ad135.add (x6_2).toNat) = some (.slice (some ad136) (rd_LI t100 x6_2).length c135_0) ∧ w'.cell? (ad135.add (x6_2).toNat) = some (.slice (some ad136) (rd_LI t100 x6_2).length c135_0) ∧ w'.cell? (ad136.add ((ji38)).toNat) = some (.int .i64 (rd (rd_LI t100 x6_2) (ji38)))) (ds := []) (ba 21 0) (by kernel_rfl) rfl (by kernel_rfl) ⟨hx135_0, hx136_0, hx137_0, hx138_0, hx139_0⟩ (fun hHeld => ?_); refine with_tabW laws_FnTreeRings.tab11 laws_FnTreeRings.bits11 (fun HT_ HW_ => ?_)
 generalize wr.drew = w50 at HO_4 HO_5 HO_100001 BK115 HB HL135_0 HL137_0 HL138_0 HR135_0 HR137_0 HR138_0 hx135_0 hx136_0 hx137_0 hx138_0 hx139_0 hHeld ⊢
 refine pU 0 37 21 1 HT_ ?_
 refine pU 1 38 21 3 HT_ ?_
 refine pU 2 39 21 7 HT_ ?_
 refine pU 6 43 21 71 HT_ ?_
 refine pU 7 44 21 199 HT_ ?_
 refine pU 8 45 21 455 HT_ ?_
 refine pU 10 47 21 1479 HT_ ?_
 refine pU 11 48 21 3527 HT_ ?_
 refine pU 12 49 21 7623 HT_ ?_
 refine tU 3 40 21 7631 HT_ HW_ hHeld ?_
 refine pU 4 41 21 7647 HT_ ?_
 refine tU 5 42 21 7679 HT_ HW_ hHeld ?_
 refine tU 9 46 21 8191 HT_ HW_ hHeld ?_
 refine tU 13 50 21 16383 HT_ HW_ hHeld ?_
 refine pU 14 51 21 32767 HT_ ?_
 refine pU 15 52 21 65535 HT_ ?_
 refine pU 16 53 21 131071 HT_ ?_
 refine tU 17 54 21 262143 HT_ HW_ hHeld ?_
 refine join_ (σ := Nat) 1 (ba 21 1048575) (fun s_ => [(55, .agg #[.int .i64 t104, .int .i64 t130]), (7, .pointer (some ⟨s_, 0, none⟩))]) (fun s_ w' => (w'.cell? (ad135.add (x6_2).toNat) = some (.slice (some ad136) (rd_LI t100 x6_2).length c135_0) ∧ w'.cell? ad136 = some (.int .i64 (rd (rd_LI t100 x6_2) 0)) ∧ w'.cell? (ad135.add (x6_2).toNat) = some (.slice (some ad136) (rd_LI t100 x6_2).length c135_0) ∧ w'.cell? (ad135.add (x6_2).toNat) = some (.slice (some ad136) (rd_LI t100 x6_2).length c135_0) ∧ w'.cell? (ad136.add ((ji38)).toNat) = some (.int .i64 (rd (rd_LI t100 x6_2) (ji38)))) ∧ (Kd.R (Kd.int .i64) 3 w' w.heap.size (fun k_ => some k_ ≠ (.slice (some ad135) t100.length co49 : Value).ownBlock) (.slice (some ad136) (rd_LI t100 x6_2).length c135_0) (rd_LI t100 x6_2)) ∧ (Kd.R (Kd.int .i64) 3 w' w.heap.size (fun k_ => some k_ ≠ (.slice (some ad135) t100.length co49 : Value).ownBlock) (.slice (some ad136) (rd_LI t100 x6_2).length c135_0) (rd_LI t100 x6_2)) ∧ (Kd.R (Kd.int .i64) 3 w' w.heap.size (fun k_ => some k_ ≠ (.slice (some ad135) t100.length co49 : Value).ownBlock) (.slice (some ad136) (rd_LI t100 x6_2).length c135_0) (rd_LI t100 x6_2)) ∧ (Kd.S (Kd.slice 3 (Kd.int .i64)) 60 w' w.heap.size (fun _ => True) (.slice (some ad135) t100.length co49) t100) ∧ (Kd.R kTie 32 w' w.heap.size (fun k_ => some k_ ≠ (.slice Ao9 t112.length co9 : Value).ownBlock ∧ k_ ≠ s_) v128 t103) ∧ (Kd.R kTie 32 w' w.heap.size (fun k_ => some k_ ≠ (v128 : Value).ownBlock ∧ k_ ≠ s_) (.slice Ao9 t112.length co9) t112) ∧ (w'.heap[gb115]? = some (.cells #[.int .i64 t108, .slice Ao9 t112.length co9] 25 (0, 0))) ∧ (w'.heap[s_]? = some (.cells #[.int .i64 0, .int .i64 0] 32 (0, 0))) ∧ (w.heap.size ≤ s_) ∧ (w.heap.size ≤ s_) ∧ (gb115 ≠ s_) ∧ (s_ ≠ gb115) ∧ (Below w.heap.size w w')) ?_ ?_
 rotate_left
 · intro hCont
   refine two_ (i := 18) (j := 19) (Ni := some 55) (Nj := some 7) (ba 21 524287) (ba 21 786431) rfl rfl rfl rfl (two_of HT_.out (by kernel_rfl)) (by decide) (by decide) (fun K hK => ?_) (fun K hK => ?_)
   · skip
     refine goes_ Try.func35 (by kernel_rfl) rfl #[.int .i64 (rd (rd_LI t100 x6_2) 0), .int .i64 (rd (rd_LI t100 x6_2) (ji38))] (by rfl) rfl rfl (by (try simp only [List.map_toArray, List.map_cons, List.map_nil]); first | done | (simp only [hji38]; rfl) | rfl | (simp only [List.length_drop, List.length_take]; rfl)) ?_
     with_reducible refine (laws_loTie.calls (rd (rd_LI t100 x6_2) 0) (rd (rd_LI t100 x6_2) (ji38)) t104 t130 _ A41.out).mono ?_
     rintro e w51 ⟨rfl, hb⟩
     have HS0_ := hcl hb hHeld.1
     have HS1_ := hcl hb hHeld.2.1
     have HS2_ := hcl hb hHeld.2.2.1
     have HS3_ := hcl hb hHeld.2.2.2.1
     have HS4_ := hcl hb hHeld.2.2.2.2
     refine ⟨_, rfl, ?_⟩
     replace HO_4 := q0 (Kd.S_below (qv HO_4.out) hb)
     replace HO_5 := q0 (Kd.R_below (qr HO_5.out) hb)
     replace HO_100001 := q0 (Kd.R_below (qr HO_100001.out) hb)
     replace HL135_0 := q0 (Kd.R_below (by (with_reducible repeat (first | apply Kd.R_alloc | apply Kd.R_drewN | apply Kd.R_drew)); exact HL135_0.out) hb)
     replace HL137_0 := q0 (Kd.R_below (by (with_reducible repeat (first | apply Kd.R_alloc | apply Kd.R_drewN | apply Kd.R_drew)); exact HL137_0.out) hb)
     replace HL138_0 := q0 (Kd.R_below (by (with_reducible repeat (first | apply Kd.R_alloc | apply Kd.R_drewN | apply Kd.R_drew)); exact HL138_0.out) hb)
     replace BK115 := kd BK115 hb
     replace HR135_0 := q0 (Kd.C_below (by repeat (first | (with_reducible exact HR135_0.out) | (with_reducible refine Kd.C_alloc ?_ _) | (with_reducible refine Kd.C_drewN ?_ _) | (with_reducible refine Kd.C_drew ?_) | exact HR135_0.out)) hb)
     replace HR137_0 := q0 (Kd.C_below (by repeat (first | (with_reducible exact HR137_0.out) | (with_reducible refine Kd.C_alloc ?_ _) | (with_reducible refine Kd.C_drewN ?_ _) | (with_reducible refine Kd.C_drew ?_) | exact HR137_0.out)) hb)
     replace HR138_0 := q0 (Kd.C_below (by repeat (first | (with_reducible exact HR138_0.out) | (with_reducible refine Kd.C_alloc ?_ _) | (with_reducible refine Kd.C_drewN ?_ _) | (with_reducible refine Kd.C_drew ?_) | exact HR138_0.out)) hb)
     replace HB := bp HB hb
     (try clear hb)
     (try clear hb2)
     (try clear hk)
     (try clear hi)
     refine hK.out _ _ ⟨HS0_, HS1_, HS2_, HS3_, HS4_⟩ (fun hHeld => ?_)
     clear hK K
     refine nu 55 ?_
     refine one_ (i := 19) (N := some 7) (ba 21 1048575) rfl rfl (one_of HT_.out (by kernel_rfl)) (by decide) (fun K hK => ?_)
     refine box_step ?hg (N := 7) ?hd (cs := #[.int .i64 0, .int .i64 0]) (t := 32) ?hr ?_; (case hd => rfl); (case hg => rfl); (case hr => first | (go_simp; done) | (go_simp; rfl))
     intro gb140 hg w52 hbox hb
     have HS0_ := hcl hb hHeld.1
     have HS1_ := hcl hb hHeld.2.1
     have HS2_ := hcl hb hHeld.2.2.1
     have HS3_ := hcl hb hHeld.2.2.2.1
     have HS4_ := hcl hb hHeld.2.2.2.2
     replace HO_4 := q0 (Kd.S_below (qv HO_4.out) hb)
     replace HO_5 := q0 (Kd.R_below (Kd.R_elderB (qr HO_5.out) gb140 (Nat.le_of_eq hg.symm)) hb)
     replace HO_100001 := q0 (Kd.R_below (Kd.R_elderB (qr HO_100001.out) gb140 (Nat.le_of_eq hg.symm)) hb)
     replace HL135_0 := q0 (Kd.R_below (by (with_reducible repeat (first | apply Kd.R_alloc | apply Kd.R_drewN | apply Kd.R_drew)); exact HL135_0.out) hb)
     replace HL137_0 := q0 (Kd.R_below (by (with_reducible repeat (first | apply Kd.R_alloc | apply Kd.R_drewN | apply Kd.R_drew)); exact HL137_0.out) hb)
     replace HL138_0 := q0 (Kd.R_below (by (with_reducible repeat (first | apply Kd.R_alloc | apply Kd.R_drewN | apply Kd.R_drew)); exact HL138_0.out) hb)
     replace HR135_0 := q0 (Kd.C_below (by repeat (first | (with_reducible exact HR135_0.out) | (with_reducible refine Kd.C_alloc ?_ _) | (with_reducible refine Kd.C_drewN ?_ _) | (with_reducible refine Kd.C_drew ?_) | exact HR135_0.out)) hb)
     replace HR137_0 := q0 (Kd.C_below (by repeat (first | (with_reducible exact HR137_0.out) | (with_reducible refine Kd.C_alloc ?_ _) | (with_reducible refine Kd.C_drewN ?_ _) | (with_reducible refine Kd.C_drew ?_) | exact HR137_0.out)) hb)
     replace HR138_0 := q0 (Kd.C_below (by repeat (first | (with_reducible exact HR138_0.out) | (with_reducible refine Kd.C_alloc ?_ _) | (with_reducible refine Kd.C_drewN ?_ _) | (with_reducible refine Kd.C_drew ?_) | exact HR138_0.out)) hb)
     have BK140 := q0 (hbox)
     have GW140 := gw HB hg
     have GE140 := gw HB hg
     replace HB := bp HB hb
     have NB115_140 := nl BK115 hg
     have NB140_115 := ng BK115 hg
     replace BK115 := kd BK115 hb
     clear hb hbox hg
     refine hK.out _ _ ⟨HS0_, HS1_, HS2_, HS3_, HS4_⟩ (fun hHeld => ?_)
     clear hK K
     refine nu 7 ?_
     exact norm_ (by simp only [putAll, Act.put, List.setIfInBounds_toArray, List.set_cons_zero, List.set_cons_succ]) (hCont (gb140) _ ⟨hHeld, (by (with_reducible repeat (first | apply Kd.R_alloc | apply Kd.R_drewN | apply Kd.R_drew)); exact Kd.R_mono HL135_0.out (fun _ hk => hk.2)), (by (with_reducible repeat (first | apply Kd.R_alloc | apply Kd.R_drewN | apply Kd.R_drew)); exact Kd.R_mono HL137_0.out (fun _ hk => hk.2)), (by (with_reducible repeat (first | apply Kd.R_alloc | apply Kd.R_drewN | apply Kd.R_drew)); exact Kd.R_mono HL138_0.out (fun _ hk => hk.2)), (qv HO_4.out), (qr HO_5.out), (qr HO_100001.out), (qk BK115.out), (qk BK140.out), GW140.out, GE140.out, NB115_140.out, NB140_115.out, (qb HB.out)⟩)
   · skip
     refine box_step ?hg (N := 7) ?hd (cs := #[.int .i64 0, .int .i64 0]) (t := 32) ?hr ?_; (case hd => rfl); (case hg => rfl); (case hr => first | (go_simp; done) | (go_simp; rfl))
     intro gb140 hg w51 hbox hb
     have HS0_ := hcl hb hHeld.1
     have HS1_ := hcl hb hHeld.2.1
     have HS2_ := hcl hb hHeld.2.2.1
     have HS3_ := hcl hb hHeld.2.2.2.1
     have HS4_ := hcl hb hHeld.2.2.2.2
     replace HO_4 := q0 (Kd.S_below (qv HO_4.out) hb)
     replace HO_5 := q0 (Kd.R_below (Kd.R_elderB (qr HO_5.out) gb140 (Nat.le_of_eq hg.symm)) hb)
     replace HO_100001 := q0 (Kd.R_below (Kd.R_elderB (qr HO_100001.out) gb140 (Nat.le_of_eq hg.symm)) hb)
     replace HL135_0 := q0 (Kd.R_below (by (with_reducible repeat (first | apply Kd.R_alloc | apply Kd.R_drewN | apply Kd.R_drew)); exact HL135_0.out) hb)
     replace HL137_0 := q0 (Kd.R_below (by (with_reducible repeat (first | apply Kd.R_alloc | apply Kd.R_drewN | apply Kd.R_drew)); exact HL137_0.out) hb)
     replace HL138_0 := q0 (Kd.R_below (by (with_reducible repeat (first | apply Kd.R_alloc | apply Kd.R_drewN | apply Kd.R_drew)); exact HL138_0.out) hb)
     replace HR135_0 := q0 (Kd.C_below (by repeat (first | (with_reducible exact HR135_0.out) | (with_reducible refine Kd.C_alloc ?_ _) | (with_reducible refine Kd.C_drewN ?_ _) | (with_reducible refine Kd.C_drew ?_) | exact HR135_0.out)) hb)
     replace HR137_0 := q0 (Kd.C_below (by repeat (first | (with_reducible exact HR137_0.out) | (with_reducible refine Kd.C_alloc ?_ _) | (with_reducible refine Kd.C_drewN ?_ _) | (with_reducible refine Kd.C_drew ?_) | exact HR137_0.out)) hb)
     replace HR138_0 := q0 (Kd.C_below (by repeat (first | (with_reducible exact HR138_0.out) | (with_reducible refine Kd.C_alloc ?_ _) | (with_reducible refine Kd.C_drewN ?_ _) | (with_reducible refine Kd.C_drew ?_) | exact HR138_0.out)) hb)
     have BK140 := q0 (hbox)
     have GW140 := gw HB hg
     have GE140 := gw HB hg
     replace HB := bp HB hb
     have NB115_140 := nl BK115 hg
     have NB140_115 := ng BK115 hg
     replace BK115 := kd BK115 hb
     clear hb hbox hg
     refine hK.out _ _ ⟨HS0_, HS1_, HS2_, HS3_, HS4_⟩ (fun hHeld => ?_)
     clear hK K
     refine nu 7 ?_
     refine one_ (i := 18) (N := some 55) (ba 21 1048575) rfl rfl (one_of HT_.out (by kernel_rfl)) (by decide) (fun K hK => ?_)
     refine goes_ Try.func35 (by kernel_rfl) rfl #[.int .i64 (rd (rd_LI t100 x6_2) 0), .int .i64 (rd (rd_LI t100 x6_2) (ji38))] (by rfl) rfl rfl (by (try simp only [List.map_toArray, List.map_cons, List.map_nil]); first | done | (simp only [hji38]; rfl) | rfl | (simp only [List.length_drop, List.length_take]; rfl)) ?_
     with_reducible refine (laws_loTie.calls (rd (rd_LI t100 x6_2) 0) (rd (rd_LI t100 x6_2) (ji38)) t104 t130 _ A41.out).mono ?_
     rintro e w52 ⟨rfl, hb⟩
     have HS0_ := hcl hb hHeld.1
     have HS1_ := hcl hb hHeld.2.1
     have HS2_ := hcl hb hHeld.2.2.1
     have HS3_ := hcl hb hHeld.2.2.2.1
     have HS4_ := hcl hb hHeld.2.2.2.2
     refine ⟨_, rfl, ?_⟩
     replace HO_4 := q0 (Kd.S_below (qv HO_4.out) hb)
     replace HO_5 := q0 (Kd.R_below (qr HO_5.out) hb)
     replace HO_100001 := q0 (Kd.R_below (qr HO_100001.out) hb)
     replace HL135_0 := q0 (Kd.R_below (by (with_reducible repeat (first | apply Kd.R_alloc | apply Kd.R_drewN | apply Kd.R_drew)); exact HL135_0.out) hb)
     replace HL137_0 := q0 (Kd.R_below (by (with_reducible repeat (first | apply Kd.R_alloc | apply Kd.R_drewN | apply Kd.R_drew)); exact HL137_0.out) hb)
     replace HL138_0 := q0 (Kd.R_below (by (with_reducible repeat (first | apply Kd.R_alloc | apply Kd.R_drewN | apply Kd.R_drew)); exact HL138_0.out) hb)
     replace BK115 := kd BK115 hb
     replace HR135_0 := q0 (Kd.C_below (by repeat (first | (with_reducible exact HR135_0.out) | (with_reducible refine Kd.C_alloc ?_ _) | (with_reducible refine Kd.C_drewN ?_ _) | (with_reducible refine Kd.C_drew ?_) | exact HR135_0.out)) hb)
     replace HR137_0 := q0 (Kd.C_below (by repeat (first | (with_reducible exact HR137_0.out) | (with_reducible refine Kd.C_alloc ?_ _) | (with_reducible refine Kd.C_drewN ?_ _) | (with_reducible refine Kd.C_drew ?_) | exact HR137_0.out)) hb)
     replace HR138_0 := q0 (Kd.C_below (by repeat (first | (with_reducible exact HR138_0.out) | (with_reducible refine Kd.C_alloc ?_ _) | (with_reducible refine Kd.C_drewN ?_ _) | (with_reducible refine Kd.C_drew ?_) | exact HR138_0.out)) hb)
     replace BK140 := kd BK140 hb
     replace HB := bp HB hb
     (try clear hb)
     (try clear hb2)
     (try clear hk)
     (try clear hi)
     refine hK.out _ _ ⟨HS0_, HS1_, HS2_, HS3_, HS4_⟩ (fun hHeld => ?_)
     clear hK K
     refine nu 55 ?_
     exact norm_ (by simp only [putAll, Act.put, List.setIfInBounds_toArray, List.set_cons_zero, List.set_cons_succ]) (hCont (gb140) _ ⟨hHeld, (by (with_reducible repeat (first | apply Kd.R_alloc | apply Kd.R_drewN | apply Kd.R_drew)); exact Kd.R_mono HL135_0.out (fun _ hk => hk.2)), (by (with_reducible repeat (first | apply Kd.R_alloc | apply Kd.R_drewN | apply Kd.R_drew)); exact Kd.R_mono HL137_0.out (fun _ hk => hk.2)), (by (with_reducible repeat (first | apply Kd.R_alloc | apply Kd.R_drewN | apply Kd.R_drew)); exact Kd.R_mono HL138_0.out (fun _ hk => hk.2)), (qv HO_4.out), (qr HO_5.out), (qr HO_100001.out), (qk BK115.out), (qk BK140.out), GW140.out, GE140.out, NB115_140.out, NB140_115.out, (qb HB.out)⟩)
 rintro gb140 w53 ⟨hS_, h0_, h1_, h2_, h3_, h4_, h5_, h6_, h7_, h8_, h9_, h10_, h11_, h12_⟩
 have n0_ : Aside0 (Kd.R (Kd.int .i64) 3 w53 w.heap.size (fun k_ => some k_ ≠ (.slice (some ad135) t100.length co49 : Value).ownBlock) (.slice (some ad136) (rd_LI t100 x6_2).length c135_0) (rd_LI t100 x6_2)) := ⟨h0_⟩
 have n1_ : Aside0 (Kd.R (Kd.int .i64) 3 w53 w.heap.size (fun k_ => some k_ ≠ (.slice (some ad135) t100.length co49 : Value).ownBlock) (.slice (some ad136) (rd_LI t100 x6_2).length c135_0) (rd_LI t100 x6_2)) := ⟨h1_⟩
 have n2_ : Aside0 (Kd.R (Kd.int .i64) 3 w53 w.heap.size (fun k_ => some k_ ≠ (.slice (some ad135) t100.length co49 : Value).ownBlock) (.slice (some ad136) (rd_LI t100 x6_2).length c135_0) (rd_LI t100 x6_2)) := ⟨h2_⟩
 have n3_ : Aside0 (Kd.S (Kd.slice 3 (Kd.int .i64)) 60 w53 w.heap.size (fun _ => True) (.slice (some ad135) t100.length co49) t100) := ⟨h3_⟩
 have n4_ : Aside0 (Kd.R kTie 32 w53 w.heap.size (fun k_ => some k_ ≠ (.slice Ao9 t112.length co9 : Value).ownBlock ∧ k_ ≠ gb140) v128 t103) := ⟨h4_⟩
 have n5_ : Aside0 (Kd.R kTie 32 w53 w.heap.size (fun k_ => some k_ ≠ (v128 : Value).ownBlock ∧ k_ ≠ gb140) (.slice Ao9 t112.length co9) t112) := ⟨h5_⟩
 have n6_ : Aside0 (w53.heap[gb115]? = some (.cells #[.int .i64 t108, .slice Ao9 t112.length co9] 25 (0, 0))) := ⟨h6_⟩
 have n7_ : Aside0 (w53.heap[gb140]? = some (.cells #[.int .i64 0, .int .i64 0] 32 (0, 0))) := ⟨h7_⟩
 have n8_ : Aside0 (w.heap.size ≤ gb140) := ⟨h8_⟩
 have n9_ : Aside0 (w.heap.size ≤ gb140) := ⟨h9_⟩
 have n10_ : Aside0 (gb115 ≠ gb140) := ⟨h10_⟩
 have n11_ : Aside0 (gb140 ≠ gb115) := ⟨h11_⟩
 have n12_ : Aside0 (Below w.heap.size w w53) := ⟨h12_⟩
 clear HO_4
 clear HO_5
 clear HO_100001
 clear BK115
 clear HB
 clear h0_ h1_ h2_ h3_ h4_ h5_ h6_ h7_ h8_ h9_ h10_ h11_ h12_
 have HL135_0 := n0_
 have HL137_0 := n1_
 have HL138_0 := n2_
 have HO_4 := n3_
 have HO_5 := n4_
 have HO_100001 := n5_
 have BK115 := n6_
 have BK140 := n7_
 have GW140 := n8_
 have GE140 := n9_
 have NB115_140 := n10_
 have NB140_115 := n11_
 have HB := n12_
 clear n0_ n1_ n2_ n3_ n4_ n5_ n6_ n7_ n8_ n9_ n10_ n11_ n12_
 have hHeld : w53.cell? (ad135.add (x6_2).toNat) = some (.slice (some ad136) (rd_LI t100 x6_2).length c135_0) ∧ w53.cell? ad136 = some (.int .i64 (rd (rd_LI t100 x6_2) 0)) ∧ w53.cell? (ad135.add (x6_2).toNat) = some (.slice (some ad136) (rd_LI t100 x6_2).length c135_0) ∧ w53.cell? (ad135.add (x6_2).toNat) = some (.slice (some ad136) (rd_LI t100 x6_2).length c135_0) ∧ w53.cell? (ad136.add ((ji38)).toNat) = some (.int .i64 (rd (rd_LI t100 x6_2) (ji38))) := hS_
 refine norm_ (a' := ?_) ?_ ?_
 rotate_left
 · simp only [putAll, Act.put, List.setIfInBounds_toArray, List.set_cons_zero, List.set_cons_succ]
   rfl
 refine one_ (i := 20) (N := none) (ba 21 2097151) rfl rfl (one_of HT_.out (by kernel_rfl)) (by decide) (fun K hK => ?_)
 have hs54 : w53.cell? ⟨gb140, 0, none⟩ = some (.int .i64 0) := (blk_cell BK140.out 0).trans rfl
 have hfs54 := blk_frozen BK140.out 0
 have hns54_0 := NB115_140.out
 have hms54_0 := NB140_115.out
 have hs55 : w53.cell? ⟨gb140, 1, none⟩ = some (.int .i64 0) := (blk_cell BK140.out 1).trans rfl
 have hfs55 := blk_frozen BK140.out 1
 have hns55_0 := NB115_140.out
 have hms55_0 := NB140_115.out
 refine skip_ (w1 := ?_) (by rfl) rfl ?_ ?_
 rotate_left
 · go_simp
   rfl
 refine hK.out _ _ ⟨((cell_far (p := ⟨gb140, _, none⟩) (by first | exact Kd.own_blk (Kd.S_ne HO_4.out BK140.out (by decide)) | (rw [add_block]; exact Kd.own_blk (Kd.S_ne HO_4.out BK140.out (by decide))) | (show (Addr.add _ _).block ≠ _; rw [add_block]; exact Kd.own_blk (Kd.S_ne HO_4.out BK140.out (by decide))) | (dsimp only; exact Kd.own_blk (Kd.S_ne HO_4.out BK140.out (by decide)))) _).trans (((cell_far (p := ⟨gb140, _, none⟩) (by first | exact Kd.own_blk (Kd.S_ne HO_4.out BK140.out (by decide)) | (rw [add_block]; exact Kd.own_blk (Kd.S_ne HO_4.out BK140.out (by decide))) | (show (Addr.add _ _).block ≠ _; rw [add_block]; exact Kd.own_blk (Kd.S_ne HO_4.out BK140.out (by decide))) | (dsimp only; exact Kd.own_blk (Kd.S_ne HO_4.out BK140.out (by decide)))) _).trans (hHeld.1)))), ((cell_far (p := ⟨gb140, _, none⟩) (by first | exact Kd.own_blk (Kd.R_ne HL135_0.out BK140.out (by decide)) | (rw [add_block]; exact Kd.own_blk (Kd.R_ne HL135_0.out BK140.out (by decide))) | (show (Addr.add _ _).block ≠ _; rw [add_block]; exact Kd.own_blk (Kd.R_ne HL135_0.out BK140.out (by decide))) | (dsimp only; exact Kd.own_blk (Kd.R_ne HL135_0.out BK140.out (by decide)))) _).trans (((cell_far (p := ⟨gb140, _, none⟩) (by first | exact Kd.own_blk (Kd.R_ne HL135_0.out BK140.out (by decide)) | (rw [add_block]; exact Kd.own_blk (Kd.R_ne HL135_0.out BK140.out (by decide))) | (show (Addr.add _ _).block ≠ _; rw [add_block]; exact Kd.own_blk (Kd.R_ne HL135_0.out BK140.out (by decide))) | (dsimp only; exact Kd.own_blk (Kd.R_ne HL135_0.out BK140.out (by decide)))) _).trans (hHeld.2.1)))), ((cell_far (p := ⟨gb140, _, none⟩) (by first | exact Kd.own_blk (Kd.S_ne HO_4.out BK140.out (by decide)) | (rw [add_block]; exact Kd.own_blk (Kd.S_ne HO_4.out BK140.out (by decide))) | (show (Addr.add _ _).block ≠ _; rw [add_block]; exact Kd.own_blk (Kd.S_ne HO_4.out BK140.out (by decide))) | (dsimp only; exact Kd.own_blk (Kd.S_ne HO_4.out BK140.out (by decide)))) _).trans (((cell_far (p := ⟨gb140, _, none⟩) (by first | exact Kd.own_blk (Kd.S_ne HO_4.out BK140.out (by decide)) | (rw [add_block]; exact Kd.own_blk (Kd.S_ne HO_4.out BK140.out (by decide))) | (show (Addr.add _ _).block ≠ _; rw [add_block]; exact Kd.own_blk (Kd.S_ne HO_4.out BK140.out (by decide))) | (dsimp only; exact Kd.own_blk (Kd.S_ne HO_4.out BK140.out (by decide)))) _).trans (hHeld.2.2.1)))), ((cell_far (p := ⟨gb140, _, none⟩) (by first | exact Kd.own_blk (Kd.S_ne HO_4.out BK140.out (by decide)) | (rw [add_block]; exact Kd.own_blk (Kd.S_ne HO_4.out BK140.out (by decide))) | (show (Addr.add _ _).block ≠ _; rw [add_block]; exact Kd.own_blk (Kd.S_ne HO_4.out BK140.out (by decide))) | (dsimp only; exact Kd.own_blk (Kd.S_ne HO_4.out BK140.out (by decide)))) _).trans (((cell_far (p := ⟨gb140, _, none⟩) (by first | exact Kd.own_blk (Kd.S_ne HO_4.out BK140.out (by decide)) | (rw [add_block]; exact Kd.own_blk (Kd.S_ne HO_4.out BK140.out (by decide))) | (show (Addr.add _ _).block ≠ _; rw [add_block]; exact Kd.own_blk (Kd.S_ne HO_4.out BK140.out (by decide))) | (dsimp only; exact Kd.own_blk (Kd.S_ne HO_4.out BK140.out (by decide)))) _).trans (hHeld.2.2.2.1)))), ((cell_far (p := ⟨gb140, _, none⟩) (by first | exact Kd.own_blk (Kd.R_ne HL137_0.out BK140.out (by decide)) | (rw [add_block]; exact Kd.own_blk (Kd.R_ne HL137_0.out BK140.out (by decide))) | (show (Addr.add _ _).block ≠ _; rw [add_block]; exact Kd.own_blk (Kd.R_ne HL137_0.out BK140.out (by decide))) | (dsimp only; exact Kd.own_blk (Kd.R_ne HL137_0.out BK140.out (by decide)))) _).trans (((cell_far (p := ⟨gb140, _, none⟩) (by first | exact Kd.own_blk (Kd.R_ne HL137_0.out BK140.out (by decide)) | (rw [add_block]; exact Kd.own_blk (Kd.R_ne HL137_0.out BK140.out (by decide))) | (show (Addr.add _ _).block ≠ _; rw [add_block]; exact Kd.own_blk (Kd.R_ne HL137_0.out BK140.out (by decide))) | (dsimp only; exact Kd.own_blk (Kd.R_ne HL137_0.out BK140.out (by decide)))) _).trans (hHeld.2.2.2.2))))⟩ (fun hHeld => ?_)
 clear hK K
 refine done_ (done_of HT_.out (by kernel_rfl)) ?_
 try go_wp2
 have n0_ : Aside0 (Kd.S (Kd.slice 3 (Kd.int .i64)) 60 ((w53.setCell ⟨gb140, 0, none⟩ (.int .i64 t104)).setCell ⟨gb140, 1, none⟩ (.int .i64 t130)) w.heap.size (fun _ => True) (.slice (some ad135) t100.length co49) t100) := ⟨by (with_reducible repeat (first | apply Kd.S_alloc | apply Kd.S_drewN | apply Kd.S_drew)); exact Kd.S_mono (Kd.S_far (p := ⟨gb140, 1, none⟩) (Kd.S_far (p := ⟨gb140, 0, none⟩) (Kd.S_types HO_4.out BK140.out (by decide)) (fun _ hk => hk.2) (.int .i64 t104)) (fun _ hk => hk.2) (.int .i64 t130)) (fun _ hk => trivial)⟩
 have n1_ : Aside0 (Kd.R kTie 32 ((w53.setCell ⟨gb140, 0, none⟩ (.int .i64 t104)).setCell ⟨gb140, 1, none⟩ (.int .i64 t130)) w.heap.size (fun k_ => some k_ ≠ (.slice Ao9 t112.length co9 : Value).ownBlock ∧ k_ ≠ gb140) v128 t103) := ⟨by (with_reducible repeat (first | apply Kd.R_alloc | apply Kd.R_drewN | apply Kd.R_drew)); exact Kd.R_mono (Kd.R_far (p := ⟨gb140, 1, none⟩) (Kd.R_far (p := ⟨gb140, 0, none⟩) (Kd.R_mono HO_5.out (fun k_ hk => (⟨hk, hk.2⟩ : _ ∧ k_ ≠ gb140))) (fun _ hk => hk.2) (.int .i64 t104)) (fun _ hk => hk.2) (.int .i64 t130)) (fun _ hk => ⟨hk.1.1, hk.1.2⟩)⟩
 have n2_ : Aside0 (Kd.R kTie 32 ((w53.setCell ⟨gb140, 0, none⟩ (.int .i64 t104)).setCell ⟨gb140, 1, none⟩ (.int .i64 t130)) w.heap.size (fun k_ => some k_ ≠ (v128 : Value).ownBlock ∧ k_ ≠ gb140) (.slice Ao9 t112.length co9) t112) := ⟨by (with_reducible repeat (first | apply Kd.R_alloc | apply Kd.R_drewN | apply Kd.R_drew)); exact Kd.R_mono (Kd.R_far (p := ⟨gb140, 1, none⟩) (Kd.R_far (p := ⟨gb140, 0, none⟩) (Kd.R_mono HO_100001.out (fun k_ hk => (⟨hk, hk.2⟩ : _ ∧ k_ ≠ gb140))) (fun _ hk => hk.2) (.int .i64 t104)) (fun _ hk => hk.2) (.int .i64 t130)) (fun _ hk => ⟨hk.1.1, hk.1.2⟩)⟩
 have n3_ : Aside0 (Kd.R (Kd.int .i64) 3 ((w53.setCell ⟨gb140, 0, none⟩ (.int .i64 t104)).setCell ⟨gb140, 1, none⟩ (.int .i64 t130)) w.heap.size (fun k_ => some k_ ≠ (.slice (some ad135) t100.length co49 : Value).ownBlock) (.slice (some ad136) (rd_LI t100 x6_2).length c135_0) (rd_LI t100 x6_2)) := ⟨by (with_reducible repeat (first | apply Kd.R_alloc | apply Kd.R_drewN | apply Kd.R_drew)); exact rf2 HL135_0.out BK140.out (fun _ hk => hk.1)⟩
 have n4_ : Aside0 (Kd.R (Kd.int .i64) 3 ((w53.setCell ⟨gb140, 0, none⟩ (.int .i64 t104)).setCell ⟨gb140, 1, none⟩ (.int .i64 t130)) w.heap.size (fun k_ => some k_ ≠ (.slice (some ad135) t100.length co49 : Value).ownBlock) (.slice (some ad136) (rd_LI t100 x6_2).length c135_0) (rd_LI t100 x6_2)) := ⟨by (with_reducible repeat (first | apply Kd.R_alloc | apply Kd.R_drewN | apply Kd.R_drew)); exact rf2 HL137_0.out BK140.out (fun _ hk => hk.1)⟩
 have n5_ : Aside0 (Kd.R (Kd.int .i64) 3 ((w53.setCell ⟨gb140, 0, none⟩ (.int .i64 t104)).setCell ⟨gb140, 1, none⟩ (.int .i64 t130)) w.heap.size (fun k_ => some k_ ≠ (.slice (some ad135) t100.length co49 : Value).ownBlock) (.slice (some ad136) (rd_LI t100 x6_2).length c135_0) (rd_LI t100 x6_2)) := ⟨by (with_reducible repeat (first | apply Kd.R_alloc | apply Kd.R_drewN | apply Kd.R_drew)); exact rf2 HL138_0.out BK140.out (fun _ hk => hk.1)⟩
 have n6_ : Aside0 (((w53.setCell ⟨gb140, 0, none⟩ (.int .i64 t104)).setCell ⟨gb140, 1, none⟩ (.int .i64 t130)).heap[gb115]? = some (.cells #[.int .i64 t108, .slice Ao9 t112.length co9] 25 (0, 0))) := ⟨qf BK115.out⟩
 have n7_ : Aside0 (((w53.setCell ⟨gb140, 0, none⟩ (.int .i64 t104)).setCell ⟨gb140, 1, none⟩ (.int .i64 t130)).heap[gb140]? = some (.cells #[.int .i64 t104, .int .i64 t130] 32 (0, 0))) := ⟨by (with_reducible repeat (first | refine blk_drewN ?_ _ | refine blk_drew ?_ | refine blk_alloc ?_ _)); refine blk_put (cs := #[.int .i64 t104, .int .i64 0]) ?_ 1 _ rfl; (with_reducible repeat (first | refine blk_drewN ?_ _ | refine blk_drew ?_ | refine blk_alloc ?_ _)); refine blk_put (cs := #[.int .i64 0, .int .i64 0]) ?_ 0 _ rfl; (with_reducible repeat (first | refine blk_drewN ?_ _ | refine blk_drew ?_ | refine blk_alloc ?_ _)); exact BK140.out⟩
 have n8_ : Aside0 (Below w.heap.size w ((w53.setCell ⟨gb140, 0, none⟩ (.int .i64 t104)).setCell ⟨gb140, 1, none⟩ (.int .i64 t130))) := ⟨qb HB.out⟩
 (try clear HO_4)
 (try clear HO_5)
 (try clear HO_100001)
 (try clear HL135_0)
 (try clear HL137_0)
 (try clear HL138_0)
 (try clear BK115)
 (try clear BK140)
 (try clear HB)
 generalize ((w53.setCell ⟨gb140, 0, none⟩ (.int .i64 t104)).setCell ⟨gb140, 1, none⟩ (.int .i64 t130)) = w56 at n0_ n1_ n2_ n3_ n4_ n5_ n6_ n7_ n8_ ⊢
 have HO_4 := n0_
 have HO_5 := n1_
 have HO_100001 := n2_
 have HL135_0 := n3_
 have HL137_0 := n4_
 have HL138_0 := n5_
 have BK115 := n6_
 have BK140 := n7_
 have HB := n8_
 clear n0_ n1_ n2_ n3_ n4_ n5_ n6_ n7_ n8_
 replace HO_4 := q0 (Kd.S_drew HO_4.out)
 replace HO_5 := q0 (Kd.R_drew HO_5.out)
 replace HO_100001 := q0 (Kd.R_drew HO_100001.out)
 replace HL135_0 := q0 (Kd.R_drew HL135_0.out)
 replace HL137_0 := q0 (Kd.R_drew HL137_0.out)
 replace HL138_0 := q0 (Kd.R_drew HL138_0.out)
 replace BK115 := q0 (blk_drew BK115.out)
 replace BK140 := q0 (blk_drew BK140.out)
 replace HB := q0 (below_drew1 HB.out)
 have p141 : 0 ≤ (x6_2 : Int) := of_decide_eq_true qa
 have q141 : x6_2 < (t100.length : Int) := of_decide_eq_true qa
 obtain ⟨ad141, A141_0, c141_0, e141, hx141_0, hl141_0, hi141_0⟩ := at_LI (Kd.S_reads' HO_4.out).2.2 x6_2 p141 q141
 obtain rfl : ad135 = ad141 := (by injection e141)
 obtain ⟨ce141, hce141, hMe141, hcc141⟩ := Kd.S_get HO_4.out [] x6_2 p141 (by first | exact q141 | exact of_decide_eq_true qa | (have e_ := (Kd.S_reads' HO_4.out).1; omega))
 obtain ⟨ve141_0, rfl, ge141_0⟩ := hMe141
 have hv141_0 := hcc141 0 _ rfl
 rw [Nat.add_zero, show ((Kd.slice 3 (Kd.int .i64))).sz = 1 from rfl, Nat.mul_one] at hv141_0
 replace hv141_0 := Option.some.inj (hv141_0.symm.trans hx141_0)
 rw [hv141_0] at ge141_0
 have HL141_0 := q0 (show Kd.R (Kd.int .i64) 3 _ _ _ _ (rd_LI t100 x6_2) from ge141_0)
 clear hv141_0 ge141_0
 clear hcc141 hce141
 have HR141_0 := q0 hi141_0
 have HC141_0 := q0 hl141_0
 clear hi141_0 hl141_0
 replace p141 := eq_true p141
 replace q141 := eq_true q141
 have p142 : 0 ≤ (x6_2 : Int) := of_decide_eq_true qa
 have q142 : x6_2 < (t100.length : Int) := of_decide_eq_true qa
 obtain ⟨ad142, A142_0, c142_0, e142, hx142_0, hl142_0, hi142_0⟩ := at_LI (Kd.S_reads' HO_4.out).2.2 x6_2 p142 q142
 obtain rfl : ad135 = ad142 := (by injection e142)
 have ee_ := Option.some.inj (hx141_0.symm.trans hx142_0)
 injection ee_ with ea_ en_ ec_
 subst ea_
 subst ec_
 clear en_
 obtain ⟨ce142, hce142, hMe142, hcc142⟩ := Kd.S_get HO_4.out [] x6_2 p142 (by first | exact q142 | exact of_decide_eq_true qa | (have e_ := (Kd.S_reads' HO_4.out).1; omega))
 obtain ⟨ve142_0, rfl, ge142_0⟩ := hMe142
 have hv142_0 := hcc142 0 _ rfl
 rw [Nat.add_zero, show ((Kd.slice 3 (Kd.int .i64))).sz = 1 from rfl, Nat.mul_one] at hv142_0
 replace hv142_0 := Option.some.inj (hv142_0.symm.trans hx142_0)
 rw [hv142_0] at ge142_0
 have HL142_0 := q0 (show Kd.R (Kd.int .i64) 3 _ _ _ _ (rd_LI t100 x6_2) from ge142_0)
 clear hv142_0 ge142_0
 clear hcc142 hce142
 have HR142_0 := q0 hi142_0
 have HC142_0 := q0 hl142_0
 clear hi142_0 hl142_0
 replace p142 := eq_true p142
 replace q142 := eq_true q142
 refine start_ (n := 27) (S := fun w' => w'.cell? ⟨gb115, 0, none⟩ = some (.int .i64 t108) ∧ w'.cell? ⟨gb115, 1, none⟩ = some (.slice Ao9 t112.length co9) ∧ w'.cell? ⟨gb140, 0, none⟩ = some (.int .i64 t104) ∧ w'.cell? ⟨gb140, 1, none⟩ = some (.int .i64 t130) ∧ w'.cell? (ad135.add (x6_2).toNat) = some (.slice A141_0 (rd_LI t100 x6_2).length c141_0) ∧ w'.cell? (ad135.add (x6_2).toNat) = some (.slice A141_0 (rd_LI t100 x6_2).length c141_0)) (ds := []) (ba 27 0) (by kernel_rfl) rfl (by kernel_rfl) ⟨bca BK115, bcb BK115, bca BK140, bcb BK140, hx141_0, hx142_0⟩ (fun hHeld => ?_); refine with_tabW laws_FnTreeRings.tab12 laws_FnTreeRings.bits12 (fun HT_ HW_ => ?_)
 generalize w56.drew = w57 at HO_4 HO_5 HO_100001 HL135_0 HL137_0 HL138_0 BK115 BK140 HB HL141_0 HL142_0 HR141_0 HR142_0 hx141_0 hx142_0 hHeld ⊢
 refine pU 1 57 27 2 HT_ ?_
 refine pU 2 58 27 6 HT_ ?_
 refine pU 3 59 27 14 HT_ ?_
 refine tU 0 56 27 15 HT_ HW_ hHeld ?_
 refine tU 4 60 27 31 HT_ HW_ hHeld ?_
 refine one_ (i := 5) (N := some 61) (ba 27 63) rfl rfl (one_of HT_.out (by kernel_rfl)) (by decide) (fun K hK => ?_)
 refine goes_ Try.func50 (by kernel_rfl) rfl #[.agg #[.int .i64 t108, .slice Ao9 t112.length co9], .slice A141_0 (rd_LI t100 x6_2).length c141_0] (by rfl) rfl rfl qm ?_
 with_reducible refine (impl_WayOk.calls k2 t108 _ _ t112 _ _ (rd_LI t100 x6_2) true _ ?side1 ?side2 ?side3 ?side4 A42.out).mono ?_
 (case side1 => exact qc (Kd.R_reads' HO_100001.out).2.2)
 (case side2 => exact (Kd.R_reads' HO_100001.out).2.1)
 (case side3 => repeat (first | exact (by repeat (first | (with_reducible exact HR141_0.out) | (with_reducible refine Kd.C_alloc ?_ _) | (with_reducible refine Kd.C_drewN ?_ _) | (with_reducible refine Kd.C_drew ?_) | exact HR141_0.out)) | (with_reducible refine Kd.C_alloc ?_ _) | (with_reducible refine Kd.C_drewN ?_ _) | (with_reducible refine Kd.C_drew ?_)))
 (case side4 => exact HC141_0.out)
 rintro e w58 ⟨rfl, hb⟩
 have HS4_ := hcl hb hHeld.2.2.2.2.1
 have HS5_ := hcl hb hHeld.2.2.2.2.2
 refine ⟨_, rfl, ?_⟩
 replace HO_4 := q0 (Kd.S_below (qv HO_4.out) hb)
 replace HO_5 := q0 (Kd.R_below (qr HO_5.out) hb)
 replace HO_100001 := q0 (Kd.R_below (qr HO_100001.out) hb)
 replace HL135_0 := q0 (Kd.R_below (by (with_reducible repeat (first | apply Kd.R_alloc | apply Kd.R_drewN | apply Kd.R_drew)); exact HL135_0.out) hb)
 replace HL137_0 := q0 (Kd.R_below (by (with_reducible repeat (first | apply Kd.R_alloc | apply Kd.R_drewN | apply Kd.R_drew)); exact HL137_0.out) hb)
 replace HL138_0 := q0 (Kd.R_below (by (with_reducible repeat (first | apply Kd.R_alloc | apply Kd.R_drewN | apply Kd.R_drew)); exact HL138_0.out) hb)
 replace BK115 := kd BK115 hb
 replace BK140 := kd BK140 hb
 replace HR141_0 := q0 (Kd.C_below (by repeat (first | (with_reducible exact HR141_0.out) | (with_reducible refine Kd.C_alloc ?_ _) | (with_reducible refine Kd.C_drewN ?_ _) | (with_reducible refine Kd.C_drew ?_) | exact HR141_0.out)) hb)
 replace HR142_0 := q0 (Kd.C_below (by repeat (first | (with_reducible exact HR142_0.out) | (with_reducible refine Kd.C_alloc ?_ _) | (with_reducible refine Kd.C_drewN ?_ _) | (with_reducible refine Kd.C_drew ?_) | exact HR142_0.out)) hb)
 replace HB := bp HB hb
 (try clear hb)
 (try clear hb2)
 (try clear hk)
 (try clear hi)
 refine hK.out _ _ ⟨bca BK115, bcb BK115, bca BK140, bcb BK140, HS4_, HS5_⟩ (fun hHeld => ?_)
 clear hK K
 refine nu 61 ?_
 refine pU 6 62 27 127 HT_ ?_
 refine pU 7 63 27 255 HT_ ?_
 refine pU 8 64 27 511 HT_ ?_
 refine pU 9 65 27 1023 HT_ ?_
 refine pU 10 66 27 2047 HT_ ?_
 refine tU 11 67 27 4095 HT_ HW_ hHeld ?_
 refine pU 12 68 27 8191 HT_ ?_
 refine pU 13 69 27 16383 HT_ ?_
 refine pU 14 70 27 32767 HT_ ?_
 refine pU 15 71 27 65535 HT_ ?_
 refine pU 16 72 27 131071 HT_ ?_
 refine tU 17 73 27 262143 HT_ HW_ hHeld ?_
 refine tU 18 74 27 524287 HT_ HW_ hHeld ?_
 refine one_ (i := 19) (N := some 75) (ba 27 1048575) rfl rfl (one_of HT_.out (by kernel_rfl)) (by decide) (fun K hK => ?_)
 refine goes_ Try.func36 (by kernel_rfl) rfl #[.slice Ao9 t112.length co9, .agg #[.int .i64 t104, .int .i64 t130]] (by rfl) rfl rfl qm ?_
 with_reducible refine (laws_loHas.calls k2 _ _ t112 t104 t130 true _ ?side1 ?side2 A45.out).mono ?_
 (case side1 => exact qc (Kd.R_reads' HO_100001.out).2.2)
 (case side2 => exact (Kd.R_reads' HO_100001.out).2.1)
 rintro e w59 ⟨rfl, hb⟩
 have HS4_ := hcl hb hHeld.2.2.2.2.1
 have HS5_ := hcl hb hHeld.2.2.2.2.2
 refine ⟨_, rfl, ?_⟩
 replace HO_4 := q0 (Kd.S_below (qv HO_4.out) hb)
 replace HO_5 := q0 (Kd.R_below (qr HO_5.out) hb)
 replace HO_100001 := q0 (Kd.R_below (qr HO_100001.out) hb)
 replace HL135_0 := q0 (Kd.R_below (by (with_reducible repeat (first | apply Kd.R_alloc | apply Kd.R_drewN | apply Kd.R_drew)); exact HL135_0.out) hb)
 replace HL137_0 := q0 (Kd.R_below (by (with_reducible repeat (first | apply Kd.R_alloc | apply Kd.R_drewN | apply Kd.R_drew)); exact HL137_0.out) hb)
 replace HL138_0 := q0 (Kd.R_below (by (with_reducible repeat (first | apply Kd.R_alloc | apply Kd.R_drewN | apply Kd.R_drew)); exact HL138_0.out) hb)
 replace BK115 := kd BK115 hb
 replace BK140 := kd BK140 hb
 replace HR141_0 := q0 (Kd.C_below (by repeat (first | (with_reducible exact HR141_0.out) | (with_reducible refine Kd.C_alloc ?_ _) | (with_reducible refine Kd.C_drewN ?_ _) | (with_reducible refine Kd.C_drew ?_) | exact HR141_0.out)) hb)
 replace HR142_0 := q0 (Kd.C_below (by repeat (first | (with_reducible exact HR142_0.out) | (with_reducible refine Kd.C_alloc ?_ _) | (with_reducible refine Kd.C_drewN ?_ _) | (with_reducible refine Kd.C_drew ?_) | exact HR142_0.out)) hb)
 replace HB := bp HB hb
 (try clear hb)
 (try clear hb2)
 (try clear hk)
 (try clear hi)
 obtain ⟨Ao60, co60, eo60⟩ := Kd.R_slice HO_5.out
 (first | subst eo60 | (injection eo60 with f1_ f2_ f3_; have f4_ := f1_.symm; have f5_ := f3_.symm; clear f1_ f2_ f3_; subst f4_; subst f5_))
 refine hK.out _ _ ⟨bca BK115, bcb BK115, bca BK140, bcb BK140, HS4_, HS5_⟩ (fun hHeld => ?_)
 clear hK K
 refine nu 75 ?_
 refine pU 20 76 27 2097151 HT_ ?_
 refine pU 21 77 27 4194303 HT_ ?_
 refine pU 22 78 27 8388607 HT_ ?_
 refine pU 23 79 27 16777215 HT_ ?_
 refine tU 24 80 27 33554431 HT_ HW_ hHeld ?_
 refine one_ (i := 25) (N := some 81) (ba 27 67108863) rfl rfl (one_of HT_.out (by kernel_rfl)) (by decide) (fun K hK => ?_)
 refine goes_ Try.func36 (by kernel_rfl) rfl #[.slice Ao60 t103.length co60, .agg #[.int .i64 t104, .int .i64 t130]] (by rfl) rfl rfl qm ?_
 with_reducible refine (laws_loHas.calls k2 _ _ t103 t104 t130 false _ ?side1 ?side2 A47.out).mono ?_
 (case side1 => exact qc (Kd.R_reads' HO_5.out).2.2)
 (case side2 => exact (Kd.R_reads' HO_5.out).2.1)
 rintro e w61 ⟨rfl, hb⟩
 have HS4_ := hcl hb hHeld.2.2.2.2.1
 have HS5_ := hcl hb hHeld.2.2.2.2.2
 refine ⟨_, rfl, ?_⟩
 replace HO_4 := q0 (Kd.S_below (qv HO_4.out) hb)
 replace HO_5 := q0 (Kd.R_below (qr HO_5.out) hb)
 replace HO_100001 := q0 (Kd.R_below (qr HO_100001.out) hb)
 replace HL135_0 := q0 (Kd.R_below (by (with_reducible repeat (first | apply Kd.R_alloc | apply Kd.R_drewN | apply Kd.R_drew)); exact HL135_0.out) hb)
 replace HL137_0 := q0 (Kd.R_below (by (with_reducible repeat (first | apply Kd.R_alloc | apply Kd.R_drewN | apply Kd.R_drew)); exact HL137_0.out) hb)
 replace HL138_0 := q0 (Kd.R_below (by (with_reducible repeat (first | apply Kd.R_alloc | apply Kd.R_drewN | apply Kd.R_drew)); exact HL138_0.out) hb)
 replace BK115 := kd BK115 hb
 replace BK140 := kd BK140 hb
 replace HR141_0 := q0 (Kd.C_below (by repeat (first | (with_reducible exact HR141_0.out) | (with_reducible refine Kd.C_alloc ?_ _) | (with_reducible refine Kd.C_drewN ?_ _) | (with_reducible refine Kd.C_drew ?_) | exact HR141_0.out)) hb)
 replace HR142_0 := q0 (Kd.C_below (by repeat (first | (with_reducible exact HR142_0.out) | (with_reducible refine Kd.C_alloc ?_ _) | (with_reducible refine Kd.C_drewN ?_ _) | (with_reducible refine Kd.C_drew ?_) | exact HR142_0.out)) hb)
 replace HB := bp HB hb
 (try clear hb)
 (try clear hb2)
 (try clear hk)
 (try clear hi)
 refine hK.out _ _ ⟨bca BK115, bcb BK115, bca BK140, bcb BK140, HS4_, HS5_⟩ (fun hHeld => ?_)
 clear hK K
 refine nu 81 ?_
 refine pU 26 82 27 134217727 HT_ ?_
 refine done_ (done_of HT_.out (by kernel_rfl)) ?_
 try go_wp2
 go_roundg k2
 case measure => have := HJ4.out; have := HK2.out; omega
 case rel => exact ⟨(wrap64 (x6_2 + 1)), qs, H', ⟨by have := HJ4.out; have := HK2.out; omega⟩, ⟨qv HO_4.out⟩, ⟨by (with_reducible repeat (first | apply Kd.R_alloc | apply Kd.R_drewN | apply Kd.R_drew)); exact Kd.R_mono HO_5.out (fun _ hk => hk.1)⟩, ⟨by (with_reducible repeat (first | apply Kd.R_alloc | apply Kd.R_drewN | apply Kd.R_drew)); exact Kd.R_mono HO_100001.out (fun _ hk => hk.1)⟩, ⟨qk BK115.out⟩, ⟨qb HB.out⟩⟩

theorem laws_FnTreeRings.walk (P : laws_FnTreeRings.Pure) (a0 : Option Addr) (len0 cap0 : Nat) (z0 : List Int) (w : World) (w0 : (a0 = none ∧ len0 = 0 ∧ cap0 = 0 ∧ z0 = []) ∨ ∃ x, a0 = some x ∧ len0 ≤ cap0 ∧ cap0 ≤ maxLen ∧ z0.length = cap0 ∧ (∀ i, i < z0.length → w.cell? (x.add i) = some (.int .u8 (z0.getD i 0))) ∧ ∀ n ∈ z0, (Lit.int .u8 n).wf = true) (y0 : len0 * 1 ≤ 140737488351232) :
    Calls Try.prog 12 #[.slice a0 len0 cap0] w fun e w' => e = .returned (.bool true) ∧ Below w.heap.size w w' := by
  obtain ⟨l0, rfl, hr0, hm0, hw0, hc0⟩ := ReadsInt.ofRowC w0
  obtain ⟨k, h⟩ := P l0 hm0 y0 hw0
  refine (laws_FnTreeRings.calls k _ _ l0 true w (Kd.C_of_reads (d := (0 : Int)) (h1 := fun _ => rfl) hr0) hc0 h).mono ?_
  rintro e w' ⟨rfl, hd⟩
  exact ⟨rfl, hd⟩
end Go.Proofs.Ytgoembpmhlmafaa.P
