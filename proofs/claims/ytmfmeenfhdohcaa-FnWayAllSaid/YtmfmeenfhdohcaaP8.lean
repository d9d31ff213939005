import Derived.Test.YtmfmeenfhdohcaaP0
import Derived.Test.YtmfmeenfhdohcaaP2
namespace Go.Proofs.Ytmfmeenfhdohcaa.P
open Go.RowKit Go.Proofs.YtmfmeenfhdohcaaW.PrintWords Go.Proofs.YtmfmeenfhdohcaaW.PrintLast Go.Proofs.YtmfmeenfhdohcaaW.PrintMore
attribute [local go_sem] max2_int min2_int max_two min_two max_three min_three max_four min_four
set_option linter.unusedVariables false
set_option linter.unusedSimpArgs false
attribute [local go_sem high] eqATie
def impl_Net_walk.T4 : Bool × List (List Nat × List Nat) := (true, [([], []), ([], []), ([0, 1], [0, 1]), ([2], [2]), ([3, 2], [3]), ([4], [4]), ([5, 4], [4, 5]), ([6, 4, 4], [4, 6]), ([7], [7]), ([7], [7]), ([7], [7]), ([10, 7], [7, 10]), ([9, 11, 7], [7, 9, 11]), ([12, 7], [7, 12]), ([7], [7]), ([8, 13, 14, 7, 7], [7, 8, 13, 14]), ([15, 7], [7, 15]), ([7, 16, 4], [4, 7, 16]), ([4, 17], [4, 17])])
def impl_Net_walk.B4 : List Nat := [0, 0, 3, 7, 15, 31, 63, 127, 255, 255, 255, 1279, 3839, 7935, 255, 32767, 65535, 131071, 262143]
theorem impl_Net_walk.tab4 : rtab .any (opsOf Try.f55 4) = impl_Net_walk.T4 := by kernel_rfl
theorem impl_Net_walk.bits4 : waitsOk impl_Net_walk.T4.2 impl_Net_walk.B4 = true := by kernel_rfl
set_option maxHeartbeats 8000000 in
set_option maxRecDepth 100000 in
theorem impl_Net_walk.calls (k : Nat) (a0_0 : Int) (A0_1 : Option Addr) (c0_1 : Nat) (l0_1 : List (STie)) (A1 : Option Addr) (c1 : Nat) (l1 : List Int) (r : Bool) (w : World) (hr0_1 : Kd.C kTie w A0_1 l0_1.length l0_1) (hc0_1 : l0_1.length ≤ c0_1) (hr1 : Kd.C (Kd.int .i64) w A1 l1.length l1) (hc1 : l1.length ≤ c1) (h : impl_Net_walk.f k a0_0 l0_1 l1 = some r) :
    Calls Try.prog 55 #[.agg #[.int .i64 a0_0, .slice A0_1 l0_1.length c0_1], .slice A1 l1.length c1] w fun e w' => e = .returned (.bool r) ∧ Below w.heap.size w w' := by
 have hu31 := Try.underlying31
 have HR0_1 := Aside0.mk hr0_1
 have HC0_1 := Aside0.mk hc0_1
 clear hr0_1 hc0_1
 have HR1 := Aside0.mk hr1
 have HC1 := Aside0.mk hc1
 clear hr1 hc1
 have HB := q0 (Below.refl w.heap.size w)
 have H : (impl_Net_walk.l0 k l1 l1 (l1.length : Int) 0 a0_0 l0_1) = some r := h
 clear h
 have H' := Aside0.mk H
 clear H
 go_enter Try.func55, Try.ntmps55
 go_wp2_with (first | ((with_reducible refine gate_dst (N := 2) rfl ?_); refine be 2 #[.int .i64 a0_0, .slice A0_1 l0_1.length c0_1] 31 ?_; intro gb103 hg w3 hbox hb; have BK103 := q0 (hbox); have GW103 := q0 ((bs HB.out hg : w.heap.size ≤ gb103)); have GE103 := q0 ((bs HB.out hg : w.heap.size ≤ gb103)); replace HB := q0 (below_step (qb HB.out) hb); clear hb hbox hg))
 go_loopg [9] k (fun kq v9 w' => ∃ (x9_1 : Int), v9 = .int .i64 x9_1 ∧ Aside0 (impl_Net_walk.l0 kq l1 l1 (l1.length : Int) x9_1 a0_0 l0_1 = some r) ∧ Aside0 (kq ≤ k) ∧ Aside0 (w'.heap[gb103]? = some (.cells #[.int .i64 a0_0, (.slice A0_1 l0_1.length c0_1)] 31 (0, 0))) ∧ Aside0 (Below w.heap.size w w'))
 case atStart => exact ⟨(0), qs, H', ⟨Nat.le_refl _⟩, ⟨qk BK103.out⟩, ⟨qb HB.out⟩⟩
 clear H'
 try clear c1
 try clear p2
 obtain ⟨x9_1, rfl, HA, HK1, BK103, HB⟩ := hrel
 rcases gk with _ | k1
 · exact absurd HA.out (by simp [impl_Net_walk.l0])
 have H := HA.out
 clear HA
 simp only [impl_Net_walk.l0] at H
 by_cases c4 : x9_1 < (l1.length : Int)
 rotate_left
 · rw [if_neg c4] at H
   have c4b0 : decide (x9_1 < (l1.length : Int)) = false := decide_eq_false c4
   clear c4
   obtain rfl := Option.some.inj H
   go_wp2
   go_ret
   exact ⟨qe, qb HB.out⟩
 rw [if_pos c4] at H
 have c4b0 : decide (x9_1 < (l1.length : Int)) = true := decide_eq_true c4
 clear c4
 by_cases c5 : 0 ≤ x9_1
 rotate_left
 · rw [if_neg c5] at H
   exact absurd H (by simp)
 rw [if_pos c5] at H
 have c5b0 : decide (0 ≤ x9_1) = true := decide_eq_true c5
 clear c5
 by_cases c6 : x9_1 < (l1.length : Int)
 rotate_left
 · rw [if_neg c6] at H
   exact absurd H (by simp)
 rw [if_pos c6] at H
 have c6b0 : decide (x9_1 < (l1.length : Int)) = true := decide_eq_true c6
 clear c6
 replace H := Option.bind_eq_some_iff.mp H
 obtain ⟨t101, A70, H⟩ := H
 have A7 := Aside0.mk A70
 clear A70
 by_cases c8 : t101 = true
 rotate_left
 · replace c8 := Bool.eq_false_iff.mpr c8
   subst c8
   rw [if_neg nf] at H
   obtain rfl := Option.some.inj H
   have p100 : 0 ≤ (x9_1 : Int) := of_decide_eq_true qa
   have q100 : x9_1 < (l1.length : Int) := of_decide_eq_true qa
   obtain ⟨ad100, e100, hx100_0⟩ := Kd.at_int HR1.out x9_1 p100 q100
   cases e100
   replace hx100_0 := (HB.out.cell (World.block_lt_of_cell? w _ hx100_0)).trans hx100_0
   replace p100 := eq_true p100
   replace q100 := eq_true q100
   try go_wp2
   replace BK103 := q0 (blk_drew BK103.out)
   replace HB := q0 (below_drew1 HB.out)
   refine start_ (n := 19) (S := fun w' => w'.cell? ⟨gb103, 0, none⟩ = some (.int .i64 a0_0) ∧ w'.cell? ⟨gb103, 1, none⟩ = some (.slice A0_1 l0_1.length c0_1)) (ds := []) (ba 19 0) (by kernel_rfl) rfl (by kernel_rfl) ⟨(blk_cell BK103.out 0).trans rfl, (blk_cell BK103.out 1).trans rfl⟩ (fun hHeld => ?_); refine with_tabW impl_Net_walk.tab4 impl_Net_walk.bits4 (fun HT_ HW_ => ?_)
   generalize wr.drew = w23 at BK103 HB hHeld ⊢
   refine pu 1 (some 15) (ba 19 2) HT_.out ?_
   refine tu 0 (some 14) (ba 19 3) HT_.out HW_.out hHeld ?_
   refine one_ (i := 2) (N := some 16) (ba 19 7) rfl rfl (one_of HT_.out (by kernel_rfl)) (by decide) (fun K hK => ?_)
   refine goes_ Try.func48 (by kernel_rfl) rfl #[.agg #[.int .i64 a0_0, .slice A0_1 l0_1.length c0_1], .int .i64 (rd l1 x9_1)] (by rfl) rfl rfl qm ?_
   with_reducible refine (impl_Net_knot.calls a0_0 _ _ l0_1 (rd l1 x9_1) false _ ?side1 ?side2 A7.out).mono ?_
   (case side1 => exact qc (Kd.C_below HR0_1.out HB.out))
   (case side2 => exact HC0_1.out)
   rintro e w24 ⟨rfl, hb⟩
   refine ⟨_, rfl, ?_⟩
   replace BK103 := q0 (kb BK103.out hb)
   replace HB := q0 (below_step (qb HB.out) hb)
   (try clear hb)
   (try clear hb2)
   (try clear hk)
   (try clear hi)
   refine hK.out _ _ ⟨(blk_cell BK103.out 0).trans rfl, (blk_cell BK103.out 1).trans rfl⟩ (fun hHeld => ?_)
   clear hK K
   refine nu 16 ?_
   refine pu 3 (some 17) (ba 19 15) HT_.out ?_
   refine pu 4 (some 18) (ba 19 31) HT_.out ?_
   refine pv 5 (some 19) (ba 19 63) HT_.out ?_
   refine pv 6 (some 20) (ba 19 127) HT_.out ?_
   refine pv 7 (some 21) (ba 19 255) HT_.out ?_
   refine pv 8 (some 22) (ba 19 511) HT_.out ?_
   refine pv 9 (some 23) (ba 19 1023) HT_.out ?_
   refine pv 10 (some 24) (ba 19 2047) HT_.out ?_
   refine pv 11 (some 25) (ba 19 4095) HT_.out ?_
   refine pv 12 (some 26) (ba 19 8191) HT_.out ?_
   refine pv 13 (some 27) (ba 19 16383) HT_.out ?_
   refine pv 14 (some 28) (ba 19 32767) HT_.out ?_
   refine pv 15 (some 29) (ba 19 65535) HT_.out ?_
   refine pv 16 (some 30) (ba 19 131071) HT_.out ?_
   refine pv 17 (some 31) (ba 19 262143) HT_.out ?_
   refine pu 18 (some 32) (ba 19 524287) HT_.out ?_
   refine done_ (done_of HT_.out (by kernel_rfl)) ?_
   try go_wp2
   go_ret
   exact ⟨qe, qb HB.out⟩
 subst c8
 rw [if_pos rfl] at H
 by_cases c9 : x9_1 > 0
 rotate_left
 · rw [if_neg c9] at H
   have c9b0 : decide (0 < x9_1) = false := decide_eq_false c9
   clear c9
   have H' := Aside0.mk H
   clear H
   have p100 : 0 ≤ (x9_1 : Int) := of_decide_eq_true qa
   have q100 : x9_1 < (l1.length : Int) := of_decide_eq_true qa
   obtain ⟨ad100, e100, hx100_0⟩ := Kd.at_int HR1.out x9_1 p100 q100
   cases e100
   replace hx100_0 := (HB.out.cell (World.block_lt_of_cell? w _ hx100_0)).trans hx100_0
   replace p100 := eq_true p100
   replace q100 := eq_true q100
   try go_wp2
   replace BK103 := q0 (blk_drew BK103.out)
   replace HB := q0 (below_drew1 HB.out)
   refine start_ (n := 19) (S := fun w' => w'.cell? ⟨gb103, 0, none⟩ = some (.int .i64 a0_0) ∧ w'.cell? ⟨gb103, 1, none⟩ = some (.slice A0_1 l0_1.length c0_1)) (ds := []) (ba 19 0) (by kernel_rfl) rfl (by kernel_rfl) ⟨(blk_cell BK103.out 0).trans rfl, (blk_cell BK103.out 1).trans rfl⟩ (fun hHeld => ?_); refine with_tabW impl_Net_walk.tab4 impl_Net_walk.bits4 (fun HT_ HW_ => ?_)
   generalize wr.drew = w21 at BK103 HB hHeld ⊢
   refine pu 1 (some 15) (ba 19 2) HT_.out ?_
   refine tu 0 (some 14) (ba 19 3) HT_.out HW_.out hHeld ?_
   refine one_ (i := 2) (N := some 16) (ba 19 7) rfl rfl (one_of HT_.out (by kernel_rfl)) (by decide) (fun K hK => ?_)
   refine goes_ Try.func48 (by kernel_rfl) rfl #[.agg #[.int .i64 a0_0, .slice A0_1 l0_1.length c0_1], .int .i64 (rd l1 x9_1)] (by rfl) rfl rfl qm ?_
   with_reducible refine (impl_Net_knot.calls a0_0 _ _ l0_1 (rd l1 x9_1) true _ ?side1 ?side2 A7.out).mono ?_
   (case side1 => exact qc (Kd.C_below HR0_1.out HB.out))
   (case side2 => exact HC0_1.out)
   rintro e w22 ⟨rfl, hb⟩
   refine ⟨_, rfl, ?_⟩
   replace BK103 := q0 (kb BK103.out hb)
   replace HB := q0 (below_step (qb HB.out) hb)
   (try clear hb)
   (try clear hb2)
   (try clear hk)
   (try clear hi)
   refine hK.out _ _ ⟨(blk_cell BK103.out 0).trans rfl, (blk_cell BK103.out 1).trans rfl⟩ (fun hHeld => ?_)
   clear hK K
   refine nu 16 ?_
   refine pu 3 (some 17) (ba 19 15) HT_.out ?_
   refine pu 4 (some 18) (ba 19 31) HT_.out ?_
   refine pu 5 (some 19) (ba 19 63) HT_.out ?_
   refine pu 6 (some 20) (ba 19 127) HT_.out ?_
   refine pu 7 (some 21) (ba 19 255) HT_.out ?_
   refine pv 8 (some 22) (ba 19 511) HT_.out ?_
   refine pv 9 (some 23) (ba 19 1023) HT_.out ?_
   refine pv 10 (some 24) (ba 19 2047) HT_.out ?_
   refine pv 11 (some 25) (ba 19 4095) HT_.out ?_
   refine pv 12 (some 26) (ba 19 8191) HT_.out ?_
   refine pv 13 (some 27) (ba 19 16383) HT_.out ?_
   refine pv 14 (some 28) (ba 19 32767) HT_.out ?_
   refine pv 15 (some 29) (ba 19 65535) HT_.out ?_
   refine pv 16 (some 30) (ba 19 131071) HT_.out ?_
   refine pu 17 (some 31) (ba 19 262143) HT_.out ?_
   refine pu 18 (some 32) (ba 19 524287) HT_.out ?_
   refine done_ (done_of HT_.out (by kernel_rfl)) ?_
   try go_wp2
   go_roundg k1
   case measure => have := HK1.out; omega
   case rel => exact ⟨(wrap64 (x9_1 + 1)), qs, H', ⟨by have := HK1.out; omega⟩, ⟨qk BK103.out⟩, ⟨qb HB.out⟩⟩
 rw [if_pos c9] at H
 have c9b0 : decide (0 < x9_1) = true := decide_eq_true c9
 clear c9
 obtain ⟨ji10, hji10⟩ : ∃ j_ : Int, (wrap64 (x9_1 - 1)) = j_ := ⟨_, rfl⟩
 replace H : (if 0 ≤ (ji10) then (if (ji10) < (l1.length : Int) then ((impl_Net_has.f k1 a0_0 l0_1 (rd l1 (ji10)) (rd l1 x9_1)).bind fun t102 => (if t102 = true then (impl_Net_walk.l0 k1 l1 l1 (l1.length : Int) (wrap64 (x9_1 + 1)) a0_0 l0_1) else (some false))) else (none)) else (none)) = some r := by first | (rw [hji10] at H; exact H) | (simp only [hji10] at H ⊢; exact H)
 (try rw [hji10] at A7)
 have hji10w : (IntKind.i64.wrap (x9_1 - 1)) = ji10 := (i64_w _).trans hji10
 by_cases c11 : 0 ≤ (ji10)
 rotate_left
 · rw [if_neg c11] at H
   exact absurd H (by simp)
 rw [if_pos c11] at H
 have c11b0 : decide (0 ≤ (ji10)) = true := decide_eq_true c11
 clear c11
 by_cases c12 : (ji10) < (l1.length : Int)
 rotate_left
 · rw [if_neg c12] at H
   exact absurd H (by simp)
 rw [if_pos c12] at H
 have c12b0 : decide ((ji10) < (l1.length : Int)) = true := decide_eq_true c12
 clear c12
 replace H := Option.bind_eq_some_iff.mp H
 obtain ⟨t102, A104, H⟩ := H
 have A13 := Aside0.mk A104
 clear A104
 by_cases c14 : t102 = true
 rotate_left
 · replace c14 := Bool.eq_false_iff.mpr c14
   subst c14
   rw [if_neg nf] at H
   obtain rfl := Option.some.inj H
   have p100 : 0 ≤ (x9_1 : Int) := of_decide_eq_true qa
   have q100 : x9_1 < (l1.length : Int) := of_decide_eq_true qa
   obtain ⟨ad100, e100, hx100_0⟩ := Kd.at_int HR1.out x9_1 p100 q100
   cases e100
   replace hx100_0 := (HB.out.cell (World.block_lt_of_cell? w _ hx100_0)).trans hx100_0
   replace p100 := eq_true p100
   replace q100 := eq_true q100
   try go_wp2
   replace BK103 := q0 (blk_drew BK103.out)
   replace HB := q0 (below_drew1 HB.out)
   have p105 : 0 ≤ ((ji10) : Int) := of_decide_eq_true qa
   have q105 : (ji10) < (l1.length : Int) := of_decide_eq_true qa
   obtain ⟨ad105, e105, hx105_0⟩ := Kd.at_int HR1.out (ji10) p105 q105
   have hw105_0 := hx105_0
   obtain rfl : ad100 = ad105 := (by injection e105)
   replace hx105_0 := (HB.out.cell (World.block_lt_of_cell? w _ hx105_0)).trans hx105_0
   replace p105 := eq_true p105
   replace q105 := eq_true q105
   refine start_ (n := 19) (S := fun w' => w'.cell? ⟨gb103, 0, none⟩ = some (.int .i64 a0_0) ∧ w'.cell? ⟨gb103, 1, none⟩ = some (.slice A0_1 l0_1.length c0_1) ∧ w'.cell? (ad100.add ((ji10)).toNat) = some (.int .i64 (rd l1 (ji10)))) (ds := []) (ba 19 0) (by kernel_rfl) rfl (by kernel_rfl) ⟨(blk_cell BK103.out 0).trans rfl, (blk_cell BK103.out 1).trans rfl, ((HB.out.cell (World.block_lt_of_cell? w _ hw105_0)).trans hw105_0)⟩ (fun hHeld => ?_); refine with_tabW impl_Net_walk.tab4 impl_Net_walk.bits4 (fun HT_ HW_ => ?_)
   generalize wr.drew = w18 at BK103 HB hx105_0 hHeld ⊢
   refine pu 1 (some 15) (ba 19 2) HT_.out ?_
   refine tu 0 (some 14) (ba 19 3) HT_.out HW_.out hHeld ?_
   refine one_ (i := 2) (N := some 16) (ba 19 7) rfl rfl (one_of HT_.out (by kernel_rfl)) (by decide) (fun K hK => ?_)
   refine goes_ Try.func48 (by kernel_rfl) rfl #[.agg #[.int .i64 a0_0, .slice A0_1 l0_1.length c0_1], .int .i64 (rd l1 x9_1)] (by rfl) rfl rfl qm ?_
   with_reducible refine (impl_Net_knot.calls a0_0 _ _ l0_1 (rd l1 x9_1) true _ ?side1 ?side2 A7.out).mono ?_
   (case side1 => exact qc (Kd.C_below HR0_1.out HB.out))
   (case side2 => exact HC0_1.out)
   rintro e w19 ⟨rfl, hb⟩
   refine ⟨_, rfl, ?_⟩
   replace BK103 := q0 (kb BK103.out hb)
   replace HB := q0 (below_step (qb HB.out) hb)
   (try clear hb)
   (try clear hb2)
   (try clear hk)
   (try clear hi)
   refine hK.out _ _ ⟨(blk_cell BK103.out 0).trans rfl, (blk_cell BK103.out 1).trans rfl, ((HB.out.cell (World.block_lt_of_cell? w _ hw105_0)).trans hw105_0)⟩ (fun hHeld => ?_)
   clear hK K
   refine nu 16 ?_
   refine pu 3 (some 17) (ba 19 15) HT_.out ?_
   refine pu 4 (some 18) (ba 19 31) HT_.out ?_
   refine pu 5 (some 19) (ba 19 63) HT_.out ?_
   refine pu 6 (some 20) (ba 19 127) HT_.out ?_
   refine pu 7 (some 21) (ba 19 255) HT_.out ?_
   refine pu 9 (some 23) (ba 19 767) HT_.out ?_
   refine pu 10 (some 24) (ba 19 1791) HT_.out ?_
   refine pu 11 (some 25) (ba 19 3839) HT_.out ?_
   refine pu 12 (some 26) (ba 19 7935) HT_.out ?_
   refine pu 14 (some 28) (ba 19 24319) HT_.out ?_
   refine tu 8 (some 22) (ba 19 24575) HT_.out HW_.out hHeld ?_
   refine tu 13 (some 27) (ba 19 32767) HT_.out HW_.out hHeld ?_
   refine one_ (i := 15) (N := some 29) (ba 19 65535) rfl rfl (one_of HT_.out (by kernel_rfl)) (by decide) (fun K hK => ?_)
   refine goes_ Try.func52 (by kernel_rfl) rfl #[.agg #[.int .i64 a0_0, .slice A0_1 l0_1.length c0_1], .int .i64 (rd l1 (ji10)), .int .i64 (rd l1 x9_1)] (by rfl) rfl rfl (by (try simp only [List.map_toArray, List.map_cons, List.map_nil]); first | done | (simp only [hji10]; rfl) | rfl | (simp only [List.length_drop, List.length_take]; rfl)) ?_
   with_reducible refine (impl_Net_has.calls k1 a0_0 _ _ l0_1 (rd l1 (ji10)) (rd l1 x9_1) false _ ?side1 ?side2 A13.out).mono ?_
   (case side1 => exact qc (Kd.C_below HR0_1.out HB.out))
   (case side2 => exact HC0_1.out)
   rintro e w20 ⟨rfl, hb⟩
   refine ⟨_, rfl, ?_⟩
   replace BK103 := q0 (kb BK103.out hb)
   replace HB := q0 (below_step (qb HB.out) hb)
   (try clear hb)
   (try clear hb2)
   (try clear hk)
   (try clear hi)
   refine hK.out _ _ ⟨(blk_cell BK103.out 0).trans rfl, (blk_cell BK103.out 1).trans rfl, ((HB.out.cell (World.block_lt_of_cell? w _ hw105_0)).trans hw105_0)⟩ (fun hHeld => ?_)
   clear hK K
   refine nu 29 ?_
   refine pu 16 (some 30) (ba 19 131071) HT_.out ?_
   refine pu 17 (some 31) (ba 19 262143) HT_.out ?_
   refine pu 18 (some 32) (ba 19 524287) HT_.out ?_
   refine done_ (done_of HT_.out (by kernel_rfl)) ?_
   try go_wp2
   go_ret
   exact ⟨by first | rfl | (simp [errW_none, errW_some] <;> rfl) | (simp only [← hji10]; first | rfl | (simp [errW_none, errW_some] <;> rfl)) | (simp [*, errW_none, errW_some] <;> rfl), qb HB.out⟩
 subst c14
 rw [if_pos rfl] at H
 have H' := Aside0.mk H
 clear H
 have p100 : 0 ≤ (x9_1 : Int) := of_decide_eq_true qa
 have q100 : x9_1 < (l1.length : Int) := of_decide_eq_true qa
 obtain ⟨ad100, e100, hx100_0⟩ := Kd.at_int HR1.out x9_1 p100 q100
 cases e100
 replace hx100_0 := (HB.out.cell (World.block_lt_of_cell? w _ hx100_0)).trans hx100_0
 replace p100 := eq_true p100
 replace q100 := eq_true q100
 try go_wp2
 replace BK103 := q0 (blk_drew BK103.out)
 replace HB := q0 (below_drew1 HB.out)
 have p105 : 0 ≤ ((ji10) : Int) := of_decide_eq_true qa
 have q105 : (ji10) < (l1.length : Int) := of_decide_eq_true qa
 obtain ⟨ad105, e105, hx105_0⟩ := Kd.at_int HR1.out (ji10) p105 q105
 have hw105_0 := hx105_0
 obtain rfl : ad100 = ad105 := (by injection e105)
 replace hx105_0 := (HB.out.cell (World.block_lt_of_cell? w _ hx105_0)).trans hx105_0
 replace p105 := eq_true p105
 replace q105 := eq_true q105
 refine start_ (n := 19) (S := fun w' => w'.cell? ⟨gb103, 0, none⟩ = some (.int .i64 a0_0) ∧ w'.cell? ⟨gb103, 1, none⟩ = some (.slice A0_1 l0_1.length c0_1) ∧ w'.cell? (ad100.add ((ji10)).toNat) = some (.int .i64 (rd l1 (ji10)))) (ds := []) (ba 19 0) (by kernel_rfl) rfl (by kernel_rfl) ⟨(blk_cell BK103.out 0).trans rfl, (blk_cell BK103.out 1).trans rfl, ((HB.out.cell (World.block_lt_of_cell? w _ hw105_0)).trans hw105_0)⟩ (fun hHeld => ?_); refine with_tabW impl_Net_walk.tab4 impl_Net_walk.bits4 (fun HT_ HW_ => ?_)
 generalize wr.drew = w15 at BK103 HB hx105_0 hHeld ⊢
 refine pu 1 (some 15) (ba 19 2) HT_.out ?_
 refine tu 0 (some 14) (ba 19 3) HT_.out HW_.out hHeld ?_
 refine one_ (i := 2) (N := some 16) (ba 19 7) rfl rfl (one_of HT_.out (by kernel_rfl)) (by decide) (fun K hK => ?_)
 refine goes_ Try.func48 (by kernel_rfl) rfl #[.agg #[.int .i64 a0_0, .slice A0_1 l0_1.length c0_1], .int .i64 (rd l1 x9_1)] (by rfl) rfl rfl qm ?_
 with_reducible refine (impl_Net_knot.calls a0_0 _ _ l0_1 (rd l1 x9_1) true _ ?side1 ?side2 A7.out).mono ?_
 (case side1 => exact qc (Kd.C_below HR0_1.out HB.out))
 (case side2 => exact HC0_1.out)
 rintro e w16 ⟨rfl, hb⟩
 refine ⟨_, rfl, ?_⟩
 replace BK103 := q0 (kb BK103.out hb)
 replace HB := q0 (below_step (qb HB.out) hb)
 (try clear hb)
 (try clear hb2)
 (try clear hk)
 (try clear hi)
 refine hK.out _ _ ⟨(blk_cell BK103.out 0).trans rfl, (blk_cell BK103.out 1).trans rfl, ((HB.out.cell (World.block_lt_of_cell? w _ hw105_0)).trans hw105_0)⟩ (fun hHeld => ?_)
 clear hK K
 refine nu 16 ?_
 refine pu 3 (some 17) (ba 19 15) HT_.out ?_
 refine pu 4 (some 18) (ba 19 31) HT_.out ?_
 refine pu 5 (some 19) (ba 19 63) HT_.out ?_
 refine pu 6 (some 20) (ba 19 127) HT_.out ?_
 refine pu 7 (some 21) (ba 19 255) HT_.out ?_
 refine pu 9 (some 23) (ba 19 767) HT_.out ?_
 refine pu 10 (some 24) (ba 19 1791) HT_.out ?_
 refine pu 11 (some 25) (ba 19 3839) HT_.out ?_
 refine pu 12 (some 26) (ba 19 7935) HT_.out ?_
 refine pu 14 (some 28) (ba 19 24319) HT_.out ?_
 refine tu 8 (some 22) (ba 19 24575) HT_.out HW_.out hHeld ?_
 refine tu 13 (some 27) (ba 19 32767) HT_.out HW_.out hHeld ?_
 refine one_ (i := 15) (N := some 29) (ba 19 65535) rfl rfl (one_of HT_.out (by kernel_rfl)) (by decide) (fun K hK => ?_)
 refine goes_ Try.func52 (by kernel_rfl) rfl #[.agg #[.int .i64 a0_0, .slice A0_1 l0_1.length c0_1], .int .i64 (rd l1 (ji10)), .int .i64 (rd l1 x9_1)] (by rfl) rfl rfl (by (try simp only [List.map_toArray, List.map_cons, List.map_nil]); first | done | (simp only [hji10]; rfl) | rfl | (simp only [List.length_drop, List.length_take]; rfl)) ?_
 with_reducible refine (impl_Net_has.calls k1 a0_0 _ _ l0_1 (rd l1 (ji10)) (rd l1 x9_1) true _ ?side1 ?side2 A13.out).mono ?_
 (case side1 => exact qc (Kd.C_below HR0_1.out HB.out))
 (case side2 => exact HC0_1.out)
 rintro e w17 ⟨rfl, hb⟩
 refine ⟨_, rfl, ?_⟩
 replace BK103 := q0 (kb BK103.out hb)
 replace HB := q0 (below_step (qb HB.out) hb)
 (try clear hb)
 (try clear hb2)
 (try clear hk)
 (try clear hi)
 refine hK.out _ _ ⟨(blk_cell BK103.out 0).trans rfl, (blk_cell BK103.out 1).trans rfl, ((HB.out.cell (World.block_lt_of_cell? w _ hw105_0)).trans hw105_0)⟩ (fun hHeld => ?_)
 clear hK K
 refine nu 29 ?_
 refine pu 16 (some 30) (ba 19 131071) HT_.out ?_
 refine pu 17 (some 31) (ba 19 262143) HT_.out ?_
 refine pu 18 (some 32) (ba 19 524287) HT_.out ?_
 refine done_ (done_of HT_.out (by kernel_rfl)) ?_
 try go_wp2
 go_roundg k1
 case measure => have := HK1.out; omega
 case rel => exact ⟨(wrap64 (x9_1 + 1)), qs, H', ⟨by have := HK1.out; omega⟩, ⟨qk BK103.out⟩, ⟨qb HB.out⟩⟩

set_option maxHeartbeats 8000000 in
set_option maxRecDepth 100000 in
theorem impl_different.calls (k : Nat) (A0 : Option Addr) (c0 : Nat) (l0 : List Int) (r : Bool) (w : World) (hr0 : Kd.C (Kd.int .i64) w A0 l0.length l0) (hc0 : l0.length ≤ c0) (h : impl_different.f k l0 = some r) :
    Calls Try.prog 56 #[.slice A0 l0.length c0] w fun e w' => e = .returned (.bool r) ∧ Drawn0 w w' := by
 have HR0 := Aside0.mk hr0
 have HC0 := Aside0.mk hc0
 clear hr0 hc0
 have H : (impl_different.l0 k l0 l0 (l0.length : Int) 0) = some r := h
 clear h
 have H' := Aside0.mk H
 clear H
 go_enter Try.func56, Try.ntmps56
 go_wp2
 go_loopg [7] k (fun kq v7 w' => ∃ (x7_1 : Int), v7 = .int .i64 x7_1 ∧ Aside0 (impl_different.l0 kq l0 l0 (l0.length : Int) x7_1 = some r) ∧ Aside0 (kq ≤ k) ∧ Drawn0 w w')
 case atStart => exact ⟨(0), qs, H', ⟨Nat.le_refl _⟩, by repeat (first | exact Drawn0.refl _ | apply Drawn0.step)⟩
 clear H'
 obtain ⟨x7_1, rfl, HA, HK1, ⟨m1, rfl⟩⟩ := hrel
 rcases gk with _ | k1
 · exact absurd HA.out (by simp [impl_different.l0])
 have H := HA.out
 clear HA
 simp only [impl_different.l0] at H
 by_cases c2 : x7_1 < (l0.length : Int)
 rotate_left
 · rw [if_neg c2] at H
   have c2b0 : decide (x7_1 < (l0.length : Int)) = false := decide_eq_false c2
   clear c2
   obtain rfl := Option.some.inj H
   go_wp2
   go_ret
   exact ⟨by first | rfl | (simp; done) | (simp [*]; done), by repeat (first | exact Drawn0.refl _ | apply Drawn0.step)⟩
 rw [if_pos c2] at H
 have c2b0 : decide (x7_1 < (l0.length : Int)) = true := decide_eq_true c2
 clear c2
 by_cases c3 : 0 ≤ x7_1
 rotate_left
 · rw [if_neg c3] at H
   exact absurd H (by simp)
 rw [if_pos c3] at H
 have c3b0 : decide (0 ≤ x7_1) = true := decide_eq_true c3
 clear c3
 by_cases c4 : x7_1 < (l0.length : Int)
 rotate_left
 · rw [if_neg c4] at H
   exact absurd H (by simp)
 rw [if_pos c4] at H
 have c4b0 : decide (x7_1 < (l0.length : Int)) = true := decide_eq_true c4
 clear c4
 have c5b0 := eq_true (of_decide_eq_true qa : 0 ≤ x7_1)
 by_cases c6 : x7_1 ≤ (l0.length : Int)
 rotate_left
 · rw [if_neg c6] at H
   exact absurd H (by simp)
 rw [if_pos c6] at H
 have c6b0 := eq_true c6
 have c6b1 : decide (x7_1 ≤ (l0.length : Int)) = true := decide_eq_true c6
 clear c6
 replace H := Option.bind_eq_some_iff.mp H
 obtain ⟨t100, A70, H⟩ := H
 have A7 := Aside0.mk A70
 clear A70
 by_cases c8 : t100 = true
 · subst c8
   rw [if_pos rfl] at H
   obtain rfl := Option.some.inj H
   have p101 : 0 ≤ (x7_1 : Int) := of_decide_eq_true qa
   have q101 : x7_1 < (l0.length : Int) := of_decide_eq_true qa
   obtain ⟨ad101, e101, hx101_0⟩ := Kd.at_int HR0.out x7_1 p101 q101
   cases e101
   replace p101 := eq_true p101
   replace q101 := eq_true q101
   obtain ⟨i09, hi09, _, hsz9, _⟩ := info_parts info3
   obtain ⟨hcut9, hA9, hC9⟩ := print_take_of (P := Try.prog) (Value.int .i64) 0 26 3 .i64 Try.underlying26 hi09 hsz9 (some ad101) c0 l0 x7_1 (of_decide_eq_true qa) (of_decide_eq_true qa) HC0.out
   have HR102 := q0 (Kd.C_of_reads (h1 := fun _ => rfl) (hA9 _ (Kd.reads_of_C HR0.out)))
   have HC102 := Aside0.mk hC9
   clear hA9 hC9 hi09 hsz9
   go_wp2_with (first | ((with_reducible refine gate_callee (f := 77) rfl ?_); refine goesL_ (some 16) rfl rfl Try.func77 (by kernel_rfl) rfl #[.slice (some ad101) (l0.take (x7_1 : Int).toNat).length c0, .int .i64 (rd l0 x7_1)] rfl (by (try simp only [List.map_toArray, List.map_cons, List.map_nil]); first | done | (rw [show (l0.take (x7_1 : Int).toNat).length = x7_1.toNat from (by rw [List.length_take]; have h_ : (x7_1 : Int) ≤ (l0.length : Int) := of_decide_eq_true qa; omega)] <;> rfl) | rfl | (simp only [List.length_drop, List.length_take]; rfl)) ?_; (with_reducible refine (slices_Contains_int.calls k1 _ _ (l0.take (x7_1 : Int).toNat) (rd l0 x7_1) true _ ?side1 ?side2 A7.out).mono ?_); (case side1 => repeat (first | exact HR102.out | (with_reducible refine Kd.C_alloc ?_ _) | (with_reducible refine Kd.C_drewN ?_ _) | (with_reducible refine Kd.C_drew ?_))); (case side2 => exact HC102.out); rintro e w' ⟨rfl, ⟨nd, rfl⟩⟩; refine ⟨_, rfl, ?_⟩))
   go_ret
   exact ⟨by first | rfl | (simp; done) | (simp [*]; done), by repeat (first | exact Drawn0.refl _ | apply Drawn0.step)⟩
 replace c8 := Bool.eq_false_iff.mpr c8
 subst c8
 rw [if_neg nf] at H
 have H' := Aside0.mk H
 clear H
 have p101 : 0 ≤ (x7_1 : Int) := of_decide_eq_true qa
 have q101 : x7_1 < (l0.length : Int) := of_decide_eq_true qa
 obtain ⟨ad101, e101, hx101_0⟩ := Kd.at_int HR0.out x7_1 p101 q101
 cases e101
 replace p101 := eq_true p101
 replace q101 := eq_true q101
 obtain ⟨i103, hi103, _, hsz10, _⟩ := info_parts info3
 obtain ⟨hcut10, hA10, hC10⟩ := print_take_of (P := Try.prog) (Value.int .i64) 0 26 3 .i64 Try.underlying26 hi103 hsz10 (some ad101) c0 l0 x7_1 (of_decide_eq_true qa) (of_decide_eq_true qa) HC0.out
 have HR102 := q0 (Kd.C_of_reads (h1 := fun _ => rfl) (hA10 _ (Kd.reads_of_C HR0.out)))
 have HC102 := Aside0.mk hC10
 clear hA10 hC10 hi103 hsz10
 go_wp2_with (first | ((with_reducible refine gate_callee (f := 77) rfl ?_); refine goesL_ (some 16) rfl rfl Try.func77 (by kernel_rfl) rfl #[.slice (some ad101) (l0.take (x7_1 : Int).toNat).length c0, .int .i64 (rd l0 x7_1)] rfl (by (try simp only [List.map_toArray, List.map_cons, List.map_nil]); first | done | (rw [show (l0.take (x7_1 : Int).toNat).length = x7_1.toNat from (by rw [List.length_take]; have h_ : (x7_1 : Int) ≤ (l0.length : Int) := of_decide_eq_true qa; omega)] <;> rfl) | rfl | (simp only [List.length_drop, List.length_take]; rfl)) ?_; (with_reducible refine (slices_Contains_int.calls k1 _ _ (l0.take (x7_1 : Int).toNat) (rd l0 x7_1) false _ ?side1 ?side2 A7.out).mono ?_); (case side1 => repeat (first | exact HR102.out | (with_reducible refine Kd.C_alloc ?_ _) | (with_reducible refine Kd.C_drewN ?_ _) | (with_reducible refine Kd.C_drew ?_))); (case side2 => exact HC102.out); rintro e w' ⟨rfl, ⟨nd, rfl⟩⟩; refine ⟨_, rfl, ?_⟩))
 go_roundg k1
 case measure => have := HK1.out; omega
 case rel => exact ⟨(wrap64 (x7_1 + 1)), qs, H', ⟨by have := HK1.out; omega⟩, by repeat (first | exact Drawn0.refl _ | apply Drawn0.step)⟩

set_option maxHeartbeats 8000000 in
set_option maxRecDepth 100000 in
theorem impl_WayOk.calls (k : Nat) (a0_0 : Int) (A0_1 : Option Addr) (c0_1 : Nat) (l0_1 : List (STie)) (A1 : Option Addr) (c1 : Nat) (l1 : List Int) (r : Bool) (w : World) (hr0_1 : Kd.C kTie w A0_1 l0_1.length l0_1) (hc0_1 : l0_1.length ≤ c0_1) (hr1 : Kd.C (Kd.int .i64) w A1 l1.length l1) (hc1 : l1.length ≤ c1) (h : impl_WayOk.f k a0_0 l0_1 l1 = some r) :
    Calls Try.prog 31 #[.agg #[.int .i64 a0_0, .slice A0_1 l0_1.length c0_1], .slice A1 l1.length c1] w fun e w' => e = .returned (.bool r) ∧ Below w.heap.size w w' := by
 have hu31 := Try.underlying31
 have HR0_1 := Aside0.mk hr0_1
 have HC0_1 := Aside0.mk hc0_1
 clear hr0_1 hc0_1
 have HR1 := Aside0.mk hr1
 have HC1 := Aside0.mk hc1
 clear hr1 hc1
 have HB := q0 (Below.refl w.heap.size w)
 have H : ((impl_NetOk.f k a0_0 l0_1).bind fun t100 => (if t100 = true then (if (l1.length : Int) > 0 then ((impl_Net_walk.f k a0_0 l0_1 l1).bind fun t101 => (if t101 = true then ((impl_different.f k l1).bind fun t102 => (some t102)) else (some false))) else (some false)) else (some false))) = some r := h
 clear h
 replace H := Option.bind_eq_some_iff.mp H
 obtain ⟨t100, A30, H⟩ := H
 have A3 := Aside0.mk A30
 clear A30
 by_cases c4 : t100 = true
 rotate_left
 · replace c4 := Bool.eq_false_iff.mpr c4
   subst c4
   rw [if_neg nf] at H
   obtain rfl := Option.some.inj H
   go_enter Try.func31, Try.ntmps31
   go_wp2_with (first | ((with_reducible refine gate_dst (N := 2) rfl ?_); (try (refine gate_guard (by rfl) ?_; dsimp only)); refine be 2 #[.int .i64 a0_0, .slice A0_1 l0_1.length c0_1] 31 ?_; intro gb103 hg w22 hbox hb; have BK103 := q0 (hbox); have GW103 := q0 ((bs HB.out hg : w.heap.size ≤ gb103)); have GE103 := q0 ((bs HB.out hg : w.heap.size ≤ gb103)); replace HB := q0 (below_step (qb HB.out) hb); clear hb hbox hg; have hcz23_0 : w22.cell? ⟨gb103, 0, none⟩ = some (.int .i64 a0_0) := (blk_cell BK103.out 0).trans rfl; have hcz23_1 : w22.cell? ⟨gb103, 1, none⟩ = some (.slice A0_1 l0_1.length c0_1) := (blk_cell BK103.out 1).trans rfl; have hfz23_0 := blk_frozen BK103.out 0; have hfz23_1 := blk_frozen BK103.out 1) | ((with_reducible refine gate_callee (f := 47) rfl ?_); refine gl 6 Try.func47 #[.agg #[.int .i64 a0_0, .slice A0_1 l0_1.length c0_1]] ?_; (with_reducible refine (impl_NetOk.calls k a0_0 _ _ l0_1 false _ ?side1 ?side2 A3.out).mono ?_); (case side1 => exact qc (Kd.C_below HR0_1.out HB.out)); (case side2 => exact HC0_1.out); rintro e w24 ⟨rfl, hb⟩; refine ⟨_, rfl, ?_⟩; replace BK103 := q0 (kb BK103.out hb); replace HB := q0 (below_step (qb HB.out) hb); (try clear hb); (try clear hb2); (try clear hk); (try clear hi)))
   go_ret
   exact ⟨qe, qb HB.out⟩
 subst c4
 rw [if_pos rfl] at H
 by_cases c5 : (l1.length : Int) > 0
 rotate_left
 · rw [if_neg c5] at H
   have c5b0 : decide (0 < (l1.length : Int)) = false := decide_eq_false c5
   have c5b1 : decide (0 < l1.length) = false := decide_eq_false (by omega)
   clear c5
   obtain rfl := Option.some.inj H
   go_enter Try.func31, Try.ntmps31
   go_wp2_with (first | ((with_reducible refine gate_dst (N := 2) rfl ?_); (try (refine gate_guard (by rfl) ?_; dsimp only)); refine be 2 #[.int .i64 a0_0, .slice A0_1 l0_1.length c0_1] 31 ?_; intro gb103 hg w19 hbox hb; have BK103 := q0 (hbox); have GW103 := q0 ((bs HB.out hg : w.heap.size ≤ gb103)); have GE103 := q0 ((bs HB.out hg : w.heap.size ≤ gb103)); replace HB := q0 (below_step (qb HB.out) hb); clear hb hbox hg; have hcz20_0 : w19.cell? ⟨gb103, 0, none⟩ = some (.int .i64 a0_0) := (blk_cell BK103.out 0).trans rfl; have hcz20_1 : w19.cell? ⟨gb103, 1, none⟩ = some (.slice A0_1 l0_1.length c0_1) := (blk_cell BK103.out 1).trans rfl; have hfz20_0 := blk_frozen BK103.out 0; have hfz20_1 := blk_frozen BK103.out 1) | ((with_reducible refine gate_callee (f := 47) rfl ?_); refine gl 6 Try.func47 #[.agg #[.int .i64 a0_0, .slice A0_1 l0_1.length c0_1]] ?_; (with_reducible refine (impl_NetOk.calls k a0_0 _ _ l0_1 true _ ?side1 ?side2 A3.out).mono ?_); (case side1 => exact qc (Kd.C_below HR0_1.out HB.out)); (case side2 => exact HC0_1.out); rintro e w21 ⟨rfl, hb⟩; refine ⟨_, rfl, ?_⟩; replace BK103 := q0 (kb BK103.out hb); replace HB := q0 (below_step (qb HB.out) hb); (try clear hb); (try clear hb2); (try clear hk); (try clear hi)))
   go_ret
   exact ⟨qe, qb HB.out⟩
 rw [if_pos c5] at H
 have c5b0 : decide (0 < (l1.length : Int)) = true := decide_eq_true c5
 have c5b1 : decide (0 < l1.length) = true := decide_eq_true (by omega)
 clear c5
 replace H := Option.bind_eq_some_iff.mp H
 obtain ⟨t101, A60, H⟩ := H
 have A6 := Aside0.mk A60
 clear A60
 by_cases c7 : t101 = true
 rotate_left
 · replace c7 := Bool.eq_false_iff.mpr c7
   subst c7
   rw [if_neg nf] at H
   obtain rfl := Option.some.inj H
   go_enter Try.func31, Try.ntmps31
   go_wp2_with (first | ((with_reducible refine gate_dst (N := 2) rfl ?_); (try (refine gate_guard (by rfl) ?_; dsimp only)); refine be 2 #[.int .i64 a0_0, .slice A0_1 l0_1.length c0_1] 31 ?_; intro gb103 hg w14 hbox hb; have BK103 := q0 (hbox); have GW103 := q0 ((bs HB.out hg : w.heap.size ≤ gb103)); have GE103 := q0 ((bs HB.out hg : w.heap.size ≤ gb103)); replace HB := q0 (below_step (qb HB.out) hb); clear hb hbox hg; have hcz15_0 : w14.cell? ⟨gb103, 0, none⟩ = some (.int .i64 a0_0) := (blk_cell BK103.out 0).trans rfl; have hcz15_1 : w14.cell? ⟨gb103, 1, none⟩ = some (.slice A0_1 l0_1.length c0_1) := (blk_cell BK103.out 1).trans rfl; have hfz15_0 := blk_frozen BK103.out 0; have hfz15_1 := blk_frozen BK103.out 1) | ((with_reducible refine gate_callee (f := 47) rfl ?_); refine gl 6 Try.func47 #[.agg #[.int .i64 a0_0, .slice A0_1 l0_1.length c0_1]] ?_; (with_reducible refine (impl_NetOk.calls k a0_0 _ _ l0_1 true _ ?side1 ?side2 A3.out).mono ?_); (case side1 => exact qc (Kd.C_below HR0_1.out HB.out)); (case side2 => exact HC0_1.out); rintro e w16 ⟨rfl, hb⟩; refine ⟨_, rfl, ?_⟩; replace BK103 := q0 (kb BK103.out hb); replace HB := q0 (below_step (qb HB.out) hb); (try clear hb); (try clear hb2); (try clear hk); (try clear hi); have hcz17_0 : w16.cell? ⟨gb103, 0, none⟩ = some (.int .i64 a0_0) := (blk_cell BK103.out 0).trans rfl; have hcz17_1 : w16.cell? ⟨gb103, 1, none⟩ = some (.slice A0_1 l0_1.length c0_1) := (blk_cell BK103.out 1).trans rfl; have hfz17_0 := blk_frozen BK103.out 0; have hfz17_1 := blk_frozen BK103.out 1) | (go_at_call 55; (with_reducible refine (impl_Net_walk.calls k a0_0 _ _ l0_1 _ _ l1 false _ ?side1 ?side2 ?side3 ?side4 A6.out).mono ?_); (case side1 => exact qc (Kd.C_below HR0_1.out HB.out)); (case side2 => exact HC0_1.out); (case side3 => exact qc (Kd.C_below HR1.out HB.out)); (case side4 => exact HC1.out); rintro e w18 ⟨rfl, hb⟩; replace BK103 := q0 (kb BK103.out hb); replace HB := q0 (below_step (qb HB.out) hb); (try clear hb); (try clear hb2); (try clear hk); (try clear hi)))
   go_ret
   exact ⟨qe, qb HB.out⟩
 subst c7
 rw [if_pos rfl] at H
 replace H := Option.bind_eq_some_iff.mp H
 obtain ⟨t102, A80, H⟩ := H
 have A8 := Aside0.mk A80
 clear A80
 obtain rfl := Option.some.inj H
 go_enter Try.func31, Try.ntmps31
 go_wp2_with (first | ((with_reducible refine gate_dst (N := 2) rfl ?_); (try (refine gate_guard (by rfl) ?_; dsimp only)); refine be 2 #[.int .i64 a0_0, .slice A0_1 l0_1.length c0_1] 31 ?_; intro gb103 hg w9 hbox hb; have BK103 := q0 (hbox); have GW103 := q0 ((bs HB.out hg : w.heap.size ≤ gb103)); have GE103 := q0 ((bs HB.out hg : w.heap.size ≤ gb103)); replace HB := q0 (below_step (qb HB.out) hb); clear hb hbox hg; have hcz10_0 : w9.cell? ⟨gb103, 0, none⟩ = some (.int .i64 a0_0) := (blk_cell BK103.out 0).trans rfl; have hcz10_1 : w9.cell? ⟨gb103, 1, none⟩ = some (.slice A0_1 l0_1.length c0_1) := (blk_cell BK103.out 1).trans rfl; have hfz10_0 := blk_frozen BK103.out 0; have hfz10_1 := blk_frozen BK103.out 1) | ((with_reducible refine gate_callee (f := 47) rfl ?_); refine gl 6 Try.func47 #[.agg #[.int .i64 a0_0, .slice A0_1 l0_1.length c0_1]] ?_; (with_reducible refine (impl_NetOk.calls k a0_0 _ _ l0_1 true _ ?side1 ?side2 A3.out).mono ?_); (case side1 => exact qc (Kd.C_below HR0_1.out HB.out)); (case side2 => exact HC0_1.out); rintro e w11 ⟨rfl, hb⟩; refine ⟨_, rfl, ?_⟩; replace BK103 := q0 (kb BK103.out hb); replace HB := q0 (below_step (qb HB.out) hb); (try clear hb); (try clear hb2); (try clear hk); (try clear hi); have hcz12_0 : w11.cell? ⟨gb103, 0, none⟩ = some (.int .i64 a0_0) := (blk_cell BK103.out 0).trans rfl; have hcz12_1 : w11.cell? ⟨gb103, 1, none⟩ = some (.slice A0_1 l0_1.length c0_1) := (blk_cell BK103.out 1).trans rfl; have hfz12_0 := blk_frozen BK103.out 0; have hfz12_1 := blk_frozen BK103.out 1) | (go_at_call 55; (with_reducible refine (impl_Net_walk.calls k a0_0 _ _ l0_1 _ _ l1 true _ ?side1 ?side2 ?side3 ?side4 A6.out).mono ?_); (case side1 => exact qc (Kd.C_below HR0_1.out HB.out)); (case side2 => exact HC0_1.out); (case side3 => exact qc (Kd.C_below HR1.out HB.out)); (case side4 => exact HC1.out); rintro e w13 ⟨rfl, hb⟩; replace BK103 := q0 (kb BK103.out hb); replace HB := q0 (below_step (qb HB.out) hb); (try clear hb); (try clear hb2); (try clear hk); (try clear hi)) | (go_at_call 56; (with_reducible refine (impl_different.calls k _ _ l1 t102 _ ?side1 ?side2 A8.out).mono ?_); (case side1 => exact qc (Kd.C_below HR1.out HB.out)); (case side2 => exact HC1.out); rintro e w' ⟨rfl, ⟨nd, rfl⟩⟩))
 go_ret
 exact ⟨qe, qb HB.out⟩

end Go.Proofs.Ytmfmeenfhdohcaa.P
