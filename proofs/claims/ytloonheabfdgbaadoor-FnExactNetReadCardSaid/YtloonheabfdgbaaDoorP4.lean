import Derived.Test.YtloonheabfdgbaaDoorP0
import Derived.Test.YtloonheabfdgbaaDoorP1
import Derived.Test.YtloonheabfdgbaaDoorP2
namespace Go.Proofs.YtloonheabfdgbaaDoor.P
open Go.RowKit Go.Proofs.YtloonheabfdgbaaDoorW.PrintWords Go.Proofs.YtloonheabfdgbaaDoorW.PrintLast Go.Proofs.YtloonheabfdgbaaDoorW.PrintMore
attribute [local go_sem] max2_int min2_int max_two min_two max_three min_three max_four min_four
set_option linter.unusedVariables false
set_option linter.unusedSimpArgs false
attribute [local go_sem high] eqATie
set_option maxHeartbeats 8000000 in
set_option maxRecDepth 100000 in
theorem laws_eqTie.calls (a0_0 : Int) (a0_1 : Int) (a1_0 : Int) (a1_1 : Int) (r : Bool) (w : World) (h : laws_eqTie.f a0_0 a0_1 a1_0 a1_1 = some r) :
    Calls Tryd.prog 46 #[.agg #[.int .i64 a0_0, .int .i64 a0_1], .agg #[.int .i64 a1_0, .int .i64 a1_1]] w fun e w' => e = .returned (.bool r) ∧ Below w.heap.size w w' := by
 have hu47 := Tryd.underlying47
 have HB := q0 (Below.refl w.heap.size w)
 have H : (if a0_0 = a1_0 then (if a0_1 = a1_1 then (some true) else (some false)) else (some false)) = some r := h
 clear h
 by_cases c3 : a0_0 = a1_0
 rotate_left
 · rw [if_neg c3] at H
   have c3b0 : (a0_0 == a1_0) = false := beq_eq_false_iff_ne.mpr c3
   have c3b1 : (a0_0 != a1_0) = true := bne_iff_ne.mpr c3
   obtain rfl := Option.some.inj H
   go_enter Tryd.func46, Tryd.ntmps46
   go_wp2_with (first | ((with_reducible refine gd 2 ?_); refine be 2 #[.int .i64 a0_0, .int .i64 a0_1] 47 ?_; intro gb100 hg w15 hbox hb; have BK100 := q0 (hbox); have GW100 := gw HB hg; have GE100 := gw HB hg; replace HB := bp HB hb; clear hb hbox hg) | ((with_reducible refine gd 3 ?_); refine be 3 #[.int .i64 a1_0, .int .i64 a1_1] 47 ?_; intro gb101 hg w16 hbox hb; have BK101 := q0 (hbox); have GW101 := gw HB hg; have GE101 := gw HB hg; replace HB := bp HB hb; have NB100_101 := nl BK100 hg; have NB101_100 := ng BK100 hg; replace BK100 := kd BK100 hb; clear hb hbox hg; have hnb17 := NB100_101.out; have hnc17 := NB101_100.out; obtain ⟨hcz18_0, hcz18_1, hfz18_0, hfz18_1⟩ := b2 BK100; obtain ⟨hcz19_0, hcz19_1, hfz19_0, hfz19_1⟩ := b2 BK101))
   go_ret
   exact ⟨qe, qb HB.out⟩
 rw [if_pos c3] at H
 have c3b0 : (a0_0 == a1_0) = true := beq_iff_eq.mpr c3
 have c3b1 : (a0_0 != a1_0) = false := bne_eq_false_iff_eq.mpr c3
 clear c3
 by_cases c4 : a0_1 = a1_1
 rotate_left
 · rw [if_neg c4] at H
   have c4b0 : (a0_1 == a1_1) = false := beq_eq_false_iff_ne.mpr c4
   have c4b1 : (a0_1 != a1_1) = true := bne_iff_ne.mpr c4
   obtain rfl := Option.some.inj H
   go_enter Tryd.func46, Tryd.ntmps46
   go_wp2_with (first | ((with_reducible refine gd 2 ?_); refine be 2 #[.int .i64 a0_0, .int .i64 a0_1] 47 ?_; intro gb100 hg w10 hbox hb; have BK100 := q0 (hbox); have GW100 := gw HB hg; have GE100 := gw HB hg; replace HB := bp HB hb; clear hb hbox hg) | ((with_reducible refine gd 3 ?_); refine be 3 #[.int .i64 a1_0, .int .i64 a1_1] 47 ?_; intro gb101 hg w11 hbox hb; have BK101 := q0 (hbox); have GW101 := gw HB hg; have GE101 := gw HB hg; replace HB := bp HB hb; have NB100_101 := nl BK100 hg; have NB101_100 := ng BK100 hg; replace BK100 := kd BK100 hb; clear hb hbox hg; have hnb12 := NB100_101.out; have hnc12 := NB101_100.out; obtain ⟨hcz13_0, hcz13_1, hfz13_0, hfz13_1⟩ := b2 BK100; obtain ⟨hcz14_0, hcz14_1, hfz14_0, hfz14_1⟩ := b2 BK101))
   go_ret
   exact ⟨qe, qb HB.out⟩
 rw [if_pos c4] at H
 have c4b0 : (a0_1 == a1_1) = true := beq_iff_eq.mpr c4
 have c4b1 : (a0_1 != a1_1) = false := bne_eq_false_iff_eq.mpr c4
 clear c4
 obtain rfl := Option.some.inj H
 go_enter Tryd.func46, Tryd.ntmps46
 go_wp2_with (first | ((with_reducible refine gd 2 ?_); refine be 2 #[.int .i64 a0_0, .int .i64 a0_1] 47 ?_; intro gb100 hg w5 hbox hb; have BK100 := q0 (hbox); have GW100 := gw HB hg; have GE100 := gw HB hg; replace HB := bp HB hb; clear hb hbox hg) | ((with_reducible refine gd 3 ?_); refine be 3 #[.int .i64 a1_0, .int .i64 a1_1] 47 ?_; intro gb101 hg w6 hbox hb; have BK101 := q0 (hbox); have GW101 := gw HB hg; have GE101 := gw HB hg; replace HB := bp HB hb; have NB100_101 := nl BK100 hg; have NB101_100 := ng BK100 hg; replace BK100 := kd BK100 hb; clear hb hbox hg; have hnb7 := NB100_101.out; have hnc7 := NB101_100.out; obtain ⟨hcz8_0, hcz8_1, hfz8_0, hfz8_1⟩ := b2 BK100; obtain ⟨hcz9_0, hcz9_1, hfz9_0, hfz9_1⟩ := b2 BK101))
 go_ret
 exact ⟨qe, qb HB.out⟩

def laws_eqTieS.T6 : Bool × List (List Nat × List Nat) := (true, [([], []), ([], []), ([0, 1], [0, 1]), ([2], [2]), ([], []), ([], []), ([4, 5], [4, 5]), ([6], [6]), ([3, 7], [3, 7]), ([8], [8])])
def laws_eqTieS.B6 : List Nat := [0, 0, 3, 7, 0, 0, 48, 112, 255, 511]
theorem laws_eqTieS.tab6 : rtab .any (opsOf Tryd.f26 6) = laws_eqTieS.T6 := by kernel_rfl
theorem laws_eqTieS.bits6 : waitsOk laws_eqTieS.T6.2 laws_eqTieS.B6 = true := by kernel_rfl
set_option maxHeartbeats 8000000 in
set_option maxRecDepth 100000 in
theorem laws_eqTieS.calls (k : Nat) (A0 : Option Addr) (c0 : Nat) (l0 : List (STie)) (A1 : Option Addr) (c1 : Nat) (l1 : List (STie)) (r : Bool) (w : World) (hr0 : Kd.C kTie w A0 l0.length l0) (hc0 : l0.length ≤ c0) (hr1 : Kd.C kTie w A1 l1.length l1) (hc1 : l1.length ≤ c1) (h : laws_eqTieS.f k l0 l1 = some r) :
    Calls Tryd.prog 26 #[.slice A0 l0.length c0, .slice A1 l1.length c1] w fun e w' => e = .returned (.bool r) ∧ Below w.heap.size w w' := by
 have hu47 := Tryd.underlying47
 have HR0 := q0 hr0
 have HC0 := q0 hc0
 clear hr0 hc0
 have HR1 := q0 hr1
 have HC1 := q0 hc1
 clear hr1 hc1
 have HB := q0 (Below.refl w.heap.size w)
 have H : (if (l0.length : Int) = (l1.length : Int) then (laws_eqTieS.l0 k l0 l1 0) else (some false)) = some r := h
 clear h
 by_cases c3 : (l0.length : Int) = (l1.length : Int)
 rotate_left
 · rw [if_neg c3] at H
   have c3b0 : ((l0.length : Int) == (l1.length : Int)) = false := beq_eq_false_iff_ne.mpr c3
   have c3b1 : ((l0.length : Int) != (l1.length : Int)) = true := bne_iff_ne.mpr c3
   have c3b2 : (l0.length == l1.length) = false := by first | simpa using c3 | (simp at c3 ⊢; omega)
   obtain rfl := Option.some.inj H
   go_enter Tryd.func26, Tryd.ntmps26
   go_wp2
   go_ret
   exact ⟨qe, qb HB.out⟩
 rw [if_pos c3] at H
 have c3b0 : ((l0.length : Int) == (l1.length : Int)) = true := beq_iff_eq.mpr c3
 have c3b1 : ((l0.length : Int) != (l1.length : Int)) = false := bne_eq_false_iff_eq.mpr c3
 have c3b2 : (l0.length == l1.length) = true := by first | simpa using c3 | (simp at c3 ⊢; omega)
 clear c3
 have H' := q0 H
 clear H
 go_enter Tryd.func26, Tryd.ntmps26
 go_wp2
 go_loopg [5] k (fun kq v5 w' => ∃ (x5_1 : Int), v5 = .int .i64 x5_1 ∧ Aside0 (laws_eqTieS.l0 kq l0 l1 x5_1 = some r) ∧ Aside0 (kq ≤ k) ∧ Aside0 (Below w.heap.size w w'))
 case atStart => exact ⟨(0), qs, H', ⟨Nat.le_refl _⟩, ⟨qb HB.out⟩⟩
 clear H'
 try clear c1
 try clear c2
 try clear p2
 try clear c3
 try clear c3b0
 try clear c3b1
 try clear c3b2
 obtain ⟨x5_1, rfl, HA, HK1, HB⟩ := hrel
 rcases gk with _ | k1
 · exact absurd HA.out (by simp [laws_eqTieS.l0])
 have H := HA.out
 clear HA
 simp only [laws_eqTieS.l0] at H
 by_cases c4 : x5_1 < (l0.length : Int)
 rotate_left
 · rw [if_neg c4] at H
   have c4b0 := decide_eq_false c4
   clear c4
   obtain rfl := Option.some.inj H
   go_wp2
   go_ret
   exact ⟨qe, qb HB.out⟩
 rw [if_pos c4] at H
 have c4b0 := decide_eq_true c4
 clear c4
 obtain ⟨c5, H⟩ : (0 ≤ x5_1) ∧ _ := og H
 have c5b0 := decide_eq_true c5
 clear c5
 obtain ⟨c6, H⟩ : (x5_1 < (l1.length : Int)) ∧ _ := og H
 have c6b0 := decide_eq_true c6
 clear c6
 obtain ⟨t100, A7, H⟩ := ob H
 by_cases c8 : t100 = true
 rotate_left
 · replace c8 := Bool.eq_false_iff.mpr c8
   subst c8
   rw [if_neg nf] at H
   obtain rfl := Option.some.inj H
   try go_wp2
   replace HB := q0 (below_drew1 HB.out)
   have p101 : 0 ≤ (x5_1 : Int) := of_decide_eq_true qa
   have q101 : x5_1 < (l0.length : Int) := of_decide_eq_true qa
   obtain ⟨ad101, e101, hx101_0, hx101_1⟩ := at_TTie HR0.out x5_1 p101 q101
   have hw101_1 := hx101_1
   have hw101_0 := hx101_0
   cases e101
   replace hx101_0 := hcl HB.out hx101_0
   replace hx101_1 := hcl HB.out hx101_1
   replace p101 := eq_true p101
   replace q101 := eq_true q101
   have p102 : 0 ≤ (x5_1 : Int) := of_decide_eq_true qa
   have q102 : x5_1 < (l1.length : Int) := of_decide_eq_true qa
   obtain ⟨ad102, e102, hx102_0, hx102_1⟩ := at_TTie HR1.out x5_1 p102 q102
   have hw102_1 := hx102_1
   have hw102_0 := hx102_0
   cases e102
   replace hx102_0 := hcl HB.out hx102_0
   replace hx102_1 := hcl HB.out hx102_1
   replace p102 := eq_true p102
   replace q102 := eq_true q102
   refine start_ (n := 10) (S := fun w' => w'.cell? (ad101.add ((x5_1).toNat * 2)) = some (.int .i64 ((rd_TTie l0 x5_1).f0)) ∧ w'.cell? ⟨(ad101.add ((x5_1).toNat * 2)).block, (ad101.add ((x5_1).toNat * 2)).off + 1, none⟩ = some (.int .i64 ((rd_TTie l0 x5_1).f1)) ∧ w'.cell? (ad102.add ((x5_1).toNat * 2)) = some (.int .i64 ((rd_TTie l1 x5_1).f0)) ∧ w'.cell? ⟨(ad102.add ((x5_1).toNat * 2)).block, (ad102.add ((x5_1).toNat * 2)).off + 1, none⟩ = some (.int .i64 ((rd_TTie l1 x5_1).f1))) (ds := []) (ba 10 0) (by kernel_rfl) rfl (by kernel_rfl) ⟨((HB.out.cell (World.block_lt_of_cell? w _ hw101_0)).trans hw101_0), ((HB.out.cell (World.block_lt_of_cell? w _ hw101_1)).trans hw101_1), ((HB.out.cell (World.block_lt_of_cell? w _ hw102_0)).trans hw102_0), ((HB.out.cell (World.block_lt_of_cell? w _ hw102_1)).trans hw102_1)⟩ (fun hHeld => ?_); refine with_tabW laws_eqTieS.tab6 laws_eqTieS.bits6 (fun HT_ HW_ => ?_)
   generalize wr.drew = w11 at HB hx101_0 hx101_1 hx102_0 hx102_1 hHeld ⊢
   refine pU 0 17 10 1 HT_ ?_
   refine pU 1 18 10 3 HT_ ?_
   refine pU 2 19 10 7 HT_ ?_
   refine pU 4 21 10 23 HT_ ?_
   refine pU 5 22 10 55 HT_ ?_
   refine pU 6 23 10 119 HT_ ?_
   refine tU 3 20 10 127 HT_ HW_ hHeld ?_
   refine tU 7 24 10 255 HT_ HW_ hHeld ?_
   refine one_ (i := 8) (N := some 25) (ba 10 511) rfl rfl (one_of HT_.out (by kernel_rfl)) (by decide) (fun K hK => ?_)
   refine goes_ Tryd.func46 (by kernel_rfl) rfl #[.agg #[.int .i64 ((rd_TTie l0 x5_1).f0), .int .i64 ((rd_TTie l0 x5_1).f1)], .agg #[.int .i64 ((rd_TTie l1 x5_1).f0), .int .i64 ((rd_TTie l1 x5_1).f1)]] (by rfl) rfl rfl qm ?_
   with_reducible refine (laws_eqTie.calls ((rd_TTie l0 x5_1).f0) ((rd_TTie l0 x5_1).f1) ((rd_TTie l1 x5_1).f0) ((rd_TTie l1 x5_1).f1) false _ A7.out).mono ?_
   rintro e w12 ⟨rfl, hb⟩
   refine ⟨_, rfl, ?_⟩
   replace HB := bp HB hb
   (try clear hb)
   (try clear hb2)
   (try clear hk)
   (try clear hi)
   refine hK.out _ _ ⟨((HB.out.cell (World.block_lt_of_cell? w _ hw101_0)).trans hw101_0), ((HB.out.cell (World.block_lt_of_cell? w _ hw101_1)).trans hw101_1), ((HB.out.cell (World.block_lt_of_cell? w _ hw102_0)).trans hw102_0), ((HB.out.cell (World.block_lt_of_cell? w _ hw102_1)).trans hw102_1)⟩ (fun hHeld => ?_)
   clear hK K
   refine nu 25 ?_
   refine pU 9 26 10 1023 HT_ ?_
   refine done_ (done_of HT_.out (by kernel_rfl)) ?_
   try go_wp2
   go_ret
   exact ⟨qe, qb HB.out⟩
 subst c8
 rw [if_pos rfl] at H
 have H' := q0 H
 clear H
 try go_wp2
 replace HB := q0 (below_drew1 HB.out)
 have p101 : 0 ≤ (x5_1 : Int) := of_decide_eq_true qa
 have q101 : x5_1 < (l0.length : Int) := of_decide_eq_true qa
 obtain ⟨ad101, e101, hx101_0, hx101_1⟩ := at_TTie HR0.out x5_1 p101 q101
 have hw101_1 := hx101_1
 have hw101_0 := hx101_0
 cases e101
 replace hx101_0 := hcl HB.out hx101_0
 replace hx101_1 := hcl HB.out hx101_1
 replace p101 := eq_true p101
 replace q101 := eq_true q101
 have p102 : 0 ≤ (x5_1 : Int) := of_decide_eq_true qa
 have q102 : x5_1 < (l1.length : Int) := of_decide_eq_true qa
 obtain ⟨ad102, e102, hx102_0, hx102_1⟩ := at_TTie HR1.out x5_1 p102 q102
 have hw102_1 := hx102_1
 have hw102_0 := hx102_0
 cases e102
 replace hx102_0 := hcl HB.out hx102_0
 replace hx102_1 := hcl HB.out hx102_1
 replace p102 := eq_true p102
 replace q102 := eq_true q102
 refine start_ (n := 10) (S := fun w' => w'.cell? (ad101.add ((x5_1).toNat * 2)) = some (.int .i64 ((rd_TTie l0 x5_1).f0)) ∧ w'.cell? ⟨(ad101.add ((x5_1).toNat * 2)).block, (ad101.add ((x5_1).toNat * 2)).off + 1, none⟩ = some (.int .i64 ((rd_TTie l0 x5_1).f1)) ∧ w'.cell? (ad102.add ((x5_1).toNat * 2)) = some (.int .i64 ((rd_TTie l1 x5_1).f0)) ∧ w'.cell? ⟨(ad102.add ((x5_1).toNat * 2)).block, (ad102.add ((x5_1).toNat * 2)).off + 1, none⟩ = some (.int .i64 ((rd_TTie l1 x5_1).f1))) (ds := []) (ba 10 0) (by kernel_rfl) rfl (by kernel_rfl) ⟨((HB.out.cell (World.block_lt_of_cell? w _ hw101_0)).trans hw101_0), ((HB.out.cell (World.block_lt_of_cell? w _ hw101_1)).trans hw101_1), ((HB.out.cell (World.block_lt_of_cell? w _ hw102_0)).trans hw102_0), ((HB.out.cell (World.block_lt_of_cell? w _ hw102_1)).trans hw102_1)⟩ (fun hHeld => ?_); refine with_tabW laws_eqTieS.tab6 laws_eqTieS.bits6 (fun HT_ HW_ => ?_)
 generalize wr.drew = w9 at HB hx101_0 hx101_1 hx102_0 hx102_1 hHeld ⊢
 refine pU 0 17 10 1 HT_ ?_
 refine pU 1 18 10 3 HT_ ?_
 refine pU 2 19 10 7 HT_ ?_
 refine pU 4 21 10 23 HT_ ?_
 refine pU 5 22 10 55 HT_ ?_
 refine pU 6 23 10 119 HT_ ?_
 refine tU 3 20 10 127 HT_ HW_ hHeld ?_
 refine tU 7 24 10 255 HT_ HW_ hHeld ?_
 refine one_ (i := 8) (N := some 25) (ba 10 511) rfl rfl (one_of HT_.out (by kernel_rfl)) (by decide) (fun K hK => ?_)
 refine goes_ Tryd.func46 (by kernel_rfl) rfl #[.agg #[.int .i64 ((rd_TTie l0 x5_1).f0), .int .i64 ((rd_TTie l0 x5_1).f1)], .agg #[.int .i64 ((rd_TTie l1 x5_1).f0), .int .i64 ((rd_TTie l1 x5_1).f1)]] (by rfl) rfl rfl qm ?_
 with_reducible refine (laws_eqTie.calls ((rd_TTie l0 x5_1).f0) ((rd_TTie l0 x5_1).f1) ((rd_TTie l1 x5_1).f0) ((rd_TTie l1 x5_1).f1) true _ A7.out).mono ?_
 rintro e w10 ⟨rfl, hb⟩
 refine ⟨_, rfl, ?_⟩
 replace HB := bp HB hb
 (try clear hb)
 (try clear hb2)
 (try clear hk)
 (try clear hi)
 refine hK.out _ _ ⟨((HB.out.cell (World.block_lt_of_cell? w _ hw101_0)).trans hw101_0), ((HB.out.cell (World.block_lt_of_cell? w _ hw101_1)).trans hw101_1), ((HB.out.cell (World.block_lt_of_cell? w _ hw102_0)).trans hw102_0), ((HB.out.cell (World.block_lt_of_cell? w _ hw102_1)).trans hw102_1)⟩ (fun hHeld => ?_)
 clear hK K
 refine nu 25 ?_
 refine pU 9 26 10 1023 HT_ ?_
 refine done_ (done_of HT_.out (by kernel_rfl)) ?_
 try go_wp2
 go_roundg k1
 case measure => have := HK1.out; omega
 case rel => exact ⟨(wrap64 (x5_1 + 1)), qs, H', ⟨by have := HK1.out; omega⟩, ⟨qb HB.out⟩⟩

set_option maxHeartbeats 8000000 in
set_option maxRecDepth 100000 in
theorem laws_eqNet.calls (k : Nat) (a0_0 : Int) (A0_1 : Option Addr) (c0_1 : Nat) (l0_1 : List (STie)) (a1_0 : Int) (A1_1 : Option Addr) (c1_1 : Nat) (l1_1 : List (STie)) (r : Bool) (w : World) (hr0_1 : Kd.C kTie w A0_1 l0_1.length l0_1) (hc0_1 : l0_1.length ≤ c0_1) (hr1_1 : Kd.C kTie w A1_1 l1_1.length l1_1) (hc1_1 : l1_1.length ≤ c1_1) (h : laws_eqNet.f k a0_0 l0_1 a1_0 l1_1 = some r) :
    Calls Tryd.prog 10 #[.agg #[.int .i64 a0_0, .slice A0_1 l0_1.length c0_1], .agg #[.int .i64 a1_0, .slice A1_1 l1_1.length c1_1]] w fun e w' => e = .returned (.bool r) ∧ Below w.heap.size w w' := by
 have hu24 := Tryd.underlying24
 have HR0_1 := q0 hr0_1
 have HC0_1 := q0 hc0_1
 clear hr0_1 hc0_1
 have HR1_1 := q0 hr1_1
 have HC1_1 := q0 hc1_1
 clear hr1_1 hc1_1
 have HB := q0 (Below.refl w.heap.size w)
 have H : (if a0_0 = a1_0 then ((laws_eqTieS.f k l0_1 l1_1).bind fun t100 => (if t100 = true then (some true) else (some false))) else (some false)) = some r := h
 clear h
 by_cases c3 : a0_0 = a1_0
 rotate_left
 · rw [if_neg c3] at H
   have c3b0 : (a0_0 == a1_0) = false := beq_eq_false_iff_ne.mpr c3
   have c3b1 : (a0_0 != a1_0) = true := bne_iff_ne.mpr c3
   obtain rfl := Option.some.inj H
   go_enter Tryd.func10, Tryd.ntmps10
   go_wp2_with (first | ((with_reducible refine gd 2 ?_); refine be 2 #[.int .i64 a0_0, .slice A0_1 l0_1.length c0_1] 24 ?_; intro gb101 hg w18 hbox hb; have BK101 := q0 (hbox); have GW101 := gw HB hg; have GE101 := gw HB hg; replace HB := bp HB hb; clear hb hbox hg) | ((with_reducible refine gd 3 ?_); refine be 3 #[.int .i64 a1_0, .slice A1_1 l1_1.length c1_1] 24 ?_; intro gb102 hg w19 hbox hb; have BK102 := q0 (hbox); have GW102 := gw HB hg; have GE102 := gw HB hg; replace HB := bp HB hb; have NB101_102 := nl BK101 hg; have NB102_101 := ng BK101 hg; replace BK101 := kd BK101 hb; clear hb hbox hg; have hnb20 := NB101_102.out; have hnc20 := NB102_101.out; obtain ⟨hcz21_0, hcz21_1, hfz21_0, hfz21_1⟩ := b2 BK101; obtain ⟨hcz22_0, hcz22_1, hfz22_0, hfz22_1⟩ := b2 BK102))
   go_ret
   exact ⟨qe, qb HB.out⟩
 rw [if_pos c3] at H
 have c3b0 : (a0_0 == a1_0) = true := beq_iff_eq.mpr c3
 have c3b1 : (a0_0 != a1_0) = false := bne_eq_false_iff_eq.mpr c3
 clear c3
 obtain ⟨t100, A4, H⟩ := ob H
 by_cases c5 : t100 = true
 · subst c5
   rw [if_pos rfl] at H
   obtain rfl := Option.some.inj H
   go_enter Tryd.func10, Tryd.ntmps10
   go_wp2_with (first | ((with_reducible refine gd 2 ?_); refine be 2 #[.int .i64 a0_0, .slice A0_1 l0_1.length c0_1] 24 ?_; intro gb101 hg w6 hbox hb; have BK101 := q0 (hbox); have GW101 := gw HB hg; have GE101 := gw HB hg; replace HB := bp HB hb; clear hb hbox hg) | ((with_reducible refine gd 3 ?_); refine be 3 #[.int .i64 a1_0, .slice A1_1 l1_1.length c1_1] 24 ?_; intro gb102 hg w7 hbox hb; have BK102 := q0 (hbox); have GW102 := gw HB hg; have GE102 := gw HB hg; replace HB := bp HB hb; have NB101_102 := nl BK101 hg; have NB102_101 := ng BK101 hg; replace BK101 := kd BK101 hb; clear hb hbox hg; have hnb8 := NB101_102.out; have hnc8 := NB102_101.out; obtain ⟨hcz9_0, hcz9_1, hfz9_0, hfz9_1⟩ := b2 BK101; obtain ⟨hcz10_0, hcz10_1, hfz10_0, hfz10_1⟩ := b2 BK102) | ((with_reducible refine gf 26 ?_); refine gl 14 Tryd.func26 #[.slice A0_1 l0_1.length c0_1, .slice A1_1 l1_1.length c1_1] ?_; (with_reducible refine (laws_eqTieS.calls k _ _ l0_1 _ _ l1_1 true _ ?side1 ?side2 ?side3 ?side4 A4.out).mono ?_); (case side1 => exact qc (Kd.C_below HR0_1.out HB.out)); (case side2 => exact HC0_1.out); (case side3 => exact qc (Kd.C_below HR1_1.out HB.out)); (case side4 => exact HC1_1.out); rintro e w11 ⟨rfl, hb⟩; refine ⟨_, rfl, ?_⟩; replace BK101 := kd BK101 hb; replace BK102 := kd BK102 hb; replace HB := bp HB hb; (try clear hb); (try clear hb2); (try clear hk); (try clear hi)))
   go_ret
   exact ⟨qe, qb HB.out⟩
 replace c5 := Bool.eq_false_iff.mpr c5
 subst c5
 rw [if_neg nf] at H
 obtain rfl := Option.some.inj H
 go_enter Tryd.func10, Tryd.ntmps10
 go_wp2_with (first | ((with_reducible refine gd 2 ?_); refine be 2 #[.int .i64 a0_0, .slice A0_1 l0_1.length c0_1] 24 ?_; intro gb101 hg w12 hbox hb; have BK101 := q0 (hbox); have GW101 := gw HB hg; have GE101 := gw HB hg; replace HB := bp HB hb; clear hb hbox hg) | ((with_reducible refine gd 3 ?_); refine be 3 #[.int .i64 a1_0, .slice A1_1 l1_1.length c1_1] 24 ?_; intro gb102 hg w13 hbox hb; have BK102 := q0 (hbox); have GW102 := gw HB hg; have GE102 := gw HB hg; replace HB := bp HB hb; have NB101_102 := nl BK101 hg; have NB102_101 := ng BK101 hg; replace BK101 := kd BK101 hb; clear hb hbox hg; have hnb14 := NB101_102.out; have hnc14 := NB102_101.out; obtain ⟨hcz15_0, hcz15_1, hfz15_0, hfz15_1⟩ := b2 BK101; obtain ⟨hcz16_0, hcz16_1, hfz16_0, hfz16_1⟩ := b2 BK102) | ((with_reducible refine gf 26 ?_); refine gl 14 Tryd.func26 #[.slice A0_1 l0_1.length c0_1, .slice A1_1 l1_1.length c1_1] ?_; (with_reducible refine (laws_eqTieS.calls k _ _ l0_1 _ _ l1_1 false _ ?side1 ?side2 ?side3 ?side4 A4.out).mono ?_); (case side1 => exact qc (Kd.C_below HR0_1.out HB.out)); (case side2 => exact HC0_1.out); (case side3 => exact qc (Kd.C_below HR1_1.out HB.out)); (case side4 => exact HC1_1.out); rintro e w17 ⟨rfl, hb⟩; refine ⟨_, rfl, ?_⟩; replace BK101 := kd BK101 hb; replace BK102 := kd BK102 hb; replace HB := bp HB hb; (try clear hb); (try clear hb2); (try clear hk); (try clear hi)))
 go_ret
 exact ⟨qe, qb HB.out⟩

set_option maxHeartbeats 8000000 in
set_option maxRecDepth 100000 in
theorem laws_markTieS.calls (k : Nat) (P0_ : Nat → Prop) (u101_ : Value) (l0 : List (STie)) (a1 : Int) (r1 : Int) (r2 : List (STie)) (w0 w : World) (hB : Below w0.heap.size w0 w) (ho0 : Kd.R kTie 47 w w0.heap.size P0_ u101_ l0) (h : laws_markTieS.f k l0 a1 = some (r1, r2)) :
    Calls Tryd.prog 27 #[u101_, .int .i64 a1] w fun e w' => e = .returned (.int .i64 r1) ∧ Kd.R kTie 47 w' w0.heap.size (fun k_ => (P0_ k_ ∨ w.heap.size ≤ k_)) u101_ r2 ∧ Below w0.heap.size w0 w' ∧ Kept w w' (fun k_ => P0_ k_) := by
 have HO0 := q0 (show Kd.R kTie 47 w w0.heap.size (fun k_ => (P0_ k_ ∨ w.heap.size ≤ k_)) u101_ l0 from Kd.R_mono ho0 (fun k_ hk => (.inl hk)))
 have HK := q0 (Kept.refl w (fun k_ => P0_ k_))
 have HW0 := q0 hB.size
 have HB := q0 hB
 clear hB
 have H : (laws_markTieS.l0 k l0 a1 0) = some (r1, r2) := h
 clear h
 have H' := q0 H
 clear H
 go_enter Tryd.func27, Tryd.ntmps27
 go_wp2
 go_loopg [1, 5] k (fun kq v1 v5 w' => ∃ (x0_1 : List (STie)) (x1_1 : Int) (x5_1 : Int), v1 = .int .i64 x1_1 ∧ v5 = .int .i64 x5_1 ∧ Aside0 (laws_markTieS.l0 kq x0_1 x1_1 x5_1 = some (r1, r2)) ∧ Aside0 (kq ≤ k) ∧ Aside0 (Kd.R kTie 47 w' w0.heap.size (fun k_ => (P0_ k_ ∨ w.heap.size ≤ k_)) u101_ x0_1) ∧ Aside0 (Kept w w' (fun k_ => P0_ k_)) ∧ Aside0 (Below w0.heap.size w0 w'))
 case atStart => exact ⟨(l0), (a1), (0), qs, qs, H', ⟨Nat.le_refl _⟩, ⟨qr HO0.out⟩, ⟨qp HK.out⟩, ⟨qb HB.out⟩⟩
 clear H'
 try clear c2
 try clear p2
 obtain ⟨x0_1, x1_1, x5_1, rfl, rfl, HA, HK1, HO_0, HK, HB⟩ := hrel
 rcases gk with _ | k1
 · exact absurd HA.out (by simp [laws_markTieS.l0])
 have H := HA.out
 clear HA
 simp only [laws_markTieS.l0] at H
 by_cases c3 : x5_1 < (x0_1.length : Int)
 rotate_left
 · rw [if_neg c3] at H
   have c3b0 := decide_eq_false c3
   clear c3
   simp only [Option.some.injEq, Prod.mk.injEq] at H
   obtain ⟨rfl, rfl⟩ := H
   obtain ⟨Ao12, co12, eo12⟩ := Kd.R_slice HO_0.out
   subst eo12
   go_wp2
   go_ret
   exact ⟨qe, qr HO_0.out, qb HB.out, qp HK.out⟩
 rw [if_pos c3] at H
 have c3b0 := decide_eq_true c3
 clear c3
 obtain ⟨c4, H⟩ : (0 ≤ x5_1) ∧ _ := og H
 have c4b0 := decide_eq_true c4
 clear c4
 obtain ⟨y100, hy100⟩ : ∃ y_ : List (STie), y_ = (x0_1.set (x5_1 : Int).toNat (⟨x1_1, (rd_TTie x0_1 x5_1).f1⟩ : STie)) := ⟨_, rfl⟩
 replace H : (laws_markTieS.l0 k1 (y100.set (x5_1 : Int).toNat (⟨(rd_TTie y100 x5_1).f0, wrap64 (x1_1 + 1)⟩ : STie)) (wrap64 ((wrap64 (x1_1 + 1)) + 1)) (wrap64 (x5_1 + 1))) = some (r1, r2) := qy H hy100
 have Ny100 := q0 hy100
 clear hy100
 obtain ⟨y102, hy102⟩ : ∃ y_ : List (STie), y_ = (y100.set (x5_1 : Int).toNat (⟨(rd_TTie y100 x5_1).f0, wrap64 (x1_1 + 1)⟩ : STie)) := ⟨_, rfl⟩
 replace H : (laws_markTieS.l0 k1 y102 (wrap64 ((wrap64 (x1_1 + 1)) + 1)) (wrap64 (x5_1 + 1))) = some (r1, r2) := qy H hy102
 have Ny102 := q0 hy102
 clear hy102
 have H' := q0 H
 clear H
 obtain ⟨Ao7, co7, eo7⟩ := Kd.R_slice HO_0.out
 subst eo7
 have p5 : 0 ≤ (x5_1 : Int) := of_decide_eq_true qa
 have q5 : (x5_1 : Int) < ((x0_1.length : Int) : Int) := of_decide_eq_true qa
 obtain ⟨go5, co5, eo5, gb5, gl5, cl5, HG5⟩ := Kd.R_form HO_0.out (by omega)
 (first | cases eo5 | (injection eo5 with ea_ en_ ec_; (first | subst ea_ | (injection ea_ with ea_; subst ea_)); subst ec_; clear en_))
 have GB5 := q0 gb5
 have GG5 := q0 HG5
 clear gb5 gl5 HG5
 have HMgo5 := q0 (show (P0_ go5 ∨ w.heap.size ≤ go5) from (HO_0.out.1 _ rfl))
 obtain ⟨ce5, hcl5, hM5, hcc5, hfr5⟩ := Kd.R_elem HO_0.out zTie (x5_1 : Int) p5 q5
 obtain rfl := kTie_openM hM5
 have hx5_0 : wr.cell? ⟨go5, (x5_1 : Int).toNat * 2, none⟩ = some (.int .i64 ((rd_TTie x0_1 x5_1).f0)) := hcc5 0 _ rfl
 have hx5_1 : wr.cell? ⟨go5, (x5_1 : Int).toNat * 2 + 1, none⟩ = some (.int .i64 ((rd_TTie x0_1 x5_1).f1)) := hcc5 1 _ rfl
 have hf5_0 : wr.frozen? ⟨go5, (x5_1 : Int).toNat * 2, none⟩ = false := hfr5 0
 have hf5_1 : wr.frozen? ⟨go5, (x5_1 : Int).toNat * 2 + 1, none⟩ = false := hfr5 1
 clear hcl5 hcc5 hfr5 hM5
 replace p5 := eq_true p5
 replace q5 := eq_true q5
 have HX8 := q0 (show Kd.R kTie 47 wr w0.heap.size (fun k_ => (P0_ k_ ∨ w.heap.size ≤ k_)) (.slice (some ⟨go5, 0, none⟩) x0_1.length co7) x0_1 from (qr HO_0.out))
 obtain ⟨ce8, hcl8, hM8, hcc8, hfr8⟩ := Kd.R_elem HX8.out zTie (x5_1 : Int) (of_decide_eq_true qa) (by have h_ : (x5_1 : Int) < ((x0_1.length : Int) : Int) := of_decide_eq_true qa; first | exact h_ | (have e_ := (Kd.R_reads' HO_0.out).1; omega) | simpa using h_)
 obtain rfl := kTie_openM hM8
 have HP8 := Kd.R_seg HX8.out (x5_1 : Int) (of_decide_eq_true qa) (by have h_ : (x5_1 : Int) < ((x0_1.length : Int) : Int) := of_decide_eq_true qa; first | exact h_ | (have e_ := (Kd.R_reads' HO_0.out).1; omega) | simpa using h_) (seg := [.int .i64 x1_1]) (j := 0) hcl8 hcc8 (show 1 ≤ 2 from by decide) (x' := (⟨x1_1, (rd_TTie x0_1 x5_1).f1⟩ : STie)) (kTie_mkM _ _ _ (⟨x1_1, (rd_TTie x0_1 x5_1).f1⟩ : STie) ) (fun _ hk => hk)
 have hx8_0 := hcc8 0 _ rfl
 (try simp only [show (kTie).sz = 2 from rfl, Nat.mul_one, Nat.add_zero] at hx8_0)
 have hf8_0 := hfr8 0
 (try simp only [show (kTie).sz = 2 from rfl, Nat.mul_one, Nat.add_zero] at hf8_0)
 clear hcl8 hcc8 hfr8 hM8
 go_wp2_with (first | ((with_reducible refine gate_store (t := 3) (p := 16) rfl ?_); refine store_event (t := 3) (p := 16) (v := ?vo_w9) (w1 := (wr.setCell ⟨go5, (x5_1 : Int).toNat * 2, none⟩ (.int .i64 x1_1))) ?hg ?ho ?hn ?hr ?_; (case ho => rfl); (case hg => rfl); (case hn => rfl); (case hr => first | (go_simp; done) | (go_simp; rfl)); intro w9 hw; have hg : wr.grownBy w9 (some go5) := (by rw [hw]; exact HP8.2); have hp_ : Kd.R kTie 47 w9 w0.heap.size (fun k_ => (P0_ k_ ∨ w.heap.size ≤ k_)) (.slice (some ⟨go5, 0, none⟩) x0_1.length co7) y100 := (by rw [hw, Ny100.out]; exact HP8.1); clear HP8; replace HB := q0 ((by rw [hw]; exact below_set (HB.out) GB5.out : Below w0.heap.size w0 w9)); replace HK := q0 (Kept.of_grown (S := (fun k_ => P0_ k_)) hg (qp HK.out) (fun k_ e_ => (HO_0.out.1 k_ e_))); replace HO_0 := q0 (hp_); clear hg hw hp_; have p6 : 0 ≤ (x5_1 : Int) := of_decide_eq_true qa; have q6 : (x5_1 : Int) < ((x0_1.length : Int) : Int) := of_decide_eq_true qa; obtain ⟨ce6, hcl6, hM6, hcc6, hfr6⟩ := Kd.R_elem HO_0.out zTie (x5_1 : Int) p6 q6; obtain rfl := kTie_openM hM6; have hx6_0 : w9.cell? ⟨go5, (x5_1 : Int).toNat * 2, none⟩ = some (.int .i64 ((rd_TTie y100 x5_1).f0)) := hcc6 0 _ rfl; have hx6_1 : w9.cell? ⟨go5, (x5_1 : Int).toNat * 2 + 1, none⟩ = some (.int .i64 ((rd_TTie y100 x5_1).f1)) := hcc6 1 _ rfl; have hf6_0 : w9.frozen? ⟨go5, (x5_1 : Int).toNat * 2, none⟩ = false := hfr6 0; have hf6_1 : w9.frozen? ⟨go5, (x5_1 : Int).toNat * 2 + 1, none⟩ = false := hfr6 1; clear hcl6 hcc6 hfr6 hM6; replace p6 := eq_true p6; replace q6 := eq_true q6; have HX10 := q0 (show Kd.R kTie 47 w9 w0.heap.size (fun k_ => (P0_ k_ ∨ w.heap.size ≤ k_)) (.slice (some ⟨go5, 0, none⟩) x0_1.length co7) y100 from (qr HO_0.out)); obtain ⟨ce10, hcl10, hM10, hcc10, hfr10⟩ := Kd.R_elem HX10.out zTie (x5_1 : Int) (of_decide_eq_true qa) (by have h_ : (x5_1 : Int) < ((x0_1.length : Int) : Int) := of_decide_eq_true qa; first | exact h_ | (have e_ := (Kd.R_reads' HO_0.out).1; omega) | simpa using h_); obtain rfl := kTie_openM hM10; have HP10 := Kd.R_seg HX10.out (x5_1 : Int) (of_decide_eq_true qa) (by have h_ : (x5_1 : Int) < ((x0_1.length : Int) : Int) := of_decide_eq_true qa; first | exact h_ | (have e_ := (Kd.R_reads' HO_0.out).1; omega) | simpa using h_) (seg := [.int .i64 (wrap64 (x1_1 + 1))]) (j := 1) hcl10 hcc10 (show 2 ≤ 2 from by decide) (x' := (⟨(rd_TTie y100 x5_1).f0, wrap64 (x1_1 + 1)⟩ : STie)) (kTie_mkM _ _ _ (⟨(rd_TTie y100 x5_1).f0, wrap64 (x1_1 + 1)⟩ : STie) ) (fun _ hk => hk); have hx10_1 := hcc10 1 _ rfl; (try simp only [show (kTie).sz = 2 from rfl, Nat.mul_one, Nat.add_zero] at hx10_1); have hf10_1 := hfr10 1; (try simp only [show (kTie).sz = 2 from rfl, Nat.mul_one, Nat.add_zero] at hf10_1); clear hcl10 hcc10 hfr10 hM10) | ((with_reducible refine gate_store (t := 3) (p := 23) rfl ?_); refine store_event (t := 3) (p := 23) (v := ?vo_w11) (w1 := (w9.setCell ⟨go5, (x5_1 : Int).toNat * 2 + 1, none⟩ (.int .i64 (wrap64 (x1_1 + 1))))) ?hg ?ho ?hn ?hr ?_; (case ho => rfl); (case hg => rfl); (case hn => rfl); (case hr => first | (go_simp; done) | (go_simp; rfl)); intro w11 hw; have hg : w9.grownBy w11 (some go5) := (by rw [hw]; exact HP10.2); have hp_ : Kd.R kTie 47 w11 w0.heap.size (fun k_ => (P0_ k_ ∨ w.heap.size ≤ k_)) (.slice (some ⟨go5, 0, none⟩) x0_1.length co7) y102 := (by rw [hw, Ny102.out]; exact HP10.1); clear HP10; replace HB := q0 ((by rw [hw]; exact below_set (HB.out) GB5.out : Below w0.heap.size w0 w11)); replace HK := q0 (Kept.of_grown (S := (fun k_ => P0_ k_)) hg (qp HK.out) (fun k_ e_ => (HO_0.out.1 k_ e_))); replace HO_0 := q0 (hp_); clear hg hw hp_))
 go_roundg k1
 case measure => have := HK1.out; omega
 case rel => exact ⟨(y102), (wrap64 ((wrap64 (x1_1 + 1)) + 1)), (wrap64 (x5_1 + 1)), qs, qs, H', ⟨by have := HK1.out; omega⟩, ⟨qr HO_0.out⟩, ⟨qp HK.out⟩, ⟨qb HB.out⟩⟩

set_option maxHeartbeats 8000000 in
set_option maxRecDepth 100000 in
theorem laws_markNet.calls (k : Nat) (a0_0 : Int) (P0_1_ : Nat → Prop) (u101_ : Value) (l0_1 : List (STie)) (a1 : Int) (r1 : Int) (r2 : List (STie)) (w0 w : World) (hB : Below w0.heap.size w0 w) (ho0_1 : Kd.R kTie 47 w w0.heap.size P0_1_ u101_ l0_1) (h : laws_markNet.f k a0_0 l0_1 a1 = some (r1, r2)) :
    Calls Tryd.prog 11 #[.agg #[.int .i64 a0_0, u101_], .int .i64 a1] w fun e w' => e = .returned (.int .i64 r1) ∧ Kd.R kTie 47 w' w0.heap.size (fun k_ => (P0_1_ k_ ∨ w.heap.size ≤ k_)) u101_ r2 ∧ Below w0.heap.size w0 w' ∧ Kept w w' (fun k_ => P0_1_ k_) := by
 have hu24 := Tryd.underlying24
 have HO0_1 := q0 (show Kd.R kTie 47 w w0.heap.size (fun k_ => (P0_1_ k_ ∨ w.heap.size ≤ k_)) u101_ l0_1 from Kd.R_mono ho0_1 (fun k_ hk => (.inl hk)))
 have HK := q0 (Kept.refl w (fun k_ => P0_1_ k_))
 have HW0 := q0 hB.size
 have HB := q0 hB
 clear hB
 have H : ((laws_markTieS.f k l0_1 a1).bind fun bt100 => (some (bt100.1, bt100.2))) = some (r1, r2) := h
 clear h
 obtain ⟨⟨t100, t102⟩, A3, H⟩ := ob H
 simp only [Option.some.injEq, Prod.mk.injEq] at H
 obtain ⟨rfl, rfl⟩ := H
 obtain ⟨Ao4, co4, eo4⟩ := Kd.R_slice HO0_1.out
 subst eo4
 go_enter Tryd.func11, Tryd.ntmps11
 go_wp2_with (first | ((with_reducible refine gd 2 ?_); refine be 2 #[.int .i64 a0_0, .slice Ao4 l0_1.length co4] 24 ?_; intro gb103 hg w5 hbox hb; replace HO0_1 := q0 (Kd.R_below (by (with_reducible repeat (first | apply Kd.R_alloc | apply Kd.R_drewN | apply Kd.R_drew)); exact HO0_1.out) hb); have BK103 := q0 (hbox); have GW103 := q0 ((by rw [hg]; exact (by first | exact HK.out.1 | exact (qp HK.out).1) : w.heap.size ≤ gb103)); replace HK := q0 (Kept.below (S := (fun k_ => P0_1_ k_)) (qp HK.out) hb); have GE103 := q0 ((bs HB.out hg : w0.heap.size ≤ gb103)); replace HB := bp HB hb; clear hb hbox hg; obtain ⟨hcz6_0, hcz6_1, hfz6_0, hfz6_1⟩ := b2 BK103) | ((with_reducible refine gf 27 ?_); refine gl 8 Tryd.func27 #[.slice Ao4 l0_1.length co4, .int .i64 a1] ?_; (with_reducible refine (laws_markTieS.calls k (fun k_ => some k_ = (.slice Ao4 l0_1.length co4 : Value).ownBlock) (.slice Ao4 l0_1.length co4) l0_1 a1 t100 t102 w0 _ ?side1 ?side2 A3.out).mono ?_); (case side1 => exact qb HB.out); (case side2 => exact Kd.R_tight rfl HO0_1.out); rintro e w7 ⟨rfl, hy0, hb, hkp⟩; refine ⟨_, rfl, ?_⟩; replace BK103 := q0 (blk_kept (qk BK103.out) hkp (fun hs_ => (fun e_ => (Kd.R_ne HO0_1.out BK103.out (by decide)) e_) hs_)); replace HK := q0 (Kept.then_ (S := (fun k_ => P0_1_ k_)) (qp HK.out) hkp (fun k_ hs_ => (fun e_ => (HO0_1.out.1 k_ e_.symm)) hs_)); replace HO0_1 := q0 (Kd.R_reok rfl hy0 (fun k_ e_ => HO0_1.out.1 k_ e_)); replace HB := q0 (hb); (try clear hb); (try clear hkp); (try clear hy0)))
 go_ret
 exact ⟨qe, by (with_reducible repeat (first | apply Kd.R_alloc | apply Kd.R_drewN | apply Kd.R_drew)); exact HO0_1.out, qb HB.out, qp HK.out⟩

set_option maxHeartbeats 8000000 in
set_option maxRecDepth 100000 in
theorem laws_heldTieS.calls (k : Nat) (A0 : Option Addr) (c0 : Nat) (l0 : List (STie)) (a1 : Int) (r : Int) (w : World) (hr0 : Kd.C kTie w A0 l0.length l0) (hc0 : l0.length ≤ c0) (h : laws_heldTieS.f k l0 a1 = some r) :
    Calls Tryd.prog 28 #[.slice A0 l0.length c0, .int .i64 a1] w fun e w' => e = .returned (.int .i64 r) ∧ Drawn0 w w' := by
 have HR0 := q0 hr0
 have HC0 := q0 hc0
 clear hr0 hc0
 have H : (laws_heldTieS.l0 k l0 a1 0) = some r := h
 clear h
 have H' := q0 H
 clear H
 go_enter Tryd.func28, Tryd.ntmps28
 go_wp2
 go_loopg [1, 5] k (fun kq v1 v5 w' => ∃ (x1_1 : Int) (x5_1 : Int), v1 = .int .i64 x1_1 ∧ v5 = .int .i64 x5_1 ∧ Aside0 (laws_heldTieS.l0 kq l0 x1_1 x5_1 = some r) ∧ Aside0 (kq ≤ k) ∧ Drawn0 w w')
 case atStart => exact ⟨(a1), (0), qs, qs, H', ⟨Nat.le_refl _⟩, by repeat (first | exact Drawn0.refl _ | apply Drawn0.step)⟩
 clear H'
 try clear c2
 try clear p2
 obtain ⟨x1_1, x5_1, rfl, rfl, HA, HK1, ⟨m1, rfl⟩⟩ := hrel
 rcases gk with _ | k1
 · exact absurd HA.out (by simp [laws_heldTieS.l0])
 have H := HA.out
 clear HA
 simp only [laws_heldTieS.l0] at H
 by_cases c3 : x5_1 < (l0.length : Int)
 rotate_left
 · rw [if_neg c3] at H
   have c3b0 := decide_eq_false c3
   clear c3
   obtain rfl := Option.some.inj H
   go_wp2
   go_ret
   exact ⟨by first | rfl | (simp; done) | (simp [*]; done), by repeat (first | exact Drawn0.refl _ | apply Drawn0.step)⟩
 rw [if_pos c3] at H
 have c3b0 := decide_eq_true c3
 clear c3
 obtain ⟨c4, H⟩ : (0 ≤ x5_1) ∧ _ := og H
 have c4b0 := decide_eq_true c4
 clear c4
 by_cases c5 : ((rd_TTie l0 x5_1).f0) = x1_1
 rotate_left
 · rw [if_neg c5] at H
   have c5b0 : (((rd_TTie l0 x5_1).f0) == x1_1) = false := beq_eq_false_iff_ne.mpr c5
   have c5b1 : (((rd_TTie l0 x5_1).f0) != x1_1) = true := bne_iff_ne.mpr c5
   obtain rfl := Option.some.inj H
   have p100 : 0 ≤ (x5_1 : Int) := of_decide_eq_true qa
   have q100 : x5_1 < (l0.length : Int) := of_decide_eq_true qa
   obtain ⟨ad100, e100, hx100_0, hx100_1⟩ := at_TTie HR0.out x5_1 p100 q100
   cases e100
   replace p100 := eq_true p100
   replace q100 := eq_true q100
   go_wp2
   go_ret
   exact ⟨by first | rfl | (simp; done) | (simp [*]; done), by repeat (first | exact Drawn0.refl _ | apply Drawn0.step)⟩
 rw [if_pos c5] at H
 have c5b0 : (((rd_TTie l0 x5_1).f0) == x1_1) = true := beq_iff_eq.mpr c5
 have c5b1 : (((rd_TTie l0 x5_1).f0) != x1_1) = false := bne_eq_false_iff_eq.mpr c5
 clear c5
 by_cases c6 : ((rd_TTie l0 x5_1).f1) = (wrap64 (x1_1 + 1))
 rotate_left
 · rw [if_neg c6] at H
   have c6b0 : (((rd_TTie l0 x5_1).f1) == (wrap64 (x1_1 + 1))) = false := beq_eq_false_iff_ne.mpr c6
   have c6b1 : (((rd_TTie l0 x5_1).f1) != (wrap64 (x1_1 + 1))) = true := bne_iff_ne.mpr c6
   obtain rfl := Option.some.inj H
   have p100 : 0 ≤ (x5_1 : Int) := of_decide_eq_true qa
   have q100 : x5_1 < (l0.length : Int) := of_decide_eq_true qa
   obtain ⟨ad100, e100, hx100_0, hx100_1⟩ := at_TTie HR0.out x5_1 p100 q100
   cases e100
   replace p100 := eq_true p100
   replace q100 := eq_true q100
   have p101 : 0 ≤ (x5_1 : Int) := of_decide_eq_true qa
   have q101 : x5_1 < (l0.length : Int) := of_decide_eq_true qa
   obtain ⟨ad101, e101, hx101_0, hx101_1⟩ := at_TTie HR0.out x5_1 p101 q101
   obtain rfl : ad100 = ad101 := (by injection e101)
   replace p101 := eq_true p101
   replace q101 := eq_true q101
   go_wp2
   go_ret
   exact ⟨by first | rfl | (simp; done) | (simp [*]; done), by repeat (first | exact Drawn0.refl _ | apply Drawn0.step)⟩
 rw [if_pos c6] at H
 have c6b0 : (((rd_TTie l0 x5_1).f1) == (wrap64 (x1_1 + 1))) = true := beq_iff_eq.mpr c6
 have c6b1 : (((rd_TTie l0 x5_1).f1) != (wrap64 (x1_1 + 1))) = false := bne_eq_false_iff_eq.mpr c6
 clear c6
 have H' := q0 H
 clear H
 have p100 : 0 ≤ (x5_1 : Int) := of_decide_eq_true qa
 have q100 : x5_1 < (l0.length : Int) := of_decide_eq_true qa
 obtain ⟨ad100, e100, hx100_0, hx100_1⟩ := at_TTie HR0.out x5_1 p100 q100
 cases e100
 replace p100 := eq_true p100
 replace q100 := eq_true q100
 have p101 : 0 ≤ (x5_1 : Int) := of_decide_eq_true qa
 have q101 : x5_1 < (l0.length : Int) := of_decide_eq_true qa
 obtain ⟨ad101, e101, hx101_0, hx101_1⟩ := at_TTie HR0.out x5_1 p101 q101
 obtain rfl : ad100 = ad101 := (by injection e101)
 replace p101 := eq_true p101
 replace q101 := eq_true q101
 go_wp2
 go_roundg k1
 case measure => have := HK1.out; omega
 case rel => exact ⟨(wrap64 ((wrap64 (x1_1 + 1)) + 1)), (wrap64 (x5_1 + 1)), qs, qs, H', ⟨by have := HK1.out; omega⟩, by repeat (first | exact Drawn0.refl _ | apply Drawn0.step)⟩

set_option maxHeartbeats 8000000 in
set_option maxRecDepth 100000 in
theorem laws_heldNet.calls (k : Nat) (a0_0 : Int) (A0_1 : Option Addr) (c0_1 : Nat) (l0_1 : List (STie)) (a1 : Int) (r : Int) (w : World) (hr0_1 : Kd.C kTie w A0_1 l0_1.length l0_1) (hc0_1 : l0_1.length ≤ c0_1) (h : laws_heldNet.f k a0_0 l0_1 a1 = some r) :
    Calls Tryd.prog 12 #[.agg #[.int .i64 a0_0, .slice A0_1 l0_1.length c0_1], .int .i64 a1] w fun e w' => e = .returned (.int .i64 r) ∧ Below w.heap.size w w' := by
 have hu24 := Tryd.underlying24
 have HR0_1 := q0 hr0_1
 have HC0_1 := q0 hc0_1
 clear hr0_1 hc0_1
 have HB := q0 (Below.refl w.heap.size w)
 have H : ((laws_heldTieS.f k l0_1 a1).bind fun t100 => (if t100 < 0 then (some (-1)) else (some t100))) = some r := h
 clear h
 obtain ⟨t100, A3, H⟩ := ob H
 by_cases c4 : t100 < 0
 · rw [if_pos c4] at H
   have c4b0 := decide_eq_true c4
   clear c4
   obtain rfl := Option.some.inj H
   go_enter Tryd.func12, Tryd.ntmps12
   go_wp2_with (first | ((with_reducible refine gd 2 ?_); refine be 2 #[.int .i64 a0_0, .slice A0_1 l0_1.length c0_1] 24 ?_; intro gb101 hg w5 hbox hb; have BK101 := q0 (hbox); have GW101 := gw HB hg; have GE101 := gw HB hg; replace HB := bp HB hb; clear hb hbox hg; obtain ⟨hcz6_0, hcz6_1, hfz6_0, hfz6_1⟩ := b2 BK101) | ((with_reducible refine gf 28 ?_); refine gl 8 Tryd.func28 #[.slice A0_1 l0_1.length c0_1, .int .i64 a1] ?_; (with_reducible refine (laws_heldTieS.calls k _ _ l0_1 a1 t100 _ ?side1 ?side2 A3.out).mono ?_); (case side1 => exact qc (Kd.C_below HR0_1.out HB.out)); (case side2 => exact HC0_1.out); rintro e w' ⟨rfl, ⟨nd, rfl⟩⟩; refine ⟨_, rfl, ?_⟩))
   go_ret
   exact ⟨qe, qb HB.out⟩
 rw [if_neg c4] at H
 have c4b0 := decide_eq_false c4
 clear c4
 obtain rfl := Option.some.inj H
 go_enter Tryd.func12, Tryd.ntmps12
 go_wp2_with (first | ((with_reducible refine gd 2 ?_); refine be 2 #[.int .i64 a0_0, .slice A0_1 l0_1.length c0_1] 24 ?_; intro gb101 hg w7 hbox hb; have BK101 := q0 (hbox); have GW101 := gw HB hg; have GE101 := gw HB hg; replace HB := bp HB hb; clear hb hbox hg; obtain ⟨hcz8_0, hcz8_1, hfz8_0, hfz8_1⟩ := b2 BK101) | ((with_reducible refine gf 28 ?_); refine gl 8 Tryd.func28 #[.slice A0_1 l0_1.length c0_1, .int .i64 a1] ?_; (with_reducible refine (laws_heldTieS.calls k _ _ l0_1 a1 t100 _ ?side1 ?side2 A3.out).mono ?_); (case side1 => exact qc (Kd.C_below HR0_1.out HB.out)); (case side2 => exact HC0_1.out); rintro e w' ⟨rfl, ⟨nd, rfl⟩⟩; refine ⟨_, rfl, ?_⟩))
 go_ret
 exact ⟨qe, qb HB.out⟩

set_option maxHeartbeats 8000000 in
set_option maxRecDepth 100000 in
theorem laws_FnExactNetRead.calls (k : Nat) (a0 : ByteArray) (r : Bool) (w : World) (hG_ : Gl w) (h : laws_FnExactNetRead.f k a0 = some r) :
    Calls Tryd.prog 3 #[.string a0] w fun e w' => e = .returned (.bool r) ∧ Below w.heap.size w w' := by
 have hu24 := Tryd.underlying24
 have HG_ := q0 hG_
 clear hG_
 have HB := q0 (Below.refl w.heap.size w)
 have H : (if (a0.size : Int) > 1048576 then (some true) else ((spec_NetRead.f k a0).bind fun bt107 => ((impl_NetRead.f k a0).bind fun bt100 => ((laws_eqNet.f k bt100.1 bt100.2.1 bt107.1 bt107.2.1).bind fun t101 => (if t101 = true then (laws_FnExactNetRead.j0 k a0 bt107.2.2 (bt100.2.2 != bt107.2.2) bt107.1 bt107.2.1 bt100.1 bt100.2.1) else (laws_FnExactNetRead.j0 k a0 bt107.2.2 true bt107.1 bt107.2.1 bt100.1 bt100.2.1)))))) = some r := h
 clear h
 by_cases c2 : (a0.size : Int) > 1048576
 · rw [if_pos c2] at H
   have c2b0 := decide_eq_true c2
   have c2b1 : decide (1048576 < a0.size) = true := decide_eq_true (by omega)
   clear c2
   obtain rfl := Option.some.inj H
   go_enter Tryd.func3, Tryd.ntmps3
   go_wp2
   go_ret
   exact ⟨qe, qb HB.out⟩
 rw [if_neg c2] at H
 have c2b0 := decide_eq_false c2
 have c2b1 : decide (1048576 < a0.size) = false := decide_eq_false (by omega)
 clear c2
 obtain ⟨⟨t107, t108, t109⟩, A3, H⟩ := ob H
 obtain ⟨⟨t100, t110, t111⟩, A4, H⟩ := ob H
 have HC5 := q0 H
 clear H
 go_enter Tryd.func3, Tryd.ntmps3
 go_upto_region 5 with (first | ((with_reducible refine gf 8 ?_); refine gl 16 Tryd.func8 #[.string a0] ?_; (with_reducible refine (spec_NetRead.calls k a0 t107 t108 t109 _ A3.out).mono ?_); rintro e w6 ⟨v112, rfl, ho0, hb⟩; refine ⟨_, rfl, ?_⟩; have HO113 := q0 (Kd.R_lower ho0 (below_size (qb HB.out))); replace HB := bp HB hb; (try clear hb); (try clear hb2); (try clear hk); (try clear hi); (try clear ho0)) | ((with_reducible refine gd 3 ?_); refine be 3 #[.int .i64 0, .slice none 0 0] 24 ?_; intro gb114 hg w7 hbox hb; replace HO113 := q0 (Kd.R_below (qr HO113.out) hb); have BK114 := q0 (hbox); have GW114 := gw HB hg; have GE114 := gw HB hg; replace HB := bp HB hb; clear hb hbox hg; obtain ⟨hcz8_0, hcz8_1, hfz8_0, hfz8_1⟩ := b2 BK114; obtain ⟨Ao9, co9, eo9⟩ := Kd.R_slice HO113.out; subst eo9) | ((with_reducible refine gf 9 ?_); refine gl 21 Tryd.func9 #[.string a0] ?_; (with_reducible refine (impl_NetRead.calls k a0 t100 t110 t111 _ ?sideG A4.out).mono ?_); (case sideG => exact HG_.out.below (qb HB.out)); rintro e w10 ⟨v115, rfl, ho0, hb⟩; refine ⟨_, rfl, ?_⟩; have HO116 := q0 (Kd.R_lower (Kd.R_new' ho0 (Kd.R_lt (by (with_reducible repeat (first | apply Kd.R_alloc | apply Kd.R_drewN | apply Kd.R_drew)); exact (rf2 HO113.out BK114.out (fun _ h_ => h_.1))))) (below_size (qb HB.out))); replace HO113 := q0 (Kd.R_elder' (by (with_reducible repeat (first | apply Kd.R_alloc | apply Kd.R_drewN | apply Kd.R_drew)); exact (rf2 HO113.out BK114.out (fun _ h_ => h_.1))) (Kd.R_base ho0) hb); replace BK114 := q0 (blk_below (g := gb114) (o := .cells #[.int .i64 t107, .slice Ao9 t108.length co9] 24 (0, 0)) (by (with_reducible repeat (first | refine blk_drewN ?_ _ | refine blk_drew ?_ | refine blk_alloc ?_ _)); refine blk_put (cs := #[.int .i64 t107, .slice none 0 0]) ?_ 1 _ rfl; (with_reducible repeat (first | refine blk_drewN ?_ _ | refine blk_drew ?_ | refine blk_alloc ?_ _)); refine blk_put (cs := #[.int .i64 0, .slice none 0 0]) ?_ 0 _ rfl; (with_reducible repeat (first | refine blk_drewN ?_ _ | refine blk_drew ?_ | refine blk_alloc ?_ _)); exact BK114.out) hb); replace HB := bp HB hb; (try clear hb); (try clear hb2); (try clear hk); (try clear hi); (try clear ho0)) | ((with_reducible refine gd 5 ?_); refine be 5 #[.int .i64 0, .slice none 0 0] 24 ?_; intro gb117 hg w11 hbox hb; replace HO113 := q0 (Kd.R_below (qr HO113.out) hb); replace HO116 := q0 (Kd.R_below (qr HO116.out) hb); have BK117 := q0 (hbox); have GW117 := gw HB hg; have GE117 := gw HB hg; replace HB := bp HB hb; have NB114_117 := nl BK114 hg; have NB117_114 := ng BK114 hg; replace BK114 := kd BK114 hb; clear hb hbox hg; have hnb12 := NB117_114.out; have hnc12 := NB114_117.out; obtain ⟨hcz13_0, hcz13_1, hfz13_0, hfz13_1⟩ := b2 BK117; obtain ⟨Ao14, co14, eo14⟩ := Kd.R_slice HO116.out; subst eo14))
 (try simp only [Act.put, List.setIfInBounds_toArray, List.set_cons_zero, List.set_cons_succ])
 go_cut [32] (fun v32 wc => ∃ (kq : Nat) (x32_4 : Bool), v32 = .bool x32_4 ∧ Aside0 (laws_FnExactNetRead.j0 kq a0 t109 x32_4 t107 t108 t100 t110 = some r) ∧ Aside0 (kq ≤ k) ∧ Aside0 (Kd.R kTie 47 wc w.heap.size (fun k_ => some k_ ≠ ((.slice Ao14 t110.length co14) : Value).ownBlock) (.slice Ao9 t108.length co9) t108) ∧ Aside0 (Kd.R kTie 47 wc w.heap.size (fun k_ => some k_ ≠ ((.slice Ao9 t108.length co9) : Value).ownBlock) (.slice Ao14 t110.length co14) t110) ∧ Aside0 (wc.heap[gb114]? = some (.cells #[.int .i64 t107, (.slice Ao9 t108.length co9)] 24 (0, 0))) ∧ Aside0 (wc.heap[gb117]? = some (.cells #[.int .i64 t100, (.slice Ao14 t110.length co14)] 24 (0, 0))) ∧ Aside0 (Below w.heap.size w wc))
 case first =>
   have H := HC5.out
   clear HC5
   obtain ⟨t101, A15, H⟩ := ob H
   by_cases c16 : t101 = true
   · subst c16
     rw [if_pos rfl] at H
     have H' := q0 H
     clear H
     have hnb17 := NB117_114.out
     have hnc17 := NB114_117.out
     obtain ⟨hcz18_0, hcz18_1, hfz18_0, hfz18_1⟩ := b2 BK117
     obtain ⟨hcz19_0, hcz19_1, hfz19_0, hfz19_1⟩ := b2 BK114
     go_wp2_with (first | ((with_reducible refine gf 10 ?_); refine gl 26 Tryd.func10 #[.agg #[.int .i64 t100, .slice Ao14 t110.length co14], .agg #[.int .i64 t107, .slice Ao9 t108.length co9]] ?_; (with_reducible refine (laws_eqNet.calls k t100 _ _ t110 t107 _ _ t108 true _ ?side1 ?side2 ?side3 ?side4 A15.out).mono ?_); (case side1 => refine (Kd.R_reads' (e := 47) (base := w.heap.size) (ok := fun k_ => (True ∧ some k_ ≠ (.slice Ao9 t108.length co9 : Value).ownBlock)) (n := t110.length) (c := co14) ?_).2.2; exact (by (with_reducible repeat (first | apply Kd.R_alloc | apply Kd.R_drewN | apply Kd.R_drew)); exact (rf2 HO116.out BK117.out (fun _ h_ => h_.1)))); (case side2 => exact (Kd.R_reads' HO116.out).2.1); (case side3 => refine (Kd.R_reads' (e := 47) (base := w.heap.size) (ok := fun k_ => (True ∧ some k_ ≠ (.slice Ao14 t110.length co14 : Value).ownBlock)) (n := t108.length) (c := co9) ?_).2.2; exact (by (with_reducible repeat (first | apply Kd.R_alloc | apply Kd.R_drewN | apply Kd.R_drew)); exact (rf2 HO113.out BK117.out (fun _ h_ => h_.1)))); (case side4 => exact (Kd.R_reads' HO113.out).2.1); rintro e w20 ⟨rfl, hb⟩; refine ⟨_, rfl, ?_⟩; replace HO113 := q0 (Kd.R_below (by (with_reducible repeat (first | apply Kd.R_alloc | apply Kd.R_drewN | apply Kd.R_drew)); exact (rf2 HO113.out BK117.out (fun _ h_ => h_.1))) hb); replace HO116 := q0 (Kd.R_below (by (with_reducible repeat (first | apply Kd.R_alloc | apply Kd.R_drewN | apply Kd.R_drew)); exact (rf2 HO116.out BK117.out (fun _ h_ => h_.1))) hb); replace BK114 := q0 (kf BK114.out hb); replace BK117 := q0 (blk_below (g := gb117) (o := .cells #[.int .i64 t100, .slice Ao14 t110.length co14] 24 (0, 0)) (by (with_reducible repeat (first | refine blk_drewN ?_ _ | refine blk_drew ?_ | refine blk_alloc ?_ _)); refine blk_put (cs := #[.int .i64 t100, .slice none 0 0]) ?_ 1 _ rfl; (with_reducible repeat (first | refine blk_drewN ?_ _ | refine blk_drew ?_ | refine blk_alloc ?_ _)); refine blk_put (cs := #[.int .i64 0, .slice none 0 0]) ?_ 0 _ rfl; (with_reducible repeat (first | refine blk_drewN ?_ _ | refine blk_drew ?_ | refine blk_alloc ?_ _)); exact BK117.out) hb); replace HB := bp HB hb; (try clear hb); (try clear hb2); (try clear hk); (try clear hi)))
     go_meet
     case rel => exact ⟨_, ((t111 != t109)), qs, H', ⟨by first | omega | exact Nat.le_refl _⟩, ⟨by (with_reducible repeat (first | apply Kd.R_alloc | apply Kd.R_drewN | apply Kd.R_drew)); exact Kd.R_mono HO113.out (fun _ hk => hk.2)⟩, ⟨by (with_reducible repeat (first | apply Kd.R_alloc | apply Kd.R_drewN | apply Kd.R_drew)); exact Kd.R_mono HO116.out (fun _ hk => hk.2)⟩, ⟨qk BK114.out⟩, ⟨qk BK117.out⟩, ⟨qb HB.out⟩⟩
   replace c16 := Bool.eq_false_iff.mpr c16
   subst c16
   rw [if_neg nf] at H
   have H' := q0 H
   clear H
   have hnb21 := NB117_114.out
   have hnc21 := NB114_117.out
   obtain ⟨hcz22_0, hcz22_1, hfz22_0, hfz22_1⟩ := b2 BK117
   obtain ⟨hcz23_0, hcz23_1, hfz23_0, hfz23_1⟩ := b2 BK114
   go_wp2_with (first | ((with_reducible refine gf 10 ?_); refine gl 26 Tryd.func10 #[.agg #[.int .i64 t100, .slice Ao14 t110.length co14], .agg #[.int .i64 t107, .slice Ao9 t108.length co9]] ?_; (with_reducible refine (laws_eqNet.calls k t100 _ _ t110 t107 _ _ t108 false _ ?side1 ?side2 ?side3 ?side4 A15.out).mono ?_); (case side1 => refine (Kd.R_reads' (e := 47) (base := w.heap.size) (ok := fun k_ => (True ∧ some k_ ≠ (.slice Ao9 t108.length co9 : Value).ownBlock)) (n := t110.length) (c := co14) ?_).2.2; exact (by (with_reducible repeat (first | apply Kd.R_alloc | apply Kd.R_drewN | apply Kd.R_drew)); exact (rf2 HO116.out BK117.out (fun _ h_ => h_.1)))); (case side2 => exact (Kd.R_reads' HO116.out).2.1); (case side3 => refine (Kd.R_reads' (e := 47) (base := w.heap.size) (ok := fun k_ => (True ∧ some k_ ≠ (.slice Ao14 t110.length co14 : Value).ownBlock)) (n := t108.length) (c := co9) ?_).2.2; exact (by (with_reducible repeat (first | apply Kd.R_alloc | apply Kd.R_drewN | apply Kd.R_drew)); exact (rf2 HO113.out BK117.out (fun _ h_ => h_.1)))); (case side4 => exact (Kd.R_reads' HO113.out).2.1); rintro e w24 ⟨rfl, hb⟩; refine ⟨_, rfl, ?_⟩; replace HO113 := q0 (Kd.R_below (by (with_reducible repeat (first | apply Kd.R_alloc | apply Kd.R_drewN | apply Kd.R_drew)); exact (rf2 HO113.out BK117.out (fun _ h_ => h_.1))) hb); replace HO116 := q0 (Kd.R_below (by (with_reducible repeat (first | apply Kd.R_alloc | apply Kd.R_drewN | apply Kd.R_drew)); exact (rf2 HO116.out BK117.out (fun _ h_ => h_.1))) hb); replace BK114 := q0 (kf BK114.out hb); replace BK117 := q0 (blk_below (g := gb117) (o := .cells #[.int .i64 t100, .slice Ao14 t110.length co14] 24 (0, 0)) (by (with_reducible repeat (first | refine blk_drewN ?_ _ | refine blk_drew ?_ | refine blk_alloc ?_ _)); refine blk_put (cs := #[.int .i64 t100, .slice none 0 0]) ?_ 1 _ rfl; (with_reducible repeat (first | refine blk_drewN ?_ _ | refine blk_drew ?_ | refine blk_alloc ?_ _)); refine blk_put (cs := #[.int .i64 0, .slice none 0 0]) ?_ 0 _ rfl; (with_reducible repeat (first | refine blk_drewN ?_ _ | refine blk_drew ?_ | refine blk_alloc ?_ _)); exact BK117.out) hb); replace HB := bp HB hb; (try clear hb); (try clear hb2); (try clear hk); (try clear hi)))
   go_meet
   case rel => exact ⟨_, (true), qs, H', ⟨by first | omega | exact Nat.le_refl _⟩, ⟨by (with_reducible repeat (first | apply Kd.R_alloc | apply Kd.R_drewN | apply Kd.R_drew)); exact Kd.R_mono HO113.out (fun _ hk => hk.2)⟩, ⟨by (with_reducible repeat (first | apply Kd.R_alloc | apply Kd.R_drewN | apply Kd.R_drew)); exact Kd.R_mono HO116.out (fun _ hk => hk.2)⟩, ⟨qk BK114.out⟩, ⟨qk BK117.out⟩, ⟨qb HB.out⟩⟩
 clear HC5
 try clear c1
 try clear c2
 try clear c2b0
 try clear c2b1
 try clear p2
 try clear c3
 try clear c8
 try clear c9
 try clear c10
 try clear c12
 try clear c16
 try clear c17
 try clear c21
 try clear hcz13_0
 try clear hcz13_1
 try clear hcz18_0
 try clear hcz18_1
 try clear hcz19_0
 try clear hcz19_1
 try clear hcz22_0
 try clear hcz22_1
 try clear hcz23_0
 try clear hcz23_1
 try clear hcz8_0
 try clear hcz8_1
 try clear hfz13_0
 try clear hfz13_1
 try clear hfz18_0
 try clear hfz18_1
 try clear hfz19_0
 try clear hfz19_1
 try clear hfz22_0
 try clear hfz22_1
 try clear hfz23_0
 try clear hfz23_1
 try clear hfz8_0
 try clear hfz8_1
 obtain ⟨kq, x32_4, rfl, HA, HJ4, HO_100001, HO_101001, BK114, BK117, HB⟩ := hcut
 rcases kq with _ | kj4
 · exact absurd HA.out (by simp [laws_FnExactNetRead.j0])
 have H := HA.out
 clear HA
 simp only [laws_FnExactNetRead.j0] at H
 by_cases c25 : x32_4 = true
 · subst c25
   rw [if_pos rfl] at H
   obtain rfl := Option.some.inj H
   go_wp2
   go_ret
   exact ⟨qe, qb HB.out⟩
 replace c25 := Bool.eq_false_iff.mpr c25
 subst c25
 rw [if_neg nf] at H
 obtain ⟨⟨t102, t119⟩, A26, H⟩ := ob H
 obtain ⟨t103, A27, H⟩ := ob H
 by_cases c28 : t103 < 0
 · rw [if_pos c28] at H
   have c28b0 := decide_eq_true c28
   clear c28
   obtain rfl := Option.some.inj H
   have hnb29 := NB117_114.out
   have hnc29 := NB114_117.out
   obtain ⟨hcz30_0, hcz30_1, hfz30_0, hfz30_1⟩ := b2 BK117
   go_wp2_with (first | ((with_reducible refine gf 11 ?_); refine gl 35 Tryd.func11 #[.agg #[.int .i64 t100, .slice Ao14 t110.length co14], .int .i64 1] ?_; (with_reducible refine (laws_markNet.calls kj4 t100 (fun k_ => some k_ = (.slice Ao14 t110.length co14 : Value).ownBlock) (.slice Ao14 t110.length co14) t110 1 t102 t119 w _ ?side1 ?side2 A26.out).mono ?_); (case side1 => exact qb HB.out); (case side2 => exact Kd.R_tight rfl HO_101001.out); rintro e w31 ⟨rfl, hy0, hb, hkp⟩; refine ⟨_, rfl, ?_⟩; replace HO_100001 := q0 (Kd.R_mono (ok' := fun k_ => some k_ ≠ (.slice Ao14 t110.length co14 : Value).ownBlock) (Kd.R_keptB (HO_100001.out) hkp (fun k_ hk_ hs_ => (hk_) hs_)) (fun k_ hk_ => hk_.1)); replace BK114 := q0 (blk_kept (qk BK114.out) hkp (fun hs_ => (fun e_ => (Kd.R_ne HO_101001.out BK114.out (by decide)) e_) hs_)); replace BK117 := q0 (blk_kept (qk BK117.out) hkp (fun hs_ => (fun e_ => (Kd.R_ne HO_101001.out BK117.out (by decide)) e_) hs_)); replace HO_101001 := q0 (Kd.R_reok rfl hy0 (fun k_ e_ => HO_101001.out.1 k_ e_)); replace HB := q0 (hb); (try clear hb); (try clear hkp); (try clear hy0); obtain ⟨hcz32_0, hcz32_1, hfz32_0, hfz32_1⟩ := b2 BK117) | ((with_reducible refine gf 12 ?_); refine goesL_ (some 38) rfl rfl Tryd.func12 (by kernel_rfl) rfl #[.agg #[.int .i64 t100, .slice Ao14 t119.length co14], .int .i64 1] rfl (by (try simp only [List.map_toArray, List.map_cons, List.map_nil]); first | done | (rw [show t119.length = t110.length from (Kd.R_reads' HO_101001.out).1.symm] <;> rfl) | rfl | (simp only [List.length_drop, List.length_take]; rfl)) ?_; (with_reducible refine (laws_heldNet.calls kj4 t100 _ _ t119 1 t103 _ ?side1 ?side2 A27.out).mono ?_); (case side1 => exact qc (Kd.R_reads' HO_101001.out).2.2); (case side2 => rw [show t119.length = t110.length from (Kd.R_reads' HO_101001.out).1.symm]; exact (Kd.R_reads' HO_101001.out).2.1); rintro e w33 ⟨rfl, hb⟩; refine ⟨_, rfl, ?_⟩; replace HO_100001 := q0 (Kd.R_below (qr HO_100001.out) hb); replace HO_101001 := q0 (Kd.R_below (qr HO_101001.out) hb); replace BK114 := kd BK114 hb; replace BK117 := kd BK117 hb; replace HB := bp HB hb; (try clear hb); (try clear hb2); (try clear hk); (try clear hi)))
   go_ret
   exact ⟨qe, qb HB.out⟩
 rw [if_neg c28] at H
 have c28b0 := decide_eq_false c28
 clear c28
 by_cases c34 : t103 = t102
 rotate_left
 · rw [if_neg c34] at H
   have c34b0 : (t103 == t102) = false := beq_eq_false_iff_ne.mpr c34
   have c34b1 : (t103 != t102) = true := bne_iff_ne.mpr c34
   obtain rfl := Option.some.inj H
   have hnb78 := NB117_114.out
   have hnc78 := NB114_117.out
   obtain ⟨hcz79_0, hcz79_1, hfz79_0, hfz79_1⟩ := b2 BK117
   go_wp2_with (first | ((with_reducible refine gf 11 ?_); refine gl 35 Tryd.func11 #[.agg #[.int .i64 t100, .slice Ao14 t110.length co14], .int .i64 1] ?_; (with_reducible refine (laws_markNet.calls kj4 t100 (fun k_ => some k_ = (.slice Ao14 t110.length co14 : Value).ownBlock) (.slice Ao14 t110.length co14) t110 1 t102 t119 w _ ?side1 ?side2 A26.out).mono ?_); (case side1 => exact qb HB.out); (case side2 => exact Kd.R_tight rfl HO_101001.out); rintro e w80 ⟨rfl, hy0, hb, hkp⟩; refine ⟨_, rfl, ?_⟩; replace HO_100001 := q0 (Kd.R_mono (ok' := fun k_ => some k_ ≠ (.slice Ao14 t110.length co14 : Value).ownBlock) (Kd.R_keptB (HO_100001.out) hkp (fun k_ hk_ hs_ => (hk_) hs_)) (fun k_ hk_ => hk_.1)); replace BK114 := q0 (blk_kept (qk BK114.out) hkp (fun hs_ => (fun e_ => (Kd.R_ne HO_101001.out BK114.out (by decide)) e_) hs_)); replace BK117 := q0 (blk_kept (qk BK117.out) hkp (fun hs_ => (fun e_ => (Kd.R_ne HO_101001.out BK117.out (by decide)) e_) hs_)); replace HO_101001 := q0 (Kd.R_reok rfl hy0 (fun k_ e_ => HO_101001.out.1 k_ e_)); replace HB := q0 (hb); (try clear hb); (try clear hkp); (try clear hy0); obtain ⟨hcz81_0, hcz81_1, hfz81_0, hfz81_1⟩ := b2 BK117) | ((with_reducible refine gf 12 ?_); refine goesL_ (some 38) rfl rfl Tryd.func12 (by kernel_rfl) rfl #[.agg #[.int .i64 t100, .slice Ao14 t119.length co14], .int .i64 1] rfl (by (try simp only [List.map_toArray, List.map_cons, List.map_nil]); first | done | (rw [show t119.length = t110.length from (Kd.R_reads' HO_101001.out).1.symm] <;> rfl) | rfl | (simp only [List.length_drop, List.length_take]; rfl)) ?_; (with_reducible refine (laws_heldNet.calls kj4 t100 _ _ t119 1 t103 _ ?side1 ?side2 A27.out).mono ?_); (case side1 => exact qc (Kd.R_reads' HO_101001.out).2.2); (case side2 => rw [show t119.length = t110.length from (Kd.R_reads' HO_101001.out).1.symm]; exact (Kd.R_reads' HO_101001.out).2.1); rintro e w82 ⟨rfl, hb⟩; refine ⟨_, rfl, ?_⟩; replace HO_100001 := q0 (Kd.R_below (qr HO_100001.out) hb); replace HO_101001 := q0 (Kd.R_below (qr HO_101001.out) hb); replace BK114 := kd BK114 hb; replace BK117 := kd BK117 hb; replace HB := bp HB hb; (try clear hb); (try clear hb2); (try clear hk); (try clear hi)))
   go_ret
   exact ⟨qe, qb HB.out⟩
 rw [if_pos c34] at H
 have c34b0 : (t103 == t102) = true := beq_iff_eq.mpr c34
 have c34b1 : (t103 != t102) = false := bne_eq_false_iff_eq.mpr c34
 clear c34
 obtain ⟨⟨t104, t121, t122⟩, A35, H⟩ := ob H
 have HC36 := q0 H
 clear H
 have hnb37 := NB117_114.out
 have hnc37 := NB114_117.out
 obtain ⟨hcz38_0, hcz38_1, hfz38_0, hfz38_1⟩ := b2 BK117
 go_upto_region 16 with (first | ((with_reducible refine gf 11 ?_); refine gl 35 Tryd.func11 #[.agg #[.int .i64 t100, .slice Ao14 t110.length co14], .int .i64 1] ?_; (with_reducible refine (laws_markNet.calls kj4 t100 (fun k_ => some k_ = (.slice Ao14 t110.length co14 : Value).ownBlock) (.slice Ao14 t110.length co14) t110 1 t102 t119 w _ ?side1 ?side2 A26.out).mono ?_); (case side1 => exact qb HB.out); (case side2 => exact Kd.R_tight rfl HO_101001.out); rintro e w39 ⟨rfl, hy0, hb, hkp⟩; refine ⟨_, rfl, ?_⟩; replace HO_100001 := q0 (Kd.R_mono (ok' := fun k_ => some k_ ≠ (.slice Ao14 t110.length co14 : Value).ownBlock) (Kd.R_keptB (HO_100001.out) hkp (fun k_ hk_ hs_ => (hk_) hs_)) (fun k_ hk_ => hk_.1)); replace BK114 := q0 (blk_kept (qk BK114.out) hkp (fun hs_ => (fun e_ => (Kd.R_ne HO_101001.out BK114.out (by decide)) e_) hs_)); replace BK117 := q0 (blk_kept (qk BK117.out) hkp (fun hs_ => (fun e_ => (Kd.R_ne HO_101001.out BK117.out (by decide)) e_) hs_)); replace HO_101001 := q0 (Kd.R_reok rfl hy0 (fun k_ e_ => HO_101001.out.1 k_ e_)); replace HB := q0 (hb); (try clear hb); (try clear hkp); (try clear hy0); obtain ⟨hcz40_0, hcz40_1, hfz40_0, hfz40_1⟩ := b2 BK117) | ((with_reducible refine gf 12 ?_); refine goesL_ (some 38) rfl rfl Tryd.func12 (by kernel_rfl) rfl #[.agg #[.int .i64 t100, .slice Ao14 t119.length co14], .int .i64 1] rfl (by (try simp only [List.map_toArray, List.map_cons, List.map_nil]); first | done | (rw [show t119.length = t110.length from (Kd.R_reads' HO_101001.out).1.symm] <;> rfl) | rfl | (simp only [List.length_drop, List.length_take]; rfl)) ?_; (with_reducible refine (laws_heldNet.calls kj4 t100 _ _ t119 1 t103 _ ?side1 ?side2 A27.out).mono ?_); (case side1 => exact qc (Kd.R_reads' HO_101001.out).2.2); (case side2 => rw [show t119.length = t110.length from (Kd.R_reads' HO_101001.out).1.symm]; exact (Kd.R_reads' HO_101001.out).2.1); rintro e w41 ⟨rfl, hb⟩; refine ⟨_, rfl, ?_⟩; replace HO_100001 := q0 (Kd.R_below (qr HO_100001.out) hb); replace HO_101001 := q0 (Kd.R_below (qr HO_101001.out) hb); replace BK114 := kd BK114 hb; replace BK117 := kd BK117 hb; replace HB := bp HB hb; (try clear hb); (try clear hb2); (try clear hk); (try clear hi)) | ((with_reducible refine gf 9 ?_); refine gl 46 Tryd.func9 #[.string a0] ?_; (with_reducible refine (impl_NetRead.calls kj4 a0 t104 t121 t122 _ ?sideG A35.out).mono ?_); (case sideG => exact HG_.out.below (qb HB.out)); rintro e w42 ⟨v124, rfl, ho0, hb⟩; refine ⟨_, rfl, ?_⟩; have HO125 := q0 (Kd.R_lower (Kd.R_new' (Kd.R_new' ho0 (Kd.R_lt (qr HO_100001.out))) (Kd.R_lt (qr HO_101001.out))) (below_size (qb HB.out))); replace HO_100001 := q0 (Kd.R_elder' (qr HO_100001.out) (Kd.R_base ho0) hb); replace HO_101001 := q0 (Kd.R_elder' (qr HO_101001.out) (Kd.R_base ho0) hb); replace BK114 := kd BK114 hb; replace BK117 := kd BK117 hb; replace HB := bp HB hb; (try clear hb); (try clear hb2); (try clear hk); (try clear hi); (try clear ho0)) | ((with_reducible refine gd 9 ?_); refine be 9 #[.int .i64 0, .slice none 0 0] 24 ?_; intro gb126 hg w43 hbox hb; replace HO_100001 := q0 (Kd.R_below (qr HO_100001.out) hb); replace HO_101001 := q0 (Kd.R_below (qr HO_101001.out) hb); replace HO125 := q0 (Kd.R_below (qr HO125.out) hb); have BK126 := q0 (hbox); have GW126 := gw HB hg; have GE126 := gw HB hg; replace HB := bp HB hb; have NB114_126 := nl BK114 hg; have NB126_114 := ng BK114 hg; replace BK114 := kd BK114 hb; have NB117_126 := nl BK117 hg; have NB126_117 := ng BK117 hg; replace BK117 := kd BK117 hb; clear hb hbox hg; have hnb44 := NB126_114.out; have hnc44 := NB114_126.out; have hnb45 := NB126_117.out; have hnc45 := NB117_126.out; obtain ⟨hcz46_0, hcz46_1, hfz46_0, hfz46_1⟩ := b2 BK126; obtain ⟨Ao47, co47, eo47⟩ := Kd.R_slice HO125.out; subst eo47))
 (try simp only [Act.put, List.setIfInBounds_toArray, List.set_cons_zero, List.set_cons_succ])
 go_cut [57] (fun v57 wc => ∃ (kq : Nat) (x57_35 : Bool), v57 = .bool x57_35 ∧ Aside0 (laws_FnExactNetRead.j1 kq t102 x57_35 t100 t119 = some r) ∧ Aside0 (kq ≤ kj4) ∧ Aside0 (Kd.R kTie 47 wc w.heap.size (fun k_ => some k_ ≠ ((.slice Ao14 t110.length co14) : Value).ownBlock ∧ some k_ ≠ ((.slice Ao47 t121.length co47) : Value).ownBlock) (.slice Ao9 t108.length co9) t108) ∧ Aside0 (Kd.R kTie 47 wc w.heap.size (fun k_ => some k_ ≠ ((.slice Ao9 t108.length co9) : Value).ownBlock ∧ some k_ ≠ ((.slice Ao47 t121.length co47) : Value).ownBlock) (.slice Ao14 t110.length co14) t119) ∧ Aside0 (Kd.R kTie 47 wc w.heap.size (fun k_ => some k_ ≠ ((.slice Ao9 t108.length co9) : Value).ownBlock ∧ some k_ ≠ ((.slice Ao14 t110.length co14) : Value).ownBlock) (.slice Ao47 t121.length co47) t121) ∧ Aside0 (wc.heap[gb114]? = some (.cells #[.int .i64 t107, (.slice Ao9 t108.length co9)] 24 (0, 0))) ∧ Aside0 (wc.heap[gb117]? = some (.cells #[.int .i64 t100, (.slice Ao14 t110.length co14)] 24 (0, 0))) ∧ Aside0 (wc.heap[gb126]? = some (.cells #[.int .i64 t104, (.slice Ao47 t121.length co47)] 24 (0, 0))) ∧ Aside0 (Below w.heap.size w wc))
 case first =>
   have H := HC36.out
   clear HC36
   obtain ⟨t105, A48, H⟩ := ob H
   by_cases c49 : t105 = true
   · subst c49
     rw [if_pos rfl] at H
     have H' := q0 H
     clear H
     have hnb50 := NB126_114.out
     have hnc50 := NB114_126.out
     have hnb51 := NB126_117.out
     have hnc51 := NB117_126.out
     obtain ⟨hcz52_0, hcz52_1, hfz52_0, hfz52_1⟩ := b2 BK126
     have hnb53 := NB114_117.out
     have hnc53 := NB117_114.out
     obtain ⟨hcz54_0, hcz54_1, hfz54_0, hfz54_1⟩ := b2 BK114
     go_wp2_with (first | ((with_reducible refine gf 10 ?_); refine gl 51 Tryd.func10 #[.agg #[.int .i64 t104, .slice Ao47 t121.length co47], .agg #[.int .i64 t107, .slice Ao9 t108.length co9]] ?_; (with_reducible refine (laws_eqNet.calls kj4 t104 _ _ t121 t107 _ _ t108 true _ ?side1 ?side2 ?side3 ?side4 A48.out).mono ?_); (case side1 => refine (Kd.R_reads' (e := 47) (base := w.heap.size) (ok := fun k_ => ((True ∧ some k_ ≠ (.slice Ao9 t108.length co9 : Value).ownBlock) ∧ some k_ ≠ (.slice Ao14 t110.length co14 : Value).ownBlock)) (n := t121.length) (c := co47) ?_).2.2; exact (by (with_reducible repeat (first | apply Kd.R_alloc | apply Kd.R_drewN | apply Kd.R_drew)); exact (rf2 HO125.out BK126.out (fun _ h_ => h_.1)))); (case side2 => exact (Kd.R_reads' HO125.out).2.1); (case side3 => refine (Kd.R_reads' (e := 47) (base := w.heap.size) (ok := fun k_ => (some k_ ≠ (.slice Ao14 t110.length co14 : Value).ownBlock ∧ some k_ ≠ (.slice Ao47 t121.length co47 : Value).ownBlock)) (n := t108.length) (c := co9) ?_).2.2; exact (by (with_reducible repeat (first | apply Kd.R_alloc | apply Kd.R_drewN | apply Kd.R_drew)); exact (rf2 HO_100001.out BK126.out (fun _ h_ => h_.1)))); (case side4 => exact (Kd.R_reads' HO_100001.out).2.1); rintro e w55 ⟨rfl, hb⟩; refine ⟨_, rfl, ?_⟩; replace HO_100001 := q0 (Kd.R_below (by (with_reducible repeat (first | apply Kd.R_alloc | apply Kd.R_drewN | apply Kd.R_drew)); exact (rf2 HO_100001.out BK126.out (fun _ h_ => h_.1))) hb); replace HO_101001 := q0 (Kd.R_below (by (with_reducible repeat (first | apply Kd.R_alloc | apply Kd.R_drewN | apply Kd.R_drew)); exact (rf2 HO_101001.out BK126.out (fun _ h_ => h_.1))) hb); replace HO125 := q0 (Kd.R_below (by (with_reducible repeat (first | apply Kd.R_alloc | apply Kd.R_drewN | apply Kd.R_drew)); exact (rf2 HO125.out BK126.out (fun _ h_ => h_.1))) hb); replace BK114 := q0 (kf BK114.out hb); replace BK117 := q0 (kf BK117.out hb); replace BK126 := q0 (blk_below (g := gb126) (o := .cells #[.int .i64 t104, .slice Ao47 t121.length co47] 24 (0, 0)) (by (with_reducible repeat (first | refine blk_drewN ?_ _ | refine blk_drew ?_ | refine blk_alloc ?_ _)); refine blk_put (cs := #[.int .i64 t104, .slice none 0 0]) ?_ 1 _ rfl; (with_reducible repeat (first | refine blk_drewN ?_ _ | refine blk_drew ?_ | refine blk_alloc ?_ _)); refine blk_put (cs := #[.int .i64 0, .slice none 0 0]) ?_ 0 _ rfl; (with_reducible repeat (first | refine blk_drewN ?_ _ | refine blk_drew ?_ | refine blk_alloc ?_ _)); exact BK126.out) hb); replace HB := bp HB hb; (try clear hb); (try clear hb2); (try clear hk); (try clear hi)))
     go_meet
     case rel => exact ⟨_, ((t122 != t109)), qs, H', ⟨by have := HJ4.out; first | omega | exact Nat.le_refl _⟩, ⟨qr HO_100001.out⟩, ⟨qr HO_101001.out⟩, ⟨by (with_reducible repeat (first | apply Kd.R_alloc | apply Kd.R_drewN | apply Kd.R_drew)); exact Kd.R_mono HO125.out (fun _ hk => ⟨hk.1.2, hk.2⟩)⟩, ⟨qk BK114.out⟩, ⟨qk BK117.out⟩, ⟨qk BK126.out⟩, ⟨qb HB.out⟩⟩
   replace c49 := Bool.eq_false_iff.mpr c49
   subst c49
   rw [if_neg nf] at H
   have H' := q0 H
   clear H
   have hnb56 := NB126_114.out
   have hnc56 := NB114_126.out
   have hnb57 := NB126_117.out
   have hnc57 := NB117_126.out
   obtain ⟨hcz58_0, hcz58_1, hfz58_0, hfz58_1⟩ := b2 BK126
   have hnb59 := NB114_117.out
   have hnc59 := NB117_114.out
   obtain ⟨hcz60_0, hcz60_1, hfz60_0, hfz60_1⟩ := b2 BK114
   go_wp2_with (first | ((with_reducible refine gf 10 ?_); refine gl 51 Tryd.func10 #[.agg #[.int .i64 t104, .slice Ao47 t121.length co47], .agg #[.int .i64 t107, .slice Ao9 t108.length co9]] ?_; (with_reducible refine (laws_eqNet.calls kj4 t104 _ _ t121 t107 _ _ t108 false _ ?side1 ?side2 ?side3 ?side4 A48.out).mono ?_); (case side1 => refine (Kd.R_reads' (e := 47) (base := w.heap.size) (ok := fun k_ => ((True ∧ some k_ ≠ (.slice Ao9 t108.length co9 : Value).ownBlock) ∧ some k_ ≠ (.slice Ao14 t110.length co14 : Value).ownBlock)) (n := t121.length) (c := co47) ?_).2.2; exact (by (with_reducible repeat (first | apply Kd.R_alloc | apply Kd.R_drewN | apply Kd.R_drew)); exact (rf2 HO125.out BK126.out (fun _ h_ => h_.1)))); (case side2 => exact (Kd.R_reads' HO125.out).2.1); (case side3 => refine (Kd.R_reads' (e := 47) (base := w.heap.size) (ok := fun k_ => (some k_ ≠ (.slice Ao14 t110.length co14 : Value).ownBlock ∧ some k_ ≠ (.slice Ao47 t121.length co47 : Value).ownBlock)) (n := t108.length) (c := co9) ?_).2.2; exact (by (with_reducible repeat (first | apply Kd.R_alloc | apply Kd.R_drewN | apply Kd.R_drew)); exact (rf2 HO_100001.out BK126.out (fun _ h_ => h_.1)))); (case side4 => exact (Kd.R_reads' HO_100001.out).2.1); rintro e w61 ⟨rfl, hb⟩; refine ⟨_, rfl, ?_⟩; replace HO_100001 := q0 (Kd.R_below (by (with_reducible repeat (first | apply Kd.R_alloc | apply Kd.R_drewN | apply Kd.R_drew)); exact (rf2 HO_100001.out BK126.out (fun _ h_ => h_.1))) hb); replace HO_101001 := q0 (Kd.R_below (by (with_reducible repeat (first | apply Kd.R_alloc | apply Kd.R_drewN | apply Kd.R_drew)); exact (rf2 HO_101001.out BK126.out (fun _ h_ => h_.1))) hb); replace HO125 := q0 (Kd.R_below (by (with_reducible repeat (first | apply Kd.R_alloc | apply Kd.R_drewN | apply Kd.R_drew)); exact (rf2 HO125.out BK126.out (fun _ h_ => h_.1))) hb); replace BK114 := q0 (kf BK114.out hb); replace BK117 := q0 (kf BK117.out hb); replace BK126 := q0 (blk_below (g := gb126) (o := .cells #[.int .i64 t104, .slice Ao47 t121.length co47] 24 (0, 0)) (by (with_reducible repeat (first | refine blk_drewN ?_ _ | refine blk_drew ?_ | refine blk_alloc ?_ _)); refine blk_put (cs := #[.int .i64 t104, .slice none 0 0]) ?_ 1 _ rfl; (with_reducible repeat (first | refine blk_drewN ?_ _ | refine blk_drew ?_ | refine blk_alloc ?_ _)); refine blk_put (cs := #[.int .i64 0, .slice none 0 0]) ?_ 0 _ rfl; (with_reducible repeat (first | refine blk_drewN ?_ _ | refine blk_drew ?_ | refine blk_alloc ?_ _)); exact BK126.out) hb); replace HB := bp HB hb; (try clear hb); (try clear hb2); (try clear hk); (try clear hi)))
   go_meet
   case rel => exact ⟨_, (true), qs, H', ⟨by have := HJ4.out; first | omega | exact Nat.le_refl _⟩, ⟨qr HO_100001.out⟩, ⟨qr HO_101001.out⟩, ⟨by (with_reducible repeat (first | apply Kd.R_alloc | apply Kd.R_drewN | apply Kd.R_drew)); exact Kd.R_mono HO125.out (fun _ hk => ⟨hk.1.2, hk.2⟩)⟩, ⟨qk BK114.out⟩, ⟨qk BK117.out⟩, ⟨qk BK126.out⟩, ⟨qb HB.out⟩⟩
 clear HC36
 try clear c1
 try clear c2
 try clear c2b0
 try clear c2b1
 try clear p2
 try clear c3
 try clear c4
 try clear c5
 try clear c8
 try clear c9
 try clear c10
 try clear c11
 try clear c12
 try clear c16
 try clear c17
 try clear c21
 try clear c25
 try clear c28
 try clear c28b0
 try clear c29
 try clear c34
 try clear c34b0
 try clear c34b1
 try clear c37
 try clear c44
 try clear c45
 try clear c49
 try clear c50
 try clear c51
 try clear c53
 try clear c56
 try clear c57
 try clear c59
 try clear hcz13_0
 try clear hcz13_1
 try clear hcz18_0
 try clear hcz18_1
 try clear hcz19_0
 try clear hcz19_1
 try clear hcz22_0
 try clear hcz22_1
 try clear hcz23_0
 try clear hcz23_1
 try clear hcz30_0
 try clear hcz30_1
 try clear hcz32_0
 try clear hcz32_1
 try clear hcz38_0
 try clear hcz38_1
 try clear hcz40_0
 try clear hcz40_1
 try clear hcz46_0
 try clear hcz46_1
 try clear hcz52_0
 try clear hcz52_1
 try clear hcz54_0
 try clear hcz54_1
 try clear hcz58_0
 try clear hcz58_1
 try clear hcz60_0
 try clear hcz60_1
 try clear hcz8_0
 try clear hcz8_1
 try clear hfz13_0
 try clear hfz13_1
 try clear hfz18_0
 try clear hfz18_1
 try clear hfz19_0
 try clear hfz19_1
 try clear hfz22_0
 try clear hfz22_1
 try clear hfz23_0
 try clear hfz23_1
 try clear hfz30_0
 try clear hfz30_1
 try clear hfz32_0
 try clear hfz32_1
 try clear hfz38_0
 try clear hfz38_1
 try clear hfz40_0
 try clear hfz40_1
 try clear hfz46_0
 try clear hfz46_1
 try clear hfz52_0
 try clear hfz52_1
 try clear hfz54_0
 try clear hfz54_1
 try clear hfz58_0
 try clear hfz58_1
 try clear hfz60_0
 try clear hfz60_1
 try clear hfz8_0
 try clear hfz8_1
 try clear p2
 obtain ⟨kq, x57_35, rfl, HA, HJ35, HO_100001, HO_101001, HO_105001, BK114, BK117, BK126, HB⟩ := hcut
 have hl101001_35 := (Kd.R_reads' HO_101001.out).1
 rw [hl101001_35] at HO_101001
 (try simp only [hl101001_35])
 (try simp only [hl101001_35] at BK114)
 (try simp only [hl101001_35] at BK117)
 (try simp only [hl101001_35] at BK126)
 (try simp only [hl101001_35] at HO_100001)
 (try simp only [hl101001_35] at HO_105001)
 rcases kq with _ | kj35
 · exact absurd HA.out (by simp [laws_FnExactNetRead.j1])
 have H := HA.out
 clear HA
 simp only [laws_FnExactNetRead.j1] at H
 by_cases c62 : x57_35 = true
 · subst c62
   rw [if_pos rfl] at H
   obtain rfl := Option.some.inj H
   go_wp2
   go_ret
   exact ⟨qe, qb HB.out⟩
 replace c62 := Bool.eq_false_iff.mpr c62
 subst c62
 rw [if_neg nf] at H
 obtain ⟨t106, A63, H⟩ := ob H
 by_cases c64 : t106 < 0
 · rw [if_pos c64] at H
   have c64b0 := decide_eq_true c64
   clear c64
   obtain rfl := Option.some.inj H
   have hnb65 := NB117_114.out
   have hnc65 := NB114_117.out
   have hnb66 := NB117_126.out
   have hnc66 := NB126_117.out
   obtain ⟨hcz67_0, hcz67_1, hfz67_0, hfz67_1⟩ := b2 BK117
   go_wp2_with (first | ((with_reducible refine gf 12 ?_); refine gl 60 Tryd.func12 #[.agg #[.int .i64 t100, .slice Ao14 t119.length co14], .int .i64 1] ?_; (with_reducible refine (laws_heldNet.calls kj35 t100 _ _ t119 1 t106 _ ?side1 ?side2 A63.out).mono ?_); (case side1 => exact qc (Kd.R_reads' HO_101001.out).2.2); (case side2 => exact (Kd.R_reads' HO_101001.out).2.1); rintro e w68 ⟨rfl, hb⟩; refine ⟨_, rfl, ?_⟩; replace HO_100001 := q0 (Kd.R_below (qr HO_100001.out) hb); replace HO_101001 := q0 (Kd.R_below (qr HO_101001.out) hb); replace HO_105001 := q0 (Kd.R_below (qr HO_105001.out) hb); replace BK114 := kd BK114 hb; replace BK117 := kd BK117 hb; replace BK126 := kd BK126 hb; replace HB := bp HB hb; (try clear hb); (try clear hb2); (try clear hk); (try clear hi)))
   go_ret
   exact ⟨qe, qb HB.out⟩
 rw [if_neg c64] at H
 have c64b0 := decide_eq_false c64
 clear c64
 by_cases c69 : t106 = t102
 rotate_left
 · rw [if_neg c69] at H
   have c69b0 : (t106 == t102) = false := beq_eq_false_iff_ne.mpr c69
   have c69b1 : (t106 != t102) = true := bne_iff_ne.mpr c69
   obtain rfl := Option.some.inj H
   have hnb74 := NB117_114.out
   have hnc74 := NB114_117.out
   have hnb75 := NB117_126.out
   have hnc75 := NB126_117.out
   obtain ⟨hcz76_0, hcz76_1, hfz76_0, hfz76_1⟩ := b2 BK117
   go_wp2_with (first | ((with_reducible refine gf 12 ?_); refine gl 60 Tryd.func12 #[.agg #[.int .i64 t100, .slice Ao14 t119.length co14], .int .i64 1] ?_; (with_reducible refine (laws_heldNet.calls kj35 t100 _ _ t119 1 t106 _ ?side1 ?side2 A63.out).mono ?_); (case side1 => exact qc (Kd.R_reads' HO_101001.out).2.2); (case side2 => exact (Kd.R_reads' HO_101001.out).2.1); rintro e w77 ⟨rfl, hb⟩; refine ⟨_, rfl, ?_⟩; replace HO_100001 := q0 (Kd.R_below (qr HO_100001.out) hb); replace HO_101001 := q0 (Kd.R_below (qr HO_101001.out) hb); replace HO_105001 := q0 (Kd.R_below (qr HO_105001.out) hb); replace BK114 := kd BK114 hb; replace BK117 := kd BK117 hb; replace BK126 := kd BK126 hb; replace HB := bp HB hb; (try clear hb); (try clear hb2); (try clear hk); (try clear hi)))
   go_ret
   exact ⟨qe, qb HB.out⟩
 rw [if_pos c69] at H
 have c69b0 : (t106 == t102) = true := beq_iff_eq.mpr c69
 have c69b1 : (t106 != t102) = false := bne_eq_false_iff_eq.mpr c69
 clear c69
 obtain rfl := Option.some.inj H
 have hnb70 := NB117_114.out
 have hnc70 := NB114_117.out
 have hnb71 := NB117_126.out
 have hnc71 := NB126_117.out
 obtain ⟨hcz72_0, hcz72_1, hfz72_0, hfz72_1⟩ := b2 BK117
 go_wp2_with (first | ((with_reducible refine gf 12 ?_); refine gl 60 Tryd.func12 #[.agg #[.int .i64 t100, .slice Ao14 t119.length co14], .int .i64 1] ?_; (with_reducible refine (laws_heldNet.calls kj35 t100 _ _ t119 1 t106 _ ?side1 ?side2 A63.out).mono ?_); (case side1 => exact qc (Kd.R_reads' HO_101001.out).2.2); (case side2 => exact (Kd.R_reads' HO_101001.out).2.1); rintro e w73 ⟨rfl, hb⟩; refine ⟨_, rfl, ?_⟩; replace HO_100001 := q0 (Kd.R_below (qr HO_100001.out) hb); replace HO_101001 := q0 (Kd.R_below (qr HO_101001.out) hb); replace HO_105001 := q0 (Kd.R_below (qr HO_105001.out) hb); replace BK114 := kd BK114 hb; replace BK117 := kd BK117 hb; replace BK126 := kd BK126 hb; replace HB := bp HB hb; (try clear hb); (try clear hb2); (try clear hk); (try clear hi)))
 go_ret
 exact ⟨qe, qb HB.out⟩

end Go.Proofs.YtloonheabfdgbaaDoor.P
