import Derived.Test.YtloonheabfdgbaaDoorP0
import Derived.Test.YtloonheabfdgbaaDoorI
import Derived.Test.YtloonheabfdgbaaDoorJ
namespace Go.Proofs.YtloonheabfdgbaaDoor.P
open Go.RowKit Go.Proofs.YtloonheabfdgbaaDoorW.PrintWords Go.Proofs.YtloonheabfdgbaaDoorW.PrintLast Go.Proofs.YtloonheabfdgbaaDoorW.PrintMore
attribute [local go_sem] max2_int min2_int max_two min_two max_three min_three max_four min_four
set_option linter.unusedVariables false
set_option linter.unusedSimpArgs false
attribute [local go_sem high] eqATie
set_option maxHeartbeats 8000000 in
set_option maxRecDepth 100000 in
theorem spec_l6In.calls (a0 : Int) (a1 : Int) (a2 : Int) (r : Bool) (w : World) (h : spec_l6In.f a0 a1 a2 = some r) :
    Calls Tryd.prog 34 #[.int .i64 a0, .int .i64 a1, .int .i64 a2] w fun e w' => e = .returned (.bool r) ∧ Drawn0 w w' := by
 have H : (if a0 ≥ a1 then (some (decide (a0 ≤ a2))) else (some false)) = some r := h
 clear h
 by_cases c4 : a0 ≥ a1
 · rw [if_pos c4] at H
   have c4b0 := decide_eq_true c4
   clear c4
   obtain rfl := Option.some.inj H
   go_enter Tryd.func34, Tryd.ntmps34
   go_wp2
   go_ret
   exact ⟨by first | rfl | (simp; done) | (simp [*]; done), by repeat (first | exact Drawn0.refl _ | apply Drawn0.step)⟩
 rw [if_neg c4] at H
 have c4b0 := decide_eq_false c4
 clear c4
 obtain rfl := Option.some.inj H
 go_enter Tryd.func34, Tryd.ntmps34
 go_wp2
 go_ret
 exact ⟨by first | rfl | (simp; done) | (simp [*]; done), by repeat (first | exact Drawn0.refl _ | apply Drawn0.step)⟩

set_option maxHeartbeats 8000000 in
set_option maxRecDepth 100000 in
theorem spec_l1Less.calls (a0_0 : Int) (a0_1 : Int) (a1_0 : Int) (a1_1 : Int) (r : Bool) (w : World) (h : spec_l1Less.f a0_0 a0_1 a1_0 a1_1 = some r) :
    Calls Tryd.prog 35 #[.agg #[.int .i64 a0_0, .int .i64 a0_1], .agg #[.int .i64 a1_0, .int .i64 a1_1]] w fun e w' => e = .returned (.bool r) ∧ Below w.heap.size w w' := by
 have hu47 := Tryd.underlying47
 have HB := q0 (Below.refl w.heap.size w)
 have H : (if a0_0 < a1_0 then (some true) else (if a0_0 = a1_0 then (some (decide (a0_1 < a1_1))) else (some false))) = some r := h
 clear h
 by_cases c3 : a0_0 < a1_0
 · rw [if_pos c3] at H
   have c3b0 := decide_eq_true c3
   clear c3
   obtain rfl := Option.some.inj H
   go_enter Tryd.func35, Tryd.ntmps35
   go_wp2_with (first | ((with_reducible refine gd 2 ?_); refine be 2 #[.int .i64 a0_0, .int .i64 a0_1] 47 ?_; intro gb100 hg w4 hbox hb; have BK100 := q0 (hbox); have GW100 := gw HB hg; have GE100 := gw HB hg; replace HB := bp HB hb; clear hb hbox hg) | ((with_reducible refine gd 3 ?_); refine be 3 #[.int .i64 a1_0, .int .i64 a1_1] 47 ?_; intro gb101 hg w5 hbox hb; have BK101 := q0 (hbox); have GW101 := gw HB hg; have GE101 := gw HB hg; replace HB := bp HB hb; have NB100_101 := nl BK100 hg; have NB101_100 := ng BK100 hg; replace BK100 := kd BK100 hb; clear hb hbox hg; have hnb6 := NB100_101.out; have hnc6 := NB101_100.out; obtain ⟨hcz7_0, hcz7_1, hfz7_0, hfz7_1⟩ := b2 BK100; obtain ⟨hcz8_0, hcz8_1, hfz8_0, hfz8_1⟩ := b2 BK101))
   go_ret
   exact ⟨qe, qb HB.out⟩
 rw [if_neg c3] at H
 have c3b0 := decide_eq_false c3
 clear c3
 by_cases c9 : a0_0 = a1_0
 rotate_left
 · rw [if_neg c9] at H
   have c9b0 : (a0_0 == a1_0) = false := beq_eq_false_iff_ne.mpr c9
   have c9b1 : (a0_0 != a1_0) = true := bne_iff_ne.mpr c9
   obtain rfl := Option.some.inj H
   go_enter Tryd.func35, Tryd.ntmps35
   go_wp2_with (first | ((with_reducible refine gd 2 ?_); refine be 2 #[.int .i64 a0_0, .int .i64 a0_1] 47 ?_; intro gb100 hg w15 hbox hb; have BK100 := q0 (hbox); have GW100 := gw HB hg; have GE100 := gw HB hg; replace HB := bp HB hb; clear hb hbox hg) | ((with_reducible refine gd 3 ?_); refine be 3 #[.int .i64 a1_0, .int .i64 a1_1] 47 ?_; intro gb101 hg w16 hbox hb; have BK101 := q0 (hbox); have GW101 := gw HB hg; have GE101 := gw HB hg; replace HB := bp HB hb; have NB100_101 := nl BK100 hg; have NB101_100 := ng BK100 hg; replace BK100 := kd BK100 hb; clear hb hbox hg; have hnb17 := NB100_101.out; have hnc17 := NB101_100.out; obtain ⟨hcz18_0, hcz18_1, hfz18_0, hfz18_1⟩ := b2 BK100; obtain ⟨hcz19_0, hcz19_1, hfz19_0, hfz19_1⟩ := b2 BK101))
   go_ret
   exact ⟨qe, qb HB.out⟩
 rw [if_pos c9] at H
 have c9b0 : (a0_0 == a1_0) = true := beq_iff_eq.mpr c9
 have c9b1 : (a0_0 != a1_0) = false := bne_eq_false_iff_eq.mpr c9
 clear c9
 obtain rfl := Option.some.inj H
 go_enter Tryd.func35, Tryd.ntmps35
 go_wp2_with (first | ((with_reducible refine gd 2 ?_); refine be 2 #[.int .i64 a0_0, .int .i64 a0_1] 47 ?_; intro gb100 hg w10 hbox hb; have BK100 := q0 (hbox); have GW100 := gw HB hg; have GE100 := gw HB hg; replace HB := bp HB hb; clear hb hbox hg) | ((with_reducible refine gd 3 ?_); refine be 3 #[.int .i64 a1_0, .int .i64 a1_1] 47 ?_; intro gb101 hg w11 hbox hb; have BK101 := q0 (hbox); have GW101 := gw HB hg; have GE101 := gw HB hg; replace HB := bp HB hb; have NB100_101 := nl BK100 hg; have NB101_100 := ng BK100 hg; replace BK100 := kd BK100 hb; clear hb hbox hg; have hnb12 := NB100_101.out; have hnc12 := NB101_100.out; obtain ⟨hcz13_0, hcz13_1, hfz13_0, hfz13_1⟩ := b2 BK100; obtain ⟨hcz14_0, hcz14_1, hfz14_0, hfz14_1⟩ := b2 BK101))
 go_ret
 exact ⟨qe, qb HB.out⟩

def spec_NetOk.T7 : Bool × List (List Nat × List Nat) := (true, [([], []), ([0], [0]), ([], []), ([2], [2]), ([3], [3]), ([1, 4], [1, 4]), ([5], [5]), ([6, 5], [6]), ([7], [7]), ([8, 7], [7, 8]), ([7], [7]), ([10, 7], [7, 10]), ([11, 7], [7, 11]), ([7], [7]), ([13, 7], [7, 13]), ([14, 7], [7, 14]), ([9, 12, 15, 7, 7], [7, 9, 12, 15]), ([16, 7], [7, 16]), ([7, 17], [7, 17]), ([18, 16], [18]), ([19], [19]), ([20, 19], [19, 20]), ([21, 19, 19], [19, 21]), ([22], [22]), ([23, 22], [22, 23]), ([22], [22]), ([25, 22], [22, 25]), ([24, 26, 22], [22, 24, 26]), ([27, 22], [22, 27]), ([22], [22]), ([28, 29, 22, 22], [22, 28, 29]), ([30, 22], [22, 30]), ([22, 31, 19], [19, 22, 31]), ([19, 32], [19, 32])])
def spec_NetOk.B7 : List Nat := [0, 1, 0, 4, 12, 31, 63, 127, 255, 511, 255, 1279, 3327, 255, 8447, 24831, 65535, 131071, 262143, 524287, 1048575, 2097151, 4194303, 8388607, 16777215, 8388607, 41943039, 134217727, 268435455, 8388607, 1073741823, 2147483647, 4294967295, 8589934591]
theorem spec_NetOk.tab7 : rtab .any (opsOf Tryd.f17 7) = spec_NetOk.T7 := by kernel_rfl
theorem spec_NetOk.bits7 : waitsOk spec_NetOk.T7.2 spec_NetOk.B7 = true := by kernel_rfl
set_option maxHeartbeats 8000000 in
set_option maxRecDepth 100000 in
theorem spec_NetOk.calls (k : Nat) (a0_0 : Int) (A0_1 : Option Addr) (c0_1 : Nat) (l0_1 : List (STie)) (r : Bool) (w : World) (hr0_1 : Kd.C kTie w A0_1 l0_1.length l0_1) (hc0_1 : l0_1.length ≤ c0_1) (h : spec_NetOk.f k a0_0 l0_1 = some r) :
    Calls Tryd.prog 17 #[.agg #[.int .i64 a0_0, .slice A0_1 l0_1.length c0_1]] w fun e w' => e = .returned (.bool r) ∧ Below w.heap.size w w' := by
 have hu24 := Tryd.underlying24
 have hu47 := Tryd.underlying47
 have HR0_1 := q0 hr0_1
 have HC0_1 := q0 hc0_1
 clear hr0_1 hc0_1
 have HB := q0 (Below.refl w.heap.size w)
 have H : ((spec_l6In.f a0_0 0 8).bind fun t100 => (if t100 = true then (spec_NetOk.j0 k (decide ((l0_1.length : Int) > 64)) a0_0 l0_1) else (spec_NetOk.j0 k true a0_0 l0_1))) = some r := h
 clear h
 have HC2 := q0 H
 clear H
 go_enter Tryd.func17, Tryd.ntmps17
 go_upto_region 1 with (first | ((with_reducible refine gd 1 ?_); (try (refine gate_guard (by rfl) ?_; dsimp only)); refine be 1 #[.int .i64 a0_0, .slice A0_1 l0_1.length c0_1] 24 ?_; intro gb104 hg w3 hbox hb; have BK104 := q0 (hbox); have GW104 := gw HB hg; have GE104 := gw HB hg; replace HB := bp HB hb; clear hb hbox hg))
 (try simp only [Act.put, List.setIfInBounds_toArray, List.set_cons_zero, List.set_cons_succ])
 go_cut [14] (fun v14 wc => ∃ (kq : Nat) (x14_1 : Bool), v14 = .bool x14_1 ∧ Aside0 (spec_NetOk.j0 kq x14_1 a0_0 l0_1 = some r) ∧ Aside0 (kq ≤ k) ∧ Aside0 (wc.heap[gb104]? = some (.cells #[.int .i64 a0_0, (.slice A0_1 l0_1.length c0_1)] 24 (0, 0))) ∧ Aside0 (Below w.heap.size w wc))
 case first =>
   have H := HC2.out
   clear HC2
   obtain ⟨t100, A4, H⟩ := ob H
   by_cases c5 : t100 = true
   · subst c5
     rw [if_pos rfl] at H
     have H' := q0 H
     clear H
     obtain ⟨hcz6_0, hcz6_1, hfz6_0, hfz6_1⟩ := b2 BK104
     go_wp2_with (first | ((with_reducible refine gf 34 ?_); refine gl 7 Tryd.func34 #[.int .i64 a0_0, .int .i64 0, .int .i64 8] ?_; (with_reducible refine (spec_l6In.calls a0_0 0 8 true _ A4.out).mono ?_); rintro e w' ⟨rfl, ⟨nd, rfl⟩⟩; refine ⟨_, rfl, ?_⟩))
     go_meet
     case rel => exact ⟨_, (decide ((l0_1.length : Int) > 64)), qs, H', ⟨by first | omega | exact Nat.le_refl _⟩, ⟨qk BK104.out⟩, ⟨qb HB.out⟩⟩
   replace c5 := Bool.eq_false_iff.mpr c5
   subst c5
   rw [if_neg nf] at H
   have H' := q0 H
   clear H
   obtain ⟨hcz7_0, hcz7_1, hfz7_0, hfz7_1⟩ := b2 BK104
   go_wp2_with (first | ((with_reducible refine gf 34 ?_); refine gl 7 Tryd.func34 #[.int .i64 a0_0, .int .i64 0, .int .i64 8] ?_; (with_reducible refine (spec_l6In.calls a0_0 0 8 false _ A4.out).mono ?_); rintro e w' ⟨rfl, ⟨nd, rfl⟩⟩; refine ⟨_, rfl, ?_⟩))
   go_meet
   case rel => exact ⟨_, (true), qs, H', ⟨by first | omega | exact Nat.le_refl _⟩, ⟨qk BK104.out⟩, ⟨qb HB.out⟩⟩
 clear HC2
 try clear c1
 try clear p2
 try clear c3
 try clear c5
 try clear hcz6_0
 try clear hcz6_1
 try clear hcz7_0
 try clear hcz7_1
 try clear hfz6_0
 try clear hfz6_1
 try clear hfz7_0
 try clear hfz7_1
 obtain ⟨kq, x14_1, rfl, HA, HJ1, BK104, HB⟩ := hcut
 rcases kq with _ | kj1
 · exact absurd HA.out (by simp [spec_NetOk.j0])
 have H := HA.out
 clear HA
 simp only [spec_NetOk.j0] at H
 by_cases c8 : x14_1 = true
 · subst c8
   rw [if_pos rfl] at H
   obtain rfl := Option.some.inj H
   go_wp2
   go_ret
   exact ⟨qe, qb HB.out⟩
 replace c8 := Bool.eq_false_iff.mpr c8
 subst c8
 rw [if_neg nf] at H
 have H' := q0 H
 clear H
 go_wp2
 go_loopg [3] kj1 (fun kq v3 w' => ∃ (x3_2 : Int), v3 = .int .i64 x3_2 ∧ Aside0 (spec_NetOk.l0 kq x3_2 a0_0 l0_1 = some r) ∧ Aside0 (kq ≤ kj1) ∧ Aside0 (w'.heap[gb104]? = some (.cells #[.int .i64 a0_0, (.slice A0_1 l0_1.length c0_1)] 24 (0, 0))) ∧ Aside0 (Below w.heap.size w w'))
 case atStart => exact ⟨(0), qs, H', ⟨Nat.le_refl _⟩, ⟨qk BK104.out⟩, ⟨qb HB.out⟩⟩
 clear H'
 try clear c1
 try clear p2
 try clear c3
 try clear c5
 try clear c8
 try clear hcz6_0
 try clear hcz6_1
 try clear hcz7_0
 try clear hcz7_1
 try clear hfz6_0
 try clear hfz6_1
 try clear hfz7_0
 try clear hfz7_1
 try clear p2
 obtain ⟨x3_2, rfl, HA, HK2, BK104, HB⟩ := hrel
 rcases gk with _ | k2
 · exact absurd HA.out (by simp [spec_NetOk.l0])
 have H := HA.out
 clear HA
 simp only [spec_NetOk.l0] at H
 by_cases c9 : x3_2 < (l0_1.length : Int)
 rotate_left
 · rw [if_neg c9] at H
   have c9b0 := decide_eq_false c9
   clear c9
   obtain rfl := Option.some.inj H
   obtain ⟨hcz53_0, hcz53_1, hfz53_0, hfz53_1⟩ := b2 BK104
   go_wp2
   go_ret
   exact ⟨qe, qb HB.out⟩
 rw [if_pos c9] at H
 have c9b0 := decide_eq_true c9
 clear c9
 obtain ⟨c10, H⟩ : (0 ≤ x3_2) ∧ _ := og H
 have c10b0 := decide_eq_true c10
 clear c10
 obtain ⟨t101, A11, H⟩ := ob H
 by_cases c12 : t101 = true
 rotate_left
 · replace c12 := Bool.eq_false_iff.mpr c12
   subst c12
   rw [if_neg nf] at H
   obtain rfl := Option.some.inj H
   obtain ⟨hcz47_0, hcz47_1, hfz47_0, hfz47_1⟩ := b2 BK104
   have p107 : 0 ≤ (x3_2 : Int) := of_decide_eq_true qa
   have q107 : x3_2 < (l0_1.length : Int) := of_decide_eq_true qa
   obtain ⟨ad107, e107, hx107_0, hx107_1⟩ := at_TTie HR0_1.out x3_2 p107 q107
   cases e107
   replace hx107_0 := hcl HB.out hx107_0
   replace hx107_1 := hcl HB.out hx107_1
   replace p107 := eq_true p107
   replace q107 := eq_true q107
   try go_wp2_with (first | ((with_reducible refine gd 4 ?_); (try (refine gate_guard (by rfl) ?_; dsimp only)); refine be 4 #[.int .i64 0, .int .i64 0] 47 ?_; intro gb108 hg w48 hbox hb; have BK108 := q0 (hbox); have GW108 := gw HB hg; have GE108 := gw HB hg; replace HB := bp HB hb; have NB104_108 := nl BK104 hg; have NB108_104 := ng BK104 hg; replace BK104 := kd BK104 hb; clear hb hbox hg; have hnb49 := NB108_104.out; have hnc49 := NB104_108.out; obtain ⟨hcz50_0, hcz50_1, hfz50_0, hfz50_1⟩ := b2 BK108))
   have n0_ : Aside0 (((w48.setCell ⟨gb108, 0, none⟩ (.int .i64 ((rd_TTie l0_1 x3_2).f0))).setCell ⟨gb108, 1, none⟩ (.int .i64 ((rd_TTie l0_1 x3_2).f1))).heap[gb104]? = some (.cells #[.int .i64 a0_0, .slice (some ad107) l0_1.length c0_1] 24 (0, 0))) := ⟨qf BK104.out⟩
   have n1_ : Aside0 (((w48.setCell ⟨gb108, 0, none⟩ (.int .i64 ((rd_TTie l0_1 x3_2).f0))).setCell ⟨gb108, 1, none⟩ (.int .i64 ((rd_TTie l0_1 x3_2).f1))).heap[gb108]? = some (.cells #[.int .i64 ((rd_TTie l0_1 x3_2).f0), .int .i64 ((rd_TTie l0_1 x3_2).f1)] 47 (0, 0))) := ⟨by (with_reducible repeat (first | refine blk_drewN ?_ _ | refine blk_drew ?_ | refine blk_alloc ?_ _)); refine blk_put (cs := #[.int .i64 ((rd_TTie l0_1 x3_2).f0), .int .i64 0]) ?_ 1 _ rfl; (with_reducible repeat (first | refine blk_drewN ?_ _ | refine blk_drew ?_ | refine blk_alloc ?_ _)); refine blk_put (cs := #[.int .i64 0, .int .i64 0]) ?_ 0 _ rfl; (with_reducible repeat (first | refine blk_drewN ?_ _ | refine blk_drew ?_ | refine blk_alloc ?_ _)); exact BK108.out⟩
   have n2_ : Aside0 (Below w.heap.size w ((w48.setCell ⟨gb108, 0, none⟩ (.int .i64 ((rd_TTie l0_1 x3_2).f0))).setCell ⟨gb108, 1, none⟩ (.int .i64 ((rd_TTie l0_1 x3_2).f1)))) := ⟨qb HB.out⟩
   (try clear BK104)
   (try clear BK108)
   (try clear HB)
   generalize ((w48.setCell ⟨gb108, 0, none⟩ (.int .i64 ((rd_TTie l0_1 x3_2).f0))).setCell ⟨gb108, 1, none⟩ (.int .i64 ((rd_TTie l0_1 x3_2).f1))) = w51 at n0_ n1_ n2_ ⊢
   have BK104 := n0_
   have BK108 := n1_
   have HB := n2_
   clear n0_ n1_ n2_
   replace BK104 := q0 (blk_drew BK104.out)
   replace BK108 := q0 (blk_drew BK108.out)
   replace HB := q0 (below_drew1 HB.out)
   refine start_ (n := 34) (S := fun w' => w'.cell? ⟨gb108, 0, none⟩ = some (.int .i64 ((rd_TTie l0_1 x3_2).f0)) ∧ w'.cell? ⟨gb108, 1, none⟩ = some (.int .i64 ((rd_TTie l0_1 x3_2).f1)) ∧ w'.cell? ⟨gb104, 0, none⟩ = some (.int .i64 a0_0) ∧ w'.cell? ⟨gb104, 1, none⟩ = some (.slice (some ad107) l0_1.length c0_1)) (ds := []) (ba 34 0) (by kernel_rfl) rfl (by kernel_rfl) ⟨bca BK108, bcb BK108, bca BK104, bcb BK104⟩ (fun hHeld => ?_); refine with_tabW spec_NetOk.tab7 spec_NetOk.bits7 (fun HT_ HW_ => ?_)
   generalize w51.drew = w52 at BK104 BK108 HB hHeld ⊢
   refine pU 0 27 34 1 HT_ ?_
   refine pU 2 29 34 5 HT_ ?_
   refine tU 1 28 34 7 HT_ HW_ hHeld ?_
   refine tU 3 30 34 15 HT_ HW_ hHeld ?_
   refine pU 4 31 34 31 HT_ ?_
   refine one_ (i := 5) (N := some 32) (ba 34 63) rfl rfl (one_of HT_.out (by kernel_rfl)) (by decide) (fun K hK => ?_)
   refine goes_ Tryd.func34 (by kernel_rfl) rfl #[.int .i64 ((rd_TTie l0_1 x3_2).f0), .int .i64 0, .int .i64 (wrap64 (a0_0 - 1))] (by rfl) rfl rfl qm ?_
   with_reducible refine (spec_l6In.calls ((rd_TTie l0_1 x3_2).f0) 0 (wrap64 (a0_0 - 1)) false _ A11.out).mono ?_
   rintro e w' ⟨rfl, ⟨nd, rfl⟩⟩
   refine ⟨_, rfl, ?_⟩
   refine hK.out _ _ ⟨bca BK108, bcb BK108, bca BK104, bcb BK104⟩ (fun hHeld => ?_)
   clear hK K
   refine nu 32 ?_
   refine pU 6 33 34 127 HT_ ?_
   refine pU 7 34 34 255 HT_ ?_
   refine pV 8 35 34 511 HT_ ?_
   refine pV 9 36 34 1023 HT_ ?_
   refine pV 10 37 34 2047 HT_ ?_
   refine pV 11 38 34 4095 HT_ ?_
   refine pV 12 39 34 8191 HT_ ?_
   refine pV 13 40 34 16383 HT_ ?_
   refine pV 14 41 34 32767 HT_ ?_
   refine pV 15 42 34 65535 HT_ ?_
   refine pV 16 43 34 131071 HT_ ?_
   refine pV 17 44 34 262143 HT_ ?_
   refine pU 18 45 34 524287 HT_ ?_
   refine pU 19 46 34 1048575 HT_ ?_
   refine pV 20 47 34 2097151 HT_ ?_
   refine pV 21 48 34 4194303 HT_ ?_
   refine pV 22 49 34 8388607 HT_ ?_
   refine pV 23 50 34 16777215 HT_ ?_
   refine pV 24 51 34 33554431 HT_ ?_
   refine pV 25 52 34 67108863 HT_ ?_
   refine pV 26 53 34 134217727 HT_ ?_
   refine pV 27 54 34 268435455 HT_ ?_
   refine pV 28 55 34 536870911 HT_ ?_
   refine pV 29 56 34 1073741823 HT_ ?_
   refine pV 30 57 34 2147483647 HT_ ?_
   refine pV 31 58 34 4294967295 HT_ ?_
   refine pV 32 59 34 8589934591 HT_ ?_
   refine pU 33 60 34 17179869183 HT_ ?_
   refine done_ (done_of HT_.out (by kernel_rfl)) ?_
   try go_wp2
   go_ret
   exact ⟨qe, qb HB.out⟩
 subst c12
 rw [if_pos rfl] at H
 obtain ⟨t102, A13, H⟩ := ob H
 by_cases c14 : t102 = true
 rotate_left
 · replace c14 := Bool.eq_false_iff.mpr c14
   subst c14
   rw [if_neg nf] at H
   obtain rfl := Option.some.inj H
   obtain ⟨hcz41_0, hcz41_1, hfz41_0, hfz41_1⟩ := b2 BK104
   have p107 : 0 ≤ (x3_2 : Int) := of_decide_eq_true qa
   have q107 : x3_2 < (l0_1.length : Int) := of_decide_eq_true qa
   obtain ⟨ad107, e107, hx107_0, hx107_1⟩ := at_TTie HR0_1.out x3_2 p107 q107
   cases e107
   replace hx107_0 := hcl HB.out hx107_0
   replace hx107_1 := hcl HB.out hx107_1
   replace p107 := eq_true p107
   replace q107 := eq_true q107
   try go_wp2_with (first | ((with_reducible refine gd 4 ?_); (try (refine gate_guard (by rfl) ?_; dsimp only)); refine be 4 #[.int .i64 0, .int .i64 0] 47 ?_; intro gb108 hg w42 hbox hb; have BK108 := q0 (hbox); have GW108 := gw HB hg; have GE108 := gw HB hg; replace HB := bp HB hb; have NB104_108 := nl BK104 hg; have NB108_104 := ng BK104 hg; replace BK104 := kd BK104 hb; clear hb hbox hg; have hnb43 := NB108_104.out; have hnc43 := NB104_108.out; obtain ⟨hcz44_0, hcz44_1, hfz44_0, hfz44_1⟩ := b2 BK108))
   have n0_ : Aside0 (((w42.setCell ⟨gb108, 0, none⟩ (.int .i64 ((rd_TTie l0_1 x3_2).f0))).setCell ⟨gb108, 1, none⟩ (.int .i64 ((rd_TTie l0_1 x3_2).f1))).heap[gb104]? = some (.cells #[.int .i64 a0_0, .slice (some ad107) l0_1.length c0_1] 24 (0, 0))) := ⟨qf BK104.out⟩
   have n1_ : Aside0 (((w42.setCell ⟨gb108, 0, none⟩ (.int .i64 ((rd_TTie l0_1 x3_2).f0))).setCell ⟨gb108, 1, none⟩ (.int .i64 ((rd_TTie l0_1 x3_2).f1))).heap[gb108]? = some (.cells #[.int .i64 ((rd_TTie l0_1 x3_2).f0), .int .i64 ((rd_TTie l0_1 x3_2).f1)] 47 (0, 0))) := ⟨by (with_reducible repeat (first | refine blk_drewN ?_ _ | refine blk_drew ?_ | refine blk_alloc ?_ _)); refine blk_put (cs := #[.int .i64 ((rd_TTie l0_1 x3_2).f0), .int .i64 0]) ?_ 1 _ rfl; (with_reducible repeat (first | refine blk_drewN ?_ _ | refine blk_drew ?_ | refine blk_alloc ?_ _)); refine blk_put (cs := #[.int .i64 0, .int .i64 0]) ?_ 0 _ rfl; (with_reducible repeat (first | refine blk_drewN ?_ _ | refine blk_drew ?_ | refine blk_alloc ?_ _)); exact BK108.out⟩
   have n2_ : Aside0 (Below w.heap.size w ((w42.setCell ⟨gb108, 0, none⟩ (.int .i64 ((rd_TTie l0_1 x3_2).f0))).setCell ⟨gb108, 1, none⟩ (.int .i64 ((rd_TTie l0_1 x3_2).f1)))) := ⟨qb HB.out⟩
   (try clear BK104)
   (try clear BK108)
   (try clear HB)
   generalize ((w42.setCell ⟨gb108, 0, none⟩ (.int .i64 ((rd_TTie l0_1 x3_2).f0))).setCell ⟨gb108, 1, none⟩ (.int .i64 ((rd_TTie l0_1 x3_2).f1))) = w45 at n0_ n1_ n2_ ⊢
   have BK104 := n0_
   have BK108 := n1_
   have HB := n2_
   clear n0_ n1_ n2_
   replace BK104 := q0 (blk_drew BK104.out)
   replace BK108 := q0 (blk_drew BK108.out)
   replace HB := q0 (below_drew1 HB.out)
   refine start_ (n := 34) (S := fun w' => w'.cell? ⟨gb108, 0, none⟩ = some (.int .i64 ((rd_TTie l0_1 x3_2).f0)) ∧ w'.cell? ⟨gb108, 1, none⟩ = some (.int .i64 ((rd_TTie l0_1 x3_2).f1)) ∧ w'.cell? ⟨gb104, 0, none⟩ = some (.int .i64 a0_0) ∧ w'.cell? ⟨gb104, 1, none⟩ = some (.slice (some ad107) l0_1.length c0_1)) (ds := []) (ba 34 0) (by kernel_rfl) rfl (by kernel_rfl) ⟨bca BK108, bcb BK108, bca BK104, bcb BK104⟩ (fun hHeld => ?_); refine with_tabW spec_NetOk.tab7 spec_NetOk.bits7 (fun HT_ HW_ => ?_)
   generalize w45.drew = w46 at BK104 BK108 HB hHeld ⊢
   refine pU 0 27 34 1 HT_ ?_
   refine pU 2 29 34 5 HT_ ?_
   refine tU 1 28 34 7 HT_ HW_ hHeld ?_
   refine tU 3 30 34 15 HT_ HW_ hHeld ?_
   refine pU 4 31 34 31 HT_ ?_
   refine one_ (i := 5) (N := some 32) (ba 34 63) rfl rfl (one_of HT_.out (by kernel_rfl)) (by decide) (fun K hK => ?_)
   refine goes_ Tryd.func34 (by kernel_rfl) rfl #[.int .i64 ((rd_TTie l0_1 x3_2).f0), .int .i64 0, .int .i64 (wrap64 (a0_0 - 1))] (by rfl) rfl rfl qm ?_
   with_reducible refine (spec_l6In.calls ((rd_TTie l0_1 x3_2).f0) 0 (wrap64 (a0_0 - 1)) true _ A11.out).mono ?_
   rintro e w' ⟨rfl, ⟨nd, rfl⟩⟩
   refine ⟨_, rfl, ?_⟩
   refine hK.out _ _ ⟨bca BK108, bcb BK108, bca BK104, bcb BK104⟩ (fun hHeld => ?_)
   clear hK K
   refine nu 32 ?_
   refine pU 6 33 34 127 HT_ ?_
   refine pU 7 34 34 255 HT_ ?_
   refine pU 8 35 34 511 HT_ ?_
   refine pU 10 37 34 1535 HT_ ?_
   refine pU 13 40 34 9727 HT_ ?_
   refine tU 9 36 34 10239 HT_ HW_ hHeld ?_
   refine tU 11 38 34 12287 HT_ HW_ hHeld ?_
   refine pU 12 39 34 16383 HT_ ?_
   refine tU 14 41 34 32767 HT_ HW_ hHeld ?_
   refine pU 15 42 34 65535 HT_ ?_
   refine one_ (i := 16) (N := some 43) (ba 34 131071) rfl rfl (one_of HT_.out (by kernel_rfl)) (by decide) (fun K hK => ?_)
   refine goes_ Tryd.func34 (by kernel_rfl) rfl #[.int .i64 ((rd_TTie l0_1 x3_2).f1), .int .i64 (wrap64 (((rd_TTie l0_1 x3_2).f0) + 1)), .int .i64 (wrap64 (a0_0 - 1))] (by rfl) rfl rfl qm ?_
   with_reducible refine (spec_l6In.calls ((rd_TTie l0_1 x3_2).f1) (wrap64 (((rd_TTie l0_1 x3_2).f0) + 1)) (wrap64 (a0_0 - 1)) false _ A13.out).mono ?_
   rintro e w' ⟨rfl, ⟨nd, rfl⟩⟩
   refine ⟨_, rfl, ?_⟩
   refine hK.out _ _ ⟨bca BK108, bcb BK108, bca BK104, bcb BK104⟩ (fun hHeld => ?_)
   clear hK K
   refine nu 43 ?_
   refine pU 17 44 34 262143 HT_ ?_
   refine pU 18 45 34 524287 HT_ ?_
   refine pU 19 46 34 1048575 HT_ ?_
   refine pV 20 47 34 2097151 HT_ ?_
   refine pV 21 48 34 4194303 HT_ ?_
   refine pV 22 49 34 8388607 HT_ ?_
   refine pV 23 50 34 16777215 HT_ ?_
   refine pV 24 51 34 33554431 HT_ ?_
   refine pV 25 52 34 67108863 HT_ ?_
   refine pV 26 53 34 134217727 HT_ ?_
   refine pV 27 54 34 268435455 HT_ ?_
   refine pV 28 55 34 536870911 HT_ ?_
   refine pV 29 56 34 1073741823 HT_ ?_
   refine pV 30 57 34 2147483647 HT_ ?_
   refine pV 31 58 34 4294967295 HT_ ?_
   refine pV 32 59 34 8589934591 HT_ ?_
   refine pU 33 60 34 17179869183 HT_ ?_
   refine done_ (done_of HT_.out (by kernel_rfl)) ?_
   try go_wp2
   go_ret
   exact ⟨qe, qb HB.out⟩
 subst c14
 rw [if_pos rfl] at H
 by_cases c15 : x3_2 > 0
 rotate_left
 · rw [if_neg c15] at H
   have c15b0 := decide_eq_false c15
   clear c15
   have H' := q0 H
   clear H
   obtain ⟨hcz35_0, hcz35_1, hfz35_0, hfz35_1⟩ := b2 BK104
   have p107 : 0 ≤ (x3_2 : Int) := of_decide_eq_true qa
   have q107 : x3_2 < (l0_1.length : Int) := of_decide_eq_true qa
   obtain ⟨ad107, e107, hx107_0, hx107_1⟩ := at_TTie HR0_1.out x3_2 p107 q107
   cases e107
   replace hx107_0 := hcl HB.out hx107_0
   replace hx107_1 := hcl HB.out hx107_1
   replace p107 := eq_true p107
   replace q107 := eq_true q107
   try go_wp2_with (first | ((with_reducible refine gd 4 ?_); (try (refine gate_guard (by rfl) ?_; dsimp only)); refine be 4 #[.int .i64 0, .int .i64 0] 47 ?_; intro gb108 hg w36 hbox hb; have BK108 := q0 (hbox); have GW108 := gw HB hg; have GE108 := gw HB hg; replace HB := bp HB hb; have NB104_108 := nl BK104 hg; have NB108_104 := ng BK104 hg; replace BK104 := kd BK104 hb; clear hb hbox hg; have hnb37 := NB108_104.out; have hnc37 := NB104_108.out; obtain ⟨hcz38_0, hcz38_1, hfz38_0, hfz38_1⟩ := b2 BK108))
   have n0_ : Aside0 (((w36.setCell ⟨gb108, 0, none⟩ (.int .i64 ((rd_TTie l0_1 x3_2).f0))).setCell ⟨gb108, 1, none⟩ (.int .i64 ((rd_TTie l0_1 x3_2).f1))).heap[gb104]? = some (.cells #[.int .i64 a0_0, .slice (some ad107) l0_1.length c0_1] 24 (0, 0))) := ⟨qf BK104.out⟩
   have n1_ : Aside0 (((w36.setCell ⟨gb108, 0, none⟩ (.int .i64 ((rd_TTie l0_1 x3_2).f0))).setCell ⟨gb108, 1, none⟩ (.int .i64 ((rd_TTie l0_1 x3_2).f1))).heap[gb108]? = some (.cells #[.int .i64 ((rd_TTie l0_1 x3_2).f0), .int .i64 ((rd_TTie l0_1 x3_2).f1)] 47 (0, 0))) := ⟨by (with_reducible repeat (first | refine blk_drewN ?_ _ | refine blk_drew ?_ | refine blk_alloc ?_ _)); refine blk_put (cs := #[.int .i64 ((rd_TTie l0_1 x3_2).f0), .int .i64 0]) ?_ 1 _ rfl; (with_reducible repeat (first | refine blk_drewN ?_ _ | refine blk_drew ?_ | refine blk_alloc ?_ _)); refine blk_put (cs := #[.int .i64 0, .int .i64 0]) ?_ 0 _ rfl; (with_reducible repeat (first | refine blk_drewN ?_ _ | refine blk_drew ?_ | refine blk_alloc ?_ _)); exact BK108.out⟩
   have n2_ : Aside0 (Below w.heap.size w ((w36.setCell ⟨gb108, 0, none⟩ (.int .i64 ((rd_TTie l0_1 x3_2).f0))).setCell ⟨gb108, 1, none⟩ (.int .i64 ((rd_TTie l0_1 x3_2).f1)))) := ⟨qb HB.out⟩
   (try clear BK104)
   (try clear BK108)
   (try clear HB)
   generalize ((w36.setCell ⟨gb108, 0, none⟩ (.int .i64 ((rd_TTie l0_1 x3_2).f0))).setCell ⟨gb108, 1, none⟩ (.int .i64 ((rd_TTie l0_1 x3_2).f1))) = w39 at n0_ n1_ n2_ ⊢
   have BK104 := n0_
   have BK108 := n1_
   have HB := n2_
   clear n0_ n1_ n2_
   replace BK104 := q0 (blk_drew BK104.out)
   replace BK108 := q0 (blk_drew BK108.out)
   replace HB := q0 (below_drew1 HB.out)
   refine start_ (n := 34) (S := fun w' => w'.cell? ⟨gb108, 0, none⟩ = some (.int .i64 ((rd_TTie l0_1 x3_2).f0)) ∧ w'.cell? ⟨gb108, 1, none⟩ = some (.int .i64 ((rd_TTie l0_1 x3_2).f1)) ∧ w'.cell? ⟨gb104, 0, none⟩ = some (.int .i64 a0_0) ∧ w'.cell? ⟨gb104, 1, none⟩ = some (.slice (some ad107) l0_1.length c0_1)) (ds := []) (ba 34 0) (by kernel_rfl) rfl (by kernel_rfl) ⟨bca BK108, bcb BK108, bca BK104, bcb BK104⟩ (fun hHeld => ?_); refine with_tabW spec_NetOk.tab7 spec_NetOk.bits7 (fun HT_ HW_ => ?_)
   generalize w39.drew = w40 at BK104 BK108 HB hHeld ⊢
   refine pU 0 27 34 1 HT_ ?_
   refine pU 2 29 34 5 HT_ ?_
   refine tU 1 28 34 7 HT_ HW_ hHeld ?_
   refine tU 3 30 34 15 HT_ HW_ hHeld ?_
   refine pU 4 31 34 31 HT_ ?_
   refine one_ (i := 5) (N := some 32) (ba 34 63) rfl rfl (one_of HT_.out (by kernel_rfl)) (by decide) (fun K hK => ?_)
   refine goes_ Tryd.func34 (by kernel_rfl) rfl #[.int .i64 ((rd_TTie l0_1 x3_2).f0), .int .i64 0, .int .i64 (wrap64 (a0_0 - 1))] (by rfl) rfl rfl qm ?_
   with_reducible refine (spec_l6In.calls ((rd_TTie l0_1 x3_2).f0) 0 (wrap64 (a0_0 - 1)) true _ A11.out).mono ?_
   rintro e w' ⟨rfl, ⟨nd, rfl⟩⟩
   refine ⟨_, rfl, ?_⟩
   refine hK.out _ _ ⟨bca BK108, bcb BK108, bca BK104, bcb BK104⟩ (fun hHeld => ?_)
   clear hK K
   refine nu 32 ?_
   refine pU 6 33 34 127 HT_ ?_
   refine pU 7 34 34 255 HT_ ?_
   refine pU 8 35 34 511 HT_ ?_
   refine pU 10 37 34 1535 HT_ ?_
   refine pU 13 40 34 9727 HT_ ?_
   refine tU 9 36 34 10239 HT_ HW_ hHeld ?_
   refine tU 11 38 34 12287 HT_ HW_ hHeld ?_
   refine pU 12 39 34 16383 HT_ ?_
   refine tU 14 41 34 32767 HT_ HW_ hHeld ?_
   refine pU 15 42 34 65535 HT_ ?_
   refine one_ (i := 16) (N := some 43) (ba 34 131071) rfl rfl (one_of HT_.out (by kernel_rfl)) (by decide) (fun K hK => ?_)
   refine goes_ Tryd.func34 (by kernel_rfl) rfl #[.int .i64 ((rd_TTie l0_1 x3_2).f1), .int .i64 (wrap64 (((rd_TTie l0_1 x3_2).f0) + 1)), .int .i64 (wrap64 (a0_0 - 1))] (by rfl) rfl rfl qm ?_
   with_reducible refine (spec_l6In.calls ((rd_TTie l0_1 x3_2).f1) (wrap64 (((rd_TTie l0_1 x3_2).f0) + 1)) (wrap64 (a0_0 - 1)) true _ A13.out).mono ?_
   rintro e w' ⟨rfl, ⟨nd, rfl⟩⟩
   refine ⟨_, rfl, ?_⟩
   refine hK.out _ _ ⟨bca BK108, bcb BK108, bca BK104, bcb BK104⟩ (fun hHeld => ?_)
   clear hK K
   refine nu 43 ?_
   refine pU 17 44 34 262143 HT_ ?_
   refine pU 18 45 34 524287 HT_ ?_
   refine pU 19 46 34 1048575 HT_ ?_
   refine pU 20 47 34 2097151 HT_ ?_
   refine pU 21 48 34 4194303 HT_ ?_
   refine pU 22 49 34 8388607 HT_ ?_
   refine pV 23 50 34 16777215 HT_ ?_
   refine pV 24 51 34 33554431 HT_ ?_
   refine pV 25 52 34 67108863 HT_ ?_
   refine pV 26 53 34 134217727 HT_ ?_
   refine pV 27 54 34 268435455 HT_ ?_
   refine pV 28 55 34 536870911 HT_ ?_
   refine pV 29 56 34 1073741823 HT_ ?_
   refine pV 30 57 34 2147483647 HT_ ?_
   refine pV 31 58 34 4294967295 HT_ ?_
   refine pU 32 59 34 8589934591 HT_ ?_
   refine pU 33 60 34 17179869183 HT_ ?_
   refine done_ (done_of HT_.out (by kernel_rfl)) ?_
   try go_wp2
   go_roundg k2
   case measure => have := HJ1.out; have := HK2.out; omega
   case rel => exact ⟨(wrap64 (x3_2 + 1)), qs, H', ⟨by have := HJ1.out; have := HK2.out; omega⟩, ⟨qk BK104.out⟩, ⟨qb HB.out⟩⟩
 rw [if_pos c15] at H
 have c15b0 := decide_eq_true c15
 clear c15
 obtain ⟨ji16, hji16⟩ : ∃ j_ : Int, (wrap64 (x3_2 - 1)) = j_ := ⟨_, rfl⟩
 replace H : (if 0 ≤ (ji16) then (if (ji16) < (l0_1.length : Int) then ((spec_l1Less.f ((rd_TTie l0_1 (ji16)).f0) ((rd_TTie l0_1 (ji16)).f1) ((rd_TTie l0_1 x3_2).f0) ((rd_TTie l0_1 x3_2).f1)).bind fun t103 => (if t103 = true then (spec_NetOk.l0 k2 (wrap64 (x3_2 + 1)) a0_0 l0_1) else (some false))) else (none)) else (none)) = some r := by first | (rw [hji16] at H; exact H) | (simp only [hji16] at H ⊢; exact H)
 (try rw [hji16] at A11)
 (try rw [hji16] at A13)
 have hji16w : (IntKind.i64.wrap (x3_2 - 1)) = ji16 := (i64_w _).trans hji16
 obtain ⟨c17, H⟩ : (0 ≤ (ji16)) ∧ _ := og H
 have c17b0 := decide_eq_true c17
 clear c17
 obtain ⟨c18, H⟩ : ((ji16) < (l0_1.length : Int)) ∧ _ := og H
 have c18b0 := decide_eq_true c18
 clear c18
 obtain ⟨t103, A19, H⟩ := ob H
 by_cases c20 : t103 = true
 rotate_left
 · replace c20 := Bool.eq_false_iff.mpr c20
   subst c20
   rw [if_neg nf] at H
   obtain rfl := Option.some.inj H
   obtain ⟨hcz28_0, hcz28_1, hfz28_0, hfz28_1⟩ := b2 BK104
   have p107 : 0 ≤ (x3_2 : Int) := of_decide_eq_true qa
   have q107 : x3_2 < (l0_1.length : Int) := of_decide_eq_true qa
   obtain ⟨ad107, e107, hx107_0, hx107_1⟩ := at_TTie HR0_1.out x3_2 p107 q107
   cases e107
   replace hx107_0 := hcl HB.out hx107_0
   replace hx107_1 := hcl HB.out hx107_1
   replace p107 := eq_true p107
   replace q107 := eq_true q107
   try go_wp2_with (first | ((with_reducible refine gd 4 ?_); (try (refine gate_guard (by rfl) ?_; dsimp only)); refine be 4 #[.int .i64 0, .int .i64 0] 47 ?_; intro gb108 hg w29 hbox hb; have BK108 := q0 (hbox); have GW108 := gw HB hg; have GE108 := gw HB hg; replace HB := bp HB hb; have NB104_108 := nl BK104 hg; have NB108_104 := ng BK104 hg; replace BK104 := kd BK104 hb; clear hb hbox hg; have hnb30 := NB108_104.out; have hnc30 := NB104_108.out; obtain ⟨hcz31_0, hcz31_1, hfz31_0, hfz31_1⟩ := b2 BK108))
   have n0_ : Aside0 (((w29.setCell ⟨gb108, 0, none⟩ (.int .i64 ((rd_TTie l0_1 x3_2).f0))).setCell ⟨gb108, 1, none⟩ (.int .i64 ((rd_TTie l0_1 x3_2).f1))).heap[gb104]? = some (.cells #[.int .i64 a0_0, .slice (some ad107) l0_1.length c0_1] 24 (0, 0))) := ⟨qf BK104.out⟩
   have n1_ : Aside0 (((w29.setCell ⟨gb108, 0, none⟩ (.int .i64 ((rd_TTie l0_1 x3_2).f0))).setCell ⟨gb108, 1, none⟩ (.int .i64 ((rd_TTie l0_1 x3_2).f1))).heap[gb108]? = some (.cells #[.int .i64 ((rd_TTie l0_1 x3_2).f0), .int .i64 ((rd_TTie l0_1 x3_2).f1)] 47 (0, 0))) := ⟨by (with_reducible repeat (first | refine blk_drewN ?_ _ | refine blk_drew ?_ | refine blk_alloc ?_ _)); refine blk_put (cs := #[.int .i64 ((rd_TTie l0_1 x3_2).f0), .int .i64 0]) ?_ 1 _ rfl; (with_reducible repeat (first | refine blk_drewN ?_ _ | refine blk_drew ?_ | refine blk_alloc ?_ _)); refine blk_put (cs := #[.int .i64 0, .int .i64 0]) ?_ 0 _ rfl; (with_reducible repeat (first | refine blk_drewN ?_ _ | refine blk_drew ?_ | refine blk_alloc ?_ _)); exact BK108.out⟩
   have n2_ : Aside0 (Below w.heap.size w ((w29.setCell ⟨gb108, 0, none⟩ (.int .i64 ((rd_TTie l0_1 x3_2).f0))).setCell ⟨gb108, 1, none⟩ (.int .i64 ((rd_TTie l0_1 x3_2).f1)))) := ⟨qb HB.out⟩
   (try clear BK104)
   (try clear BK108)
   (try clear HB)
   generalize ((w29.setCell ⟨gb108, 0, none⟩ (.int .i64 ((rd_TTie l0_1 x3_2).f0))).setCell ⟨gb108, 1, none⟩ (.int .i64 ((rd_TTie l0_1 x3_2).f1))) = w32 at n0_ n1_ n2_ ⊢
   have BK104 := n0_
   have BK108 := n1_
   have HB := n2_
   clear n0_ n1_ n2_
   replace BK104 := q0 (blk_drew BK104.out)
   replace BK108 := q0 (blk_drew BK108.out)
   replace HB := q0 (below_drew1 HB.out)
   have p109 : 0 ≤ ((ji16) : Int) := of_decide_eq_true qa
   have q109 : (ji16) < (l0_1.length : Int) := of_decide_eq_true qa
   obtain ⟨ad109, e109, hx109_0, hx109_1⟩ := at_TTie HR0_1.out (ji16) p109 q109
   have hw109_1 := hx109_1
   have hw109_0 := hx109_0
   obtain rfl : ad107 = ad109 := (by injection e109)
   replace hx109_0 := hcl HB.out hx109_0
   replace hx109_1 := hcl HB.out hx109_1
   replace p109 := eq_true p109
   replace q109 := eq_true q109
   refine start_ (n := 34) (S := fun w' => w'.cell? ⟨gb108, 0, none⟩ = some (.int .i64 ((rd_TTie l0_1 x3_2).f0)) ∧ w'.cell? ⟨gb108, 1, none⟩ = some (.int .i64 ((rd_TTie l0_1 x3_2).f1)) ∧ w'.cell? ⟨gb104, 0, none⟩ = some (.int .i64 a0_0) ∧ w'.cell? ⟨gb104, 1, none⟩ = some (.slice (some ad107) l0_1.length c0_1) ∧ w'.cell? (ad107.add (((ji16)).toNat * 2)) = some (.int .i64 ((rd_TTie l0_1 (ji16)).f0)) ∧ w'.cell? ⟨(ad107.add (((ji16)).toNat * 2)).block, (ad107.add (((ji16)).toNat * 2)).off + 1, none⟩ = some (.int .i64 ((rd_TTie l0_1 (ji16)).f1))) (ds := []) (ba 34 0) (by kernel_rfl) rfl (by kernel_rfl) ⟨bca BK108, bcb BK108, bca BK104, bcb BK104, ((HB.out.cell (World.block_lt_of_cell? w _ hw109_0)).trans hw109_0), ((HB.out.cell (World.block_lt_of_cell? w _ hw109_1)).trans hw109_1)⟩ (fun hHeld => ?_); refine with_tabW spec_NetOk.tab7 spec_NetOk.bits7 (fun HT_ HW_ => ?_)
   generalize w32.drew = w33 at BK104 BK108 HB hx109_0 hx109_1 hHeld ⊢
   refine pU 0 27 34 1 HT_ ?_
   refine pU 2 29 34 5 HT_ ?_
   refine tU 1 28 34 7 HT_ HW_ hHeld ?_
   refine tU 3 30 34 15 HT_ HW_ hHeld ?_
   refine pU 4 31 34 31 HT_ ?_
   refine one_ (i := 5) (N := some 32) (ba 34 63) rfl rfl (one_of HT_.out (by kernel_rfl)) (by decide) (fun K hK => ?_)
   refine goes_ Tryd.func34 (by kernel_rfl) rfl #[.int .i64 ((rd_TTie l0_1 x3_2).f0), .int .i64 0, .int .i64 (wrap64 (a0_0 - 1))] (by rfl) rfl rfl qm ?_
   with_reducible refine (spec_l6In.calls ((rd_TTie l0_1 x3_2).f0) 0 (wrap64 (a0_0 - 1)) true _ A11.out).mono ?_
   rintro e w' ⟨rfl, ⟨nd, rfl⟩⟩
   refine ⟨_, rfl, ?_⟩
   refine hK.out _ _ ⟨bca BK108, bcb BK108, bca BK104, bcb BK104, ((HB.out.cell (World.block_lt_of_cell? w _ hw109_0)).trans hw109_0), ((HB.out.cell (World.block_lt_of_cell? w _ hw109_1)).trans hw109_1)⟩ (fun hHeld => ?_)
   clear hK K
   refine nu 32 ?_
   refine pU 6 33 34 127 HT_ ?_
   refine pU 7 34 34 255 HT_ ?_
   refine pU 8 35 34 511 HT_ ?_
   refine pU 10 37 34 1535 HT_ ?_
   refine pU 13 40 34 9727 HT_ ?_
   refine tU 9 36 34 10239 HT_ HW_ hHeld ?_
   refine tU 11 38 34 12287 HT_ HW_ hHeld ?_
   refine pU 12 39 34 16383 HT_ ?_
   refine tU 14 41 34 32767 HT_ HW_ hHeld ?_
   refine pU 15 42 34 65535 HT_ ?_
   refine one_ (i := 16) (N := some 43) (ba 34 131071) rfl rfl (one_of HT_.out (by kernel_rfl)) (by decide) (fun K hK => ?_)
   refine goes_ Tryd.func34 (by kernel_rfl) rfl #[.int .i64 ((rd_TTie l0_1 x3_2).f1), .int .i64 (wrap64 (((rd_TTie l0_1 x3_2).f0) + 1)), .int .i64 (wrap64 (a0_0 - 1))] (by rfl) rfl rfl qm ?_
   with_reducible refine (spec_l6In.calls ((rd_TTie l0_1 x3_2).f1) (wrap64 (((rd_TTie l0_1 x3_2).f0) + 1)) (wrap64 (a0_0 - 1)) true _ A13.out).mono ?_
   rintro e w' ⟨rfl, ⟨nd, rfl⟩⟩
   refine ⟨_, rfl, ?_⟩
   refine hK.out _ _ ⟨bca BK108, bcb BK108, bca BK104, bcb BK104, ((HB.out.cell (World.block_lt_of_cell? w _ hw109_0)).trans hw109_0), ((HB.out.cell (World.block_lt_of_cell? w _ hw109_1)).trans hw109_1)⟩ (fun hHeld => ?_)
   clear hK K
   refine nu 43 ?_
   refine pU 17 44 34 262143 HT_ ?_
   refine pU 18 45 34 524287 HT_ ?_
   refine pU 19 46 34 1048575 HT_ ?_
   refine pU 20 47 34 2097151 HT_ ?_
   refine pU 21 48 34 4194303 HT_ ?_
   refine pU 22 49 34 8388607 HT_ ?_
   refine pU 23 50 34 16777215 HT_ ?_
   refine pU 25 52 34 50331647 HT_ ?_
   refine pU 26 53 34 117440511 HT_ ?_
   refine tU 24 51 34 134217727 HT_ HW_ hHeld ?_
   refine pU 27 54 34 268435455 HT_ ?_
   refine tU 28 55 34 536870911 HT_ HW_ hHeld ?_
   refine tU 29 56 34 1073741823 HT_ HW_ hHeld ?_
   refine one_ (i := 30) (N := some 57) (ba 34 2147483647) rfl rfl (one_of HT_.out (by kernel_rfl)) (by decide) (fun K hK => ?_)
   refine goes_ Tryd.func35 (by kernel_rfl) rfl #[.agg #[.int .i64 ((rd_TTie l0_1 (ji16)).f0), .int .i64 ((rd_TTie l0_1 (ji16)).f1)], .agg #[.int .i64 ((rd_TTie l0_1 x3_2).f0), .int .i64 ((rd_TTie l0_1 x3_2).f1)]] (by rfl) rfl rfl (by (try simp only [List.map_toArray, List.map_cons, List.map_nil]); first | done | (simp only [hji16]; rfl) | rfl | (simp only [List.length_drop, List.length_take]; rfl)) ?_
   with_reducible refine (spec_l1Less.calls ((rd_TTie l0_1 (ji16)).f0) ((rd_TTie l0_1 (ji16)).f1) ((rd_TTie l0_1 x3_2).f0) ((rd_TTie l0_1 x3_2).f1) false _ A19.out).mono ?_
   rintro e w34 ⟨rfl, hb⟩
   refine ⟨_, rfl, ?_⟩
   replace BK104 := kd BK104 hb
   replace BK108 := kd BK108 hb
   replace HB := bp HB hb
   (try clear hb)
   (try clear hb2)
   (try clear hk)
   (try clear hi)
   refine hK.out _ _ ⟨bca BK108, bcb BK108, bca BK104, bcb BK104, ((HB.out.cell (World.block_lt_of_cell? w _ hw109_0)).trans hw109_0), ((HB.out.cell (World.block_lt_of_cell? w _ hw109_1)).trans hw109_1)⟩ (fun hHeld => ?_)
   clear hK K
   refine nu 57 ?_
   refine pU 31 58 34 4294967295 HT_ ?_
   refine pU 32 59 34 8589934591 HT_ ?_
   refine pU 33 60 34 17179869183 HT_ ?_
   refine done_ (done_of HT_.out (by kernel_rfl)) ?_
   try go_wp2
   go_ret
   exact ⟨by first | rfl | (simp [errW_none, errW_some] <;> rfl) | (simp only [← hji16]; first | rfl | (simp [errW_none, errW_some] <;> rfl)) | (simp [*, errW_none, errW_some] <;> rfl), qb HB.out⟩
 subst c20
 rw [if_pos rfl] at H
 have H' := q0 H
 clear H
 obtain ⟨hcz21_0, hcz21_1, hfz21_0, hfz21_1⟩ := b2 BK104
 have p107 : 0 ≤ (x3_2 : Int) := of_decide_eq_true qa
 have q107 : x3_2 < (l0_1.length : Int) := of_decide_eq_true qa
 obtain ⟨ad107, e107, hx107_0, hx107_1⟩ := at_TTie HR0_1.out x3_2 p107 q107
 cases e107
 replace hx107_0 := hcl HB.out hx107_0
 replace hx107_1 := hcl HB.out hx107_1
 replace p107 := eq_true p107
 replace q107 := eq_true q107
 try go_wp2_with (first | ((with_reducible refine gd 4 ?_); (try (refine gate_guard (by rfl) ?_; dsimp only)); refine be 4 #[.int .i64 0, .int .i64 0] 47 ?_; intro gb108 hg w22 hbox hb; have BK108 := q0 (hbox); have GW108 := gw HB hg; have GE108 := gw HB hg; replace HB := bp HB hb; have NB104_108 := nl BK104 hg; have NB108_104 := ng BK104 hg; replace BK104 := kd BK104 hb; clear hb hbox hg; have hnb23 := NB108_104.out; have hnc23 := NB104_108.out; obtain ⟨hcz24_0, hcz24_1, hfz24_0, hfz24_1⟩ := b2 BK108))
 have n0_ : Aside0 (((w22.setCell ⟨gb108, 0, none⟩ (.int .i64 ((rd_TTie l0_1 x3_2).f0))).setCell ⟨gb108, 1, none⟩ (.int .i64 ((rd_TTie l0_1 x3_2).f1))).heap[gb104]? = some (.cells #[.int .i64 a0_0, .slice (some ad107) l0_1.length c0_1] 24 (0, 0))) := ⟨qf BK104.out⟩
 have n1_ : Aside0 (((w22.setCell ⟨gb108, 0, none⟩ (.int .i64 ((rd_TTie l0_1 x3_2).f0))).setCell ⟨gb108, 1, none⟩ (.int .i64 ((rd_TTie l0_1 x3_2).f1))).heap[gb108]? = some (.cells #[.int .i64 ((rd_TTie l0_1 x3_2).f0), .int .i64 ((rd_TTie l0_1 x3_2).f1)] 47 (0, 0))) := ⟨by (with_reducible repeat (first | refine blk_drewN ?_ _ | refine blk_drew ?_ | refine blk_alloc ?_ _)); refine blk_put (cs := #[.int .i64 ((rd_TTie l0_1 x3_2).f0), .int .i64 0]) ?_ 1 _ rfl; (with_reducible repeat (first | refine blk_drewN ?_ _ | refine blk_drew ?_ | refine blk_alloc ?_ _)); refine blk_put (cs := #[.int .i64 0, .int .i64 0]) ?_ 0 _ rfl; (with_reducible repeat (first | refine blk_drewN ?_ _ | refine blk_drew ?_ | refine blk_alloc ?_ _)); exact BK108.out⟩
 have n2_ : Aside0 (Below w.heap.size w ((w22.setCell ⟨gb108, 0, none⟩ (.int .i64 ((rd_TTie l0_1 x3_2).f0))).setCell ⟨gb108, 1, none⟩ (.int .i64 ((rd_TTie l0_1 x3_2).f1)))) := ⟨qb HB.out⟩
 (try clear BK104)
 (try clear BK108)
 (try clear HB)
 generalize ((w22.setCell ⟨gb108, 0, none⟩ (.int .i64 ((rd_TTie l0_1 x3_2).f0))).setCell ⟨gb108, 1, none⟩ (.int .i64 ((rd_TTie l0_1 x3_2).f1))) = w25 at n0_ n1_ n2_ ⊢
 have BK104 := n0_
 have BK108 := n1_
 have HB := n2_
 clear n0_ n1_ n2_
 replace BK104 := q0 (blk_drew BK104.out)
 replace BK108 := q0 (blk_drew BK108.out)
 replace HB := q0 (below_drew1 HB.out)
 have p109 : 0 ≤ ((ji16) : Int) := of_decide_eq_true qa
 have q109 : (ji16) < (l0_1.length : Int) := of_decide_eq_true qa
 obtain ⟨ad109, e109, hx109_0, hx109_1⟩ := at_TTie HR0_1.out (ji16) p109 q109
 have hw109_1 := hx109_1
 have hw109_0 := hx109_0
 obtain rfl : ad107 = ad109 := (by injection e109)
 replace hx109_0 := hcl HB.out hx109_0
 replace hx109_1 := hcl HB.out hx109_1
 replace p109 := eq_true p109
 replace q109 := eq_true q109
 refine start_ (n := 34) (S := fun w' => w'.cell? ⟨gb108, 0, none⟩ = some (.int .i64 ((rd_TTie l0_1 x3_2).f0)) ∧ w'.cell? ⟨gb108, 1, none⟩ = some (.int .i64 ((rd_TTie l0_1 x3_2).f1)) ∧ w'.cell? ⟨gb104, 0, none⟩ = some (.int .i64 a0_0) ∧ w'.cell? ⟨gb104, 1, none⟩ = some (.slice (some ad107) l0_1.length c0_1) ∧ w'.cell? (ad107.add (((ji16)).toNat * 2)) = some (.int .i64 ((rd_TTie l0_1 (ji16)).f0)) ∧ w'.cell? ⟨(ad107.add (((ji16)).toNat * 2)).block, (ad107.add (((ji16)).toNat * 2)).off + 1, none⟩ = some (.int .i64 ((rd_TTie l0_1 (ji16)).f1))) (ds := []) (ba 34 0) (by kernel_rfl) rfl (by kernel_rfl) ⟨bca BK108, bcb BK108, bca BK104, bcb BK104, ((HB.out.cell (World.block_lt_of_cell? w _ hw109_0)).trans hw109_0), ((HB.out.cell (World.block_lt_of_cell? w _ hw109_1)).trans hw109_1)⟩ (fun hHeld => ?_); refine with_tabW spec_NetOk.tab7 spec_NetOk.bits7 (fun HT_ HW_ => ?_)
 generalize w25.drew = w26 at BK104 BK108 HB hx109_0 hx109_1 hHeld ⊢
 refine pU 0 27 34 1 HT_ ?_
 refine pU 2 29 34 5 HT_ ?_
 refine tU 1 28 34 7 HT_ HW_ hHeld ?_
 refine tU 3 30 34 15 HT_ HW_ hHeld ?_
 refine pU 4 31 34 31 HT_ ?_
 refine one_ (i := 5) (N := some 32) (ba 34 63) rfl rfl (one_of HT_.out (by kernel_rfl)) (by decide) (fun K hK => ?_)
 refine goes_ Tryd.func34 (by kernel_rfl) rfl #[.int .i64 ((rd_TTie l0_1 x3_2).f0), .int .i64 0, .int .i64 (wrap64 (a0_0 - 1))] (by rfl) rfl rfl qm ?_
 with_reducible refine (spec_l6In.calls ((rd_TTie l0_1 x3_2).f0) 0 (wrap64 (a0_0 - 1)) true _ A11.out).mono ?_
 rintro e w' ⟨rfl, ⟨nd, rfl⟩⟩
 refine ⟨_, rfl, ?_⟩
 refine hK.out _ _ ⟨bca BK108, bcb BK108, bca BK104, bcb BK104, ((HB.out.cell (World.block_lt_of_cell? w _ hw109_0)).trans hw109_0), ((HB.out.cell (World.block_lt_of_cell? w _ hw109_1)).trans hw109_1)⟩ (fun hHeld => ?_)
 clear hK K
 refine nu 32 ?_
 refine pU 6 33 34 127 HT_ ?_
 refine pU 7 34 34 255 HT_ ?_
 refine pU 8 35 34 511 HT_ ?_
 refine pU 10 37 34 1535 HT_ ?_
 refine pU 13 40 34 9727 HT_ ?_
 refine tU 9 36 34 10239 HT_ HW_ hHeld ?_
 refine tU 11 38 34 12287 HT_ HW_ hHeld ?_
 refine pU 12 39 34 16383 HT_ ?_
 refine tU 14 41 34 32767 HT_ HW_ hHeld ?_
 refine pU 15 42 34 65535 HT_ ?_
 refine one_ (i := 16) (N := some 43) (ba 34 131071) rfl rfl (one_of HT_.out (by kernel_rfl)) (by decide) (fun K hK => ?_)
 refine goes_ Tryd.func34 (by kernel_rfl) rfl #[.int .i64 ((rd_TTie l0_1 x3_2).f1), .int .i64 (wrap64 (((rd_TTie l0_1 x3_2).f0) + 1)), .int .i64 (wrap64 (a0_0 - 1))] (by rfl) rfl rfl qm ?_
 with_reducible refine (spec_l6In.calls ((rd_TTie l0_1 x3_2).f1) (wrap64 (((rd_TTie l0_1 x3_2).f0) + 1)) (wrap64 (a0_0 - 1)) true _ A13.out).mono ?_
 rintro e w' ⟨rfl, ⟨nd, rfl⟩⟩
 refine ⟨_, rfl, ?_⟩
 refine hK.out _ _ ⟨bca BK108, bcb BK108, bca BK104, bcb BK104, ((HB.out.cell (World.block_lt_of_cell? w _ hw109_0)).trans hw109_0), ((HB.out.cell (World.block_lt_of_cell? w _ hw109_1)).trans hw109_1)⟩ (fun hHeld => ?_)
 clear hK K
 refine nu 43 ?_
 refine pU 17 44 34 262143 HT_ ?_
 refine pU 18 45 34 524287 HT_ ?_
 refine pU 19 46 34 1048575 HT_ ?_
 refine pU 20 47 34 2097151 HT_ ?_
 refine pU 21 48 34 4194303 HT_ ?_
 refine pU 22 49 34 8388607 HT_ ?_
 refine pU 23 50 34 16777215 HT_ ?_
 refine pU 25 52 34 50331647 HT_ ?_
 refine pU 26 53 34 117440511 HT_ ?_
 refine tU 24 51 34 134217727 HT_ HW_ hHeld ?_
 refine pU 27 54 34 268435455 HT_ ?_
 refine tU 28 55 34 536870911 HT_ HW_ hHeld ?_
 refine tU 29 56 34 1073741823 HT_ HW_ hHeld ?_
 refine one_ (i := 30) (N := some 57) (ba 34 2147483647) rfl rfl (one_of HT_.out (by kernel_rfl)) (by decide) (fun K hK => ?_)
 refine goes_ Tryd.func35 (by kernel_rfl) rfl #[.agg #[.int .i64 ((rd_TTie l0_1 (ji16)).f0), .int .i64 ((rd_TTie l0_1 (ji16)).f1)], .agg #[.int .i64 ((rd_TTie l0_1 x3_2).f0), .int .i64 ((rd_TTie l0_1 x3_2).f1)]] (by rfl) rfl rfl (by (try simp only [List.map_toArray, List.map_cons, List.map_nil]); first | done | (simp only [hji16]; rfl) | rfl | (simp only [List.length_drop, List.length_take]; rfl)) ?_
 with_reducible refine (spec_l1Less.calls ((rd_TTie l0_1 (ji16)).f0) ((rd_TTie l0_1 (ji16)).f1) ((rd_TTie l0_1 x3_2).f0) ((rd_TTie l0_1 x3_2).f1) true _ A19.out).mono ?_
 rintro e w27 ⟨rfl, hb⟩
 refine ⟨_, rfl, ?_⟩
 replace BK104 := kd BK104 hb
 replace BK108 := kd BK108 hb
 replace HB := bp HB hb
 (try clear hb)
 (try clear hb2)
 (try clear hk)
 (try clear hi)
 refine hK.out _ _ ⟨bca BK108, bcb BK108, bca BK104, bcb BK104, ((HB.out.cell (World.block_lt_of_cell? w _ hw109_0)).trans hw109_0), ((HB.out.cell (World.block_lt_of_cell? w _ hw109_1)).trans hw109_1)⟩ (fun hHeld => ?_)
 clear hK K
 refine nu 57 ?_
 refine pU 31 58 34 4294967295 HT_ ?_
 refine pU 32 59 34 8589934591 HT_ ?_
 refine pU 33 60 34 17179869183 HT_ ?_
 refine done_ (done_of HT_.out (by kernel_rfl)) ?_
 try go_wp2
 go_roundg k2
 case measure => have := HJ1.out; have := HK2.out; omega
 case rel => exact ⟨(wrap64 (x3_2 + 1)), qs, H', ⟨by have := HJ1.out; have := HK2.out; omega⟩, ⟨qk BK104.out⟩, ⟨qb HB.out⟩⟩

def spec_l6Dec.T7 : Bool × List (List Nat × List Nat) := (true, [([], []), ([0], [0]), ([1], [1]), ([], []), ([3], [3]), ([4], [4]), ([5], [5]), ([6], [6]), ([7], [7]), ([2, 8], [2, 8]), ([9, 2, 0, 1, 2, 3, 4, 5, 6, 7, 8, 9], [9])])
def spec_l6Dec.B7 : List Nat := [0, 1, 3, 0, 8, 24, 56, 120, 248, 511, 1023]
theorem spec_l6Dec.tab7 : rtab .any (opsOf Tryd.f32 7) = spec_l6Dec.T7 := by kernel_rfl
theorem spec_l6Dec.bits7 : waitsOk spec_l6Dec.T7.2 spec_l6Dec.B7 = true := by kernel_rfl
set_option maxHeartbeats 8000000 in
set_option maxRecDepth 100000 in
theorem spec_l6Dec.calls (k : Nat) : ∀ (a0 : Int) (r : ByteArray) (w : World) (h : spec_l6Dec.f k a0 = some r),
    Calls Tryd.prog 32 #[.int .i64 a0] w fun e w' => e = .returned (.string r) ∧ Below w.heap.size w w' := by
 induction k using Nat.strongRecOn with
 | _ k ih =>
 intro a0 r w h
 cases k with
 | zero => exact absurd h (by simp [spec_l6Dec.f])
 | succ k =>
 simp only [spec_l6Dec.f] at h
 have HB := q0 (Below.refl w.heap.size w)
 have H : (if a0 < (-9223372036854775807) then (some (⟨#[45, 57, 50, 50, 51, 51, 55, 50, 48, 51, 54, 56, 53, 52, 55, 55, 53, 56, 48, 56]⟩ : ByteArray)) else (if a0 < 0 then ((spec_l6Dec.f k (wrap64 (-a0))).bind fun t100 => (if 1 + t100.size ≤ 9223372036854775807 then (some ((⟨#[45]⟩ : ByteArray) ++ t100)) else (none))) else (if a0 < 10 then (some (strOfNums (([(wrap64 (48 + a0)) % 256] : List Int)))) else ((spec_l6Dec.f k (wrap64 (Int.tdiv a0 10))).bind fun t101 => ((some (([(wrap64 (48 + (Int.tmod a0 10))) % 256] : List Int) : List Int)).bind fun y102 => (if t101.size + (strOfNums y102).size ≤ 9223372036854775807 then (some (t101 ++ (strOfNums y102))) else (none))))))) = some r := h
 clear h
 by_cases c2 : a0 < (-9223372036854775807)
 · rw [if_pos c2] at H
   have c2b0 := decide_eq_true c2
   clear c2
   obtain rfl := Option.some.inj H
   go_enter Tryd.func32, Tryd.ntmps32
   go_wp2
   go_ret
   exact ⟨qe, qb HB.out⟩
 rw [if_neg c2] at H
 have c2b0 := decide_eq_false c2
 clear c2
 by_cases c3 : a0 < 0
 · rw [if_pos c3] at H
   have c3b0 := decide_eq_true c3
   clear c3
   obtain ⟨t100, A4, H⟩ := ob H
   obtain ⟨c5, H⟩ : (1 + t100.size ≤ 9223372036854775807) ∧ _ := og H
   have c5b0 := eq_true c5
   have c5b1 := decide_eq_true c5
   try have c5b2 : (9223372036854775807 < 1 + t100.size) = False := eq_false (Nat.not_lt.2 c5)
   obtain rfl := Option.some.inj H
   go_enter Tryd.func32, Tryd.ntmps32
   go_wp2_with (first | ((with_reducible refine gf 32 ?_); refine gl 9 Tryd.func32 #[.int .i64 (wrap64 (-a0))] ?_; (with_reducible refine (ih k (by omega) (wrap64 (-a0)) t100 _ A4.out).mono ?_); rintro e w6 ⟨rfl, hb⟩; refine ⟨_, rfl, ?_⟩; replace HB := bp HB hb; (try clear hb); (try clear hb2); (try clear hk); (try clear hi)))
   go_ret
   exact ⟨qe, qb HB.out⟩
 rw [if_neg c3] at H
 have c3b0 := decide_eq_false c3
 clear c3
 by_cases c7 : a0 < 10
 · rw [if_pos c7] at H
   have c7b0 := decide_eq_true c7
   clear c7
   obtain ⟨y103, hy103⟩ : ∃ y_ : List Int, y_ = (([(wrap64 (48 + a0)) % 256] : List Int)) := ⟨_, rfl⟩
   replace H : (some (strOfNums y103)) = some r := qy H hy103
   have Ny103 := q0 hy103
   clear hy103
   obtain rfl := Option.some.inj H
   go_enter Tryd.func32, Tryd.ntmps32
   go_wp2_with (first | ((with_reducible refine gd 16 ?_); refine Kd.R_lit (Kd.int .u8) _ 5 ?hg (N := 16) ?hd (xs := ([(wrap64 (48 + a0)) % 256] : List Int)) (inner := [.int .u8 ((wrap64 (48 + a0)) % 256)]) (ok := fun _ => True) (okp := fun _ => True) ?hr ?hp (fun _ hk => hk) trivial (Below.refl _ _) (Nat.le_refl _) (by simp) ?_; (case hd => rfl); (case hg => rfl); (case hr => first | (go_simp; done) | (go_simp; rfl)); (case hp => exact (Reps.one (show Kd.M (Kd.int .u8) _ _ _ ((wrap64 (48 + a0)) % 256) [.int .u8 ((wrap64 (48 + a0)) % 256)] from rfl) (Reps.none _ _))); intro v104 w8 ho9 hb hg_ hnew_; clear hg_ hnew_; (first | rw [← Ny103.out] at ho9 | (simp only [Int.reduceToNat] at ho9; rw [← Ny103.out] at ho9)); have HO105 := q0 (Kd.R_lower ho9 (below_size (qb HB.out))); replace HB := bp HB hb; clear hb ho9; have hcv10 := own_string (P := Tryd.prog) Tryd.underlying30 Tryd.underlying5 Tryd.underlying9 (Kd.own_of_R HO105.out)))
   go_ret
   exact ⟨qe, qb HB.out⟩
 rw [if_neg c7] at H
 have c7b0 := decide_eq_false c7
 clear c7
 obtain ⟨t101, A11, H⟩ := ob H
 obtain ⟨y102, hy102⟩ : ∃ y_ : List Int, y_ = (([(wrap64 (48 + (Int.tmod a0 10))) % 256] : List Int)) := ⟨_, rfl⟩
 replace H : (if t101.size + (strOfNums y102).size ≤ 9223372036854775807 then (some (t101 ++ (strOfNums y102))) else (none)) = some r := qy H hy102
 have Ny102 := q0 hy102
 clear hy102
 obtain ⟨c12, H⟩ : (t101.size + (strOfNums y102).size ≤ 9223372036854775807) ∧ _ := og H
 have c12b0 := eq_true c12
 have c12b1 := decide_eq_true c12
 try have c12b2 : (9223372036854775807 < t101.size + (strOfNums y102).size) = False := eq_false (Nat.not_lt.2 c12)
 obtain rfl := Option.some.inj H
 go_enter Tryd.func32, Tryd.ntmps32
 try go_wp2
 replace HB := q0 (below_drew1 HB.out)
 refine start_ (n := 11) (S := fun w' => True) (ds := []) (ba 11 0) (by kernel_rfl) rfl (by kernel_rfl) trivial (fun hHeld => ?_); refine with_tabW spec_l6Dec.tab7 spec_l6Dec.bits7 (fun HT_ HW_ => ?_)
 generalize w.drew = w13 at HB hHeld ⊢
 refine pU 0 18 11 1 HT_ ?_
 refine pU 1 19 11 3 HT_ ?_
 refine pU 3 21 11 11 HT_ ?_
 refine pU 4 22 11 27 HT_ ?_
 refine pU 5 23 11 59 HT_ ?_
 refine pU 6 24 11 123 HT_ ?_
 refine join_ (σ := Value) 2 (ba 11 511) (fun s_ => [(20, .string t101), (25, s_), (26, .string (strOfNums y102))]) (fun s_ w' => (Kd.R (Kd.int .u8) 5 w' w.heap.size (fun _ => True) s_ y102) ∧ (Below w.heap.size w w')) ?_ ?_
 rotate_left
 · intro hCont
   refine two_ (i := 2) (j := 7) (Ni := some 20) (Nj := some 25) (ba 11 127) (ba 11 251) rfl rfl rfl rfl (two_of HT_.out (by kernel_rfl)) (by decide) (by decide) (fun K hK => ?_) (fun K hK => ?_)
   · skip
     refine goes_ Tryd.func32 (by kernel_rfl) rfl #[.int .i64 (wrap64 (Int.tdiv a0 10))] (by rfl) rfl rfl qm ?_
     with_reducible refine (ih k (by omega) (wrap64 (Int.tdiv a0 10)) t101 _ A11.out).mono ?_
     rintro e w14 ⟨rfl, hb⟩
     refine ⟨_, rfl, ?_⟩
     replace HB := bp HB hb
     (try clear hb)
     (try clear hb2)
     (try clear hk)
     (try clear hi)
     refine hK.out _ _ trivial (fun hHeld => ?_)
     clear hK K
     refine nu 20 ?_
     refine one_ (i := 7) (N := some 25) (ba 11 255) rfl rfl (one_of HT_.out (by kernel_rfl)) (by decide) (fun K hK => ?_)
     refine Kd.R_lit_step (Kd.int .u8) _ 5 ?hg (N := 25) ?hd (xs := ([(wrap64 (48 + (Int.tmod a0 10))) % 256] : List Int)) (inner := [.int .u8 ((wrap64 (48 + (Int.tmod a0 10))) % 256)]) (ok := fun _ => True) (okp := fun _ => True) ?hr ?hp (fun _ hk => hk) trivial (Below.refl _ _) (Nat.le_refl _) (by simp) ?_; (case hd => rfl); (case hg => rfl); (case hr => first | (go_simp; done) | (go_simp; rfl)); (case hp => exact (Reps.one (show Kd.M (Kd.int .u8) _ _ _ ((wrap64 (48 + (Int.tmod a0 10))) % 256) [.int .u8 ((wrap64 (48 + (Int.tmod a0 10))) % 256)] from rfl) (Reps.none _ _)))
     intro v107 w15 ho16 hb hg_ hnew_
     clear hg_ hnew_
     (first | rw [← Ny102.out] at ho16 | (simp only [Int.reduceToNat] at ho16; rw [← Ny102.out] at ho16))
     have HO108 := q0 (Kd.R_lower ho16 (below_size (qb HB.out)))
     replace HB := bp HB hb
     clear hb ho16
     refine hK.out _ _ trivial (fun hHeld => ?_)
     clear hK K
     refine nu 25 ?_
     refine one_ (i := 8) (N := some 26) (ba 11 511) rfl rfl (one_of HT_.out (by kernel_rfl)) (by decide) (fun K hK => ?_)
     have hcv17 := own_string (P := Tryd.prog) Tryd.underlying30 Tryd.underlying5 Tryd.underlying9 (Kd.own_of_R HO108.out)
     refine value_ (w1 := ?_) (v := ?_) (by rfl) rfl ?_ ?_
     rotate_left 2
     · go_simp
       constructor
       · rfl
       · rfl
     clear hcv17
     refine hK.out _ _ trivial (fun hHeld => ?_)
     clear hK K
     refine nu 26 ?_
     exact norm_ (by simp only [putAll, Act.put, List.setIfInBounds_toArray, List.set_cons_zero, List.set_cons_succ]) (hCont (v107) _ ⟨(qr HO108.out), (qb HB.out)⟩)
   · skip
     refine Kd.R_lit_step (Kd.int .u8) _ 5 ?hg (N := 25) ?hd (xs := ([(wrap64 (48 + (Int.tmod a0 10))) % 256] : List Int)) (inner := [.int .u8 ((wrap64 (48 + (Int.tmod a0 10))) % 256)]) (ok := fun _ => True) (okp := fun _ => True) ?hr ?hp (fun _ hk => hk) trivial (Below.refl _ _) (Nat.le_refl _) (by simp) ?_; (case hd => rfl); (case hg => rfl); (case hr => first | (go_simp; done) | (go_simp; rfl)); (case hp => exact (Reps.one (show Kd.M (Kd.int .u8) _ _ _ ((wrap64 (48 + (Int.tmod a0 10))) % 256) [.int .u8 ((wrap64 (48 + (Int.tmod a0 10))) % 256)] from rfl) (Reps.none _ _)))
     intro v107 w14 ho15 hb hg_ hnew_
     clear hg_ hnew_
     (first | rw [← Ny102.out] at ho15 | (simp only [Int.reduceToNat] at ho15; rw [← Ny102.out] at ho15))
     have HO108 := q0 (Kd.R_lower ho15 (below_size (qb HB.out)))
     replace HB := bp HB hb
     clear hb ho15
     refine hK.out _ _ trivial (fun hHeld => ?_)
     clear hK K
     refine nu 25 ?_
     refine two_ (i := 2) (j := 8) (Ni := some 20) (Nj := some 26) (ba 11 255) (ba 11 507) rfl rfl rfl rfl (two_of HT_.out (by kernel_rfl)) (by decide) (by decide) (fun K hK => ?_) (fun K hK => ?_)
     · skip
       refine goes_ Tryd.func32 (by kernel_rfl) rfl #[.int .i64 (wrap64 (Int.tdiv a0 10))] (by rfl) rfl rfl qm ?_
       with_reducible refine (ih k (by omega) (wrap64 (Int.tdiv a0 10)) t101 _ A11.out).mono ?_
       rintro e w16 ⟨rfl, hb⟩
       refine ⟨_, rfl, ?_⟩
       replace HO108 := q0 (Kd.R_below (qr HO108.out) hb)
       replace HB := bp HB hb
       (try clear hb)
       (try clear hb2)
       (try clear hk)
       (try clear hi)
       refine hK.out _ _ trivial (fun hHeld => ?_)
       clear hK K
       refine nu 20 ?_
       refine one_ (i := 8) (N := some 26) (ba 11 511) rfl rfl (one_of HT_.out (by kernel_rfl)) (by decide) (fun K hK => ?_)
       have hcv17 := own_string (P := Tryd.prog) Tryd.underlying30 Tryd.underlying5 Tryd.underlying9 (Kd.own_of_R HO108.out)
       refine value_ (w1 := ?_) (v := ?_) (by rfl) rfl ?_ ?_
       rotate_left 2
       · go_simp
         constructor
         · rfl
         · rfl
       clear hcv17
       refine hK.out _ _ trivial (fun hHeld => ?_)
       clear hK K
       refine nu 26 ?_
       exact norm_ (by simp only [putAll, Act.put, List.setIfInBounds_toArray, List.set_cons_zero, List.set_cons_succ]) (hCont (v107) _ ⟨(qr HO108.out), (qb HB.out)⟩)
     · skip
       have hcv16 := own_string (P := Tryd.prog) Tryd.underlying30 Tryd.underlying5 Tryd.underlying9 (Kd.own_of_R HO108.out)
       refine value_ (w1 := ?_) (v := ?_) (by rfl) rfl ?_ ?_
       rotate_left 2
       · go_simp
         constructor
         · rfl
         · rfl
       clear hcv16
       refine hK.out _ _ trivial (fun hHeld => ?_)
       clear hK K
       refine nu 26 ?_
       refine one_ (i := 2) (N := some 20) (ba 11 511) rfl rfl (one_of HT_.out (by kernel_rfl)) (by decide) (fun K hK => ?_)
       refine goes_ Tryd.func32 (by kernel_rfl) rfl #[.int .i64 (wrap64 (Int.tdiv a0 10))] (by rfl) rfl rfl qm ?_
       with_reducible refine (ih k (by omega) (wrap64 (Int.tdiv a0 10)) t101 _ A11.out).mono ?_
       rintro e w17 ⟨rfl, hb⟩
       refine ⟨_, rfl, ?_⟩
       replace HO108 := q0 (Kd.R_below (qr HO108.out) hb)
       replace HB := bp HB hb
       (try clear hb)
       (try clear hb2)
       (try clear hk)
       (try clear hi)
       refine hK.out _ _ trivial (fun hHeld => ?_)
       clear hK K
       refine nu 20 ?_
       exact norm_ (by simp only [putAll, Act.put, List.setIfInBounds_toArray, List.set_cons_zero, List.set_cons_succ]) (hCont (v107) _ ⟨(qr HO108.out), (qb HB.out)⟩)
 rintro v107 w18 ⟨h0_, h1_⟩
 have n0_ : Aside0 (Kd.R (Kd.int .u8) 5 w18 w.heap.size (fun _ => True) v107 y102) := ⟨h0_⟩
 have n1_ : Aside0 (Below w.heap.size w w18) := ⟨h1_⟩
 clear HB
 clear h0_ h1_
 have HO108 := n0_
 have HB := n1_
 clear n0_ n1_
 have hHeld := trivial
 refine norm_ (a' := ?_) ?_ ?_
 rotate_left
 · simp only [putAll, Act.put, List.setIfInBounds_toArray, List.set_cons_zero, List.set_cons_succ]
   rfl
 refine pU 9 27 11 1023 HT_ ?_
 refine pU 10 2 11 2047 HT_ ?_
 refine done_ (done_of HT_.out (by kernel_rfl)) ?_
 try go_wp2
 go_ret
 exact ⟨qe, qb HB.out⟩

def spec_NetWrite.T7 : Bool × List (List Nat × List Nat) := (true, [([], []), ([0], [0]), ([], []), ([2], [2]), ([], []), ([3, 4], [3, 4]), ([5], [5]), ([6], [6]), ([7], [7]), ([1, 8], [1, 8]), ([9], [9]), ([], []), ([11], [11]), ([], []), ([12, 13], [12, 13]), ([14], [14]), ([15], [15]), ([16, 8], [16]), ([10, 17], [10, 17]), ([18], [18]), ([19, 17, 0, 1, 2, 3, 4, 5, 6, 7, 8, 9, 10, 11, 12, 13, 14, 15, 16, 17, 18, 19], [0, 19])])
def spec_NetWrite.B7 : List Nat := [0, 1, 0, 4, 0, 28, 60, 124, 252, 511, 1023, 0, 2048, 0, 14336, 30720, 63488, 129532, 262143, 524287, 1048575]
theorem spec_NetWrite.tab7 : rtab .any (opsOf Tryd.f15 7) = spec_NetWrite.T7 := by kernel_rfl
theorem spec_NetWrite.bits7 : waitsOk spec_NetWrite.T7.2 spec_NetWrite.B7 = true := by kernel_rfl
set_option maxHeartbeats 8000000 in
set_option maxRecDepth 100000 in
theorem spec_NetWrite.calls (k : Nat) (a0_0 : Int) (A0_1 : Option Addr) (c0_1 : Nat) (l0_1 : List (STie)) (r : ByteArray) (w : World) (hr0_1 : Kd.C kTie w A0_1 l0_1.length l0_1) (hc0_1 : l0_1.length ≤ c0_1) (h : spec_NetWrite.f k a0_0 l0_1 = some r) :
    Calls Tryd.prog 15 #[.agg #[.int .i64 a0_0, .slice A0_1 l0_1.length c0_1]] w fun e w' => e = .returned (.string r) ∧ Below w.heap.size w w' := by
 have hu24 := Tryd.underlying24
 have HR0_1 := q0 hr0_1
 have HC0_1 := q0 hc0_1
 clear hr0_1 hc0_1
 have HB := q0 (Below.refl w.heap.size w)
 have H : ((spec_NetOk.f k a0_0 l0_1).bind fun t100 => (if t100 = true then ((spec_l6Dec.f k a0_0).bind fun t103 => (if 6 + t103.size ≤ 9223372036854775807 then (if ((⟨#[107, 110, 111, 116, 115, 32]⟩ : ByteArray) ++ t103).size + 1 ≤ 9223372036854775807 then (spec_NetWrite.l0 k (((⟨#[107, 110, 111, 116, 115, 32]⟩ : ByteArray) ++ t103) ++ (⟨#[10]⟩ : ByteArray)) 0 a0_0 l0_1) else (none)) else (none))) else (some (⟨#[]⟩ : ByteArray)))) = some r := h
 clear h
 obtain ⟨t100, A2, H⟩ := ob H
 by_cases c3 : t100 = true
 rotate_left
 · replace c3 := Bool.eq_false_iff.mpr c3
   subst c3
   rw [if_neg nf] at H
   obtain rfl := Option.some.inj H
   go_enter Tryd.func15, Tryd.ntmps15
   go_wp2_with (first | ((with_reducible refine gd 1 ?_); refine be 1 #[.int .i64 a0_0, .slice A0_1 l0_1.length c0_1] 24 ?_; intro gb104 hg w26 hbox hb; have BK104 := q0 (hbox); have GW104 := gw HB hg; have GE104 := gw HB hg; replace HB := bp HB hb; clear hb hbox hg; obtain ⟨hcz27_0, hcz27_1, hfz27_0, hfz27_1⟩ := b2 BK104) | ((with_reducible refine gf 17 ?_); refine gl 6 Tryd.func17 #[.agg #[.int .i64 a0_0, .slice A0_1 l0_1.length c0_1]] ?_; (with_reducible refine (spec_NetOk.calls k a0_0 _ _ l0_1 false _ ?side1 ?side2 A2.out).mono ?_); (case side1 => exact qc (Kd.C_below HR0_1.out HB.out)); (case side2 => exact HC0_1.out); rintro e w28 ⟨rfl, hb⟩; refine ⟨_, rfl, ?_⟩; replace BK104 := kd BK104 hb; replace HB := bp HB hb; (try clear hb); (try clear hb2); (try clear hk); (try clear hi)))
   go_ret
   exact ⟨qe, qb HB.out⟩
 subst c3
 rw [if_pos rfl] at H
 obtain ⟨t103, A4, H⟩ := ob H
 obtain ⟨c5, H⟩ : (6 + t103.size ≤ 9223372036854775807) ∧ _ := og H
 have c5b0 := eq_true c5
 have c5b1 := decide_eq_true c5
 try have c5b2 : (9223372036854775807 < 6 + t103.size) = False := eq_false (Nat.not_lt.2 c5)
 obtain ⟨c6, H⟩ : (((⟨#[107, 110, 111, 116, 115, 32]⟩ : ByteArray) ++ t103).size + 1 ≤ 9223372036854775807) ∧ _ := og H
 have c6b0 := eq_true c6
 have c6b1 := decide_eq_true c6
 try have c6b2 : (9223372036854775807 < ((⟨#[107, 110, 111, 116, 115, 32]⟩ : ByteArray) ++ t103).size + 1) = False := eq_false (Nat.not_lt.2 c6)
 try have c6b7 : (9223372036854775807 < 6 + t103.size + 1) = False := by have h_ := c6; simp only [ByteArray.size_append] at h_; exact eq_false (Nat.not_lt.2 h_)
 have H' := q0 H
 clear H
 go_enter Tryd.func15, Tryd.ntmps15
 go_wp2_with (first | ((with_reducible refine gd 1 ?_); refine be 1 #[.int .i64 a0_0, .slice A0_1 l0_1.length c0_1] 24 ?_; intro gb104 hg w7 hbox hb; have BK104 := q0 (hbox); have GW104 := gw HB hg; have GE104 := gw HB hg; replace HB := bp HB hb; clear hb hbox hg; obtain ⟨hcz8_0, hcz8_1, hfz8_0, hfz8_1⟩ := b2 BK104) | ((with_reducible refine gf 17 ?_); refine gl 6 Tryd.func17 #[.agg #[.int .i64 a0_0, .slice A0_1 l0_1.length c0_1]] ?_; (with_reducible refine (spec_NetOk.calls k a0_0 _ _ l0_1 true _ ?side1 ?side2 A2.out).mono ?_); (case side1 => exact qc (Kd.C_below HR0_1.out HB.out)); (case side2 => exact HC0_1.out); rintro e w9 ⟨rfl, hb⟩; refine ⟨_, rfl, ?_⟩; replace BK104 := kd BK104 hb; replace HB := bp HB hb; (try clear hb); (try clear hb2); (try clear hk); (try clear hi); obtain ⟨hcz10_0, hcz10_1, hfz10_0, hfz10_1⟩ := b2 BK104) | ((with_reducible refine gf 32 ?_); refine gl 10 Tryd.func32 #[.int .i64 a0_0] ?_; (with_reducible refine (spec_l6Dec.calls k a0_0 t103 _ A4.out).mono ?_); rintro e w11 ⟨rfl, hb⟩; refine ⟨_, rfl, ?_⟩; replace BK104 := kd BK104 hb; replace HB := bp HB hb; (try clear hb); (try clear hb2); (try clear hk); (try clear hi)))
 go_loopg [3, 4] k (fun kq v3 v4 w' => ∃ (x3_1 : ByteArray) (x4_1 : Int), v3 = .string x3_1 ∧ v4 = .int .i64 x4_1 ∧ Aside0 (spec_NetWrite.l0 kq x3_1 x4_1 a0_0 l0_1 = some r) ∧ Aside0 (kq ≤ k) ∧ Aside0 (w'.heap[gb104]? = some (.cells #[.int .i64 a0_0, (.slice A0_1 l0_1.length c0_1)] 24 (0, 0))) ∧ Aside0 (Below w.heap.size w w'))
 case atStart => exact ⟨(((⟨#[107, 110, 111, 116, 115, 32]⟩ : ByteArray) ++ t103) ++ (⟨#[10]⟩ : ByteArray)), (0), qs, qs, H', ⟨Nat.le_refl _⟩, ⟨qk BK104.out⟩, ⟨qb HB.out⟩⟩
 clear H'
 try clear c1
 try clear p2
 try clear c3
 try clear c5
 try clear c5b0
 try clear c5b1
 try clear c5b2
 try clear c6
 try clear c6b0
 try clear c6b1
 try clear c6b2
 try clear hcz10_0
 try clear hcz10_1
 try clear hcz8_0
 try clear hcz8_1
 try clear hfz10_0
 try clear hfz10_1
 try clear hfz8_0
 try clear hfz8_1
 obtain ⟨x3_1, x4_1, rfl, rfl, HA, HK1, BK104, HB⟩ := hrel
 rcases gk with _ | k1
 · exact absurd HA.out (by simp [spec_NetWrite.l0])
 have H := HA.out
 clear HA
 simp only [spec_NetWrite.l0] at H
 by_cases c12 : x4_1 < (l0_1.length : Int)
 rotate_left
 · rw [if_neg c12] at H
   have c12b0 := decide_eq_false c12
   clear c12
   obtain rfl := Option.some.inj H
   obtain ⟨hcz25_0, hcz25_1, hfz25_0, hfz25_1⟩ := b2 BK104
   go_wp2
   go_ret
   exact ⟨qe, qb HB.out⟩
 rw [if_pos c12] at H
 have c12b0 := decide_eq_true c12
 clear c12
 obtain ⟨c13, H⟩ : (x3_1.size + 4 ≤ 9223372036854775807) ∧ _ := og H
 have c13b0 := eq_true c13
 have c13b1 := decide_eq_true c13
 try have c13b2 : (9223372036854775807 < x3_1.size + 4) = False := eq_false (Nat.not_lt.2 c13)
 obtain ⟨c14, H⟩ : (0 ≤ x4_1) ∧ _ := og H
 have c14b0 := decide_eq_true c14
 clear c14
 obtain ⟨t101, A15, H⟩ := ob H
 obtain ⟨c16, H⟩ : ((x3_1 ++ (⟨#[116, 105, 101, 32]⟩ : ByteArray)).size + t101.size ≤ 9223372036854775807) ∧ _ := og H
 have c16b0 := eq_true c16
 have c16b1 := decide_eq_true c16
 try have c16b2 : (9223372036854775807 < (x3_1 ++ (⟨#[116, 105, 101, 32]⟩ : ByteArray)).size + t101.size) = False := eq_false (Nat.not_lt.2 c16)
 try have c16b7 : (9223372036854775807 < x3_1.size + 4 + t101.size) = False := by have h_ := c16; simp only [ByteArray.size_append] at h_; exact eq_false (Nat.not_lt.2 h_)
 obtain ⟨c17, H⟩ : (((x3_1 ++ (⟨#[116, 105, 101, 32]⟩ : ByteArray)) ++ t101).size + 1 ≤ 9223372036854775807) ∧ _ := og H
 have c17b0 := eq_true c17
 have c17b1 := decide_eq_true c17
 try have c17b2 : (9223372036854775807 < ((x3_1 ++ (⟨#[116, 105, 101, 32]⟩ : ByteArray)) ++ t101).size + 1) = False := eq_false (Nat.not_lt.2 c17)
 try have c17b7 : (9223372036854775807 < x3_1.size + 4 + t101.size + 1) = False := by have h_ := c17; simp only [ByteArray.size_append] at h_; exact eq_false (Nat.not_lt.2 h_)
 obtain ⟨t102, A18, H⟩ := ob H
 obtain ⟨c19, H⟩ : ((((x3_1 ++ (⟨#[116, 105, 101, 32]⟩ : ByteArray)) ++ t101) ++ (⟨#[32]⟩ : ByteArray)).size + t102.size ≤ 9223372036854775807) ∧ _ := og H
 have c19b0 := eq_true c19
 have c19b1 := decide_eq_true c19
 try have c19b2 : (9223372036854775807 < (((x3_1 ++ (⟨#[116, 105, 101, 32]⟩ : ByteArray)) ++ t101) ++ (⟨#[32]⟩ : ByteArray)).size + t102.size) = False := eq_false (Nat.not_lt.2 c19)
 try have c19b7 : (9223372036854775807 < x3_1.size + 4 + t101.size + 1 + t102.size) = False := by have h_ := c19; simp only [ByteArray.size_append] at h_; exact eq_false (Nat.not_lt.2 h_)
 obtain ⟨c20, H⟩ : (((((x3_1 ++ (⟨#[116, 105, 101, 32]⟩ : ByteArray)) ++ t101) ++ (⟨#[32]⟩ : ByteArray)) ++ t102).size + 1 ≤ 9223372036854775807) ∧ _ := og H
 have c20b0 := eq_true c20
 have c20b1 := decide_eq_true c20
 try have c20b2 : (9223372036854775807 < ((((x3_1 ++ (⟨#[116, 105, 101, 32]⟩ : ByteArray)) ++ t101) ++ (⟨#[32]⟩ : ByteArray)) ++ t102).size + 1) = False := eq_false (Nat.not_lt.2 c20)
 try have c20b7 : (9223372036854775807 < x3_1.size + 4 + t101.size + 1 + t102.size + 1) = False := by have h_ := c20; simp only [ByteArray.size_append] at h_; exact eq_false (Nat.not_lt.2 h_)
 have H' := q0 H
 clear H
 obtain ⟨hcz21_0, hcz21_1, hfz21_0, hfz21_1⟩ := b2 BK104
 try go_wp2
 replace BK104 := q0 (blk_drew BK104.out)
 replace HB := q0 (below_drew1 HB.out)
 have p107 : 0 ≤ (x4_1 : Int) := of_decide_eq_true qa
 have q107 : x4_1 < (l0_1.length : Int) := of_decide_eq_true qa
 obtain ⟨ad107, e107, hx107_0, hx107_1⟩ := at_TTie HR0_1.out x4_1 p107 q107
 have hw107_1 := hx107_1
 have hw107_0 := hx107_0
 cases e107
 replace hx107_0 := hcl HB.out hx107_0
 replace hx107_1 := hcl HB.out hx107_1
 replace p107 := eq_true p107
 replace q107 := eq_true q107
 have p108 : 0 ≤ (x4_1 : Int) := of_decide_eq_true qa
 have q108 : x4_1 < (l0_1.length : Int) := of_decide_eq_true qa
 obtain ⟨ad108, e108, hx108_0, hx108_1⟩ := at_TTie HR0_1.out x4_1 p108 q108
 have hw108_1 := hx108_1
 have hw108_0 := hx108_0
 obtain rfl : ad107 = ad108 := (by injection e108)
 replace hx108_0 := hcl HB.out hx108_0
 replace hx108_1 := hcl HB.out hx108_1
 replace p108 := eq_true p108
 replace q108 := eq_true q108
 refine start_ (n := 21) (S := fun w' => w'.cell? ⟨gb104, 0, none⟩ = some (.int .i64 a0_0) ∧ w'.cell? ⟨gb104, 1, none⟩ = some (.slice (some ad107) l0_1.length c0_1) ∧ w'.cell? (ad107.add ((x4_1).toNat * 2)) = some (.int .i64 ((rd_TTie l0_1 x4_1).f0)) ∧ w'.cell? ⟨(ad107.add ((x4_1).toNat * 2)).block, (ad107.add ((x4_1).toNat * 2)).off + 1, none⟩ = some (.int .i64 ((rd_TTie l0_1 x4_1).f1)) ∧ w'.cell? (ad107.add ((x4_1).toNat * 2)) = some (.int .i64 ((rd_TTie l0_1 x4_1).f0)) ∧ w'.cell? ⟨(ad107.add ((x4_1).toNat * 2)).block, (ad107.add ((x4_1).toNat * 2)).off + 1, none⟩ = some (.int .i64 ((rd_TTie l0_1 x4_1).f1))) (ds := []) (ba 21 0) (by kernel_rfl) rfl (by kernel_rfl) ⟨bca BK104, bcb BK104, ((HB.out.cell (World.block_lt_of_cell? w _ hw107_0)).trans hw107_0), ((HB.out.cell (World.block_lt_of_cell? w _ hw107_1)).trans hw107_1), ((HB.out.cell (World.block_lt_of_cell? w _ hw108_0)).trans hw108_0), ((HB.out.cell (World.block_lt_of_cell? w _ hw108_1)).trans hw108_1)⟩ (fun hHeld => ?_); refine with_tabW spec_NetWrite.tab7 spec_NetWrite.bits7 (fun HT_ HW_ => ?_)
 generalize wr.drew = w22 at BK104 HB hx107_0 hx107_1 hx108_0 hx108_1 hHeld ⊢
 refine pU 0 20 21 1 HT_ ?_
 refine pU 1 21 21 3 HT_ ?_
 refine pU 2 22 21 7 HT_ ?_
 refine pU 4 24 21 23 HT_ ?_
 refine pU 11 31 21 2071 HT_ ?_
 refine pU 13 33 21 10263 HT_ ?_
 refine tU 3 23 21 10271 HT_ HW_ hHeld ?_
 refine pU 5 25 21 10303 HT_ ?_
 refine pU 6 26 21 10367 HT_ ?_
 refine tU 7 27 21 10495 HT_ HW_ hHeld ?_
 refine tU 12 32 21 14591 HT_ HW_ hHeld ?_
 refine pU 14 34 21 30975 HT_ ?_
 refine pU 15 35 21 63743 HT_ ?_
 refine tU 16 36 21 129279 HT_ HW_ hHeld ?_
 refine one_ (i := 8) (N := some 28) (ba 21 129535) rfl rfl (one_of HT_.out (by kernel_rfl)) (by decide) (fun K hK => ?_)
 refine goes_ Tryd.func32 (by kernel_rfl) rfl #[.int .i64 ((rd_TTie l0_1 x4_1).f0)] (by rfl) rfl rfl qm ?_
 with_reducible refine (spec_l6Dec.calls k1 ((rd_TTie l0_1 x4_1).f0) t101 _ A15.out).mono ?_
 rintro e w23 ⟨rfl, hb⟩
 refine ⟨_, rfl, ?_⟩
 replace BK104 := kd BK104 hb
 replace HB := bp HB hb
 (try clear hb)
 (try clear hb2)
 (try clear hk)
 (try clear hi)
 refine hK.out _ _ ⟨bca BK104, bcb BK104, ((HB.out.cell (World.block_lt_of_cell? w _ hw107_0)).trans hw107_0), ((HB.out.cell (World.block_lt_of_cell? w _ hw107_1)).trans hw107_1), ((HB.out.cell (World.block_lt_of_cell? w _ hw108_0)).trans hw108_0), ((HB.out.cell (World.block_lt_of_cell? w _ hw108_1)).trans hw108_1)⟩ (fun hHeld => ?_)
 clear hK K
 refine nu 28 ?_
 refine pU 9 29 21 130047 HT_ ?_
 refine pU 10 30 21 131071 HT_ ?_
 refine one_ (i := 17) (N := some 37) (ba 21 262143) rfl rfl (one_of HT_.out (by kernel_rfl)) (by decide) (fun K hK => ?_)
 refine goes_ Tryd.func32 (by kernel_rfl) rfl #[.int .i64 ((rd_TTie l0_1 x4_1).f1)] (by rfl) rfl rfl qm ?_
 with_reducible refine (spec_l6Dec.calls k1 ((rd_TTie l0_1 x4_1).f1) t102 _ A18.out).mono ?_
 rintro e w24 ⟨rfl, hb⟩
 refine ⟨_, rfl, ?_⟩
 replace BK104 := kd BK104 hb
 replace HB := bp HB hb
 (try clear hb)
 (try clear hb2)
 (try clear hk)
 (try clear hi)
 refine hK.out _ _ ⟨bca BK104, bcb BK104, ((HB.out.cell (World.block_lt_of_cell? w _ hw107_0)).trans hw107_0), ((HB.out.cell (World.block_lt_of_cell? w _ hw107_1)).trans hw107_1), ((HB.out.cell (World.block_lt_of_cell? w _ hw108_0)).trans hw108_0), ((HB.out.cell (World.block_lt_of_cell? w _ hw108_1)).trans hw108_1)⟩ (fun hHeld => ?_)
 clear hK K
 refine nu 37 ?_
 refine pU 18 38 21 524287 HT_ ?_
 refine pU 19 39 21 1048575 HT_ ?_
 refine pU 20 3 21 2097151 HT_ ?_
 refine done_ (done_of HT_.out (by kernel_rfl)) ?_
 try go_wp2
 go_roundg k1
 case measure => have := HK1.out; omega
 case rel => exact ⟨(((((x3_1 ++ (⟨#[116, 105, 101, 32]⟩ : ByteArray)) ++ t101) ++ (⟨#[32]⟩ : ByteArray)) ++ t102) ++ (⟨#[10]⟩ : ByteArray)), (wrap64 (x4_1 + 1)), qs, qs, H', ⟨by have := HK1.out; omega⟩, ⟨qk BK104.out⟩, ⟨qb HB.out⟩⟩

set_option maxHeartbeats 8000000 in
set_option maxRecDepth 100000 in
theorem cmp_Or_int.calls (k : Nat) (A0 : Option Addr) (c0 : Nat) (l0 : List Int) (r : Int) (w : World) (hr0 : Kd.C (Kd.int .i64) w A0 l0.length l0) (hc0 : l0.length ≤ c0) (h : cmp_Or_int.f k l0 = some r) :
    Calls Tryd.prog 62 #[.slice A0 l0.length c0] w fun e w' => e = .returned (.int .i64 r) ∧ Drawn0 w w' := by
 have HR0 := q0 hr0
 have HC0 := q0 hc0
 clear hr0 hc0
 have H : (cmp_Or_int.l0 k 0 l0 (l0.length : Int) 0) = some r := h
 clear h
 have H' := q0 H
 clear H
 go_enter Tryd.func62, Tryd.ntmps62
 go_wp2
 go_loopg [8] k (fun kq v8 w' => ∃ (x8_1 : Int), v8 = .int .i64 x8_1 ∧ Aside0 (cmp_Or_int.l0 kq 0 l0 (l0.length : Int) x8_1 = some r) ∧ Aside0 (kq ≤ k) ∧ Drawn0 w w')
 case atStart => exact ⟨(0), qs, H', ⟨Nat.le_refl _⟩, by repeat (first | exact Drawn0.refl _ | apply Drawn0.step)⟩
 clear H'
 obtain ⟨x8_1, rfl, HA, HK1, ⟨m1, rfl⟩⟩ := hrel
 rcases gk with _ | k1
 · exact absurd HA.out (by simp [cmp_Or_int.l0])
 have H := HA.out
 clear HA
 simp only [cmp_Or_int.l0] at H
 by_cases c2 : x8_1 < (l0.length : Int)
 rotate_left
 · rw [if_neg c2] at H
   have c2b0 := decide_eq_false c2
   clear c2
   obtain rfl := Option.some.inj H
   go_wp2
   go_ret
   exact ⟨by first | rfl | (simp; done) | (simp [*]; done), by repeat (first | exact Drawn0.refl _ | apply Drawn0.step)⟩
 rw [if_pos c2] at H
 have c2b0 := decide_eq_true c2
 clear c2
 obtain ⟨c3, H⟩ : (0 ≤ x8_1) ∧ _ := og H
 have c3b0 := decide_eq_true c3
 clear c3
 obtain ⟨c4, H⟩ : (x8_1 < (l0.length : Int)) ∧ _ := og H
 have c4b0 := decide_eq_true c4
 clear c4
 by_cases c5 : (rd l0 x8_1) = 0
 rotate_left
 · rw [if_neg c5] at H
   have c5b0 : ((rd l0 x8_1) == 0) = false := beq_eq_false_iff_ne.mpr c5
   have c5b1 : ((rd l0 x8_1) != 0) = true := bne_iff_ne.mpr c5
   obtain rfl := Option.some.inj H
   have p100 : 0 ≤ (x8_1 : Int) := of_decide_eq_true qa
   have q100 : x8_1 < (l0.length : Int) := of_decide_eq_true qa
   obtain ⟨ad100, e100, hx100_0⟩ := Kd.at_int HR0.out x8_1 p100 q100
   cases e100
   replace p100 := eq_true p100
   replace q100 := eq_true q100
   go_wp2
   go_ret
   exact ⟨by first | rfl | (simp; done) | (simp [*]; done), by repeat (first | exact Drawn0.refl _ | apply Drawn0.step)⟩
 rw [if_pos c5] at H
 have c5b0 : ((rd l0 x8_1) == 0) = true := beq_iff_eq.mpr c5
 have c5b1 : ((rd l0 x8_1) != 0) = false := bne_eq_false_iff_eq.mpr c5
 clear c5
 have H' := q0 H
 clear H
 have p100 : 0 ≤ (x8_1 : Int) := of_decide_eq_true qa
 have q100 : x8_1 < (l0.length : Int) := of_decide_eq_true qa
 obtain ⟨ad100, e100, hx100_0⟩ := Kd.at_int HR0.out x8_1 p100 q100
 cases e100
 replace p100 := eq_true p100
 replace q100 := eq_true q100
 go_wp2
 go_roundg k1
 case measure => have := HK1.out; omega
 case rel => exact ⟨(wrap64 (x8_1 + 1)), qs, H', ⟨by have := HK1.out; omega⟩, by repeat (first | exact Drawn0.refl _ | apply Drawn0.step)⟩

set_option maxHeartbeats 8000000 in
set_option maxRecDepth 100000 in
theorem cmp_isNaN_int.calls (a0 : Int) (r : Bool) (w : World) (h : cmp_isNaN_int.f a0 = some r) :
    Calls Tryd.prog 78 #[.int .i64 a0] w fun e w' => e = .returned (.bool r) ∧ Drawn0 w w' := by
 have H : (some (a0 != a0)) = some r := h
 clear h
 obtain rfl := Option.some.inj H
 go_enter Tryd.func78, Tryd.ntmps78
 go_wp2
 go_ret
 exact ⟨by first | rfl | (simp; done) | (simp [*]; done), by repeat (first | exact Drawn0.refl _ | apply Drawn0.step)⟩

set_option maxHeartbeats 8000000 in
set_option maxRecDepth 100000 in
theorem cmp_Compare_int.calls (a0 : Int) (a1 : Int) (r : Int) (w : World) (h : cmp_Compare_int.f a0 a1 = some r) :
    Calls Tryd.prog 63 #[.int .i64 a0, .int .i64 a1] w fun e w' => e = .returned (.int .i64 r) ∧ Drawn0 w w' := by
 have H : ((cmp_isNaN_int.f a0).bind fun t100 => ((cmp_isNaN_int.f a1).bind fun t101 => (if t100 = true then (if t101 = true then (some 0) else (some (-1))) else (if t101 = true then (some 1) else (if a0 < a1 then (some (-1)) else (if a0 > a1 then (some 1) else (some 0))))))) = some r := h
 clear h
 obtain ⟨t100, A3, H⟩ := ob H
 obtain ⟨t101, A4, H⟩ := ob H
 by_cases c5 : t100 = true
 · subst c5
   rw [if_pos rfl] at H
   by_cases c6 : t101 = true
   · subst c6
     rw [if_pos rfl] at H
     obtain rfl := Option.some.inj H
     go_enter Tryd.func63, Tryd.ntmps63
     go_wp2_with (first | ((with_reducible refine gf 78 ?_); refine gl 8 Tryd.func78 #[.int .i64 a0] ?_; (with_reducible refine (cmp_isNaN_int.calls a0 true _ A3.out).mono ?_); rintro e w' ⟨rfl, ⟨nd, rfl⟩⟩; refine ⟨_, rfl, ?_⟩) | ((with_reducible refine gf 78 ?_); refine gl 10 Tryd.func78 #[.int .i64 a1] ?_; (with_reducible refine (cmp_isNaN_int.calls a1 true _ A4.out).mono ?_); rintro e w' ⟨rfl, ⟨nd, rfl⟩⟩; refine ⟨_, rfl, ?_⟩))
     go_ret
     exact ⟨by first | rfl | (simp; done) | (simp [*]; done), by repeat (first | exact Drawn0.refl _ | apply Drawn0.step)⟩
   replace c6 := Bool.eq_false_iff.mpr c6
   subst c6
   rw [if_neg nf] at H
   obtain rfl := Option.some.inj H
   go_enter Tryd.func63, Tryd.ntmps63
   go_wp2_with (first | ((with_reducible refine gf 78 ?_); refine gl 8 Tryd.func78 #[.int .i64 a0] ?_; (with_reducible refine (cmp_isNaN_int.calls a0 true _ A3.out).mono ?_); rintro e w' ⟨rfl, ⟨nd, rfl⟩⟩; refine ⟨_, rfl, ?_⟩) | ((with_reducible refine gf 78 ?_); refine gl 10 Tryd.func78 #[.int .i64 a1] ?_; (with_reducible refine (cmp_isNaN_int.calls a1 false _ A4.out).mono ?_); rintro e w' ⟨rfl, ⟨nd, rfl⟩⟩; refine ⟨_, rfl, ?_⟩))
   go_ret
   exact ⟨by first | rfl | (simp; done) | (simp [*]; done), by repeat (first | exact Drawn0.refl _ | apply Drawn0.step)⟩
 replace c5 := Bool.eq_false_iff.mpr c5
 subst c5
 rw [if_neg nf] at H
 by_cases c7 : t101 = true
 · subst c7
   rw [if_pos rfl] at H
   obtain rfl := Option.some.inj H
   go_enter Tryd.func63, Tryd.ntmps63
   go_wp2_with (first | ((with_reducible refine gf 78 ?_); refine gl 8 Tryd.func78 #[.int .i64 a0] ?_; (with_reducible refine (cmp_isNaN_int.calls a0 false _ A3.out).mono ?_); rintro e w' ⟨rfl, ⟨nd, rfl⟩⟩; refine ⟨_, rfl, ?_⟩) | ((with_reducible refine gf 78 ?_); refine gl 10 Tryd.func78 #[.int .i64 a1] ?_; (with_reducible refine (cmp_isNaN_int.calls a1 true _ A4.out).mono ?_); rintro e w' ⟨rfl, ⟨nd, rfl⟩⟩; refine ⟨_, rfl, ?_⟩))
   go_ret
   exact ⟨by first | rfl | (simp; done) | (simp [*]; done), by repeat (first | exact Drawn0.refl _ | apply Drawn0.step)⟩
 replace c7 := Bool.eq_false_iff.mpr c7
 subst c7
 rw [if_neg nf] at H
 by_cases c8 : a0 < a1
 · rw [if_pos c8] at H
   have c8b0 := decide_eq_true c8
   clear c8
   obtain rfl := Option.some.inj H
   go_enter Tryd.func63, Tryd.ntmps63
   go_wp2_with (first | ((with_reducible refine gf 78 ?_); refine gl 8 Tryd.func78 #[.int .i64 a0] ?_; (with_reducible refine (cmp_isNaN_int.calls a0 false _ A3.out).mono ?_); rintro e w' ⟨rfl, ⟨nd, rfl⟩⟩; refine ⟨_, rfl, ?_⟩) | ((with_reducible refine gf 78 ?_); refine gl 10 Tryd.func78 #[.int .i64 a1] ?_; (with_reducible refine (cmp_isNaN_int.calls a1 false _ A4.out).mono ?_); rintro e w' ⟨rfl, ⟨nd, rfl⟩⟩; refine ⟨_, rfl, ?_⟩))
   go_ret
   exact ⟨by first | rfl | (simp; done) | (simp [*]; done), by repeat (first | exact Drawn0.refl _ | apply Drawn0.step)⟩
 rw [if_neg c8] at H
 have c8b0 := decide_eq_false c8
 clear c8
 by_cases c9 : a0 > a1
 · rw [if_pos c9] at H
   have c9b0 := decide_eq_true c9
   clear c9
   obtain rfl := Option.some.inj H
   go_enter Tryd.func63, Tryd.ntmps63
   go_wp2_with (first | ((with_reducible refine gf 78 ?_); refine gl 8 Tryd.func78 #[.int .i64 a0] ?_; (with_reducible refine (cmp_isNaN_int.calls a0 false _ A3.out).mono ?_); rintro e w' ⟨rfl, ⟨nd, rfl⟩⟩; refine ⟨_, rfl, ?_⟩) | ((with_reducible refine gf 78 ?_); refine gl 10 Tryd.func78 #[.int .i64 a1] ?_; (with_reducible refine (cmp_isNaN_int.calls a1 false _ A4.out).mono ?_); rintro e w' ⟨rfl, ⟨nd, rfl⟩⟩; refine ⟨_, rfl, ?_⟩))
   go_ret
   exact ⟨by first | rfl | (simp; done) | (simp [*]; done), by repeat (first | exact Drawn0.refl _ | apply Drawn0.step)⟩
 rw [if_neg c9] at H
 have c9b0 := decide_eq_false c9
 clear c9
 obtain rfl := Option.some.inj H
 go_enter Tryd.func63, Tryd.ntmps63
 go_wp2_with (first | ((with_reducible refine gf 78 ?_); refine gl 8 Tryd.func78 #[.int .i64 a0] ?_; (with_reducible refine (cmp_isNaN_int.calls a0 false _ A3.out).mono ?_); rintro e w' ⟨rfl, ⟨nd, rfl⟩⟩; refine ⟨_, rfl, ?_⟩) | ((with_reducible refine gf 78 ?_); refine gl 10 Tryd.func78 #[.int .i64 a1] ?_; (with_reducible refine (cmp_isNaN_int.calls a1 false _ A4.out).mono ?_); rintro e w' ⟨rfl, ⟨nd, rfl⟩⟩; refine ⟨_, rfl, ?_⟩))
 go_ret
 exact ⟨by first | rfl | (simp; done) | (simp [*]; done), by repeat (first | exact Drawn0.refl _ | apply Drawn0.step)⟩

def impl_tieOrder.T1 : Bool × List (List Nat × List Nat) := (true, [([], []), ([0], [0]), ([], []), ([2], [2]), ([1, 3], [1, 3]), ([], []), ([5], [5]), ([], []), ([7], [7]), ([6, 8, 4], [6, 8]), ([4, 9], [4, 9]), ([10, 9], [10]), ([11, 11, 0, 1, 2, 3, 4, 5, 6, 7, 8, 9, 10, 11], [11])])
def impl_tieOrder.B1 : List Nat := [0, 1, 0, 4, 15, 0, 32, 0, 128, 511, 1023, 2047, 4095]
theorem impl_tieOrder.tab1 : rtab .any (opsOf Tryd.f49 1) = impl_tieOrder.T1 := by kernel_rfl
theorem impl_tieOrder.bits1 : waitsOk impl_tieOrder.T1.2 impl_tieOrder.B1 = true := by kernel_rfl
set_option maxHeartbeats 8000000 in
set_option maxRecDepth 100000 in
theorem impl_tieOrder.calls (k : Nat) (a0_0 : Int) (a0_1 : Int) (a1_0 : Int) (a1_1 : Int) (r : Int) (w : World) (h : impl_tieOrder.f k a0_0 a0_1 a1_0 a1_1 = some r) :
    Calls Tryd.prog 49 #[.agg #[.int .i64 a0_0, .int .i64 a0_1], .agg #[.int .i64 a1_0, .int .i64 a1_1]] w fun e w' => e = .returned (.int .i64 r) ∧ Below w.heap.size w w' := by
 have hu47 := Tryd.underlying47
 have HB := q0 (Below.refl w.heap.size w)
 have H : ((cmp_Compare_int.f a0_0 a1_0).bind fun t100 => ((cmp_Compare_int.f a0_1 a1_1).bind fun t101 => ((cmp_Or_int.f k (([t100, t101] : List Int))).bind fun t102 => (some t102)))) = some r := h
 clear h
 obtain ⟨t100, A3, H⟩ := ob H
 obtain ⟨t101, A4, H⟩ := ob H
 obtain ⟨y103, hy103⟩ : ∃ y_ : List Int, y_ = (([t100, t101] : List Int)) := ⟨_, rfl⟩
 replace H : ((cmp_Or_int.f k y103).bind fun t102 => (some t102)) = some r := qy H hy103
 have Ny103 := q0 hy103
 clear hy103
 obtain ⟨t102, A5, H⟩ := ob H
 obtain rfl := Option.some.inj H
 go_enter Tryd.func49, Tryd.ntmps49
 try go_wp2_with (first | ((with_reducible refine gd 2 ?_); refine be 2 #[.int .i64 a0_0, .int .i64 a0_1] 47 ?_; intro gb104 hg w6 hbox hb; have BK104 := q0 (hbox); have GW104 := gw HB hg; have GE104 := gw HB hg; replace HB := bp HB hb; clear hb hbox hg) | ((with_reducible refine gd 3 ?_); refine be 3 #[.int .i64 a1_0, .int .i64 a1_1] 47 ?_; intro gb105 hg w7 hbox hb; have BK105 := q0 (hbox); have GW105 := gw HB hg; have GE105 := gw HB hg; replace HB := bp HB hb; have NB104_105 := nl BK104 hg; have NB105_104 := ng BK104 hg; replace BK104 := kd BK104 hb; clear hb hbox hg))
 replace BK104 := q0 (blk_drew BK104.out)
 replace BK105 := q0 (blk_drew BK105.out)
 replace HB := q0 (below_drew1 HB.out)
 refine start_ (n := 13) (S := fun w' => w'.cell? ⟨gb104, 0, none⟩ = some (.int .i64 a0_0) ∧ w'.cell? ⟨gb104, 1, none⟩ = some (.int .i64 a0_1) ∧ w'.cell? ⟨gb105, 0, none⟩ = some (.int .i64 a1_0) ∧ w'.cell? ⟨gb105, 1, none⟩ = some (.int .i64 a1_1)) (ds := []) (ba 13 0) (by kernel_rfl) rfl (by kernel_rfl) ⟨bca BK104, bcb BK104, bca BK105, bcb BK105⟩ (fun hHeld => ?_); refine with_tabW impl_tieOrder.tab1 impl_tieOrder.bits1 (fun HT_ HW_ => ?_)
 generalize w7.drew = w8 at BK104 BK105 HB hHeld ⊢
 refine pU 0 5 13 1 HT_ ?_
 refine pU 2 7 13 5 HT_ ?_
 refine pU 5 10 13 37 HT_ ?_
 refine pU 7 12 13 165 HT_ ?_
 refine tU 1 6 13 167 HT_ HW_ hHeld ?_
 refine tU 3 8 13 175 HT_ HW_ hHeld ?_
 refine tU 6 11 13 239 HT_ HW_ hHeld ?_
 refine tU 8 13 13 495 HT_ HW_ hHeld ?_
 refine one_ (i := 4) (N := some 9) (ba 13 511) rfl rfl (one_of HT_.out (by kernel_rfl)) (by decide) (fun K hK => ?_)
 refine goes_ Tryd.func63 (by kernel_rfl) rfl #[.int .i64 a0_0, .int .i64 a1_0] (by rfl) rfl rfl qm ?_
 with_reducible refine (cmp_Compare_int.calls a0_0 a1_0 t100 _ A3.out).mono ?_
 rintro e w' ⟨rfl, ⟨nd, rfl⟩⟩
 refine ⟨_, rfl, ?_⟩
 refine hK.out _ _ ⟨bca BK104, bcb BK104, bca BK105, bcb BK105⟩ (fun hHeld => ?_)
 clear hK K
 refine nu 9 ?_
 refine one_ (i := 9) (N := some 14) (ba 13 1023) rfl rfl (one_of HT_.out (by kernel_rfl)) (by decide) (fun K hK => ?_)
 refine goes_ Tryd.func63 (by kernel_rfl) rfl #[.int .i64 a0_1, .int .i64 a1_1] (by rfl) rfl rfl qm ?_
 with_reducible refine (cmp_Compare_int.calls a0_1 a1_1 t101 _ A4.out).mono ?_
 rintro e w' ⟨rfl, ⟨nd, rfl⟩⟩
 refine ⟨_, rfl, ?_⟩
 refine hK.out _ _ ⟨bca BK104, bcb BK104, bca BK105, bcb BK105⟩ (fun hHeld => ?_)
 clear hK K
 refine nu 14 ?_
 refine one_ (i := 10) (N := some 15) (ba 13 2047) rfl rfl (one_of HT_.out (by kernel_rfl)) (by decide) (fun K hK => ?_)
 refine Kd.R_lit_step (Kd.int .i64) _ 3 ?hg (N := 15) ?hd (xs := ([t100, t101] : List Int)) (inner := [.int .i64 t100, .int .i64 t101]) (ok := fun _ => True) (okp := fun _ => True) ?hr ?hp (fun _ hk => hk) trivial (Below.refl _ _) (Nat.le_refl _) (by simp) ?_; (case hd => rfl); (case hg => rfl); (case hr => first | (go_simp; done) | (go_simp; rfl)); (case hp => exact (Reps.one (show Kd.M (Kd.int .i64) _ _ _ t100 [.int .i64 t100] from rfl) (Reps.one (show Kd.M (Kd.int .i64) _ _ _ t101 [.int .i64 t101] from rfl) (Reps.none _ _))))
 intro v106 w9 ho10 hb hg_ hnew_
 clear hg_ hnew_
 (first | rw [← Ny103.out] at ho10 | (simp only [Int.reduceToNat] at ho10; rw [← Ny103.out] at ho10))
 have HO107 := q0 (Kd.R_lower ho10 (below_size (qb HB.out)))
 replace BK104 := kd BK104 hb
 replace BK105 := kd BK105 hb
 replace HB := bp HB hb
 clear hb ho10
 obtain ⟨Ao11, co11, eo11⟩ := Kd.R_slice HO107.out
 (first | subst eo11 | (injection eo11 with f1_ f2_ f3_; have f4_ := f1_.symm; have f5_ := f3_.symm; clear f1_ f2_ f3_; subst f4_; subst f5_))
 refine hK.out _ _ ⟨bca BK104, bcb BK104, bca BK105, bcb BK105⟩ (fun hHeld => ?_)
 clear hK K
 refine nu 15 ?_
 refine one_ (i := 11) (N := some 16) (ba 13 4095) rfl rfl (one_of HT_.out (by kernel_rfl)) (by decide) (fun K hK => ?_)
 refine goes_ Tryd.func62 (by kernel_rfl) rfl #[.slice Ao11 y103.length co11] (by rfl) rfl rfl qm ?_
 with_reducible refine (cmp_Or_int.calls k _ _ y103 t102 _ ?side1 ?side2 A5.out).mono ?_
 (case side1 => exact qc (Kd.R_reads' HO107.out).2.2)
 (case side2 => exact (Kd.R_reads' HO107.out).2.1)
 rintro e w' ⟨rfl, ⟨nd, rfl⟩⟩
 refine ⟨_, rfl, ?_⟩
 refine hK.out _ _ ⟨bca BK104, bcb BK104, bca BK105, bcb BK105⟩ (fun hHeld => ?_)
 clear hK K
 refine nu 16 ?_
 refine pU 12 4 13 8191 HT_ ?_
 refine done_ (done_of HT_.out (by kernel_rfl)) ?_
 try go_wp2
 go_ret
 exact ⟨qe, qb HB.out⟩

def impl_ascending.T4 : Bool × List (List Nat × List Nat) := (true, [([], []), ([], []), ([1], [1]), ([0, 2], [0, 2]), ([3], [3]), ([], []), ([], []), ([5, 6], [5, 6]), ([7], [7]), ([4, 8], [4, 8]), ([9], [9])])
def impl_ascending.B4 : List Nat := [0, 0, 2, 7, 15, 0, 0, 96, 224, 511, 1023]
theorem impl_ascending.tab4 : rtab .any (opsOf Tryd.f33 4) = impl_ascending.T4 := by kernel_rfl
theorem impl_ascending.bits4 : waitsOk impl_ascending.T4.2 impl_ascending.B4 = true := by kernel_rfl
set_option maxHeartbeats 8000000 in
set_option maxRecDepth 100000 in
theorem impl_ascending.calls (k : Nat) (A0 : Option Addr) (c0 : Nat) (l0 : List (STie)) (r : Bool) (w : World) (hr0 : Kd.C kTie w A0 l0.length l0) (hc0 : l0.length ≤ c0) (h : impl_ascending.f k l0 = some r) :
    Calls Tryd.prog 33 #[.slice A0 l0.length c0] w fun e w' => e = .returned (.bool r) ∧ Below w.heap.size w w' := by
 have hu47 := Tryd.underlying47
 have HR0 := q0 hr0
 have HC0 := q0 hc0
 clear hr0 hc0
 have HB := q0 (Below.refl w.heap.size w)
 have H : (impl_ascending.l0 k l0 1) = some r := h
 clear h
 have H' := q0 H
 clear H
 go_enter Tryd.func33, Tryd.ntmps33
 go_wp2
 go_loopg [3] k (fun kq v3 w' => ∃ (x3_1 : Int), v3 = .int .i64 x3_1 ∧ Aside0 (impl_ascending.l0 kq l0 x3_1 = some r) ∧ Aside0 (kq ≤ k) ∧ Aside0 (Below w.heap.size w w'))
 case atStart => exact ⟨(1), qs, H', ⟨Nat.le_refl _⟩, ⟨qb HB.out⟩⟩
 clear H'
 obtain ⟨x3_1, rfl, HA, HK1, HB⟩ := hrel
 rcases gk with _ | k1
 · exact absurd HA.out (by simp [impl_ascending.l0])
 have H := HA.out
 clear HA
 simp only [impl_ascending.l0] at H
 by_cases c2 : x3_1 < (l0.length : Int)
 rotate_left
 · rw [if_neg c2] at H
   have c2b0 := decide_eq_false c2
   clear c2
   obtain rfl := Option.some.inj H
   go_wp2
   go_ret
   exact ⟨qe, qb HB.out⟩
 rw [if_pos c2] at H
 have c2b0 := decide_eq_true c2
 clear c2
 obtain ⟨ji3, hji3⟩ : ∃ j_ : Int, (wrap64 (x3_1 - 1)) = j_ := ⟨_, rfl⟩
 replace H : (if 0 ≤ (ji3) then (if (ji3) < (l0.length : Int) then (if 0 ≤ x3_1 then ((impl_tieOrder.f k1 ((rd_TTie l0 (ji3)).f0) ((rd_TTie l0 (ji3)).f1) ((rd_TTie l0 x3_1).f0) ((rd_TTie l0 x3_1).f1)).bind fun t100 => (if t100 ≥ 0 then (some false) else (impl_ascending.l0 k1 l0 (wrap64 (x3_1 + 1))))) else (none)) else (none)) else (none)) = some r := by first | (rw [hji3] at H; exact H) | (simp only [hji3] at H ⊢; exact H)
 have hji3w : (IntKind.i64.wrap (x3_1 - 1)) = ji3 := (i64_w _).trans hji3
 obtain ⟨c4, H⟩ : (0 ≤ (ji3)) ∧ _ := og H
 have c4b0 := decide_eq_true c4
 clear c4
 obtain ⟨c5, H⟩ : ((ji3) < (l0.length : Int)) ∧ _ := og H
 have c5b0 := decide_eq_true c5
 clear c5
 obtain ⟨c6, H⟩ : (0 ≤ x3_1) ∧ _ := og H
 have c6b0 := decide_eq_true c6
 clear c6
 obtain ⟨t100, A7, H⟩ := ob H
 by_cases c8 : t100 ≥ 0
 · rw [if_pos c8] at H
   have c8b0 := decide_eq_true c8
   clear c8
   obtain rfl := Option.some.inj H
   try go_wp2
   replace HB := q0 (below_drew1 HB.out)
   have p101 : 0 ≤ ((ji3) : Int) := of_decide_eq_true qa
   have q101 : (ji3) < (l0.length : Int) := of_decide_eq_true qa
   obtain ⟨ad101, e101, hx101_0, hx101_1⟩ := at_TTie HR0.out (ji3) p101 q101
   have hw101_1 := hx101_1
   have hw101_0 := hx101_0
   cases e101
   replace hx101_0 := hcl HB.out hx101_0
   replace hx101_1 := hcl HB.out hx101_1
   replace p101 := eq_true p101
   replace q101 := eq_true q101
   have p102 : 0 ≤ (x3_1 : Int) := of_decide_eq_true qa
   have q102 : x3_1 < (l0.length : Int) := of_decide_eq_true qa
   obtain ⟨ad102, e102, hx102_0, hx102_1⟩ := at_TTie HR0.out x3_1 p102 q102
   have hw102_1 := hx102_1
   have hw102_0 := hx102_0
   obtain rfl : ad101 = ad102 := (by injection e102)
   replace hx102_0 := hcl HB.out hx102_0
   replace hx102_1 := hcl HB.out hx102_1
   replace p102 := eq_true p102
   replace q102 := eq_true q102
   refine start_ (n := 11) (S := fun w' => w'.cell? (ad101.add (((ji3)).toNat * 2)) = some (.int .i64 ((rd_TTie l0 (ji3)).f0)) ∧ w'.cell? ⟨(ad101.add (((ji3)).toNat * 2)).block, (ad101.add (((ji3)).toNat * 2)).off + 1, none⟩ = some (.int .i64 ((rd_TTie l0 (ji3)).f1)) ∧ w'.cell? (ad101.add ((x3_1).toNat * 2)) = some (.int .i64 ((rd_TTie l0 x3_1).f0)) ∧ w'.cell? ⟨(ad101.add ((x3_1).toNat * 2)).block, (ad101.add ((x3_1).toNat * 2)).off + 1, none⟩ = some (.int .i64 ((rd_TTie l0 x3_1).f1))) (ds := []) (ba 11 0) (by kernel_rfl) rfl (by kernel_rfl) ⟨((HB.out.cell (World.block_lt_of_cell? w _ hw101_0)).trans hw101_0), ((HB.out.cell (World.block_lt_of_cell? w _ hw101_1)).trans hw101_1), ((HB.out.cell (World.block_lt_of_cell? w _ hw102_0)).trans hw102_0), ((HB.out.cell (World.block_lt_of_cell? w _ hw102_1)).trans hw102_1)⟩ (fun hHeld => ?_); refine with_tabW impl_ascending.tab4 impl_ascending.bits4 (fun HT_ HW_ => ?_)
   generalize wr.drew = w9 at HB hx101_0 hx101_1 hx102_0 hx102_1 hHeld ⊢
   refine pU 0 10 11 1 HT_ ?_
   refine pU 1 11 11 3 HT_ ?_
   refine pU 2 12 11 7 HT_ ?_
   refine pU 3 13 11 15 HT_ ?_
   refine pU 5 15 11 47 HT_ ?_
   refine pU 6 16 11 111 HT_ ?_
   refine pU 7 17 11 239 HT_ ?_
   refine tU 4 14 11 255 HT_ HW_ hHeld ?_
   refine tU 8 18 11 511 HT_ HW_ hHeld ?_
   refine one_ (i := 9) (N := some 19) (ba 11 1023) rfl rfl (one_of HT_.out (by kernel_rfl)) (by decide) (fun K hK => ?_)
   refine goes_ Tryd.func49 (by kernel_rfl) rfl #[.agg #[.int .i64 ((rd_TTie l0 (ji3)).f0), .int .i64 ((rd_TTie l0 (ji3)).f1)], .agg #[.int .i64 ((rd_TTie l0 x3_1).f0), .int .i64 ((rd_TTie l0 x3_1).f1)]] (by rfl) rfl rfl (by (try simp only [List.map_toArray, List.map_cons, List.map_nil]); first | done | (simp only [hji3]; rfl) | rfl | (simp only [List.length_drop, List.length_take]; rfl)) ?_
   with_reducible refine (impl_tieOrder.calls k1 ((rd_TTie l0 (ji3)).f0) ((rd_TTie l0 (ji3)).f1) ((rd_TTie l0 x3_1).f0) ((rd_TTie l0 x3_1).f1) t100 _ A7.out).mono ?_
   rintro e w10 ⟨rfl, hb⟩
   refine ⟨_, rfl, ?_⟩
   replace HB := bp HB hb
   (try clear hb)
   (try clear hb2)
   (try clear hk)
   (try clear hi)
   refine hK.out _ _ ⟨((HB.out.cell (World.block_lt_of_cell? w _ hw101_0)).trans hw101_0), ((HB.out.cell (World.block_lt_of_cell? w _ hw101_1)).trans hw101_1), ((HB.out.cell (World.block_lt_of_cell? w _ hw102_0)).trans hw102_0), ((HB.out.cell (World.block_lt_of_cell? w _ hw102_1)).trans hw102_1)⟩ (fun hHeld => ?_)
   clear hK K
   refine nu 19 ?_
   refine pU 10 20 11 2047 HT_ ?_
   refine done_ (done_of HT_.out (by kernel_rfl)) ?_
   try go_wp2
   go_ret
   exact ⟨by first | rfl | (simp [errW_none, errW_some] <;> rfl) | (simp only [← hji3]; first | rfl | (simp [errW_none, errW_some] <;> rfl)) | (simp [*, errW_none, errW_some] <;> rfl), qb HB.out⟩
 rw [if_neg c8] at H
 have c8b0 := decide_eq_false c8
 clear c8
 have H' := q0 H
 clear H
 try go_wp2
 replace HB := q0 (below_drew1 HB.out)
 have p101 : 0 ≤ ((ji3) : Int) := of_decide_eq_true qa
 have q101 : (ji3) < (l0.length : Int) := of_decide_eq_true qa
 obtain ⟨ad101, e101, hx101_0, hx101_1⟩ := at_TTie HR0.out (ji3) p101 q101
 have hw101_1 := hx101_1
 have hw101_0 := hx101_0
 cases e101
 replace hx101_0 := hcl HB.out hx101_0
 replace hx101_1 := hcl HB.out hx101_1
 replace p101 := eq_true p101
 replace q101 := eq_true q101
 have p102 : 0 ≤ (x3_1 : Int) := of_decide_eq_true qa
 have q102 : x3_1 < (l0.length : Int) := of_decide_eq_true qa
 obtain ⟨ad102, e102, hx102_0, hx102_1⟩ := at_TTie HR0.out x3_1 p102 q102
 have hw102_1 := hx102_1
 have hw102_0 := hx102_0
 obtain rfl : ad101 = ad102 := (by injection e102)
 replace hx102_0 := hcl HB.out hx102_0
 replace hx102_1 := hcl HB.out hx102_1
 replace p102 := eq_true p102
 replace q102 := eq_true q102
 refine start_ (n := 11) (S := fun w' => w'.cell? (ad101.add (((ji3)).toNat * 2)) = some (.int .i64 ((rd_TTie l0 (ji3)).f0)) ∧ w'.cell? ⟨(ad101.add (((ji3)).toNat * 2)).block, (ad101.add (((ji3)).toNat * 2)).off + 1, none⟩ = some (.int .i64 ((rd_TTie l0 (ji3)).f1)) ∧ w'.cell? (ad101.add ((x3_1).toNat * 2)) = some (.int .i64 ((rd_TTie l0 x3_1).f0)) ∧ w'.cell? ⟨(ad101.add ((x3_1).toNat * 2)).block, (ad101.add ((x3_1).toNat * 2)).off + 1, none⟩ = some (.int .i64 ((rd_TTie l0 x3_1).f1))) (ds := []) (ba 11 0) (by kernel_rfl) rfl (by kernel_rfl) ⟨((HB.out.cell (World.block_lt_of_cell? w _ hw101_0)).trans hw101_0), ((HB.out.cell (World.block_lt_of_cell? w _ hw101_1)).trans hw101_1), ((HB.out.cell (World.block_lt_of_cell? w _ hw102_0)).trans hw102_0), ((HB.out.cell (World.block_lt_of_cell? w _ hw102_1)).trans hw102_1)⟩ (fun hHeld => ?_); refine with_tabW impl_ascending.tab4 impl_ascending.bits4 (fun HT_ HW_ => ?_)
 generalize wr.drew = w11 at HB hx101_0 hx101_1 hx102_0 hx102_1 hHeld ⊢
 refine pU 0 10 11 1 HT_ ?_
 refine pU 1 11 11 3 HT_ ?_
 refine pU 2 12 11 7 HT_ ?_
 refine pU 3 13 11 15 HT_ ?_
 refine pU 5 15 11 47 HT_ ?_
 refine pU 6 16 11 111 HT_ ?_
 refine pU 7 17 11 239 HT_ ?_
 refine tU 4 14 11 255 HT_ HW_ hHeld ?_
 refine tU 8 18 11 511 HT_ HW_ hHeld ?_
 refine one_ (i := 9) (N := some 19) (ba 11 1023) rfl rfl (one_of HT_.out (by kernel_rfl)) (by decide) (fun K hK => ?_)
 refine goes_ Tryd.func49 (by kernel_rfl) rfl #[.agg #[.int .i64 ((rd_TTie l0 (ji3)).f0), .int .i64 ((rd_TTie l0 (ji3)).f1)], .agg #[.int .i64 ((rd_TTie l0 x3_1).f0), .int .i64 ((rd_TTie l0 x3_1).f1)]] (by rfl) rfl rfl (by (try simp only [List.map_toArray, List.map_cons, List.map_nil]); first | done | (simp only [hji3]; rfl) | rfl | (simp only [List.length_drop, List.length_take]; rfl)) ?_
 with_reducible refine (impl_tieOrder.calls k1 ((rd_TTie l0 (ji3)).f0) ((rd_TTie l0 (ji3)).f1) ((rd_TTie l0 x3_1).f0) ((rd_TTie l0 x3_1).f1) t100 _ A7.out).mono ?_
 rintro e w12 ⟨rfl, hb⟩
 refine ⟨_, rfl, ?_⟩
 replace HB := bp HB hb
 (try clear hb)
 (try clear hb2)
 (try clear hk)
 (try clear hi)
 refine hK.out _ _ ⟨((HB.out.cell (World.block_lt_of_cell? w _ hw101_0)).trans hw101_0), ((HB.out.cell (World.block_lt_of_cell? w _ hw101_1)).trans hw101_1), ((HB.out.cell (World.block_lt_of_cell? w _ hw102_0)).trans hw102_0), ((HB.out.cell (World.block_lt_of_cell? w _ hw102_1)).trans hw102_1)⟩ (fun hHeld => ?_)
 clear hK K
 refine nu 19 ?_
 refine pU 10 20 11 2047 HT_ ?_
 refine done_ (done_of HT_.out (by kernel_rfl)) ?_
 try go_wp2
 go_roundg k1
 case measure => have := HK1.out; omega
 case rel => exact ⟨(wrap64 (x3_1 + 1)), qs, H', ⟨by have := HK1.out; omega⟩, ⟨qb HB.out⟩⟩

set_option maxHeartbeats 8000000 in
set_option maxRecDepth 100000 in
theorem impl_NetOk.calls (k : Nat) (a0_0 : Int) (A0_1 : Option Addr) (c0_1 : Nat) (l0_1 : List (STie)) (r : Bool) (w : World) (hr0_1 : Kd.C kTie w A0_1 l0_1.length l0_1) (hc0_1 : l0_1.length ≤ c0_1) (h : impl_NetOk.f k a0_0 l0_1 = some r) :
    Calls Tryd.prog 16 #[.agg #[.int .i64 a0_0, .slice A0_1 l0_1.length c0_1]] w fun e w' => e = .returned (.bool r) ∧ Below w.heap.size w w' := by
 have hu24 := Tryd.underlying24
 have hu47 := Tryd.underlying47
 have HR0_1 := q0 hr0_1
 have HC0_1 := q0 hc0_1
 clear hr0_1 hc0_1
 have HB := q0 (Below.refl w.heap.size w)
 have H : (if a0_0 < 0 then (impl_NetOk.j0 k true a0_0 l0_1) else (impl_NetOk.j0 k (decide (a0_0 > 8)) a0_0 l0_1)) = some r := h
 clear h
 have HC2 := q0 H
 clear H
 go_enter Tryd.func16, Tryd.ntmps16
 go_upto_region 1 with (first | ((with_reducible refine gd 1 ?_); refine be 1 #[.int .i64 a0_0, .slice A0_1 l0_1.length c0_1] 24 ?_; intro gb102 hg w3 hbox hb; have BK102 := q0 (hbox); have GW102 := gw HB hg; have GE102 := gw HB hg; replace HB := bp HB hb; clear hb hbox hg))
 (try simp only [Act.put, List.setIfInBounds_toArray, List.set_cons_zero, List.set_cons_succ])
 go_cut [12] (fun v12 wc => ∃ (kq : Nat) (x12_1 : Bool), v12 = .bool x12_1 ∧ Aside0 (impl_NetOk.j0 kq x12_1 a0_0 l0_1 = some r) ∧ Aside0 (kq ≤ k) ∧ Aside0 (wc.heap[gb102]? = some (.cells #[.int .i64 a0_0, (.slice A0_1 l0_1.length c0_1)] 24 (0, 0))) ∧ Aside0 (Below w.heap.size w wc))
 case first =>
   have H := HC2.out
   clear HC2
   by_cases c4 : a0_0 < 0
   · rw [if_pos c4] at H
     have c4b0 := decide_eq_true c4
     clear c4
     (first | rw [c4b0] | (simp only [i64_w, i32_w]; rw [c4b0]) | skip)
     have H' := q0 H
     clear H
     obtain ⟨hcz5_0, hcz5_1, hfz5_0, hfz5_1⟩ := b2 BK102
     go_wp2
     go_meet
     case rel => exact ⟨_, (true), qs, H', ⟨by first | omega | exact Nat.le_refl _⟩, ⟨qk BK102.out⟩, ⟨qb HB.out⟩⟩
   rw [if_neg c4] at H
   have c4b0 := decide_eq_false c4
   clear c4
   (first | rw [c4b0] | (simp only [i64_w, i32_w]; rw [c4b0]) | skip)
   have H' := q0 H
   clear H
   obtain ⟨hcz6_0, hcz6_1, hfz6_0, hfz6_1⟩ := b2 BK102
   go_wp2
   go_meet
   case rel => exact ⟨_, (decide (a0_0 > 8)), qs, H', ⟨by first | omega | exact Nat.le_refl _⟩, ⟨qk BK102.out⟩, ⟨qb HB.out⟩⟩
 clear HC2
 try clear c1
 try clear p2
 try clear c4
 try clear c4b0
 try clear hcz5_0
 try clear hcz5_1
 try clear hcz6_0
 try clear hcz6_1
 try clear hfz5_0
 try clear hfz5_1
 try clear hfz6_0
 try clear hfz6_1
 obtain ⟨kq, x12_1, rfl, HA, HJ1, BK102, HB⟩ := hcut
 rcases kq with _ | kj1
 · exact absurd HA.out (by simp [impl_NetOk.j0])
 have H := HA.out
 clear HA
 simp only [impl_NetOk.j0] at H
 by_cases c7 : x12_1 = true
 · subst c7
   rw [if_pos rfl] at H
   obtain rfl := Option.some.inj H
   go_wp2
   go_ret
   exact ⟨qe, qb HB.out⟩
 replace c7 := Bool.eq_false_iff.mpr c7
 subst c7
 rw [if_neg nf] at H
 have H' := q0 H
 clear H
 obtain ⟨hcz8_0, hcz8_1, hfz8_0, hfz8_1⟩ := b2 BK102
 go_wp2
 go_loopg [16] kj1 (fun kq v16 w' => ∃ (x16_2 : Int), v16 = .int .i64 x16_2 ∧ Aside0 (impl_NetOk.l0 kq l0_1 (l0_1.length : Int) x16_2 a0_0 l0_1 = some r) ∧ Aside0 (kq ≤ kj1) ∧ Aside0 (w'.heap[gb102]? = some (.cells #[.int .i64 a0_0, (.slice A0_1 l0_1.length c0_1)] 24 (0, 0))) ∧ Aside0 (Below w.heap.size w w'))
 case atStart => exact ⟨(0), qs, H', ⟨Nat.le_refl _⟩, ⟨qk BK102.out⟩, ⟨qb HB.out⟩⟩
 clear H'
 try clear c1
 try clear p2
 try clear c4
 try clear c4b0
 try clear c7
 try clear hcz5_0
 try clear hcz5_1
 try clear hcz6_0
 try clear hcz6_1
 try clear hcz8_0
 try clear hcz8_1
 try clear hfz5_0
 try clear hfz5_1
 try clear hfz6_0
 try clear hfz6_1
 try clear hfz8_0
 try clear hfz8_1
 try clear p2
 obtain ⟨x16_2, rfl, HA, HK2, BK102, HB⟩ := hrel
 rcases gk with _ | k2
 · exact absurd HA.out (by simp [impl_NetOk.l0])
 have H := HA.out
 clear HA
 simp only [impl_NetOk.l0] at H
 by_cases c9 : x16_2 < (l0_1.length : Int)
 rotate_left
 · rw [if_neg c9] at H
   have c9b0 := decide_eq_false c9
   clear c9
   obtain ⟨t101, A29, H⟩ := ob H
   obtain rfl := Option.some.inj H
   obtain ⟨hcz30_0, hcz30_1, hfz30_0, hfz30_1⟩ := b2 BK102
   go_wp2_with (first | ((with_reducible refine gf 33 ?_); refine gl 40 Tryd.func33 #[.slice A0_1 l0_1.length c0_1] ?_; (with_reducible refine (impl_ascending.calls k2 _ _ l0_1 t101 _ ?side1 ?side2 A29.out).mono ?_); (case side1 => exact qc (Kd.C_below HR0_1.out HB.out)); (case side2 => exact HC0_1.out); rintro e w31 ⟨rfl, hb⟩; refine ⟨_, rfl, ?_⟩; replace BK102 := kd BK102 hb; replace HB := bp HB hb; (try clear hb); (try clear hb2); (try clear hk); (try clear hi)))
   go_ret
   exact ⟨qe, qb HB.out⟩
 rw [if_pos c9] at H
 have c9b0 := decide_eq_true c9
 clear c9
 obtain ⟨c10, H⟩ : (0 ≤ x16_2) ∧ _ := og H
 have c10b0 := decide_eq_true c10
 clear c10
 obtain ⟨c11, H⟩ : (x16_2 < (l0_1.length : Int)) ∧ _ := og H
 have c11b0 := decide_eq_true c11
 clear c11
 by_cases c12 : ((rd_TTie l0_1 x16_2).f0) < 0
 · rw [if_pos c12] at H
   have c12b0 := decide_eq_true c12
   clear c12
   obtain rfl := Option.some.inj H
   have p100 : 0 ≤ (x16_2 : Int) := of_decide_eq_true qa
   have q100 : x16_2 < (l0_1.length : Int) := of_decide_eq_true qa
   obtain ⟨ad100, e100, hx100_0, hx100_1⟩ := at_TTie HR0_1.out x16_2 p100 q100
   cases e100
   replace hx100_0 := hcl HB.out hx100_0
   replace hx100_1 := hcl HB.out hx100_1
   replace p100 := eq_true p100
   replace q100 := eq_true q100
   go_wp2_with (first | ((with_reducible refine gd 4 ?_); refine be 4 #[.int .i64 0, .int .i64 0] 47 ?_; intro gb103 hg w13 hbox hb; have BK103 := q0 (hbox); have GW103 := gw HB hg; have GE103 := gw HB hg; replace HB := bp HB hb; have NB102_103 := nl BK102 hg; have NB103_102 := ng BK102 hg; replace BK102 := kd BK102 hb; clear hb hbox hg; have hnb14 := NB103_102.out; have hnc14 := NB102_103.out; obtain ⟨hcz15_0, hcz15_1, hfz15_0, hfz15_1⟩ := b2 BK103))
   go_ret
   exact ⟨qe, qb HB.out⟩
 rw [if_neg c12] at H
 have c12b0 := decide_eq_false c12
 clear c12
 by_cases c16 : ((rd_TTie l0_1 x16_2).f0) ≥ ((rd_TTie l0_1 x16_2).f1)
 · rw [if_pos c16] at H
   have c16b0 := decide_eq_true c16
   clear c16
   obtain rfl := Option.some.inj H
   have p100 : 0 ≤ (x16_2 : Int) := of_decide_eq_true qa
   have q100 : x16_2 < (l0_1.length : Int) := of_decide_eq_true qa
   obtain ⟨ad100, e100, hx100_0, hx100_1⟩ := at_TTie HR0_1.out x16_2 p100 q100
   cases e100
   replace hx100_0 := hcl HB.out hx100_0
   replace hx100_1 := hcl HB.out hx100_1
   replace p100 := eq_true p100
   replace q100 := eq_true q100
   go_wp2_with (first | ((with_reducible refine gd 4 ?_); refine be 4 #[.int .i64 0, .int .i64 0] 47 ?_; intro gb103 hg w17 hbox hb; have BK103 := q0 (hbox); have GW103 := gw HB hg; have GE103 := gw HB hg; replace HB := bp HB hb; have NB102_103 := nl BK102 hg; have NB103_102 := ng BK102 hg; replace BK102 := kd BK102 hb; clear hb hbox hg; have hnb18 := NB103_102.out; have hnc18 := NB102_103.out; obtain ⟨hcz19_0, hcz19_1, hfz19_0, hfz19_1⟩ := b2 BK103))
   go_ret
   exact ⟨qe, qb HB.out⟩
 rw [if_neg c16] at H
 have c16b0 := decide_eq_false c16
 clear c16
 by_cases c20 : ((rd_TTie l0_1 x16_2).f1) ≥ a0_0
 · rw [if_pos c20] at H
   have c20b0 := decide_eq_true c20
   clear c20
   obtain rfl := Option.some.inj H
   have p100 : 0 ≤ (x16_2 : Int) := of_decide_eq_true qa
   have q100 : x16_2 < (l0_1.length : Int) := of_decide_eq_true qa
   obtain ⟨ad100, e100, hx100_0, hx100_1⟩ := at_TTie HR0_1.out x16_2 p100 q100
   cases e100
   replace hx100_0 := hcl HB.out hx100_0
   replace hx100_1 := hcl HB.out hx100_1
   replace p100 := eq_true p100
   replace q100 := eq_true q100
   go_wp2_with (first | ((with_reducible refine gd 4 ?_); refine be 4 #[.int .i64 0, .int .i64 0] 47 ?_; intro gb103 hg w21 hbox hb; have BK103 := q0 (hbox); have GW103 := gw HB hg; have GE103 := gw HB hg; replace HB := bp HB hb; have NB102_103 := nl BK102 hg; have NB103_102 := ng BK102 hg; replace BK102 := kd BK102 hb; clear hb hbox hg; have hnb22 := NB103_102.out; have hnc22 := NB102_103.out; obtain ⟨hcz23_0, hcz23_1, hfz23_0, hfz23_1⟩ := b2 BK103; obtain ⟨hcz24_0, hcz24_1, hfz24_0, hfz24_1⟩ := b2 BK102))
   go_ret
   exact ⟨qe, qb HB.out⟩
 rw [if_neg c20] at H
 have c20b0 := decide_eq_false c20
 clear c20
 have H' := q0 H
 clear H
 have p100 : 0 ≤ (x16_2 : Int) := of_decide_eq_true qa
 have q100 : x16_2 < (l0_1.length : Int) := of_decide_eq_true qa
 obtain ⟨ad100, e100, hx100_0, hx100_1⟩ := at_TTie HR0_1.out x16_2 p100 q100
 cases e100
 replace hx100_0 := hcl HB.out hx100_0
 replace hx100_1 := hcl HB.out hx100_1
 replace p100 := eq_true p100
 replace q100 := eq_true q100
 go_wp2_with (first | ((with_reducible refine gd 4 ?_); refine be 4 #[.int .i64 0, .int .i64 0] 47 ?_; intro gb103 hg w25 hbox hb; have BK103 := q0 (hbox); have GW103 := gw HB hg; have GE103 := gw HB hg; replace HB := bp HB hb; have NB102_103 := nl BK102 hg; have NB103_102 := ng BK102 hg; replace BK102 := kd BK102 hb; clear hb hbox hg; have hnb26 := NB103_102.out; have hnc26 := NB102_103.out; obtain ⟨hcz27_0, hcz27_1, hfz27_0, hfz27_1⟩ := b2 BK103; obtain ⟨hcz28_0, hcz28_1, hfz28_0, hfz28_1⟩ := b2 BK102))
 go_roundg k2
 case measure => have := HJ1.out; have := HK2.out; omega
 case rel => exact ⟨(wrap64 (x16_2 + 1)), qs, H', ⟨by have := HJ1.out; have := HK2.out; omega⟩, ⟨qf BK102.out⟩, ⟨qb HB.out⟩⟩


def impl_NetWrite.T7 : Bool × List (List Nat × List Nat) := (true, [([], []), ([], []), ([1], [1]), ([2], [2]), ([3], [3]), ([4], [4]), ([], []), ([6], [6]), ([7, 3], [7]), ([5, 8], [5, 8]), ([9], [9]), ([0, 10], [0, 10]), ([11, 8, 0, 1, 2, 3, 4, 5, 6, 7, 8, 9, 10, 11], [0, 11])])
def impl_NetWrite.B7 : List Nat := [0, 0, 2, 6, 14, 30, 0, 64, 206, 510, 1022, 2047, 4095]
theorem impl_NetWrite.tab7 : rtab .any (opsOf Tryd.f14 7) = impl_NetWrite.T7 := by kernel_rfl
theorem impl_NetWrite.bits7 : waitsOk impl_NetWrite.T7.2 impl_NetWrite.B7 = true := by kernel_rfl
set_option maxHeartbeats 8000000 in
set_option maxRecDepth 100000 in
theorem impl_NetWrite.calls (k : Nat) (a0_0 : Int) (A0_1 : Option Addr) (c0_1 : Nat) (l0_1 : List (STie)) (r : ByteArray) (w : World) (hr0_1 : Kd.C kTie w A0_1 l0_1.length l0_1) (hc0_1 : l0_1.length ≤ c0_1) (h : impl_NetWrite.f k a0_0 l0_1 = some r) :
    Calls Tryd.prog 14 #[.agg #[.int .i64 a0_0, .slice A0_1 l0_1.length c0_1]] w fun e w' => e = .returned (.string r) ∧ Below w.heap.size w w' := by
 have hu24 := Tryd.underlying24
 have hu47 := Tryd.underlying47
 have HR0_1 := q0 hr0_1
 have HC0_1 := q0 hc0_1
 clear hr0_1 hc0_1
 have HB := q0 (Below.refl w.heap.size w)
 have H : ((impl_NetOk.f k a0_0 l0_1).bind fun t102 => (if t102 = true then ((strconv_Itoa_31.f a0_0).bind fun t103 => (if 6 + t103.size ≤ 9223372036854775807 then (if ((⟨#[107, 110, 111, 116, 115, 32]⟩ : ByteArray) ++ t103).size + 1 ≤ 9223372036854775807 then (impl_NetWrite.l0 k (((⟨#[107, 110, 111, 116, 115, 32]⟩ : ByteArray) ++ t103) ++ (⟨#[10]⟩ : ByteArray)) l0_1 (l0_1.length : Int) 0) else (none)) else (none))) else (some (⟨#[]⟩ : ByteArray)))) = some r := h
 clear h
 obtain ⟨t102, A2, H⟩ := ob H
 by_cases c3 : t102 = true
 rotate_left
 · replace c3 := Bool.eq_false_iff.mpr c3
   subst c3
   rw [if_neg nf] at H
   obtain rfl := Option.some.inj H
   go_enter Tryd.func14, Tryd.ntmps14
   go_wp2_with (first | ((with_reducible refine gd 1 ?_); refine be 1 #[.int .i64 a0_0, .slice A0_1 l0_1.length c0_1] 24 ?_; intro gb104 hg w30 hbox hb; have BK104 := q0 (hbox); have GW104 := gw HB hg; have GE104 := gw HB hg; replace HB := bp HB hb; clear hb hbox hg; obtain ⟨hcz31_0, hcz31_1, hfz31_0, hfz31_1⟩ := b2 BK104) | ((with_reducible refine gf 16 ?_); refine gl 7 Tryd.func16 #[.agg #[.int .i64 a0_0, .slice A0_1 l0_1.length c0_1]] ?_; (with_reducible refine (impl_NetOk.calls k a0_0 _ _ l0_1 false _ ?side1 ?side2 A2.out).mono ?_); (case side1 => exact qc (Kd.C_below HR0_1.out HB.out)); (case side2 => exact HC0_1.out); rintro e w32 ⟨rfl, hb⟩; refine ⟨_, rfl, ?_⟩; replace BK104 := kd BK104 hb; replace HB := bp HB hb; (try clear hb); (try clear hb2); (try clear hk); (try clear hi)))
   go_ret
   exact ⟨qe, qb HB.out⟩
 subst c3
 rw [if_pos rfl] at H
 obtain ⟨t103, A4, H⟩ := ob H
 obtain ⟨c5, H⟩ : (6 + t103.size ≤ 9223372036854775807) ∧ _ := og H
 have c5b0 := eq_true c5
 have c5b1 := decide_eq_true c5
 try have c5b2 : (9223372036854775807 < 6 + t103.size) = False := eq_false (Nat.not_lt.2 c5)
 obtain ⟨c6, H⟩ : (((⟨#[107, 110, 111, 116, 115, 32]⟩ : ByteArray) ++ t103).size + 1 ≤ 9223372036854775807) ∧ _ := og H
 have c6b0 := eq_true c6
 have c6b1 := decide_eq_true c6
 try have c6b2 : (9223372036854775807 < ((⟨#[107, 110, 111, 116, 115, 32]⟩ : ByteArray) ++ t103).size + 1) = False := eq_false (Nat.not_lt.2 c6)
 try have c6b7 : (9223372036854775807 < 6 + t103.size + 1) = False := by have h_ := c6; simp only [ByteArray.size_append] at h_; exact eq_false (Nat.not_lt.2 h_)
 have H' := q0 H
 clear H
 go_enter Tryd.func14, Tryd.ntmps14
 go_wp2_with (first | ((with_reducible refine gd 1 ?_); refine be 1 #[.int .i64 a0_0, .slice A0_1 l0_1.length c0_1] 24 ?_; intro gb104 hg w7 hbox hb; have BK104 := q0 (hbox); have GW104 := gw HB hg; have GE104 := gw HB hg; replace HB := bp HB hb; clear hb hbox hg; obtain ⟨hcz8_0, hcz8_1, hfz8_0, hfz8_1⟩ := b2 BK104) | ((with_reducible refine gf 16 ?_); refine gl 7 Tryd.func16 #[.agg #[.int .i64 a0_0, .slice A0_1 l0_1.length c0_1]] ?_; (with_reducible refine (impl_NetOk.calls k a0_0 _ _ l0_1 true _ ?side1 ?side2 A2.out).mono ?_); (case side1 => exact qc (Kd.C_below HR0_1.out HB.out)); (case side2 => exact HC0_1.out); rintro e w9 ⟨rfl, hb⟩; refine ⟨_, rfl, ?_⟩; replace BK104 := kd BK104 hb; replace HB := bp HB hb; (try clear hb); (try clear hb2); (try clear hk); (try clear hi); obtain ⟨hcz10_0, hcz10_1, hfz10_0, hfz10_1⟩ := b2 BK104) | ((with_reducible refine gf 31 ?_); refine gl 11 Tryd.func31 #[.int .i64 a0_0] ?_; (with_reducible refine (strconv_Itoa_31.calls a0_0 t103 _ A4.out).mono ?_); rintro e w11 ⟨rfl, hb⟩; refine ⟨_, rfl, ?_⟩; replace BK104 := kd BK104 hb; replace HB := bp HB hb; (try clear hb); (try clear hb2); (try clear hk); (try clear hi); obtain ⟨hcz12_0, hcz12_1, hfz12_0, hfz12_1⟩ := b2 BK104))
 go_loopg [3, 17] k (fun kq v3 v17 w' => ∃ (x3_1 : ByteArray) (x17_1 : Int), v3 = .string x3_1 ∧ v17 = .int .i64 x17_1 ∧ Aside0 (impl_NetWrite.l0 kq x3_1 l0_1 (l0_1.length : Int) x17_1 = some r) ∧ Aside0 (kq ≤ k) ∧ Aside0 (w'.heap[gb104]? = some (.cells #[.int .i64 a0_0, (.slice A0_1 l0_1.length c0_1)] 24 (0, 0))) ∧ Aside0 (Below w.heap.size w w'))
 case atStart => exact ⟨(((⟨#[107, 110, 111, 116, 115, 32]⟩ : ByteArray) ++ t103) ++ (⟨#[10]⟩ : ByteArray)), (0), qs, qs, H', ⟨Nat.le_refl _⟩, ⟨qk BK104.out⟩, ⟨qb HB.out⟩⟩
 clear H'
 try clear c1
 try clear p2
 try clear c3
 try clear c5
 try clear c5b0
 try clear c5b1
 try clear c5b2
 try clear c6
 try clear c6b0
 try clear c6b1
 try clear c6b2
 try clear hcz10_0
 try clear hcz10_1
 try clear hcz12_0
 try clear hcz12_1
 try clear hcz8_0
 try clear hcz8_1
 try clear hfz10_0
 try clear hfz10_1
 try clear hfz12_0
 try clear hfz12_1
 try clear hfz8_0
 try clear hfz8_1
 obtain ⟨x3_1, x17_1, rfl, rfl, HA, HK1, BK104, HB⟩ := hrel
 rcases gk with _ | k1
 · exact absurd HA.out (by simp [impl_NetWrite.l0])
 have H := HA.out
 clear HA
 simp only [impl_NetWrite.l0] at H
 by_cases c13 : x17_1 < (l0_1.length : Int)
 rotate_left
 · rw [if_neg c13] at H
   have c13b0 := decide_eq_false c13
   clear c13
   obtain rfl := Option.some.inj H
   go_wp2
   go_ret
   exact ⟨qe, qb HB.out⟩
 rw [if_pos c13] at H
 have c13b0 := decide_eq_true c13
 clear c13
 obtain ⟨c14, H⟩ : (0 ≤ x17_1) ∧ _ := og H
 have c14b0 := decide_eq_true c14
 clear c14
 obtain ⟨c15, H⟩ : (x17_1 < (l0_1.length : Int)) ∧ _ := og H
 have c15b0 := decide_eq_true c15
 clear c15
 obtain ⟨t100, A16, H⟩ := ob H
 obtain ⟨c17, H⟩ : (4 + t100.size ≤ 9223372036854775807) ∧ _ := og H
 have c17b0 := eq_true c17
 have c17b1 := decide_eq_true c17
 try have c17b2 : (9223372036854775807 < 4 + t100.size) = False := eq_false (Nat.not_lt.2 c17)
 obtain ⟨c18, H⟩ : (((⟨#[116, 105, 101, 32]⟩ : ByteArray) ++ t100).size + 1 ≤ 9223372036854775807) ∧ _ := og H
 have c18b0 := eq_true c18
 have c18b1 := decide_eq_true c18
 try have c18b2 : (9223372036854775807 < ((⟨#[116, 105, 101, 32]⟩ : ByteArray) ++ t100).size + 1) = False := eq_false (Nat.not_lt.2 c18)
 try have c18b7 : (9223372036854775807 < 4 + t100.size + 1) = False := by have h_ := c18; simp only [ByteArray.size_append] at h_; exact eq_false (Nat.not_lt.2 h_)
 obtain ⟨t101, A19, H⟩ := ob H
 obtain ⟨c20, H⟩ : ((((⟨#[116, 105, 101, 32]⟩ : ByteArray) ++ t100) ++ (⟨#[32]⟩ : ByteArray)).size + t101.size ≤ 9223372036854775807) ∧ _ := og H
 have c20b0 := eq_true c20
 have c20b1 := decide_eq_true c20
 try have c20b2 : (9223372036854775807 < (((⟨#[116, 105, 101, 32]⟩ : ByteArray) ++ t100) ++ (⟨#[32]⟩ : ByteArray)).size + t101.size) = False := eq_false (Nat.not_lt.2 c20)
 try have c20b7 : (9223372036854775807 < 4 + t100.size + 1 + t101.size) = False := by have h_ := c20; simp only [ByteArray.size_append] at h_; exact eq_false (Nat.not_lt.2 h_)
 obtain ⟨c21, H⟩ : (((((⟨#[116, 105, 101, 32]⟩ : ByteArray) ++ t100) ++ (⟨#[32]⟩ : ByteArray)) ++ t101).size + 1 ≤ 9223372036854775807) ∧ _ := og H
 have c21b0 := eq_true c21
 have c21b1 := decide_eq_true c21
 try have c21b2 : (9223372036854775807 < ((((⟨#[116, 105, 101, 32]⟩ : ByteArray) ++ t100) ++ (⟨#[32]⟩ : ByteArray)) ++ t101).size + 1) = False := eq_false (Nat.not_lt.2 c21)
 try have c21b7 : (9223372036854775807 < 4 + t100.size + 1 + t101.size + 1) = False := by have h_ := c21; simp only [ByteArray.size_append] at h_; exact eq_false (Nat.not_lt.2 h_)
 obtain ⟨c22, H⟩ : (x3_1.size + (((((⟨#[116, 105, 101, 32]⟩ : ByteArray) ++ t100) ++ (⟨#[32]⟩ : ByteArray)) ++ t101) ++ (⟨#[10]⟩ : ByteArray)).size ≤ 9223372036854775807) ∧ _ := og H
 have c22b0 := eq_true c22
 have c22b1 := decide_eq_true c22
 try have c22b2 : (9223372036854775807 < x3_1.size + (((((⟨#[116, 105, 101, 32]⟩ : ByteArray) ++ t100) ++ (⟨#[32]⟩ : ByteArray)) ++ t101) ++ (⟨#[10]⟩ : ByteArray)).size) = False := eq_false (Nat.not_lt.2 c22)
 try have c22b7 : (9223372036854775807 < x3_1.size + (4 + t100.size + 1 + t101.size + 1)) = False := by have h_ := c22; simp only [ByteArray.size_append] at h_; exact eq_false (Nat.not_lt.2 h_)
 have H' := q0 H
 clear H
 have p107 : 0 ≤ (x17_1 : Int) := of_decide_eq_true qa
 have q107 : x17_1 < (l0_1.length : Int) := of_decide_eq_true qa
 obtain ⟨ad107, e107, hx107_0, hx107_1⟩ := at_TTie HR0_1.out x17_1 p107 q107
 cases e107
 replace hx107_0 := hcl HB.out hx107_0
 replace hx107_1 := hcl HB.out hx107_1
 replace p107 := eq_true p107
 replace q107 := eq_true q107
 try go_wp2_with (first | ((with_reducible refine gd 5 ?_); refine be 5 #[.int .i64 0, .int .i64 0] 47 ?_; intro gb108 hg w23 hbox hb; have BK108 := q0 (hbox); have GW108 := gw HB hg; have GE108 := gw HB hg; replace HB := bp HB hb; have NB104_108 := nl BK104 hg; have NB108_104 := ng BK104 hg; replace BK104 := kd BK104 hb; clear hb hbox hg; have hnb24 := NB108_104.out; have hnc24 := NB104_108.out; obtain ⟨hcz25_0, hcz25_1, hfz25_0, hfz25_1⟩ := b2 BK108))
 have n0_ : Aside0 (((w23.setCell ⟨gb108, 0, none⟩ (.int .i64 ((rd_TTie l0_1 x17_1).f0))).setCell ⟨gb108, 1, none⟩ (.int .i64 ((rd_TTie l0_1 x17_1).f1))).heap[gb104]? = some (.cells #[.int .i64 a0_0, .slice (some ad107) l0_1.length c0_1] 24 (0, 0))) := ⟨qf BK104.out⟩
 have n1_ : Aside0 (((w23.setCell ⟨gb108, 0, none⟩ (.int .i64 ((rd_TTie l0_1 x17_1).f0))).setCell ⟨gb108, 1, none⟩ (.int .i64 ((rd_TTie l0_1 x17_1).f1))).heap[gb108]? = some (.cells #[.int .i64 ((rd_TTie l0_1 x17_1).f0), .int .i64 ((rd_TTie l0_1 x17_1).f1)] 47 (0, 0))) := ⟨by (with_reducible repeat (first | refine blk_drewN ?_ _ | refine blk_drew ?_ | refine blk_alloc ?_ _)); refine blk_put (cs := #[.int .i64 ((rd_TTie l0_1 x17_1).f0), .int .i64 0]) ?_ 1 _ rfl; (with_reducible repeat (first | refine blk_drewN ?_ _ | refine blk_drew ?_ | refine blk_alloc ?_ _)); refine blk_put (cs := #[.int .i64 0, .int .i64 0]) ?_ 0 _ rfl; (with_reducible repeat (first | refine blk_drewN ?_ _ | refine blk_drew ?_ | refine blk_alloc ?_ _)); exact BK108.out⟩
 have n2_ : Aside0 (Below w.heap.size w ((w23.setCell ⟨gb108, 0, none⟩ (.int .i64 ((rd_TTie l0_1 x17_1).f0))).setCell ⟨gb108, 1, none⟩ (.int .i64 ((rd_TTie l0_1 x17_1).f1)))) := ⟨qb HB.out⟩
 (try clear BK104)
 (try clear BK108)
 (try clear HB)
 generalize ((w23.setCell ⟨gb108, 0, none⟩ (.int .i64 ((rd_TTie l0_1 x17_1).f0))).setCell ⟨gb108, 1, none⟩ (.int .i64 ((rd_TTie l0_1 x17_1).f1))) = w26 at n0_ n1_ n2_ ⊢
 have BK104 := n0_
 have BK108 := n1_
 have HB := n2_
 clear n0_ n1_ n2_
 replace BK104 := q0 (blk_drew BK104.out)
 replace BK108 := q0 (blk_drew BK108.out)
 replace HB := q0 (below_drew1 HB.out)
 refine start_ (n := 13) (S := fun w' => w'.cell? ⟨gb108, 0, none⟩ = some (.int .i64 ((rd_TTie l0_1 x17_1).f0)) ∧ w'.cell? ⟨gb108, 1, none⟩ = some (.int .i64 ((rd_TTie l0_1 x17_1).f1))) (ds := []) (ba 13 0) (by kernel_rfl) rfl (by kernel_rfl) ⟨bca BK108, bcb BK108⟩ (fun hHeld => ?_); refine with_tabW impl_NetWrite.tab7 impl_NetWrite.bits7 (fun HT_ HW_ => ?_)
 generalize w26.drew = w27 at BK104 BK108 HB hHeld ⊢
 refine pU 0 21 13 1 HT_ ?_
 refine pU 1 22 13 3 HT_ ?_
 refine pU 6 27 13 67 HT_ ?_
 refine tU 2 23 13 71 HT_ HW_ hHeld ?_
 refine tU 7 28 13 199 HT_ HW_ hHeld ?_
 refine one_ (i := 3) (N := some 24) (ba 13 207) rfl rfl (one_of HT_.out (by kernel_rfl)) (by decide) (fun K hK => ?_)
 refine goes_ Tryd.func31 (by kernel_rfl) rfl #[.int .i64 ((rd_TTie l0_1 x17_1).f0)] (by rfl) rfl rfl qm ?_
 with_reducible refine (strconv_Itoa_31.calls ((rd_TTie l0_1 x17_1).f0) t100 _ A16.out).mono ?_
 rintro e w28 ⟨rfl, hb⟩
 refine ⟨_, rfl, ?_⟩
 replace BK104 := kd BK104 hb
 replace BK108 := kd BK108 hb
 replace HB := bp HB hb
 (try clear hb)
 (try clear hb2)
 (try clear hk)
 (try clear hi)
 refine hK.out _ _ ⟨bca BK108, bcb BK108⟩ (fun hHeld => ?_)
 clear hK K
 refine nu 24 ?_
 refine pU 4 25 13 223 HT_ ?_
 refine pU 5 26 13 255 HT_ ?_
 refine one_ (i := 8) (N := some 29) (ba 13 511) rfl rfl (one_of HT_.out (by kernel_rfl)) (by decide) (fun K hK => ?_)
 refine goes_ Tryd.func31 (by kernel_rfl) rfl #[.int .i64 ((rd_TTie l0_1 x17_1).f1)] (by rfl) rfl rfl qm ?_
 with_reducible refine (strconv_Itoa_31.calls ((rd_TTie l0_1 x17_1).f1) t101 _ A19.out).mono ?_
 rintro e w29 ⟨rfl, hb⟩
 refine ⟨_, rfl, ?_⟩
 replace BK104 := kd BK104 hb
 replace BK108 := kd BK108 hb
 replace HB := bp HB hb
 (try clear hb)
 (try clear hb2)
 (try clear hk)
 (try clear hi)
 refine hK.out _ _ ⟨bca BK108, bcb BK108⟩ (fun hHeld => ?_)
 clear hK K
 refine nu 29 ?_
 refine pU 9 30 13 1023 HT_ ?_
 refine pU 10 31 13 2047 HT_ ?_
 refine pU 11 32 13 4095 HT_ ?_
 refine pU 12 3 13 8191 HT_ ?_
 refine done_ (done_of HT_.out (by kernel_rfl)) ?_
 try go_wp2
 go_roundg k1
 case measure => have := HK1.out; omega
 case rel => exact ⟨(x3_1 ++ (((((⟨#[116, 105, 101, 32]⟩ : ByteArray) ++ t100) ++ (⟨#[32]⟩ : ByteArray)) ++ t101) ++ (⟨#[10]⟩ : ByteArray))), (wrap64 (x17_1 + 1)), qs, qs, H', ⟨by have := HK1.out; omega⟩, ⟨qk BK104.out⟩, ⟨qb HB.out⟩⟩



set_option maxHeartbeats 8000000 in
set_option maxRecDepth 100000 in
theorem impl_NetRead.calls (k : Nat) (a0 : ByteArray) (r1 : Int) (r2 : List (STie)) (r3 : Bool) (w : World) (hG_ : Gl w) (h : impl_NetRead.f k a0 = some (r1, r2, r3)) :
    Calls Tryd.prog 9 #[.string a0] w fun e w' => ∃ v1_ : Value, e = .returned (.tuple #[.agg #[.int .i64 r1, v1_], .bool r3]) ∧ Kd.R kTie 47 w' w.heap.size (fun _ => True) v1_ r2 ∧ Below w.heap.size w w' := by
 have hu24 := Tryd.underlying24
 have hu47 := Tryd.underlying47
 have HG_ := q0 hG_
 clear hG_
 have HB := q0 (Below.refl w.heap.size w)
 have H : ((strings_Split.f k a0 (⟨#[10]⟩ : ByteArray)).bind fun t100 => (impl_NetRead.l0 k a0 t100 (t100.length : Int) 0 0 (([] : List (STie))))) = some (r1, r2, r3) := h
 clear h
 obtain ⟨y107, hy107⟩ : ∃ y_ : List (STie), y_ = (([] : List (STie))) := ⟨_, rfl⟩
 replace H : ((strings_Split.f k a0 (⟨#[10]⟩ : ByteArray)).bind fun t100 => (impl_NetRead.l0 k a0 t100 (t100.length : Int) 0 0 y107)) = some (r1, r2, r3) := qy H hy107
 have Ny107 := q0 hy107
 clear hy107
 obtain ⟨t100, A2, H⟩ := ob H
 have H' := q0 H
 clear H
 go_enter Tryd.func9, Tryd.ntmps9
 go_wp2_with (first | ((with_reducible refine gd 2 ?_); (try (refine gate_guard (by rfl) ?_; dsimp only)); refine be 2 #[.int .i64 0, .slice none 0 0] 24 ?_; intro gb108 hg w3 hbox hb; have BK108 := q0 (hbox); have GW108 := gw HB hg; have GE108 := gw HB hg; replace HB := bp HB hb; clear hb hbox hg) | ((with_reducible refine gd 12 ?_); (try (refine gate_guard (by rfl) ?_; dsimp only)); refine Kd.R_lit kTie _ 47 ?hg (N := 12) ?hd (xs := ([] : List (STie))) (inner := []) (ok := fun _ => True) (okp := fun _ => True) ?hr ?hp (fun _ hk => hk) trivial (Below.refl _ _) (Nat.le_refl _) (by simp) ?_; (case hd => rfl); (case hg => rfl); (case hr => first | (go_simp; done) | (go_simp; rfl)); (case hp => exact (Reps.none _ _)); intro v109 w4 ho5 hb hg_ hnew_; clear hg_ hnew_; (first | rw [← Ny107.out] at ho5 | (simp only [Int.reduceToNat] at ho5; rw [← Ny107.out] at ho5)); have HO110 := q0 (Kd.R_lower ho5 (below_size (qb HB.out))); replace BK108 := kd BK108 hb; replace HB := bp HB hb; clear hb ho5; obtain ⟨Ao6, co6, eo6⟩ := Kd.R_slice HO110.out; subst eo6) | ((with_reducible refine gd 4 ?_); (try (refine gate_guard (by rfl) ?_; dsimp only)); refine be 4 #[.int .i64 0, .slice none 0 0] 24 ?_; intro gb111 hg w7 hbox hb; replace HO110 := q0 (Kd.R_below (qr HO110.out) hb); have BK111 := q0 (hbox); have GW111 := gw HB hg; have GE111 := gw HB hg; replace HB := bp HB hb; have NB108_111 := nl BK108 hg; have NB111_108 := ng BK108 hg; replace BK108 := kd BK108 hb; clear hb hbox hg; have hnb8 := NB111_108.out; have hnc8 := NB108_111.out; obtain ⟨hcz9_0, hcz9_1, hfz9_0, hfz9_1⟩ := b2 BK111) | ((with_reducible refine gf 24 ?_); refine gl 15 Tryd.func24 #[.string a0, .string (⟨#[10]⟩ : ByteArray)] ?_; (with_reducible refine (strings_Split.calls k a0 (⟨#[10]⟩ : ByteArray) t100 _ ?sideG A2.out).mono ?_); (case sideG => exact HG_.out.below (qb HB.out)); rintro e w10 ⟨v112, rfl, ho0, hb⟩; refine ⟨_, rfl, ?_⟩; replace HO110 := q0 (Kd.R_below (by (with_reducible repeat (first | apply Kd.R_alloc | apply Kd.R_drewN | apply Kd.R_drew)); exact (rf2 HO110.out BK111.out (fun _ h_ => h_.1))) hb); have HO113 := q0 (Kd.R_lower ho0 (below_size (qb HB.out))); replace BK108 := q0 (kf BK108.out hb); replace BK111 := q0 (blk_below (g := gb111) (o := .cells #[.int .i64 0, .slice Ao6 y107.length co6] 24 (0, 0)) (by (with_reducible repeat (first | refine blk_drewN ?_ _ | refine blk_drew ?_ | refine blk_alloc ?_ _)); refine blk_put (cs := #[.int .i64 0, .slice none 0 0]) ?_ 1 _ rfl; (with_reducible repeat (first | refine blk_drewN ?_ _ | refine blk_drew ?_ | refine blk_alloc ?_ _)); refine blk_put (cs := #[.int .i64 0, .slice none 0 0]) ?_ 0 _ rfl; (with_reducible repeat (first | refine blk_drewN ?_ _ | refine blk_drew ?_ | refine blk_alloc ?_ _)); exact BK111.out) hb); replace HB := bp HB hb; (try clear hb); (try clear hb2); (try clear hk); (try clear hi); (try clear ho0); obtain ⟨Ao11, co11, eo11⟩ := Kd.R_slice HO113.out; subst eo11))
 go_loopg [17] k (fun kq v17 w' => ∃ (x17_1 : Int) (x100000_1 : Int) (x100001_1 : List (STie)) (u100001 : Value), v17 = .int .i64 x17_1 ∧ Aside0 (impl_NetRead.l0 kq a0 t100 (t100.length : Int) x17_1 x100000_1 x100001_1 = some (r1, r2, r3)) ∧ Aside0 (kq ≤ k) ∧ Aside0 (Kd.R Kd.string 9 w' w.heap.size (fun _ => True) (.slice Ao11 t100.length co11) t100) ∧ Aside0 (Kd.R kTie 47 w' w.heap.size (fun _ => True) u100001 x100001_1) ∧ Aside0 (w'.heap[gb108]? = some (.cells #[.int .i64 0, (.slice none 0 0)] 24 (0, 0))) ∧ Aside0 (w'.heap[gb111]? = some (.cells #[.int .i64 x100000_1, u100001] 24 (0, 0))) ∧ Aside0 (Below w.heap.size w w'))
 case atStart => exact ⟨(0), (0), (y107), (.slice Ao6 y107.length co6), qs, H', ⟨Nat.le_refl _⟩, ⟨qr HO113.out⟩, ⟨qr HO110.out⟩, ⟨qk BK108.out⟩, ⟨qk BK111.out⟩, ⟨qb HB.out⟩⟩
 clear H'
 try clear c2
 try clear p2
 try clear c8
 try clear c9
 try clear hcz9_0
 try clear hcz9_1
 try clear hfz9_0
 try clear hfz9_1
 obtain ⟨x17_1, x100000_1, x100001_1, u100001, rfl, HA, HK1, HO_15, HO_100001, BK108, BK111, HB⟩ := hrel
 rcases gk with _ | k1
 · exact absurd HA.out (by simp [impl_NetRead.l0])
 have H := HA.out
 clear HA
 simp only [impl_NetRead.l0] at H
 by_cases c12 : x17_1 < (t100.length : Int)
 rotate_left
 · rw [if_neg c12] at H
   have c12b0 := decide_eq_false c12
   clear c12
   by_cases c56 : a0.toList = ([] : List UInt8)
   · rw [if_pos c56] at H
     have c56b0 : (a0.toList == ([] : List UInt8)) = true := beq_iff_eq.mpr c56
     have c56b1 : (a0.toList != ([] : List UInt8)) = false := bne_eq_false_iff_eq.mpr c56
     clear c56
     simp only [Option.some.injEq, Prod.mk.injEq] at H
     obtain ⟨rfl, rfl, rfl⟩ := H
     have hnb57 := NB108_111.out
     have hnc57 := NB111_108.out
     obtain ⟨hcz58_0, hcz58_1, hfz58_0, hfz58_1⟩ := b2 BK108
     go_wp2
     refine bodyPost_ret (results_ct rfl _ _ gb108 24 #[.int .i64 0, .slice none 0 0] (0, 0) _ rfl (by (with_reducible repeat (first | refine blk_drewN ?_ _ | refine blk_drew ?_ | refine blk_alloc ?_ _)); refine blk_put (cs := #[.int .i64 0, .slice none 0 0]) ?_ 1 _ rfl; (with_reducible repeat (first | refine blk_drewN ?_ _ | refine blk_drew ?_ | refine blk_alloc ?_ _)); refine blk_put (cs := #[.int .i64 0, .slice none 0 0]) ?_ 0 _ rfl; (with_reducible repeat (first | refine blk_drewN ?_ _ | refine blk_drew ?_ | refine blk_alloc ?_ _)); exact BK108.out) Tryd.underlying24 rfl (by kernel_rfl)) rfl ?_
     exact ⟨_, qe, by first | exact Kd.R_nil _ _ _ _ _ | exact Kd.N_nil _ _ _ _ _ | exact Kd.V_nil _ _ _ _ _ | exact Kd.Q_nil _ _ _ _ _ | exact Kd.S_nil _ _ _ _ _, qb HB.out⟩
   rw [if_neg c56] at H
   have c56b0 : (a0.toList == ([] : List UInt8)) = false := beq_eq_false_iff_ne.mpr c56
   have c56b1 : (a0.toList != ([] : List UInt8)) = true := bne_iff_ne.mpr c56
   by_cases c59 : (a0.size : Int) > 600
   · rw [if_pos c59] at H
     have c59b0 := decide_eq_true c59
     have c59b1 : decide (600 < a0.size) = true := decide_eq_true (by omega)
     clear c59
     simp only [Option.some.injEq, Prod.mk.injEq] at H
     obtain ⟨rfl, rfl, rfl⟩ := H
     have hnb60 := NB108_111.out
     have hnc60 := NB111_108.out
     obtain ⟨hcz61_0, hcz61_1, hfz61_0, hfz61_1⟩ := b2 BK108
     go_wp2
     refine bodyPost_ret (results_ct rfl _ _ gb108 24 #[.int .i64 0, .slice none 0 0] (0, 0) _ rfl (by (with_reducible repeat (first | refine blk_drewN ?_ _ | refine blk_drew ?_ | refine blk_alloc ?_ _)); refine blk_put (cs := #[.int .i64 0, .slice none 0 0]) ?_ 1 _ rfl; (with_reducible repeat (first | refine blk_drewN ?_ _ | refine blk_drew ?_ | refine blk_alloc ?_ _)); refine blk_put (cs := #[.int .i64 0, .slice none 0 0]) ?_ 0 _ rfl; (with_reducible repeat (first | refine blk_drewN ?_ _ | refine blk_drew ?_ | refine blk_alloc ?_ _)); exact BK108.out) Tryd.underlying24 rfl (by kernel_rfl)) rfl ?_
     exact ⟨_, qe, by first | exact Kd.R_nil _ _ _ _ _ | exact Kd.N_nil _ _ _ _ _ | exact Kd.V_nil _ _ _ _ _ | exact Kd.Q_nil _ _ _ _ _ | exact Kd.S_nil _ _ _ _ _, qb HB.out⟩
   rw [if_neg c59] at H
   have c59b0 := decide_eq_false c59
   have c59b1 : decide (600 < a0.size) = false := decide_eq_false (by omega)
   clear c59
   obtain ⟨t106, A62, H⟩ := ob H
   by_cases c63 : t106.toList = a0.toList
   rotate_left
   · rw [if_neg c63] at H
     have c63b0 : (t106.toList == a0.toList) = false := beq_eq_false_iff_ne.mpr c63
     have c63b1 : (t106.toList != a0.toList) = true := bne_iff_ne.mpr c63
     simp only [Option.some.injEq, Prod.mk.injEq] at H
     obtain ⟨rfl, rfl, rfl⟩ := H
     have hnb70 := NB111_108.out
     have hnc70 := NB108_111.out
     obtain ⟨hcz71_0, hcz71_1, hfz71_0, hfz71_1⟩ := b2 BK111
     obtain ⟨Ao72, co72, eo72⟩ := Kd.R_slice HO_100001.out
     subst eo72
     go_wp2_with (first | (go_at_call 14; (with_reducible refine (impl_NetWrite.calls k1 x100000_1 _ _ x100001_1 t106 _ ?side1 ?side2 A62.out).mono ?_); (case side1 => exact qc (Kd.R_reads' HO_100001.out).2.2); (case side2 => exact (Kd.R_reads' HO_100001.out).2.1); rintro e w73 ⟨rfl, hb⟩; replace HO_15 := q0 (Kd.R_below (qr HO_15.out) hb); replace HO_100001 := q0 (Kd.R_below (qr HO_100001.out) hb); replace BK108 := kd BK108 hb; replace BK111 := kd BK111 hb; replace HB := bp HB hb; (try clear hb); (try clear hb2); (try clear hk); (try clear hi); obtain ⟨hcz74_0, hcz74_1, hfz74_0, hfz74_1⟩ := b2 BK108))
     refine bodyPost_ret (results_ct rfl _ _ gb108 24 #[.int .i64 0, .slice none 0 0] (0, 0) _ rfl (by (with_reducible repeat (first | refine blk_drewN ?_ _ | refine blk_drew ?_ | refine blk_alloc ?_ _)); refine blk_put (cs := #[.int .i64 0, .slice none 0 0]) ?_ 1 _ rfl; (with_reducible repeat (first | refine blk_drewN ?_ _ | refine blk_drew ?_ | refine blk_alloc ?_ _)); refine blk_put (cs := #[.int .i64 0, .slice none 0 0]) ?_ 0 _ rfl; (with_reducible repeat (first | refine blk_drewN ?_ _ | refine blk_drew ?_ | refine blk_alloc ?_ _)); exact BK108.out) Tryd.underlying24 rfl (by kernel_rfl)) rfl ?_
     exact ⟨_, qe, by first | exact Kd.R_nil _ _ _ _ _ | exact Kd.N_nil _ _ _ _ _ | exact Kd.V_nil _ _ _ _ _ | exact Kd.Q_nil _ _ _ _ _ | exact Kd.S_nil _ _ _ _ _, qb HB.out⟩
   rw [if_pos c63] at H
   have c63b0 : (t106.toList == a0.toList) = true := beq_iff_eq.mpr c63
   have c63b1 : (t106.toList != a0.toList) = false := bne_eq_false_iff_eq.mpr c63
   clear c63
   simp only [Option.some.injEq, Prod.mk.injEq] at H
   obtain ⟨rfl, rfl, rfl⟩ := H
   have hnb64 := NB111_108.out
   have hnc64 := NB108_111.out
   obtain ⟨hcz65_0, hcz65_1, hfz65_0, hfz65_1⟩ := b2 BK111
   obtain ⟨Ao66, co66, eo66⟩ := Kd.R_slice HO_100001.out
   subst eo66
   go_wp2_with (first | (go_at_call 14; (with_reducible refine (impl_NetWrite.calls k1 x100000_1 _ _ x100001_1 t106 _ ?side1 ?side2 A62.out).mono ?_); (case side1 => exact qc (Kd.R_reads' HO_100001.out).2.2); (case side2 => exact (Kd.R_reads' HO_100001.out).2.1); rintro e w67 ⟨rfl, hb⟩; replace HO_15 := q0 (Kd.R_below (qr HO_15.out) hb); replace HO_100001 := q0 (Kd.R_below (qr HO_100001.out) hb); replace BK108 := kd BK108 hb; replace BK111 := kd BK111 hb; replace HB := bp HB hb; (try clear hb); (try clear hb2); (try clear hk); (try clear hi); obtain ⟨hcz68_0, hcz68_1, hfz68_0, hfz68_1⟩ := b2 BK111; obtain ⟨hcz69_0, hcz69_1, hfz69_0, hfz69_1⟩ := b2 BK108))
   refine bodyPost_ret (results_ct rfl _ _ gb108 24 #[.int .i64 x100000_1, .slice Ao66 x100001_1.length co66] (0, 0) _ rfl (by (with_reducible repeat (first | refine blk_drewN ?_ _ | refine blk_drew ?_ | refine blk_alloc ?_ _)); refine blk_put (cs := #[.int .i64 x100000_1, .slice none 0 0]) ?_ 1 _ rfl; (with_reducible repeat (first | refine blk_drewN ?_ _ | refine blk_drew ?_ | refine blk_alloc ?_ _)); refine blk_put (cs := #[.int .i64 0, .slice none 0 0]) ?_ 0 _ rfl; (with_reducible repeat (first | refine blk_drewN ?_ _ | refine blk_drew ?_ | refine blk_alloc ?_ _)); exact BK108.out) Tryd.underlying24 rfl (by kernel_rfl)) rfl ?_
   exact ⟨_, qe, by (with_reducible repeat (first | apply Kd.R_alloc | apply Kd.R_drewN | apply Kd.R_drew)); exact rf2 HO_100001.out BK108.out (fun _ hk => trivial), qb HB.out⟩
 rw [if_pos c12] at H
 have c12b0 := decide_eq_true c12
 clear c12
 obtain ⟨c13, H⟩ : (0 ≤ x17_1) ∧ _ := og H
 have c13b0 := decide_eq_true c13
 clear c13
 obtain ⟨c14, H⟩ : (x17_1 < (t100.length : Int)) ∧ _ := og H
 have c14b0 := decide_eq_true c14
 clear c14
 obtain ⟨t101, A15, H⟩ := ob H
 obtain ⟨y102, hy102⟩ : ∃ y_ : List ByteArray, y_ = (([(⟨#[]⟩ : ByteArray), (⟨#[]⟩ : ByteArray)] : List ByteArray)) := ⟨_, rfl⟩
 replace H : (if t101.length + y102.length < 8796093022208 then ((some (t101 ++ y102 : List ByteArray)).bind fun y103 => (if 1 < (y103.length : Int) then ((strconv_Atoi_25.f k1 (rdOf ByteArray.empty y103 1)).bind fun t104 => (if 2 < (y103.length : Int) then ((strconv_Atoi_25.f k1 (rdOf ByteArray.empty y103 2)).bind fun t105 => (if 0 < (y103.length : Int) then (if (rdOf ByteArray.empty y103 0).toList = ([107, 110, 111, 116, 115] : List UInt8) then (impl_NetRead.l0 k1 a0 t100 (t100.length : Int) (wrap64 (x17_1 + 1)) t104 x100001_1) else (if (rdOf ByteArray.empty y103 0).toList = ([116, 105, 101] : List UInt8) then (if x100001_1.length < 8796093022208 then (impl_NetRead.l0 k1 a0 t100 (t100.length : Int) (wrap64 (x17_1 + 1)) x100000_1 (x100001_1 ++ [(⟨t104, t105⟩ : STie)])) else (none)) else (impl_NetRead.l0 k1 a0 t100 (t100.length : Int) (wrap64 (x17_1 + 1)) x100000_1 x100001_1))) else (none))) else (none))) else (none))) else (none)) = some (r1, r2, r3) := qy H hy102
 have Ny102 := q0 hy102
 clear hy102
 obtain ⟨c16, H⟩ : (t101.length + y102.length < 8796093022208) ∧ _ := og H
 have LMc16 := q0 c16
 clear c16
 obtain ⟨y103, hy103⟩ : ∃ y_ : List ByteArray, y_ = (t101 ++ y102) := ⟨_, rfl⟩
 replace H : (if 1 < (y103.length : Int) then ((strconv_Atoi_25.f k1 (rdOf ByteArray.empty y103 1)).bind fun t104 => (if 2 < (y103.length : Int) then ((strconv_Atoi_25.f k1 (rdOf ByteArray.empty y103 2)).bind fun t105 => (if 0 < (y103.length : Int) then (if (rdOf ByteArray.empty y103 0).toList = ([107, 110, 111, 116, 115] : List UInt8) then (impl_NetRead.l0 k1 a0 t100 (t100.length : Int) (wrap64 (x17_1 + 1)) t104 x100001_1) else (if (rdOf ByteArray.empty y103 0).toList = ([116, 105, 101] : List UInt8) then (if x100001_1.length < 8796093022208 then (impl_NetRead.l0 k1 a0 t100 (t100.length : Int) (wrap64 (x17_1 + 1)) x100000_1 (x100001_1 ++ [(⟨t104, t105⟩ : STie)])) else (none)) else (impl_NetRead.l0 k1 a0 t100 (t100.length : Int) (wrap64 (x17_1 + 1)) x100000_1 x100001_1))) else (none))) else (none))) else (none)) = some (r1, r2, r3) := qy H hy103
 have Ny103 := q0 hy103
 clear hy103
 obtain ⟨c17, H⟩ : (1 < (y103.length : Int)) ∧ _ := og H
 have c17b0 := decide_eq_true c17
 have c17b1 : decide (1 < y103.length) = true := decide_eq_true (by omega)
 clear c17
 obtain ⟨t104, A18, H⟩ := ob H
 obtain ⟨c19, H⟩ : (2 < (y103.length : Int)) ∧ _ := og H
 have c19b0 := decide_eq_true c19
 have c19b1 : decide (2 < y103.length) = true := decide_eq_true (by omega)
 clear c19
 obtain ⟨t105, A20, H⟩ := ob H
 obtain ⟨c21, H⟩ : (0 < (y103.length : Int)) ∧ _ := og H
 have c21b0 := decide_eq_true c21
 have c21b1 : decide (0 < y103.length) = true := decide_eq_true (by omega)
 clear c21
 by_cases c22 : (rdOf ByteArray.empty y103 0).toList = ([107, 110, 111, 116, 115] : List UInt8)
 · rw [if_pos c22] at H
   have c22b0 : ((rdOf ByteArray.empty y103 0).toList == ([107, 110, 111, 116, 115] : List UInt8)) = true := beq_iff_eq.mpr c22
   have c22b1 : ((rdOf ByteArray.empty y103 0).toList != ([107, 110, 111, 116, 115] : List UInt8)) = false := bne_eq_false_iff_eq.mpr c22
   clear c22
   have H' := q0 H
   clear H
   have p117 : 0 ≤ (x17_1 : Int) := of_decide_eq_true qa
   have q117 : x17_1 < (t100.length : Int) := of_decide_eq_true qa
   obtain ⟨ad117, e117, hx117_0⟩ := Kd.at_string (Kd.R_reads' HO_15.out).2.2 x17_1 p117 q117
   cases e117
   replace p117 := eq_true p117
   replace q117 := eq_true q117
   go_wp2_with (first | ((with_reducible refine gf 24 ?_); refine gl 22 Tryd.func24 #[.string (rdOf ByteArray.empty t100 x17_1), .string (⟨#[32]⟩ : ByteArray)] ?_; (with_reducible refine (strings_Split.calls k1 (rdOf ByteArray.empty t100 x17_1) (⟨#[32]⟩ : ByteArray) t101 _ ?sideG A15.out).mono ?_); (case sideG => exact HG_.out.below (qb HB.out)); rintro e w23 ⟨v118, rfl, ho0, hb⟩; refine ⟨_, rfl, ?_⟩; replace HO_100001 := q0 (Kd.R_below (qr HO_100001.out) hb); have HO119 := q0 (Kd.R_lower (Kd.R_new' ho0 (Kd.R_lt (qr HO_15.out))) (below_size (qb HB.out))); replace HO_15 := q0 (Kd.R_elder' (qr HO_15.out) (Kd.R_base ho0) hb); replace BK108 := kd BK108 hb; replace BK111 := kd BK111 hb; replace HB := bp HB hb; (try clear hb); (try clear hb2); (try clear hk); (try clear hi); (try clear ho0)) | ((with_reducible refine gd 23 ?_); (try (refine gate_guard (by rfl) ?_; dsimp only)); refine Kd.R_lit Kd.string _ 9 ?hg (N := 23) ?hd (xs := ([(⟨#[]⟩ : ByteArray), (⟨#[]⟩ : ByteArray)] : List ByteArray)) (inner := [.string (⟨#[]⟩ : ByteArray), .string (⟨#[]⟩ : ByteArray)]) (ok := fun _ => True) (okp := fun _ => True) ?hr ?hp (fun _ hk => hk) trivial (Below.refl _ _) (Nat.le_refl _) (by simp) ?_; (case hd => rfl); (case hg => rfl); (case hr => first | (go_simp; done) | (go_simp; rfl)); (case hp => exact (Reps.one (show Kd.M Kd.string _ _ _ (⟨#[]⟩ : ByteArray) [.string (⟨#[]⟩ : ByteArray)] from rfl) (Reps.one (show Kd.M Kd.string _ _ _ (⟨#[]⟩ : ByteArray) [.string (⟨#[]⟩ : ByteArray)] from rfl) (Reps.none _ _)))); intro v120 w24 ho25 hb hg_ hnew_; clear hg_ hnew_; (first | rw [← Ny102.out] at ho25 | (simp only [Int.reduceToNat] at ho25; rw [← Ny102.out] at ho25)); replace HO_100001 := q0 (Kd.R_below (qr HO_100001.out) hb); have HO121 := q0 (Kd.R_lower (Kd.R_new' (Kd.R_new' ho25 (Kd.R_lt (qr HO_15.out))) (Kd.R_lt (qr HO119.out))) (below_size (qb HB.out))); replace HO_15 := q0 (Kd.R_elder' (qr HO_15.out) (Kd.R_base ho25) hb); replace HO119 := q0 (Kd.R_elder' (qr HO119.out) (Kd.R_base ho25) hb); replace BK108 := kd BK108 hb; replace BK111 := kd BK111 hb; replace HB := bp HB hb; clear hb ho25; obtain ⟨Ao27, co27, eo27⟩ := Kd.R_slice HO121.out; subst eo27) | ((with_reducible refine gate_builtin (b := .append) (xs := #[.tmp 22, .tmp 23]) rfl ?_); (try (refine gate_guard (by rfl) ?_; dsimp only)); at_builtin; refine Kd.R_append_rows Kd.string (w0 := w) w.heap.size rfl (.tmp 22) (.tmp 23) 43 9 (.string ⟨#[]⟩) 16 rfl Tryd.underlying43 info9 rfl (by decide) (by omega) v118 t101 y102 _ _ _ (fun k_ => some k_ ≠ (.slice (some ad117) t100.length co11 : Value).ownBlock ∧ some k_ ≠ (.slice Ao27 y102.length co27 : Value).ownBlock) (fun _ => False) rfl rfl ?aO ?aR (fun _ _ h => h) (fun _ h => h.elim) ?aF ?aB ?aS ?aL ?_; (case aR => repeat (first | exact (Kd.R_reads' HO121.out).2.2 | (with_reducible refine Kd.C_alloc ?_ _) | (with_reducible refine Kd.C_drewN ?_ _) | (with_reducible refine Kd.C_drew ?_))); (case aB => exact (qb HB.out)); (case aF => exact (fun k_ hk => ⟨Kd.fresh' (Kd.R_lt (qr HO_15.out)) k_ hk, Kd.fresh' (Kd.R_lt (qr HO121.out)) k_ hk⟩)); (case aO => exact (by (with_reducible repeat (first | apply Kd.R_alloc | apply Kd.R_drewN | apply Kd.R_drew)); exact Kd.R_mono HO119.out (fun _ hk => ⟨hk.1.2, hk.2⟩))); (case aS => exact (below_size (qb HB.out))); (case aL => have := LMc16.out; omega); intro v122 w26 ho hb hg hat; rw [← Ny103.out] at ho; replace HO_15 := q0 (Kd.R_after (ok := (fun k_ => some k_ ≠ (.slice Ao27 y102.length co27 : Value).ownBlock)) (by (with_reducible repeat (first | apply Kd.R_alloc | apply Kd.R_drewN | apply Kd.R_drew)); exact Kd.R_mono HO_15.out (fun _ hk => ⟨hk.2, hk.1.2⟩)) hg hat); replace HO_100001 := q0 (Kd.R_over' (qr HO_100001.out) (Kd.R_typed (qr HO119.out)) (by decide) hg); replace BK108 := q0 (blk_grown (g := gb108) (o := .cells #[.int .i64 0, .slice none 0 0] 24 (0, 0)) (qk BK108.out) hg (Kd.R_ne HO119.out BK108.out (by decide))); replace BK111 := q0 (blk_grown (g := gb111) (o := .cells #[.int .i64 x100000_1, u100001] 24 (0, 0)) (qk BK111.out) hg (Kd.R_ne HO119.out BK111.out (by decide))); replace HO121 := q0 (Kd.R_after (ok := (fun k_ => some k_ ≠ (.slice (some ad117) t100.length co11 : Value).ownBlock)) (by (with_reducible repeat (first | apply Kd.R_alloc | apply Kd.R_drewN | apply Kd.R_drew)); exact Kd.R_mono HO121.out (fun _ hk => ⟨hk.1.2, hk.2⟩)) hg hat); replace HB := q0 (hb); have HO123 := q0 (ho); clear HO119; clear ho hb hg hat; obtain ⟨Ao28, co28, eo28⟩ := Kd.R_slice HO123.out; subst eo28; have p124 : 0 ≤ (1 : Int) := (by omega); have q124 : 1 < (y103.length : Int) := of_decide_eq_true qa; obtain ⟨ad124, e124, hx124_0⟩ := Kd.at_string (Kd.R_reads' HO123.out).2.2 1 p124 q124; cases e124; (try simp only [show (1 : Int).toNat = 1 from rfl, Nat.reduceMul, Nat.reduceEqDiff, Go.Addr.add, ↓reduceIte] at hx124_0); have qi124 : (1 < y103.length) = True := eq_true (by omega); (try rw [show ((1 : Int)).toNat = 1 from rfl] at hx124_0); replace p124 := eq_true p124; replace q124 := eq_true q124) | ((with_reducible refine gf 25 ?_); refine gl 29 Tryd.func25 #[.string (rdOf ByteArray.empty y103 1)] ?_; (with_reducible refine (strconv_Atoi_25.calls k1 (rdOf ByteArray.empty y103 1) t104 _ ?sideG A18.out).mono ?_); (case sideG => exact HG_.out.below (qb HB.out)); rintro e w29 ⟨⟨ev_, rfl⟩, hb⟩; refine ⟨_, rfl, ?_⟩; replace HO_15 := q0 (Kd.R_below (qr HO_15.out) hb); replace HO_100001 := q0 (Kd.R_below (qr HO_100001.out) hb); replace HO121 := q0 (Kd.R_below (qr HO121.out) hb); replace HO123 := q0 (Kd.R_below (qr HO123.out) hb); replace BK108 := kd BK108 hb; replace BK111 := kd BK111 hb; replace HB := bp HB hb; (try clear hb); (try clear hb2); (try clear hk); (try clear hi); have p125 : 0 ≤ (2 : Int) := (by omega); have q125 : 2 < (y103.length : Int) := of_decide_eq_true qa; obtain ⟨ad125, e125, hx125_0⟩ := Kd.at_string (Kd.R_reads' HO123.out).2.2 2 p125 q125; obtain rfl : ad124 = ad125 := (by injection e125); (try simp only [show (2 : Int).toNat = 2 from rfl, Nat.reduceMul, Nat.reduceEqDiff, Go.Addr.add, ↓reduceIte] at hx125_0); have qi125 : (2 < y103.length) = True := eq_true (by omega); (try rw [show ((2 : Int)).toNat = 2 from rfl] at hx125_0); replace p125 := eq_true p125; replace q125 := eq_true q125) | ((with_reducible refine gf 25 ?_); refine gl 36 Tryd.func25 #[.string (rdOf ByteArray.empty y103 2)] ?_; (with_reducible refine (strconv_Atoi_25.calls k1 (rdOf ByteArray.empty y103 2) t105 _ ?sideG A20.out).mono ?_); (case sideG => exact HG_.out.below (qb HB.out)); rintro e w30 ⟨⟨ev_, rfl⟩, hb⟩; refine ⟨_, rfl, ?_⟩; replace HO_15 := q0 (Kd.R_below (qr HO_15.out) hb); replace HO_100001 := q0 (Kd.R_below (qr HO_100001.out) hb); replace HO121 := q0 (Kd.R_below (qr HO121.out) hb); replace HO123 := q0 (Kd.R_below (qr HO123.out) hb); replace BK108 := kd BK108 hb; replace BK111 := kd BK111 hb; replace HB := bp HB hb; (try clear hb); (try clear hb2); (try clear hk); (try clear hi); have p126 : 0 ≤ (0 : Int) := (by omega); have q126 : 0 < (y103.length : Int) := of_decide_eq_true qa; obtain ⟨ad126, e126, hx126_0⟩ := Kd.at_string (Kd.R_reads' HO123.out).2.2 0 p126 q126; obtain rfl : ad124 = ad126 := (by injection e126); have qi126 : (0 < y103.length) = True := eq_true (by omega); (try rw [show ((0 : Int)).toNat = 0 from rfl] at hx126_0); (try rw [Addr.add_zero'] at hx126_0); replace p126 := eq_true p126; replace q126 := eq_true q126; have hnb31 := NB111_108.out; have hnc31 := NB108_111.out; obtain ⟨hcz32_0, hcz32_1, hfz32_0, hfz32_1⟩ := b2 BK111))
   go_roundg k1
   case measure => have := HK1.out; omega
   case rel => exact ⟨(wrap64 (x17_1 + 1)), (t104), (x100001_1), (u100001), qs, H', ⟨by have := HK1.out; omega⟩, ⟨by (with_reducible repeat (first | apply Kd.R_alloc | apply Kd.R_drewN | apply Kd.R_drew)); exact Kd.R_mono (Kd.R_far (p := ⟨gb111, 0, none⟩) (Kd.R_types HO_15.out BK111.out (by decide)) (fun _ hk => hk.2) (.int .i64 t104)) (fun _ hk => trivial)⟩, ⟨by (with_reducible repeat (first | apply Kd.R_alloc | apply Kd.R_drewN | apply Kd.R_drew)); exact Kd.R_mono (Kd.R_far (p := ⟨gb111, 0, none⟩) (Kd.R_types HO_100001.out BK111.out (by decide)) (fun _ hk => hk.2) (.int .i64 t104)) (fun _ hk => trivial)⟩, ⟨qf BK108.out⟩, ⟨by (with_reducible repeat (first | refine blk_drewN ?_ _ | refine blk_drew ?_ | refine blk_alloc ?_ _)); refine blk_put (cs := #[.int .i64 x100000_1, u100001]) ?_ 0 _ rfl; (with_reducible repeat (first | refine blk_drewN ?_ _ | refine blk_drew ?_ | refine blk_alloc ?_ _)); exact BK111.out⟩, ⟨qb HB.out⟩⟩
 rw [if_neg c22] at H
 have c22b0 : ((rdOf ByteArray.empty y103 0).toList == ([107, 110, 111, 116, 115] : List UInt8)) = false := beq_eq_false_iff_ne.mpr c22
 have c22b1 : ((rdOf ByteArray.empty y103 0).toList != ([107, 110, 111, 116, 115] : List UInt8)) = true := bne_iff_ne.mpr c22
 by_cases c33 : (rdOf ByteArray.empty y103 0).toList = ([116, 105, 101] : List UInt8)
 rotate_left
 · rw [if_neg c33] at H
   have c33b0 : ((rdOf ByteArray.empty y103 0).toList == ([116, 105, 101] : List UInt8)) = false := beq_eq_false_iff_ne.mpr c33
   have c33b1 : ((rdOf ByteArray.empty y103 0).toList != ([116, 105, 101] : List UInt8)) = true := bne_iff_ne.mpr c33
   have H' := q0 H
   clear H
   have p117 : 0 ≤ (x17_1 : Int) := of_decide_eq_true qa
   have q117 : x17_1 < (t100.length : Int) := of_decide_eq_true qa
   obtain ⟨ad117, e117, hx117_0⟩ := Kd.at_string (Kd.R_reads' HO_15.out).2.2 x17_1 p117 q117
   cases e117
   replace p117 := eq_true p117
   replace q117 := eq_true q117
   go_wp2_with (first | ((with_reducible refine gf 24 ?_); refine gl 22 Tryd.func24 #[.string (rdOf ByteArray.empty t100 x17_1), .string (⟨#[32]⟩ : ByteArray)] ?_; (with_reducible refine (strings_Split.calls k1 (rdOf ByteArray.empty t100 x17_1) (⟨#[32]⟩ : ByteArray) t101 _ ?sideG A15.out).mono ?_); (case sideG => exact HG_.out.below (qb HB.out)); rintro e w48 ⟨v118, rfl, ho0, hb⟩; refine ⟨_, rfl, ?_⟩; replace HO_100001 := q0 (Kd.R_below (qr HO_100001.out) hb); have HO119 := q0 (Kd.R_lower (Kd.R_new' ho0 (Kd.R_lt (qr HO_15.out))) (below_size (qb HB.out))); replace HO_15 := q0 (Kd.R_elder' (qr HO_15.out) (Kd.R_base ho0) hb); replace BK108 := kd BK108 hb; replace BK111 := kd BK111 hb; replace HB := bp HB hb; (try clear hb); (try clear hb2); (try clear hk); (try clear hi); (try clear ho0)) | ((with_reducible refine gd 23 ?_); (try (refine gate_guard (by rfl) ?_; dsimp only)); refine Kd.R_lit Kd.string _ 9 ?hg (N := 23) ?hd (xs := ([(⟨#[]⟩ : ByteArray), (⟨#[]⟩ : ByteArray)] : List ByteArray)) (inner := [.string (⟨#[]⟩ : ByteArray), .string (⟨#[]⟩ : ByteArray)]) (ok := fun _ => True) (okp := fun _ => True) ?hr ?hp (fun _ hk => hk) trivial (Below.refl _ _) (Nat.le_refl _) (by simp) ?_; (case hd => rfl); (case hg => rfl); (case hr => first | (go_simp; done) | (go_simp; rfl)); (case hp => exact (Reps.one (show Kd.M Kd.string _ _ _ (⟨#[]⟩ : ByteArray) [.string (⟨#[]⟩ : ByteArray)] from rfl) (Reps.one (show Kd.M Kd.string _ _ _ (⟨#[]⟩ : ByteArray) [.string (⟨#[]⟩ : ByteArray)] from rfl) (Reps.none _ _)))); intro v120 w49 ho50 hb hg_ hnew_; clear hg_ hnew_; (first | rw [← Ny102.out] at ho50 | (simp only [Int.reduceToNat] at ho50; rw [← Ny102.out] at ho50)); replace HO_100001 := q0 (Kd.R_below (qr HO_100001.out) hb); have HO121 := q0 (Kd.R_lower (Kd.R_new' (Kd.R_new' ho50 (Kd.R_lt (qr HO_15.out))) (Kd.R_lt (qr HO119.out))) (below_size (qb HB.out))); replace HO_15 := q0 (Kd.R_elder' (qr HO_15.out) (Kd.R_base ho50) hb); replace HO119 := q0 (Kd.R_elder' (qr HO119.out) (Kd.R_base ho50) hb); replace BK108 := kd BK108 hb; replace BK111 := kd BK111 hb; replace HB := bp HB hb; clear hb ho50; obtain ⟨Ao52, co52, eo52⟩ := Kd.R_slice HO121.out; subst eo52) | ((with_reducible refine gate_builtin (b := .append) (xs := #[.tmp 22, .tmp 23]) rfl ?_); (try (refine gate_guard (by rfl) ?_; dsimp only)); at_builtin; refine Kd.R_append_rows Kd.string (w0 := w) w.heap.size rfl (.tmp 22) (.tmp 23) 43 9 (.string ⟨#[]⟩) 16 rfl Tryd.underlying43 info9 rfl (by decide) (by omega) v118 t101 y102 _ _ _ (fun k_ => some k_ ≠ (.slice (some ad117) t100.length co11 : Value).ownBlock ∧ some k_ ≠ (.slice Ao52 y102.length co52 : Value).ownBlock) (fun _ => False) rfl rfl ?aO ?aR (fun _ _ h => h) (fun _ h => h.elim) ?aF ?aB ?aS ?aL ?_; (case aR => repeat (first | exact (Kd.R_reads' HO121.out).2.2 | (with_reducible refine Kd.C_alloc ?_ _) | (with_reducible refine Kd.C_drewN ?_ _) | (with_reducible refine Kd.C_drew ?_))); (case aB => exact (qb HB.out)); (case aF => exact (fun k_ hk => ⟨Kd.fresh' (Kd.R_lt (qr HO_15.out)) k_ hk, Kd.fresh' (Kd.R_lt (qr HO121.out)) k_ hk⟩)); (case aO => exact (by (with_reducible repeat (first | apply Kd.R_alloc | apply Kd.R_drewN | apply Kd.R_drew)); exact Kd.R_mono HO119.out (fun _ hk => ⟨hk.1.2, hk.2⟩))); (case aS => exact (below_size (qb HB.out))); (case aL => have := LMc16.out; omega); intro v122 w51 ho hb hg hat; rw [← Ny103.out] at ho; replace HO_15 := q0 (Kd.R_after (ok := (fun k_ => some k_ ≠ (.slice Ao52 y102.length co52 : Value).ownBlock)) (by (with_reducible repeat (first | apply Kd.R_alloc | apply Kd.R_drewN | apply Kd.R_drew)); exact Kd.R_mono HO_15.out (fun _ hk => ⟨hk.2, hk.1.2⟩)) hg hat); replace HO_100001 := q0 (Kd.R_over' (qr HO_100001.out) (Kd.R_typed (qr HO119.out)) (by decide) hg); replace BK108 := q0 (blk_grown (g := gb108) (o := .cells #[.int .i64 0, .slice none 0 0] 24 (0, 0)) (qk BK108.out) hg (Kd.R_ne HO119.out BK108.out (by decide))); replace BK111 := q0 (blk_grown (g := gb111) (o := .cells #[.int .i64 x100000_1, u100001] 24 (0, 0)) (qk BK111.out) hg (Kd.R_ne HO119.out BK111.out (by decide))); replace HO121 := q0 (Kd.R_after (ok := (fun k_ => some k_ ≠ (.slice (some ad117) t100.length co11 : Value).ownBlock)) (by (with_reducible repeat (first | apply Kd.R_alloc | apply Kd.R_drewN | apply Kd.R_drew)); exact Kd.R_mono HO121.out (fun _ hk => ⟨hk.1.2, hk.2⟩)) hg hat); replace HB := q0 (hb); have HO123 := q0 (ho); clear HO119; clear ho hb hg hat; obtain ⟨Ao53, co53, eo53⟩ := Kd.R_slice HO123.out; subst eo53; have p124 : 0 ≤ (1 : Int) := (by omega); have q124 : 1 < (y103.length : Int) := of_decide_eq_true qa; obtain ⟨ad124, e124, hx124_0⟩ := Kd.at_string (Kd.R_reads' HO123.out).2.2 1 p124 q124; cases e124; (try simp only [show (1 : Int).toNat = 1 from rfl, Nat.reduceMul, Nat.reduceEqDiff, Go.Addr.add, ↓reduceIte] at hx124_0); have qi124 : (1 < y103.length) = True := eq_true (by omega); (try rw [show ((1 : Int)).toNat = 1 from rfl] at hx124_0); replace p124 := eq_true p124; replace q124 := eq_true q124) | ((with_reducible refine gf 25 ?_); refine gl 29 Tryd.func25 #[.string (rdOf ByteArray.empty y103 1)] ?_; (with_reducible refine (strconv_Atoi_25.calls k1 (rdOf ByteArray.empty y103 1) t104 _ ?sideG A18.out).mono ?_); (case sideG => exact HG_.out.below (qb HB.out)); rintro e w54 ⟨⟨ev_, rfl⟩, hb⟩; refine ⟨_, rfl, ?_⟩; replace HO_15 := q0 (Kd.R_below (qr HO_15.out) hb); replace HO_100001 := q0 (Kd.R_below (qr HO_100001.out) hb); replace HO121 := q0 (Kd.R_below (qr HO121.out) hb); replace HO123 := q0 (Kd.R_below (qr HO123.out) hb); replace BK108 := kd BK108 hb; replace BK111 := kd BK111 hb; replace HB := bp HB hb; (try clear hb); (try clear hb2); (try clear hk); (try clear hi); have p125 : 0 ≤ (2 : Int) := (by omega); have q125 : 2 < (y103.length : Int) := of_decide_eq_true qa; obtain ⟨ad125, e125, hx125_0⟩ := Kd.at_string (Kd.R_reads' HO123.out).2.2 2 p125 q125; obtain rfl : ad124 = ad125 := (by injection e125); (try simp only [show (2 : Int).toNat = 2 from rfl, Nat.reduceMul, Nat.reduceEqDiff, Go.Addr.add, ↓reduceIte] at hx125_0); have qi125 : (2 < y103.length) = True := eq_true (by omega); (try rw [show ((2 : Int)).toNat = 2 from rfl] at hx125_0); replace p125 := eq_true p125; replace q125 := eq_true q125) | ((with_reducible refine gf 25 ?_); refine gl 36 Tryd.func25 #[.string (rdOf ByteArray.empty y103 2)] ?_; (with_reducible refine (strconv_Atoi_25.calls k1 (rdOf ByteArray.empty y103 2) t105 _ ?sideG A20.out).mono ?_); (case sideG => exact HG_.out.below (qb HB.out)); rintro e w55 ⟨⟨ev_, rfl⟩, hb⟩; refine ⟨_, rfl, ?_⟩; replace HO_15 := q0 (Kd.R_below (qr HO_15.out) hb); replace HO_100001 := q0 (Kd.R_below (qr HO_100001.out) hb); replace HO121 := q0 (Kd.R_below (qr HO121.out) hb); replace HO123 := q0 (Kd.R_below (qr HO123.out) hb); replace BK108 := kd BK108 hb; replace BK111 := kd BK111 hb; replace HB := bp HB hb; (try clear hb); (try clear hb2); (try clear hk); (try clear hi); have p126 : 0 ≤ (0 : Int) := (by omega); have q126 : 0 < (y103.length : Int) := of_decide_eq_true qa; obtain ⟨ad126, e126, hx126_0⟩ := Kd.at_string (Kd.R_reads' HO123.out).2.2 0 p126 q126; obtain rfl : ad124 = ad126 := (by injection e126); have qi126 : (0 < y103.length) = True := eq_true (by omega); (try rw [show ((0 : Int)).toNat = 0 from rfl] at hx126_0); (try rw [Addr.add_zero'] at hx126_0); replace p126 := eq_true p126; replace q126 := eq_true q126))
   go_roundg k1
   case measure => have := HK1.out; omega
   case rel => exact ⟨(wrap64 (x17_1 + 1)), (x100000_1), (x100001_1), (u100001), qs, H', ⟨by have := HK1.out; omega⟩, ⟨by (with_reducible repeat (first | apply Kd.R_alloc | apply Kd.R_drewN | apply Kd.R_drew)); exact Kd.R_mono HO_15.out (fun _ hk => trivial)⟩, ⟨qr HO_100001.out⟩, ⟨qk BK108.out⟩, ⟨qk BK111.out⟩, ⟨qb HB.out⟩⟩
 rw [if_pos c33] at H
 have c33b0 : ((rdOf ByteArray.empty y103 0).toList == ([116, 105, 101] : List UInt8)) = true := beq_iff_eq.mpr c33
 have c33b1 : ((rdOf ByteArray.empty y103 0).toList != ([116, 105, 101] : List UInt8)) = false := bne_eq_false_iff_eq.mpr c33
 clear c33
 obtain ⟨c34, H⟩ : (x100001_1.length < 8796093022208) ∧ _ := og H
 have LMc34 := q0 c34
 clear c34
 obtain ⟨y127, hy127⟩ : ∃ y_ : List (STie), y_ = (x100001_1 ++ [(⟨t104, t105⟩ : STie)]) := ⟨_, rfl⟩
 replace H : (impl_NetRead.l0 k1 a0 t100 (t100.length : Int) (wrap64 (x17_1 + 1)) x100000_1 y127) = some (r1, r2, r3) := qy H hy127
 have Ny127 := q0 hy127
 clear hy127
 have H' := q0 H
 clear H
 have p117 : 0 ≤ (x17_1 : Int) := of_decide_eq_true qa
 have q117 : x17_1 < (t100.length : Int) := of_decide_eq_true qa
 obtain ⟨ad117, e117, hx117_0⟩ := Kd.at_string (Kd.R_reads' HO_15.out).2.2 x17_1 p117 q117
 cases e117
 replace p117 := eq_true p117
 replace q117 := eq_true q117
 go_wp2_with (first | ((with_reducible refine gf 24 ?_); refine gl 22 Tryd.func24 #[.string (rdOf ByteArray.empty t100 x17_1), .string (⟨#[32]⟩ : ByteArray)] ?_; (with_reducible refine (strings_Split.calls k1 (rdOf ByteArray.empty t100 x17_1) (⟨#[32]⟩ : ByteArray) t101 _ ?sideG A15.out).mono ?_); (case sideG => exact HG_.out.below (qb HB.out)); rintro e w35 ⟨v118, rfl, ho0, hb⟩; refine ⟨_, rfl, ?_⟩; replace HO_100001 := q0 (Kd.R_below (qr HO_100001.out) hb); have HO119 := q0 (Kd.R_lower (Kd.R_new' ho0 (Kd.R_lt (qr HO_15.out))) (below_size (qb HB.out))); replace HO_15 := q0 (Kd.R_elder' (qr HO_15.out) (Kd.R_base ho0) hb); replace BK108 := kd BK108 hb; replace BK111 := kd BK111 hb; replace HB := bp HB hb; (try clear hb); (try clear hb2); (try clear hk); (try clear hi); (try clear ho0)) | ((with_reducible refine gd 23 ?_); (try (refine gate_guard (by rfl) ?_; dsimp only)); refine Kd.R_lit Kd.string _ 9 ?hg (N := 23) ?hd (xs := ([(⟨#[]⟩ : ByteArray), (⟨#[]⟩ : ByteArray)] : List ByteArray)) (inner := [.string (⟨#[]⟩ : ByteArray), .string (⟨#[]⟩ : ByteArray)]) (ok := fun _ => True) (okp := fun _ => True) ?hr ?hp (fun _ hk => hk) trivial (Below.refl _ _) (Nat.le_refl _) (by simp) ?_; (case hd => rfl); (case hg => rfl); (case hr => first | (go_simp; done) | (go_simp; rfl)); (case hp => exact (Reps.one (show Kd.M Kd.string _ _ _ (⟨#[]⟩ : ByteArray) [.string (⟨#[]⟩ : ByteArray)] from rfl) (Reps.one (show Kd.M Kd.string _ _ _ (⟨#[]⟩ : ByteArray) [.string (⟨#[]⟩ : ByteArray)] from rfl) (Reps.none _ _)))); intro v120 w36 ho37 hb hg_ hnew_; clear hg_ hnew_; (first | rw [← Ny102.out] at ho37 | (simp only [Int.reduceToNat] at ho37; rw [← Ny102.out] at ho37)); replace HO_100001 := q0 (Kd.R_below (qr HO_100001.out) hb); have HO121 := q0 (Kd.R_lower (Kd.R_new' (Kd.R_new' ho37 (Kd.R_lt (qr HO_15.out))) (Kd.R_lt (qr HO119.out))) (below_size (qb HB.out))); replace HO_15 := q0 (Kd.R_elder' (qr HO_15.out) (Kd.R_base ho37) hb); replace HO119 := q0 (Kd.R_elder' (qr HO119.out) (Kd.R_base ho37) hb); replace BK108 := kd BK108 hb; replace BK111 := kd BK111 hb; replace HB := bp HB hb; clear hb ho37; obtain ⟨Ao39, co39, eo39⟩ := Kd.R_slice HO121.out; subst eo39) | ((with_reducible refine gate_builtin (b := .append) (xs := #[.tmp 22, .tmp 23]) rfl ?_); (try (refine gate_guard (by rfl) ?_; dsimp only)); at_builtin; refine Kd.R_append_rows Kd.string (w0 := w) w.heap.size rfl (.tmp 22) (.tmp 23) 43 9 (.string ⟨#[]⟩) 16 rfl Tryd.underlying43 info9 rfl (by decide) (by omega) v118 t101 y102 _ _ _ (fun k_ => some k_ ≠ (.slice (some ad117) t100.length co11 : Value).ownBlock ∧ some k_ ≠ (.slice Ao39 y102.length co39 : Value).ownBlock) (fun _ => False) rfl rfl ?aO ?aR (fun _ _ h => h) (fun _ h => h.elim) ?aF ?aB ?aS ?aL ?_; (case aR => repeat (first | exact (Kd.R_reads' HO121.out).2.2 | (with_reducible refine Kd.C_alloc ?_ _) | (with_reducible refine Kd.C_drewN ?_ _) | (with_reducible refine Kd.C_drew ?_))); (case aB => exact (qb HB.out)); (case aF => exact (fun k_ hk => ⟨Kd.fresh' (Kd.R_lt (qr HO_15.out)) k_ hk, Kd.fresh' (Kd.R_lt (qr HO121.out)) k_ hk⟩)); (case aO => exact (by (with_reducible repeat (first | apply Kd.R_alloc | apply Kd.R_drewN | apply Kd.R_drew)); exact Kd.R_mono HO119.out (fun _ hk => ⟨hk.1.2, hk.2⟩))); (case aS => exact (below_size (qb HB.out))); (case aL => have := LMc16.out; omega); intro v122 w38 ho hb hg hat; rw [← Ny103.out] at ho; replace HO_15 := q0 (Kd.R_after (ok := (fun k_ => some k_ ≠ (.slice Ao39 y102.length co39 : Value).ownBlock)) (by (with_reducible repeat (first | apply Kd.R_alloc | apply Kd.R_drewN | apply Kd.R_drew)); exact Kd.R_mono HO_15.out (fun _ hk => ⟨hk.2, hk.1.2⟩)) hg hat); replace HO_100001 := q0 (Kd.R_over' (qr HO_100001.out) (Kd.R_typed (qr HO119.out)) (by decide) hg); replace BK108 := q0 (blk_grown (g := gb108) (o := .cells #[.int .i64 0, .slice none 0 0] 24 (0, 0)) (qk BK108.out) hg (Kd.R_ne HO119.out BK108.out (by decide))); replace BK111 := q0 (blk_grown (g := gb111) (o := .cells #[.int .i64 x100000_1, u100001] 24 (0, 0)) (qk BK111.out) hg (Kd.R_ne HO119.out BK111.out (by decide))); replace HO121 := q0 (Kd.R_after (ok := (fun k_ => some k_ ≠ (.slice (some ad117) t100.length co11 : Value).ownBlock)) (by (with_reducible repeat (first | apply Kd.R_alloc | apply Kd.R_drewN | apply Kd.R_drew)); exact Kd.R_mono HO121.out (fun _ hk => ⟨hk.1.2, hk.2⟩)) hg hat); replace HB := q0 (hb); have HO123 := q0 (ho); clear HO119; clear ho hb hg hat; obtain ⟨Ao40, co40, eo40⟩ := Kd.R_slice HO123.out; subst eo40; have p124 : 0 ≤ (1 : Int) := (by omega); have q124 : 1 < (y103.length : Int) := of_decide_eq_true qa; obtain ⟨ad124, e124, hx124_0⟩ := Kd.at_string (Kd.R_reads' HO123.out).2.2 1 p124 q124; cases e124; (try simp only [show (1 : Int).toNat = 1 from rfl, Nat.reduceMul, Nat.reduceEqDiff, Go.Addr.add, ↓reduceIte] at hx124_0); have qi124 : (1 < y103.length) = True := eq_true (by omega); (try rw [show ((1 : Int)).toNat = 1 from rfl] at hx124_0); replace p124 := eq_true p124; replace q124 := eq_true q124) | ((with_reducible refine gf 25 ?_); refine gl 29 Tryd.func25 #[.string (rdOf ByteArray.empty y103 1)] ?_; (with_reducible refine (strconv_Atoi_25.calls k1 (rdOf ByteArray.empty y103 1) t104 _ ?sideG A18.out).mono ?_); (case sideG => exact HG_.out.below (qb HB.out)); rintro e w41 ⟨⟨ev_, rfl⟩, hb⟩; refine ⟨_, rfl, ?_⟩; replace HO_15 := q0 (Kd.R_below (qr HO_15.out) hb); replace HO_100001 := q0 (Kd.R_below (qr HO_100001.out) hb); replace HO121 := q0 (Kd.R_below (qr HO121.out) hb); replace HO123 := q0 (Kd.R_below (qr HO123.out) hb); replace BK108 := kd BK108 hb; replace BK111 := kd BK111 hb; replace HB := bp HB hb; (try clear hb); (try clear hb2); (try clear hk); (try clear hi); have p125 : 0 ≤ (2 : Int) := (by omega); have q125 : 2 < (y103.length : Int) := of_decide_eq_true qa; obtain ⟨ad125, e125, hx125_0⟩ := Kd.at_string (Kd.R_reads' HO123.out).2.2 2 p125 q125; obtain rfl : ad124 = ad125 := (by injection e125); (try simp only [show (2 : Int).toNat = 2 from rfl, Nat.reduceMul, Nat.reduceEqDiff, Go.Addr.add, ↓reduceIte] at hx125_0); have qi125 : (2 < y103.length) = True := eq_true (by omega); (try rw [show ((2 : Int)).toNat = 2 from rfl] at hx125_0); replace p125 := eq_true p125; replace q125 := eq_true q125) | ((with_reducible refine gf 25 ?_); refine gl 36 Tryd.func25 #[.string (rdOf ByteArray.empty y103 2)] ?_; (with_reducible refine (strconv_Atoi_25.calls k1 (rdOf ByteArray.empty y103 2) t105 _ ?sideG A20.out).mono ?_); (case sideG => exact HG_.out.below (qb HB.out)); rintro e w42 ⟨⟨ev_, rfl⟩, hb⟩; refine ⟨_, rfl, ?_⟩; replace HO_15 := q0 (Kd.R_below (qr HO_15.out) hb); replace HO_100001 := q0 (Kd.R_below (qr HO_100001.out) hb); replace HO121 := q0 (Kd.R_below (qr HO121.out) hb); replace HO123 := q0 (Kd.R_below (qr HO123.out) hb); replace BK108 := kd BK108 hb; replace BK111 := kd BK111 hb; replace HB := bp HB hb; (try clear hb); (try clear hb2); (try clear hk); (try clear hi); have p126 : 0 ≤ (0 : Int) := (by omega); have q126 : 0 < (y103.length : Int) := of_decide_eq_true qa; obtain ⟨ad126, e126, hx126_0⟩ := Kd.at_string (Kd.R_reads' HO123.out).2.2 0 p126 q126; obtain rfl : ad124 = ad126 := (by injection e126); have qi126 : (0 < y103.length) = True := eq_true (by omega); (try rw [show ((0 : Int)).toNat = 0 from rfl] at hx126_0); (try rw [Addr.add_zero'] at hx126_0); replace p126 := eq_true p126; replace q126 := eq_true q126; have hnb43 := NB111_108.out; have hnc43 := NB108_111.out; obtain ⟨hcz44_0, hcz44_1, hfz44_0, hfz44_1⟩ := b2 BK111) | ((with_reducible refine gate_builtin (b := .append) (xs := #[.tmp 49, .tmp 53]) rfl ?_); (try (refine gate_guard (by rfl) ?_; dsimp only)); at_builtin; refine Kd.R_append kTie (w0 := w) w.heap.size rfl (.tmp 49) (.tmp 53) 22 47 (.agg #[(.int .i64 0), (.int .i64 0)]) 16 rfl Tryd.underlying22 info47 rfl (by decide) (by omega) u100001 x100001_1 (⟨t104, t105⟩ : STie) [.int .i64 t104, .int .i64 t105] (fun _ => True) (fun _ => False) rfl rfl ?aP (fun _ hk => hk.elim) ?aF ?aO ?aB ?aS ?aL ?_; (case aP => exact kTie_mkM _ _ _ (⟨t104, t105⟩ : STie)); (case aB => exact (qb HB.out)); (case aF => exact (fun _ _ => trivial)); (case aO => exact (qr HO_100001.out)); (case aS => exact (below_size (qb HB.out))); (case aL => have := LMc34.out; omega); intro v128 w45 ho hb hg hat; rw [← Ny127.out] at ho; replace HO_15 := q0 (Kd.R_over' (qr HO_15.out) (Kd.R_typed (qr HO_100001.out)) (by decide) hg); replace BK108 := q0 (blk_grown (g := gb108) (o := .cells #[.int .i64 0, .slice none 0 0] 24 (0, 0)) (qk BK108.out) hg (Kd.R_ne HO_100001.out BK108.out (by decide))); replace BK111 := q0 (blk_grown (g := gb111) (o := .cells #[.int .i64 x100000_1, u100001] 24 (0, 0)) (qk BK111.out) hg (Kd.R_ne HO_100001.out BK111.out (by decide))); replace HO121 := q0 (Kd.R_over' (qr HO121.out) (Kd.R_typed (qr HO_100001.out)) (by decide) hg); replace HO123 := q0 (Kd.R_over' (qr HO123.out) (Kd.R_typed (qr HO_100001.out)) (by decide) hg); replace HB := q0 (hb); have HO129 := q0 (ho); clear HO_100001; clear ho hb hg hat; obtain ⟨Ao46, co46, eo46⟩ := Kd.R_slice HO129.out; subst eo46; obtain ⟨hcz47_0, hcz47_1, hfz47_0, hfz47_1⟩ := b2 BK111))
 go_roundg k1
 case measure => have := HK1.out; omega
 case rel => exact ⟨(wrap64 (x17_1 + 1)), (x100000_1), (y127), (.slice Ao46 y127.length co46), qs, H', ⟨by have := HK1.out; omega⟩, ⟨by (with_reducible repeat (first | apply Kd.R_alloc | apply Kd.R_drewN | apply Kd.R_drew)); exact Kd.R_mono (Kd.R_far (p := ⟨gb111, 1, none⟩) (Kd.R_types HO_15.out BK111.out (by decide)) (fun _ hk => hk.2) (.slice Ao46 y127.length co46)) (fun _ hk => trivial)⟩, ⟨by (with_reducible repeat (first | apply Kd.R_alloc | apply Kd.R_drewN | apply Kd.R_drew)); exact Kd.R_mono (Kd.R_far (p := ⟨gb111, 1, none⟩) (Kd.R_types HO129.out BK111.out (by decide)) (fun _ hk => hk.2) (.slice Ao46 y127.length co46)) (fun _ hk => trivial)⟩, ⟨qf BK108.out⟩, ⟨by (with_reducible repeat (first | refine blk_drewN ?_ _ | refine blk_drew ?_ | refine blk_alloc ?_ _)); refine blk_put (cs := #[.int .i64 x100000_1, u100001]) ?_ 1 _ rfl; (with_reducible repeat (first | refine blk_drewN ?_ _ | refine blk_drew ?_ | refine blk_alloc ?_ _)); exact BK111.out⟩, ⟨qb HB.out⟩⟩

end Go.Proofs.YtloonheabfdgbaaDoor.P
