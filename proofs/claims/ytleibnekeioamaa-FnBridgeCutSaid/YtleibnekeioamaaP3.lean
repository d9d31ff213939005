import Derived.Test.YtleibnekeioamaaP0
import Derived.Test.YtleibnekeioamaaP1
import Derived.Test.YtleibnekeioamaaP2
namespace Go.Proofs.Ytleibnekeioamaa.P
open Go.RowKit Go.Proofs.YtleibnekeioamaaW.PrintWords Go.Proofs.YtleibnekeioamaaW.PrintLast Go.Proofs.YtleibnekeioamaaW.PrintMore
attribute [local go_sem] max2_int min2_int max_two min_two max_three min_three max_four min_four
set_option linter.unusedVariables false
set_option linter.unusedSimpArgs false
attribute [local go_sem high] eqATie
attribute [local go_sem high] eqATie
def spec_NetCut.T7 : Bool × List (List Nat × List Nat) := (true, [([], []), ([0], [0]), ([], []), ([1, 2], [1, 2]), ([3], [3]), ([], []), ([], []), ([5, 6], [5, 6]), ([4, 7], [4, 7])])
def spec_NetCut.B7 : List Nat := [0, 1, 0, 7, 15, 0, 0, 96, 255]
theorem spec_NetCut.tab7 : rtab .any (opsOf Try.f25 7) = spec_NetCut.T7 := by kernel_rfl
theorem spec_NetCut.bits7 : waitsOk spec_NetCut.T7.2 spec_NetCut.B7 = true := by kernel_rfl
def spec_NetCut.T8 : Bool × List (List Nat × List Nat) := (true, [([], []), ([0], [0]), ([], []), ([2], [2]), ([], []), ([3, 4], [3, 4]), ([5], [5]), ([6], [6]), ([1, 7], [1, 7]), ([0, 1, 2, 3, 4, 5, 6, 7, 8], []), ([9, 8, 8, 0, 1, 2, 3, 4, 5, 6, 7, 8], [8, 9])])
def spec_NetCut.B8 : List Nat := [0, 1, 0, 4, 0, 28, 60, 124, 255, 511, 1023]
theorem spec_NetCut.tab8 : rtab .any (opsOf Try.f25 8) = spec_NetCut.T8 := by kernel_rfl
theorem spec_NetCut.bits8 : waitsOk spec_NetCut.T8.2 spec_NetCut.B8 = true := by kernel_rfl
set_option maxHeartbeats 8000000 in
set_option maxRecDepth 100000 in
theorem spec_NetCut.calls (k : Nat) (a0_0 : Int) (A0_1 : Option Addr) (c0_1 : Nat) (l0_1 : List (STie)) (a1 : Int) (a2 : Int) (r1 : Int) (r2 : List (STie)) (r3 : Bool) (w : World) (hr0_1 : Kd.C kTie w A0_1 l0_1.length l0_1) (hc0_1 : l0_1.length ≤ c0_1) (h : spec_NetCut.f k a0_0 l0_1 a1 a2 = some (r1, r2, r3)) :
    Calls Try.prog 25 #[.agg #[.int .i64 a0_0, .slice A0_1 l0_1.length c0_1], .int .i64 a1, .int .i64 a2] w fun e w' => ∃ v1_ : Value, e = .returned (.tuple #[.agg #[.int .i64 r1, v1_], .bool r3]) ∧ Kd.R kTie 32 w' w.heap.size (fun _ => True) v1_ r2 ∧ Below w.heap.size w w' := by
 have hu25 := Try.underlying25
 have hu32 := Try.underlying32
 have HR0_1 := q0 hr0_1
 have HC0_1 := q0 hc0_1
 clear hr0_1 hc0_1
 have HB := q0 (Below.refl w.heap.size w)
 have H : ((spec_NetHas.f k a0_0 l0_1 a1 a2).bind fun t103 => (if t103 = true then (spec_NetCut.l0 k a1 a2 0 a0_0 l0_1 a0_0 ([] : List (STie))) else (some (0, ([] : List (STie)), false)))) = some (r1, r2, r3) := h
 clear h
 obtain ⟨t103, A4, H⟩ := ob H
 by_cases c5 : t103 = true
 rotate_left
 · replace c5 := Bool.eq_false_iff.mpr c5
   subst c5
   rw [if_neg nf] at H
   simp only [Option.some.injEq, Prod.mk.injEq] at H
   obtain ⟨rfl, rfl, rfl⟩ := H
   go_enter Try.func25, Try.ntmps25
   go_wp2_with (first | ((with_reducible refine gd 3 ?_); refine be 3 #[.int .i64 a0_0, .slice A0_1 l0_1.length c0_1] 25 ?_; intro gb104 hg w42 hbox hb; have BK104 := q0 (hbox); have GW104 := gw HB hg; have GE104 := gw HB hg; replace HB := bp HB hb; clear hb hbox hg) | ((with_reducible refine gd 6 ?_); refine be 6 #[.int .i64 0, .slice none 0 0] 25 ?_; intro gb100 hg w43 hbox hb; have BK100 := q0 (hbox); have GW100 := gw HB hg; have GE100 := gw HB hg; replace HB := bp HB hb; have NB104_100 := nl BK104 hg; have NB100_104 := ng BK104 hg; replace BK104 := kd BK104 hb; clear hb hbox hg; have hnb44 := NB104_100.out; have hnc44 := NB100_104.out; obtain ⟨hcz45_0, hcz45_1, hfz45_0, hfz45_1⟩ := b2 BK104) | ((with_reducible refine gf 33 ?_); refine gl 13 Try.func33 #[.agg #[.int .i64 a0_0, .slice A0_1 l0_1.length c0_1], .int .i64 a1, .int .i64 a2] ?_; (with_reducible refine (spec_NetHas.calls k a0_0 _ _ l0_1 a1 a2 false _ ?side1 ?side2 A4.out).mono ?_); (case side1 => exact qc (Kd.C_below HR0_1.out HB.out)); (case side2 => exact HC0_1.out); rintro e w46 ⟨rfl, hb⟩; refine ⟨_, rfl, ?_⟩; replace BK104 := kd BK104 hb; replace BK100 := kd BK100 hb; replace HB := bp HB hb; (try clear hb); (try clear hb2); (try clear hk); (try clear hi); obtain ⟨hcz47_0, hcz47_1, hfz47_0, hfz47_1⟩ := b2 BK100))
   refine bodyPost_ret (results_ct rfl _ _ gb100 25 #[.int .i64 0, .slice none 0 0] (0, 0) _ rfl (by (with_reducible repeat (first | refine blk_drewN ?_ _ | refine blk_drew ?_ | refine blk_alloc ?_ _)); refine blk_put (cs := #[.int .i64 0, .slice none 0 0]) ?_ 1 _ rfl; (with_reducible repeat (first | refine blk_drewN ?_ _ | refine blk_drew ?_ | refine blk_alloc ?_ _)); refine blk_put (cs := #[.int .i64 0, .slice none 0 0]) ?_ 0 _ rfl; (with_reducible repeat (first | refine blk_drewN ?_ _ | refine blk_drew ?_ | refine blk_alloc ?_ _)); exact BK100.out) Try.underlying25 rfl (by kernel_rfl)) rfl ?_
   exact ⟨_, qe, by first | exact Kd.R_nil _ _ _ _ _ | exact Kd.N_nil _ _ _ _ _ | exact Kd.V_nil _ _ _ _ _ | exact Kd.Q_nil _ _ _ _ _ | exact Kd.S_nil _ _ _ _ _, qb HB.out⟩
 subst c5
 rw [if_pos rfl] at H
 have H' := q0 H
 clear H
 go_enter Try.func25, Try.ntmps25
 go_wp2_with (first | ((with_reducible refine gd 3 ?_); refine be 3 #[.int .i64 a0_0, .slice A0_1 l0_1.length c0_1] 25 ?_; intro gb104 hg w6 hbox hb; have BK104 := q0 (hbox); have GW104 := gw HB hg; have GE104 := gw HB hg; replace HB := bp HB hb; clear hb hbox hg) | ((with_reducible refine gd 6 ?_); refine be 6 #[.int .i64 0, .slice none 0 0] 25 ?_; intro gb100 hg w7 hbox hb; have BK100 := q0 (hbox); have GW100 := gw HB hg; have GE100 := gw HB hg; replace HB := bp HB hb; have NB104_100 := nl BK104 hg; have NB100_104 := ng BK104 hg; replace BK104 := kd BK104 hb; clear hb hbox hg; have hnb8 := NB104_100.out; have hnc8 := NB100_104.out; obtain ⟨hcz9_0, hcz9_1, hfz9_0, hfz9_1⟩ := b2 BK104) | ((with_reducible refine gf 33 ?_); refine gl 13 Try.func33 #[.agg #[.int .i64 a0_0, .slice A0_1 l0_1.length c0_1], .int .i64 a1, .int .i64 a2] ?_; (with_reducible refine (spec_NetHas.calls k a0_0 _ _ l0_1 a1 a2 true _ ?side1 ?side2 A4.out).mono ?_); (case side1 => exact qc (Kd.C_below HR0_1.out HB.out)); (case side2 => exact HC0_1.out); rintro e w10 ⟨rfl, hb⟩; refine ⟨_, rfl, ?_⟩; replace BK104 := kd BK104 hb; replace BK100 := kd BK100 hb; replace HB := bp HB hb; (try clear hb); (try clear hb2); (try clear hk); (try clear hi); obtain ⟨hcz11_0, hcz11_1, hfz11_0, hfz11_1⟩ := b2 BK104) | ((with_reducible refine gd 8 ?_); refine be 8 #[.int .i64 0, .slice none 0 0] 25 ?_; intro gb105 hg w12 hbox hb; have BK105 := q0 (hbox); have GW105 := gw HB hg; have GE105 := gw HB hg; replace HB := bp HB hb; have NB104_105 := nl BK104 hg; have NB105_104 := ng BK104 hg; replace BK104 := kd BK104 hb; have NB100_105 := nl BK100 hg; have NB105_100 := ng BK100 hg; replace BK100 := kd BK100 hb; clear hb hbox hg; have hnb13 := NB105_104.out; have hnc13 := NB104_105.out; have hnb14 := NB105_100.out; have hnc14 := NB100_105.out; obtain ⟨hcz15_0, hcz15_1, hfz15_0, hfz15_1⟩ := b2 BK105))
 go_loopg [9] k (fun kq v9 w' => ∃ (x9_1 : Int) (x101001_1 : List (STie)) (u101001 : Value), v9 = .int .i64 x9_1 ∧ Aside0 (spec_NetCut.l0 kq a1 a2 x9_1 a0_0 l0_1 a0_0 x101001_1 = some (r1, r2, r3)) ∧ Aside0 (kq ≤ k) ∧ Aside0 (Kd.R kTie 32 w' w.heap.size (fun _ => True) u101001 x101001_1) ∧ Aside0 (w'.heap[gb104]? = some (.cells #[.int .i64 a0_0, (.slice A0_1 l0_1.length c0_1)] 25 (0, 0))) ∧ Aside0 (w'.heap[gb100]? = some (.cells #[.int .i64 0, (.slice none 0 0)] 25 (0, 0))) ∧ Aside0 (w'.heap[gb105]? = some (.cells #[.int .i64 a0_0, u101001] 25 (0, 0))) ∧ Aside0 (Below w.heap.size w w'))
 case atStart => exact ⟨(0), (([] : List (STie))), (.slice none 0 0), qs, H', ⟨Nat.le_refl _⟩, ⟨by first | exact Kd.R_nil _ _ _ _ _ | exact Kd.N_nil _ _ _ _ _ | exact Kd.V_nil _ _ _ _ _ | exact Kd.Q_nil _ _ _ _ _ | exact Kd.S_nil _ _ _ _ _⟩, ⟨qf BK104.out⟩, ⟨qf BK100.out⟩, ⟨by (with_reducible repeat (first | refine blk_drewN ?_ _ | refine blk_drew ?_ | refine blk_alloc ?_ _)); refine blk_put (cs := #[.int .i64 a0_0, .slice none 0 0]) ?_ 1 _ rfl; (with_reducible repeat (first | refine blk_drewN ?_ _ | refine blk_drew ?_ | refine blk_alloc ?_ _)); refine blk_put (cs := #[.int .i64 0, .slice none 0 0]) ?_ 0 _ rfl; (with_reducible repeat (first | refine blk_drewN ?_ _ | refine blk_drew ?_ | refine blk_alloc ?_ _)); exact BK105.out⟩, ⟨qb HB.out⟩⟩
 clear H'
 try clear c1
 try clear c2
 try clear p2
 try clear c3
 try clear c5
 try clear c8
 try clear c13
 try clear c14
 try clear hcz11_0
 try clear hcz11_1
 try clear hcz15_0
 try clear hcz15_1
 try clear hcz9_0
 try clear hcz9_1
 try clear hfz11_0
 try clear hfz11_1
 try clear hfz15_0
 try clear hfz15_1
 try clear hfz9_0
 try clear hfz9_1
 obtain ⟨x9_1, x101001_1, u101001, rfl, HA, HK1, HO_101001, BK104, BK100, BK105, HB⟩ := hrel
 rcases gk with _ | k1
 · exact absurd HA.out (by simp [spec_NetCut.l0])
 have H := HA.out
 clear HA
 simp only [spec_NetCut.l0] at H
 by_cases c16 : x9_1 < (l0_1.length : Int)
 rotate_left
 · rw [if_neg c16] at H
   have c16b0 := decide_eq_false c16
   clear c16
   simp only [Option.some.injEq, Prod.mk.injEq] at H
   obtain ⟨rfl, rfl, rfl⟩ := H
   have hnb35 := NB104_100.out
   have hnc35 := NB100_104.out
   have hnb36 := NB104_105.out
   have hnc36 := NB105_104.out
   obtain ⟨hcz37_0, hcz37_1, hfz37_0, hfz37_1⟩ := b2 BK104
   have hnb38 := NB105_100.out
   have hnc38 := NB100_105.out
   obtain ⟨hcz39_0, hcz39_1, hfz39_0, hfz39_1⟩ := b2 BK105
   obtain ⟨hcz40_0, hcz40_1, hfz40_0, hfz40_1⟩ := b2 BK100
   obtain ⟨Ao41, co41, eo41⟩ := Kd.R_slice HO_101001.out
   subst eo41
   go_wp2
   refine bodyPost_ret (results_ct rfl _ _ gb100 25 #[.int .i64 a0_0, .slice Ao41 x101001_1.length co41] (0, 0) _ rfl (by (with_reducible repeat (first | refine blk_drewN ?_ _ | refine blk_drew ?_ | refine blk_alloc ?_ _)); refine blk_put (cs := #[.int .i64 a0_0, .slice none 0 0]) ?_ 1 _ rfl; (with_reducible repeat (first | refine blk_drewN ?_ _ | refine blk_drew ?_ | refine blk_alloc ?_ _)); refine blk_put (cs := #[.int .i64 0, .slice none 0 0]) ?_ 0 _ rfl; (with_reducible repeat (first | refine blk_drewN ?_ _ | refine blk_drew ?_ | refine blk_alloc ?_ _)); exact BK100.out) Try.underlying25 rfl (by kernel_rfl)) rfl ?_
   exact ⟨_, qe, by (with_reducible repeat (first | apply Kd.R_alloc | apply Kd.R_drewN | apply Kd.R_drew)); exact rf2 HO_101001.out BK100.out (fun _ hk => trivial), qb HB.out⟩
 rw [if_pos c16] at H
 have c16b0 := decide_eq_true c16
 clear c16
 obtain ⟨c17, H⟩ : (0 ≤ x9_1) ∧ _ := og H
 have c17b0 := decide_eq_true c17
 clear c17
 obtain ⟨⟨t102, t106⟩, A18, H⟩ := ob H
 by_cases c19 : (!(((rd_TTie l0_1 x9_1).f0) == t102) || (!(((rd_TTie l0_1 x9_1).f1) == t106))) = true
 rotate_left
 · rw [if_neg c19] at H
   have c19b0 : (!(((rd_TTie l0_1 x9_1).f0) == t102) || (!(((rd_TTie l0_1 x9_1).f1) == t106))) = false := by simpa using c19
   clear c19
   have H' := q0 H
   clear H
   have hnb30 := NB104_100.out
   have hnc30 := NB100_104.out
   have hnb31 := NB104_105.out
   have hnc31 := NB105_104.out
   obtain ⟨hcz32_0, hcz32_1, hfz32_0, hfz32_1⟩ := b2 BK104
   try go_wp2
   replace HO_101001 := q0 (Kd.R_drew HO_101001.out)
   replace BK104 := q0 (blk_drew BK104.out)
   replace BK100 := q0 (blk_drew BK100.out)
   replace BK105 := q0 (blk_drew BK105.out)
   replace HB := q0 (below_drew1 HB.out)
   have p101 : 0 ≤ (x9_1 : Int) := of_decide_eq_true qa
   have q101 : x9_1 < (l0_1.length : Int) := of_decide_eq_true qa
   obtain ⟨ad101, e101, hx101_0, hx101_1⟩ := at_TTie HR0_1.out x9_1 p101 q101
   have hw101_1 := hx101_1
   have hw101_0 := hx101_0
   cases e101
   replace hx101_0 := hcl HB.out hx101_0
   replace hx101_1 := hcl HB.out hx101_1
   replace p101 := eq_true p101
   replace q101 := eq_true q101
   refine start_ (n := 9) (S := fun w' => w'.cell? ⟨gb104, 0, none⟩ = some (.int .i64 a0_0) ∧ w'.cell? ⟨gb104, 1, none⟩ = some (.slice (some ad101) l0_1.length c0_1) ∧ w'.cell? (ad101.add ((x9_1).toNat * 2)) = some (.int .i64 ((rd_TTie l0_1 x9_1).f0)) ∧ w'.cell? ⟨(ad101.add ((x9_1).toNat * 2)).block, (ad101.add ((x9_1).toNat * 2)).off + 1, none⟩ = some (.int .i64 ((rd_TTie l0_1 x9_1).f1))) (ds := []) (ba 9 0) (by kernel_rfl) rfl (by kernel_rfl) ⟨bca BK104, bcb BK104, ((HB.out.cell (World.block_lt_of_cell? w _ hw101_0)).trans hw101_0), ((HB.out.cell (World.block_lt_of_cell? w _ hw101_1)).trans hw101_1)⟩ (fun hHeld => ?_); refine with_tabW spec_NetCut.tab7 spec_NetCut.bits7 (fun HT_ HW_ => ?_)
   generalize wr.drew = w33 at HO_101001 BK104 BK100 BK105 HB hx101_0 hx101_1 hHeld ⊢
   refine pU 0 26 9 1 HT_ ?_
   refine pU 2 28 9 5 HT_ ?_
   refine pU 5 31 9 37 HT_ ?_
   refine pU 6 32 9 101 HT_ ?_
   refine tU 1 27 9 103 HT_ HW_ hHeld ?_
   refine pU 3 29 9 111 HT_ ?_
   refine tU 4 30 9 127 HT_ HW_ hHeld ?_
   refine one_ (i := 7) (N := some 33) (ba 9 255) rfl rfl (one_of HT_.out (by kernel_rfl)) (by decide) (fun K hK => ?_)
   refine goes_ Try.func34 (by kernel_rfl) rfl #[.int .i64 a1, .int .i64 a2] (by rfl) rfl rfl qm ?_
   with_reducible refine (spec_l1Tie.calls a1 a2 t102 t106 _ A18.out).mono ?_
   rintro e w34 ⟨rfl, hb⟩
   refine ⟨_, rfl, ?_⟩
   replace HO_101001 := q0 (Kd.R_below (qr HO_101001.out) hb)
   replace BK104 := kd BK104 hb
   replace BK100 := kd BK100 hb
   replace BK105 := kd BK105 hb
   replace HB := bp HB hb
   (try clear hb)
   (try clear hb2)
   (try clear hk)
   (try clear hi)
   refine hK.out _ _ ⟨bca BK104, bcb BK104, ((HB.out.cell (World.block_lt_of_cell? w _ hw101_0)).trans hw101_0), ((HB.out.cell (World.block_lt_of_cell? w _ hw101_1)).trans hw101_1)⟩ (fun hHeld => ?_)
   clear hK K
   refine nu 33 ?_
   refine pU 8 34 9 511 HT_ ?_
   refine done_ (done_of HT_.out (by kernel_rfl)) ?_
   try go_wp2
   go_roundg k1
   case measure => have := HK1.out; omega
   case rel => exact ⟨(wrap64 (x9_1 + 1)), (x101001_1), (u101001), qs, H', ⟨by have := HK1.out; omega⟩, ⟨qr HO_101001.out⟩, ⟨qk BK104.out⟩, ⟨qk BK100.out⟩, ⟨qk BK105.out⟩, ⟨qb HB.out⟩⟩
 rw [if_pos c19] at H
 have c19b0 : (!(((rd_TTie l0_1 x9_1).f0) == t102) || (!(((rd_TTie l0_1 x9_1).f1) == t106))) = true := c19
 clear c19
 obtain ⟨c20, H⟩ : (x101001_1.length < 8796093022208) ∧ _ := og H
 have LMc20 := q0 c20
 clear c20
 obtain ⟨y108, hy108⟩ : ∃ y_ : List (STie), y_ = (x101001_1 ++ [(⟨(rd_TTie l0_1 x9_1).f0, (rd_TTie l0_1 x9_1).f1⟩ : STie)]) := ⟨_, rfl⟩
 replace H : (spec_NetCut.l0 k1 a1 a2 (wrap64 (x9_1 + 1)) a0_0 l0_1 a0_0 y108) = some (r1, r2, r3) := qy H hy108
 have Ny108 := q0 hy108
 clear hy108
 have H' := q0 H
 clear H
 have hnb21 := NB104_100.out
 have hnc21 := NB100_104.out
 have hnb22 := NB104_105.out
 have hnc22 := NB105_104.out
 obtain ⟨hcz23_0, hcz23_1, hfz23_0, hfz23_1⟩ := b2 BK104
 try go_wp2
 replace HO_101001 := q0 (Kd.R_drew HO_101001.out)
 replace BK104 := q0 (blk_drew BK104.out)
 replace BK100 := q0 (blk_drew BK100.out)
 replace BK105 := q0 (blk_drew BK105.out)
 replace HB := q0 (below_drew1 HB.out)
 have p101 : 0 ≤ (x9_1 : Int) := of_decide_eq_true qa
 have q101 : x9_1 < (l0_1.length : Int) := of_decide_eq_true qa
 obtain ⟨ad101, e101, hx101_0, hx101_1⟩ := at_TTie HR0_1.out x9_1 p101 q101
 have hw101_1 := hx101_1
 have hw101_0 := hx101_0
 cases e101
 replace hx101_0 := hcl HB.out hx101_0
 replace hx101_1 := hcl HB.out hx101_1
 replace p101 := eq_true p101
 replace q101 := eq_true q101
 refine start_ (n := 9) (S := fun w' => w'.cell? ⟨gb104, 0, none⟩ = some (.int .i64 a0_0) ∧ w'.cell? ⟨gb104, 1, none⟩ = some (.slice (some ad101) l0_1.length c0_1) ∧ w'.cell? (ad101.add ((x9_1).toNat * 2)) = some (.int .i64 ((rd_TTie l0_1 x9_1).f0)) ∧ w'.cell? ⟨(ad101.add ((x9_1).toNat * 2)).block, (ad101.add ((x9_1).toNat * 2)).off + 1, none⟩ = some (.int .i64 ((rd_TTie l0_1 x9_1).f1))) (ds := []) (ba 9 0) (by kernel_rfl) rfl (by kernel_rfl) ⟨bca BK104, bcb BK104, ((HB.out.cell (World.block_lt_of_cell? w _ hw101_0)).trans hw101_0), ((HB.out.cell (World.block_lt_of_cell? w _ hw101_1)).trans hw101_1)⟩ (fun hHeld => ?_); refine with_tabW spec_NetCut.tab7 spec_NetCut.bits7 (fun HT_ HW_ => ?_)
 generalize wr.drew = w24 at HO_101001 BK104 BK100 BK105 HB hx101_0 hx101_1 hHeld ⊢
 refine pU 0 26 9 1 HT_ ?_
 refine pU 2 28 9 5 HT_ ?_
 refine pU 5 31 9 37 HT_ ?_
 refine pU 6 32 9 101 HT_ ?_
 refine tU 1 27 9 103 HT_ HW_ hHeld ?_
 refine pU 3 29 9 111 HT_ ?_
 refine tU 4 30 9 127 HT_ HW_ hHeld ?_
 refine one_ (i := 7) (N := some 33) (ba 9 255) rfl rfl (one_of HT_.out (by kernel_rfl)) (by decide) (fun K hK => ?_)
 refine goes_ Try.func34 (by kernel_rfl) rfl #[.int .i64 a1, .int .i64 a2] (by rfl) rfl rfl qm ?_
 with_reducible refine (spec_l1Tie.calls a1 a2 t102 t106 _ A18.out).mono ?_
 rintro e w25 ⟨rfl, hb⟩
 refine ⟨_, rfl, ?_⟩
 replace HO_101001 := q0 (Kd.R_below (qr HO_101001.out) hb)
 replace BK104 := kd BK104 hb
 replace BK100 := kd BK100 hb
 replace BK105 := kd BK105 hb
 replace HB := bp HB hb
 (try clear hb)
 (try clear hb2)
 (try clear hk)
 (try clear hi)
 refine hK.out _ _ ⟨bca BK104, bcb BK104, ((HB.out.cell (World.block_lt_of_cell? w _ hw101_0)).trans hw101_0), ((HB.out.cell (World.block_lt_of_cell? w _ hw101_1)).trans hw101_1)⟩ (fun hHeld => ?_)
 clear hK K
 refine nu 33 ?_
 refine pU 8 34 9 511 HT_ ?_
 refine done_ (done_of HT_.out (by kernel_rfl)) ?_
 try go_wp2
 replace HO_101001 := q0 (Kd.R_drew HO_101001.out)
 replace BK104 := q0 (blk_drew BK104.out)
 replace BK100 := q0 (blk_drew BK100.out)
 replace BK105 := q0 (blk_drew BK105.out)
 replace HB := q0 (below_drew1 HB.out)
 have p109 : 0 ≤ (x9_1 : Int) := of_decide_eq_true qa
 have q109 : x9_1 < (l0_1.length : Int) := of_decide_eq_true qa
 obtain ⟨ad109, e109, hx109_0, hx109_1⟩ := at_TTie HR0_1.out x9_1 p109 q109
 have hw109_1 := hx109_1
 have hw109_0 := hx109_0
 obtain rfl : ad101 = ad109 := (by injection e109)
 replace hx109_0 := hcl HB.out hx109_0
 replace hx109_1 := hcl HB.out hx109_1
 replace p109 := eq_true p109
 replace q109 := eq_true q109
 refine start_ (n := 11) (S := fun w' => w'.cell? ⟨gb105, 0, none⟩ = some (.int .i64 a0_0) ∧ w'.cell? ⟨gb105, 1, none⟩ = some (u101001) ∧ w'.cell? ⟨gb104, 0, none⟩ = some (.int .i64 a0_0) ∧ w'.cell? ⟨gb104, 1, none⟩ = some (.slice (some ad101) l0_1.length c0_1) ∧ w'.cell? (ad101.add ((x9_1).toNat * 2)) = some (.int .i64 ((rd_TTie l0_1 x9_1).f0)) ∧ w'.cell? ⟨(ad101.add ((x9_1).toNat * 2)).block, (ad101.add ((x9_1).toNat * 2)).off + 1, none⟩ = some (.int .i64 ((rd_TTie l0_1 x9_1).f1))) (ds := [10]) (ba 11 0) (by kernel_rfl) rfl (by kernel_rfl) ⟨bca BK105, bcb BK105, bca BK104, bcb BK104, ((HB.out.cell (World.block_lt_of_cell? w _ hw109_0)).trans hw109_0), ((HB.out.cell (World.block_lt_of_cell? w _ hw109_1)).trans hw109_1)⟩ (fun hHeld => ?_); refine with_tabW spec_NetCut.tab8 spec_NetCut.bits8 (fun HT_ HW_ => ?_)
 generalize w25.drew = w26 at HO_101001 BK104 BK100 BK105 HB hx109_0 hx109_1 hHeld ⊢
 refine pU 0 35 11 1 HT_ ?_
 refine pU 2 37 11 5 HT_ ?_
 refine pU 4 39 11 21 HT_ ?_
 refine tU 1 36 11 23 HT_ HW_ hHeld ?_
 refine tU 3 38 11 31 HT_ HW_ hHeld ?_
 refine pU 5 40 11 63 HT_ ?_
 refine tU 6 41 11 127 HT_ HW_ hHeld ?_
 refine one_ (i := 7) (N := some 42) (ba 11 255) rfl rfl (one_of HT_.out (by kernel_rfl)) (by decide) (fun K hK => ?_)
 refine value_ (w1 := ?_) (v := ?_) (by rfl) rfl ?_ ?_
 rotate_left 2
 · go_simp
   constructor
   · rfl
   · rfl
 refine hK.out _ _ ⟨(blk_cell (blk_alloc BK105.out _) 0).trans rfl, (blk_cell (blk_alloc BK105.out _) 1).trans rfl, (blk_cell (blk_alloc BK104.out _) 0).trans rfl, (blk_cell (blk_alloc BK104.out _) 1).trans rfl, (World.cell?_alloc_lt _ _ _ (World.block_lt_of_cell? _ _ (((HB.out.cell (World.block_lt_of_cell? w _ hw109_0)).trans hw109_0)))).trans (((HB.out.cell (World.block_lt_of_cell? w _ hw109_0)).trans hw109_0)), (World.cell?_alloc_lt _ _ _ (World.block_lt_of_cell? _ _ (((HB.out.cell (World.block_lt_of_cell? w _ hw109_1)).trans hw109_1)))).trans (((HB.out.cell (World.block_lt_of_cell? w _ hw109_1)).trans hw109_1))⟩ (fun hHeld => ?_)
 clear hK K
 refine nu 42 ?_
 refine one_ (i := 8) (N := some 43) (ba 11 511) rfl rfl (one_of HT_.out (by kernel_rfl)) (by decide) (fun K hK => ?_)
 refine Kd.R_append_step kTie (w0 := w) w.heap.size (by rfl) (.tmp 36) (.tmp 42) 23 32 (.agg #[(.int .i64 0), (.int .i64 0)]) 16 rfl Try.underlying23 info32 rfl (by decide) (by omega) u101001 x101001_1 (⟨(rd_TTie l0_1 x9_1).f0, (rd_TTie l0_1 x9_1).f1⟩ : STie) [.int .i64 ((rd_TTie l0_1 x9_1).f0), .int .i64 ((rd_TTie l0_1 x9_1).f1)] (fun _ => True) (fun _ => False) rfl rfl ?aP (fun _ hk => hk.elim) ?aF ?aO ?aB ?aS ?aL ?_
 (case aP => exact kTie_mkM _ _ _ (⟨(rd_TTie l0_1 x9_1).f0, (rd_TTie l0_1 x9_1).f1⟩ : STie))
 (case aB => exact (qb HB.out))
 (case aF => exact (fun _ _ => trivial))
 (case aO => exact (qr HO_101001.out))
 (case aS => exact (below_size (qb HB.out)))
 (case aL => have := LMc20.out; omega)
 intro v110 w27 ho hb hg hat
 rw [← Ny108.out] at ho
 replace BK104 := q0 (blk_grown (g := gb104) (o := .cells #[.int .i64 a0_0, .slice (some ad101) l0_1.length c0_1] 25 (0, 0)) (qk BK104.out) hg (Kd.R_ne HO_101001.out BK104.out (by decide)))
 replace BK100 := q0 (blk_grown (g := gb100) (o := .cells #[.int .i64 0, .slice none 0 0] 25 (0, 0)) (qk BK100.out) hg (Kd.R_ne HO_101001.out BK100.out (by decide)))
 replace BK105 := q0 (blk_grown (g := gb105) (o := .cells #[.int .i64 a0_0, u101001] 25 (0, 0)) (qk BK105.out) hg (Kd.R_ne HO_101001.out BK105.out (by decide)))
 replace HB := q0 (hb)
 have HO111 := q0 (ho)
 clear HO_101001
 clear ho hb hg hat
 obtain ⟨Ao28, co28, eo28⟩ := Kd.R_slice HO111.out
 (first | subst eo28 | (injection eo28 with f1_ f2_ f3_; have f4_ := f1_.symm; have f5_ := f3_.symm; clear f1_ f2_ f3_; subst f4_; subst f5_))
 refine hK.out _ _ ⟨bca BK105, bcb BK105, bca BK104, bcb BK104, ((HB.out.cell (World.block_lt_of_cell? w _ hw109_0)).trans hw109_0), ((HB.out.cell (World.block_lt_of_cell? w _ hw109_1)).trans hw109_1)⟩ (fun hHeld => ?_)
 clear hK K
 refine nu 43 ?_
 refine pU 9 44 11 1023 HT_ ?_
 refine last_ (i := 10) (N := none) (ba 11 2047) rfl rfl (one_of HT_.out (by kernel_rfl)) (by decide) (fun K hK => ?_)
 have hs29 : w27.cell? ⟨gb105, 1, none⟩ = some (u101001) := (blk_cell BK105.out 1).trans rfl
 have hfs29 := blk_frozen BK105.out 1
 have hns29_0 := NB104_105.out
 have hns29_1 := NB100_105.out
 have hms29_0 := NB105_104.out
 have hms29_1 := NB105_100.out
 refine skip_ (w1 := ?_) (by rfl) rfl ?_ ?_
 rotate_left
 · go_simp
   rfl
 refine hK.out _ _ ?_
 clear hK K
 refine done_ (done_of HT_.out (by kernel_rfl)) ?_
 try go_wp2
 go_roundg k1
 case measure => have := HK1.out; omega
 case rel => exact ⟨(wrap64 (x9_1 + 1)), (y108), (.slice Ao28 y108.length co28), qs, H', ⟨by have := HK1.out; omega⟩, ⟨by (with_reducible repeat (first | apply Kd.R_alloc | apply Kd.R_drewN | apply Kd.R_drew)); exact Kd.R_mono (Kd.R_far (p := ⟨gb105, 1, none⟩) (Kd.R_types HO111.out BK105.out (by decide)) (fun _ hk => hk.2) (.slice Ao28 y108.length co28)) (fun _ hk => trivial)⟩, ⟨qf BK104.out⟩, ⟨qf BK100.out⟩, ⟨by (with_reducible repeat (first | refine blk_drewN ?_ _ | refine blk_drew ?_ | refine blk_alloc ?_ _)); refine blk_put (cs := #[.int .i64 a0_0, u101001]) ?_ 1 _ rfl; (with_reducible repeat (first | refine blk_drewN ?_ _ | refine blk_drew ?_ | refine blk_alloc ?_ _)); exact BK105.out⟩, ⟨qb HB.out⟩⟩

set_option maxHeartbeats 8000000 in
set_option maxRecDepth 100000 in
theorem spec_l2Next.calls (k : Nat) (a0_0 : Int) (A0_1 : Option Addr) (c0_1 : Nat) (l0_1 : List (STie)) (a1 : Int) (r : List Int) (w : World) (hr0_1 : Kd.C kTie w A0_1 l0_1.length l0_1) (hc0_1 : l0_1.length ≤ c0_1) (h : spec_l2Next.f k a0_0 l0_1 a1 = some r) :
    Calls Try.prog 43 #[.agg #[.int .i64 a0_0, .slice A0_1 l0_1.length c0_1], .int .i64 a1] w fun e w' => ∃ v0_ : Value, e = .returned (v0_) ∧ Kd.R (Kd.int .i64) 3 w' w.heap.size (fun _ => True) v0_ r ∧ Below w.heap.size w w' := by
 have hu25 := Try.underlying25
 have HR0_1 := q0 hr0_1
 have HC0_1 := q0 hc0_1
 clear hr0_1 hc0_1
 have HB := q0 (Below.refl w.heap.size w)
 have H : (spec_l2Next.l0 k a1 (([] : List Int)) 0 a0_0 l0_1) = some r := h
 clear h
 obtain ⟨y100, hy100⟩ : ∃ y_ : List Int, y_ = (([] : List Int)) := ⟨_, rfl⟩
 replace H : (spec_l2Next.l0 k a1 y100 0 a0_0 l0_1) = some r := qy H hy100
 have Ny100 := q0 hy100
 clear hy100
 have H' := q0 H
 clear H
 go_enter Try.func43, Try.ntmps43
 go_wp2_with (first | ((with_reducible refine gd 2 ?_); refine be 2 #[.int .i64 a0_0, .slice A0_1 l0_1.length c0_1] 25 ?_; intro gb102 hg w3 hbox hb; have BK102 := q0 (hbox); have GW102 := gw HB hg; have GE102 := gw HB hg; replace HB := bp HB hb; clear hb hbox hg) | ((with_reducible refine gd 7 ?_); refine Kd.R_lit (Kd.int .i64) _ 3 ?hg (N := 7) ?hd (xs := ([] : List Int)) (inner := []) (ok := fun _ => True) (okp := fun _ => True) ?hr ?hp (fun _ hk => hk) trivial (Below.refl _ _) (Nat.le_refl _) (by simp) ?_; (case hd => rfl); (case hg => rfl); (case hr => first | (go_simp; done) | (go_simp; rfl)); (case hp => exact (Reps.none _ _)); intro v103 w4 ho5 hb hg_ hnew_; clear hg_ hnew_; (first | rw [← Ny100.out] at ho5 | (simp only [Int.reduceToNat] at ho5; rw [← Ny100.out] at ho5)); have HO104 := q0 (Kd.R_lower ho5 (below_size (qb HB.out))); replace BK102 := kd BK102 hb; replace HB := bp HB hb; clear hb ho5))
 go_loopg [5, 6] k (fun kq v5 v6 w' => ∃ (x5_1 : List Int) (x6_1 : Int), v6 = .int .i64 x6_1 ∧ Aside0 (spec_l2Next.l0 kq a1 x5_1 x6_1 a0_0 l0_1 = some r) ∧ Aside0 (kq ≤ k) ∧ Aside0 (Kd.R (Kd.int .i64) 3 w' w.heap.size (fun _ => True) v5 x5_1) ∧ Aside0 (w'.heap[gb102]? = some (.cells #[.int .i64 a0_0, (.slice A0_1 l0_1.length c0_1)] 25 (0, 0))) ∧ Aside0 (Below w.heap.size w w'))
 case atStart => exact ⟨(y100), (0), qs, H', ⟨Nat.le_refl _⟩, ⟨qr HO104.out⟩, ⟨qk BK102.out⟩, ⟨qb HB.out⟩⟩
 clear H'
 try clear p2
 try clear c4
 obtain ⟨x5_1, x6_1, rfl, HA, HK1, HO_5, BK102, HB⟩ := hrel
 rcases gk with _ | k1
 · exact absurd HA.out (by simp [spec_l2Next.l0])
 have H := HA.out
 clear HA
 simp only [spec_l2Next.l0] at H
 by_cases c6 : x6_1 < a0_0
 rotate_left
 · rw [if_neg c6] at H
   have c6b0 := decide_eq_false c6
   clear c6
   obtain rfl := Option.some.inj H
   obtain ⟨hcz15_0, hcz15_1, hfz15_0, hfz15_1⟩ := b2 BK102
   go_wp2
   go_ret
   exact ⟨_, qe, qr HO_5.out, qb HB.out⟩
 rw [if_pos c6] at H
 have c6b0 := decide_eq_true c6
 clear c6
 obtain ⟨t101, A7, H⟩ := ob H
 by_cases c8 : t101 = true
 rotate_left
 · replace c8 := Bool.eq_false_iff.mpr c8
   subst c8
   rw [if_neg nf] at H
   have H' := q0 H
   clear H
   obtain ⟨hcz13_0, hcz13_1, hfz13_0, hfz13_1⟩ := b2 BK102
   go_wp2_with (first | ((with_reducible refine gf 40 ?_); refine gl 17 Try.func40 #[.agg #[.int .i64 a0_0, .slice A0_1 l0_1.length c0_1], .int .i64 a1, .int .i64 x6_1] ?_; (with_reducible refine (spec_l1Has.calls k1 a0_0 _ _ l0_1 a1 x6_1 false _ ?side1 ?side2 A7.out).mono ?_); (case side1 => exact qc (Kd.C_below HR0_1.out HB.out)); (case side2 => exact HC0_1.out); rintro e w14 ⟨rfl, hb⟩; refine ⟨_, rfl, ?_⟩; replace HO_5 := q0 (Kd.R_below (qr HO_5.out) hb); replace BK102 := kd BK102 hb; replace HB := bp HB hb; (try clear hb); (try clear hb2); (try clear hk); (try clear hi)))
   go_roundg k1
   case measure => have := HK1.out; omega
   case rel => exact ⟨(x5_1), (wrap64 (x6_1 + 1)), qs, H', ⟨by have := HK1.out; omega⟩, ⟨qr HO_5.out⟩, ⟨qk BK102.out⟩, ⟨qb HB.out⟩⟩
 subst c8
 rw [if_pos rfl] at H
 obtain ⟨c9, H⟩ : (x5_1.length < 17592186044416) ∧ _ := og H
 have LMc9 := q0 c9
 clear c9
 obtain ⟨y105, hy105⟩ : ∃ y_ : List Int, y_ = (x5_1 ++ [x6_1]) := ⟨_, rfl⟩
 replace H : (spec_l2Next.l0 k1 a1 y105 (wrap64 (x6_1 + 1)) a0_0 l0_1) = some r := qy H hy105
 have Ny105 := q0 hy105
 clear hy105
 have H' := q0 H
 clear H
 obtain ⟨hcz10_0, hcz10_1, hfz10_0, hfz10_1⟩ := b2 BK102
 go_wp2_with (first | ((with_reducible refine gf 40 ?_); refine gl 17 Try.func40 #[.agg #[.int .i64 a0_0, .slice A0_1 l0_1.length c0_1], .int .i64 a1, .int .i64 x6_1] ?_; (with_reducible refine (spec_l1Has.calls k1 a0_0 _ _ l0_1 a1 x6_1 true _ ?side1 ?side2 A7.out).mono ?_); (case side1 => exact qc (Kd.C_below HR0_1.out HB.out)); (case side2 => exact HC0_1.out); rintro e w11 ⟨rfl, hb⟩; refine ⟨_, rfl, ?_⟩; replace HO_5 := q0 (Kd.R_below (qr HO_5.out) hb); replace BK102 := kd BK102 hb; replace HB := bp HB hb; (try clear hb); (try clear hb2); (try clear hk); (try clear hi)) | ((with_reducible refine gate_builtin (b := .append) (xs := #[.tmp 18, .tmp 20]) rfl ?_); at_builtin; refine Kd.R_append (Kd.int .i64) (w0 := w) w.heap.size rfl (.tmp 18) (.tmp 20) 53 3 (.int .i64 0) 8 rfl Try.underlying53 info3 rfl (by decide) (by omega) u5 x5_1 x6_1 [.int .i64 x6_1] (fun _ => True) (fun _ => False) rfl rfl ?aP (fun _ hk => hk.elim) ?aF ?aO ?aB ?aS ?aL ?_; (case aP => exact rfl); (case aB => exact (qb HB.out)); (case aF => exact (fun _ _ => trivial)); (case aO => exact (qr HO_5.out)); (case aS => exact (below_size (qb HB.out))); (case aL => have := LMc9.out; omega); intro v106 w12 ho hb hg hat; rw [← Ny105.out] at ho; replace BK102 := q0 (blk_grown (g := gb102) (o := .cells #[.int .i64 a0_0, .slice A0_1 l0_1.length c0_1] 25 (0, 0)) (qk BK102.out) hg (Kd.R_ne HO_5.out BK102.out (by decide))); replace HB := q0 (hb); have HO107 := q0 (ho); clear HO_5; clear ho hb hg hat))
 go_roundg k1
 case measure => have := HK1.out; omega
 case rel => exact ⟨(y105), (wrap64 (x6_1 + 1)), qs, H', ⟨by have := HK1.out; omega⟩, ⟨qr HO107.out⟩, ⟨qk BK102.out⟩, ⟨qb HB.out⟩⟩

set_option maxHeartbeats 8000000 in
set_option maxRecDepth 100000 in
theorem spec_WayReach.calls (k : Nat) (a0_0 : Int) (A0_1 : Option Addr) (c0_1 : Nat) (l0_1 : List (STie)) (a1 : Int) (r : List Bool) (w : World) (hr0_1 : Kd.C kTie w A0_1 l0_1.length l0_1) (hc0_1 : l0_1.length ≤ c0_1) (h : spec_WayReach.f k a0_0 l0_1 a1 = some r) :
    Calls Try.prog 41 #[.agg #[.int .i64 a0_0, .slice A0_1 l0_1.length c0_1], .int .i64 a1] w fun e w' => ∃ v0_ : Value, e = .returned (v0_) ∧ Kd.R Kd.bool 4 w' w.heap.size (fun _ => True) v0_ r ∧ Below w.heap.size w w' := by
 have hu25 := Try.underlying25
 have HR0_1 := q0 hr0_1
 have HC0_1 := q0 hc0_1
 clear hr0_1 hc0_1
 have HB := q0 (Below.refl w.heap.size w)
 have H : ((spec_l1Knot.f k a0_0 l0_1 a1).bind fun t100 => (if t100 = true then (if 0 ≤ a0_0 then (if (a0_0 : Int).toNat ≤ 281474976710656 then ((some (List.replicate (a0_0 : Int).toNat false : List Bool)).bind fun y102 => (if 0 ≤ a1 then (if a1 < (y102.length : Int) then (spec_WayReach.l0 k (y102.set (a1 : Int).toNat true) (([a1] : List Int)) a0_0 l0_1) else (none)) else (none))) else (none)) else (none)) else (some (([] : List Bool))))) = some r := h
 clear h
 obtain ⟨t100, A3, H⟩ := ob H
 by_cases c4 : t100 = true
 rotate_left
 · replace c4 := Bool.eq_false_iff.mpr c4
   subst c4
   rw [if_neg nf] at H
   obtain ⟨y125, hy125⟩ : ∃ y_ : List Bool, y_ = (([] : List Bool)) := ⟨_, rfl⟩
   replace H : (some y125) = some r := qy H hy125
   have Ny125 := q0 hy125
   clear hy125
   obtain rfl := Option.some.inj H
   go_enter Try.func41, Try.ntmps41
   go_wp2_with (first | ((with_reducible refine gd 2 ?_); refine be 2 #[.int .i64 a0_0, .slice A0_1 l0_1.length c0_1] 25 ?_; intro gb105 hg w43 hbox hb; have BK105 := q0 (hbox); have GW105 := gw HB hg; have GE105 := gw HB hg; replace HB := bp HB hb; clear hb hbox hg; obtain ⟨hcz44_0, hcz44_1, hfz44_0, hfz44_1⟩ := b2 BK105) | ((with_reducible refine gf 37 ?_); refine gl 11 Try.func37 #[.agg #[.int .i64 a0_0, .slice A0_1 l0_1.length c0_1], .int .i64 a1] ?_; (with_reducible refine (spec_l1Knot.calls k a0_0 _ _ l0_1 a1 false _ ?side1 ?side2 A3.out).mono ?_); (case side1 => exact qc (Kd.C_below HR0_1.out HB.out)); (case side2 => exact HC0_1.out); rintro e w45 ⟨rfl, hb⟩; refine ⟨_, rfl, ?_⟩; replace BK105 := kd BK105 hb; replace HB := bp HB hb; (try clear hb); (try clear hb2); (try clear hk); (try clear hi)) | ((with_reducible refine gd 13 ?_); refine Kd.R_lit Kd.bool _ 4 ?hg (N := 13) ?hd (xs := ([] : List Bool)) (inner := []) (ok := fun _ => True) (okp := fun _ => True) ?hr ?hp (fun _ hk => hk) trivial (Below.refl _ _) (Nat.le_refl _) (by simp) ?_; (case hd => rfl); (case hg => rfl); (case hr => first | (go_simp; done) | (go_simp; rfl)); (case hp => exact (Reps.none _ _)); intro v126 w46 ho47 hb hg_ hnew_; clear hg_ hnew_; (first | rw [← Ny125.out] at ho47 | (simp only [Int.reduceToNat] at ho47; rw [← Ny125.out] at ho47)); have HO127 := q0 (Kd.R_lower ho47 (below_size (qb HB.out))); replace BK105 := kd BK105 hb; replace HB := bp HB hb; clear hb ho47))
   go_ret
   exact ⟨_, qe, qr HO127.out, qb HB.out⟩
 subst c4
 rw [if_pos rfl] at H
 obtain ⟨c5, H⟩ : (0 ≤ a0_0) ∧ _ := og H
 have c5b0 := eq_true c5
 have c5b1 := decide_eq_true c5
 clear c5
 obtain ⟨c6, H⟩ : ((a0_0 : Int).toNat ≤ 281474976710656) ∧ _ := og H
 have c6b0 := eq_true c6
 have c6b1 := decide_eq_true c6
 clear c6
 obtain ⟨y102, hy102⟩ : ∃ y_ : List Bool, y_ = (List.replicate (a0_0 : Int).toNat false) := ⟨_, rfl⟩
 replace H : (if 0 ≤ a1 then (if a1 < (y102.length : Int) then (spec_WayReach.l0 k (y102.set (a1 : Int).toNat true) (([a1] : List Int)) a0_0 l0_1) else (none)) else (none)) = some r := qy H hy102
 have Ny102 := q0 hy102
 clear hy102
 obtain ⟨c7, H⟩ : (0 ≤ a1) ∧ _ := og H
 have c7b0 := decide_eq_true c7
 clear c7
 obtain ⟨c8, H⟩ : (a1 < (y102.length : Int)) ∧ _ := og H
 have c8b0 := decide_eq_true c8
 clear c8
 obtain ⟨y103, hy103⟩ : ∃ y_ : List Bool, y_ = (y102.set (a1 : Int).toNat true) := ⟨_, rfl⟩
 replace H : (spec_WayReach.l0 k y103 (([a1] : List Int)) a0_0 l0_1) = some r := qy H hy103
 have Ny103 := q0 hy103
 clear hy103
 obtain ⟨y104, hy104⟩ : ∃ y_ : List Int, y_ = (([a1] : List Int)) := ⟨_, rfl⟩
 replace H : (spec_WayReach.l0 k y103 y104 a0_0 l0_1) = some r := qy H hy104
 have Ny104 := q0 hy104
 clear hy104
 have H' := q0 H
 clear H
 go_enter Try.func41, Try.ntmps41
 go_wp2_with (first | ((with_reducible refine gd 2 ?_); refine be 2 #[.int .i64 a0_0, .slice A0_1 l0_1.length c0_1] 25 ?_; intro gb105 hg w10 hbox hb; have BK105 := q0 (hbox); have GW105 := gw HB hg; have GE105 := gw HB hg; replace HB := bp HB hb; clear hb hbox hg; obtain ⟨hcz11_0, hcz11_1, hfz11_0, hfz11_1⟩ := b2 BK105) | ((with_reducible refine gf 37 ?_); refine gl 11 Try.func37 #[.agg #[.int .i64 a0_0, .slice A0_1 l0_1.length c0_1], .int .i64 a1] ?_; (with_reducible refine (spec_l1Knot.calls k a0_0 _ _ l0_1 a1 true _ ?side1 ?side2 A3.out).mono ?_); (case side1 => exact qc (Kd.C_below HR0_1.out HB.out)); (case side2 => exact HC0_1.out); rintro e w12 ⟨rfl, hb⟩; refine ⟨_, rfl, ?_⟩; replace BK105 := kd BK105 hb; replace HB := bp HB hb; (try clear hb); (try clear hb2); (try clear hk); (try clear hi); obtain ⟨hcz13_0, hcz13_1, hfz13_0, hfz13_1⟩ := b2 BK105) | ((with_reducible refine gd 16 ?_); refine Kd.R_make Kd.bool _ 4 rfl (N := 16) rfl 61 _ _ rfl a0_0 rfl rfl Try.underlying61 (.bool false) 1 info4 rfl (by decide) (by omega) false (ok := fun _ => True) (okp := fun _ => True) rfl (fun _ hk => hk) trivial (of_decide_eq_true qa) (Nat.le_trans (Nat.mul_le_mul_right _ (of_decide_eq_true qa : a0_0.toNat ≤ 281474976710656)) (by omega)) (Below.refl _ _) (Nat.le_refl _) ?_; intro v106 w14 ho15 hb hg_ hnew_; clear hg_ hnew_; (first | rw [← Ny102.out] at ho15 | (simp only [Int.reduceToNat] at ho15; rw [← Ny102.out] at ho15)); have HO107 := q0 (Kd.R_lower ho15 (below_size (qb HB.out))); replace BK105 := kd BK105 hb; replace HB := bp HB hb; clear hb ho15; have p9 : 0 ≤ (a1 : Int) := of_decide_eq_true qa; have q9 : (a1 : Int) < ((y102.length : Int) : Int) := of_decide_eq_true qa; obtain ⟨go9, co9, eo9, gb9, gl9, cl9, HG9⟩ := Kd.R_form HO107.out (by omega); (first | cases eo9 | (injection eo9 with ea_ en_ ec_; (first | subst ea_ | (injection ea_ with ea_; subst ea_)); subst ec_; clear en_)); have GB9 := q0 gb9; have GG9 := q0 HG9; clear gb9 gl9 HG9; obtain ⟨hx9_0, hf9_0⟩ := Kd.R_celln false HO107.out (a1 : Int) p9 q9; replace p9 := eq_true p9; replace q9 := eq_true q9; obtain ⟨hy16_, hz16_⟩ := Kd.R_celln false HO107.out (a1 : Int) (of_decide_eq_true qa) (of_decide_eq_true qa); have HP16 := Kd.R_putg HO107.out (a1 : Int) true) | ((with_reducible refine gate_store (t := 4) (p := 19) rfl ?_); refine store_event (t := 4) (p := 19) (v := ?vo_w17) (w1 := (w14.setCell ⟨go9, (a1 : Int).toNat, none⟩ (.bool true))) ?hg ?ho ?hn ?hr ?_; (case ho => rfl); (case hg => rfl); (case hn => rfl); (case hr => first | (go_simp; done) | (go_simp; rfl)); intro w17 hw; have hg : w14.grownBy w17 (some go9) := (by rw [hw]; exact HP16.2); have hp_ : Kd.R Kd.bool 4 w17 w.heap.size (fun _ => True) (.slice (some ⟨go9, 0, none⟩) y102.length co9) y103 := (by rw [hw, Ny103.out]; exact HP16.1); clear HP16; replace BK105 := q0 (blk_grown (g := gb105) (o := .cells #[.int .i64 a0_0, .slice A0_1 l0_1.length c0_1] 25 (0, 0)) (qk BK105.out) hg (Kd.R_ne HO107.out BK105.out (by decide))); replace HO107 := q0 (hp_); replace HB := q0 ((by rw [hw]; exact below_set (HB.out) GB9.out : Below w.heap.size w w17)); clear hg hw hp_) | ((with_reducible refine gd 21 ?_); refine Kd.R_lit (Kd.int .i64) _ 3 ?hg (N := 21) ?hd (xs := ([a1] : List Int)) (inner := [.int .i64 a1]) (ok := fun _ => True) (okp := fun _ => True) ?hr ?hp (fun _ hk => hk) trivial (Below.refl _ _) (Nat.le_refl _) (by simp) ?_; (case hd => rfl); (case hg => rfl); (case hr => first | (go_simp; done) | (go_simp; rfl)); (case hp => exact (Reps.one (show Kd.M (Kd.int .i64) _ _ _ a1 [.int .i64 a1] from rfl) (Reps.none _ _))); intro v108 w18 ho19 hb hg_ hnew_; clear hg_ hnew_; (first | rw [← Ny104.out] at ho19 | (simp only [Int.reduceToNat] at ho19; rw [← Ny104.out] at ho19)); replace HO107 := q0 (Kd.R_below (qr HO107.out) hb); have HO109 := q0 (Kd.R_lower ho19 (below_size (qb HB.out))); replace BK105 := kd BK105 hb; replace HB := bp HB hb; clear hb ho19))
 go_loopg [6] k (fun kq v6 w' => ∃ (x5_1 : List Bool) (x6_1 : List Int), Aside0 (spec_WayReach.l0 kq x5_1 x6_1 a0_0 l0_1 = some r) ∧ Aside0 (kq ≤ k) ∧ Aside0 (Kd.R Kd.bool 4 w' w.heap.size (fun _ => True) (.slice (some ⟨go9, 0, none⟩) y102.length co9) x5_1) ∧ Aside0 (Kd.Q (Kd.int .i64) 3 w' w.heap.size (fun _ => True) v6 x6_1) ∧ Aside0 (w'.heap[gb105]? = some (.cells #[.int .i64 a0_0, (.slice A0_1 l0_1.length c0_1)] 25 (0, 0))) ∧ Aside0 (Below w.heap.size w w'))
 case atStart => exact ⟨(y103), (y104), H', ⟨Nat.le_refl _⟩, ⟨qr HO107.out⟩, ⟨Kd.Q_of_R (qr HO109.out)⟩, ⟨qk BK105.out⟩, ⟨qb HB.out⟩⟩
 clear H'
 try clear p2
 try clear c3
 try clear c4
 try clear c5
 try clear c5b0
 try clear c5b1
 try clear c6
 try clear c6b0
 try clear c6b1
 try clear c7
 try clear c7b0
 try clear c8
 try clear c8b0
 try clear p9
 try clear q9
 try clear hx9
 try clear hf9
 try clear hcz11_0
 try clear hcz11_1
 try clear hcz13_0
 try clear hcz13_1
 try clear hfz11_0
 try clear hfz11_1
 try clear hfz13_0
 try clear hfz13_1
 try clear hx9_0
 try clear p9
 try clear q9
 obtain ⟨x5_1, x6_1, HA, HK1, HO_5, HO_6, BK105, HB⟩ := hrel
 have hl5_1 := (Kd.R_reads' HO_5.out).1
 rw [hl5_1] at HO_5
 (try simp only [hl5_1])
 (try simp only [hl5_1] at BK105)
 (try simp only [hl5_1] at HO_6)
 rcases gk with _ | k1
 · exact absurd HA.out (by simp [spec_WayReach.l0])
 have H := HA.out
 clear HA
 simp only [spec_WayReach.l0] at H
 by_cases c20 : (x6_1.length : Int) > 0
 rotate_left
 · rw [if_neg c20] at H
   have c20b0 := decide_eq_false c20
   have c20b1 : decide (0 < x6_1.length) = false := decide_eq_false (by omega)
   clear c20
   obtain rfl := Option.some.inj H
   obtain ⟨Ao42, co42, eo42, _⟩ := Kd.Q_slice HO_6.out
   subst eo42
   go_wp2
   go_ret
   exact ⟨_, qe, qr HO_5.out, qb HB.out⟩
 rw [if_pos c20] at H
 have c20b0 := decide_eq_true c20
 have c20b1 : decide (0 < x6_1.length) = true := decide_eq_true (by omega)
 clear c20
 obtain ⟨c21, H⟩ : (0 < (x6_1.length : Int)) ∧ _ := og H
 have c21b0 := decide_eq_true c21
 have c21b1 : decide (0 < x6_1.length) = true := decide_eq_true (by omega)
 clear c21
 obtain ⟨t101, A22, H⟩ := ob H
 obtain ⟨c23, H⟩ : (1 ≤ (x6_1.length : Int)) ∧ _ := og H
 have c23b0 := eq_true c23
 have c23b1 := decide_eq_true c23
 clear c23
 obtain ⟨y111, hy111⟩ : ∃ y_ : List Int, y_ = (x6_1.drop (1 : Int).toNat) := ⟨_, rfl⟩
 replace H : (spec_WayReach.l1 k1 x5_1 y111 t101 0 a0_0 l0_1) = some r := qy H hy111
 have Ny111 := q0 hy111
 clear hy111
 have H' := q0 H
 clear H
 obtain ⟨Ao24, co24, eo24, _⟩ := Kd.Q_slice HO_6.out
 subst eo24
 try go_wp2
 replace HO_5 := q0 (Kd.R_drew HO_5.out)
 replace HO_6 := q0 (Kd.Q_drew HO_6.out)
 replace BK105 := q0 (blk_drew BK105.out)
 replace HB := q0 (below_drew1 HB.out)
 have p112 : 0 ≤ (0 : Int) := (by omega)
 have q112 : 0 < (x6_1.length : Int) := of_decide_eq_true qa
 obtain ⟨ad112, e112, hx112_0⟩ := Kd.at_int (Kd.Q_reads' HO_6.out).2.2 0 p112 q112
 cases e112
 have qi112 : (0 < x6_1.length) = True := eq_true (by omega)
 (try rw [show ((0 : Int)).toNat = 0 from rfl] at hx112_0)
 (try rw [Addr.add_zero'] at hx112_0)
 replace p112 := eq_true p112
 replace q112 := eq_true q112
 refine start_ (n := 6) (S := fun w' => w'.cell? ⟨gb105, 0, none⟩ = some (.int .i64 a0_0) ∧ w'.cell? ⟨gb105, 1, none⟩ = some (.slice A0_1 l0_1.length c0_1) ∧ w'.cell? ad112 = some (.int .i64 (rd x6_1 0))) (ds := []) (ba 6 0) (by kernel_rfl) rfl (by kernel_rfl) ⟨bca BK105, bcb BK105, hx112_0⟩ (fun hHeld => ?_)
 generalize wr.drew = w25 at HO_5 HO_6 BK105 HB hx112_0 hHeld ⊢
 refine pw 1 (some 26) (ba 6 2) ?_
 refine pw 2 (some 27) (ba 6 6) ?_
 refine tw 0 (some 25) (ba 6 7) hHeld ?_
 refine tw 3 (some 28) (ba 6 15) hHeld ?_
 refine one_ (i := 4) (N := some 29) (ba 6 31) rfl rfl (by kernel_rfl) (by decide) (fun K hK => ?_)
 refine goes_ Try.func43 (by kernel_rfl) rfl #[.agg #[.int .i64 a0_0, .slice A0_1 l0_1.length c0_1], .int .i64 (rd x6_1 0)] (by rfl) rfl rfl qm ?_
 with_reducible refine (spec_l2Next.calls k1 a0_0 _ _ l0_1 (rd x6_1 0) t101 _ ?side1 ?side2 A22.out).mono ?_
 (case side1 => exact qc (Kd.C_below HR0_1.out HB.out))
 (case side2 => exact HC0_1.out)
 rintro e w26 ⟨v113, rfl, ho0, hb⟩
 have HS2_ := hcl hb hHeld.2.2
 refine ⟨_, rfl, ?_⟩
 replace HO_5 := q0 (Kd.R_below (qr HO_5.out) hb)
 have HO114 := q0 (Kd.R_lower (Kd.R_new' ho0 (Kd.Q_lt (qq HO_6.out))) (below_size (qb HB.out)))
 replace HO_6 := q0 (Kd.Q_elder' (qq HO_6.out) (Kd.R_base ho0) hb)
 replace BK105 := kd BK105 hb
 replace HB := bp HB hb
 (try clear hb)
 (try clear hb2)
 (try clear hk)
 (try clear hi)
 (try clear ho0)
 refine hK.out _ _ ⟨bca BK105, bcb BK105, HS2_⟩ (fun hHeld => ?_)
 clear hK K
 refine nu 29 ?_
 refine pw 5 (some 7) (ba 6 63) ?_
 refine done_ (by kernel_rfl) ?_
 have n_ := q0 (Kd.Q_mono (ok' := (fun k_ => some k_ ≠ (v113 : Value).ownBlock)) HO_6.out (fun k_ hk => hk.2))
 clear HO_6
 have HO_6 := n_
 clear n_
 have q27 : (1 : Int) ≤ ((x6_1.length : Int) : Int) := of_decide_eq_true qa
 obtain ⟨i115, hi115, _, hsz27, _⟩ := info_parts info3
 have hcut27 := cut_from (P := Try.prog) 53 3 .i64 Try.underlying53 hi115 1 hsz27 (some ad112) x6_1.length co24 1 (by omega) q27
 have hr27 := Kd.Q_drop (k := (1 : Int).toNat) HO_6.out (by omega)
 obtain ⟨A27, hA27⟩ : ∃ A1, A1 = (if co24 = (1 : Int).toNat then (some ad112) else ((some ad112) : Option Addr).map (·.add ((1 : Int).toNat * 1))) := ⟨_, rfl⟩
 obtain ⟨c27, hc27⟩ : ∃ c1, c1 = co24 - (1 : Int).toNat := ⟨_, rfl⟩
 have hy27 : y111.length = x6_1.length - (1 : Int).toNat := (by rw [Ny111.out, List.length_drop])
 rw [← Ny111.out] at hr27
 rw [← hy27, ← hA27, ← hc27] at hcut27
 replace hr27 : Kd.Q (Kd.int .i64) 3 w26 w.heap.size (fun k_ => some k_ ≠ (v113 : Value).ownBlock) (.slice A27 y111.length c27) y111 := (by rw [hA27, hc27, hy27]; exact hr27)
 have HE27 : Aside0 ((Value.slice A27 y111.length c27).ownBlock = (.slice (some ad112) x6_1.length co24 : Value).ownBlock) := ⟨by rw [hA27]; split <;> (cases ((some ad112) : Option Addr) <;> rfl)⟩
 clear hy27 hi115 hsz27 HO_6 hA27 hc27
 have HO116 := q0 hr27
 clear hr27
 replace q27 := eq_true q27
 have n_ := q0 (Kd.R_mono (ok' := fun k_ => (True ∧ some k_ ≠ (.slice A27 y111.length c27 : Value).ownBlock)) HO114.out (fun k_ hk => ⟨trivial, (by rw [HE27.out]; exact hk.2)⟩))
 clear HO114
 have HO114 := n_
 clear n_
 try go_wp2
 go_loopg [6, 8] k1 (fun kq v6 v8 w' => ∃ (x5_2 : List Bool) (x6_2 : List Int) (x8_2 : Int), v8 = .int .i64 x8_2 ∧ Aside0 (spec_WayReach.l1 kq x5_2 x6_2 t101 x8_2 a0_0 l0_1 = some r) ∧ Aside0 (kq ≤ k1) ∧ Aside0 (Kd.R Kd.bool 4 w' w.heap.size (fun _ => True) (.slice (some ⟨go9, 0, none⟩) x5_1.length co9) x5_2) ∧ Aside0 (Kd.Q (Kd.int .i64) 3 w' w.heap.size (fun k_ => some k_ ≠ (v113 : Value).ownBlock) v6 x6_2) ∧ Aside0 (Kd.R (Kd.int .i64) 3 w' w.heap.size (fun k_ => some k_ ≠ (v6 : Value).ownBlock) v113 t101) ∧ Aside0 (w'.heap[gb105]? = some (.cells #[.int .i64 a0_0, (.slice A0_1 l0_1.length c0_1)] 25 (0, 0))) ∧ Aside0 (Below w.heap.size w w'))
 case atStart => exact ⟨(x5_1), (y111), (0), qs, H', ⟨Nat.le_refl _⟩, ⟨by (try simp only [hl5_1]); (with_reducible repeat (first | apply Kd.R_alloc | apply Kd.R_drewN | apply Kd.R_drew)); exact HO_5.out⟩, ⟨by (try simp only [hl5_1]); (with_reducible repeat (first | apply Kd.Q_alloc | apply Kd.Q_drewN | apply Kd.Q_drew)); exact HO116.out⟩, ⟨by (try simp only [hl5_1]); (with_reducible repeat (first | apply Kd.R_alloc | apply Kd.R_drewN | apply Kd.R_drew)); exact Kd.R_mono HO114.out (fun _ hk => hk.2)⟩, ⟨by (try simp only [hl5_1]); (with_reducible repeat (first | refine blk_drewN ?_ _ | refine blk_drew ?_ | refine blk_alloc ?_ _)); exact BK105.out⟩, ⟨qb HB.out⟩⟩
 clear H'
 try clear c1
 try clear c2
 try clear p2
 try clear q2
 try clear c3
 try clear p3
 try clear q3
 try clear hx3
 try clear qi3
 try clear c4
 try clear c5
 try clear c5b0
 try clear c5b1
 try clear c6
 try clear c6b0
 try clear c6b1
 try clear c7
 try clear c7b0
 try clear c8
 try clear c8b0
 try clear p9
 try clear q9
 try clear hx9
 try clear hf9
 try clear c20
 try clear c20b0
 try clear c20b1
 try clear c21
 try clear c21b0
 try clear c21b1
 try clear c23
 try clear c23b0
 try clear c23b1
 try clear c27
 try clear q27
 try clear hcz11_0
 try clear hcz11_1
 try clear hcz13_0
 try clear hcz13_1
 try clear hfz11_0
 try clear hfz11_1
 try clear hfz13_0
 try clear hfz13_1
 try clear hx112_0
 try clear hx9_0
 try clear p2
 try clear p112
 try clear p9
 try clear q27
 try clear q112
 try clear q9
 obtain ⟨x5_2, x6_2, x8_2, rfl, HA, HK2, HO_5, HO_6, HO_7, BK105, HB⟩ := hrel
 have hl5_2 := (Kd.R_reads' HO_5.out).1
 rw [hl5_2] at HO_5
 (try simp only [hl5_2])
 (try simp only [hl5_2] at BK105)
 (try simp only [hl5_2] at HO_6)
 (try simp only [hl5_2] at HO_7)
 rcases gk with _ | k2
 · exact absurd HA.out (by simp [spec_WayReach.l1])
 have H := HA.out
 clear HA
 simp only [spec_WayReach.l1] at H
 by_cases c28 : x8_2 < (t101.length : Int)
 rotate_left
 · rw [if_neg c28] at H
   have c28b0 := decide_eq_false c28
   clear c28
   have H' := q0 H
   clear H
   obtain ⟨Ao41, co41, eo41⟩ := Kd.R_slice HO_7.out
   subst eo41
   go_wp2
   (try simp only [← hl5_1, ← hl5_2])
   go_roundg k2
   case measure => have := HK1.out; have := HK2.out; omega
   case rel => exact ⟨(x5_2), (x6_2), H', ⟨by have := HK1.out; have := HK2.out; omega⟩, ⟨by (try simp only [hl5_1]); (try simp only [hl5_2]); (with_reducible repeat (first | apply Kd.R_alloc | apply Kd.R_drewN | apply Kd.R_drew)); exact HO_5.out⟩, ⟨by (try simp only [hl5_1]); (try simp only [hl5_2]); (with_reducible repeat (first | apply Kd.Q_alloc | apply Kd.Q_drewN | apply Kd.Q_drew)); exact Kd.Q_mono HO_6.out (fun _ hk => trivial)⟩, ⟨by (try simp only [hl5_1]); (try simp only [hl5_2]); (with_reducible repeat (first | refine blk_drewN ?_ _ | refine blk_drew ?_ | refine blk_alloc ?_ _)); exact BK105.out⟩, ⟨qb HB.out⟩⟩
 rw [if_pos c28] at H
 have c28b0 := decide_eq_true c28
 clear c28
 obtain ⟨c29, H⟩ : (0 ≤ x8_2) ∧ _ := og H
 have c29b0 := decide_eq_true c29
 clear c29
 obtain ⟨c30, H⟩ : (0 ≤ (rd t101 x8_2)) ∧ _ := og H
 have c30b0 := decide_eq_true c30
 clear c30
 obtain ⟨c31, H⟩ : ((rd t101 x8_2) < (x5_2.length : Int)) ∧ _ := og H
 have c31b0 := decide_eq_true c31
 clear c31
 obtain ⟨bq32, hbq32⟩ : ∃ b_ : Bool, b_ = (rdOf false x5_2 (rd t101 x8_2)) := ⟨_, rfl⟩
 replace H : (if (bq32 = true) then (spec_WayReach.l1 k2 x5_2 x6_2 t101 (wrap64 (x8_2 + 1)) a0_0 l0_1) else (if x6_2.length < 17592186044416 then (spec_WayReach.l1 k2 (x5_2.set ((rd t101 x8_2) : Int).toNat true) (x6_2 ++ [rd t101 x8_2]) t101 (wrap64 (x8_2 + 1)) a0_0 l0_1) else (none))) = some r := by rw [← hbq32] at H; exact H
 have Nbq32 := q0 hbq32
 clear hbq32
 by_cases c33 : (bq32 = true)
 · subst c33
   rw [if_pos rfl] at H
   have H' := q0 H
   clear H
   obtain ⟨Ao34, co34, eo34⟩ := Kd.R_slice HO_7.out
   subst eo34
   have p117 : 0 ≤ (x8_2 : Int) := of_decide_eq_true qa
   have q117 : x8_2 < (t101.length : Int) := of_decide_eq_true qa
   obtain ⟨ad117, e117, hx117_0⟩ := Kd.at_int (Kd.R_reads' HO_7.out).2.2 x8_2 p117 q117
   cases e117
   replace p117 := eq_true p117
   replace q117 := eq_true q117
   have p118 : 0 ≤ ((rd t101 x8_2) : Int) := of_decide_eq_true qa
   have q118 : (rd t101 x8_2) < (x5_2.length : Int) := of_decide_eq_true qa
   obtain ⟨ad118, e118, hx118_0⟩ := Kd.at_bool (Kd.R_reads' HO_5.out).2.2 (rd t101 x8_2) p118 q118
   (try rw [← Nbq32.out] at hx118_0)
   obtain rfl : (⟨go9, 0, none⟩ : Addr) = ad118 := (by injection e118)
   (first | simp only [add_plain] at hx118_0 | simp only [add_at] at hx118_0 | simp only [Addr.add, Nat.zero_add] at hx118_0 | skip)
   replace p118 := eq_true p118
   replace q118 := eq_true q118
   go_wp2
   (try simp only [← hl5_2])
   go_roundg k2
   case measure => have := HK1.out; have := HK2.out; omega
   case rel => exact ⟨(x5_2), (x6_2), (wrap64 (x8_2 + 1)), qs, H', ⟨by have := HK1.out; have := HK2.out; omega⟩, ⟨by (try simp only [hl5_1]); (try simp only [hl5_2]); (with_reducible repeat (first | apply Kd.R_alloc | apply Kd.R_drewN | apply Kd.R_drew)); exact HO_5.out⟩, ⟨by (try simp only [hl5_1]); (try simp only [hl5_2]); (with_reducible repeat (first | apply Kd.Q_alloc | apply Kd.Q_drewN | apply Kd.Q_drew)); exact HO_6.out⟩, ⟨by (try simp only [hl5_1]); (try simp only [hl5_2]); (with_reducible repeat (first | apply Kd.R_alloc | apply Kd.R_drewN | apply Kd.R_drew)); exact HO_7.out⟩, ⟨by (try simp only [hl5_1]); (try simp only [hl5_2]); (with_reducible repeat (first | refine blk_drewN ?_ _ | refine blk_drew ?_ | refine blk_alloc ?_ _)); exact BK105.out⟩, ⟨qb HB.out⟩⟩
 replace c33 := Bool.eq_false_iff.mpr c33
 subst c33
 rw [if_neg nf] at H
 obtain ⟨y119, hy119⟩ : ∃ y_ : List Bool, y_ = (x5_2.set ((rd t101 x8_2) : Int).toNat true) := ⟨_, rfl⟩
 replace H : (if x6_2.length < 17592186044416 then (spec_WayReach.l1 k2 y119 (x6_2 ++ [rd t101 x8_2]) t101 (wrap64 (x8_2 + 1)) a0_0 l0_1) else (none)) = some r := qy H hy119
 have Ny119 := q0 hy119
 clear hy119
 obtain ⟨c36, H⟩ : (x6_2.length < 17592186044416) ∧ _ := og H
 have LMc36 := q0 c36
 clear c36
 obtain ⟨y120, hy120⟩ : ∃ y_ : List Int, y_ = (x6_2 ++ [rd t101 x8_2]) := ⟨_, rfl⟩
 replace H : (spec_WayReach.l1 k2 y119 y120 t101 (wrap64 (x8_2 + 1)) a0_0 l0_1) = some r := qy H hy120
 have Ny120 := q0 hy120
 clear hy120
 have H' := q0 H
 clear H
 obtain ⟨Ao37, co37, eo37⟩ := Kd.R_slice HO_7.out
 subst eo37
 have p117 : 0 ≤ (x8_2 : Int) := of_decide_eq_true qa
 have q117 : x8_2 < (t101.length : Int) := of_decide_eq_true qa
 obtain ⟨ad117, e117, hx117_0⟩ := Kd.at_int (Kd.R_reads' HO_7.out).2.2 x8_2 p117 q117
 cases e117
 replace p117 := eq_true p117
 replace q117 := eq_true q117
 have p118 : 0 ≤ ((rd t101 x8_2) : Int) := of_decide_eq_true qa
 have q118 : (rd t101 x8_2) < (x5_2.length : Int) := of_decide_eq_true qa
 obtain ⟨ad118, e118, hx118_0⟩ := Kd.at_bool (Kd.R_reads' HO_5.out).2.2 (rd t101 x8_2) p118 q118
 (try rw [← Nbq32.out] at hx118_0)
 obtain rfl : (⟨go9, 0, none⟩ : Addr) = ad118 := (by injection e118)
 (first | simp only [add_plain] at hx118_0 | simp only [add_at] at hx118_0 | simp only [Addr.add, Nat.zero_add] at hx118_0 | skip)
 replace p118 := eq_true p118
 replace q118 := eq_true q118
 have p121 : 0 ≤ (x8_2 : Int) := of_decide_eq_true qa
 have q121 : x8_2 < (t101.length : Int) := of_decide_eq_true qa
 obtain ⟨ad121, e121, hx121_0⟩ := Kd.at_int (Kd.R_reads' HO_7.out).2.2 x8_2 p121 q121
 obtain rfl : ad117 = ad121 := (by injection e121)
 replace p121 := eq_true p121
 replace q121 := eq_true q121
 have p35 : 0 ≤ ((rd t101 x8_2) : Int) := of_decide_eq_true qa
 have q35 : ((rd t101 x8_2) : Int) < ((x5_2.length : Int) : Int) := of_decide_eq_true qa
 obtain ⟨hx35_0, hf35_0⟩ := Kd.R_celln false HO_5.out ((rd t101 x8_2) : Int) p35 q35
 replace p35 := eq_true p35
 replace q35 := eq_true q35
 have HP38 := Kd.R_putg HO_5.out ((rd t101 x8_2) : Int) true
 go_wp2_with (first | ((with_reducible refine gate_store (t := 4) (p := 51) rfl ?_); refine store_event (t := 4) (p := 51) (v := ?vo_w39) (w1 := (wr.setCell ⟨go9, ((rd t101 x8_2) : Int).toNat, none⟩ (.bool true))) ?hg ?ho ?hn ?hr ?_; (case ho => rfl); (case hg => rfl); (case hn => rfl); (case hr => first | (go_simp; done) | (go_simp; rfl)); intro w39 hw; have hg : wr.grownBy w39 (some go9) := (by rw [hw]; exact HP38.2); have hp_ : Kd.R Kd.bool 4 w39 w.heap.size (fun _ => True) (.slice (some ⟨go9, 0, none⟩) x5_2.length co9) y119 := (by rw [hw, Ny119.out]; exact HP38.1); clear HP38; replace HO_6 := q0 (Kd.Q_over' (v := (.slice (some ⟨go9, 0, none⟩) x5_2.length co9)) (qq HO_6.out) (Kd.R_typed HO_5.out) (by decide) hg); replace HO_7 := q0 (Kd.R_over' (v := (.slice (some ⟨go9, 0, none⟩) x5_2.length co9)) (qr HO_7.out) (Kd.R_typed HO_5.out) (by decide) hg); replace BK105 := q0 (blk_grown (g := gb105) (o := .cells #[.int .i64 a0_0, .slice A0_1 l0_1.length c0_1] 25 (0, 0)) (qk BK105.out) hg (Kd.R_ne HO_5.out BK105.out (by decide))); replace HO_5 := q0 (hp_); replace HB := q0 ((by rw [hw]; exact below_set (HB.out) GB9.out : Below w.heap.size w w39)); clear hg hw hp_; have p122 : 0 ≤ (x8_2 : Int) := of_decide_eq_true qa; have q122 : x8_2 < (t101.length : Int) := of_decide_eq_true qa; obtain ⟨ad122, e122, hx122_0⟩ := Kd.at_int (Kd.R_reads' HO_7.out).2.2 x8_2 p122 q122; obtain rfl : ad117 = ad122 := (by injection e122); replace p122 := eq_true p122; replace q122 := eq_true q122) | ((with_reducible refine gate_builtin (b := .append) (xs := #[.tmp 52, .tmp 57]) rfl ?_); at_builtin; refine Kd.Q_append (Kd.int .i64) (w0 := w) w.heap.size rfl (.tmp 52) (.tmp 57) 53 3 (.int .i64 0) 8 rfl Try.underlying53 info3 rfl (by decide) (by omega) u6 x6_2 (rd t101 x8_2) [.int .i64 (rd t101 x8_2)] (fun k_ => some k_ ≠ (.slice (some ad117) t101.length co37 : Value).ownBlock) (fun _ => False) rfl rfl ?aP (fun _ hk => hk.elim) ?aF ?aO ?aB ?aS ?aL ?_; (case aP => exact rfl); (case aB => exact (qb HB.out)); (case aF => exact (fun k_ hk => Kd.fresh' (Kd.R_lt (qr HO_7.out)) k_ hk)); (case aO => exact (qq HO_6.out)); (case aS => exact (below_size (qb HB.out))); (case aL => have := LMc36.out; omega); intro v123 w40 ho hb hg hat; rw [← Ny120.out] at ho; replace HO_5 := q0 (Kd.R_over' (qr HO_5.out) (Kd.Q_typed (qq HO_6.out)) (by decide) hg); replace HO_7 := q0 (Kd.R_after (ok := (fun _ => True)) (by (with_reducible repeat (first | apply Kd.R_alloc | apply Kd.R_drewN | apply Kd.R_drew)); exact Kd.R_mono HO_7.out (fun _ hk => ⟨trivial, hk⟩)) hg hat); replace BK105 := q0 (blk_grown (g := gb105) (o := .cells #[.int .i64 a0_0, .slice A0_1 l0_1.length c0_1] 25 (0, 0)) (qk BK105.out) hg (Kd.Q_ne HO_6.out BK105.out (by decide))); replace HB := q0 (hb); have HO124 := q0 (ho); clear HO_6; clear ho hb hg hat))
 (try simp only [← hl5_2])
 go_roundg k2
 case measure => have := HK1.out; have := HK2.out; omega
 case rel => exact ⟨(y119), (y120), (wrap64 (x8_2 + 1)), qs, H', ⟨by have := HK1.out; have := HK2.out; omega⟩, ⟨by (try simp only [hl5_1]); (try simp only [hl5_2]); (with_reducible repeat (first | apply Kd.R_alloc | apply Kd.R_drewN | apply Kd.R_drew)); exact HO_5.out⟩, ⟨by (try simp only [hl5_1]); (try simp only [hl5_2]); (with_reducible repeat (first | apply Kd.Q_alloc | apply Kd.Q_drewN | apply Kd.Q_drew)); exact HO124.out⟩, ⟨by (try simp only [hl5_1]); (try simp only [hl5_2]); (with_reducible repeat (first | apply Kd.R_alloc | apply Kd.R_drewN | apply Kd.R_drew)); exact Kd.R_mono HO_7.out (fun _ hk => hk.2)⟩, ⟨by (try simp only [hl5_1]); (try simp only [hl5_2]); (with_reducible repeat (first | refine blk_drewN ?_ _ | refine blk_drew ?_ | refine blk_alloc ?_ _)); exact BK105.out⟩, ⟨qb HB.out⟩⟩

set_option maxHeartbeats 8000000 in
set_option maxRecDepth 100000 in
theorem spec_WayParts.calls (k : Nat) (a0_0 : Int) (A0_1 : Option Addr) (c0_1 : Nat) (l0_1 : List (STie)) (r : List Int) (w : World) (hr0_1 : Kd.C kTie w A0_1 l0_1.length l0_1) (hc0_1 : l0_1.length ≤ c0_1) (h : spec_WayParts.f k a0_0 l0_1 = some r) :
    Calls Try.prog 35 #[.agg #[.int .i64 a0_0, .slice A0_1 l0_1.length c0_1]] w fun e w' => ∃ v0_ : Value, e = .returned (v0_) ∧ Kd.R (Kd.int .i64) 3 w' w.heap.size (fun _ => True) v0_ r ∧ Below w.heap.size w w' := by
 have hu25 := Try.underlying25
 have HR0_1 := q0 hr0_1
 have HC0_1 := q0 hc0_1
 clear hr0_1 hc0_1
 have HB := q0 (Below.refl w.heap.size w)
 have H : ((some (([] : List Int) : List Int)).bind fun y100 => ((spec_NetOk.f k a0_0 l0_1).bind fun t102 => (if t102 = true then (spec_WayParts.l0 k y100 0 a0_0 l0_1) else (some y100)))) = some r := h
 clear h
 obtain ⟨y100, hy100⟩ : ∃ y_ : List Int, y_ = (([] : List Int)) := ⟨_, rfl⟩
 replace H : ((spec_NetOk.f k a0_0 l0_1).bind fun t102 => (if t102 = true then (spec_WayParts.l0 k y100 0 a0_0 l0_1) else (some y100))) = some r := qy H hy100
 have Ny100 := q0 hy100
 clear hy100
 obtain ⟨t102, A2, H⟩ := ob H
 by_cases c3 : t102 = true
 rotate_left
 · replace c3 := Bool.eq_false_iff.mpr c3
   subst c3
   rw [if_neg nf] at H
   obtain rfl := Option.some.inj H
   go_enter Try.func35, Try.ntmps35
   go_wp2_with (first | ((with_reducible refine gd 1 ?_); refine be 1 #[.int .i64 a0_0, .slice A0_1 l0_1.length c0_1] 25 ?_; intro gb103 hg w22 hbox hb; have BK103 := q0 (hbox); have GW103 := gw HB hg; have GE103 := gw HB hg; replace HB := bp HB hb; clear hb hbox hg) | ((with_reducible refine gd 7 ?_); refine Kd.R_lit (Kd.int .i64) _ 3 ?hg (N := 7) ?hd (xs := ([] : List Int)) (inner := []) (ok := fun _ => True) (okp := fun _ => True) ?hr ?hp (fun _ hk => hk) trivial (Below.refl _ _) (Nat.le_refl _) (by simp) ?_; (case hd => rfl); (case hg => rfl); (case hr => first | (go_simp; done) | (go_simp; rfl)); (case hp => exact (Reps.none _ _)); intro v104 w23 ho24 hb hg_ hnew_; clear hg_ hnew_; (first | rw [← Ny100.out] at ho24 | (simp only [Int.reduceToNat] at ho24; rw [← Ny100.out] at ho24)); have HO105 := q0 (Kd.R_lower ho24 (below_size (qb HB.out))); replace BK103 := kd BK103 hb; replace HB := bp HB hb; clear hb ho24; obtain ⟨hcz25_0, hcz25_1, hfz25_0, hfz25_1⟩ := b2 BK103) | ((with_reducible refine gf 13 ?_); refine gl 9 Try.func13 #[.agg #[.int .i64 a0_0, .slice A0_1 l0_1.length c0_1]] ?_; (with_reducible refine (spec_NetOk.calls k a0_0 _ _ l0_1 false _ ?side1 ?side2 A2.out).mono ?_); (case side1 => exact qc (Kd.C_below HR0_1.out HB.out)); (case side2 => exact HC0_1.out); rintro e w26 ⟨rfl, hb⟩; refine ⟨_, rfl, ?_⟩; replace HO105 := q0 (Kd.R_below (qr HO105.out) hb); replace BK103 := kd BK103 hb; replace HB := bp HB hb; (try clear hb); (try clear hb2); (try clear hk); (try clear hi)))
   go_ret
   exact ⟨_, qe, qr HO105.out, qb HB.out⟩
 subst c3
 rw [if_pos rfl] at H
 have H' := q0 H
 clear H
 go_enter Try.func35, Try.ntmps35
 go_wp2_with (first | ((with_reducible refine gd 1 ?_); refine be 1 #[.int .i64 a0_0, .slice A0_1 l0_1.length c0_1] 25 ?_; intro gb103 hg w4 hbox hb; have BK103 := q0 (hbox); have GW103 := gw HB hg; have GE103 := gw HB hg; replace HB := bp HB hb; clear hb hbox hg) | ((with_reducible refine gd 7 ?_); refine Kd.R_lit (Kd.int .i64) _ 3 ?hg (N := 7) ?hd (xs := ([] : List Int)) (inner := []) (ok := fun _ => True) (okp := fun _ => True) ?hr ?hp (fun _ hk => hk) trivial (Below.refl _ _) (Nat.le_refl _) (by simp) ?_; (case hd => rfl); (case hg => rfl); (case hr => first | (go_simp; done) | (go_simp; rfl)); (case hp => exact (Reps.none _ _)); intro v104 w5 ho6 hb hg_ hnew_; clear hg_ hnew_; (first | rw [← Ny100.out] at ho6 | (simp only [Int.reduceToNat] at ho6; rw [← Ny100.out] at ho6)); have HO105 := q0 (Kd.R_lower ho6 (below_size (qb HB.out))); replace BK103 := kd BK103 hb; replace HB := bp HB hb; clear hb ho6; obtain ⟨hcz7_0, hcz7_1, hfz7_0, hfz7_1⟩ := b2 BK103) | ((with_reducible refine gf 13 ?_); refine gl 9 Try.func13 #[.agg #[.int .i64 a0_0, .slice A0_1 l0_1.length c0_1]] ?_; (with_reducible refine (spec_NetOk.calls k a0_0 _ _ l0_1 true _ ?side1 ?side2 A2.out).mono ?_); (case side1 => exact qc (Kd.C_below HR0_1.out HB.out)); (case side2 => exact HC0_1.out); rintro e w8 ⟨rfl, hb⟩; refine ⟨_, rfl, ?_⟩; replace HO105 := q0 (Kd.R_below (qr HO105.out) hb); replace BK103 := kd BK103 hb; replace HB := bp HB hb; (try clear hb); (try clear hb2); (try clear hk); (try clear hi)))
 go_loopg [3, 4] k (fun kq v3 v4 w' => ∃ (x3_1 : List Int) (x4_1 : Int), v4 = .int .i64 x4_1 ∧ Aside0 (spec_WayParts.l0 kq x3_1 x4_1 a0_0 l0_1 = some r) ∧ Aside0 (kq ≤ k) ∧ Aside0 (Kd.R (Kd.int .i64) 3 w' w.heap.size (fun _ => True) v3 x3_1) ∧ Aside0 (w'.heap[gb103]? = some (.cells #[.int .i64 a0_0, (.slice A0_1 l0_1.length c0_1)] 25 (0, 0))) ∧ Aside0 (Below w.heap.size w w'))
 case atStart => exact ⟨(y100), (0), qs, H', ⟨Nat.le_refl _⟩, ⟨qr HO105.out⟩, ⟨qk BK103.out⟩, ⟨qb HB.out⟩⟩
 clear H'
 try clear c1
 try clear p2
 try clear c3
 try clear hcz7_0
 try clear hcz7_1
 try clear hfz7_0
 try clear hfz7_1
 obtain ⟨x3_1, x4_1, rfl, HA, HK1, HO_3, BK103, HB⟩ := hrel
 rcases gk with _ | k1
 · exact absurd HA.out (by simp [spec_WayParts.l0])
 have H := HA.out
 clear HA
 simp only [spec_WayParts.l0] at H
 by_cases c9 : x4_1 < a0_0
 rotate_left
 · rw [if_neg c9] at H
   have c9b0 := decide_eq_false c9
   clear c9
   obtain rfl := Option.some.inj H
   obtain ⟨hcz21_0, hcz21_1, hfz21_0, hfz21_1⟩ := b2 BK103
   go_wp2
   go_ret
   exact ⟨_, qe, qr HO_3.out, qb HB.out⟩
 rw [if_pos c9] at H
 have c9b0 := decide_eq_true c9
 clear c9
 obtain ⟨t101, A10, H⟩ := ob H
 have H' := q0 H
 clear H
 obtain ⟨hcz11_0, hcz11_1, hfz11_0, hfz11_1⟩ := b2 BK103
 go_wp2_with (first | ((with_reducible refine gf 41 ?_); refine gl 20 Try.func41 #[.agg #[.int .i64 a0_0, .slice A0_1 l0_1.length c0_1], .int .i64 x4_1] ?_; (with_reducible refine (spec_WayReach.calls k1 a0_0 _ _ l0_1 x4_1 t101 _ ?side1 ?side2 A10.out).mono ?_); (case side1 => exact qc (Kd.C_below HR0_1.out HB.out)); (case side2 => exact HC0_1.out); rintro e w12 ⟨v107, rfl, ho0, hb⟩; refine ⟨_, rfl, ?_⟩; replace HO_3 := q0 (Kd.R_below (qr HO_3.out) hb); have HO108 := q0 (Kd.R_lower ho0 (below_size (qb HB.out))); replace BK103 := kd BK103 hb; replace HB := bp HB hb; (try clear hb); (try clear hb2); (try clear hk); (try clear hi); (try clear ho0)))
 go_loopg [6] k1 (fun kq v6 w' => ∃ (x6_2 : Int), v6 = .int .i64 x6_2 ∧ Aside0 (spec_WayParts.l1 kq x3_1 x4_1 t101 x6_2 a0_0 l0_1 = some r) ∧ Aside0 (kq ≤ k1) ∧ Aside0 (Kd.R (Kd.int .i64) 3 w' w.heap.size (fun _ => True) u3 x3_1) ∧ Aside0 (Kd.R Kd.bool 4 w' w.heap.size (fun _ => True) v107 t101) ∧ Aside0 (w'.heap[gb103]? = some (.cells #[.int .i64 a0_0, (.slice A0_1 l0_1.length c0_1)] 25 (0, 0))) ∧ Aside0 (Below w.heap.size w w'))
 case atStart => exact ⟨(0), qs, H', ⟨Nat.le_refl _⟩, ⟨qr HO_3.out⟩, ⟨qr HO108.out⟩, ⟨qk BK103.out⟩, ⟨qb HB.out⟩⟩
 clear H'
 try clear c1
 try clear p2
 try clear c3
 try clear c4
 try clear c9
 try clear c9b0
 try clear hcz11_0
 try clear hcz11_1
 try clear hcz7_0
 try clear hcz7_1
 try clear hfz11_0
 try clear hfz11_1
 try clear hfz7_0
 try clear hfz7_1
 try clear p2
 obtain ⟨x6_2, rfl, HA, HK2, HO_3, HO_5, BK103, HB⟩ := hrel
 rcases gk with _ | k2
 · exact absurd HA.out (by simp [spec_WayParts.l1])
 have H := HA.out
 clear HA
 simp only [spec_WayParts.l1] at H
 obtain ⟨c13, H⟩ : (0 ≤ x6_2) ∧ _ := og H
 have c13b0 := decide_eq_true c13
 clear c13
 obtain ⟨c14, H⟩ : (x6_2 < (t101.length : Int)) ∧ _ := og H
 have c14b0 := decide_eq_true c14
 clear c14
 obtain ⟨bq15, hbq15⟩ : ∃ b_ : Bool, b_ = (rdOf false t101 x6_2) := ⟨_, rfl⟩
 replace H : (if bq15 = true then (if x3_1.length < 17592186044416 then (spec_WayParts.l0 k2 (x3_1 ++ [x6_2]) (wrap64 (x4_1 + 1)) a0_0 l0_1) else (none)) else (spec_WayParts.l1 k2 x3_1 x4_1 t101 (wrap64 (x6_2 + 1)) a0_0 l0_1)) = some r := by rw [← hbq15] at H; exact H
 have Nbq15 := q0 hbq15
 clear hbq15
 by_cases c16 : bq15 = true
 rotate_left
 · replace c16 := Bool.eq_false_iff.mpr c16
   subst c16
   rw [if_neg nf] at H
   have H' := q0 H
   clear H
   obtain ⟨Ao20, co20, eo20⟩ := Kd.R_slice HO_5.out
   subst eo20
   have p110 : 0 ≤ (x6_2 : Int) := of_decide_eq_true qa
   have q110 : x6_2 < (t101.length : Int) := of_decide_eq_true qa
   obtain ⟨ad110, e110, hx110_0⟩ := Kd.at_bool (Kd.R_reads' HO_5.out).2.2 x6_2 p110 q110
   (try rw [← Nbq15.out] at hx110_0)
   cases e110
   replace p110 := eq_true p110
   replace q110 := eq_true q110
   go_wp2
   go_roundg k2
   case measure => have := HK1.out; have := HK2.out; omega
   case rel => exact ⟨(wrap64 (x6_2 + 1)), qs, H', ⟨by have := HK1.out; have := HK2.out; omega⟩, ⟨qr HO_3.out⟩, ⟨qr HO_5.out⟩, ⟨qk BK103.out⟩, ⟨qb HB.out⟩⟩
 subst c16
 rw [if_pos rfl] at H
 obtain ⟨c17, H⟩ : (x3_1.length < 17592186044416) ∧ _ := og H
 have LMc17 := q0 c17
 clear c17
 obtain ⟨y109, hy109⟩ : ∃ y_ : List Int, y_ = (x3_1 ++ [x6_2]) := ⟨_, rfl⟩
 replace H : (spec_WayParts.l0 k2 y109 (wrap64 (x4_1 + 1)) a0_0 l0_1) = some r := qy H hy109
 have Ny109 := q0 hy109
 clear hy109
 have H' := q0 H
 clear H
 obtain ⟨Ao18, co18, eo18⟩ := Kd.R_slice HO_5.out
 subst eo18
 have p110 : 0 ≤ (x6_2 : Int) := of_decide_eq_true qa
 have q110 : x6_2 < (t101.length : Int) := of_decide_eq_true qa
 obtain ⟨ad110, e110, hx110_0⟩ := Kd.at_bool (Kd.R_reads' HO_5.out).2.2 x6_2 p110 q110
 (try rw [← Nbq15.out] at hx110_0)
 cases e110
 replace p110 := eq_true p110
 replace q110 := eq_true q110
 go_wp2_with (first | ((with_reducible refine gate_builtin (b := .append) (xs := #[.tmp 28, .tmp 30]) rfl ?_); at_builtin; refine Kd.R_append (Kd.int .i64) (w0 := w) w.heap.size rfl (.tmp 28) (.tmp 30) 53 3 (.int .i64 0) 8 rfl Try.underlying53 info3 rfl (by decide) (by omega) u3 x3_1 x6_2 [.int .i64 x6_2] (fun _ => True) (fun _ => False) rfl rfl ?aP (fun _ hk => hk.elim) ?aF ?aO ?aB ?aS ?aL ?_; (case aP => exact rfl); (case aB => exact (qb HB.out)); (case aF => exact (fun _ _ => trivial)); (case aO => exact (qr HO_3.out)); (case aS => exact (below_size (qb HB.out))); (case aL => have := LMc17.out; omega); intro v111 w19 ho hb hg hat; rw [← Ny109.out] at ho; replace HO_5 := q0 (Kd.R_over' (qr HO_5.out) (Kd.R_typed (qr HO_3.out)) (by decide) hg); replace BK103 := q0 (blk_grown (g := gb103) (o := .cells #[.int .i64 a0_0, .slice A0_1 l0_1.length c0_1] 25 (0, 0)) (qk BK103.out) hg (Kd.R_ne HO_3.out BK103.out (by decide))); replace HB := q0 (hb); have HO112 := q0 (ho); clear HO_3; clear ho hb hg hat))
 go_roundg k2
 case measure => have := HK1.out; have := HK2.out; omega
 case rel => exact ⟨(y109), (wrap64 (x4_1 + 1)), qs, H', ⟨by have := HK1.out; have := HK2.out; omega⟩, ⟨qr HO112.out⟩, ⟨qk BK103.out⟩, ⟨qb HB.out⟩⟩

set_option maxHeartbeats 8000000 in
set_option maxRecDepth 100000 in
theorem spec_WayCount.calls (k : Nat) (a0_0 : Int) (A0_1 : Option Addr) (c0_1 : Nat) (l0_1 : List (STie)) (r : Int) (w : World) (hr0_1 : Kd.C kTie w A0_1 l0_1.length l0_1) (hc0_1 : l0_1.length ≤ c0_1) (h : spec_WayCount.f k a0_0 l0_1 = some r) :
    Calls Try.prog 26 #[.agg #[.int .i64 a0_0, .slice A0_1 l0_1.length c0_1]] w fun e w' => e = .returned (.int .i64 r) ∧ Below w.heap.size w w' := by
 have hu25 := Try.underlying25
 have HR0_1 := q0 hr0_1
 have HC0_1 := q0 hc0_1
 clear hr0_1 hc0_1
 have HB := q0 (Below.refl w.heap.size w)
 have H : ((spec_NetOk.f k a0_0 l0_1).bind fun t100 => (if t100 = true then ((spec_WayParts.f k a0_0 l0_1).bind fun t101 => (spec_WayCount.l0 k t101 0 0)) else (some (-1)))) = some r := h
 clear h
 obtain ⟨t100, A2, H⟩ := ob H
 by_cases c3 : t100 = true
 rotate_left
 · replace c3 := Bool.eq_false_iff.mpr c3
   subst c3
   rw [if_neg nf] at H
   obtain rfl := Option.some.inj H
   go_enter Try.func26, Try.ntmps26
   go_wp2_with (first | ((with_reducible refine gd 1 ?_); refine be 1 #[.int .i64 a0_0, .slice A0_1 l0_1.length c0_1] 25 ?_; intro gb102 hg w16 hbox hb; have BK102 := q0 (hbox); have GW102 := gw HB hg; have GE102 := gw HB hg; replace HB := bp HB hb; clear hb hbox hg; obtain ⟨hcz17_0, hcz17_1, hfz17_0, hfz17_1⟩ := b2 BK102) | ((with_reducible refine gf 13 ?_); refine gl 7 Try.func13 #[.agg #[.int .i64 a0_0, .slice A0_1 l0_1.length c0_1]] ?_; (with_reducible refine (spec_NetOk.calls k a0_0 _ _ l0_1 false _ ?side1 ?side2 A2.out).mono ?_); (case side1 => exact qc (Kd.C_below HR0_1.out HB.out)); (case side2 => exact HC0_1.out); rintro e w18 ⟨rfl, hb⟩; refine ⟨_, rfl, ?_⟩; replace BK102 := kd BK102 hb; replace HB := bp HB hb; (try clear hb); (try clear hb2); (try clear hk); (try clear hi)))
   go_ret
   exact ⟨qe, qb HB.out⟩
 subst c3
 rw [if_pos rfl] at H
 obtain ⟨t101, A4, H⟩ := ob H
 have H' := q0 H
 clear H
 go_enter Try.func26, Try.ntmps26
 go_wp2_with (first | ((with_reducible refine gd 1 ?_); refine be 1 #[.int .i64 a0_0, .slice A0_1 l0_1.length c0_1] 25 ?_; intro gb102 hg w5 hbox hb; have BK102 := q0 (hbox); have GW102 := gw HB hg; have GE102 := gw HB hg; replace HB := bp HB hb; clear hb hbox hg; obtain ⟨hcz6_0, hcz6_1, hfz6_0, hfz6_1⟩ := b2 BK102) | ((with_reducible refine gf 13 ?_); refine gl 7 Try.func13 #[.agg #[.int .i64 a0_0, .slice A0_1 l0_1.length c0_1]] ?_; (with_reducible refine (spec_NetOk.calls k a0_0 _ _ l0_1 true _ ?side1 ?side2 A2.out).mono ?_); (case side1 => exact qc (Kd.C_below HR0_1.out HB.out)); (case side2 => exact HC0_1.out); rintro e w7 ⟨rfl, hb⟩; refine ⟨_, rfl, ?_⟩; replace BK102 := kd BK102 hb; replace HB := bp HB hb; (try clear hb); (try clear hb2); (try clear hk); (try clear hi); obtain ⟨hcz8_0, hcz8_1, hfz8_0, hfz8_1⟩ := b2 BK102) | ((with_reducible refine gf 35 ?_); refine gl 10 Try.func35 #[.agg #[.int .i64 a0_0, .slice A0_1 l0_1.length c0_1]] ?_; (with_reducible refine (spec_WayParts.calls k a0_0 _ _ l0_1 t101 _ ?side1 ?side2 A4.out).mono ?_); (case side1 => exact qc (Kd.C_below HR0_1.out HB.out)); (case side2 => exact HC0_1.out); rintro e w9 ⟨v103, rfl, ho0, hb⟩; refine ⟨_, rfl, ?_⟩; have HO104 := q0 (Kd.R_lower ho0 (below_size (qb HB.out))); replace BK102 := kd BK102 hb; replace HB := bp HB hb; (try clear hb); (try clear hb2); (try clear hk); (try clear hi); (try clear ho0)))
 go_loopg [4, 5] k (fun kq v4 v5 w' => ∃ (x4_1 : Int) (x5_1 : Int), v4 = .int .i64 x4_1 ∧ v5 = .int .i64 x5_1 ∧ Aside0 (spec_WayCount.l0 kq t101 x4_1 x5_1 = some r) ∧ Aside0 (kq ≤ k) ∧ Aside0 (Kd.R (Kd.int .i64) 3 w' w.heap.size (fun _ => True) v103 t101) ∧ Aside0 (w'.heap[gb102]? = some (.cells #[.int .i64 a0_0, (.slice A0_1 l0_1.length c0_1)] 25 (0, 0))) ∧ Aside0 (Below w.heap.size w w'))
 case atStart => exact ⟨(0), (0), qs, qs, H', ⟨Nat.le_refl _⟩, ⟨qr HO104.out⟩, ⟨qk BK102.out⟩, ⟨qb HB.out⟩⟩
 clear H'
 try clear c1
 try clear c2
 try clear p2
 try clear c3
 try clear hcz6_0
 try clear hcz6_1
 try clear hcz8_0
 try clear hcz8_1
 try clear hfz6_0
 try clear hfz6_1
 try clear hfz8_0
 try clear hfz8_1
 obtain ⟨x4_1, x5_1, rfl, rfl, HA, HK1, HO_3, BK102, HB⟩ := hrel
 rcases gk with _ | k1
 · exact absurd HA.out (by simp [spec_WayCount.l0])
 have H := HA.out
 clear HA
 simp only [spec_WayCount.l0] at H
 by_cases c10 : x5_1 < (t101.length : Int)
 rotate_left
 · rw [if_neg c10] at H
   have c10b0 := decide_eq_false c10
   clear c10
   obtain rfl := Option.some.inj H
   obtain ⟨Ao15, co15, eo15⟩ := Kd.R_slice HO_3.out
   subst eo15
   go_wp2
   go_ret
   exact ⟨qe, qb HB.out⟩
 rw [if_pos c10] at H
 have c10b0 := decide_eq_true c10
 clear c10
 obtain ⟨c11, H⟩ : (0 ≤ x5_1) ∧ _ := og H
 have c11b0 := decide_eq_true c11
 clear c11
 by_cases c12 : (rd t101 x5_1) = x5_1
 rotate_left
 · rw [if_neg c12] at H
   have c12b0 : ((rd t101 x5_1) == x5_1) = false := beq_eq_false_iff_ne.mpr c12
   have c12b1 : ((rd t101 x5_1) != x5_1) = true := bne_iff_ne.mpr c12
   have H' := q0 H
   clear H
   obtain ⟨Ao14, co14, eo14⟩ := Kd.R_slice HO_3.out
   subst eo14
   have p105 : 0 ≤ (x5_1 : Int) := of_decide_eq_true qa
   have q105 : x5_1 < (t101.length : Int) := of_decide_eq_true qa
   obtain ⟨ad105, e105, hx105_0⟩ := Kd.at_int (Kd.R_reads' HO_3.out).2.2 x5_1 p105 q105
   cases e105
   replace p105 := eq_true p105
   replace q105 := eq_true q105
   go_wp2
   go_roundg k1
   case measure => have := HK1.out; omega
   case rel => exact ⟨(x4_1), (wrap64 (x5_1 + 1)), qs, qs, H', ⟨by have := HK1.out; omega⟩, ⟨qr HO_3.out⟩, ⟨qk BK102.out⟩, ⟨qb HB.out⟩⟩
 rw [if_pos c12] at H
 have c12b0 : ((rd t101 x5_1) == x5_1) = true := beq_iff_eq.mpr c12
 have c12b1 : ((rd t101 x5_1) != x5_1) = false := bne_eq_false_iff_eq.mpr c12
 clear c12
 have H' := q0 H
 clear H
 obtain ⟨Ao13, co13, eo13⟩ := Kd.R_slice HO_3.out
 subst eo13
 have p105 : 0 ≤ (x5_1 : Int) := of_decide_eq_true qa
 have q105 : x5_1 < (t101.length : Int) := of_decide_eq_true qa
 obtain ⟨ad105, e105, hx105_0⟩ := Kd.at_int (Kd.R_reads' HO_3.out).2.2 x5_1 p105 q105
 cases e105
 replace p105 := eq_true p105
 replace q105 := eq_true q105
 go_wp2
 go_roundg k1
 case measure => have := HK1.out; omega
 case rel => exact ⟨(wrap64 (x4_1 + 1)), (wrap64 (x5_1 + 1)), qs, qs, H', ⟨by have := HK1.out; omega⟩, ⟨qr HO_3.out⟩, ⟨qk BK102.out⟩, ⟨qb HB.out⟩⟩

def spec_BridgeIs.T2 : Bool × List (List Nat × List Nat) := (true, [([], []), ([0], [0]), ([1], [1]), ([2, 1, 1], [1, 2]), ([1], [1]), ([4, 3, 1], [1, 4]), ([3, 5, 1], [1, 3, 5]), ([1, 6], [1, 6]), ([7, 5, 0, 1, 2, 3, 4, 5, 6, 7], [7])])
def spec_BridgeIs.B2 : List Nat := [0, 1, 3, 7, 3, 31, 63, 127, 255]
theorem spec_BridgeIs.tab2 : rtab .any (opsOf Try.f14 2) = spec_BridgeIs.T2 := by kernel_rfl
theorem spec_BridgeIs.bits2 : waitsOk spec_BridgeIs.T2.2 spec_BridgeIs.B2 = true := by kernel_rfl
set_option maxHeartbeats 8000000 in
set_option maxRecDepth 100000 in
theorem spec_BridgeIs.calls (k : Nat) (a0_0 : Int) (A0_1 : Option Addr) (c0_1 : Nat) (l0_1 : List (STie)) (a1 : Int) (a2 : Int) (r : Bool) (w : World) (hr0_1 : Kd.C kTie w A0_1 l0_1.length l0_1) (hc0_1 : l0_1.length ≤ c0_1) (h : spec_BridgeIs.f k a0_0 l0_1 a1 a2 = some r) :
    Calls Try.prog 14 #[.agg #[.int .i64 a0_0, .slice A0_1 l0_1.length c0_1], .int .i64 a1, .int .i64 a2] w fun e w' => e = .returned (.bool r) ∧ Below w.heap.size w w' := by
 have hu25 := Try.underlying25
 have HR0_1 := q0 hr0_1
 have HC0_1 := q0 hc0_1
 clear hr0_1 hc0_1
 have HB := q0 (Below.refl w.heap.size w)
 have H : ((spec_NetCut.f k a0_0 l0_1 a1 a2).bind fun bt100 => (if bt100.2.2 = true then ((spec_WayCount.f k bt100.1 bt100.2.1).bind fun t101 => ((spec_WayCount.f k a0_0 l0_1).bind fun t102 => (some (decide (t101 > t102))))) else (some false))) = some r := h
 clear h
 obtain ⟨⟨t100, t103, t104⟩, A4, H⟩ := ob H
 by_cases c5 : t104 = true
 rotate_left
 · replace c5 := Bool.eq_false_iff.mpr c5
   subst c5
   rw [if_neg nf] at H
   obtain rfl := Option.some.inj H
   go_enter Try.func14, Try.ntmps14
   try go_wp2_with (first | ((with_reducible refine gd 3 ?_); refine be 3 #[.int .i64 a0_0, .slice A0_1 l0_1.length c0_1] 25 ?_; intro gb105 hg w19 hbox hb; have BK105 := q0 (hbox); have GW105 := gw HB hg; have GE105 := gw HB hg; replace HB := bp HB hb; clear hb hbox hg; obtain ⟨hcz20_0, hcz20_1, hfz20_0, hfz20_1⟩ := b2 BK105) | ((with_reducible refine gf 25 ?_); refine gl 13 Try.func25 #[.agg #[.int .i64 a0_0, .slice A0_1 l0_1.length c0_1], .int .i64 a1, .int .i64 a2] ?_; (with_reducible refine (spec_NetCut.calls k a0_0 _ _ l0_1 a1 a2 t100 t103 false _ ?side1 ?side2 A4.out).mono ?_); (case side1 => exact qc (Kd.C_below HR0_1.out HB.out)); (case side2 => exact HC0_1.out); rintro e w21 ⟨v106, rfl, ho0, hb⟩; refine ⟨_, rfl, ?_⟩; have HO107 := q0 (Kd.R_lower ho0 (below_size (qb HB.out))); replace BK105 := kd BK105 hb; replace HB := bp HB hb; (try clear hb); (try clear hb2); (try clear hk); (try clear hi); (try clear ho0)) | ((with_reducible refine gd 7 ?_); refine be 7 #[.int .i64 0, .slice none 0 0] 25 ?_; intro gb108 hg w22 hbox hb; replace HO107 := q0 (Kd.R_below (qr HO107.out) hb); have BK108 := q0 (hbox); have GW108 := gw HB hg; have GE108 := gw HB hg; replace HB := bp HB hb; have NB105_108 := nl BK105 hg; have NB108_105 := ng BK105 hg; replace BK105 := kd BK105 hb; clear hb hbox hg; have hnb23 := NB108_105.out; have hnc23 := NB105_108.out; obtain ⟨hcz24_0, hcz24_1, hfz24_0, hfz24_1⟩ := b2 BK108; obtain ⟨Ao25, co25, eo25⟩ := Kd.R_slice HO107.out; subst eo25))
   have n0_ : Aside0 (Kd.R kTie 32 ((w22.setCell ⟨gb108, 0, none⟩ (.int .i64 t100)).setCell ⟨gb108, 1, none⟩ (.slice Ao25 t103.length co25)) w.heap.size (fun _ => True) (.slice Ao25 t103.length co25) t103) := ⟨by (with_reducible repeat (first | apply Kd.R_alloc | apply Kd.R_drewN | apply Kd.R_drew)); exact rf2 HO107.out BK108.out (fun _ hk => trivial)⟩
   have n1_ : Aside0 (((w22.setCell ⟨gb108, 0, none⟩ (.int .i64 t100)).setCell ⟨gb108, 1, none⟩ (.slice Ao25 t103.length co25)).heap[gb105]? = some (.cells #[.int .i64 a0_0, .slice A0_1 l0_1.length c0_1] 25 (0, 0))) := ⟨qf BK105.out⟩
   have n2_ : Aside0 (((w22.setCell ⟨gb108, 0, none⟩ (.int .i64 t100)).setCell ⟨gb108, 1, none⟩ (.slice Ao25 t103.length co25)).heap[gb108]? = some (.cells #[.int .i64 t100, .slice Ao25 t103.length co25] 25 (0, 0))) := ⟨by (with_reducible repeat (first | refine blk_drewN ?_ _ | refine blk_drew ?_ | refine blk_alloc ?_ _)); refine blk_put (cs := #[.int .i64 t100, .slice none 0 0]) ?_ 1 _ rfl; (with_reducible repeat (first | refine blk_drewN ?_ _ | refine blk_drew ?_ | refine blk_alloc ?_ _)); refine blk_put (cs := #[.int .i64 0, .slice none 0 0]) ?_ 0 _ rfl; (with_reducible repeat (first | refine blk_drewN ?_ _ | refine blk_drew ?_ | refine blk_alloc ?_ _)); exact BK108.out⟩
   have n3_ : Aside0 (Below w.heap.size w ((w22.setCell ⟨gb108, 0, none⟩ (.int .i64 t100)).setCell ⟨gb108, 1, none⟩ (.slice Ao25 t103.length co25))) := ⟨qb HB.out⟩
   (try clear HO107)
   (try clear BK105)
   (try clear BK108)
   (try clear HB)
   generalize ((w22.setCell ⟨gb108, 0, none⟩ (.int .i64 t100)).setCell ⟨gb108, 1, none⟩ (.slice Ao25 t103.length co25)) = w26 at n0_ n1_ n2_ n3_ ⊢
   have HO107 := n0_
   have BK105 := n1_
   have BK108 := n2_
   have HB := n3_
   clear n0_ n1_ n2_ n3_
   replace HO107 := q0 (Kd.R_drew HO107.out)
   replace BK105 := q0 (blk_drew BK105.out)
   replace BK108 := q0 (blk_drew BK108.out)
   replace HB := q0 (below_drew1 HB.out)
   refine start_ (n := 9) (S := fun w' => True) (ds := []) (ba 9 0) (by kernel_rfl) rfl (by kernel_rfl) trivial (fun hHeld => ?_); refine with_tabW spec_BridgeIs.tab2 spec_BridgeIs.bits2 (fun HT_ HW_ => ?_)
   generalize w26.drew = w27 at HO107 BK105 BK108 HB hHeld ⊢
   refine pU 0 16 9 1 HT_ ?_
   refine pU 1 17 9 3 HT_ ?_
   refine pV 2 18 9 7 HT_ ?_
   refine pV 3 19 9 15 HT_ ?_
   refine pV 4 20 9 31 HT_ ?_
   refine pV 5 21 9 63 HT_ ?_
   refine pV 6 22 9 127 HT_ ?_
   refine pU 7 23 9 255 HT_ ?_
   refine pU 8 6 9 511 HT_ ?_
   refine done_ (done_of HT_.out (by kernel_rfl)) ?_
   try go_wp2
   go_ret
   exact ⟨qe, qb HB.out⟩
 subst c5
 rw [if_pos rfl] at H
 obtain ⟨t101, A6, H⟩ := ob H
 obtain ⟨t102, A7, H⟩ := ob H
 obtain rfl := Option.some.inj H
 go_enter Try.func14, Try.ntmps14
 try go_wp2_with (first | ((with_reducible refine gd 3 ?_); refine be 3 #[.int .i64 a0_0, .slice A0_1 l0_1.length c0_1] 25 ?_; intro gb105 hg w8 hbox hb; have BK105 := q0 (hbox); have GW105 := gw HB hg; have GE105 := gw HB hg; replace HB := bp HB hb; clear hb hbox hg; obtain ⟨hcz9_0, hcz9_1, hfz9_0, hfz9_1⟩ := b2 BK105) | ((with_reducible refine gf 25 ?_); refine gl 13 Try.func25 #[.agg #[.int .i64 a0_0, .slice A0_1 l0_1.length c0_1], .int .i64 a1, .int .i64 a2] ?_; (with_reducible refine (spec_NetCut.calls k a0_0 _ _ l0_1 a1 a2 t100 t103 true _ ?side1 ?side2 A4.out).mono ?_); (case side1 => exact qc (Kd.C_below HR0_1.out HB.out)); (case side2 => exact HC0_1.out); rintro e w10 ⟨v106, rfl, ho0, hb⟩; refine ⟨_, rfl, ?_⟩; have HO107 := q0 (Kd.R_lower ho0 (below_size (qb HB.out))); replace BK105 := kd BK105 hb; replace HB := bp HB hb; (try clear hb); (try clear hb2); (try clear hk); (try clear hi); (try clear ho0)) | ((with_reducible refine gd 7 ?_); refine be 7 #[.int .i64 0, .slice none 0 0] 25 ?_; intro gb108 hg w11 hbox hb; replace HO107 := q0 (Kd.R_below (qr HO107.out) hb); have BK108 := q0 (hbox); have GW108 := gw HB hg; have GE108 := gw HB hg; replace HB := bp HB hb; have NB105_108 := nl BK105 hg; have NB108_105 := ng BK105 hg; replace BK105 := kd BK105 hb; clear hb hbox hg; have hnb12 := NB108_105.out; have hnc12 := NB105_108.out; obtain ⟨hcz13_0, hcz13_1, hfz13_0, hfz13_1⟩ := b2 BK108; obtain ⟨Ao14, co14, eo14⟩ := Kd.R_slice HO107.out; subst eo14))
 have n0_ : Aside0 (Kd.R kTie 32 ((w11.setCell ⟨gb108, 0, none⟩ (.int .i64 t100)).setCell ⟨gb108, 1, none⟩ (.slice Ao14 t103.length co14)) w.heap.size (fun _ => True) (.slice Ao14 t103.length co14) t103) := ⟨by (with_reducible repeat (first | apply Kd.R_alloc | apply Kd.R_drewN | apply Kd.R_drew)); exact rf2 HO107.out BK108.out (fun _ hk => trivial)⟩
 have n1_ : Aside0 (((w11.setCell ⟨gb108, 0, none⟩ (.int .i64 t100)).setCell ⟨gb108, 1, none⟩ (.slice Ao14 t103.length co14)).heap[gb105]? = some (.cells #[.int .i64 a0_0, .slice A0_1 l0_1.length c0_1] 25 (0, 0))) := ⟨qf BK105.out⟩
 have n2_ : Aside0 (((w11.setCell ⟨gb108, 0, none⟩ (.int .i64 t100)).setCell ⟨gb108, 1, none⟩ (.slice Ao14 t103.length co14)).heap[gb108]? = some (.cells #[.int .i64 t100, .slice Ao14 t103.length co14] 25 (0, 0))) := ⟨by (with_reducible repeat (first | refine blk_drewN ?_ _ | refine blk_drew ?_ | refine blk_alloc ?_ _)); refine blk_put (cs := #[.int .i64 t100, .slice none 0 0]) ?_ 1 _ rfl; (with_reducible repeat (first | refine blk_drewN ?_ _ | refine blk_drew ?_ | refine blk_alloc ?_ _)); refine blk_put (cs := #[.int .i64 0, .slice none 0 0]) ?_ 0 _ rfl; (with_reducible repeat (first | refine blk_drewN ?_ _ | refine blk_drew ?_ | refine blk_alloc ?_ _)); exact BK108.out⟩
 have n3_ : Aside0 (Below w.heap.size w ((w11.setCell ⟨gb108, 0, none⟩ (.int .i64 t100)).setCell ⟨gb108, 1, none⟩ (.slice Ao14 t103.length co14))) := ⟨qb HB.out⟩
 (try clear HO107)
 (try clear BK105)
 (try clear BK108)
 (try clear HB)
 generalize ((w11.setCell ⟨gb108, 0, none⟩ (.int .i64 t100)).setCell ⟨gb108, 1, none⟩ (.slice Ao14 t103.length co14)) = w15 at n0_ n1_ n2_ n3_ ⊢
 have HO107 := n0_
 have BK105 := n1_
 have BK108 := n2_
 have HB := n3_
 clear n0_ n1_ n2_ n3_
 replace HO107 := q0 (Kd.R_drew HO107.out)
 replace BK105 := q0 (blk_drew BK105.out)
 replace BK108 := q0 (blk_drew BK108.out)
 replace HB := q0 (below_drew1 HB.out)
 refine start_ (n := 9) (S := fun w' => w'.cell? ⟨gb108, 0, none⟩ = some (.int .i64 t100) ∧ w'.cell? ⟨gb108, 1, none⟩ = some (.slice Ao14 t103.length co14) ∧ w'.cell? ⟨gb105, 0, none⟩ = some (.int .i64 a0_0) ∧ w'.cell? ⟨gb105, 1, none⟩ = some (.slice A0_1 l0_1.length c0_1)) (ds := []) (ba 9 0) (by kernel_rfl) rfl (by kernel_rfl) ⟨bca BK108, bcb BK108, bca BK105, bcb BK105⟩ (fun hHeld => ?_); refine with_tabW spec_BridgeIs.tab2 spec_BridgeIs.bits2 (fun HT_ HW_ => ?_)
 generalize w15.drew = w16 at HO107 BK105 BK108 HB hHeld ⊢
 refine pU 0 16 9 1 HT_ ?_
 refine pU 1 17 9 3 HT_ ?_
 refine tU 2 18 9 7 HT_ HW_ hHeld ?_
 refine tU 4 20 9 23 HT_ HW_ hHeld ?_
 refine one_ (i := 3) (N := some 19) (ba 9 31) rfl rfl (one_of HT_.out (by kernel_rfl)) (by decide) (fun K hK => ?_)
 refine goes_ Try.func26 (by kernel_rfl) rfl #[.agg #[.int .i64 t100, .slice Ao14 t103.length co14]] (by rfl) rfl rfl qm ?_
 with_reducible refine (spec_WayCount.calls k t100 _ _ t103 t101 _ ?side1 ?side2 A6.out).mono ?_
 (case side1 => exact qc (Kd.R_reads' HO107.out).2.2)
 (case side2 => exact (Kd.R_reads' HO107.out).2.1)
 rintro e w17 ⟨rfl, hb⟩
 refine ⟨_, rfl, ?_⟩
 replace HO107 := q0 (Kd.R_below (qr HO107.out) hb)
 replace BK105 := kd BK105 hb
 replace BK108 := kd BK108 hb
 replace HB := bp HB hb
 (try clear hb)
 (try clear hb2)
 (try clear hk)
 (try clear hi)
 refine hK.out _ _ ⟨bca BK108, bcb BK108, bca BK105, bcb BK105⟩ (fun hHeld => ?_)
 clear hK K
 refine nu 19 ?_
 refine one_ (i := 5) (N := some 21) (ba 9 63) rfl rfl (one_of HT_.out (by kernel_rfl)) (by decide) (fun K hK => ?_)
 refine goes_ Try.func26 (by kernel_rfl) rfl #[.agg #[.int .i64 a0_0, .slice A0_1 l0_1.length c0_1]] (by rfl) rfl rfl qm ?_
 with_reducible refine (spec_WayCount.calls k a0_0 _ _ l0_1 t102 _ ?side1 ?side2 A7.out).mono ?_
 (case side1 => exact qc (Kd.C_below HR0_1.out HB.out))
 (case side2 => exact HC0_1.out)
 rintro e w18 ⟨rfl, hb⟩
 refine ⟨_, rfl, ?_⟩
 replace HO107 := q0 (Kd.R_below (qr HO107.out) hb)
 replace BK105 := kd BK105 hb
 replace BK108 := kd BK108 hb
 replace HB := bp HB hb
 (try clear hb)
 (try clear hb2)
 (try clear hk)
 (try clear hi)
 refine hK.out _ _ ⟨bca BK108, bcb BK108, bca BK105, bcb BK105⟩ (fun hHeld => ?_)
 clear hK K
 refine nu 21 ?_
 refine pU 6 22 9 127 HT_ ?_
 refine pU 7 23 9 255 HT_ ?_
 refine pU 8 6 9 511 HT_ ?_
 refine done_ (done_of HT_.out (by kernel_rfl)) ?_
 try go_wp2
 go_ret
 exact ⟨qe, qb HB.out⟩

def spec_BridgeList.T7 : Bool × List (List Nat × List Nat) := (true, [([], []), ([], []), ([1], [1]), ([], []), ([2, 3], [2, 3]), ([4], [4]), ([5], [5]), ([], []), ([7], [7]), ([], []), ([8, 9], [8, 9]), ([10], [10]), ([11], [11]), ([0, 6, 12], [0, 6, 12])])
def spec_BridgeList.B7 : List Nat := [0, 0, 2, 0, 14, 30, 62, 0, 128, 0, 896, 1920, 3968, 8191]
theorem spec_BridgeList.tab7 : rtab .any (opsOf Try.f7 7) = spec_BridgeList.T7 := by kernel_rfl
theorem spec_BridgeList.bits7 : waitsOk spec_BridgeList.T7.2 spec_BridgeList.B7 = true := by kernel_rfl
set_option maxHeartbeats 8000000 in
set_option maxRecDepth 100000 in
theorem spec_BridgeList.calls (k : Nat) (a0_0 : Int) (A0_1 : Option Addr) (c0_1 : Nat) (l0_1 : List (STie)) (r : List (STie)) (w : World) (hr0_1 : Kd.C kTie w A0_1 l0_1.length l0_1) (hc0_1 : l0_1.length ≤ c0_1) (h : spec_BridgeList.f k a0_0 l0_1 = some r) :
    Calls Try.prog 7 #[.agg #[.int .i64 a0_0, .slice A0_1 l0_1.length c0_1]] w fun e w' => ∃ v0_ : Value, e = .returned (v0_) ∧ Kd.R kTie 32 w' w.heap.size (fun _ => True) v0_ r ∧ Below w.heap.size w w' := by
 have hu25 := Try.underlying25
 have hu32 := Try.underlying32
 have HR0_1 := q0 hr0_1
 have HC0_1 := q0 hc0_1
 clear hr0_1 hc0_1
 have HB := q0 (Below.refl w.heap.size w)
 have H : ((some (([] : List (STie)) : List (STie))).bind fun y100 => ((spec_NetOk.f k a0_0 l0_1).bind fun t102 => (if t102 = true then (spec_BridgeList.l0 k y100 0 a0_0 l0_1) else (some y100)))) = some r := h
 clear h
 obtain ⟨y100, hy100⟩ : ∃ y_ : List (STie), y_ = (([] : List (STie))) := ⟨_, rfl⟩
 replace H : ((spec_NetOk.f k a0_0 l0_1).bind fun t102 => (if t102 = true then (spec_BridgeList.l0 k y100 0 a0_0 l0_1) else (some y100))) = some r := qy H hy100
 have Ny100 := q0 hy100
 clear hy100
 obtain ⟨t102, A2, H⟩ := ob H
 by_cases c3 : t102 = true
 rotate_left
 · replace c3 := Bool.eq_false_iff.mpr c3
   subst c3
   rw [if_neg nf] at H
   obtain rfl := Option.some.inj H
   go_enter Try.func7, Try.ntmps7
   go_wp2_with (first | ((with_reducible refine gd 1 ?_); refine be 1 #[.int .i64 a0_0, .slice A0_1 l0_1.length c0_1] 25 ?_; intro gb103 hg w23 hbox hb; have BK103 := q0 (hbox); have GW103 := gw HB hg; have GE103 := gw HB hg; replace HB := bp HB hb; clear hb hbox hg) | ((with_reducible refine gd 5 ?_); refine Kd.R_lit kTie _ 32 ?hg (N := 5) ?hd (xs := ([] : List (STie))) (inner := []) (ok := fun _ => True) (okp := fun _ => True) ?hr ?hp (fun _ hk => hk) trivial (Below.refl _ _) (Nat.le_refl _) (by simp) ?_; (case hd => rfl); (case hg => rfl); (case hr => first | (go_simp; done) | (go_simp; rfl)); (case hp => exact (Reps.none _ _)); intro v104 w24 ho25 hb hg_ hnew_; clear hg_ hnew_; (first | rw [← Ny100.out] at ho25 | (simp only [Int.reduceToNat] at ho25; rw [← Ny100.out] at ho25)); have HO105 := q0 (Kd.R_lower ho25 (below_size (qb HB.out))); replace BK103 := kd BK103 hb; replace HB := bp HB hb; clear hb ho25; obtain ⟨hcz26_0, hcz26_1, hfz26_0, hfz26_1⟩ := b2 BK103) | ((with_reducible refine gf 13 ?_); refine gl 7 Try.func13 #[.agg #[.int .i64 a0_0, .slice A0_1 l0_1.length c0_1]] ?_; (with_reducible refine (spec_NetOk.calls k a0_0 _ _ l0_1 false _ ?side1 ?side2 A2.out).mono ?_); (case side1 => exact qc (Kd.C_below HR0_1.out HB.out)); (case side2 => exact HC0_1.out); rintro e w27 ⟨rfl, hb⟩; refine ⟨_, rfl, ?_⟩; replace HO105 := q0 (Kd.R_below (qr HO105.out) hb); replace BK103 := kd BK103 hb; replace HB := bp HB hb; (try clear hb); (try clear hb2); (try clear hk); (try clear hi)))
   go_ret
   exact ⟨_, qe, qr HO105.out, qb HB.out⟩
 subst c3
 rw [if_pos rfl] at H
 have H' := q0 H
 clear H
 go_enter Try.func7, Try.ntmps7
 go_wp2_with (first | ((with_reducible refine gd 1 ?_); refine be 1 #[.int .i64 a0_0, .slice A0_1 l0_1.length c0_1] 25 ?_; intro gb103 hg w4 hbox hb; have BK103 := q0 (hbox); have GW103 := gw HB hg; have GE103 := gw HB hg; replace HB := bp HB hb; clear hb hbox hg) | ((with_reducible refine gd 5 ?_); refine Kd.R_lit kTie _ 32 ?hg (N := 5) ?hd (xs := ([] : List (STie))) (inner := []) (ok := fun _ => True) (okp := fun _ => True) ?hr ?hp (fun _ hk => hk) trivial (Below.refl _ _) (Nat.le_refl _) (by simp) ?_; (case hd => rfl); (case hg => rfl); (case hr => first | (go_simp; done) | (go_simp; rfl)); (case hp => exact (Reps.none _ _)); intro v104 w5 ho6 hb hg_ hnew_; clear hg_ hnew_; (first | rw [← Ny100.out] at ho6 | (simp only [Int.reduceToNat] at ho6; rw [← Ny100.out] at ho6)); have HO105 := q0 (Kd.R_lower ho6 (below_size (qb HB.out))); replace BK103 := kd BK103 hb; replace HB := bp HB hb; clear hb ho6; obtain ⟨hcz7_0, hcz7_1, hfz7_0, hfz7_1⟩ := b2 BK103) | ((with_reducible refine gf 13 ?_); refine gl 7 Try.func13 #[.agg #[.int .i64 a0_0, .slice A0_1 l0_1.length c0_1]] ?_; (with_reducible refine (spec_NetOk.calls k a0_0 _ _ l0_1 true _ ?side1 ?side2 A2.out).mono ?_); (case side1 => exact qc (Kd.C_below HR0_1.out HB.out)); (case side2 => exact HC0_1.out); rintro e w8 ⟨rfl, hb⟩; refine ⟨_, rfl, ?_⟩; replace HO105 := q0 (Kd.R_below (qr HO105.out) hb); replace BK103 := kd BK103 hb; replace HB := bp HB hb; (try clear hb); (try clear hb2); (try clear hk); (try clear hi)))
 go_loopg [3, 4] k (fun kq v3 v4 w' => ∃ (x3_1 : List (STie)) (x4_1 : Int), v4 = .int .i64 x4_1 ∧ Aside0 (spec_BridgeList.l0 kq x3_1 x4_1 a0_0 l0_1 = some r) ∧ Aside0 (kq ≤ k) ∧ Aside0 (Kd.R kTie 32 w' w.heap.size (fun _ => True) v3 x3_1) ∧ Aside0 (w'.heap[gb103]? = some (.cells #[.int .i64 a0_0, (.slice A0_1 l0_1.length c0_1)] 25 (0, 0))) ∧ Aside0 (Below w.heap.size w w'))
 case atStart => exact ⟨(y100), (0), qs, H', ⟨Nat.le_refl _⟩, ⟨qr HO105.out⟩, ⟨qk BK103.out⟩, ⟨qb HB.out⟩⟩
 clear H'
 try clear c1
 try clear p2
 try clear c3
 try clear c7
 try clear hcz7_0
 try clear hcz7_1
 try clear hfz7_0
 try clear hfz7_1
 obtain ⟨x3_1, x4_1, rfl, HA, HK1, HO_3, BK103, HB⟩ := hrel
 rcases gk with _ | k1
 · exact absurd HA.out (by simp [spec_BridgeList.l0])
 have H := HA.out
 clear HA
 simp only [spec_BridgeList.l0] at H
 by_cases c9 : x4_1 < (l0_1.length : Int)
 rotate_left
 · rw [if_neg c9] at H
   have c9b0 := decide_eq_false c9
   clear c9
   obtain rfl := Option.some.inj H
   obtain ⟨hcz22_0, hcz22_1, hfz22_0, hfz22_1⟩ := b2 BK103
   go_wp2
   go_ret
   exact ⟨_, qe, qr HO_3.out, qb HB.out⟩
 rw [if_pos c9] at H
 have c9b0 := decide_eq_true c9
 clear c9
 obtain ⟨c10, H⟩ : (0 ≤ x4_1) ∧ _ := og H
 have c10b0 := decide_eq_true c10
 clear c10
 obtain ⟨t101, A11, H⟩ := ob H
 by_cases c12 : t101 = true
 rotate_left
 · replace c12 := Bool.eq_false_iff.mpr c12
   subst c12
   rw [if_neg nf] at H
   have H' := q0 H
   clear H
   obtain ⟨hcz19_0, hcz19_1, hfz19_0, hfz19_1⟩ := b2 BK103
   try go_wp2
   replace HO_3 := q0 (Kd.R_drew HO_3.out)
   replace BK103 := q0 (blk_drew BK103.out)
   replace HB := q0 (below_drew1 HB.out)
   have p108 : 0 ≤ (x4_1 : Int) := of_decide_eq_true qa
   have q108 : x4_1 < (l0_1.length : Int) := of_decide_eq_true qa
   obtain ⟨ad108, e108, hx108_0, hx108_1⟩ := at_TTie HR0_1.out x4_1 p108 q108
   have hw108_1 := hx108_1
   have hw108_0 := hx108_0
   cases e108
   replace hx108_0 := hcl HB.out hx108_0
   replace hx108_1 := hcl HB.out hx108_1
   replace p108 := eq_true p108
   replace q108 := eq_true q108
   have p109 : 0 ≤ (x4_1 : Int) := of_decide_eq_true qa
   have q109 : x4_1 < (l0_1.length : Int) := of_decide_eq_true qa
   obtain ⟨ad109, e109, hx109_0, hx109_1⟩ := at_TTie HR0_1.out x4_1 p109 q109
   have hw109_1 := hx109_1
   have hw109_0 := hx109_0
   obtain rfl : ad108 = ad109 := (by injection e109)
   replace hx109_0 := hcl HB.out hx109_0
   replace hx109_1 := hcl HB.out hx109_1
   replace p109 := eq_true p109
   replace q109 := eq_true q109
   refine start_ (n := 14) (S := fun w' => w'.cell? ⟨gb103, 0, none⟩ = some (.int .i64 a0_0) ∧ w'.cell? ⟨gb103, 1, none⟩ = some (.slice (some ad108) l0_1.length c0_1) ∧ w'.cell? (ad108.add ((x4_1).toNat * 2)) = some (.int .i64 ((rd_TTie l0_1 x4_1).f0)) ∧ w'.cell? ⟨(ad108.add ((x4_1).toNat * 2)).block, (ad108.add ((x4_1).toNat * 2)).off + 1, none⟩ = some (.int .i64 ((rd_TTie l0_1 x4_1).f1)) ∧ w'.cell? (ad108.add ((x4_1).toNat * 2)) = some (.int .i64 ((rd_TTie l0_1 x4_1).f0)) ∧ w'.cell? ⟨(ad108.add ((x4_1).toNat * 2)).block, (ad108.add ((x4_1).toNat * 2)).off + 1, none⟩ = some (.int .i64 ((rd_TTie l0_1 x4_1).f1))) (ds := []) (ba 14 0) (by kernel_rfl) rfl (by kernel_rfl) ⟨bca BK103, bcb BK103, ((HB.out.cell (World.block_lt_of_cell? w _ hw108_0)).trans hw108_0), ((HB.out.cell (World.block_lt_of_cell? w _ hw108_1)).trans hw108_1), ((HB.out.cell (World.block_lt_of_cell? w _ hw109_0)).trans hw109_0), ((HB.out.cell (World.block_lt_of_cell? w _ hw109_1)).trans hw109_1)⟩ (fun hHeld => ?_); refine with_tabW spec_BridgeList.tab7 spec_BridgeList.bits7 (fun HT_ HW_ => ?_)
   generalize wr.drew = w20 at HO_3 BK103 HB hx108_0 hx108_1 hx109_0 hx109_1 hHeld ⊢
   refine pU 1 18 14 2 HT_ ?_
   refine pU 3 20 14 10 HT_ ?_
   refine pU 7 24 14 138 HT_ ?_
   refine pU 9 26 14 650 HT_ ?_
   refine tU 0 17 14 651 HT_ HW_ hHeld ?_
   refine tU 2 19 14 655 HT_ HW_ hHeld ?_
   refine pU 4 21 14 671 HT_ ?_
   refine pU 5 22 14 703 HT_ ?_
   refine tU 6 23 14 767 HT_ HW_ hHeld ?_
   refine tU 8 25 14 1023 HT_ HW_ hHeld ?_
   refine pU 10 27 14 2047 HT_ ?_
   refine pU 11 28 14 4095 HT_ ?_
   refine tU 12 29 14 8191 HT_ HW_ hHeld ?_
   refine one_ (i := 13) (N := some 30) (ba 14 16383) rfl rfl (one_of HT_.out (by kernel_rfl)) (by decide) (fun K hK => ?_)
   refine goes_ Try.func14 (by kernel_rfl) rfl #[.agg #[.int .i64 a0_0, .slice (some ad108) l0_1.length c0_1], .int .i64 ((rd_TTie l0_1 x4_1).f0), .int .i64 ((rd_TTie l0_1 x4_1).f1)] (by rfl) rfl rfl qm ?_
   with_reducible refine (spec_BridgeIs.calls k1 a0_0 _ _ l0_1 ((rd_TTie l0_1 x4_1).f0) ((rd_TTie l0_1 x4_1).f1) false _ ?side1 ?side2 A11.out).mono ?_
   (case side1 => exact qc (Kd.C_below HR0_1.out HB.out))
   (case side2 => exact HC0_1.out)
   rintro e w21 ⟨rfl, hb⟩
   refine ⟨_, rfl, ?_⟩
   replace HO_3 := q0 (Kd.R_below (qr HO_3.out) hb)
   replace BK103 := kd BK103 hb
   replace HB := bp HB hb
   (try clear hb)
   (try clear hb2)
   (try clear hk)
   (try clear hi)
   refine hK.out _ _ ⟨bca BK103, bcb BK103, ((HB.out.cell (World.block_lt_of_cell? w _ hw108_0)).trans hw108_0), ((HB.out.cell (World.block_lt_of_cell? w _ hw108_1)).trans hw108_1), ((HB.out.cell (World.block_lt_of_cell? w _ hw109_0)).trans hw109_0), ((HB.out.cell (World.block_lt_of_cell? w _ hw109_1)).trans hw109_1)⟩ (fun hHeld => ?_)
   clear hK K
   refine nu 30 ?_
   refine done_ (done_of HT_.out (by kernel_rfl)) ?_
   try go_wp2
   go_roundg k1
   case measure => have := HK1.out; omega
   case rel => exact ⟨(x3_1), (wrap64 (x4_1 + 1)), qs, H', ⟨by have := HK1.out; omega⟩, ⟨qr HO_3.out⟩, ⟨qk BK103.out⟩, ⟨qb HB.out⟩⟩
 subst c12
 rw [if_pos rfl] at H
 obtain ⟨c13, H⟩ : (x3_1.length < 8796093022208) ∧ _ := og H
 have LMc13 := q0 c13
 clear c13
 obtain ⟨y107, hy107⟩ : ∃ y_ : List (STie), y_ = (x3_1 ++ [(⟨(rd_TTie l0_1 x4_1).f0, (rd_TTie l0_1 x4_1).f1⟩ : STie)]) := ⟨_, rfl⟩
 replace H : (spec_BridgeList.l0 k1 y107 (wrap64 (x4_1 + 1)) a0_0 l0_1) = some r := qy H hy107
 have Ny107 := q0 hy107
 clear hy107
 have H' := q0 H
 clear H
 obtain ⟨hcz14_0, hcz14_1, hfz14_0, hfz14_1⟩ := b2 BK103
 try go_wp2
 replace HO_3 := q0 (Kd.R_drew HO_3.out)
 replace BK103 := q0 (blk_drew BK103.out)
 replace HB := q0 (below_drew1 HB.out)
 have p108 : 0 ≤ (x4_1 : Int) := of_decide_eq_true qa
 have q108 : x4_1 < (l0_1.length : Int) := of_decide_eq_true qa
 obtain ⟨ad108, e108, hx108_0, hx108_1⟩ := at_TTie HR0_1.out x4_1 p108 q108
 have hw108_1 := hx108_1
 have hw108_0 := hx108_0
 cases e108
 replace hx108_0 := hcl HB.out hx108_0
 replace hx108_1 := hcl HB.out hx108_1
 replace p108 := eq_true p108
 replace q108 := eq_true q108
 have p109 : 0 ≤ (x4_1 : Int) := of_decide_eq_true qa
 have q109 : x4_1 < (l0_1.length : Int) := of_decide_eq_true qa
 obtain ⟨ad109, e109, hx109_0, hx109_1⟩ := at_TTie HR0_1.out x4_1 p109 q109
 have hw109_1 := hx109_1
 have hw109_0 := hx109_0
 obtain rfl : ad108 = ad109 := (by injection e109)
 replace hx109_0 := hcl HB.out hx109_0
 replace hx109_1 := hcl HB.out hx109_1
 replace p109 := eq_true p109
 replace q109 := eq_true q109
 refine start_ (n := 14) (S := fun w' => w'.cell? ⟨gb103, 0, none⟩ = some (.int .i64 a0_0) ∧ w'.cell? ⟨gb103, 1, none⟩ = some (.slice (some ad108) l0_1.length c0_1) ∧ w'.cell? (ad108.add ((x4_1).toNat * 2)) = some (.int .i64 ((rd_TTie l0_1 x4_1).f0)) ∧ w'.cell? ⟨(ad108.add ((x4_1).toNat * 2)).block, (ad108.add ((x4_1).toNat * 2)).off + 1, none⟩ = some (.int .i64 ((rd_TTie l0_1 x4_1).f1)) ∧ w'.cell? (ad108.add ((x4_1).toNat * 2)) = some (.int .i64 ((rd_TTie l0_1 x4_1).f0)) ∧ w'.cell? ⟨(ad108.add ((x4_1).toNat * 2)).block, (ad108.add ((x4_1).toNat * 2)).off + 1, none⟩ = some (.int .i64 ((rd_TTie l0_1 x4_1).f1))) (ds := []) (ba 14 0) (by kernel_rfl) rfl (by kernel_rfl) ⟨bca BK103, bcb BK103, ((HB.out.cell (World.block_lt_of_cell? w _ hw108_0)).trans hw108_0), ((HB.out.cell (World.block_lt_of_cell? w _ hw108_1)).trans hw108_1), ((HB.out.cell (World.block_lt_of_cell? w _ hw109_0)).trans hw109_0), ((HB.out.cell (World.block_lt_of_cell? w _ hw109_1)).trans hw109_1)⟩ (fun hHeld => ?_); refine with_tabW spec_BridgeList.tab7 spec_BridgeList.bits7 (fun HT_ HW_ => ?_)
 generalize wr.drew = w15 at HO_3 BK103 HB hx108_0 hx108_1 hx109_0 hx109_1 hHeld ⊢
 refine pU 1 18 14 2 HT_ ?_
 refine pU 3 20 14 10 HT_ ?_
 refine pU 7 24 14 138 HT_ ?_
 refine pU 9 26 14 650 HT_ ?_
 refine tU 0 17 14 651 HT_ HW_ hHeld ?_
 refine tU 2 19 14 655 HT_ HW_ hHeld ?_
 refine pU 4 21 14 671 HT_ ?_
 refine pU 5 22 14 703 HT_ ?_
 refine tU 6 23 14 767 HT_ HW_ hHeld ?_
 refine tU 8 25 14 1023 HT_ HW_ hHeld ?_
 refine pU 10 27 14 2047 HT_ ?_
 refine pU 11 28 14 4095 HT_ ?_
 refine tU 12 29 14 8191 HT_ HW_ hHeld ?_
 refine one_ (i := 13) (N := some 30) (ba 14 16383) rfl rfl (one_of HT_.out (by kernel_rfl)) (by decide) (fun K hK => ?_)
 refine goes_ Try.func14 (by kernel_rfl) rfl #[.agg #[.int .i64 a0_0, .slice (some ad108) l0_1.length c0_1], .int .i64 ((rd_TTie l0_1 x4_1).f0), .int .i64 ((rd_TTie l0_1 x4_1).f1)] (by rfl) rfl rfl qm ?_
 with_reducible refine (spec_BridgeIs.calls k1 a0_0 _ _ l0_1 ((rd_TTie l0_1 x4_1).f0) ((rd_TTie l0_1 x4_1).f1) true _ ?side1 ?side2 A11.out).mono ?_
 (case side1 => exact qc (Kd.C_below HR0_1.out HB.out))
 (case side2 => exact HC0_1.out)
 rintro e w16 ⟨rfl, hb⟩
 refine ⟨_, rfl, ?_⟩
 replace HO_3 := q0 (Kd.R_below (qr HO_3.out) hb)
 replace BK103 := kd BK103 hb
 replace HB := bp HB hb
 (try clear hb)
 (try clear hb2)
 (try clear hk)
 (try clear hi)
 refine hK.out _ _ ⟨bca BK103, bcb BK103, ((HB.out.cell (World.block_lt_of_cell? w _ hw108_0)).trans hw108_0), ((HB.out.cell (World.block_lt_of_cell? w _ hw108_1)).trans hw108_1), ((HB.out.cell (World.block_lt_of_cell? w _ hw109_0)).trans hw109_0), ((HB.out.cell (World.block_lt_of_cell? w _ hw109_1)).trans hw109_1)⟩ (fun hHeld => ?_)
 clear hK K
 refine nu 30 ?_
 refine done_ (done_of HT_.out (by kernel_rfl)) ?_
 obtain ⟨hcz17_0, hcz17_1, hfz17_0, hfz17_1⟩ := b2 BK103
 have p110 : 0 ≤ (x4_1 : Int) := of_decide_eq_true qa
 have q110 : x4_1 < (l0_1.length : Int) := of_decide_eq_true qa
 obtain ⟨ad110, e110, hx110_0, hx110_1⟩ := at_TTie HR0_1.out x4_1 p110 q110
 obtain rfl : ad108 = ad110 := (by injection e110)
 replace hx110_0 := hcl HB.out hx110_0
 replace hx110_1 := hcl HB.out hx110_1
 replace p110 := eq_true p110
 replace q110 := eq_true q110
 try go_wp2_with (first | ((with_reducible refine gate_builtin (b := .append) (xs := #[.tmp 31, .tmp 37]) rfl ?_); at_builtin; refine Kd.R_append kTie (w0 := w) w.heap.size rfl (.tmp 31) (.tmp 37) 23 32 (.agg #[(.int .i64 0), (.int .i64 0)]) 16 rfl Try.underlying23 info32 rfl (by decide) (by omega) u3 x3_1 (⟨(rd_TTie l0_1 x4_1).f0, (rd_TTie l0_1 x4_1).f1⟩ : STie) [.int .i64 ((rd_TTie l0_1 x4_1).f0), .int .i64 ((rd_TTie l0_1 x4_1).f1)] (fun _ => True) (fun _ => False) rfl rfl ?aP (fun _ hk => hk.elim) ?aF ?aO ?aB ?aS ?aL ?_; (case aP => exact kTie_mkM _ _ _ (⟨(rd_TTie l0_1 x4_1).f0, (rd_TTie l0_1 x4_1).f1⟩ : STie)); (case aB => exact (qb HB.out)); (case aF => exact (fun _ _ => trivial)); (case aO => exact (qr HO_3.out)); (case aS => exact (below_size (qb HB.out))); (case aL => have := LMc13.out; omega); intro v111 w18 ho hb hg hat; rw [← Ny107.out] at ho; replace BK103 := q0 (blk_grown (g := gb103) (o := .cells #[.int .i64 a0_0, .slice (some ad108) l0_1.length c0_1] 25 (0, 0)) (qk BK103.out) hg (Kd.R_ne HO_3.out BK103.out (by decide))); replace HB := q0 (hb); have HO112 := q0 (ho); clear HO_3; clear ho hb hg hat))
 go_roundg k1
 case measure => have := HK1.out; omega
 case rel => exact ⟨(y107), (wrap64 (x4_1 + 1)), qs, H', ⟨by have := HK1.out; omega⟩, ⟨qr HO112.out⟩, ⟨qk BK103.out⟩, ⟨qb HB.out⟩⟩

set_option maxHeartbeats 8000000 in
set_option maxRecDepth 100000 in
theorem impl_tie.calls (a0 : Int) (a1 : Int) (r1 : Int) (r2 : Int) (w : World) (h : impl_tie.f a0 a1 = some (r1, r2)) :
    Calls Try.prog 17 #[.int .i64 a0, .int .i64 a1] w fun e w' => e = .returned (.agg #[.int .i64 r1, .int .i64 r2]) ∧ Below w.heap.size w w' := by
 have hu32 := Try.underlying32
 have HB := q0 (Below.refl w.heap.size w)
 have H : (some (mn a0 a1, mx a0 a1)) = some (r1, r2) := h
 clear h
 obtain ⟨ji3, hji3⟩ : ∃ j_ : Int, (mn a0 a1) = j_ := ⟨_, rfl⟩
 replace H : (some (ji3, mx a0 a1)) = some (r1, r2) := by first | (rw [hji3] at H; exact H) | (simp only [hji3] at H ⊢; exact H)
 have hji3_ : (if a1 < a0 then a1 else a0) = ji3 := hji3
 obtain ⟨ji4, hji4⟩ : ∃ j_ : Int, (mx a0 a1) = j_ := ⟨_, rfl⟩
 replace H : (some (ji3, ji4)) = some (r1, r2) := by first | (rw [hji4] at H; exact H) | (simp only [hji4] at H ⊢; exact H)
 have hji4_ : (if a0 < a1 then a1 else a0) = ji4 := hji4
 simp only [Option.some.injEq, Prod.mk.injEq] at H
 obtain ⟨rfl, rfl⟩ := H
 go_enter Try.func17, Try.ntmps17
 go_wp2_with (first | ((with_reducible refine gd 4 ?_); refine be 4 #[.int .i64 0, .int .i64 0] 32 ?_; intro gb100 hg w5 hbox hb; have BK100 := q0 (hbox); have GW100 := gw HB hg; have GE100 := gw HB hg; replace HB := bp HB hb; clear hb hbox hg; obtain ⟨hcz6_0, hcz6_1, hfz6_0, hfz6_1⟩ := b2 BK100))
 refine bodyPost_ret (results_cell_row rfl _ _ gb100 32 #[.int .i64 ji3, .int .i64 ji4] (0, 0) _ rfl (by (with_reducible repeat (first | refine blk_drewN ?_ _ | refine blk_drew ?_ | refine blk_alloc ?_ _)); refine blk_put (cs := #[.int .i64 ji3, .int .i64 0]) ?_ 1 _ rfl; (with_reducible repeat (first | refine blk_drewN ?_ _ | refine blk_drew ?_ | refine blk_alloc ?_ _)); refine blk_put (cs := #[.int .i64 0, .int .i64 0]) ?_ 0 _ rfl; (with_reducible repeat (first | refine blk_drewN ?_ _ | refine blk_drew ?_ | refine blk_alloc ?_ _)); exact BK100.out) Try.underlying32 rfl (by kernel_rfl)) rfl ?_
 exact ⟨by first | rfl | (simp [errW_none, errW_some] <;> rfl) | (simp only [← hji3, ← hji4]; first | rfl | (simp [errW_none, errW_some] <;> rfl)) | (simp [*, errW_none, errW_some] <;> rfl), qb HB.out⟩

set_option maxHeartbeats 8000000 in
set_option maxRecDepth 100000 in
theorem impl_Net_has.calls (k : Nat) (a0_0 : Int) (A0_1 : Option Addr) (c0_1 : Nat) (l0_1 : List (STie)) (a1 : Int) (a2 : Int) (r : Bool) (w : World) (hr0_1 : Kd.C kTie w A0_1 l0_1.length l0_1) (hc0_1 : l0_1.length ≤ c0_1) (h : impl_Net_has.f k a0_0 l0_1 a1 a2 = some r) :
    Calls Try.prog 27 #[.agg #[.int .i64 a0_0, .slice A0_1 l0_1.length c0_1], .int .i64 a1, .int .i64 a2] w fun e w' => e = .returned (.bool r) ∧ Below w.heap.size w w' := by
 have hu25 := Try.underlying25
 have HR0_1 := q0 hr0_1
 have HC0_1 := q0 hc0_1
 clear hr0_1 hc0_1
 have HB := q0 (Below.refl w.heap.size w)
 have H : ((impl_tie.f a1 a2).bind fun bt100 => ((slices_Contains_Tie.f k l0_1 bt100.1 bt100.2).bind fun t101 => (some t101))) = some r := h
 clear h
 obtain ⟨⟨t100, t102⟩, A4, H⟩ := ob H
 obtain ⟨t101, A5, H⟩ := ob H
 obtain rfl := Option.some.inj H
 go_enter Try.func27, Try.ntmps27
 try go_wp2_with (first | ((with_reducible refine gd 3 ?_); refine be 3 #[.int .i64 a0_0, .slice A0_1 l0_1.length c0_1] 25 ?_; intro gb103 hg w6 hbox hb; have BK103 := q0 (hbox); have GW103 := gw HB hg; have GE103 := gw HB hg; replace HB := bp HB hb; clear hb hbox hg))
 replace BK103 := q0 (blk_drew BK103.out)
 replace HB := q0 (below_drew1 HB.out)
 refine start_ (n := 7) (S := fun w' => w'.cell? ⟨gb103, 0, none⟩ = some (.int .i64 a0_0) ∧ w'.cell? ⟨gb103, 1, none⟩ = some (.slice A0_1 l0_1.length c0_1)) (ds := []) (ba 7 0) (by kernel_rfl) rfl (by kernel_rfl) ⟨bca BK103, bcb BK103⟩ (fun hHeld => ?_)
 generalize w6.drew = w7 at BK103 HB hHeld ⊢
 refine pw 0 (some 7) (ba 7 1) ?_
 refine pw 2 (some 9) (ba 7 5) ?_
 refine pw 3 (some 10) (ba 7 13) ?_
 refine tw 1 (some 8) (ba 7 15) hHeld ?_
 refine one_ (i := 4) (N := some 11) (ba 7 31) rfl rfl (by kernel_rfl) (by decide) (fun K hK => ?_)
 refine goes_ Try.func17 (by kernel_rfl) rfl #[.int .i64 a1, .int .i64 a2] (by rfl) rfl rfl qm ?_
 with_reducible refine (impl_tie.calls a1 a2 t100 t102 _ A4.out).mono ?_
 rintro e w8 ⟨rfl, hb⟩
 refine ⟨_, rfl, ?_⟩
 replace BK103 := kd BK103 hb
 replace HB := bp HB hb
 (try clear hb)
 (try clear hb2)
 (try clear hk)
 (try clear hi)
 refine hK.out _ _ ⟨bca BK103, bcb BK103⟩ (fun hHeld => ?_)
 clear hK K
 refine nu 11 ?_
 refine one_ (i := 5) (N := some 12) (ba 7 63) rfl rfl (by kernel_rfl) (by decide) (fun K hK => ?_)
 refine goes_ Try.func28 (by kernel_rfl) rfl #[.slice A0_1 l0_1.length c0_1, .agg #[.int .i64 t100, .int .i64 t102]] (by rfl) rfl rfl qm ?_
 with_reducible refine (slices_Contains_Tie.calls k _ _ l0_1 t100 t102 t101 _ ?side1 ?side2 A5.out).mono ?_
 (case side1 => exact qc (Kd.C_below HR0_1.out HB.out))
 (case side2 => exact HC0_1.out)
 rintro e w9 ⟨rfl, hb⟩
 refine ⟨_, rfl, ?_⟩
 replace BK103 := kd BK103 hb
 replace HB := bp HB hb
 (try clear hb)
 (try clear hb2)
 (try clear hk)
 (try clear hi)
 refine hK.out _ _ ⟨bca BK103, bcb BK103⟩ (fun hHeld => ?_)
 clear hK K
 refine nu 12 ?_
 refine pw 6 (some 6) (ba 7 127) ?_
 refine done_ (by kernel_rfl) ?_
 try go_wp2
 go_ret
 exact ⟨qe, qb HB.out⟩

set_option maxHeartbeats 8000000 in
set_option maxRecDepth 100000 in
theorem impl_NetHas.calls (k : Nat) (a0_0 : Int) (A0_1 : Option Addr) (c0_1 : Nat) (l0_1 : List (STie)) (a1 : Int) (a2 : Int) (r : Bool) (w : World) (hr0_1 : Kd.C kTie w A0_1 l0_1.length l0_1) (hc0_1 : l0_1.length ≤ c0_1) (h : impl_NetHas.f k a0_0 l0_1 a1 a2 = some r) :
    Calls Try.prog 15 #[.agg #[.int .i64 a0_0, .slice A0_1 l0_1.length c0_1], .int .i64 a1, .int .i64 a2] w fun e w' => e = .returned (.bool r) ∧ Below w.heap.size w w' := by
 have hu25 := Try.underlying25
 have HR0_1 := q0 hr0_1
 have HC0_1 := q0 hc0_1
 clear hr0_1 hc0_1
 have HB := q0 (Below.refl w.heap.size w)
 have H : ((impl_NetOk.f k a0_0 l0_1).bind fun t100 => (if t100 = true then ((impl_Net_has.f k a0_0 l0_1 a1 a2).bind fun t101 => (some t101)) else (some false))) = some r := h
 clear h
 obtain ⟨t100, A4, H⟩ := ob H
 by_cases c5 : t100 = true
 rotate_left
 · replace c5 := Bool.eq_false_iff.mpr c5
   subst c5
   rw [if_neg nf] at H
   obtain rfl := Option.some.inj H
   go_enter Try.func15, Try.ntmps15
   go_wp2_with (first | ((with_reducible refine gd 3 ?_); refine be 3 #[.int .i64 a0_0, .slice A0_1 l0_1.length c0_1] 25 ?_; intro gb102 hg w12 hbox hb; have BK102 := q0 (hbox); have GW102 := gw HB hg; have GE102 := gw HB hg; replace HB := bp HB hb; clear hb hbox hg; obtain ⟨hcz13_0, hcz13_1, hfz13_0, hfz13_1⟩ := b2 BK102) | ((with_reducible refine gf 11 ?_); refine gl 8 Try.func11 #[.agg #[.int .i64 a0_0, .slice A0_1 l0_1.length c0_1]] ?_; (with_reducible refine (impl_NetOk.calls k a0_0 _ _ l0_1 false _ ?side1 ?side2 A4.out).mono ?_); (case side1 => exact qc (Kd.C_below HR0_1.out HB.out)); (case side2 => exact HC0_1.out); rintro e w14 ⟨rfl, hb⟩; refine ⟨_, rfl, ?_⟩; replace BK102 := kd BK102 hb; replace HB := bp HB hb; (try clear hb); (try clear hb2); (try clear hk); (try clear hi)))
   go_ret
   exact ⟨qe, qb HB.out⟩
 subst c5
 rw [if_pos rfl] at H
 obtain ⟨t101, A6, H⟩ := ob H
 obtain rfl := Option.some.inj H
 go_enter Try.func15, Try.ntmps15
 go_wp2_with (first | ((with_reducible refine gd 3 ?_); refine be 3 #[.int .i64 a0_0, .slice A0_1 l0_1.length c0_1] 25 ?_; intro gb102 hg w7 hbox hb; have BK102 := q0 (hbox); have GW102 := gw HB hg; have GE102 := gw HB hg; replace HB := bp HB hb; clear hb hbox hg; obtain ⟨hcz8_0, hcz8_1, hfz8_0, hfz8_1⟩ := b2 BK102) | ((with_reducible refine gf 11 ?_); refine gl 8 Try.func11 #[.agg #[.int .i64 a0_0, .slice A0_1 l0_1.length c0_1]] ?_; (with_reducible refine (impl_NetOk.calls k a0_0 _ _ l0_1 true _ ?side1 ?side2 A4.out).mono ?_); (case side1 => exact qc (Kd.C_below HR0_1.out HB.out)); (case side2 => exact HC0_1.out); rintro e w9 ⟨rfl, hb⟩; refine ⟨_, rfl, ?_⟩; replace BK102 := kd BK102 hb; replace HB := bp HB hb; (try clear hb); (try clear hb2); (try clear hk); (try clear hi); obtain ⟨hcz10_0, hcz10_1, hfz10_0, hfz10_1⟩ := b2 BK102) | (go_at_call 27; (with_reducible refine (impl_Net_has.calls k a0_0 _ _ l0_1 a1 a2 t101 _ ?side1 ?side2 A6.out).mono ?_); (case side1 => exact qc (Kd.C_below HR0_1.out HB.out)); (case side2 => exact HC0_1.out); rintro e w11 ⟨rfl, hb⟩; replace BK102 := kd BK102 hb; replace HB := bp HB hb; (try clear hb); (try clear hb2); (try clear hk); (try clear hi)))
 go_ret
 exact ⟨qe, qb HB.out⟩

def impl_NetCut.T3 : Bool × List (List Nat × List Nat) := (true, [([], []), ([], []), ([], []), ([1, 2], [1, 2]), ([3], [3]), ([0, 4, 3], [0, 4]), ([5, 5, 0, 1, 2, 3, 4, 5], [5]), ([6, 0, 1, 2, 3, 4, 5, 6], [])])
def impl_NetCut.B3 : List Nat := [0, 0, 0, 6, 14, 31, 63, 127]
theorem impl_NetCut.tab3 : rtab .any (opsOf Try.f8 3) = impl_NetCut.T3 := by kernel_rfl
theorem impl_NetCut.bits3 : waitsOk impl_NetCut.T3.2 impl_NetCut.B3 = true := by kernel_rfl
set_option maxHeartbeats 8000000 in
set_option maxRecDepth 100000 in
theorem impl_NetCut.calls (k : Nat) (a0_0 : Int) (A0_1 : Option Addr) (c0_1 : Nat) (l0_1 : List (STie)) (a1 : Int) (a2 : Int) (r1 : Int) (r2 : List (STie)) (r3 : Bool) (w : World) (hr0_1 : Kd.C kTie w A0_1 l0_1.length l0_1) (hc0_1 : l0_1.length ≤ c0_1) (h : impl_NetCut.f k a0_0 l0_1 a1 a2 = some (r1, r2, r3)) :
    Calls Try.prog 8 #[.agg #[.int .i64 a0_0, .slice A0_1 l0_1.length c0_1], .int .i64 a1, .int .i64 a2] w fun e w' => ∃ v1_ : Value, e = .returned (.tuple #[.agg #[.int .i64 r1, v1_], .bool r3]) ∧ Kd.R kTie 32 w' w.heap.size (fun _ => True) v1_ r2 ∧ Below w.heap.size w w' := by
 have hu25 := Try.underlying25
 have HR0_1 := q0 hr0_1
 have HC0_1 := q0 hc0_1
 clear hr0_1 hc0_1
 have HB := q0 (Below.refl w.heap.size w)
 have H : ((impl_NetHas.f k a0_0 l0_1 a1 a2).bind fun t100 => (if t100 = true then ((impl_tie.f a1 a2).bind fun bt101 => ((impl_Net_less.f k a0_0 l0_1 (([(⟨bt101.1, bt101.2⟩ : STie)] : List (STie)))).bind fun bt102 => (some (bt102.1, bt102.2, true)))) else (some (0, ([] : List (STie)), false)))) = some (r1, r2, r3) := h
 clear h
 obtain ⟨t100, A4, H⟩ := ob H
 by_cases c5 : t100 = true
 rotate_left
 · replace c5 := Bool.eq_false_iff.mpr c5
   subst c5
   rw [if_neg nf] at H
   simp only [Option.some.injEq, Prod.mk.injEq] at H
   obtain ⟨rfl, rfl, rfl⟩ := H
   go_enter Try.func8, Try.ntmps8
   go_wp2_with (first | ((with_reducible refine gd 3 ?_); refine be 3 #[.int .i64 a0_0, .slice A0_1 l0_1.length c0_1] 25 ?_; intro gb106 hg w22 hbox hb; have BK106 := q0 (hbox); have GW106 := gw HB hg; have GE106 := gw HB hg; replace HB := bp HB hb; clear hb hbox hg) | ((with_reducible refine gd 6 ?_); refine be 6 #[.int .i64 0, .slice none 0 0] 25 ?_; intro gb107 hg w23 hbox hb; have BK107 := q0 (hbox); have GW107 := gw HB hg; have GE107 := gw HB hg; replace HB := bp HB hb; have NB106_107 := nl BK106 hg; have NB107_106 := ng BK106 hg; replace BK106 := kd BK106 hb; clear hb hbox hg; have hnb24 := NB106_107.out; have hnc24 := NB107_106.out; obtain ⟨hcz25_0, hcz25_1, hfz25_0, hfz25_1⟩ := b2 BK106) | ((with_reducible refine gf 15 ?_); refine gl 11 Try.func15 #[.agg #[.int .i64 a0_0, .slice A0_1 l0_1.length c0_1], .int .i64 a1, .int .i64 a2] ?_; (with_reducible refine (impl_NetHas.calls k a0_0 _ _ l0_1 a1 a2 false _ ?side1 ?side2 A4.out).mono ?_); (case side1 => exact qc (Kd.C_below HR0_1.out HB.out)); (case side2 => exact HC0_1.out); rintro e w26 ⟨rfl, hb⟩; refine ⟨_, rfl, ?_⟩; replace BK106 := kd BK106 hb; replace BK107 := kd BK107 hb; replace HB := bp HB hb; (try clear hb); (try clear hb2); (try clear hk); (try clear hi); obtain ⟨hcz27_0, hcz27_1, hfz27_0, hfz27_1⟩ := b2 BK107))
   refine bodyPost_ret (results_ct rfl _ _ gb107 25 #[.int .i64 0, .slice none 0 0] (0, 0) _ rfl (by (with_reducible repeat (first | refine blk_drewN ?_ _ | refine blk_drew ?_ | refine blk_alloc ?_ _)); refine blk_put (cs := #[.int .i64 0, .slice none 0 0]) ?_ 1 _ rfl; (with_reducible repeat (first | refine blk_drewN ?_ _ | refine blk_drew ?_ | refine blk_alloc ?_ _)); refine blk_put (cs := #[.int .i64 0, .slice none 0 0]) ?_ 0 _ rfl; (with_reducible repeat (first | refine blk_drewN ?_ _ | refine blk_drew ?_ | refine blk_alloc ?_ _)); exact BK107.out) Try.underlying25 rfl (by kernel_rfl)) rfl ?_
   exact ⟨_, qe, by first | exact Kd.R_nil _ _ _ _ _ | exact Kd.N_nil _ _ _ _ _ | exact Kd.V_nil _ _ _ _ _ | exact Kd.Q_nil _ _ _ _ _ | exact Kd.S_nil _ _ _ _ _, qb HB.out⟩
 subst c5
 rw [if_pos rfl] at H
 obtain ⟨⟨t101, t103⟩, A6, H⟩ := ob H
 obtain ⟨y104, hy104⟩ : ∃ y_ : List (STie), y_ = (([(⟨t101, t103⟩ : STie)] : List (STie))) := ⟨_, rfl⟩
 replace H : ((impl_Net_less.f k a0_0 l0_1 y104).bind fun bt102 => (some (bt102.1, bt102.2, true))) = some (r1, r2, r3) := qy H hy104
 have Ny104 := q0 hy104
 clear hy104
 obtain ⟨⟨t102, t105⟩, A7, H⟩ := ob H
 simp only [Option.some.injEq, Prod.mk.injEq] at H
 obtain ⟨rfl, rfl, rfl⟩ := H
 go_enter Try.func8, Try.ntmps8
 try go_wp2_with (first | ((with_reducible refine gd 3 ?_); refine be 3 #[.int .i64 a0_0, .slice A0_1 l0_1.length c0_1] 25 ?_; intro gb106 hg w8 hbox hb; have BK106 := q0 (hbox); have GW106 := gw HB hg; have GE106 := gw HB hg; replace HB := bp HB hb; clear hb hbox hg) | ((with_reducible refine gd 6 ?_); refine be 6 #[.int .i64 0, .slice none 0 0] 25 ?_; intro gb107 hg w9 hbox hb; have BK107 := q0 (hbox); have GW107 := gw HB hg; have GE107 := gw HB hg; replace HB := bp HB hb; have NB106_107 := nl BK106 hg; have NB107_106 := ng BK106 hg; replace BK106 := kd BK106 hb; clear hb hbox hg; have hnb10 := NB106_107.out; have hnc10 := NB107_106.out; obtain ⟨hcz11_0, hcz11_1, hfz11_0, hfz11_1⟩ := b2 BK106) | ((with_reducible refine gf 15 ?_); refine gl 11 Try.func15 #[.agg #[.int .i64 a0_0, .slice A0_1 l0_1.length c0_1], .int .i64 a1, .int .i64 a2] ?_; (with_reducible refine (impl_NetHas.calls k a0_0 _ _ l0_1 a1 a2 true _ ?side1 ?side2 A4.out).mono ?_); (case side1 => exact qc (Kd.C_below HR0_1.out HB.out)); (case side2 => exact HC0_1.out); rintro e w12 ⟨rfl, hb⟩; refine ⟨_, rfl, ?_⟩; replace BK106 := kd BK106 hb; replace BK107 := kd BK107 hb; replace HB := bp HB hb; (try clear hb); (try clear hb2); (try clear hk); (try clear hi)))
 replace BK106 := q0 (blk_drew BK106.out)
 replace BK107 := q0 (blk_drew BK107.out)
 replace HB := q0 (below_drew1 HB.out)
 refine start_ (n := 8) (S := fun w' => w'.cell? ⟨gb106, 0, none⟩ = some (.int .i64 a0_0) ∧ w'.cell? ⟨gb106, 1, none⟩ = some (.slice A0_1 l0_1.length c0_1)) (ds := []) (ba 8 0) (by kernel_rfl) rfl (by kernel_rfl) ⟨bca BK106, bcb BK106⟩ (fun hHeld => ?_); refine with_tabW impl_NetCut.tab3 impl_NetCut.bits3 (fun HT_ HW_ => ?_)
 generalize w12.drew = w13 at BK106 BK107 HB hHeld ⊢
 refine pU 1 15 8 2 HT_ ?_
 refine pU 2 16 8 6 HT_ ?_
 refine tU 0 14 8 7 HT_ HW_ hHeld ?_
 refine one_ (i := 3) (N := some 17) (ba 8 15) rfl rfl (one_of HT_.out (by kernel_rfl)) (by decide) (fun K hK => ?_)
 refine goes_ Try.func17 (by kernel_rfl) rfl #[.int .i64 a1, .int .i64 a2] (by rfl) rfl rfl qm ?_
 with_reducible refine (impl_tie.calls a1 a2 t101 t103 _ A6.out).mono ?_
 rintro e w14 ⟨rfl, hb⟩
 refine ⟨_, rfl, ?_⟩
 replace BK106 := kd BK106 hb
 replace BK107 := kd BK107 hb
 replace HB := bp HB hb
 (try clear hb)
 (try clear hb2)
 (try clear hk)
 (try clear hi)
 refine hK.out _ _ ⟨bca BK106, bcb BK106⟩ (fun hHeld => ?_)
 clear hK K
 refine nu 17 ?_
 refine one_ (i := 4) (N := some 18) (ba 8 31) rfl rfl (one_of HT_.out (by kernel_rfl)) (by decide) (fun K hK => ?_)
 refine Kd.R_lit_step kTie _ 32 ?hg (N := 18) ?hd (xs := ([(⟨t101, t103⟩ : STie)] : List (STie))) (inner := [.int .i64 t101, .int .i64 t103]) (ok := fun _ => True) (okp := fun _ => True) ?hr ?hp (fun _ hk => hk) trivial (Below.refl _ _) (Nat.le_refl _) (by simp) ?_; (case hd => rfl); (case hg => rfl); (case hr => first | (go_simp; done) | (go_simp; rfl)); (case hp => exact (Reps.c2 (show Kd.M kTie _ _ _ (⟨t101, t103⟩ : STie) [.int .i64 t101, .int .i64 t103] from (kTie_mkM _ _ _ (⟨t101, t103⟩ : STie) )) (Reps.none _ _)))
 intro v108 w15 ho16 hb hg_ hnew_
 clear hg_ hnew_
 (first | rw [← Ny104.out] at ho16 | (simp only [Int.reduceToNat] at ho16; rw [← Ny104.out] at ho16))
 have HO109 := q0 (Kd.R_lower ho16 (below_size (qb HB.out)))
 replace BK106 := kd BK106 hb
 replace BK107 := kd BK107 hb
 replace HB := bp HB hb
 clear hb ho16
 obtain ⟨Ao17, co17, eo17⟩ := Kd.R_slice HO109.out
 (first | subst eo17 | (injection eo17 with f1_ f2_ f3_; have f4_ := f1_.symm; have f5_ := f3_.symm; clear f1_ f2_ f3_; subst f4_; subst f5_))
 refine hK.out _ _ ⟨bca BK106, bcb BK106⟩ (fun hHeld => ?_)
 clear hK K
 refine nu 18 ?_
 refine one_ (i := 5) (N := some 19) (ba 8 63) rfl rfl (one_of HT_.out (by kernel_rfl)) (by decide) (fun K hK => ?_)
 refine goes_ Try.func16 (by kernel_rfl) rfl #[.agg #[.int .i64 a0_0, .slice A0_1 l0_1.length c0_1], .slice Ao17 y104.length co17] (by rfl) rfl rfl qm ?_
 with_reducible refine (impl_Net_less.calls k a0_0 _ _ l0_1 _ _ y104 t102 t105 _ ?side1 ?side2 ?side3 ?side4 A7.out).mono ?_
 (case side1 => exact qc (Kd.C_below HR0_1.out HB.out))
 (case side2 => exact HC0_1.out)
 (case side3 => exact qc (Kd.R_reads' HO109.out).2.2)
 (case side4 => exact (Kd.R_reads' HO109.out).2.1)
 rintro e w18 ⟨v110, rfl, ho0, hb⟩
 refine ⟨_, rfl, ?_⟩
 have HO111 := q0 (Kd.R_lower (Kd.R_new' ho0 (Kd.R_lt (qr HO109.out))) (below_size (qb HB.out)))
 replace HO109 := q0 (Kd.R_elder' (qr HO109.out) (Kd.R_base ho0) hb)
 replace BK106 := kd BK106 hb
 replace BK107 := kd BK107 hb
 replace HB := bp HB hb
 (try clear hb)
 (try clear hb2)
 (try clear hk)
 (try clear hi)
 (try clear ho0)
 obtain ⟨Ao20, co20, eo20⟩ := Kd.R_slice HO111.out
 (first | subst eo20 | (injection eo20 with f1_ f2_ f3_; have f4_ := f1_.symm; have f5_ := f3_.symm; clear f1_ f2_ f3_; subst f4_; subst f5_))
 refine hK.out _ _ ⟨bca BK106, bcb BK106⟩ (fun hHeld => ?_)
 clear hK K
 refine nu 19 ?_
 refine one_ (i := 6) (N := none) (ba 8 127) rfl rfl (one_of HT_.out (by kernel_rfl)) (by decide) (fun K hK => ?_)
 have hs19 : w18.cell? ⟨gb107, 0, none⟩ = some (.int .i64 0) := (blk_cell BK107.out 0).trans rfl
 have hfs19 := blk_frozen BK107.out 0
 have hns19_0 := NB106_107.out
 have hms19_0 := NB107_106.out
 have hs21 : w18.cell? ⟨gb107, 1, none⟩ = some (.slice none 0 0) := (blk_cell BK107.out 1).trans rfl
 have hfs21 := blk_frozen BK107.out 1
 have hns21_0 := NB106_107.out
 have hms21_0 := NB107_106.out
 refine skip_ (w1 := ?_) (by rfl) rfl ?_ ?_
 rotate_left
 · go_simp
   rfl
 refine hK.out _ _ ⟨((cell_far (p := ⟨gb107, _, none⟩) NB106_107.out _).trans (((cell_far (p := ⟨gb107, _, none⟩) NB106_107.out _).trans (hHeld.1)))), ((cell_far (p := ⟨gb107, _, none⟩) NB106_107.out _).trans (((cell_far (p := ⟨gb107, _, none⟩) NB106_107.out _).trans (hHeld.2))))⟩ (fun hHeld => ?_)
 clear hK K
 refine pU 7 7 8 255 HT_ ?_
 refine done_ (done_of HT_.out (by kernel_rfl)) ?_
 try go_wp2
 refine bodyPost_ret (results_ct rfl _ _ gb107 25 #[.int .i64 t102, .slice Ao20 t105.length co20] (0, 0) _ rfl (by (with_reducible repeat (first | refine blk_drewN ?_ _ | refine blk_drew ?_ | refine blk_alloc ?_ _)); refine blk_put (cs := #[.int .i64 t102, .slice none 0 0]) ?_ 1 _ rfl; (with_reducible repeat (first | refine blk_drewN ?_ _ | refine blk_drew ?_ | refine blk_alloc ?_ _)); refine blk_put (cs := #[.int .i64 0, .slice none 0 0]) ?_ 0 _ rfl; (with_reducible repeat (first | refine blk_drewN ?_ _ | refine blk_drew ?_ | refine blk_alloc ?_ _)); exact BK107.out) Try.underlying25 rfl (by kernel_rfl)) rfl ?_
 exact ⟨_, qe, by (with_reducible repeat (first | apply Kd.R_alloc | apply Kd.R_drewN | apply Kd.R_drew)); exact rf2 HO111.out BK107.out (fun _ hk => trivial), qb HB.out⟩

def laws_FnBridgeCut.T8 : Bool × List (List Nat × List Nat) := (true, [([], []), ([], []), ([], []), ([1, 2], [1, 2]), ([3], [3]), ([4], [4]), ([], []), ([], []), ([6, 7], [6, 7]), ([8], [8]), ([9], [9]), ([0, 5, 10], [0, 5, 10]), ([11], [11]), ([12], [12]), ([12], [12]), ([], []), ([15, 13, 11, 0, 1, 2, 3, 4, 5, 6, 7, 8, 9, 10, 11, 12, 13, 15], [13, 15]), ([14, 16, 0, 1, 2, 3, 4, 5, 6, 7, 8, 9, 10, 11, 12, 13, 14, 15, 16], [14])])
def laws_FnBridgeCut.B8 : List Nat := [0, 0, 0, 6, 14, 30, 0, 0, 192, 448, 960, 2047, 4095, 8191, 8191, 0, 49151, 131071]
theorem laws_FnBridgeCut.tab8 : rtab .any (opsOf Try.f3 8) = laws_FnBridgeCut.T8 := by kernel_rfl
theorem laws_FnBridgeCut.bits8 : waitsOk laws_FnBridgeCut.T8.2 laws_FnBridgeCut.B8 = true := by kernel_rfl
def laws_FnBridgeCut.T9 : Bool × List (List Nat × List Nat) := (true, [([], []), ([0], [0]), ([1], [1]), ([2, 1, 1], [1, 2]), ([1], [1]), ([1], [1]), ([1], [1]), ([5, 6, 1], [1, 5, 6]), ([4, 7, 3, 1], [1, 4, 7]), ([1], [1]), ([1], [1]), ([10, 1], [1, 10]), ([9, 11, 1], [1, 9, 11]), ([8, 12, 8, 1], [1, 8, 12]), ([3, 13, 13, 1], [1, 3, 13]), ([1, 14], [1, 14]), ([15, 14, 0, 1, 2, 3, 4, 5, 6, 7, 8, 9, 10, 11, 12, 13, 14, 15], [15])])
def laws_FnBridgeCut.B9 : List Nat := [0, 1, 3, 7, 3, 3, 3, 99, 255, 3, 3, 1027, 3587, 8191, 16383, 32767, 65535]
theorem laws_FnBridgeCut.tab9 : rtab .any (opsOf Try.f3 9) = laws_FnBridgeCut.T9 := by kernel_rfl
theorem laws_FnBridgeCut.bits9 : waitsOk laws_FnBridgeCut.T9.2 laws_FnBridgeCut.B9 = true := by kernel_rfl
/-- What stands ahead of place j of a row, and what behind it. -/
theorem reads_lo {w : World} {A : Option Addr} {xs : List STie} (h : Kd.C kTie w A xs.length xs) (j : Nat) : Kd.C kTie w A (xs.take j).length (xs.take j) := by
  obtain ⟨h0, h1, h2⟩ := h
  refine ⟨rfl, Nat.le_trans (by rw [List.length_take]; omega) h1, fun hn => ?_⟩
  obtain ⟨a, ha, hc⟩ := h2 (by rw [List.length_take] at hn; omega)
  exact ⟨a, ha, fun i p hp => hc i p (by
    rw [List.getElem?_take] at hp
    split at hp
    · exact hp
    · simp at hp)⟩
theorem reads_hi {w : World} {A : Option Addr} {xs : List STie} (h : Kd.C kTie w A xs.length xs) (c j s : Nat) (hs : s = kTie.sz) (hc : xs.length ≤ c) : Kd.C kTie w (if c = j then A else A.map (·.add (j * s))) (xs.drop j).length (xs.drop j) := by
  subst hs
  obtain ⟨h0, h1, h2⟩ := h
  refine ⟨rfl, Nat.le_trans (by rw [List.length_drop]; omega) h1, fun hn => ?_⟩
  have hj : j < xs.length := by rw [List.length_drop] at hn; omega
  obtain ⟨a, ha, hcl⟩ := h2 (by omega)
  refine ⟨a.add (j * kTie.sz), by rw [if_neg (by omega), ha]; rfl, fun i p hp => ?_⟩
  rw [List.getElem?_drop] at hp
  obtain ⟨inner, h3, h4, h5⟩ := hcl (j + i) p hp
  refine ⟨inner, h3, h4, fun u v hv => ?_⟩
  have := h5 u v hv
  have ha : ∀ x y : Nat, (a.add x).add y = a.add (x + y) := fun x y => by
    unfold Addr.add
    by_cases h1 : x = 0 <;> by_cases h2 : y = 0 <;> simp [h1, h2, Nat.add_assoc]
  rw [ha, show j * kTie.sz + (i * kTie.sz + u) = (j + i) * kTie.sz + u from by rw [Nat.add_mul, Nat.add_assoc]]
  exact this

set_option maxHeartbeats 8000000 in
set_option maxRecDepth 100000 in
theorem laws_FnBridgeCut.calls (k : Nat) (A0 : Option Addr) (c0 : Nat) (l0 : List Int) (A1 : Option Addr) (c1 : Nat) (l1 : List Int) (r : Bool) (w : World) (hr0 : Kd.C (Kd.int .u8) w A0 l0.length l0) (hc0 : l0.length ≤ c0) (hr1 : Kd.C (Kd.int .u8) w A1 l1.length l1) (hc1 : l1.length ≤ c1) (h : laws_FnBridgeCut.f k l0 l1 = some r) :
    Calls Try.prog 3 #[.slice A0 l0.length c0, .slice A1 l1.length c1] w fun e w' => e = .returned (.bool r) ∧ Below w.heap.size w w' := by
 have hu25 := Try.underlying25
 have HR0 := q0 hr0
 have HC0 := q0 hc0
 clear hr0 hc0
 have HR1 := q0 hr1
 have HC1 := q0 hc1
 clear hr1 hc1
 have HB := q0 (Below.refl w.heap.size w)
 have H : (if (l0.length : Int) > 1048576 then (laws_FnBridgeCut.j0 k l0 l1 true) else (laws_FnBridgeCut.j0 k l0 l1 (decide ((l1.length : Int) > 1048576)))) = some r := h
 clear h
 have HC3 := q0 H
 clear H
 go_enter Try.func3, Try.ntmps3
 go_upto_region 1 with (fail)
 go_cut [17] (fun v17 wc => ∃ (kq : Nat) (x17_2 : Bool), v17 = .bool x17_2 ∧ Aside0 (laws_FnBridgeCut.j0 kq l0 l1 x17_2 = some r) ∧ Aside0 (kq ≤ k) ∧ Aside0 (Below w.heap.size w wc))
 case first =>
   have H := HC3.out
   clear HC3
   by_cases c4 : (l0.length : Int) > 1048576
   · rw [if_pos c4] at H
     have c4b0 := decide_eq_true c4
     have c4b1 : decide (1048576 < l0.length) = true := decide_eq_true (by omega)
     clear c4
     (first | rw [c4b0] | (simp only [i64_w, i32_w]; rw [c4b0]) | skip)
     have H' := q0 H
     clear H
     go_wp2
     go_meet
     case rel => exact ⟨_, (true), qs, H', ⟨by first | omega | exact Nat.le_refl _⟩, ⟨qb HB.out⟩⟩
   rw [if_neg c4] at H
   have c4b0 := decide_eq_false c4
   have c4b1 : decide (1048576 < l0.length) = false := decide_eq_false (by omega)
   clear c4
   (first | rw [c4b0] | (simp only [i64_w, i32_w]; rw [c4b0]) | skip)
   have H' := q0 H
   clear H
   go_wp2
   go_meet
   case rel => exact ⟨_, (decide ((l1.length : Int) > 1048576)), qs, H', ⟨by first | omega | exact Nat.le_refl _⟩, ⟨qb HB.out⟩⟩
 clear HC3
 try clear c1
 try clear p2
 try clear c3
 try clear c4
 try clear c4b0
 try clear c4b1
 obtain ⟨kq, x17_2, rfl, HA, HJ2, HB⟩ := hcut
 rcases kq with _ | kj2
 · exact absurd HA.out (by simp [laws_FnBridgeCut.j0])
 have H := HA.out
 clear HA
 simp only [laws_FnBridgeCut.j0] at H
 by_cases c5 : x17_2 = true
 · subst c5
   rw [if_pos rfl] at H
   obtain rfl := Option.some.inj H
   go_wp2
   go_ret
   exact ⟨qe, qb HB.out⟩
 replace c5 := Bool.eq_false_iff.mpr c5
 subst c5
 rw [if_neg nf] at H
 obtain ⟨⟨t100, t111⟩, A6, H⟩ := ob H
 obtain ⟨t101, A7, H⟩ := ob H
 have HC8 := q0 H
 clear H
 go_upto_region 5 with (first | ((with_reducible refine gf 4 ?_); refine gl 19 Try.func4 #[.slice A0 l0.length c0] ?_; (with_reducible refine (spec_DrawBridgeList.calls kj2 _ _ l0 t100 t111 _ ?side1 ?side2 A6.out).mono ?_); (case side1 => exact qc (Kd.C_below HR0.out HB.out)); (case side2 => exact HC0.out); rintro e w9 ⟨v112, rfl, ho0, hb⟩; refine ⟨_, rfl, ?_⟩; have HO113 := q0 (Kd.R_lower ho0 (below_size (qb HB.out))); replace HB := bp HB hb; (try clear hb); (try clear hb2); (try clear hk); (try clear hi); (try clear ho0)) | ((with_reducible refine gd 5 ?_); (try (refine gate_guard (by rfl) ?_; dsimp only)); refine be 5 #[.int .i64 0, .slice none 0 0] 25 ?_; intro gb114 hg w10 hbox hb; replace HO113 := q0 (Kd.R_below (qr HO113.out) hb); have BK114 := q0 (hbox); have GW114 := gw HB hg; have GE114 := gw HB hg; replace HB := bp HB hb; clear hb hbox hg; obtain ⟨hcz11_0, hcz11_1, hfz11_0, hfz11_1⟩ := b2 BK114; obtain ⟨Ao12, co12, eo12⟩ := Kd.R_slice HO113.out; subst eo12) | ((with_reducible refine gf 5 ?_); refine gl 21 Try.func5 #[.agg #[.int .i64 t100, .slice Ao12 t111.length co12]] ?_; (with_reducible refine (impl_BridgeList.calls kj2 t100 _ _ t111 t101 _ ?side1 ?side2 A7.out).mono ?_); (case side1 => refine (Kd.R_reads' (e := 32) (base := w.heap.size) (ok := fun k_ => True) (n := t111.length) (c := co12) ?_).2.2; exact (by (with_reducible repeat (first | apply Kd.R_alloc | apply Kd.R_drewN | apply Kd.R_drew)); exact (rf2 HO113.out BK114.out (fun _ h_ => h_.1)))); (case side2 => exact (Kd.R_reads' HO113.out).2.1); rintro e w13 ⟨v115, rfl, ho0, hb⟩; refine ⟨_, rfl, ?_⟩; have HO116 := q0 (Kd.R_lower (Kd.R_new' ho0 (Kd.R_lt (by (with_reducible repeat (first | apply Kd.R_alloc | apply Kd.R_drewN | apply Kd.R_drew)); exact (rf2 HO113.out BK114.out (fun _ h_ => h_.1))))) (below_size (qb HB.out))); replace HO113 := q0 (Kd.R_elder' (by (with_reducible repeat (first | apply Kd.R_alloc | apply Kd.R_drewN | apply Kd.R_drew)); exact (rf2 HO113.out BK114.out (fun _ h_ => h_.1))) (Kd.R_base ho0) hb); replace BK114 := q0 (blk_below (g := gb114) (o := .cells #[.int .i64 t100, .slice Ao12 t111.length co12] 25 (0, 0)) (by (with_reducible repeat (first | refine blk_drewN ?_ _ | refine blk_drew ?_ | refine blk_alloc ?_ _)); refine blk_put (cs := #[.int .i64 t100, .slice none 0 0]) ?_ 1 _ rfl; (with_reducible repeat (first | refine blk_drewN ?_ _ | refine blk_drew ?_ | refine blk_alloc ?_ _)); refine blk_put (cs := #[.int .i64 0, .slice none 0 0]) ?_ 0 _ rfl; (with_reducible repeat (first | refine blk_drewN ?_ _ | refine blk_drew ?_ | refine blk_alloc ?_ _)); exact BK114.out) hb); replace HB := bp HB hb; (try clear hb); (try clear hb2); (try clear hk); (try clear hi); (try clear ho0)))
 (try simp only [Act.put, List.setIfInBounds_toArray, List.set_cons_zero, List.set_cons_succ])
 go_cut [31] (fun v31 wc => ∃ (kq : Nat) (x31_7 : Bool), v31 = .bool x31_7 ∧ Aside0 (laws_FnBridgeCut.j1 kq l1 t101 x31_7 t100 t111 = some r) ∧ Aside0 (kq ≤ kj2) ∧ Aside0 (Kd.R kTie 32 wc w.heap.size (fun k_ => some k_ ≠ ((.slice Ao12 t111.length co12) : Value).ownBlock) v115 t101) ∧ Aside0 (Kd.R kTie 32 wc w.heap.size (fun k_ => some k_ ≠ (v115 : Value).ownBlock) (.slice Ao12 t111.length co12) t111) ∧ Aside0 (wc.heap[gb114]? = some (.cells #[.int .i64 t100, (.slice Ao12 t111.length co12)] 25 (0, 0))) ∧ Aside0 (Below w.heap.size w wc))
 case first =>
   have H := HC8.out
   clear HC8
   obtain ⟨t102, A14, H⟩ := ob H
   obtain ⟨t103, A15, H⟩ := ob H
   by_cases c16 : t103 = true
   · subst c16
     rw [if_pos rfl] at H
     have H' := q0 H
     clear H
     obtain ⟨hcz17_0, hcz17_1, hfz17_0, hfz17_1⟩ := b2 BK114
     go_wp2_with (first | ((with_reducible refine gf 7 ?_); refine gl 24 Try.func7 #[.agg #[.int .i64 t100, .slice Ao12 t111.length co12]] ?_; (with_reducible refine (spec_BridgeList.calls kj2 t100 _ _ t111 t102 _ ?side1 ?side2 A14.out).mono ?_); (case side1 => exact qc (Kd.R_reads' HO113.out).2.2); (case side2 => exact (Kd.R_reads' HO113.out).2.1); rintro e w18 ⟨v119, rfl, ho0, hb⟩; refine ⟨_, rfl, ?_⟩; have HO120 := q0 (Kd.R_lower (Kd.R_new' (Kd.R_new' ho0 (Kd.R_lt (qr HO113.out))) (Kd.R_lt (qr HO116.out))) (below_size (qb HB.out))); replace HO113 := q0 (Kd.R_elder' (qr HO113.out) (Kd.R_base ho0) hb); replace HO116 := q0 (Kd.R_elder' (qr HO116.out) (Kd.R_base ho0) hb); replace BK114 := kd BK114 hb; replace HB := bp HB hb; (try clear hb); (try clear hb2); (try clear hk); (try clear hi); (try clear ho0); obtain ⟨Ao19, co19, eo19⟩ := Kd.R_slice HO116.out; subst eo19; obtain ⟨Ao20, co20, eo20⟩ := Kd.R_slice HO120.out; subst eo20) | ((with_reducible refine gf 6 ?_); refine gl 25 Try.func6 #[.slice Ao19 t101.length co19, .slice Ao20 t102.length co20] ?_; (with_reducible refine (laws_loTies.calls kj2 _ _ t101 _ _ t102 true _ ?side1 ?side2 ?side3 ?side4 A15.out).mono ?_); (case side1 => exact qc (Kd.R_reads' HO116.out).2.2); (case side2 => exact (Kd.R_reads' HO116.out).2.1); (case side3 => exact qc (Kd.R_reads' HO120.out).2.2); (case side4 => exact (Kd.R_reads' HO120.out).2.1); rintro e w' ⟨rfl, ⟨nd, rfl⟩⟩; refine ⟨_, rfl, ?_⟩))
     go_meet
     case rel => exact ⟨_, (((t101.length : Int) == 0)), qs, H', ⟨by have := HJ2.out; first | omega | exact Nat.le_refl _⟩, ⟨by (with_reducible repeat (first | apply Kd.R_alloc | apply Kd.R_drewN | apply Kd.R_drew)); exact Kd.R_mono HO116.out (fun _ hk => hk.1.2)⟩, ⟨by (with_reducible repeat (first | apply Kd.R_alloc | apply Kd.R_drewN | apply Kd.R_drew)); exact Kd.R_mono HO113.out (fun _ hk => hk.1.2)⟩, ⟨qk BK114.out⟩, ⟨qb HB.out⟩⟩
   replace c16 := Bool.eq_false_iff.mpr c16
   subst c16
   rw [if_neg nf] at H
   have H' := q0 H
   clear H
   obtain ⟨hcz21_0, hcz21_1, hfz21_0, hfz21_1⟩ := b2 BK114
   go_wp2_with (first | ((with_reducible refine gf 7 ?_); refine gl 24 Try.func7 #[.agg #[.int .i64 t100, .slice Ao12 t111.length co12]] ?_; (with_reducible refine (spec_BridgeList.calls kj2 t100 _ _ t111 t102 _ ?side1 ?side2 A14.out).mono ?_); (case side1 => exact qc (Kd.R_reads' HO113.out).2.2); (case side2 => exact (Kd.R_reads' HO113.out).2.1); rintro e w22 ⟨v119, rfl, ho0, hb⟩; refine ⟨_, rfl, ?_⟩; have HO120 := q0 (Kd.R_lower (Kd.R_new' (Kd.R_new' ho0 (Kd.R_lt (qr HO113.out))) (Kd.R_lt (qr HO116.out))) (below_size (qb HB.out))); replace HO113 := q0 (Kd.R_elder' (qr HO113.out) (Kd.R_base ho0) hb); replace HO116 := q0 (Kd.R_elder' (qr HO116.out) (Kd.R_base ho0) hb); replace BK114 := kd BK114 hb; replace HB := bp HB hb; (try clear hb); (try clear hb2); (try clear hk); (try clear hi); (try clear ho0); obtain ⟨Ao23, co23, eo23⟩ := Kd.R_slice HO116.out; subst eo23; obtain ⟨Ao24, co24, eo24⟩ := Kd.R_slice HO120.out; subst eo24) | ((with_reducible refine gf 6 ?_); refine gl 25 Try.func6 #[.slice Ao23 t101.length co23, .slice Ao24 t102.length co24] ?_; (with_reducible refine (laws_loTies.calls kj2 _ _ t101 _ _ t102 false _ ?side1 ?side2 ?side3 ?side4 A15.out).mono ?_); (case side1 => exact qc (Kd.R_reads' HO116.out).2.2); (case side2 => exact (Kd.R_reads' HO116.out).2.1); (case side3 => exact qc (Kd.R_reads' HO120.out).2.2); (case side4 => exact (Kd.R_reads' HO120.out).2.1); rintro e w' ⟨rfl, ⟨nd, rfl⟩⟩; refine ⟨_, rfl, ?_⟩))
   go_meet
   case rel => exact ⟨_, (true), qs, H', ⟨by have := HJ2.out; first | omega | exact Nat.le_refl _⟩, ⟨by (with_reducible repeat (first | apply Kd.R_alloc | apply Kd.R_drewN | apply Kd.R_drew)); exact Kd.R_mono HO116.out (fun _ hk => hk.1.2)⟩, ⟨by (with_reducible repeat (first | apply Kd.R_alloc | apply Kd.R_drewN | apply Kd.R_drew)); exact Kd.R_mono HO113.out (fun _ hk => hk.1.2)⟩, ⟨qk BK114.out⟩, ⟨qb HB.out⟩⟩
 clear HC8
 try clear c1
 try clear p2
 try clear c3
 try clear c4
 try clear c4b0
 try clear c4b1
 try clear c5
 try clear c6
 try clear c7
 try clear c16
 try clear hcz11_0
 try clear hcz11_1
 try clear hcz17_0
 try clear hcz17_1
 try clear hcz21_0
 try clear hcz21_1
 try clear hfz11_0
 try clear hfz11_1
 try clear hfz17_0
 try clear hfz17_1
 try clear hfz21_0
 try clear hfz21_1
 try clear p2
 obtain ⟨kq, x31_7, rfl, HA, HJ7, HO_6, HO_101001, BK114, HB⟩ := hcut
 rcases kq with _ | kj7
 · exact absurd HA.out (by simp [laws_FnBridgeCut.j1])
 have H := HA.out
 clear HA
 simp only [laws_FnBridgeCut.j1] at H
 by_cases c25 : x31_7 = true
 · subst c25
   rw [if_pos rfl] at H
   obtain ⟨t104, A26, H⟩ := ob H
   obtain ⟨t105, A27, H⟩ := ob H
   obtain rfl := Option.some.inj H
   obtain ⟨hcz28_0, hcz28_1, hfz28_0, hfz28_1⟩ := b2 BK114
   go_wp2_with (first | ((with_reducible refine gf 7 ?_); refine gl 34 Try.func7 #[.agg #[.int .i64 t100, .slice Ao12 t111.length co12]] ?_; (with_reducible refine (spec_BridgeList.calls kj7 t100 _ _ t111 t104 _ ?side1 ?side2 A26.out).mono ?_); (case side1 => exact qc (Kd.R_reads' HO_101001.out).2.2); (case side2 => exact (Kd.R_reads' HO_101001.out).2.1); rintro e w29 ⟨v123, rfl, ho0, hb⟩; refine ⟨_, rfl, ?_⟩; have HO124 := q0 (Kd.R_lower (Kd.R_new' (Kd.R_new' ho0 (Kd.R_lt (qr HO_6.out))) (Kd.R_lt (qr HO_101001.out))) (below_size (qb HB.out))); replace HO_6 := q0 (Kd.R_elder' (qr HO_6.out) (Kd.R_base ho0) hb); replace HO_101001 := q0 (Kd.R_elder' (qr HO_101001.out) (Kd.R_base ho0) hb); replace BK114 := kd BK114 hb; replace HB := bp HB hb; (try clear hb); (try clear hb2); (try clear hk); (try clear hi); (try clear ho0); obtain ⟨Ao30, co30, eo30⟩ := Kd.R_slice HO_6.out; subst eo30; obtain ⟨Ao31, co31, eo31⟩ := Kd.R_slice HO124.out; subst eo31) | ((with_reducible refine gf 6 ?_); refine gl 35 Try.func6 #[.slice Ao30 t101.length co30, .slice Ao31 t104.length co31] ?_; (with_reducible refine (laws_loTies.calls kj7 _ _ t101 _ _ t104 t105 _ ?side1 ?side2 ?side3 ?side4 A27.out).mono ?_); (case side1 => exact qc (Kd.R_reads' HO_6.out).2.2); (case side2 => exact (Kd.R_reads' HO_6.out).2.1); (case side3 => exact qc (Kd.R_reads' HO124.out).2.2); (case side4 => exact (Kd.R_reads' HO124.out).2.1); rintro e w' ⟨rfl, ⟨nd, rfl⟩⟩; refine ⟨_, rfl, ?_⟩))
   go_ret
   exact ⟨qe, qb HB.out⟩
 replace c25 := Bool.eq_false_iff.mpr c25
 subst c25
 rw [if_neg nf] at H
 by_cases c32 : (t101.length : Int) = 0
 · rw [if_pos c32] at H
   exact absurd H (by simp)
 rw [if_neg c32] at H
 have c32b0 : ((t101.length : Int) == 0) = false := beq_eq_false_iff_ne.mpr c32
 have c32b1 : ((t101.length : Int) != 0) = true := bne_iff_ne.mpr c32
 have c32b2 : ¬ (t101 = []) := fun h_ => c32 (by rw [h_]; rfl)
 obtain ⟨ji33, hji33⟩ : ∃ j_ : Int, ((l1.length : Int) % (t101.length : Int)) = j_ := ⟨_, rfl⟩
 replace H : (if 0 ≤ (ji33) then (if (ji33) < (t101.length : Int) then ((impl_NetCut.f kj7 t100 t111 ((rd_TTie t101 (ji33)).f0) ((rd_TTie t101 (ji33)).f1)).bind fun bt106 => (if bt106.2.2 = true then ((impl_BridgeList.f kj7 bt106.1 bt106.2.1).bind fun t107 => ((some (([] : List (STie)) : List (STie))).bind fun y108 => (if y108.length + t101.length < 8796093022208 then ((some (y108 ++ t101.take (ji33).toNat : List (STie))).bind fun y109 => (if y109.length + t101.length < 8796093022208 then ((laws_loTies.f kj7 t107 (y109 ++ t101.drop ((ji33).toNat + 1))).bind fun t110 => (some t110)) else (none))) else (none)))) else (none))) else (none)) else (none)) = some r := by first | (rw [hji33] at H; exact H) | (simp only [hji33] at H ⊢; exact H)
 obtain ⟨c34, H⟩ : (0 ≤ (ji33)) ∧ _ := og H
 have c34b0 := decide_eq_true c34
 clear c34
 obtain ⟨c35, H⟩ : ((ji33) < (t101.length : Int)) ∧ _ := og H
 have c35b0 := decide_eq_true c35
 clear c35
 obtain ⟨⟨t106, t125, t126⟩, A36, H⟩ := ob H
 by_cases c37 : t126 = true
 rotate_left
 · replace c37 := Bool.eq_false_iff.mpr c37
   subst c37
   rw [if_neg nf] at H
   exact absurd H (by simp)
 subst c37
 rw [if_pos rfl] at H
 obtain ⟨t107, A38, H⟩ := ob H
 obtain ⟨y108, hy108⟩ : ∃ y_ : List (STie), y_ = (([] : List (STie))) := ⟨_, rfl⟩
 replace H : (if y108.length + t101.length < 8796093022208 then ((some (y108 ++ t101.take (ji33).toNat : List (STie))).bind fun y109 => (if y109.length + t101.length < 8796093022208 then ((laws_loTies.f kj7 t107 (y109 ++ t101.drop ((ji33).toNat + 1))).bind fun t110 => (some t110)) else (none))) else (none)) = some r := qy H hy108
 have Ny108 := q0 hy108
 clear hy108
 obtain ⟨c39, H⟩ : (y108.length + t101.length < 8796093022208) ∧ _ := og H
 have LMc39 := q0 c39
 clear c39
 obtain ⟨y109, hy109⟩ : ∃ y_ : List (STie), y_ = (y108 ++ t101.take (ji33).toNat) := ⟨_, rfl⟩
 replace H : (if y109.length + t101.length < 8796093022208 then ((laws_loTies.f kj7 t107 (y109 ++ t101.drop ((ji33).toNat + 1))).bind fun t110 => (some t110)) else (none)) = some r := qy H hy109
 have Ny109 := q0 hy109
 clear hy109
 obtain ⟨c40, H⟩ : (y109.length + t101.length < 8796093022208) ∧ _ := og H
 have LMc40 := q0 c40
 clear c40
 obtain ⟨y129, hy129⟩ : ∃ y_ : List (STie), y_ = (y109 ++ t101.drop ((ji33).toNat + 1)) := ⟨_, rfl⟩
 replace H : ((laws_loTies.f kj7 t107 y129).bind fun t110 => (some t110)) = some r := qy H hy129
 have Ny129 := q0 hy129
 clear hy129
 obtain ⟨t110, A41, H⟩ := ob H
 obtain rfl := Option.some.inj H
 obtain ⟨Ao42, co42, eo42⟩ := Kd.R_slice HO_6.out
 subst eo42
 try go_wp2
 replace HO_6 := q0 (Kd.R_drew HO_6.out)
 replace HO_101001 := q0 (Kd.R_drew HO_101001.out)
 replace BK114 := q0 (blk_drew BK114.out)
 replace HB := q0 (below_drew1 HB.out)
 have p131 : 0 ≤ ((ji33) : Int) := of_decide_eq_true qa
 have q131 : (ji33) < (t101.length : Int) := of_decide_eq_true qa
 obtain ⟨ad131, e131, hx131_0, hx131_1⟩ := at_TTie (Kd.R_reads' HO_6.out).2.2 (ji33) p131 q131
 cases e131
 replace p131 := eq_true p131
 replace q131 := eq_true q131
 have p132 : 0 ≤ ((ji33) : Int) := of_decide_eq_true qa
 have q132 : (ji33) < (t101.length : Int) := of_decide_eq_true qa
 obtain ⟨ad132, e132, hx132_0, hx132_1⟩ := at_TTie (Kd.R_reads' HO_6.out).2.2 (ji33) p132 q132
 obtain rfl : ad131 = ad132 := (by injection e132)
 replace p132 := eq_true p132
 replace q132 := eq_true q132
 refine start_ (n := 18) (S := fun w' => w'.cell? ⟨gb114, 0, none⟩ = some (.int .i64 t100) ∧ w'.cell? ⟨gb114, 1, none⟩ = some (.slice Ao12 t111.length co12) ∧ w'.cell? (ad131.add (((ji33)).toNat * 2)) = some (.int .i64 ((rd_TTie t101 (ji33)).f0)) ∧ w'.cell? ⟨(ad131.add (((ji33)).toNat * 2)).block, (ad131.add (((ji33)).toNat * 2)).off + 1, none⟩ = some (.int .i64 ((rd_TTie t101 (ji33)).f1)) ∧ w'.cell? (ad131.add (((ji33)).toNat * 2)) = some (.int .i64 ((rd_TTie t101 (ji33)).f0)) ∧ w'.cell? ⟨(ad131.add (((ji33)).toNat * 2)).block, (ad131.add (((ji33)).toNat * 2)).off + 1, none⟩ = some (.int .i64 ((rd_TTie t101 (ji33)).f1))) (ds := []) (ba 18 0) (by kernel_rfl) rfl (by kernel_rfl) ⟨bca BK114, bcb BK114, hx131_0, hx131_1, hx132_0, hx132_1⟩ (fun hHeld => ?_); refine with_tabW laws_FnBridgeCut.tab8 laws_FnBridgeCut.bits8 (fun HT_ HW_ => ?_)
 generalize wc.drew = w43 at HO_6 HO_101001 BK114 HB hx131_0 hx131_1 hx132_0 hx132_1 hHeld ⊢
 refine pU 1 43 18 2 HT_ ?_
 refine pU 2 44 18 6 HT_ ?_
 refine pU 3 45 18 14 HT_ ?_
 refine pU 4 46 18 30 HT_ ?_
 refine pU 6 48 18 94 HT_ ?_
 refine pU 7 49 18 222 HT_ ?_
 refine pU 8 50 18 478 HT_ ?_
 refine pU 9 51 18 990 HT_ ?_
 refine tU 0 42 18 991 HT_ HW_ hHeld ?_
 refine tU 5 47 18 1023 HT_ HW_ hHeld ?_
 refine tU 10 52 18 2047 HT_ HW_ hHeld ?_
 refine join_ (σ := Value × Nat) 2 (ba 18 65535) (fun s_ => [(53, .tuple #[.agg #[.int .i64 t106, s_.1], .bool true]), (8, .pointer (some ⟨s_.2, 0, none⟩)), (41, .tuple #[.agg #[.int .i64 t106, s_.1], .bool true]), (54, .agg #[.int .i64 t106, s_.1]), (55, .bool true)]) (fun s_ w' => (w'.cell? ⟨gb114, 0, none⟩ = some (.int .i64 t100) ∧ w'.cell? ⟨gb114, 1, none⟩ = some (.slice Ao12 t111.length co12) ∧ w'.cell? (ad131.add (((ji33)).toNat * 2)) = some (.int .i64 ((rd_TTie t101 (ji33)).f0)) ∧ w'.cell? ⟨(ad131.add (((ji33)).toNat * 2)).block, (ad131.add (((ji33)).toNat * 2)).off + 1, none⟩ = some (.int .i64 ((rd_TTie t101 (ji33)).f1)) ∧ w'.cell? (ad131.add (((ji33)).toNat * 2)) = some (.int .i64 ((rd_TTie t101 (ji33)).f0)) ∧ w'.cell? ⟨(ad131.add (((ji33)).toNat * 2)).block, (ad131.add (((ji33)).toNat * 2)).off + 1, none⟩ = some (.int .i64 ((rd_TTie t101 (ji33)).f1))) ∧ (Kd.R kTie 32 w' w.heap.size (fun k_ => some k_ ≠ (.slice Ao12 t111.length co12 : Value).ownBlock ∧ some k_ ≠ (.slice (some ad131) t101.length co42 : Value).ownBlock) s_.1 t125) ∧ (Kd.R kTie 32 w' w.heap.size (fun k_ => some k_ ≠ (s_.1 : Value).ownBlock ∧ some k_ ≠ (.slice (some ad131) t101.length co42 : Value).ownBlock) (.slice Ao12 t111.length co12) t111) ∧ (Kd.R kTie 32 w' w.heap.size (fun k_ => some k_ ≠ (s_.1 : Value).ownBlock ∧ some k_ ≠ (.slice Ao12 t111.length co12 : Value).ownBlock) (.slice (some ad131) t101.length co42) t101) ∧ (w'.heap[gb114]? = some (.cells #[.int .i64 t100, .slice Ao12 t111.length co12] 25 (0, 0))) ∧ (w'.heap[s_.2]? = some (.cells #[.int .i64 0, .slice none 0 0] 25 (0, 0))) ∧ (w.heap.size ≤ s_.2) ∧ (w.heap.size ≤ s_.2) ∧ (gb114 ≠ s_.2) ∧ (s_.2 ≠ gb114) ∧ (Below w.heap.size w w')) ?_ ?_
 rotate_left
 · intro hCont
   refine two_ (i := 11) (j := 15) (Ni := some 53) (Nj := some 8) (ba 18 4095) (ba 18 34815) rfl rfl rfl rfl (two_of HT_.out (by kernel_rfl)) (by decide) (by decide) (fun K hK => ?_) (fun K hK => ?_)
   · skip
     refine goes_ Try.func8 (by kernel_rfl) rfl #[.agg #[.int .i64 t100, .slice Ao12 t111.length co12], .int .i64 ((rd_TTie t101 (ji33)).f0), .int .i64 ((rd_TTie t101 (ji33)).f1)] (by rfl) rfl rfl (by (try simp only [List.map_toArray, List.map_cons, List.map_nil]); first | done | (simp only [hji33]; rfl) | rfl | (simp only [List.length_drop, List.length_take]; rfl)) ?_
     with_reducible refine (impl_NetCut.calls kj7 t100 _ _ t111 ((rd_TTie t101 (ji33)).f0) ((rd_TTie t101 (ji33)).f1) t106 t125 true _ ?side1 ?side2 A36.out).mono ?_
     (case side1 => exact qc (Kd.R_reads' HO_101001.out).2.2)
     (case side2 => exact (Kd.R_reads' HO_101001.out).2.1)
     rintro e w44 ⟨v133, rfl, ho0, hb⟩
     have HS2_ := hcl hb hHeld.2.2.1
     have HS3_ := hcl hb hHeld.2.2.2.1
     have HS4_ := hcl hb hHeld.2.2.2.2.1
     have HS5_ := hcl hb hHeld.2.2.2.2.2
     refine ⟨_, rfl, ?_⟩
     have HO134 := q0 (Kd.R_lower (Kd.R_new' (Kd.R_new' ho0 (Kd.R_lt (qr HO_6.out))) (Kd.R_lt (qr HO_101001.out))) (below_size (qb HB.out)))
     replace HO_6 := q0 (Kd.R_elder' (qr HO_6.out) (Kd.R_base ho0) hb)
     replace HO_101001 := q0 (Kd.R_elder' (qr HO_101001.out) (Kd.R_base ho0) hb)
     replace BK114 := kd BK114 hb
     replace HB := bp HB hb
     (try clear hb)
     (try clear hb2)
     (try clear hk)
     (try clear hi)
     (try clear ho0)
     refine hK.out _ _ ⟨bca BK114, bcb BK114, HS2_, HS3_, HS4_, HS5_⟩ (fun hHeld => ?_)
     clear hK K
     refine nu 53 ?_
     refine pU 12 41 18 8191 HT_ ?_
     refine pU 13 54 18 16383 HT_ ?_
     refine pU 14 55 18 32767 HT_ ?_
     refine one_ (i := 15) (N := some 8) (ba 18 65535) rfl rfl (one_of HT_.out (by kernel_rfl)) (by decide) (fun K hK => ?_)
     refine box_step ?hg (N := 8) ?hd (cs := #[.int .i64 0, .slice none 0 0]) (t := 25) ?hr ?_; (case hd => rfl); (case hg => rfl); (case hr => first | (go_simp; done) | (go_simp; rfl))
     intro gb135 hg w45 hbox hb
     have HS2_ := hcl hb hHeld.2.2.1
     have HS3_ := hcl hb hHeld.2.2.2.1
     have HS4_ := hcl hb hHeld.2.2.2.2.1
     have HS5_ := hcl hb hHeld.2.2.2.2.2
     replace HO_6 := q0 (Kd.R_below (qr HO_6.out) hb)
     replace HO_101001 := q0 (Kd.R_below (qr HO_101001.out) hb)
     replace HO134 := q0 (Kd.R_below (qr HO134.out) hb)
     have BK135 := q0 (hbox)
     have GW135 := gw HB hg
     have GE135 := gw HB hg
     replace HB := bp HB hb
     have NB114_135 := nl BK114 hg
     have NB135_114 := ng BK114 hg
     replace BK114 := kd BK114 hb
     clear hb hbox hg
     refine hK.out _ _ ⟨bca BK114, bcb BK114, HS2_, HS3_, HS4_, HS5_⟩ (fun hHeld => ?_)
     clear hK K
     refine nu 8 ?_
     exact norm_ (by simp only [putAll, Act.put, List.setIfInBounds_toArray, List.set_cons_zero, List.set_cons_succ]) (hCont (v133, gb135) _ ⟨hHeld, (by (with_reducible repeat (first | apply Kd.R_alloc | apply Kd.R_drewN | apply Kd.R_drew)); exact Kd.R_mono HO134.out (fun _ hk => ⟨hk.2, hk.1.2⟩)), (by (with_reducible repeat (first | apply Kd.R_alloc | apply Kd.R_drewN | apply Kd.R_drew)); exact Kd.R_mono HO_101001.out (fun _ hk => ⟨hk.2, hk.1⟩)), (by (with_reducible repeat (first | apply Kd.R_alloc | apply Kd.R_drewN | apply Kd.R_drew)); exact Kd.R_mono HO_6.out (fun _ hk => ⟨hk.2, hk.1⟩)), (qk BK114.out), (qk BK135.out), GW135.out, GE135.out, NB114_135.out, NB135_114.out, (qb HB.out)⟩)
   · skip
     refine box_step ?hg (N := 8) ?hd (cs := #[.int .i64 0, .slice none 0 0]) (t := 25) ?hr ?_; (case hd => rfl); (case hg => rfl); (case hr => first | (go_simp; done) | (go_simp; rfl))
     intro gb135 hg w44 hbox hb
     have HS2_ := hcl hb hHeld.2.2.1
     have HS3_ := hcl hb hHeld.2.2.2.1
     have HS4_ := hcl hb hHeld.2.2.2.2.1
     have HS5_ := hcl hb hHeld.2.2.2.2.2
     replace HO_6 := q0 (Kd.R_below (qr HO_6.out) hb)
     replace HO_101001 := q0 (Kd.R_below (qr HO_101001.out) hb)
     have BK135 := q0 (hbox)
     have GW135 := gw HB hg
     have GE135 := gw HB hg
     replace HB := bp HB hb
     have NB114_135 := nl BK114 hg
     have NB135_114 := ng BK114 hg
     replace BK114 := kd BK114 hb
     clear hb hbox hg
     refine hK.out _ _ ⟨bca BK114, bcb BK114, HS2_, HS3_, HS4_, HS5_⟩ (fun hHeld => ?_)
     clear hK K
     refine nu 8 ?_
     refine one_ (i := 11) (N := some 53) (ba 18 36863) rfl rfl (one_of HT_.out (by kernel_rfl)) (by decide) (fun K hK => ?_)
     refine goes_ Try.func8 (by kernel_rfl) rfl #[.agg #[.int .i64 t100, .slice Ao12 t111.length co12], .int .i64 ((rd_TTie t101 (ji33)).f0), .int .i64 ((rd_TTie t101 (ji33)).f1)] (by rfl) rfl rfl (by (try simp only [List.map_toArray, List.map_cons, List.map_nil]); first | done | (simp only [hji33]; rfl) | rfl | (simp only [List.length_drop, List.length_take]; rfl)) ?_
     with_reducible refine (impl_NetCut.calls kj7 t100 _ _ t111 ((rd_TTie t101 (ji33)).f0) ((rd_TTie t101 (ji33)).f1) t106 t125 true _ ?side1 ?side2 A36.out).mono ?_
     (case side1 => exact qc (Kd.R_reads' HO_101001.out).2.2)
     (case side2 => exact (Kd.R_reads' HO_101001.out).2.1)
     rintro e w45 ⟨v133, rfl, ho0, hb⟩
     have HS2_ := hcl hb hHeld.2.2.1
     have HS3_ := hcl hb hHeld.2.2.2.1
     have HS4_ := hcl hb hHeld.2.2.2.2.1
     have HS5_ := hcl hb hHeld.2.2.2.2.2
     refine ⟨_, rfl, ?_⟩
     have HO134 := q0 (Kd.R_lower (Kd.R_new' (Kd.R_new' ho0 (Kd.R_lt (qr HO_6.out))) (Kd.R_lt (qr HO_101001.out))) (below_size (qb HB.out)))
     replace HO_6 := q0 (Kd.R_elder' (qr HO_6.out) (Kd.R_base ho0) hb)
     replace HO_101001 := q0 (Kd.R_elder' (qr HO_101001.out) (Kd.R_base ho0) hb)
     replace BK114 := kd BK114 hb
     replace BK135 := kd BK135 hb
     replace HB := bp HB hb
     (try clear hb)
     (try clear hb2)
     (try clear hk)
     (try clear hi)
     (try clear ho0)
     refine hK.out _ _ ⟨bca BK114, bcb BK114, HS2_, HS3_, HS4_, HS5_⟩ (fun hHeld => ?_)
     clear hK K
     refine nu 53 ?_
     refine pU 12 41 18 40959 HT_ ?_
     refine pU 13 54 18 49151 HT_ ?_
     refine pU 14 55 18 65535 HT_ ?_
     exact norm_ (by simp only [putAll, Act.put, List.setIfInBounds_toArray, List.set_cons_zero, List.set_cons_succ]) (hCont (v133, gb135) _ ⟨hHeld, (by (with_reducible repeat (first | apply Kd.R_alloc | apply Kd.R_drewN | apply Kd.R_drew)); exact Kd.R_mono HO134.out (fun _ hk => ⟨hk.2, hk.1.2⟩)), (by (with_reducible repeat (first | apply Kd.R_alloc | apply Kd.R_drewN | apply Kd.R_drew)); exact Kd.R_mono HO_101001.out (fun _ hk => ⟨hk.2, hk.1⟩)), (by (with_reducible repeat (first | apply Kd.R_alloc | apply Kd.R_drewN | apply Kd.R_drew)); exact Kd.R_mono HO_6.out (fun _ hk => ⟨hk.2, hk.1⟩)), (qk BK114.out), (qk BK135.out), GW135.out, GE135.out, NB114_135.out, NB135_114.out, (qb HB.out)⟩)
 rintro ⟨v133, gb135⟩ w46 ⟨hS_, h0_, h1_, h2_, h3_, h4_, h5_, h6_, h7_, h8_, h9_⟩
 have n0_ : Aside0 (Kd.R kTie 32 w46 w.heap.size (fun k_ => some k_ ≠ (.slice Ao12 t111.length co12 : Value).ownBlock ∧ some k_ ≠ (.slice (some ad131) t101.length co42 : Value).ownBlock) v133 t125) := ⟨h0_⟩
 have n1_ : Aside0 (Kd.R kTie 32 w46 w.heap.size (fun k_ => some k_ ≠ (v133 : Value).ownBlock ∧ some k_ ≠ (.slice (some ad131) t101.length co42 : Value).ownBlock) (.slice Ao12 t111.length co12) t111) := ⟨h1_⟩
 have n2_ : Aside0 (Kd.R kTie 32 w46 w.heap.size (fun k_ => some k_ ≠ (v133 : Value).ownBlock ∧ some k_ ≠ (.slice Ao12 t111.length co12 : Value).ownBlock) (.slice (some ad131) t101.length co42) t101) := ⟨h2_⟩
 have n3_ : Aside0 (w46.heap[gb114]? = some (.cells #[.int .i64 t100, .slice Ao12 t111.length co12] 25 (0, 0))) := ⟨h3_⟩
 have n4_ : Aside0 (w46.heap[gb135]? = some (.cells #[.int .i64 0, .slice none 0 0] 25 (0, 0))) := ⟨h4_⟩
 have n5_ : Aside0 (w.heap.size ≤ gb135) := ⟨h5_⟩
 have n6_ : Aside0 (w.heap.size ≤ gb135) := ⟨h6_⟩
 have n7_ : Aside0 (gb114 ≠ gb135) := ⟨h7_⟩
 have n8_ : Aside0 (gb135 ≠ gb114) := ⟨h8_⟩
 have n9_ : Aside0 (Below w.heap.size w w46) := ⟨h9_⟩
 clear HO_6
 clear HO_101001
 clear BK114
 clear HB
 clear h0_ h1_ h2_ h3_ h4_ h5_ h6_ h7_ h8_ h9_
 have HO134 := n0_
 have HO_101001 := n1_
 have HO_6 := n2_
 have BK114 := n3_
 have BK135 := n4_
 have GW135 := n5_
 have GE135 := n6_
 have NB114_135 := n7_
 have NB135_114 := n8_
 have HB := n9_
 clear n0_ n1_ n2_ n3_ n4_ n5_ n6_ n7_ n8_ n9_
 have hHeld : w46.cell? ⟨gb114, 0, none⟩ = some (.int .i64 t100) ∧ w46.cell? ⟨gb114, 1, none⟩ = some (.slice Ao12 t111.length co12) ∧ w46.cell? (ad131.add (((ji33)).toNat * 2)) = some (.int .i64 ((rd_TTie t101 (ji33)).f0)) ∧ w46.cell? ⟨(ad131.add (((ji33)).toNat * 2)).block, (ad131.add (((ji33)).toNat * 2)).off + 1, none⟩ = some (.int .i64 ((rd_TTie t101 (ji33)).f1)) ∧ w46.cell? (ad131.add (((ji33)).toNat * 2)) = some (.int .i64 ((rd_TTie t101 (ji33)).f0)) ∧ w46.cell? ⟨(ad131.add (((ji33)).toNat * 2)).block, (ad131.add (((ji33)).toNat * 2)).off + 1, none⟩ = some (.int .i64 ((rd_TTie t101 (ji33)).f1)) := hS_
 obtain ⟨Ao48, co48, eo48⟩ := Kd.R_slice HO134.out
 (first | subst eo48 | (injection eo48 with f1_ f2_ f3_; have f4_ := f1_.symm; have f5_ := f3_.symm; clear f1_ f2_ f3_; subst f4_; subst f5_))
 refine norm_ (a' := ?_) ?_ ?_
 rotate_left
 · simp only [putAll, Act.put, List.setIfInBounds_toArray, List.set_cons_zero, List.set_cons_succ]
   rfl
 refine one_ (i := 16) (N := none) (ba 18 131071) rfl rfl (one_of HT_.out (by kernel_rfl)) (by decide) (fun K hK => ?_)
 have hs47 : w46.cell? ⟨gb135, 0, none⟩ = some (.int .i64 0) := (blk_cell BK135.out 0).trans rfl
 have hfs47 := blk_frozen BK135.out 0
 have hns47_0 := NB114_135.out
 have hms47_0 := NB135_114.out
 have hs49 : w46.cell? ⟨gb135, 1, none⟩ = some (.slice none 0 0) := (blk_cell BK135.out 1).trans rfl
 have hfs49 := blk_frozen BK135.out 1
 have hns49_0 := NB114_135.out
 have hms49_0 := NB135_114.out
 refine skip_ (w1 := ?_) (by rfl) rfl ?_ ?_
 rotate_left
 · go_simp
   rfl
 refine hK.out _ _ ⟨((cell_far (p := ⟨gb135, _, none⟩) NB114_135.out _).trans (((cell_far (p := ⟨gb135, _, none⟩) NB114_135.out _).trans (hHeld.1)))), ((cell_far (p := ⟨gb135, _, none⟩) NB114_135.out _).trans (((cell_far (p := ⟨gb135, _, none⟩) NB114_135.out _).trans (hHeld.2.1)))), ((cell_far (p := ⟨gb135, _, none⟩) (by first | exact Kd.own_blk (Kd.R_ne HO_6.out BK135.out (by decide)) | (rw [add_block]; exact Kd.own_blk (Kd.R_ne HO_6.out BK135.out (by decide))) | (show (Addr.add _ _).block ≠ _; rw [add_block]; exact Kd.own_blk (Kd.R_ne HO_6.out BK135.out (by decide))) | (dsimp only; exact Kd.own_blk (Kd.R_ne HO_6.out BK135.out (by decide)))) _).trans (((cell_far (p := ⟨gb135, _, none⟩) (by first | exact Kd.own_blk (Kd.R_ne HO_6.out BK135.out (by decide)) | (rw [add_block]; exact Kd.own_blk (Kd.R_ne HO_6.out BK135.out (by decide))) | (show (Addr.add _ _).block ≠ _; rw [add_block]; exact Kd.own_blk (Kd.R_ne HO_6.out BK135.out (by decide))) | (dsimp only; exact Kd.own_blk (Kd.R_ne HO_6.out BK135.out (by decide)))) _).trans (hHeld.2.2.1)))), ((cell_far (p := ⟨gb135, _, none⟩) (by first | exact Kd.own_blk (Kd.R_ne HO_6.out BK135.out (by decide)) | (rw [add_block]; exact Kd.own_blk (Kd.R_ne HO_6.out BK135.out (by decide))) | (show (Addr.add _ _).block ≠ _; rw [add_block]; exact Kd.own_blk (Kd.R_ne HO_6.out BK135.out (by decide))) | (dsimp only; exact Kd.own_blk (Kd.R_ne HO_6.out BK135.out (by decide)))) _).trans (((cell_far (p := ⟨gb135, _, none⟩) (by first | exact Kd.own_blk (Kd.R_ne HO_6.out BK135.out (by decide)) | (rw [add_block]; exact Kd.own_blk (Kd.R_ne HO_6.out BK135.out (by decide))) | (show (Addr.add _ _).block ≠ _; rw [add_block]; exact Kd.own_blk (Kd.R_ne HO_6.out BK135.out (by decide))) | (dsimp only; exact Kd.own_blk (Kd.R_ne HO_6.out BK135.out (by decide)))) _).trans (hHeld.2.2.2.1)))), ((cell_far (p := ⟨gb135, _, none⟩) (by first | exact Kd.own_blk (Kd.R_ne HO_6.out BK135.out (by decide)) | (rw [add_block]; exact Kd.own_blk (Kd.R_ne HO_6.out BK135.out (by decide))) | (show (Addr.add _ _).block ≠ _; rw [add_block]; exact Kd.own_blk (Kd.R_ne HO_6.out BK135.out (by decide))) | (dsimp only; exact Kd.own_blk (Kd.R_ne HO_6.out BK135.out (by decide)))) _).trans (((cell_far (p := ⟨gb135, _, none⟩) (by first | exact Kd.own_blk (Kd.R_ne HO_6.out BK135.out (by decide)) | (rw [add_block]; exact Kd.own_blk (Kd.R_ne HO_6.out BK135.out (by decide))) | (show (Addr.add _ _).block ≠ _; rw [add_block]; exact Kd.own_blk (Kd.R_ne HO_6.out BK135.out (by decide))) | (dsimp only; exact Kd.own_blk (Kd.R_ne HO_6.out BK135.out (by decide)))) _).trans (hHeld.2.2.2.2.1)))), ((cell_far (p := ⟨gb135, _, none⟩) (by first | exact Kd.own_blk (Kd.R_ne HO_6.out BK135.out (by decide)) | (rw [add_block]; exact Kd.own_blk (Kd.R_ne HO_6.out BK135.out (by decide))) | (show (Addr.add _ _).block ≠ _; rw [add_block]; exact Kd.own_blk (Kd.R_ne HO_6.out BK135.out (by decide))) | (dsimp only; exact Kd.own_blk (Kd.R_ne HO_6.out BK135.out (by decide)))) _).trans (((cell_far (p := ⟨gb135, _, none⟩) (by first | exact Kd.own_blk (Kd.R_ne HO_6.out BK135.out (by decide)) | (rw [add_block]; exact Kd.own_blk (Kd.R_ne HO_6.out BK135.out (by decide))) | (show (Addr.add _ _).block ≠ _; rw [add_block]; exact Kd.own_blk (Kd.R_ne HO_6.out BK135.out (by decide))) | (dsimp only; exact Kd.own_blk (Kd.R_ne HO_6.out BK135.out (by decide)))) _).trans (hHeld.2.2.2.2.2))))⟩ (fun hHeld => ?_)
 clear hK K
 refine pU 17 9 18 262143 HT_ ?_
 refine done_ (done_of HT_.out (by kernel_rfl)) ?_
 try go_wp2
 have n0_ : Aside0 (Kd.R kTie 32 ((w46.setCell ⟨gb135, 0, none⟩ (.int .i64 t106)).setCell ⟨gb135, 1, none⟩ (.slice Ao48 t125.length co48)) w.heap.size (fun k_ => some k_ ≠ (.slice Ao12 t111.length co12 : Value).ownBlock ∧ some k_ ≠ (.slice Ao48 t125.length co48 : Value).ownBlock) (.slice (some ad131) t101.length co42) t101) := ⟨by (with_reducible repeat (first | apply Kd.R_alloc | apply Kd.R_drewN | apply Kd.R_drew)); exact rf2 HO_6.out BK135.out (fun _ hk => ⟨hk.1.2, hk.1.1⟩)⟩
 have n1_ : Aside0 (Kd.R kTie 32 ((w46.setCell ⟨gb135, 0, none⟩ (.int .i64 t106)).setCell ⟨gb135, 1, none⟩ (.slice Ao48 t125.length co48)) w.heap.size (fun k_ => some k_ ≠ (.slice (some ad131) t101.length co42 : Value).ownBlock ∧ some k_ ≠ (.slice Ao48 t125.length co48 : Value).ownBlock) (.slice Ao12 t111.length co12) t111) := ⟨by (with_reducible repeat (first | apply Kd.R_alloc | apply Kd.R_drewN | apply Kd.R_drew)); exact rf2 HO_101001.out BK135.out (fun _ hk => ⟨hk.1.2, hk.1.1⟩)⟩
 have n2_ : Aside0 (Kd.R kTie 32 ((w46.setCell ⟨gb135, 0, none⟩ (.int .i64 t106)).setCell ⟨gb135, 1, none⟩ (.slice Ao48 t125.length co48)) w.heap.size (fun k_ => some k_ ≠ (.slice (some ad131) t101.length co42 : Value).ownBlock ∧ some k_ ≠ (.slice Ao12 t111.length co12 : Value).ownBlock) (.slice Ao48 t125.length co48) t125) := ⟨by (with_reducible repeat (first | apply Kd.R_alloc | apply Kd.R_drewN | apply Kd.R_drew)); exact rf2 HO134.out BK135.out (fun _ hk => ⟨hk.1.2, hk.1.1⟩)⟩
 have n3_ : Aside0 (((w46.setCell ⟨gb135, 0, none⟩ (.int .i64 t106)).setCell ⟨gb135, 1, none⟩ (.slice Ao48 t125.length co48)).heap[gb114]? = some (.cells #[.int .i64 t100, .slice Ao12 t111.length co12] 25 (0, 0))) := ⟨qf BK114.out⟩
 have n4_ : Aside0 (((w46.setCell ⟨gb135, 0, none⟩ (.int .i64 t106)).setCell ⟨gb135, 1, none⟩ (.slice Ao48 t125.length co48)).heap[gb135]? = some (.cells #[.int .i64 t106, .slice Ao48 t125.length co48] 25 (0, 0))) := ⟨by (with_reducible repeat (first | refine blk_drewN ?_ _ | refine blk_drew ?_ | refine blk_alloc ?_ _)); refine blk_put (cs := #[.int .i64 t106, .slice none 0 0]) ?_ 1 _ rfl; (with_reducible repeat (first | refine blk_drewN ?_ _ | refine blk_drew ?_ | refine blk_alloc ?_ _)); refine blk_put (cs := #[.int .i64 0, .slice none 0 0]) ?_ 0 _ rfl; (with_reducible repeat (first | refine blk_drewN ?_ _ | refine blk_drew ?_ | refine blk_alloc ?_ _)); exact BK135.out⟩
 have n5_ : Aside0 (Below w.heap.size w ((w46.setCell ⟨gb135, 0, none⟩ (.int .i64 t106)).setCell ⟨gb135, 1, none⟩ (.slice Ao48 t125.length co48))) := ⟨qb HB.out⟩
 (try clear HO_6)
 (try clear HO_101001)
 (try clear HO134)
 (try clear BK114)
 (try clear BK135)
 (try clear HB)
 generalize ((w46.setCell ⟨gb135, 0, none⟩ (.int .i64 t106)).setCell ⟨gb135, 1, none⟩ (.slice Ao48 t125.length co48)) = w50 at n0_ n1_ n2_ n3_ n4_ n5_ ⊢
 have HO_6 := n0_
 have HO_101001 := n1_
 have HO134 := n2_
 have BK114 := n3_
 have BK135 := n4_
 have HB := n5_
 clear n0_ n1_ n2_ n3_ n4_ n5_
 replace HO_6 := q0 (Kd.R_drew HO_6.out)
 replace HO_101001 := q0 (Kd.R_drew HO_101001.out)
 replace HO134 := q0 (Kd.R_drew HO134.out)
 replace BK114 := q0 (blk_drew BK114.out)
 replace BK135 := q0 (blk_drew BK135.out)
 replace HB := q0 (below_drew1 HB.out)
 refine start_ (n := 17) (S := fun w' => w'.cell? ⟨gb135, 0, none⟩ = some (.int .i64 t106) ∧ w'.cell? ⟨gb135, 1, none⟩ = some (.slice Ao48 t125.length co48)) (ds := []) (ba 17 0) (by kernel_rfl) rfl (by kernel_rfl) ⟨bca BK135, bcb BK135⟩ (fun hHeld => ?_); refine with_tabW laws_FnBridgeCut.tab9 laws_FnBridgeCut.bits9 (fun HT_ HW_ => ?_)
 generalize w50.drew = w51 at HO_6 HO_101001 HO134 BK114 BK135 HB hHeld ⊢
 have hj0_ : 0 ≤ (ji33 : Int) := of_decide_eq_true qa
 have hj1_ : ji33 < (t101.length : Int) := of_decide_eq_true qa
 have hjc_ : t101.length ≤ co42 := (Kd.R_reads' HO_6.out).2.1
 have hjw_ : wrap64 (ji33 + 1) = ji33 + 1 := by
   have hjm_ := (Kd.R_reads' HO_6.out).2.2.2.1
   unfold wrap64; omega
 have hjn_ : (ji33 + 1).toNat = ji33.toNat + 1 := by omega
 have hjt_ : (t101.take (ji33).toNat).length = (ji33).toNat := by rw [List.length_take]; omega
 obtain ⟨A9_, hA9_⟩ : ∃ A : Option Addr, A = (if co42 = ji33.toNat + 1 then some ad131 else some (ad131.add ((ji33.toNat + 1) * 2))) := ⟨_, rfl⟩
 have hrd_ : ∀ w : World, Kd.C kTie w (some ad131) t101.length t101 → Kd.C kTie w A9_ (t101.drop (ji33.toNat + 1)).length (t101.drop (ji33.toNat + 1)) := fun w h_ => by rw [hA9_]; exact reads_hi h_ co42 (ji33.toNat + 1) 2 rfl hjc_
 refine pU 0 56 17 1 HT_ ?_
 refine pU 1 57 17 3 HT_ ?_
 refine pU 5 61 17 35 HT_ ?_
 refine pU 6 62 17 99 HT_ ?_
 refine pU 7 63 17 227 HT_ ?_ (v := .slice (some ad131) (t101.take (ji33).toNat).length co42) (hy := Or.inl ⟨by rfl, fun w' => by rw [hjt_]; go_simp; intro h_; omega⟩)
 refine pU 9 65 17 739 HT_ ?_
 refine pU 10 66 17 1763 HT_ ?_
 refine pU 11 67 17 3811 HT_ ?_
 refine pU 12 68 17 7907 HT_ ?_ (v := .slice A9_ (t101.drop (ji33.toNat + 1)).length (co42 - (ji33.toNat + 1))) (hy := Or.inl ⟨by rfl, fun w' => by go_simp; intro h_; have h1_ := h_ (by omega); omega⟩)
 refine tU 2 58 17 7911 HT_ HW_ hHeld ?_
 refine join_ (σ := Value × Value) 5 (ba 17 7935) (fun s_ => [(59, s_.1), (60, s_.2)]) (fun s_ w' => (w'.cell? ⟨gb135, 0, none⟩ = some (.int .i64 t106) ∧ w'.cell? ⟨gb135, 1, none⟩ = some (.slice Ao48 t125.length co48)) ∧ (Kd.R kTie 32 w' w.heap.size (fun k_ => some k_ ≠ (s_.1 : Value).ownBlock ∧ some k_ ≠ (s_.2 : Value).ownBlock ∧ some k_ ≠ (.slice Ao12 t111.length co12 : Value).ownBlock ∧ some k_ ≠ (.slice (some ad131) t101.length co42 : Value).ownBlock) (.slice Ao48 t125.length co48) t125) ∧ (Kd.R kTie 32 w' w.heap.size (fun k_ => some k_ ≠ (.slice Ao48 t125.length co48 : Value).ownBlock ∧ some k_ ≠ (s_.2 : Value).ownBlock ∧ some k_ ≠ (.slice Ao12 t111.length co12 : Value).ownBlock ∧ some k_ ≠ (.slice (some ad131) t101.length co42 : Value).ownBlock) s_.1 t107) ∧ (Kd.R kTie 32 w' w.heap.size (fun k_ => some k_ ≠ (.slice Ao48 t125.length co48 : Value).ownBlock ∧ some k_ ≠ (s_.1 : Value).ownBlock ∧ some k_ ≠ (.slice Ao12 t111.length co12 : Value).ownBlock ∧ some k_ ≠ (.slice (some ad131) t101.length co42 : Value).ownBlock) s_.2 y108) ∧ (Kd.R kTie 32 w' w.heap.size (fun k_ => some k_ ≠ (.slice Ao48 t125.length co48 : Value).ownBlock ∧ some k_ ≠ (s_.1 : Value).ownBlock ∧ some k_ ≠ (s_.2 : Value).ownBlock ∧ some k_ ≠ (.slice (some ad131) t101.length co42 : Value).ownBlock) (.slice Ao12 t111.length co12) t111) ∧ (Kd.R kTie 32 w' w.heap.size (fun k_ => some k_ ≠ (.slice Ao48 t125.length co48 : Value).ownBlock ∧ some k_ ≠ (s_.1 : Value).ownBlock ∧ some k_ ≠ (s_.2 : Value).ownBlock ∧ some k_ ≠ (.slice Ao12 t111.length co12 : Value).ownBlock) (.slice (some ad131) t101.length co42) t101) ∧ (w'.heap[gb114]? = some (.cells #[.int .i64 t100, .slice Ao12 t111.length co12] 25 (0, 0))) ∧ (w'.heap[gb135]? = some (.cells #[.int .i64 t106, .slice Ao48 t125.length co48] 25 (0, 0))) ∧ (Below w.heap.size w w')) ?_ ?_
 rotate_left
 · intro hCont
   refine two_ (i := 3) (j := 4) (Ni := some 59) (Nj := some 60) (ba 17 7919) (ba 17 7927) rfl rfl rfl rfl (two_of HT_.out (by kernel_rfl)) (by decide) (by decide) (fun K hK => ?_) (fun K hK => ?_)
   · skip
     refine goes_ Try.func5 (by kernel_rfl) rfl #[.agg #[.int .i64 t106, .slice Ao48 t125.length co48]] (by rfl) rfl rfl qm ?_
     with_reducible refine (impl_BridgeList.calls kj7 t106 _ _ t125 t107 _ ?side1 ?side2 A38.out).mono ?_
     (case side1 => exact qc (Kd.R_reads' HO134.out).2.2)
     (case side2 => exact (Kd.R_reads' HO134.out).2.1)
     rintro e w52 ⟨v136, rfl, ho0, hb⟩
     refine ⟨_, rfl, ?_⟩
     have HO137 := q0 (Kd.R_lower (Kd.R_new' (Kd.R_new' (Kd.R_new' ho0 (Kd.R_lt (qr HO_6.out))) (Kd.R_lt (qr HO_101001.out))) (Kd.R_lt (qr HO134.out))) (below_size (qb HB.out)))
     replace HO_6 := q0 (Kd.R_elder' (qr HO_6.out) (Kd.R_base ho0) hb)
     replace HO_101001 := q0 (Kd.R_elder' (qr HO_101001.out) (Kd.R_base ho0) hb)
     replace HO134 := q0 (Kd.R_elder' (qr HO134.out) (Kd.R_base ho0) hb)
     replace BK114 := kd BK114 hb
     replace BK135 := kd BK135 hb
     replace HB := bp HB hb
     (try clear hb)
     (try clear hb2)
     (try clear hk)
     (try clear hi)
     (try clear ho0)
     refine hK.out _ _ ⟨bca BK135, bcb BK135⟩ (fun hHeld => ?_)
     clear hK K
     refine nu 59 ?_
     refine one_ (i := 4) (N := some 60) (ba 17 7935) rfl rfl (one_of HT_.out (by kernel_rfl)) (by decide) (fun K hK => ?_)
     refine Kd.R_lit_step kTie _ 32 ?hg (N := 60) ?hd (xs := ([] : List (STie))) (inner := []) (ok := fun _ => True) (okp := fun _ => True) ?hr ?hp (fun _ hk => hk) trivial (Below.refl _ _) (Nat.le_refl _) (by simp) ?_; (case hd => rfl); (case hg => rfl); (case hr => first | (go_simp; done) | (go_simp; rfl)); (case hp => exact (Reps.none _ _))
     intro v138 w53 ho54 hb hg_ hnew_
     clear hg_ hnew_
     (first | rw [← Ny108.out] at ho54 | (simp only [Int.reduceToNat] at ho54; rw [← Ny108.out] at ho54))
     have HO139 := q0 (Kd.R_lower (Kd.R_new' (Kd.R_new' (Kd.R_new' (Kd.R_new' ho54 (Kd.R_lt (qr HO_6.out))) (Kd.R_lt (qr HO_101001.out))) (Kd.R_lt (qr HO134.out))) (Kd.R_lt (qr HO137.out))) (below_size (qb HB.out)))
     replace HO_6 := q0 (Kd.R_elder' (qr HO_6.out) (Kd.R_base ho54) hb)
     replace HO_101001 := q0 (Kd.R_elder' (qr HO_101001.out) (Kd.R_base ho54) hb)
     replace HO134 := q0 (Kd.R_elder' (qr HO134.out) (Kd.R_base ho54) hb)
     replace HO137 := q0 (Kd.R_elder' (qr HO137.out) (Kd.R_base ho54) hb)
     replace BK114 := kd BK114 hb
     replace BK135 := kd BK135 hb
     replace HB := bp HB hb
     clear hb ho54
     refine hK.out _ _ ⟨bca BK135, bcb BK135⟩ (fun hHeld => ?_)
     clear hK K
     refine nu 60 ?_
     exact norm_ (by simp only [putAll, Act.put, List.setIfInBounds_toArray, List.set_cons_zero, List.set_cons_succ]) (hCont (v136, v138) _ ⟨hHeld, (by (with_reducible repeat (first | apply Kd.R_alloc | apply Kd.R_drewN | apply Kd.R_drew)); exact Kd.R_mono HO134.out (fun _ hk => ⟨hk.1.2, ⟨hk.2, ⟨hk.1.1.2, hk.1.1.1⟩⟩⟩)), (by (with_reducible repeat (first | apply Kd.R_alloc | apply Kd.R_drewN | apply Kd.R_drew)); exact Kd.R_mono HO137.out (fun _ hk => ⟨hk.1.2, ⟨hk.2, ⟨hk.1.1.2, hk.1.1.1.2⟩⟩⟩)), (by (with_reducible repeat (first | apply Kd.R_alloc | apply Kd.R_drewN | apply Kd.R_drew)); exact Kd.R_mono HO139.out (fun _ hk => ⟨hk.1.2, ⟨hk.2, ⟨hk.1.1.2, hk.1.1.1.2⟩⟩⟩)), (by (with_reducible repeat (first | apply Kd.R_alloc | apply Kd.R_drewN | apply Kd.R_drew)); exact Kd.R_mono HO_101001.out (fun _ hk => ⟨hk.1.1.2, ⟨hk.1.2, ⟨hk.2, hk.1.1.1⟩⟩⟩)), (by (with_reducible repeat (first | apply Kd.R_alloc | apply Kd.R_drewN | apply Kd.R_drew)); exact Kd.R_mono HO_6.out (fun _ hk => ⟨hk.1.1.2, ⟨hk.1.2, ⟨hk.2, hk.1.1.1⟩⟩⟩)), (qk BK114.out), (qk BK135.out), (qb HB.out)⟩)
   · skip
     refine Kd.R_lit_step kTie _ 32 ?hg (N := 60) ?hd (xs := ([] : List (STie))) (inner := []) (ok := fun _ => True) (okp := fun _ => True) ?hr ?hp (fun _ hk => hk) trivial (Below.refl _ _) (Nat.le_refl _) (by simp) ?_; (case hd => rfl); (case hg => rfl); (case hr => first | (go_simp; done) | (go_simp; rfl)); (case hp => exact (Reps.none _ _))
     intro v138 w52 ho53 hb hg_ hnew_
     clear hg_ hnew_
     (first | rw [← Ny108.out] at ho53 | (simp only [Int.reduceToNat] at ho53; rw [← Ny108.out] at ho53))
     have HO139 := q0 (Kd.R_lower (Kd.R_new' (Kd.R_new' (Kd.R_new' ho53 (Kd.R_lt (qr HO_6.out))) (Kd.R_lt (qr HO_101001.out))) (Kd.R_lt (qr HO134.out))) (below_size (qb HB.out)))
     replace HO_6 := q0 (Kd.R_elder' (qr HO_6.out) (Kd.R_base ho53) hb)
     replace HO_101001 := q0 (Kd.R_elder' (qr HO_101001.out) (Kd.R_base ho53) hb)
     replace HO134 := q0 (Kd.R_elder' (qr HO134.out) (Kd.R_base ho53) hb)
     replace BK114 := kd BK114 hb
     replace BK135 := kd BK135 hb
     replace HB := bp HB hb
     clear hb ho53
     refine hK.out _ _ ⟨bca BK135, bcb BK135⟩ (fun hHeld => ?_)
     clear hK K
     refine nu 60 ?_
     refine one_ (i := 3) (N := some 59) (ba 17 7935) rfl rfl (one_of HT_.out (by kernel_rfl)) (by decide) (fun K hK => ?_)
     refine goes_ Try.func5 (by kernel_rfl) rfl #[.agg #[.int .i64 t106, .slice Ao48 t125.length co48]] (by rfl) rfl rfl qm ?_
     with_reducible refine (impl_BridgeList.calls kj7 t106 _ _ t125 t107 _ ?side1 ?side2 A38.out).mono ?_
     (case side1 => exact qc (Kd.R_reads' HO134.out).2.2)
     (case side2 => exact (Kd.R_reads' HO134.out).2.1)
     rintro e w54 ⟨v136, rfl, ho0, hb⟩
     refine ⟨_, rfl, ?_⟩
     have HO137 := q0 (Kd.R_lower (Kd.R_new' (Kd.R_new' (Kd.R_new' (Kd.R_new' ho0 (Kd.R_lt (qr HO_6.out))) (Kd.R_lt (qr HO_101001.out))) (Kd.R_lt (qr HO134.out))) (Kd.R_lt (qr HO139.out))) (below_size (qb HB.out)))
     replace HO_6 := q0 (Kd.R_elder' (qr HO_6.out) (Kd.R_base ho0) hb)
     replace HO_101001 := q0 (Kd.R_elder' (qr HO_101001.out) (Kd.R_base ho0) hb)
     replace HO134 := q0 (Kd.R_elder' (qr HO134.out) (Kd.R_base ho0) hb)
     replace HO139 := q0 (Kd.R_elder' (qr HO139.out) (Kd.R_base ho0) hb)
     replace BK114 := kd BK114 hb
     replace BK135 := kd BK135 hb
     replace HB := bp HB hb
     (try clear hb)
     (try clear hb2)
     (try clear hk)
     (try clear hi)
     (try clear ho0)
     refine hK.out _ _ ⟨bca BK135, bcb BK135⟩ (fun hHeld => ?_)
     clear hK K
     refine nu 59 ?_
     exact norm_ (by simp only [putAll, Act.put, List.setIfInBounds_toArray, List.set_cons_zero, List.set_cons_succ]) (hCont (v136, v138) _ ⟨hHeld, (by (with_reducible repeat (first | apply Kd.R_alloc | apply Kd.R_drewN | apply Kd.R_drew)); exact Kd.R_mono HO134.out (fun _ hk => ⟨hk.2, ⟨hk.1.2, ⟨hk.1.1.2, hk.1.1.1⟩⟩⟩)), (by (with_reducible repeat (first | apply Kd.R_alloc | apply Kd.R_drewN | apply Kd.R_drew)); exact Kd.R_mono HO137.out (fun _ hk => ⟨hk.1.2, ⟨hk.2, ⟨hk.1.1.2, hk.1.1.1.2⟩⟩⟩)), (by (with_reducible repeat (first | apply Kd.R_alloc | apply Kd.R_drewN | apply Kd.R_drew)); exact Kd.R_mono HO139.out (fun _ hk => ⟨hk.1.2, ⟨hk.2, ⟨hk.1.1.2, hk.1.1.1.2⟩⟩⟩)), (by (with_reducible repeat (first | apply Kd.R_alloc | apply Kd.R_drewN | apply Kd.R_drew)); exact Kd.R_mono HO_101001.out (fun _ hk => ⟨hk.1.1.2, ⟨hk.2, ⟨hk.1.2, hk.1.1.1⟩⟩⟩)), (by (with_reducible repeat (first | apply Kd.R_alloc | apply Kd.R_drewN | apply Kd.R_drew)); exact Kd.R_mono HO_6.out (fun _ hk => ⟨hk.1.1.2, ⟨hk.2, ⟨hk.1.2, hk.1.1.1⟩⟩⟩)), (qk BK114.out), (qk BK135.out), (qb HB.out)⟩)
 rintro ⟨v136, v138⟩ w55 ⟨hS_, h0_, h1_, h2_, h3_, h4_, h5_, h6_, h7_⟩
 have n0_ : Aside0 (Kd.R kTie 32 w55 w.heap.size (fun k_ => some k_ ≠ (v136 : Value).ownBlock ∧ some k_ ≠ (v138 : Value).ownBlock ∧ some k_ ≠ (.slice Ao12 t111.length co12 : Value).ownBlock ∧ some k_ ≠ (.slice (some ad131) t101.length co42 : Value).ownBlock) (.slice Ao48 t125.length co48) t125) := ⟨h0_⟩
 have n1_ : Aside0 (Kd.R kTie 32 w55 w.heap.size (fun k_ => some k_ ≠ (.slice Ao48 t125.length co48 : Value).ownBlock ∧ some k_ ≠ (v138 : Value).ownBlock ∧ some k_ ≠ (.slice Ao12 t111.length co12 : Value).ownBlock ∧ some k_ ≠ (.slice (some ad131) t101.length co42 : Value).ownBlock) v136 t107) := ⟨h1_⟩
 have n2_ : Aside0 (Kd.R kTie 32 w55 w.heap.size (fun k_ => some k_ ≠ (.slice Ao48 t125.length co48 : Value).ownBlock ∧ some k_ ≠ (v136 : Value).ownBlock ∧ some k_ ≠ (.slice Ao12 t111.length co12 : Value).ownBlock ∧ some k_ ≠ (.slice (some ad131) t101.length co42 : Value).ownBlock) v138 y108) := ⟨h2_⟩
 have n3_ : Aside0 (Kd.R kTie 32 w55 w.heap.size (fun k_ => some k_ ≠ (.slice Ao48 t125.length co48 : Value).ownBlock ∧ some k_ ≠ (v136 : Value).ownBlock ∧ some k_ ≠ (v138 : Value).ownBlock ∧ some k_ ≠ (.slice (some ad131) t101.length co42 : Value).ownBlock) (.slice Ao12 t111.length co12) t111) := ⟨h3_⟩
 have n4_ : Aside0 (Kd.R kTie 32 w55 w.heap.size (fun k_ => some k_ ≠ (.slice Ao48 t125.length co48 : Value).ownBlock ∧ some k_ ≠ (v136 : Value).ownBlock ∧ some k_ ≠ (v138 : Value).ownBlock ∧ some k_ ≠ (.slice Ao12 t111.length co12 : Value).ownBlock) (.slice (some ad131) t101.length co42) t101) := ⟨h4_⟩
 have n5_ : Aside0 (w55.heap[gb114]? = some (.cells #[.int .i64 t100, .slice Ao12 t111.length co12] 25 (0, 0))) := ⟨h5_⟩
 have n6_ : Aside0 (w55.heap[gb135]? = some (.cells #[.int .i64 t106, .slice Ao48 t125.length co48] 25 (0, 0))) := ⟨h6_⟩
 have n7_ : Aside0 (Below w.heap.size w w55) := ⟨h7_⟩
 clear HO_6
 clear HO_101001
 clear HO134
 clear BK114
 clear BK135
 clear HB
 clear h0_ h1_ h2_ h3_ h4_ h5_ h6_ h7_
 have HO134 := n0_
 have HO137 := n1_
 have HO139 := n2_
 have HO_101001 := n3_
 have HO_6 := n4_
 have BK114 := n5_
 have BK135 := n6_
 have HB := n7_
 clear n0_ n1_ n2_ n3_ n4_ n5_ n6_ n7_
 have hHeld : w55.cell? ⟨gb135, 0, none⟩ = some (.int .i64 t106) ∧ w55.cell? ⟨gb135, 1, none⟩ = some (.slice Ao48 t125.length co48) := hS_
 refine norm_ (a' := ?_) ?_ ?_
 rotate_left
 · simp only [putAll, Act.put, List.setIfInBounds_toArray, List.set_cons_zero, List.set_cons_succ]
   rfl
 refine one_ (i := 8) (N := some 64) (ba 17 8191) rfl rfl (one_of HT_.out (by kernel_rfl)) (by decide) (fun K hK => ?_)
 refine Kd.R_append_rows_step kTie (w0 := w) w.heap.size (by rfl) (.tmp 60) (.tmp 63) 23 32 (.agg #[(.int .i64 0), (.int .i64 0)]) 16 rfl Try.underlying23 info32 rfl (by decide) (by omega) v138 y108 (t101.take (ji33).toNat) _ _ _ (fun k_ => some k_ ≠ (.slice (some ad131) t101.length co42 : Value).ownBlock ∧ some k_ ≠ (.slice Ao12 t111.length co12 : Value).ownBlock ∧ some k_ ≠ (.slice Ao48 t125.length co48 : Value).ownBlock ∧ some k_ ≠ (v136 : Value).ownBlock) (fun _ => False) rfl rfl ?aO ?aR (fun _ _ h => h) (fun _ h => h.elim) ?aF ?aB ?aS ?aL ?_
 (case aR => repeat (first | exact reads_lo (Kd.R_reads' HO_6.out).2.2 _ | (with_reducible refine Kd.C_alloc ?_ _) | (with_reducible refine Kd.C_drewN ?_ _) | (with_reducible refine Kd.C_drew ?_)))
 (case aB => exact (qb HB.out))
 (case aF => exact (fun k_ hk => ⟨Kd.fresh' (Kd.R_lt (qr HO_6.out)) k_ hk, Kd.fresh' (Kd.R_lt (qr HO_101001.out)) k_ hk, Kd.fresh' (Kd.R_lt (qr HO134.out)) k_ hk, Kd.fresh' (Kd.R_lt (qr HO137.out)) k_ hk⟩))
 (case aO => exact (by (with_reducible repeat (first | apply Kd.R_alloc | apply Kd.R_drewN | apply Kd.R_drew)); exact Kd.R_mono HO139.out (fun _ hk => ⟨hk.2.2.2, ⟨hk.2.2.1, ⟨hk.1, hk.2.1⟩⟩⟩)))
 (case aS => exact (below_size (qb HB.out)))
 (case aL => have := LMc39.out; have h_ := List.length_take (i := (ji33).toNat) (l := t101); omega)
 intro v140 w56 ho hb hg hat
 rw [← Ny109.out] at ho
 replace HO_6 := q0 (Kd.R_after (ok := (fun k_ => some k_ ≠ (.slice Ao12 t111.length co12 : Value).ownBlock ∧ some k_ ≠ (.slice Ao48 t125.length co48 : Value).ownBlock ∧ some k_ ≠ (v136 : Value).ownBlock)) (by (with_reducible repeat (first | apply Kd.R_alloc | apply Kd.R_drewN | apply Kd.R_drew)); exact Kd.R_mono HO_6.out (fun _ hk => ⟨⟨hk.2.2.2, ⟨hk.1, hk.2.1⟩⟩, hk.2.2.1⟩)) hg hat)
 replace HO_101001 := q0 (Kd.R_after (ok := (fun k_ => some k_ ≠ (.slice (some ad131) t101.length co42 : Value).ownBlock ∧ some k_ ≠ (.slice Ao48 t125.length co48 : Value).ownBlock ∧ some k_ ≠ (v136 : Value).ownBlock)) (by (with_reducible repeat (first | apply Kd.R_alloc | apply Kd.R_drewN | apply Kd.R_drew)); exact Kd.R_mono HO_101001.out (fun _ hk => ⟨⟨hk.2.2.2, ⟨hk.1, hk.2.1⟩⟩, hk.2.2.1⟩)) hg hat)
 replace BK114 := q0 (blk_grown (g := gb114) (o := .cells #[.int .i64 t100, .slice Ao12 t111.length co12] 25 (0, 0)) (qk BK114.out) hg (Kd.R_ne HO139.out BK114.out (by decide)))
 replace HO134 := q0 (Kd.R_after (ok := (fun k_ => some k_ ≠ (.slice (some ad131) t101.length co42 : Value).ownBlock ∧ some k_ ≠ (.slice Ao12 t111.length co12 : Value).ownBlock ∧ some k_ ≠ (v136 : Value).ownBlock)) (by (with_reducible repeat (first | apply Kd.R_alloc | apply Kd.R_drewN | apply Kd.R_drew)); exact Kd.R_mono HO134.out (fun _ hk => ⟨⟨hk.2.2.2, ⟨hk.2.2.1, hk.1⟩⟩, hk.2.1⟩)) hg hat)
 replace BK135 := q0 (blk_grown (g := gb135) (o := .cells #[.int .i64 t106, .slice Ao48 t125.length co48] 25 (0, 0)) (qk BK135.out) hg (Kd.R_ne HO139.out BK135.out (by decide)))
 replace HO137 := q0 (Kd.R_after (ok := (fun k_ => some k_ ≠ (.slice (some ad131) t101.length co42 : Value).ownBlock ∧ some k_ ≠ (.slice Ao12 t111.length co12 : Value).ownBlock ∧ some k_ ≠ (.slice Ao48 t125.length co48 : Value).ownBlock)) (by (with_reducible repeat (first | apply Kd.R_alloc | apply Kd.R_drewN | apply Kd.R_drew)); exact Kd.R_mono HO137.out (fun _ hk => ⟨⟨hk.2.2.2, ⟨hk.2.2.1, hk.1⟩⟩, hk.2.1⟩)) hg hat)
 replace HB := q0 (hb)
 have HO141 := q0 (ho)
 clear HO139
 clear ho hb hg hat
 refine hK.out _ _ ⟨bca BK135, bcb BK135⟩ (fun hHeld => ?_)
 clear hK K
 refine nu 64 ?_
 refine one_ (i := 13) (N := some 69) (ba 17 16383) rfl rfl (one_of HT_.out (by kernel_rfl)) (by decide) (fun K hK => ?_)
 refine Kd.R_append_rows_step kTie (w0 := w) w.heap.size (by rfl) (.tmp 64) (.tmp 68) 23 32 (.agg #[(.int .i64 0), (.int .i64 0)]) 16 rfl Try.underlying23 info32 rfl (by decide) (by omega) v140 y109 (t101.drop ((ji33).toNat + 1)) _ _ _ (fun k_ => some k_ ≠ (.slice (some ad131) t101.length co42 : Value).ownBlock ∧ some k_ ≠ (.slice Ao12 t111.length co12 : Value).ownBlock ∧ some k_ ≠ (.slice Ao48 t125.length co48 : Value).ownBlock ∧ some k_ ≠ (v136 : Value).ownBlock) (fun _ => False) rfl rfl ?aO ?aR (fun _ _ h => h) (fun _ h => h.elim) ?aF ?aB ?aS ?aL ?_
 (case aR => repeat (first | exact hrd_ _ (Kd.R_reads' HO_6.out).2.2 | (with_reducible refine Kd.C_alloc ?_ _) | (with_reducible refine Kd.C_drewN ?_ _) | (with_reducible refine Kd.C_drew ?_)))
 (case aB => exact (qb HB.out))
 (case aF => exact (fun k_ hk => ⟨Kd.fresh' (Kd.R_lt (qr HO_6.out)) k_ hk, Kd.fresh' (Kd.R_lt (qr HO_101001.out)) k_ hk, Kd.fresh' (Kd.R_lt (qr HO134.out)) k_ hk, Kd.fresh' (Kd.R_lt (qr HO137.out)) k_ hk⟩))
 (case aO => exact (qr HO141.out))
 (case aS => exact (below_size (qb HB.out)))
 (case aL => have := LMc40.out; have h_ := List.length_drop (i := (ji33).toNat + 1) (l := t101); omega)
 intro v142 w57 ho hb hg hat
 rw [← Ny129.out] at ho
 replace HO_6 := q0 (Kd.R_after (ok := (fun k_ => some k_ ≠ (.slice Ao12 t111.length co12 : Value).ownBlock ∧ some k_ ≠ (.slice Ao48 t125.length co48 : Value).ownBlock ∧ some k_ ≠ (v136 : Value).ownBlock)) (qr HO_6.out) hg hat)
 replace HO_101001 := q0 (Kd.R_after (ok := (fun k_ => some k_ ≠ (.slice (some ad131) t101.length co42 : Value).ownBlock ∧ some k_ ≠ (.slice Ao48 t125.length co48 : Value).ownBlock ∧ some k_ ≠ (v136 : Value).ownBlock)) (qr HO_101001.out) hg hat)
 replace BK114 := q0 (blk_grown (g := gb114) (o := .cells #[.int .i64 t100, .slice Ao12 t111.length co12] 25 (0, 0)) (qk BK114.out) hg (Kd.R_ne HO141.out BK114.out (by decide)))
 replace HO134 := q0 (Kd.R_after (ok := (fun k_ => some k_ ≠ (.slice (some ad131) t101.length co42 : Value).ownBlock ∧ some k_ ≠ (.slice Ao12 t111.length co12 : Value).ownBlock ∧ some k_ ≠ (v136 : Value).ownBlock)) (qr HO134.out) hg hat)
 replace BK135 := q0 (blk_grown (g := gb135) (o := .cells #[.int .i64 t106, .slice Ao48 t125.length co48] 25 (0, 0)) (qk BK135.out) hg (Kd.R_ne HO141.out BK135.out (by decide)))
 replace HO137 := q0 (Kd.R_after (ok := (fun k_ => some k_ ≠ (.slice (some ad131) t101.length co42 : Value).ownBlock ∧ some k_ ≠ (.slice Ao12 t111.length co12 : Value).ownBlock ∧ some k_ ≠ (.slice Ao48 t125.length co48 : Value).ownBlock)) (qr HO137.out) hg hat)
 replace HB := q0 (hb)
 have HO143 := q0 (ho)
 clear HO141
 clear ho hb hg hat
 obtain ⟨Ao58, co58, eo58⟩ := Kd.R_slice HO137.out
 (first | subst eo58 | (injection eo58 with f1_ f2_ f3_; have f4_ := f1_.symm; have f5_ := f3_.symm; clear f1_ f2_ f3_; subst f4_; subst f5_))
 obtain ⟨Ao59, co59, eo59⟩ := Kd.R_slice HO143.out
 (first | subst eo59 | (injection eo59 with f1_ f2_ f3_; have f4_ := f1_.symm; have f5_ := f3_.symm; clear f1_ f2_ f3_; subst f4_; subst f5_))
 refine hK.out _ _ ⟨bca BK135, bcb BK135⟩ (fun hHeld => ?_)
 clear hK K
 refine nu 69 ?_
 refine one_ (i := 14) (N := some 70) (ba 17 32767) rfl rfl (one_of HT_.out (by kernel_rfl)) (by decide) (fun K hK => ?_)
 refine goes_ Try.func6 (by kernel_rfl) rfl #[.slice Ao58 t107.length co58, .slice Ao59 y129.length co59] (by rfl) rfl rfl qm ?_
 with_reducible refine (laws_loTies.calls kj7 _ _ t107 _ _ y129 t110 _ ?side1 ?side2 ?side3 ?side4 A41.out).mono ?_
 (case side1 => exact qc (Kd.R_reads' HO137.out).2.2)
 (case side2 => exact (Kd.R_reads' HO137.out).2.1)
 (case side3 => exact qc (Kd.R_reads' HO143.out).2.2)
 (case side4 => exact (Kd.R_reads' HO143.out).2.1)
 rintro e w' ⟨rfl, ⟨nd, rfl⟩⟩
 refine ⟨_, rfl, ?_⟩
 refine hK.out _ _ ⟨bca BK135, bcb BK135⟩ (fun hHeld => ?_)
 clear hK K
 refine nu 70 ?_
 refine pU 15 71 17 65535 HT_ ?_
 refine pU 16 4 17 131071 HT_ ?_
 refine done_ (done_of HT_.out (by kernel_rfl)) ?_
 try go_wp2
 go_ret
 exact ⟨by first | rfl | (simp [errW_none, errW_some] <;> rfl) | (simp only [← hji33]; first | rfl | (simp [errW_none, errW_some] <;> rfl)) | (simp [*, errW_none, errW_some] <;> rfl), qb HB.out⟩

theorem laws_FnBridgeCut.walk (P : laws_FnBridgeCut.Pure) (a0 : Option Addr) (len0 cap0 : Nat) (z0 : List Int) (a1 : Option Addr) (len1 cap1 : Nat) (z1 : List Int) (w : World) (w0 : (a0 = none ∧ len0 = 0 ∧ cap0 = 0 ∧ z0 = []) ∨ ∃ x, a0 = some x ∧ len0 ≤ cap0 ∧ cap0 ≤ maxLen ∧ z0.length = cap0 ∧ (∀ i, i < z0.length → w.cell? (x.add i) = some (.int .u8 (z0.getD i 0))) ∧ ∀ n ∈ z0, (Lit.int .u8 n).wf = true) (y0 : len0 * 1 ≤ 140737488351232) (w1 : (a1 = none ∧ len1 = 0 ∧ cap1 = 0 ∧ z1 = []) ∨ ∃ x, a1 = some x ∧ len1 ≤ cap1 ∧ cap1 ≤ maxLen ∧ z1.length = cap1 ∧ (∀ i, i < z1.length → w.cell? (x.add i) = some (.int .u8 (z1.getD i 0))) ∧ ∀ n ∈ z1, (Lit.int .u8 n).wf = true) (y1 : len1 * 1 ≤ 140737488351232) :
    Calls Try.prog 3 #[.slice a0 len0 cap0, .slice a1 len1 cap1] w fun e w' => e = .returned (.bool true) ∧ Below w.heap.size w w' := by
  obtain ⟨l0, rfl, hr0, hm0, hw0, hc0⟩ := ReadsInt.ofRowC w0
  obtain ⟨l1, rfl, hr1, hm1, hw1, hc1⟩ := ReadsInt.ofRowC w1
  obtain ⟨k, h⟩ := P l0 l1 hm0 y0 hw0 hm1 y1 hw1
  refine (laws_FnBridgeCut.calls k _ _ l0 _ _ l1 true w (Kd.C_of_reads (d := (0 : Int)) (h1 := fun _ => rfl) hr0) hc0 (Kd.C_of_reads (d := (0 : Int)) (h1 := fun _ => rfl) hr1) hc1 h).mono ?_
  rintro e w' ⟨rfl, hd⟩
  exact ⟨rfl, hd⟩
end Go.Proofs.Ytleibnekeioamaa.P
