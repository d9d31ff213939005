import Derived.Test.YtgoembpmhlmafaaP0
import Derived.Test.YtgoembpmhlmafaaP1
namespace Go.Proofs.Ytgoembpmhlmafaa.P
open Go.RowKit Go.Proofs.YtgoembpmhlmafaaW.PrintWords Go.Proofs.YtgoembpmhlmafaaW.PrintLast Go.Proofs.YtgoembpmhlmafaaW.PrintMore
attribute [local go_sem] max2_int min2_int max_two min_two max_three min_three max_four min_four
set_option linter.unusedVariables false
set_option linter.unusedSimpArgs false
attribute [local go_sem high] eqATie
attribute [local go_sem high] eqATie
def spec_NetCut.T7 : Bool × List (List Nat × List Nat) := (true, [([], []), ([0], [0]), ([], []), ([1, 2], [1, 2]), ([3], [3]), ([], []), ([], []), ([5, 6], [5, 6]), ([4, 7], [4, 7])])
def spec_NetCut.B7 : List Nat := [0, 1, 0, 7, 15, 0, 0, 96, 255]
theorem spec_NetCut.tab7 : rtab .any (opsOf Try.f40 7) = spec_NetCut.T7 := by kernel_rfl
theorem spec_NetCut.bits7 : waitsOk spec_NetCut.T7.2 spec_NetCut.B7 = true := by kernel_rfl
def spec_NetCut.T8 : Bool × List (List Nat × List Nat) := (true, [([], []), ([0], [0]), ([], []), ([2], [2]), ([], []), ([3, 4], [3, 4]), ([5], [5]), ([6], [6]), ([1, 7], [1, 7]), ([0, 1, 2, 3, 4, 5, 6, 7, 8], []), ([9, 8, 8, 0, 1, 2, 3, 4, 5, 6, 7, 8], [8, 9])])
def spec_NetCut.B8 : List Nat := [0, 1, 0, 4, 0, 28, 60, 124, 255, 511, 1023]
theorem spec_NetCut.tab8 : rtab .any (opsOf Try.f40 8) = spec_NetCut.T8 := by kernel_rfl
theorem spec_NetCut.bits8 : waitsOk spec_NetCut.T8.2 spec_NetCut.B8 = true := by kernel_rfl
set_option maxHeartbeats 8000000 in
set_option maxRecDepth 100000 in
theorem spec_NetCut.calls (k : Nat) (a0_0 : Int) (A0_1 : Option Addr) (c0_1 : Nat) (l0_1 : List (STie)) (a1 : Int) (a2 : Int) (r1 : Int) (r2 : List (STie)) (r3 : Bool) (w : World) (hr0_1 : Kd.C kTie w A0_1 l0_1.length l0_1) (hc0_1 : l0_1.length ≤ c0_1) (h : spec_NetCut.f k a0_0 l0_1 a1 a2 = some (r1, r2, r3)) :
    Calls Try.prog 40 #[.agg #[.int .i64 a0_0, .slice A0_1 l0_1.length c0_1], .int .i64 a1, .int .i64 a2] w fun e w' => ∃ v1_ : Value, e = .returned (.tuple #[.agg #[.int .i64 r1, v1_], .bool r3]) ∧ Kd.R kTie 32 w' w.heap.size (fun _ => True) v1_ r2 ∧ Below w.heap.size w w' := by
 have hu25 := Try.underlying25
 have hu32 := Try.underlying32
 have HR0_1 := Aside0.mk hr0_1
 have HC0_1 := Aside0.mk hc0_1
 clear hr0_1 hc0_1
 have HB := q0 (Below.refl w.heap.size w)
 have H : ((spec_NetHas.f k a0_0 l0_1 a1 a2).bind fun t103 => (if t103 = true then (spec_NetCut.l0 k a1 a2 0 a0_0 l0_1 a0_0 ([] : List (STie))) else (some (0, ([] : List (STie)), false)))) = some (r1, r2, r3) := h
 clear h
 replace H := Option.bind_eq_some_iff.mp H
 obtain ⟨t103, A40, H⟩ := H
 have A4 := Aside0.mk A40
 clear A40
 by_cases c5 : t103 = true
 rotate_left
 · replace c5 := Bool.eq_false_iff.mpr c5
   subst c5
   rw [if_neg nf] at H
   simp only [Option.some.injEq, Prod.mk.injEq] at H
   obtain ⟨rfl, rfl, rfl⟩ := H
   go_enter Try.func40, Try.ntmps40
   go_wp2_with (first | ((with_reducible refine gate_dst (N := 3) rfl ?_); refine be 3 #[.int .i64 a0_0, .slice A0_1 l0_1.length c0_1] 25 ?_; intro gb104 hg w42 hbox hb; have BK104 := q0 (hbox); have GW104 := q0 ((bs HB.out hg : w.heap.size ≤ gb104)); have GE104 := q0 ((bs HB.out hg : w.heap.size ≤ gb104)); replace HB := q0 (below_step (qb HB.out) hb); clear hb hbox hg) | ((with_reducible refine gate_dst (N := 6) rfl ?_); refine be 6 #[.int .i64 0, .slice none 0 0] 25 ?_; intro gb100 hg w43 hbox hb; have BK100 := q0 (hbox); have GW100 := q0 ((bs HB.out hg : w.heap.size ≤ gb100)); have GE100 := q0 ((bs HB.out hg : w.heap.size ≤ gb100)); replace HB := q0 (below_step (qb HB.out) hb); have NB104_100 := q0 ((bl BK104.out hg : gb104 ≠ gb100)); have NB100_104 := q0 ((bg BK104.out hg : gb100 ≠ gb104)); replace BK104 := q0 (kb BK104.out hb); clear hb hbox hg; have hnb44 := NB104_100.out; have hnc44 := NB100_104.out; have hcz45_0 : w43.cell? ⟨gb104, 0, none⟩ = some (.int .i64 a0_0) := (blk_cell BK104.out 0).trans rfl; have hcz45_1 : w43.cell? ⟨gb104, 1, none⟩ = some (.slice A0_1 l0_1.length c0_1) := (blk_cell BK104.out 1).trans rfl; have hfz45_0 := blk_frozen BK104.out 0; have hfz45_1 := blk_frozen BK104.out 1) | ((with_reducible refine gate_callee (f := 63) rfl ?_); refine gl 13 Try.func63 #[.agg #[.int .i64 a0_0, .slice A0_1 l0_1.length c0_1], .int .i64 a1, .int .i64 a2] ?_; (with_reducible refine (spec_NetHas.calls k a0_0 _ _ l0_1 a1 a2 false _ ?side1 ?side2 A4.out).mono ?_); (case side1 => exact qc (Kd.C_below HR0_1.out HB.out)); (case side2 => exact HC0_1.out); rintro e w46 ⟨rfl, hb⟩; refine ⟨_, rfl, ?_⟩; replace BK104 := q0 (kb BK104.out hb); replace BK100 := q0 (kb BK100.out hb); replace HB := q0 (below_step (qb HB.out) hb); (try clear hb); (try clear hb2); (try clear hk); (try clear hi); have hcz47_0 : w46.cell? ⟨gb100, 0, none⟩ = some (.int .i64 0) := (blk_cell BK100.out 0).trans rfl; have hcz47_1 : w46.cell? ⟨gb100, 1, none⟩ = some (.slice none 0 0) := (blk_cell BK100.out 1).trans rfl; have hfz47_0 := blk_frozen BK100.out 0; have hfz47_1 := blk_frozen BK100.out 1))
   refine bodyPost_ret (results_ct rfl _ _ gb100 25 #[.int .i64 0, .slice none 0 0] (0, 0) _ rfl (by (with_reducible repeat (first | refine blk_drewN ?_ _ | refine blk_drew ?_ | refine blk_alloc ?_ _)); refine blk_put (cs := #[.int .i64 0, .slice none 0 0]) ?_ 1 _ rfl; (with_reducible repeat (first | refine blk_drewN ?_ _ | refine blk_drew ?_ | refine blk_alloc ?_ _)); refine blk_put (cs := #[.int .i64 0, .slice none 0 0]) ?_ 0 _ rfl; (with_reducible repeat (first | refine blk_drewN ?_ _ | refine blk_drew ?_ | refine blk_alloc ?_ _)); exact BK100.out) Try.underlying25 rfl (by kernel_rfl)) rfl ?_
   exact ⟨_, qe, by first | exact Kd.R_nil _ _ _ _ _ | exact Kd.N_nil _ _ _ _ _ | exact Kd.V_nil _ _ _ _ _ | exact Kd.Q_nil _ _ _ _ _ | exact Kd.S_nil _ _ _ _ _, qb HB.out⟩
 subst c5
 rw [if_pos rfl] at H
 have H' := Aside0.mk H
 clear H
 go_enter Try.func40, Try.ntmps40
 go_wp2_with (first | ((with_reducible refine gate_dst (N := 3) rfl ?_); refine be 3 #[.int .i64 a0_0, .slice A0_1 l0_1.length c0_1] 25 ?_; intro gb104 hg w6 hbox hb; have BK104 := q0 (hbox); have GW104 := q0 ((bs HB.out hg : w.heap.size ≤ gb104)); have GE104 := q0 ((bs HB.out hg : w.heap.size ≤ gb104)); replace HB := q0 (below_step (qb HB.out) hb); clear hb hbox hg) | ((with_reducible refine gate_dst (N := 6) rfl ?_); refine be 6 #[.int .i64 0, .slice none 0 0] 25 ?_; intro gb100 hg w7 hbox hb; have BK100 := q0 (hbox); have GW100 := q0 ((bs HB.out hg : w.heap.size ≤ gb100)); have GE100 := q0 ((bs HB.out hg : w.heap.size ≤ gb100)); replace HB := q0 (below_step (qb HB.out) hb); have NB104_100 := q0 ((bl BK104.out hg : gb104 ≠ gb100)); have NB100_104 := q0 ((bg BK104.out hg : gb100 ≠ gb104)); replace BK104 := q0 (kb BK104.out hb); clear hb hbox hg; have hnb8 := NB104_100.out; have hnc8 := NB100_104.out; have hcz9_0 : w7.cell? ⟨gb104, 0, none⟩ = some (.int .i64 a0_0) := (blk_cell BK104.out 0).trans rfl; have hcz9_1 : w7.cell? ⟨gb104, 1, none⟩ = some (.slice A0_1 l0_1.length c0_1) := (blk_cell BK104.out 1).trans rfl; have hfz9_0 := blk_frozen BK104.out 0; have hfz9_1 := blk_frozen BK104.out 1) | ((with_reducible refine gate_callee (f := 63) rfl ?_); refine gl 13 Try.func63 #[.agg #[.int .i64 a0_0, .slice A0_1 l0_1.length c0_1], .int .i64 a1, .int .i64 a2] ?_; (with_reducible refine (spec_NetHas.calls k a0_0 _ _ l0_1 a1 a2 true _ ?side1 ?side2 A4.out).mono ?_); (case side1 => exact qc (Kd.C_below HR0_1.out HB.out)); (case side2 => exact HC0_1.out); rintro e w10 ⟨rfl, hb⟩; refine ⟨_, rfl, ?_⟩; replace BK104 := q0 (kb BK104.out hb); replace BK100 := q0 (kb BK100.out hb); replace HB := q0 (below_step (qb HB.out) hb); (try clear hb); (try clear hb2); (try clear hk); (try clear hi); have hcz11_0 : w10.cell? ⟨gb104, 0, none⟩ = some (.int .i64 a0_0) := (blk_cell BK104.out 0).trans rfl; have hcz11_1 : w10.cell? ⟨gb104, 1, none⟩ = some (.slice A0_1 l0_1.length c0_1) := (blk_cell BK104.out 1).trans rfl; have hfz11_0 := blk_frozen BK104.out 0; have hfz11_1 := blk_frozen BK104.out 1) | ((with_reducible refine gate_dst (N := 8) rfl ?_); refine be 8 #[.int .i64 0, .slice none 0 0] 25 ?_; intro gb105 hg w12 hbox hb; have BK105 := q0 (hbox); have GW105 := q0 ((bs HB.out hg : w.heap.size ≤ gb105)); have GE105 := q0 ((bs HB.out hg : w.heap.size ≤ gb105)); replace HB := q0 (below_step (qb HB.out) hb); have NB104_105 := q0 ((bl BK104.out hg : gb104 ≠ gb105)); have NB105_104 := q0 ((bg BK104.out hg : gb105 ≠ gb104)); replace BK104 := q0 (kb BK104.out hb); have NB100_105 := q0 ((bl BK100.out hg : gb100 ≠ gb105)); have NB105_100 := q0 ((bg BK100.out hg : gb105 ≠ gb100)); replace BK100 := q0 (kb BK100.out hb); clear hb hbox hg; have hnb13 := NB105_104.out; have hnc13 := NB104_105.out; have hnb14 := NB105_100.out; have hnc14 := NB100_105.out; have hcz15_0 : w12.cell? ⟨gb105, 0, none⟩ = some (.int .i64 0) := (blk_cell BK105.out 0).trans rfl; have hcz15_1 : w12.cell? ⟨gb105, 1, none⟩ = some (.slice none 0 0) := (blk_cell BK105.out 1).trans rfl; have hfz15_0 := blk_frozen BK105.out 0; have hfz15_1 := blk_frozen BK105.out 1))
 go_loopg [9] k (fun kq v9 w' => ∃ (x9_1 : Int) (x101001_1 : List (STie)) (u101001 : Value), v9 = .int .i64 x9_1 ∧ Aside0 (spec_NetCut.l0 kq a1 a2 x9_1 a0_0 l0_1 a0_0 x101001_1 = some (r1, r2, r3)) ∧ Aside0 (kq ≤ k) ∧ Aside0 (Kd.R kTie 32 w' w.heap.size (fun _ => True) u101001 x101001_1) ∧ Aside0 (w'.heap[gb104]? = some (.cells #[.int .i64 a0_0, (.slice A0_1 l0_1.length c0_1)] 25 (0, 0))) ∧ Aside0 (w'.heap[gb100]? = some (.cells #[.int .i64 0, (.slice none 0 0)] 25 (0, 0))) ∧ Aside0 (w'.heap[gb105]? = some (.cells #[.int .i64 a0_0, u101001] 25 (0, 0))) ∧ Aside0 (Below w.heap.size w w'))
 case atStart => exact ⟨(0), (([] : List (STie))), (.slice none 0 0), qs, H', ⟨Nat.le_refl _⟩, ⟨by first | exact Kd.R_nil _ _ _ _ _ | exact Kd.N_nil _ _ _ _ _ | exact Kd.V_nil _ _ _ _ _ | exact Kd.Q_nil _ _ _ _ _ | exact Kd.S_nil _ _ _ _ _⟩, ⟨qf BK104.out⟩, ⟨qf BK100.out⟩, ⟨by (with_reducible repeat (first | refine blk_drewN ?_ _ | refine blk_drew ?_ | refine blk_alloc ?_ _)); refine blk_put (cs := #[.int .i64 a0_0, .slice none 0 0]) ?_ 1 _ rfl; (with_reducible repeat (first | refine blk_drewN ?_ _ | refine blk_drew ?_ | refine blk_alloc ?_ _)); refine blk_put (cs := #[.int .i64 0, .slice none 0 0]) ?_ 0 _ rfl; (with_reducible repeat (first | refine blk_drewN ?_ _ | refine blk_drew ?_ | refine blk_alloc ?_ _)); exact BK105.out⟩, ⟨qb HB.out⟩⟩
 clear H'
 try clear c1
 try clear p2
 try clear c4
 try clear c5
 try clear c6
 try clear c8
 try clear c13
 try clear c14
 try clear hcz11_0
 try clear hcz11_1
 try clear hcz15_0
 try clear hcz15_1
 try clear hcz9_0
 try clear hcz9_1
 try clear hfz11_0
 try clear hfz11_1
 try clear hfz15_0
 try clear hfz15_1
 try clear hfz9_0
 try clear hfz9_1
 obtain ⟨x9_1, x101001_1, u101001, rfl, HA, HK1, HO_101001, BK104, BK100, BK105, HB⟩ := hrel
 rcases gk with _ | k1
 · exact absurd HA.out (by simp [spec_NetCut.l0])
 have H := HA.out
 clear HA
 simp only [spec_NetCut.l0] at H
 by_cases c16 : x9_1 < (l0_1.length : Int)
 rotate_left
 · rw [if_neg c16] at H
   have c16b0 : decide (x9_1 < (l0_1.length : Int)) = false := decide_eq_false c16
   clear c16
   simp only [Option.some.injEq, Prod.mk.injEq] at H
   obtain ⟨rfl, rfl, rfl⟩ := H
   have hnb35 := NB104_100.out
   have hnc35 := NB100_104.out
   have hnb36 := NB104_105.out
   have hnc36 := NB105_104.out
   have hcz37_0 : wr.cell? ⟨gb104, 0, none⟩ = some (.int .i64 a0_0) := (blk_cell BK104.out 0).trans rfl
   have hcz37_1 : wr.cell? ⟨gb104, 1, none⟩ = some (.slice A0_1 l0_1.length c0_1) := (blk_cell BK104.out 1).trans rfl
   have hfz37_0 := blk_frozen BK104.out 0
   have hfz37_1 := blk_frozen BK104.out 1
   have hnb38 := NB105_100.out
   have hnc38 := NB100_105.out
   have hcz39_0 : wr.cell? ⟨gb105, 0, none⟩ = some (.int .i64 a0_0) := (blk_cell BK105.out 0).trans rfl
   have hcz39_1 : wr.cell? ⟨gb105, 1, none⟩ = some (u101001) := (blk_cell BK105.out 1).trans rfl
   have hfz39_0 := blk_frozen BK105.out 0
   have hfz39_1 := blk_frozen BK105.out 1
   have hcz40_0 : wr.cell? ⟨gb100, 0, none⟩ = some (.int .i64 0) := (blk_cell BK100.out 0).trans rfl
   have hcz40_1 : wr.cell? ⟨gb100, 1, none⟩ = some (.slice none 0 0) := (blk_cell BK100.out 1).trans rfl
   have hfz40_0 := blk_frozen BK100.out 0
   have hfz40_1 := blk_frozen BK100.out 1
   obtain ⟨Ao41, co41, eo41⟩ := Kd.R_slice HO_101001.out
   subst eo41
   go_wp2
   refine bodyPost_ret (results_ct rfl _ _ gb100 25 #[.int .i64 a0_0, .slice Ao41 x101001_1.length co41] (0, 0) _ rfl (by (with_reducible repeat (first | refine blk_drewN ?_ _ | refine blk_drew ?_ | refine blk_alloc ?_ _)); refine blk_put (cs := #[.int .i64 a0_0, .slice none 0 0]) ?_ 1 _ rfl; (with_reducible repeat (first | refine blk_drewN ?_ _ | refine blk_drew ?_ | refine blk_alloc ?_ _)); refine blk_put (cs := #[.int .i64 0, .slice none 0 0]) ?_ 0 _ rfl; (with_reducible repeat (first | refine blk_drewN ?_ _ | refine blk_drew ?_ | refine blk_alloc ?_ _)); exact BK100.out) Try.underlying25 rfl (by kernel_rfl)) rfl ?_
   exact ⟨_, qe, by (with_reducible repeat (first | apply Kd.R_alloc | apply Kd.R_drewN | apply Kd.R_drew)); exact rf2 HO_101001.out BK100.out (fun _ hk => trivial), qb HB.out⟩
 rw [if_pos c16] at H
 have c16b0 : decide (x9_1 < (l0_1.length : Int)) = true := decide_eq_true c16
 clear c16
 by_cases c17 : 0 ≤ x9_1
 rotate_left
 · rw [if_neg c17] at H
   exact absurd H (by simp)
 rw [if_pos c17] at H
 have c17b0 : decide (0 ≤ x9_1) = true := decide_eq_true c17
 clear c17
 replace H := Option.bind_eq_some_iff.mp H
 obtain ⟨⟨t102, t106⟩, A107, H⟩ := H
 have A18 := Aside0.mk A107
 clear A107
 by_cases c19 : (!(((rd_TTie l0_1 x9_1).f0) == t102) || (!(((rd_TTie l0_1 x9_1).f1) == t106))) = true
 rotate_left
 · rw [if_neg c19] at H
   have c19b0 : (!(((rd_TTie l0_1 x9_1).f0) == t102) || (!(((rd_TTie l0_1 x9_1).f1) == t106))) = false := by simpa using c19
   clear c19
   have H' := Aside0.mk H
   clear H
   have hnb30 := NB104_100.out
   have hnc30 := NB100_104.out
   have hnb31 := NB104_105.out
   have hnc31 := NB105_104.out
   have hcz32_0 : wr.cell? ⟨gb104, 0, none⟩ = some (.int .i64 a0_0) := (blk_cell BK104.out 0).trans rfl
   have hcz32_1 : wr.cell? ⟨gb104, 1, none⟩ = some (.slice A0_1 l0_1.length c0_1) := (blk_cell BK104.out 1).trans rfl
   have hfz32_0 := blk_frozen BK104.out 0
   have hfz32_1 := blk_frozen BK104.out 1
   try go_wp2
   replace HO_101001 := q0 (Kd.R_drew HO_101001.out)
   replace BK104 := q0 (blk_drew BK104.out)
   replace BK100 := q0 (blk_drew BK100.out)
   replace BK105 := q0 (blk_drew BK105.out)
   replace HB := q0 (below_drew1 HB.out)
   have p101 : 0 ≤ (x9_1 : Int) := of_decide_eq_true qa
   have q101 : x9_1 < (l0_1.length : Int) := of_decide_eq_true qa
   obtain ⟨ad101, e101, hx101_0, hx101_1⟩ := at_TTie HR0_1.out x9_1 p101 q101
   have hw101_1 := hx101_1
   have hw101_0 := hx101_0
   cases e101
   replace hx101_0 := (HB.out.cell (World.block_lt_of_cell? w _ hx101_0)).trans hx101_0
   replace hx101_1 := (HB.out.cell (World.block_lt_of_cell? w _ hx101_1)).trans hx101_1
   replace p101 := eq_true p101
   replace q101 := eq_true q101
   refine start_ (n := 9) (S := fun w' => w'.cell? ⟨gb104, 0, none⟩ = some (.int .i64 a0_0) ∧ w'.cell? ⟨gb104, 1, none⟩ = some (.slice (some ad101) l0_1.length c0_1) ∧ w'.cell? (ad101.add ((x9_1).toNat * 2)) = some (.int .i64 ((rd_TTie l0_1 x9_1).f0)) ∧ w'.cell? ⟨(ad101.add ((x9_1).toNat * 2)).block, (ad101.add ((x9_1).toNat * 2)).off + 1, none⟩ = some (.int .i64 ((rd_TTie l0_1 x9_1).f1))) (ds := []) (ba 9 0) (by kernel_rfl) rfl (by kernel_rfl) ⟨(blk_cell BK104.out 0).trans rfl, (blk_cell BK104.out 1).trans rfl, ((HB.out.cell (World.block_lt_of_cell? w _ hw101_0)).trans hw101_0), ((HB.out.cell (World.block_lt_of_cell? w _ hw101_1)).trans hw101_1)⟩ (fun hHeld => ?_); refine with_tabW spec_NetCut.tab7 spec_NetCut.bits7 (fun HT_ HW_ => ?_)
   generalize wr.drew = w33 at HO_101001 BK104 BK100 BK105 HB hx101_0 hx101_1 hHeld ⊢
   refine pu 0 (some 26) (ba 9 1) HT_.out ?_
   refine pu 2 (some 28) (ba 9 5) HT_.out ?_
   refine pu 5 (some 31) (ba 9 37) HT_.out ?_
   refine pu 6 (some 32) (ba 9 101) HT_.out ?_
   refine tu 1 (some 27) (ba 9 103) HT_.out HW_.out hHeld ?_
   refine pu 3 (some 29) (ba 9 111) HT_.out ?_
   refine tu 4 (some 30) (ba 9 127) HT_.out HW_.out hHeld ?_
   refine one_ (i := 7) (N := some 33) (ba 9 255) rfl rfl (one_of HT_.out (by kernel_rfl)) (by decide) (fun K hK => ?_)
   refine goes_ Try.func68 (by kernel_rfl) rfl #[.int .i64 a1, .int .i64 a2] (by rfl) rfl rfl qm ?_
   with_reducible refine (spec_l1Tie.calls a1 a2 t102 t106 _ A18.out).mono ?_
   rintro e w34 ⟨rfl, hb⟩
   refine ⟨_, rfl, ?_⟩
   replace HO_101001 := q0 (Kd.R_below (qr HO_101001.out) hb)
   replace BK104 := q0 (kb BK104.out hb)
   replace BK100 := q0 (kb BK100.out hb)
   replace BK105 := q0 (kb BK105.out hb)
   replace HB := q0 (below_step (qb HB.out) hb)
   (try clear hb)
   (try clear hb2)
   (try clear hk)
   (try clear hi)
   refine hK.out _ _ ⟨(blk_cell BK104.out 0).trans rfl, (blk_cell BK104.out 1).trans rfl, ((HB.out.cell (World.block_lt_of_cell? w _ hw101_0)).trans hw101_0), ((HB.out.cell (World.block_lt_of_cell? w _ hw101_1)).trans hw101_1)⟩ (fun hHeld => ?_)
   clear hK K
   refine nu 33 ?_
   refine pu 8 (some 34) (ba 9 511) HT_.out ?_
   refine done_ (done_of HT_.out (by kernel_rfl)) ?_
   try go_wp2
   go_roundg k1
   case measure => have := HK1.out; omega
   case rel => exact ⟨(wrap64 (x9_1 + 1)), (x101001_1), (u101001), qs, H', ⟨by have := HK1.out; omega⟩, ⟨qr HO_101001.out⟩, ⟨qk BK104.out⟩, ⟨qk BK100.out⟩, ⟨qk BK105.out⟩, ⟨qb HB.out⟩⟩
 rw [if_pos c19] at H
 have c19b0 : (!(((rd_TTie l0_1 x9_1).f0) == t102) || (!(((rd_TTie l0_1 x9_1).f1) == t106))) = true := c19
 clear c19
 by_cases c20 : x101001_1.length < 8796093022208
 rotate_left
 · rw [if_neg c20] at H
   exact absurd H (by simp)
 rw [if_pos c20] at H
 have LMc20 := Aside0.mk c20
 clear c20
 obtain ⟨y108, hy108⟩ : ∃ y_ : List (STie), y_ = (x101001_1 ++ [(⟨(rd_TTie l0_1 x9_1).f0, (rd_TTie l0_1 x9_1).f1⟩ : STie)]) := ⟨_, rfl⟩
 replace H : (spec_NetCut.l0 k1 a1 a2 (wrap64 (x9_1 + 1)) a0_0 l0_1 a0_0 y108) = some (r1, r2, r3) := qy H hy108
 have Ny108 := Aside0.mk hy108
 clear hy108
 have H' := Aside0.mk H
 clear H
 have hnb21 := NB104_100.out
 have hnc21 := NB100_104.out
 have hnb22 := NB104_105.out
 have hnc22 := NB105_104.out
 have hcz23_0 : wr.cell? ⟨gb104, 0, none⟩ = some (.int .i64 a0_0) := (blk_cell BK104.out 0).trans rfl
 have hcz23_1 : wr.cell? ⟨gb104, 1, none⟩ = some (.slice A0_1 l0_1.length c0_1) := (blk_cell BK104.out 1).trans rfl
 have hfz23_0 := blk_frozen BK104.out 0
 have hfz23_1 := blk_frozen BK104.out 1
 try go_wp2
 replace HO_101001 := q0 (Kd.R_drew HO_101001.out)
 replace BK104 := q0 (blk_drew BK104.out)
 replace BK100 := q0 (blk_drew BK100.out)
 replace BK105 := q0 (blk_drew BK105.out)
 replace HB := q0 (below_drew1 HB.out)
 have p101 : 0 ≤ (x9_1 : Int) := of_decide_eq_true qa
 have q101 : x9_1 < (l0_1.length : Int) := of_decide_eq_true qa
 obtain ⟨ad101, e101, hx101_0, hx101_1⟩ := at_TTie HR0_1.out x9_1 p101 q101
 have hw101_1 := hx101_1
 have hw101_0 := hx101_0
 cases e101
 replace hx101_0 := (HB.out.cell (World.block_lt_of_cell? w _ hx101_0)).trans hx101_0
 replace hx101_1 := (HB.out.cell (World.block_lt_of_cell? w _ hx101_1)).trans hx101_1
 replace p101 := eq_true p101
 replace q101 := eq_true q101
 refine start_ (n := 9) (S := fun w' => w'.cell? ⟨gb104, 0, none⟩ = some (.int .i64 a0_0) ∧ w'.cell? ⟨gb104, 1, none⟩ = some (.slice (some ad101) l0_1.length c0_1) ∧ w'.cell? (ad101.add ((x9_1).toNat * 2)) = some (.int .i64 ((rd_TTie l0_1 x9_1).f0)) ∧ w'.cell? ⟨(ad101.add ((x9_1).toNat * 2)).block, (ad101.add ((x9_1).toNat * 2)).off + 1, none⟩ = some (.int .i64 ((rd_TTie l0_1 x9_1).f1))) (ds := []) (ba 9 0) (by kernel_rfl) rfl (by kernel_rfl) ⟨(blk_cell BK104.out 0).trans rfl, (blk_cell BK104.out 1).trans rfl, ((HB.out.cell (World.block_lt_of_cell? w _ hw101_0)).trans hw101_0), ((HB.out.cell (World.block_lt_of_cell? w _ hw101_1)).trans hw101_1)⟩ (fun hHeld => ?_); refine with_tabW spec_NetCut.tab7 spec_NetCut.bits7 (fun HT_ HW_ => ?_)
 generalize wr.drew = w24 at HO_101001 BK104 BK100 BK105 HB hx101_0 hx101_1 hHeld ⊢
 refine pu 0 (some 26) (ba 9 1) HT_.out ?_
 refine pu 2 (some 28) (ba 9 5) HT_.out ?_
 refine pu 5 (some 31) (ba 9 37) HT_.out ?_
 refine pu 6 (some 32) (ba 9 101) HT_.out ?_
 refine tu 1 (some 27) (ba 9 103) HT_.out HW_.out hHeld ?_
 refine pu 3 (some 29) (ba 9 111) HT_.out ?_
 refine tu 4 (some 30) (ba 9 127) HT_.out HW_.out hHeld ?_
 refine one_ (i := 7) (N := some 33) (ba 9 255) rfl rfl (one_of HT_.out (by kernel_rfl)) (by decide) (fun K hK => ?_)
 refine goes_ Try.func68 (by kernel_rfl) rfl #[.int .i64 a1, .int .i64 a2] (by rfl) rfl rfl qm ?_
 with_reducible refine (spec_l1Tie.calls a1 a2 t102 t106 _ A18.out).mono ?_
 rintro e w25 ⟨rfl, hb⟩
 refine ⟨_, rfl, ?_⟩
 replace HO_101001 := q0 (Kd.R_below (qr HO_101001.out) hb)
 replace BK104 := q0 (kb BK104.out hb)
 replace BK100 := q0 (kb BK100.out hb)
 replace BK105 := q0 (kb BK105.out hb)
 replace HB := q0 (below_step (qb HB.out) hb)
 (try clear hb)
 (try clear hb2)
 (try clear hk)
 (try clear hi)
 refine hK.out _ _ ⟨(blk_cell BK104.out 0).trans rfl, (blk_cell BK104.out 1).trans rfl, ((HB.out.cell (World.block_lt_of_cell? w _ hw101_0)).trans hw101_0), ((HB.out.cell (World.block_lt_of_cell? w _ hw101_1)).trans hw101_1)⟩ (fun hHeld => ?_)
 clear hK K
 refine nu 33 ?_
 refine pu 8 (some 34) (ba 9 511) HT_.out ?_
 refine done_ (done_of HT_.out (by kernel_rfl)) ?_
 try go_wp2
 replace HO_101001 := q0 (Kd.R_drew HO_101001.out)
 replace BK104 := q0 (blk_drew BK104.out)
 replace BK100 := q0 (blk_drew BK100.out)
 replace BK105 := q0 (blk_drew BK105.out)
 replace HB := q0 (below_drew1 HB.out)
 have p109 : 0 ≤ (x9_1 : Int) := of_decide_eq_true qa
 have q109 : x9_1 < (l0_1.length : Int) := of_decide_eq_true qa
 obtain ⟨ad109, e109, hx109_0, hx109_1⟩ := at_TTie HR0_1.out x9_1 p109 q109
 have hw109_1 := hx109_1
 have hw109_0 := hx109_0
 obtain rfl : ad101 = ad109 := (by injection e109)
 replace hx109_0 := (HB.out.cell (World.block_lt_of_cell? w _ hx109_0)).trans hx109_0
 replace hx109_1 := (HB.out.cell (World.block_lt_of_cell? w _ hx109_1)).trans hx109_1
 replace p109 := eq_true p109
 replace q109 := eq_true q109
 refine start_ (n := 11) (S := fun w' => w'.cell? ⟨gb105, 0, none⟩ = some (.int .i64 a0_0) ∧ w'.cell? ⟨gb105, 1, none⟩ = some (u101001) ∧ w'.cell? ⟨gb104, 0, none⟩ = some (.int .i64 a0_0) ∧ w'.cell? ⟨gb104, 1, none⟩ = some (.slice (some ad101) l0_1.length c0_1) ∧ w'.cell? (ad101.add ((x9_1).toNat * 2)) = some (.int .i64 ((rd_TTie l0_1 x9_1).f0)) ∧ w'.cell? ⟨(ad101.add ((x9_1).toNat * 2)).block, (ad101.add ((x9_1).toNat * 2)).off + 1, none⟩ = some (.int .i64 ((rd_TTie l0_1 x9_1).f1))) (ds := [10]) (ba 11 0) (by kernel_rfl) rfl (by kernel_rfl) ⟨(blk_cell BK105.out 0).trans rfl, (blk_cell BK105.out 1).trans rfl, (blk_cell BK104.out 0).trans rfl, (blk_cell BK104.out 1).trans rfl, ((HB.out.cell (World.block_lt_of_cell? w _ hw109_0)).trans hw109_0), ((HB.out.cell (World.block_lt_of_cell? w _ hw109_1)).trans hw109_1)⟩ (fun hHeld => ?_); refine with_tabW spec_NetCut.tab8 spec_NetCut.bits8 (fun HT_ HW_ => ?_)
 generalize w25.drew = w26 at HO_101001 BK104 BK100 BK105 HB hx109_0 hx109_1 hHeld ⊢
 refine pu 0 (some 35) (ba 11 1) HT_.out ?_
 refine pu 2 (some 37) (ba 11 5) HT_.out ?_
 refine pu 4 (some 39) (ba 11 21) HT_.out ?_
 refine tu 1 (some 36) (ba 11 23) HT_.out HW_.out hHeld ?_
 refine tu 3 (some 38) (ba 11 31) HT_.out HW_.out hHeld ?_
 refine pu 5 (some 40) (ba 11 63) HT_.out ?_
 refine tu 6 (some 41) (ba 11 127) HT_.out HW_.out hHeld ?_
 refine one_ (i := 7) (N := some 42) (ba 11 255) rfl rfl (one_of HT_.out (by kernel_rfl)) (by decide) (fun K hK => ?_)
 refine value_ (w1 := ?_) (v := ?_) (by rfl) rfl ?_ ?_
 rotate_left 2
 · go_simp
   constructor
   · rfl
   · rfl
 refine hK.out _ _ ⟨(blk_cell (blk_alloc BK105.out _) 0).trans rfl, (blk_cell (blk_alloc BK105.out _) 1).trans rfl, (blk_cell (blk_alloc BK104.out _) 0).trans rfl, (blk_cell (blk_alloc BK104.out _) 1).trans rfl, (World.cell?_alloc_lt _ _ _ (World.block_lt_of_cell? _ _ (((HB.out.cell (World.block_lt_of_cell? w _ hw109_0)).trans hw109_0)))).trans (((HB.out.cell (World.block_lt_of_cell? w _ hw109_0)).trans hw109_0)), (World.cell?_alloc_lt _ _ _ (World.block_lt_of_cell? _ _ (((HB.out.cell (World.block_lt_of_cell? w _ hw109_1)).trans hw109_1)))).trans (((HB.out.cell (World.block_lt_of_cell? w _ hw109_1)).trans hw109_1))⟩ (fun hHeld => ?_)
 clear hK K
 refine nu 42 ?_
 refine one_ (i := 8) (N := some 43) (ba 11 511) rfl rfl (one_of HT_.out (by kernel_rfl)) (by decide) (fun K hK => ?_)
 refine Kd.R_append_step kTie (w0 := w) w.heap.size (by rfl) (.tmp 36) (.tmp 42) 23 32 (.agg #[(.int .i64 0), (.int .i64 0)]) 16 rfl Try.underlying23 info32 rfl (by decide) (by omega) u101001 x101001_1 (⟨(rd_TTie l0_1 x9_1).f0, (rd_TTie l0_1 x9_1).f1⟩ : STie) [.int .i64 ((rd_TTie l0_1 x9_1).f0), .int .i64 ((rd_TTie l0_1 x9_1).f1)] (fun _ => True) (fun _ => False) rfl rfl ?aP (fun _ hk => hk.elim) ?aF ?aO ?aB ?aS ?aL ?_
 (case aP => exact kTie_mkM _ _ _ (⟨(rd_TTie l0_1 x9_1).f0, (rd_TTie l0_1 x9_1).f1⟩ : STie))
 (case aB => exact (qb HB.out))
 (case aF => exact (fun _ _ => trivial))
 (case aO => exact (qr HO_101001.out))
 (case aS => exact (below_size (qb HB.out)))
 (case aL => have := LMc20.out; omega)
 intro v110 w27 ho hb hg hat
 rw [← Ny108.out] at ho
 replace BK104 := q0 (blk_grown (g := gb104) (o := .cells #[.int .i64 a0_0, .slice (some ad101) l0_1.length c0_1] 25 (0, 0)) (qk BK104.out) hg (Kd.R_ne HO_101001.out BK104.out (by decide)))
 replace BK100 := q0 (blk_grown (g := gb100) (o := .cells #[.int .i64 0, .slice none 0 0] 25 (0, 0)) (qk BK100.out) hg (Kd.R_ne HO_101001.out BK100.out (by decide)))
 replace BK105 := q0 (blk_grown (g := gb105) (o := .cells #[.int .i64 a0_0, u101001] 25 (0, 0)) (qk BK105.out) hg (Kd.R_ne HO_101001.out BK105.out (by decide)))
 replace HB := q0 (hb)
 have HO111 := q0 (ho)
 clear HO_101001
 clear ho hb hg hat
 obtain ⟨Ao28, co28, eo28⟩ := Kd.R_slice HO111.out
 (first | subst eo28 | (injection eo28 with f1_ f2_ f3_; have f4_ := f1_.symm; have f5_ := f3_.symm; clear f1_ f2_ f3_; subst f4_; subst f5_))
 refine hK.out _ _ ⟨(blk_cell BK105.out 0).trans rfl, (blk_cell BK105.out 1).trans rfl, (blk_cell BK104.out 0).trans rfl, (blk_cell BK104.out 1).trans rfl, ((HB.out.cell (World.block_lt_of_cell? w _ hw109_0)).trans hw109_0), ((HB.out.cell (World.block_lt_of_cell? w _ hw109_1)).trans hw109_1)⟩ (fun hHeld => ?_)
 clear hK K
 refine nu 43 ?_
 refine pu 9 (some 44) (ba 11 1023) HT_.out ?_
 refine last_ (i := 10) (N := none) (ba 11 2047) rfl rfl (one_of HT_.out (by kernel_rfl)) (by decide) (fun K hK => ?_)
 have hs29 : w27.cell? ⟨gb105, 1, none⟩ = some (u101001) := (blk_cell BK105.out 1).trans rfl
 have hfs29 := blk_frozen BK105.out 1
 have hns29_0 := NB104_105.out
 have hns29_1 := NB100_105.out
 have hms29_0 := NB105_104.out
 have hms29_1 := NB105_100.out
 refine skip_ (w1 := ?_) (by rfl) rfl ?_ ?_
 rotate_left
 · go_simp
   rfl
 refine hK.out _ _ ?_
 clear hK K
 refine done_ (done_of HT_.out (by kernel_rfl)) ?_
 try go_wp2
 go_roundg k1
 case measure => have := HK1.out; omega
 case rel => exact ⟨(wrap64 (x9_1 + 1)), (y108), (.slice Ao28 y108.length co28), qs, H', ⟨by have := HK1.out; omega⟩, ⟨by (with_reducible repeat (first | apply Kd.R_alloc | apply Kd.R_drewN | apply Kd.R_drew)); exact Kd.R_mono (Kd.R_far (p := ⟨gb105, 1, none⟩) (Kd.R_types HO111.out BK105.out (by decide)) (fun _ hk => hk.2) (.slice Ao28 y108.length co28)) (fun _ hk => trivial)⟩, ⟨qf BK104.out⟩, ⟨qf BK100.out⟩, ⟨by (with_reducible repeat (first | refine blk_drewN ?_ _ | refine blk_drew ?_ | refine blk_alloc ?_ _)); refine blk_put (cs := #[.int .i64 a0_0, u101001]) ?_ 1 _ rfl; (with_reducible repeat (first | refine blk_drewN ?_ _ | refine blk_drew ?_ | refine blk_alloc ?_ _)); exact BK105.out⟩, ⟨qb HB.out⟩⟩

end Go.Proofs.Ytgoembpmhlmafaa.P
