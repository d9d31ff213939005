import Derived.Test.YtgoembpmhlmafaaP0
import Derived.Test.YtgoembpmhlmafaaP1
import Derived.Test.YtgoembpmhlmafaaP3
import Derived.Test.YtgoembpmhlmafaaP8
namespace Go.Proofs.Ytgoembpmhlmafaa.P
open Go.RowKit Go.Proofs.YtgoembpmhlmafaaW.PrintWords Go.Proofs.YtgoembpmhlmafaaW.PrintLast Go.Proofs.YtgoembpmhlmafaaW.PrintMore
attribute [local go_sem] max2_int min2_int max_two min_two max_three min_three max_four min_four
set_option linter.unusedVariables false
set_option linter.unusedSimpArgs false
attribute [local go_sem high] eqATie
set_option maxHeartbeats 8000000 in
set_option maxRecDepth 100000 in
theorem impl_Net_less.calls (k : Nat) (a0_0 : Int) (A0_1 : Option Addr) (c0_1 : Nat) (l0_1 : List (STie)) (A1 : Option Addr) (c1 : Nat) (l1 : List (STie)) (r1 : Int) (r2 : List (STie)) (w : World) (hr0_1 : Kd.C kTie w A0_1 l0_1.length l0_1) (hc0_1 : l0_1.length ≤ c0_1) (hr1 : Kd.C kTie w A1 l1.length l1) (hc1 : l1.length ≤ c1) (h : impl_Net_less.f k a0_0 l0_1 l1 = some (r1, r2)) :
    Calls Try.prog 55 #[.agg #[.int .i64 a0_0, .slice A0_1 l0_1.length c0_1], .slice A1 l1.length c1] w fun e w' => ∃ v1_ : Value, e = .returned (.agg #[.int .i64 r1, v1_]) ∧ Kd.R kTie 32 w' w.heap.size (fun _ => True) v1_ r2 ∧ Below w.heap.size w w' := by
 have hu25 := Try.underlying25
 have hu32 := Try.underlying32
 have HR0_1 := Aside0.mk hr0_1
 have HC0_1 := Aside0.mk hc0_1
 clear hr0_1 hc0_1
 have HR1 := Aside0.mk hr1
 have HC1 := Aside0.mk hc1
 clear hr1 hc1
 have HB := q0 (Below.refl w.heap.size w)
 have H : (impl_Net_less.l0 k l1 l0_1 (l0_1.length : Int) 0 a0_0 (([] : List (STie)))) = some (r1, r2) := h
 clear h
 obtain ⟨y102, hy102⟩ : ∃ y_ : List (STie), y_ = (([] : List (STie))) := ⟨_, rfl⟩
 replace H : (impl_Net_less.l0 k l1 l0_1 (l0_1.length : Int) 0 a0_0 y102) = some (r1, r2) := qy H hy102
 have Ny102 := Aside0.mk hy102
 clear hy102
 have H' := Aside0.mk H
 clear H
 go_enter Try.func55, Try.ntmps55
 go_wp2_with (first | ((with_reducible refine gate_dst (N := 2) rfl ?_); refine be 2 #[.int .i64 a0_0, .slice A0_1 l0_1.length c0_1] 25 ?_; intro gb103 hg w3 hbox hb; have BK103 := q0 (hbox); have GW103 := q0 ((bs HB.out hg : w.heap.size ≤ gb103)); have GE103 := q0 ((bs HB.out hg : w.heap.size ≤ gb103)); replace HB := q0 (below_step (qb HB.out) hb); clear hb hbox hg) | ((with_reducible refine gate_dst (N := 4) rfl ?_); refine be 4 #[.int .i64 0, .slice none 0 0] 25 ?_; intro gb104 hg w4 hbox hb; have BK104 := q0 (hbox); have GW104 := q0 ((bs HB.out hg : w.heap.size ≤ gb104)); have GE104 := q0 ((bs HB.out hg : w.heap.size ≤ gb104)); replace HB := q0 (below_step (qb HB.out) hb); have NB103_104 := q0 ((bl BK103.out hg : gb103 ≠ gb104)); have NB104_103 := q0 ((bg BK103.out hg : gb104 ≠ gb103)); replace BK103 := q0 (kb BK103.out hb); clear hb hbox hg; have hnb5 := NB103_104.out; have hnc5 := NB104_103.out; have hcz6_0 : w4.cell? ⟨gb103, 0, none⟩ = some (.int .i64 a0_0) := (blk_cell BK103.out 0).trans rfl; have hcz6_1 : w4.cell? ⟨gb103, 1, none⟩ = some (.slice A0_1 l0_1.length c0_1) := (blk_cell BK103.out 1).trans rfl; have hfz6_0 := blk_frozen BK103.out 0; have hfz6_1 := blk_frozen BK103.out 1) | ((with_reducible refine gate_dst (N := 10) rfl ?_); refine Kd.R_lit kTie _ 32 ?hg (N := 10) ?hd (xs := ([] : List (STie))) (inner := []) (ok := fun _ => True) (okp := fun _ => True) ?hr ?hp (fun _ hk => hk) trivial (Below.refl _ _) (Nat.le_refl _) (by simp) ?_; (case hd => rfl); (case hg => rfl); (case hr => first | (go_simp; done) | (go_simp; rfl)); (case hp => exact (Reps.none _ _)); intro v105 w7 ho8 hb hg_ hnew_; clear hg_ hnew_; (first | rw [← Ny102.out] at ho8 | (simp only [Int.reduceToNat] at ho8; rw [← Ny102.out] at ho8)); have HO106 := q0 (Kd.R_lower ho8 (below_size (qb HB.out))); replace BK103 := q0 (kb BK103.out hb); replace BK104 := q0 (kb BK104.out hb); replace HB := q0 (below_step (qb HB.out) hb); clear hb ho8; obtain ⟨Ao9, co9, eo9⟩ := Kd.R_slice HO106.out; subst eo9) | ((with_reducible refine gate_dst (N := 5) rfl ?_); refine be 5 #[.int .i64 0, .slice none 0 0] 25 ?_; intro gb107 hg w10 hbox hb; replace HO106 := q0 (Kd.R_below (qr HO106.out) hb); have BK107 := q0 (hbox); have GW107 := q0 ((bs HB.out hg : w.heap.size ≤ gb107)); have GE107 := q0 ((bs HB.out hg : w.heap.size ≤ gb107)); replace HB := q0 (below_step (qb HB.out) hb); have NB103_107 := q0 ((bl BK103.out hg : gb103 ≠ gb107)); have NB107_103 := q0 ((bg BK103.out hg : gb107 ≠ gb103)); replace BK103 := q0 (kb BK103.out hb); have NB104_107 := q0 ((bl BK104.out hg : gb104 ≠ gb107)); have NB107_104 := q0 ((bg BK104.out hg : gb107 ≠ gb104)); replace BK104 := q0 (kb BK104.out hb); clear hb hbox hg; have hnb11 := NB107_103.out; have hnc11 := NB103_107.out; have hnb12 := NB107_104.out; have hnc12 := NB104_107.out; have hcz13_0 : w10.cell? ⟨gb107, 0, none⟩ = some (.int .i64 0) := (blk_cell BK107.out 0).trans rfl; have hcz13_1 : w10.cell? ⟨gb107, 1, none⟩ = some (.slice none 0 0) := (blk_cell BK107.out 1).trans rfl; have hfz13_0 := blk_frozen BK107.out 0; have hfz13_1 := blk_frozen BK107.out 1; have hcz14_0 : w10.cell? ⟨gb103, 0, none⟩ = some (.int .i64 a0_0) := (blk_cell BK103.out 0).trans rfl; have hcz14_1 : w10.cell? ⟨gb103, 1, none⟩ = some (.slice A0_1 l0_1.length c0_1) := (blk_cell BK103.out 1).trans rfl; have hfz14_0 := blk_frozen BK103.out 0; have hfz14_1 := blk_frozen BK103.out 1))
 go_loopg [15] k (fun kq v15 w' => ∃ (x15_1 : Int) (x100001_1 : List (STie)) (u100001 : Value), v15 = .int .i64 x15_1 ∧ Aside0 (impl_Net_less.l0 kq l1 l0_1 (l0_1.length : Int) x15_1 a0_0 x100001_1 = some (r1, r2)) ∧ Aside0 (kq ≤ k) ∧ Aside0 (Kd.R kTie 32 w' w.heap.size (fun _ => True) u100001 x100001_1) ∧ Aside0 (w'.heap[gb103]? = some (.cells #[.int .i64 a0_0, (.slice A0_1 l0_1.length c0_1)] 25 (0, 0))) ∧ Aside0 (w'.heap[gb104]? = some (.cells #[.int .i64 0, (.slice none 0 0)] 25 (0, 0))) ∧ Aside0 (w'.heap[gb107]? = some (.cells #[.int .i64 a0_0, u100001] 25 (0, 0))) ∧ Aside0 (Below w.heap.size w w'))
 case atStart => exact ⟨(0), (y102), (.slice Ao9 y102.length co9), qs, H', ⟨Nat.le_refl _⟩, ⟨by (with_reducible repeat (first | apply Kd.R_alloc | apply Kd.R_drewN | apply Kd.R_drew)); exact rf2 HO106.out BK107.out (fun _ hk => trivial)⟩, ⟨qf BK103.out⟩, ⟨qf BK104.out⟩, ⟨by (with_reducible repeat (first | refine blk_drewN ?_ _ | refine blk_drew ?_ | refine blk_alloc ?_ _)); refine blk_put (cs := #[.int .i64 a0_0, .slice none 0 0]) ?_ 1 _ rfl; (with_reducible repeat (first | refine blk_drewN ?_ _ | refine blk_drew ?_ | refine blk_alloc ?_ _)); refine blk_put (cs := #[.int .i64 0, .slice none 0 0]) ?_ 0 _ rfl; (with_reducible repeat (first | refine blk_drewN ?_ _ | refine blk_drew ?_ | refine blk_alloc ?_ _)); exact BK107.out⟩, ⟨qb HB.out⟩⟩
 clear H'
 try clear c1
 try clear p2
 try clear c5
 try clear c11
 try clear c12
 try clear hcz13_0
 try clear hcz13_1
 try clear hcz14_0
 try clear hcz14_1
 try clear hcz6_0
 try clear hcz6_1
 try clear hfz13_0
 try clear hfz13_1
 try clear hfz14_0
 try clear hfz14_1
 try clear hfz6_0
 try clear hfz6_1
 obtain ⟨x15_1, x100001_1, u100001, rfl, HA, HK1, HO_100001, BK103, BK104, BK107, HB⟩ := hrel
 rcases gk with _ | k1
 · exact absurd HA.out (by simp [impl_Net_less.l0])
 have H := HA.out
 clear HA
 simp only [impl_Net_less.l0] at H
 by_cases c15 : x15_1 < (l0_1.length : Int)
 rotate_left
 · rw [if_neg c15] at H
   have c15b0 : decide (x15_1 < (l0_1.length : Int)) = false := decide_eq_false c15
   clear c15
   simp only [Option.some.injEq, Prod.mk.injEq] at H
   obtain ⟨rfl, rfl⟩ := H
   have hnb40 := NB107_103.out
   have hnc40 := NB103_107.out
   have hnb41 := NB107_104.out
   have hnc41 := NB104_107.out
   have hcz42_0 : wr.cell? ⟨gb107, 0, none⟩ = some (.int .i64 a0_0) := (blk_cell BK107.out 0).trans rfl
   have hcz42_1 : wr.cell? ⟨gb107, 1, none⟩ = some (u100001) := (blk_cell BK107.out 1).trans rfl
   have hfz42_0 := blk_frozen BK107.out 0
   have hfz42_1 := blk_frozen BK107.out 1
   have hnb43 := NB104_103.out
   have hnc43 := NB103_104.out
   have hcz44_0 : wr.cell? ⟨gb104, 0, none⟩ = some (.int .i64 0) := (blk_cell BK104.out 0).trans rfl
   have hcz44_1 : wr.cell? ⟨gb104, 1, none⟩ = some (.slice none 0 0) := (blk_cell BK104.out 1).trans rfl
   have hfz44_0 := blk_frozen BK104.out 0
   have hfz44_1 := blk_frozen BK104.out 1
   obtain ⟨Ao45, co45, eo45⟩ := Kd.R_slice HO_100001.out
   subst eo45
   go_wp2
   refine bodyPost_ret (results_cell_row rfl _ _ gb104 25 #[.int .i64 a0_0, .slice Ao45 x100001_1.length co45] (0, 0) _ rfl (by (with_reducible repeat (first | refine blk_drewN ?_ _ | refine blk_drew ?_ | refine blk_alloc ?_ _)); refine blk_put (cs := #[.int .i64 a0_0, .slice none 0 0]) ?_ 1 _ rfl; (with_reducible repeat (first | refine blk_drewN ?_ _ | refine blk_drew ?_ | refine blk_alloc ?_ _)); refine blk_put (cs := #[.int .i64 0, .slice none 0 0]) ?_ 0 _ rfl; (with_reducible repeat (first | refine blk_drewN ?_ _ | refine blk_drew ?_ | refine blk_alloc ?_ _)); exact BK104.out) Try.underlying25 rfl (by kernel_rfl)) rfl ?_
   exact ⟨_, qe, by (with_reducible repeat (first | apply Kd.R_alloc | apply Kd.R_drewN | apply Kd.R_drew)); exact rf2 HO_100001.out BK104.out (fun _ hk => trivial), qb HB.out⟩
 rw [if_pos c15] at H
 have c15b0 : decide (x15_1 < (l0_1.length : Int)) = true := decide_eq_true c15
 clear c15
 by_cases c16 : 0 ≤ x15_1
 rotate_left
 · rw [if_neg c16] at H
   exact absurd H (by simp)
 rw [if_pos c16] at H
 have c16b0 : decide (0 ≤ x15_1) = true := decide_eq_true c16
 clear c16
 by_cases c17 : x15_1 < (l0_1.length : Int)
 rotate_left
 · rw [if_neg c17] at H
   exact absurd H (by simp)
 rw [if_pos c17] at H
 have c17b0 : decide (x15_1 < (l0_1.length : Int)) = true := decide_eq_true c17
 clear c17
 replace H := Option.bind_eq_some_iff.mp H
 obtain ⟨t101, A108, H⟩ := H
 have A18 := Aside0.mk A108
 clear A108
 by_cases c19 : t101 = true
 · subst c19
   rw [if_pos rfl] at H
   have H' := Aside0.mk H
   clear H
   have p100 : 0 ≤ (x15_1 : Int) := of_decide_eq_true qa
   have q100 : x15_1 < (l0_1.length : Int) := of_decide_eq_true qa
   obtain ⟨ad100, e100, hx100_0, hx100_1⟩ := at_TTie HR0_1.out x15_1 p100 q100
   cases e100
   replace hx100_0 := (HB.out.cell (World.block_lt_of_cell? w _ hx100_0)).trans hx100_0
   replace hx100_1 := (HB.out.cell (World.block_lt_of_cell? w _ hx100_1)).trans hx100_1
   replace p100 := eq_true p100
   replace q100 := eq_true q100
   go_wp2_with (first | ((with_reducible refine gate_dst (N := 7) rfl ?_); refine be 7 #[.int .i64 0, .int .i64 0] 32 ?_; intro gb109 hg w20 hbox hb; replace HO_100001 := q0 (Kd.R_below (Kd.R_elderB (qr HO_100001.out) gb109 (Nat.le_of_eq hg.symm)) hb); have BK109 := q0 (hbox); have GW109 := q0 ((bs HB.out hg : w.heap.size ≤ gb109)); have GE109 := q0 ((bs HB.out hg : w.heap.size ≤ gb109)); replace HB := q0 (below_step (qb HB.out) hb); have NB103_109 := q0 ((bl BK103.out hg : gb103 ≠ gb109)); have NB109_103 := q0 ((bg BK103.out hg : gb109 ≠ gb103)); replace BK103 := q0 (kb BK103.out hb); have NB104_109 := q0 ((bl BK104.out hg : gb104 ≠ gb109)); have NB109_104 := q0 ((bg BK104.out hg : gb109 ≠ gb104)); replace BK104 := q0 (kb BK104.out hb); have NB107_109 := q0 ((bl BK107.out hg : gb107 ≠ gb109)); have NB109_107 := q0 ((bg BK107.out hg : gb109 ≠ gb107)); replace BK107 := q0 (kb BK107.out hb); clear hb hbox hg; have hnb21 := NB109_103.out; have hnc21 := NB103_109.out; have hnb22 := NB109_104.out; have hnc22 := NB104_109.out; have hnb23 := NB109_107.out; have hnc23 := NB107_109.out; have hcz24_0 : w20.cell? ⟨gb109, 0, none⟩ = some (.int .i64 0) := (blk_cell BK109.out 0).trans rfl; have hcz24_1 : w20.cell? ⟨gb109, 1, none⟩ = some (.int .i64 0) := (blk_cell BK109.out 1).trans rfl; have hfz24_0 := blk_frozen BK109.out 0; have hfz24_1 := blk_frozen BK109.out 1) | ((with_reducible refine gate_callee (f := 82) rfl ?_); refine gl 21 Try.func82 #[.slice A1 l1.length c1, .agg #[.int .i64 ((rd_TTie l0_1 x15_1).f0), .int .i64 ((rd_TTie l0_1 x15_1).f1)]] ?_; (with_reducible refine (slices_Contains_Tie.calls k1 _ _ l1 ((rd_TTie l0_1 x15_1).f0) ((rd_TTie l0_1 x15_1).f1) true _ ?side1 ?side2 A18.out).mono ?_); (case side1 => exact Kd.C_below HR1.out (qb HB.out)); (case side2 => exact HC1.out); rintro e w25 ⟨rfl, hb⟩; refine ⟨_, rfl, ?_⟩; replace HO_100001 := q0 (Kd.R_below (by (with_reducible repeat (first | apply Kd.R_alloc | apply Kd.R_drewN | apply Kd.R_drew)); exact (Kd.R_mono (Kd.R_far (p := ⟨gb109, 1, none⟩) (Kd.R_far (p := ⟨gb109, 0, none⟩) (Kd.R_mono HO_100001.out (fun k_ hk => (⟨hk, hk.2⟩ : _ ∧ k_ ≠ gb109))) (fun _ hk => hk.2) (.int .i64 ((rd_TTie l0_1 x15_1).f0))) (fun _ hk => hk.2) (.int .i64 ((rd_TTie l0_1 x15_1).f1))) (fun _ h_ => h_.1))) hb); replace BK103 := q0 (kf BK103.out hb); replace BK104 := q0 (kf BK104.out hb); replace BK107 := q0 (kf BK107.out hb); replace BK109 := q0 (blk_below (g := gb109) (o := .cells #[.int .i64 ((rd_TTie l0_1 x15_1).f0), .int .i64 ((rd_TTie l0_1 x15_1).f1)] 32 (0, 0)) (by (with_reducible repeat (first | refine blk_drewN ?_ _ | refine blk_drew ?_ | refine blk_alloc ?_ _)); refine blk_put (cs := #[.int .i64 ((rd_TTie l0_1 x15_1).f0), .int .i64 0]) ?_ 1 _ rfl; (with_reducible repeat (first | refine blk_drewN ?_ _ | refine blk_drew ?_ | refine blk_alloc ?_ _)); refine blk_put (cs := #[.int .i64 0, .int .i64 0]) ?_ 0 _ rfl; (with_reducible repeat (first | refine blk_drewN ?_ _ | refine blk_drew ?_ | refine blk_alloc ?_ _)); exact BK109.out) hb); replace HB := q0 (below_step (qb HB.out) hb); (try clear hb); (try clear hb2); (try clear hk); (try clear hi)))
   go_roundg k1
   case measure => have := HK1.out; omega
   case rel => exact ⟨(wrap64 (x15_1 + 1)), (x100001_1), (u100001), qs, H', ⟨by have := HK1.out; omega⟩, ⟨by (with_reducible repeat (first | apply Kd.R_alloc | apply Kd.R_drewN | apply Kd.R_drew)); exact Kd.R_mono HO_100001.out (fun _ hk => trivial)⟩, ⟨qk BK103.out⟩, ⟨qk BK104.out⟩, ⟨qk BK107.out⟩, ⟨qb HB.out⟩⟩
 replace c19 := Bool.eq_false_iff.mpr c19
 subst c19
 rw [if_neg nf] at H
 by_cases c26 : x100001_1.length < 8796093022208
 rotate_left
 · rw [if_neg c26] at H
   exact absurd H (by simp)
 rw [if_pos c26] at H
 have LMc26 := Aside0.mk c26
 clear c26
 obtain ⟨y110, hy110⟩ : ∃ y_ : List (STie), y_ = (x100001_1 ++ [(⟨(rd_TTie l0_1 x15_1).f0, (rd_TTie l0_1 x15_1).f1⟩ : STie)]) := ⟨_, rfl⟩
 replace H : (impl_Net_less.l0 k1 l1 l0_1 (l0_1.length : Int) (wrap64 (x15_1 + 1)) a0_0 y110) = some (r1, r2) := qy H hy110
 have Ny110 := Aside0.mk hy110
 clear hy110
 have H' := Aside0.mk H
 clear H
 have p100 : 0 ≤ (x15_1 : Int) := of_decide_eq_true qa
 have q100 : x15_1 < (l0_1.length : Int) := of_decide_eq_true qa
 obtain ⟨ad100, e100, hx100_0, hx100_1⟩ := at_TTie HR0_1.out x15_1 p100 q100
 cases e100
 replace hx100_0 := (HB.out.cell (World.block_lt_of_cell? w _ hx100_0)).trans hx100_0
 replace hx100_1 := (HB.out.cell (World.block_lt_of_cell? w _ hx100_1)).trans hx100_1
 replace p100 := eq_true p100
 replace q100 := eq_true q100
 go_wp2_with (first | ((with_reducible refine gate_dst (N := 7) rfl ?_); refine be 7 #[.int .i64 0, .int .i64 0] 32 ?_; intro gb109 hg w27 hbox hb; replace HO_100001 := q0 (Kd.R_below (Kd.R_elderB (qr HO_100001.out) gb109 (Nat.le_of_eq hg.symm)) hb); have BK109 := q0 (hbox); have GW109 := q0 ((bs HB.out hg : w.heap.size ≤ gb109)); have GE109 := q0 ((bs HB.out hg : w.heap.size ≤ gb109)); replace HB := q0 (below_step (qb HB.out) hb); have NB103_109 := q0 ((bl BK103.out hg : gb103 ≠ gb109)); have NB109_103 := q0 ((bg BK103.out hg : gb109 ≠ gb103)); replace BK103 := q0 (kb BK103.out hb); have NB104_109 := q0 ((bl BK104.out hg : gb104 ≠ gb109)); have NB109_104 := q0 ((bg BK104.out hg : gb109 ≠ gb104)); replace BK104 := q0 (kb BK104.out hb); have NB107_109 := q0 ((bl BK107.out hg : gb107 ≠ gb109)); have NB109_107 := q0 ((bg BK107.out hg : gb109 ≠ gb107)); replace BK107 := q0 (kb BK107.out hb); clear hb hbox hg; have hnb28 := NB109_103.out; have hnc28 := NB103_109.out; have hnb29 := NB109_104.out; have hnc29 := NB104_109.out; have hnb30 := NB109_107.out; have hnc30 := NB107_109.out; have hcz31_0 : w27.cell? ⟨gb109, 0, none⟩ = some (.int .i64 0) := (blk_cell BK109.out 0).trans rfl; have hcz31_1 : w27.cell? ⟨gb109, 1, none⟩ = some (.int .i64 0) := (blk_cell BK109.out 1).trans rfl; have hfz31_0 := blk_frozen BK109.out 0; have hfz31_1 := blk_frozen BK109.out 1) | ((with_reducible refine gate_callee (f := 82) rfl ?_); refine gl 21 Try.func82 #[.slice A1 l1.length c1, .agg #[.int .i64 ((rd_TTie l0_1 x15_1).f0), .int .i64 ((rd_TTie l0_1 x15_1).f1)]] ?_; (with_reducible refine (slices_Contains_Tie.calls k1 _ _ l1 ((rd_TTie l0_1 x15_1).f0) ((rd_TTie l0_1 x15_1).f1) false _ ?side1 ?side2 A18.out).mono ?_); (case side1 => exact Kd.C_below HR1.out (qb HB.out)); (case side2 => exact HC1.out); rintro e w32 ⟨rfl, hb⟩; refine ⟨_, rfl, ?_⟩; replace HO_100001 := q0 (Kd.R_below (by (with_reducible repeat (first | apply Kd.R_alloc | apply Kd.R_drewN | apply Kd.R_drew)); exact (Kd.R_mono (Kd.R_far (p := ⟨gb109, 1, none⟩) (Kd.R_far (p := ⟨gb109, 0, none⟩) (Kd.R_mono HO_100001.out (fun k_ hk => (⟨hk, hk.2⟩ : _ ∧ k_ ≠ gb109))) (fun _ hk => hk.2) (.int .i64 ((rd_TTie l0_1 x15_1).f0))) (fun _ hk => hk.2) (.int .i64 ((rd_TTie l0_1 x15_1).f1))) (fun _ h_ => h_.1))) hb); replace BK103 := q0 (kf BK103.out hb); replace BK104 := q0 (kf BK104.out hb); replace BK107 := q0 (kf BK107.out hb); replace BK109 := q0 (blk_below (g := gb109) (o := .cells #[.int .i64 ((rd_TTie l0_1 x15_1).f0), .int .i64 ((rd_TTie l0_1 x15_1).f1)] 32 (0, 0)) (by (with_reducible repeat (first | refine blk_drewN ?_ _ | refine blk_drew ?_ | refine blk_alloc ?_ _)); refine blk_put (cs := #[.int .i64 ((rd_TTie l0_1 x15_1).f0), .int .i64 0]) ?_ 1 _ rfl; (with_reducible repeat (first | refine blk_drewN ?_ _ | refine blk_drew ?_ | refine blk_alloc ?_ _)); refine blk_put (cs := #[.int .i64 0, .int .i64 0]) ?_ 0 _ rfl; (with_reducible repeat (first | refine blk_drewN ?_ _ | refine blk_drew ?_ | refine blk_alloc ?_ _)); exact BK109.out) hb); replace HB := q0 (below_step (qb HB.out) hb); (try clear hb); (try clear hb2); (try clear hk); (try clear hi); have hnb33 := NB107_103.out; have hnc33 := NB103_107.out; have hnb34 := NB107_104.out; have hnc34 := NB104_107.out; have hcz35_0 : w32.cell? ⟨gb107, 0, none⟩ = some (.int .i64 a0_0) := (blk_cell BK107.out 0).trans rfl; have hcz35_1 : w32.cell? ⟨gb107, 1, none⟩ = some (u100001) := (blk_cell BK107.out 1).trans rfl; have hfz35_0 := blk_frozen BK107.out 0; have hfz35_1 := blk_frozen BK107.out 1; have hcz36_0 : w32.cell? ⟨gb109, 0, none⟩ = some (.int .i64 ((rd_TTie l0_1 x15_1).f0)) := (blk_cell BK109.out 0).trans rfl; have hcz36_1 : w32.cell? ⟨gb109, 1, none⟩ = some (.int .i64 ((rd_TTie l0_1 x15_1).f1)) := (blk_cell BK109.out 1).trans rfl; have hfz36_0 := blk_frozen BK109.out 0; have hfz36_1 := blk_frozen BK109.out 1) | ((with_reducible refine gate_builtin (b := .append) (xs := #[.tmp 24, .tmp 26]) rfl ?_); at_builtin; refine Kd.R_append kTie (w0 := w) w.heap.size rfl (.tmp 24) (.tmp 26) 23 32 (.agg #[(.int .i64 0), (.int .i64 0)]) 16 rfl Try.underlying23 info32 rfl (by decide) (by omega) u100001 x100001_1 (⟨(rd_TTie l0_1 x15_1).f0, (rd_TTie l0_1 x15_1).f1⟩ : STie) [.int .i64 ((rd_TTie l0_1 x15_1).f0), .int .i64 ((rd_TTie l0_1 x15_1).f1)] (fun k_ => k_ ≠ gb109) (fun _ => False) rfl rfl ?aP (fun _ hk => hk.elim) ?aF ?aO ?aB ?aS ?aL ?_; (case aP => exact kTie_mkM _ _ _ (⟨(rd_TTie l0_1 x15_1).f0, (rd_TTie l0_1 x15_1).f1⟩ : STie)); (case aB => exact (qb HB.out)); (case aF => exact (fun k_ hk => Kd.freshB (g := gb109) (o := .cells #[.int .i64 ((rd_TTie l0_1 x15_1).f0), .int .i64 ((rd_TTie l0_1 x15_1).f1)] 32 (0, 0)) (qk BK109.out) k_ hk)); (case aO => exact (by (with_reducible repeat (first | apply Kd.R_alloc | apply Kd.R_drewN | apply Kd.R_drew)); exact Kd.R_mono HO_100001.out (fun _ hk => hk.2))); (case aS => exact (below_size (qb HB.out))); (case aL => have := LMc26.out; omega); intro v111 w37 ho hb hg hat; rw [← Ny110.out] at ho; replace BK103 := q0 (blk_grown (g := gb103) (o := .cells #[.int .i64 a0_0, .slice (some ad100) l0_1.length c0_1] 25 (0, 0)) (qk BK103.out) hg (Kd.R_ne HO_100001.out BK103.out (by decide))); replace BK104 := q0 (blk_grown (g := gb104) (o := .cells #[.int .i64 0, .slice none 0 0] 25 (0, 0)) (qk BK104.out) hg (Kd.R_ne HO_100001.out BK104.out (by decide))); replace BK107 := q0 (blk_grown (g := gb107) (o := .cells #[.int .i64 a0_0, u100001] 25 (0, 0)) (qk BK107.out) hg (Kd.R_ne HO_100001.out BK107.out (by decide))); replace BK109 := q0 (blk_grown (g := gb109) (o := .cells #[.int .i64 ((rd_TTie l0_1 x15_1).f0), .int .i64 ((rd_TTie l0_1 x15_1).f1)] 32 (0, 0)) (qk BK109.out) hg (Kd.R_away HO_100001.out (fun _ hk => hk.2))); replace HB := q0 (hb); have HO112 := q0 (ho); clear HO_100001; clear ho hb hg hat; obtain ⟨Ao38, co38, eo38⟩ := Kd.R_slice HO112.out; subst eo38; have hcz39_0 : w37.cell? ⟨gb107, 0, none⟩ = some (.int .i64 a0_0) := (blk_cell BK107.out 0).trans rfl; have hcz39_1 : w37.cell? ⟨gb107, 1, none⟩ = some (u100001) := (blk_cell BK107.out 1).trans rfl; have hfz39_0 := blk_frozen BK107.out 0; have hfz39_1 := blk_frozen BK107.out 1))
 go_roundg k1
 case measure => have := HK1.out; omega
 case rel => exact ⟨(wrap64 (x15_1 + 1)), (y110), (.slice Ao38 y110.length co38), qs, H', ⟨by have := HK1.out; omega⟩, ⟨by (with_reducible repeat (first | apply Kd.R_alloc | apply Kd.R_drewN | apply Kd.R_drew)); exact Kd.R_mono (Kd.R_far (p := ⟨gb107, 1, none⟩) (Kd.R_types HO112.out BK107.out (by decide)) (fun _ hk => hk.2) (.slice Ao38 y110.length co38)) (fun _ hk => trivial)⟩, ⟨qf BK103.out⟩, ⟨qf BK104.out⟩, ⟨by (with_reducible repeat (first | refine blk_drewN ?_ _ | refine blk_drew ?_ | refine blk_alloc ?_ _)); refine blk_put (cs := #[.int .i64 a0_0, u100001]) ?_ 1 _ rfl; (with_reducible repeat (first | refine blk_drewN ?_ _ | refine blk_drew ?_ | refine blk_alloc ?_ _)); exact BK107.out⟩, ⟨qb HB.out⟩⟩

def impl_NetCut.T3 : Bool × List (List Nat × List Nat) := (true, [([], []), ([], []), ([], []), ([1, 2], [1, 2]), ([3], [3]), ([0, 4, 3], [0, 4]), ([5, 5, 0, 1, 2, 3, 4, 5], [5]), ([6, 0, 1, 2, 3, 4, 5, 6], [])])
def impl_NetCut.B3 : List Nat := [0, 0, 0, 6, 14, 31, 63, 127]
theorem impl_NetCut.tab3 : rtab .any (opsOf Try.f18 3) = impl_NetCut.T3 := by kernel_rfl
theorem impl_NetCut.bits3 : waitsOk impl_NetCut.T3.2 impl_NetCut.B3 = true := by kernel_rfl
set_option maxHeartbeats 8000000 in
set_option maxRecDepth 100000 in
theorem impl_NetCut.calls (k : Nat) (a0_0 : Int) (A0_1 : Option Addr) (c0_1 : Nat) (l0_1 : List (STie)) (a1 : Int) (a2 : Int) (r1 : Int) (r2 : List (STie)) (r3 : Bool) (w : World) (hr0_1 : Kd.C kTie w A0_1 l0_1.length l0_1) (hc0_1 : l0_1.length ≤ c0_1) (h : impl_NetCut.f k a0_0 l0_1 a1 a2 = some (r1, r2, r3)) :
    Calls Try.prog 18 #[.agg #[.int .i64 a0_0, .slice A0_1 l0_1.length c0_1], .int .i64 a1, .int .i64 a2] w fun e w' => ∃ v1_ : Value, e = .returned (.tuple #[.agg #[.int .i64 r1, v1_], .bool r3]) ∧ Kd.R kTie 32 w' w.heap.size (fun _ => True) v1_ r2 ∧ Below w.heap.size w w' := by
 have hu25 := Try.underlying25
 have HR0_1 := Aside0.mk hr0_1
 have HC0_1 := Aside0.mk hc0_1
 clear hr0_1 hc0_1
 have HB := q0 (Below.refl w.heap.size w)
 have H : ((impl_NetHas.f k a0_0 l0_1 a1 a2).bind fun t100 => (if t100 = true then ((impl_tie.f a1 a2).bind fun bt101 => ((impl_Net_less.f k a0_0 l0_1 (([(⟨bt101.1, bt101.2⟩ : STie)] : List (STie)))).bind fun bt102 => (some (bt102.1, bt102.2, true)))) else (some (0, ([] : List (STie)), false)))) = some (r1, r2, r3) := h
 clear h
 replace H := Option.bind_eq_some_iff.mp H
 obtain ⟨t100, A40, H⟩ := H
 have A4 := Aside0.mk A40
 clear A40
 by_cases c5 : t100 = true
 rotate_left
 · replace c5 := Bool.eq_false_iff.mpr c5
   subst c5
   rw [if_neg nf] at H
   simp only [Option.some.injEq, Prod.mk.injEq] at H
   obtain ⟨rfl, rfl, rfl⟩ := H
   go_enter Try.func18, Try.ntmps18
   go_wp2_with (first | ((with_reducible refine gate_dst (N := 3) rfl ?_); refine be 3 #[.int .i64 a0_0, .slice A0_1 l0_1.length c0_1] 25 ?_; intro gb106 hg w22 hbox hb; have BK106 := q0 (hbox); have GW106 := q0 ((bs HB.out hg : w.heap.size ≤ gb106)); have GE106 := q0 ((bs HB.out hg : w.heap.size ≤ gb106)); replace HB := q0 (below_step (qb HB.out) hb); clear hb hbox hg) | ((with_reducible refine gate_dst (N := 6) rfl ?_); refine be 6 #[.int .i64 0, .slice none 0 0] 25 ?_; intro gb107 hg w23 hbox hb; have BK107 := q0 (hbox); have GW107 := q0 ((bs HB.out hg : w.heap.size ≤ gb107)); have GE107 := q0 ((bs HB.out hg : w.heap.size ≤ gb107)); replace HB := q0 (below_step (qb HB.out) hb); have NB106_107 := q0 ((bl BK106.out hg : gb106 ≠ gb107)); have NB107_106 := q0 ((bg BK106.out hg : gb107 ≠ gb106)); replace BK106 := q0 (kb BK106.out hb); clear hb hbox hg; have hnb24 := NB106_107.out; have hnc24 := NB107_106.out; have hcz25_0 : w23.cell? ⟨gb106, 0, none⟩ = some (.int .i64 a0_0) := (blk_cell BK106.out 0).trans rfl; have hcz25_1 : w23.cell? ⟨gb106, 1, none⟩ = some (.slice A0_1 l0_1.length c0_1) := (blk_cell BK106.out 1).trans rfl; have hfz25_0 := blk_frozen BK106.out 0; have hfz25_1 := blk_frozen BK106.out 1) | ((with_reducible refine gate_callee (f := 38) rfl ?_); refine gl 11 Try.func38 #[.agg #[.int .i64 a0_0, .slice A0_1 l0_1.length c0_1], .int .i64 a1, .int .i64 a2] ?_; (with_reducible refine (impl_NetHas.calls k a0_0 _ _ l0_1 a1 a2 false _ ?side1 ?side2 A4.out).mono ?_); (case side1 => exact qc (Kd.C_below HR0_1.out HB.out)); (case side2 => exact HC0_1.out); rintro e w26 ⟨rfl, hb⟩; refine ⟨_, rfl, ?_⟩; replace BK106 := q0 (kb BK106.out hb); replace BK107 := q0 (kb BK107.out hb); replace HB := q0 (below_step (qb HB.out) hb); (try clear hb); (try clear hb2); (try clear hk); (try clear hi); have hcz27_0 : w26.cell? ⟨gb107, 0, none⟩ = some (.int .i64 0) := (blk_cell BK107.out 0).trans rfl; have hcz27_1 : w26.cell? ⟨gb107, 1, none⟩ = some (.slice none 0 0) := (blk_cell BK107.out 1).trans rfl; have hfz27_0 := blk_frozen BK107.out 0; have hfz27_1 := blk_frozen BK107.out 1))
   refine bodyPost_ret (results_ct rfl _ _ gb107 25 #[.int .i64 0, .slice none 0 0] (0, 0) _ rfl (by (with_reducible repeat (first | refine blk_drewN ?_ _ | refine blk_drew ?_ | refine blk_alloc ?_ _)); refine blk_put (cs := #[.int .i64 0, .slice none 0 0]) ?_ 1 _ rfl; (with_reducible repeat (first | refine blk_drewN ?_ _ | refine blk_drew ?_ | refine blk_alloc ?_ _)); refine blk_put (cs := #[.int .i64 0, .slice none 0 0]) ?_ 0 _ rfl; (with_reducible repeat (first | refine blk_drewN ?_ _ | refine blk_drew ?_ | refine blk_alloc ?_ _)); exact BK107.out) Try.underlying25 rfl (by kernel_rfl)) rfl ?_
   exact ⟨_, qe, by first | exact Kd.R_nil _ _ _ _ _ | exact Kd.N_nil _ _ _ _ _ | exact Kd.V_nil _ _ _ _ _ | exact Kd.Q_nil _ _ _ _ _ | exact Kd.S_nil _ _ _ _ _, qb HB.out⟩
 subst c5
 rw [if_pos rfl] at H
 replace H := Option.bind_eq_some_iff.mp H
 obtain ⟨⟨t101, t103⟩, A60, H⟩ := H
 have A6 := Aside0.mk A60
 clear A60
 obtain ⟨y104, hy104⟩ : ∃ y_ : List (STie), y_ = (([(⟨t101, t103⟩ : STie)] : List (STie))) := ⟨_, rfl⟩
 replace H : ((impl_Net_less.f k a0_0 l0_1 y104).bind fun bt102 => (some (bt102.1, bt102.2, true))) = some (r1, r2, r3) := qy H hy104
 have Ny104 := Aside0.mk hy104
 clear hy104
 replace H := Option.bind_eq_some_iff.mp H
 obtain ⟨⟨t102, t105⟩, A70, H⟩ := H
 have A7 := Aside0.mk A70
 clear A70
 simp only [Option.some.injEq, Prod.mk.injEq] at H
 obtain ⟨rfl, rfl, rfl⟩ := H
 go_enter Try.func18, Try.ntmps18
 try go_wp2_with (first | ((with_reducible refine gate_dst (N := 3) rfl ?_); refine be 3 #[.int .i64 a0_0, .slice A0_1 l0_1.length c0_1] 25 ?_; intro gb106 hg w8 hbox hb; have BK106 := q0 (hbox); have GW106 := q0 ((bs HB.out hg : w.heap.size ≤ gb106)); have GE106 := q0 ((bs HB.out hg : w.heap.size ≤ gb106)); replace HB := q0 (below_step (qb HB.out) hb); clear hb hbox hg) | ((with_reducible refine gate_dst (N := 6) rfl ?_); refine be 6 #[.int .i64 0, .slice none 0 0] 25 ?_; intro gb107 hg w9 hbox hb; have BK107 := q0 (hbox); have GW107 := q0 ((bs HB.out hg : w.heap.size ≤ gb107)); have GE107 := q0 ((bs HB.out hg : w.heap.size ≤ gb107)); replace HB := q0 (below_step (qb HB.out) hb); have NB106_107 := q0 ((bl BK106.out hg : gb106 ≠ gb107)); have NB107_106 := q0 ((bg BK106.out hg : gb107 ≠ gb106)); replace BK106 := q0 (kb BK106.out hb); clear hb hbox hg; have hnb10 := NB106_107.out; have hnc10 := NB107_106.out; have hcz11_0 : w9.cell? ⟨gb106, 0, none⟩ = some (.int .i64 a0_0) := (blk_cell BK106.out 0).trans rfl; have hcz11_1 : w9.cell? ⟨gb106, 1, none⟩ = some (.slice A0_1 l0_1.length c0_1) := (blk_cell BK106.out 1).trans rfl; have hfz11_0 := blk_frozen BK106.out 0; have hfz11_1 := blk_frozen BK106.out 1) | ((with_reducible refine gate_callee (f := 38) rfl ?_); refine gl 11 Try.func38 #[.agg #[.int .i64 a0_0, .slice A0_1 l0_1.length c0_1], .int .i64 a1, .int .i64 a2] ?_; (with_reducible refine (impl_NetHas.calls k a0_0 _ _ l0_1 a1 a2 true _ ?side1 ?side2 A4.out).mono ?_); (case side1 => exact qc (Kd.C_below HR0_1.out HB.out)); (case side2 => exact HC0_1.out); rintro e w12 ⟨rfl, hb⟩; refine ⟨_, rfl, ?_⟩; replace BK106 := q0 (kb BK106.out hb); replace BK107 := q0 (kb BK107.out hb); replace HB := q0 (below_step (qb HB.out) hb); (try clear hb); (try clear hb2); (try clear hk); (try clear hi)))
 replace BK106 := q0 (blk_drew BK106.out)
 replace BK107 := q0 (blk_drew BK107.out)
 replace HB := q0 (below_drew1 HB.out)
 refine start_ (n := 8) (S := fun w' => w'.cell? ⟨gb106, 0, none⟩ = some (.int .i64 a0_0) ∧ w'.cell? ⟨gb106, 1, none⟩ = some (.slice A0_1 l0_1.length c0_1)) (ds := []) (ba 8 0) (by kernel_rfl) rfl (by kernel_rfl) ⟨(blk_cell BK106.out 0).trans rfl, (blk_cell BK106.out 1).trans rfl⟩ (fun hHeld => ?_); refine with_tabW impl_NetCut.tab3 impl_NetCut.bits3 (fun HT_ HW_ => ?_)
 generalize w12.drew = w13 at BK106 BK107 HB hHeld ⊢
 refine pu 1 (some 15) (ba 8 2) HT_.out ?_
 refine pu 2 (some 16) (ba 8 6) HT_.out ?_
 refine tu 0 (some 14) (ba 8 7) HT_.out HW_.out hHeld ?_
 refine one_ (i := 3) (N := some 17) (ba 8 15) rfl rfl (one_of HT_.out (by kernel_rfl)) (by decide) (fun K hK => ?_)
 refine goes_ Try.func56 (by kernel_rfl) rfl #[.int .i64 a1, .int .i64 a2] (by rfl) rfl rfl qm ?_
 with_reducible refine (impl_tie.calls a1 a2 t101 t103 _ A6.out).mono ?_
 rintro e w14 ⟨rfl, hb⟩
 refine ⟨_, rfl, ?_⟩
 replace BK106 := q0 (kb BK106.out hb)
 replace BK107 := q0 (kb BK107.out hb)
 replace HB := q0 (below_step (qb HB.out) hb)
 (try clear hb)
 (try clear hb2)
 (try clear hk)
 (try clear hi)
 refine hK.out _ _ ⟨(blk_cell BK106.out 0).trans rfl, (blk_cell BK106.out 1).trans rfl⟩ (fun hHeld => ?_)
 clear hK K
 refine nu 17 ?_
 refine one_ (i := 4) (N := some 18) (ba 8 31) rfl rfl (one_of HT_.out (by kernel_rfl)) (by decide) (fun K hK => ?_)
 refine Kd.R_lit_step kTie _ 32 ?hg (N := 18) ?hd (xs := ([(⟨t101, t103⟩ : STie)] : List (STie))) (inner := [.int .i64 t101, .int .i64 t103]) (ok := fun _ => True) (okp := fun _ => True) ?hr ?hp (fun _ hk => hk) trivial (Below.refl _ _) (Nat.le_refl _) (by simp) ?_; (case hd => rfl); (case hg => rfl); (case hr => first | (go_simp; done) | (go_simp; rfl)); (case hp => exact (Reps.c2 (show Kd.M kTie _ _ _ (⟨t101, t103⟩ : STie) [.int .i64 t101, .int .i64 t103] from (kTie_mkM _ _ _ (⟨t101, t103⟩ : STie) )) (Reps.none _ _)))
 intro v108 w15 ho16 hb hg_ hnew_
 clear hg_ hnew_
 (first | rw [← Ny104.out] at ho16 | (simp only [Int.reduceToNat] at ho16; rw [← Ny104.out] at ho16))
 have HO109 := q0 (Kd.R_lower ho16 (below_size (qb HB.out)))
 replace BK106 := q0 (kb BK106.out hb)
 replace BK107 := q0 (kb BK107.out hb)
 replace HB := q0 (below_step (qb HB.out) hb)
 clear hb ho16
 obtain ⟨Ao17, co17, eo17⟩ := Kd.R_slice HO109.out
 (first | subst eo17 | (injection eo17 with f1_ f2_ f3_; have f4_ := f1_.symm; have f5_ := f3_.symm; clear f1_ f2_ f3_; subst f4_; subst f5_))
 refine hK.out _ _ ⟨(blk_cell BK106.out 0).trans rfl, (blk_cell BK106.out 1).trans rfl⟩ (fun hHeld => ?_)
 clear hK K
 refine nu 18 ?_
 refine one_ (i := 5) (N := some 19) (ba 8 63) rfl rfl (one_of HT_.out (by kernel_rfl)) (by decide) (fun K hK => ?_)
 refine goes_ Try.func55 (by kernel_rfl) rfl #[.agg #[.int .i64 a0_0, .slice A0_1 l0_1.length c0_1], .slice Ao17 y104.length co17] (by rfl) rfl rfl qm ?_
 with_reducible refine (impl_Net_less.calls k a0_0 _ _ l0_1 _ _ y104 t102 t105 _ ?side1 ?side2 ?side3 ?side4 A7.out).mono ?_
 (case side1 => exact qc (Kd.C_below HR0_1.out HB.out))
 (case side2 => exact HC0_1.out)
 (case side3 => exact qc (Kd.R_reads' HO109.out).2.2)
 (case side4 => exact (Kd.R_reads' HO109.out).2.1)
 rintro e w18 ⟨v110, rfl, ho0, hb⟩
 refine ⟨_, rfl, ?_⟩
 have HO111 := q0 (Kd.R_lower (Kd.R_new' ho0 (Kd.R_lt (qr HO109.out))) (below_size (qb HB.out)))
 replace HO109 := q0 (Kd.R_elder' (qr HO109.out) (Kd.R_base ho0) hb)
 replace BK106 := q0 (kb BK106.out hb)
 replace BK107 := q0 (kb BK107.out hb)
 replace HB := q0 (below_step (qb HB.out) hb)
 (try clear hb)
 (try clear hb2)
 (try clear hk)
 (try clear hi)
 (try clear ho0)
 obtain ⟨Ao20, co20, eo20⟩ := Kd.R_slice HO111.out
 (first | subst eo20 | (injection eo20 with f1_ f2_ f3_; have f4_ := f1_.symm; have f5_ := f3_.symm; clear f1_ f2_ f3_; subst f4_; subst f5_))
 refine hK.out _ _ ⟨(blk_cell BK106.out 0).trans rfl, (blk_cell BK106.out 1).trans rfl⟩ (fun hHeld => ?_)
 clear hK K
 refine nu 19 ?_
 refine one_ (i := 6) (N := none) (ba 8 127) rfl rfl (one_of HT_.out (by kernel_rfl)) (by decide) (fun K hK => ?_)
 have hs19 : w18.cell? ⟨gb107, 0, none⟩ = some (.int .i64 0) := (blk_cell BK107.out 0).trans rfl
 have hfs19 := blk_frozen BK107.out 0
 have hns19_0 := NB106_107.out
 have hms19_0 := NB107_106.out
 have hs21 : w18.cell? ⟨gb107, 1, none⟩ = some (.slice none 0 0) := (blk_cell BK107.out 1).trans rfl
 have hfs21 := blk_frozen BK107.out 1
 have hns21_0 := NB106_107.out
 have hms21_0 := NB107_106.out
 refine skip_ (w1 := ?_) (by rfl) rfl ?_ ?_
 rotate_left
 · go_simp
   rfl
 refine hK.out _ _ ⟨((cell_far (p := ⟨gb107, _, none⟩) NB106_107.out _).trans (((cell_far (p := ⟨gb107, _, none⟩) NB106_107.out _).trans (hHeld.1)))), ((cell_far (p := ⟨gb107, _, none⟩) NB106_107.out _).trans (((cell_far (p := ⟨gb107, _, none⟩) NB106_107.out _).trans (hHeld.2))))⟩ (fun hHeld => ?_)
 clear hK K
 refine pu 7 (some 7) (ba 8 255) HT_.out ?_
 refine done_ (done_of HT_.out (by kernel_rfl)) ?_
 try go_wp2
 refine bodyPost_ret (results_ct rfl _ _ gb107 25 #[.int .i64 t102, .slice Ao20 t105.length co20] (0, 0) _ rfl (by (with_reducible repeat (first | refine blk_drewN ?_ _ | refine blk_drew ?_ | refine blk_alloc ?_ _)); refine blk_put (cs := #[.int .i64 t102, .slice none 0 0]) ?_ 1 _ rfl; (with_reducible repeat (first | refine blk_drewN ?_ _ | refine blk_drew ?_ | refine blk_alloc ?_ _)); refine blk_put (cs := #[.int .i64 0, .slice none 0 0]) ?_ 0 _ rfl; (with_reducible repeat (first | refine blk_drewN ?_ _ | refine blk_drew ?_ | refine blk_alloc ?_ _)); exact BK107.out) Try.underlying25 rfl (by kernel_rfl)) rfl ?_
 exact ⟨_, qe, by (with_reducible repeat (first | apply Kd.R_alloc | apply Kd.R_drewN | apply Kd.R_drew)); exact rf2 HO111.out BK107.out (fun _ hk => trivial), qb HB.out⟩

end Go.Proofs.Ytgoembpmhlmafaa.P
