import Derived.Test.YtheoebelhgbejabP0
import Derived.Test.YtheoebelhgbejabP1
namespace Go.Proofs.Ytheoebelhgbejab.P
open Go.RowKit Go.Proofs.YtheoebelhgbejabW.PrintWords Go.Proofs.YtheoebelhgbejabW.PrintLast Go.Proofs.YtheoebelhgbejabW.PrintMore
attribute [local go_sem] max2_int min2_int max_two min_two max_three min_three max_four min_four
set_option linter.unusedVariables false
set_option linter.unusedSimpArgs false
attribute [local go_sem high] eqATie
set_option maxHeartbeats 8000000 in
set_option maxRecDepth 100000 in
theorem impl_Net_tree.calls (k : Nat) (a0_0 : Int) (A0_1 : Option Addr) (c0_1 : Nat) (l0_1 : List (STie)) (r1 : Int) (r2 : List (STie)) (w : World) (hr0_1 : Kd.C kTie w A0_1 l0_1.length l0_1) (hc0_1 : l0_1.length ≤ c0_1) (h : impl_Net_tree.f k a0_0 l0_1 = some (r1, r2)) :
    Calls Try.prog 61 #[.agg #[.int .i64 a0_0, .slice A0_1 l0_1.length c0_1]] w fun e w' => ∃ v1_ : Value, e = .returned (.agg #[.int .i64 r1, v1_]) ∧ Kd.R kTie 27 w' w.heap.size (fun _ => True) v1_ r2 ∧ Below w.heap.size w w' := by
 have hu32 := Try.underlying32
 have hu27 := Try.underlying27
 have HR0_1 := Aside0.mk hr0_1
 have HC0_1 := Aside0.mk hc0_1
 clear hr0_1 hc0_1
 have HB := q0 (Below.refl w.heap.size w)
 have H : (impl_Net_tree.l0 k l0_1 (l0_1.length : Int) 0 a0_0 (([] : List (STie)))) = some (r1, r2) := h
 clear h
 obtain ⟨y102, hy102⟩ : ∃ y_ : List (STie), y_ = (([] : List (STie))) := ⟨_, rfl⟩
 replace H : (impl_Net_tree.l0 k l0_1 (l0_1.length : Int) 0 a0_0 y102) = some (r1, r2) := by first | (rw [hy102]; with_reducible exact H) | (have H2_ := (Option.bind_some _ _).symm.trans H; rw [hy102]; with_reducible exact H2_) | (have H2_ := (Option.bind_some _ _).symm.trans H; with_reducible exact H2_) | with_reducible exact H | (rw [hy102]; exact H) | exact H
 have Ny102 := Aside0.mk hy102
 clear hy102
 have H' := Aside0.mk H
 clear H
 go_enter Try.func61, Try.ntmps61
 go_wp2_with (first | ((with_reducible refine gate_dst (N := 1) rfl ?_); refine be 1 #[.int .i64 a0_0, .slice A0_1 l0_1.length c0_1] 32 ?_; intro gb103 hg w2 hbox hb; have n0_ := q0 (below_step (qb HB.out) hb); have n1_ := q0 (hbox); have n2_ := q0 ((bs HB.out hg : w.heap.size ≤ gb103)); have n3_ := q0 ((bs HB.out hg : w.heap.size ≤ gb103)); clear HB; have HB := n0_; have BK103 := n1_; have GW103 := n2_; have GE103 := n3_; clear n0_ n1_ n2_ n3_ hb hbox hg) | ((with_reducible refine gate_dst (N := 2) rfl ?_); refine be 2 #[.int .i64 0, .slice none 0 0] 32 ?_; intro gb104 hg w3 hbox hb; have n0_ := q0 (kb BK103.out hb); have n1_ := q0 (below_step (qb HB.out) hb); have n2_ := q0 (hbox); have n3_ := q0 ((bs HB.out hg : w.heap.size ≤ gb104)); have n4_ := q0 ((bs HB.out hg : w.heap.size ≤ gb104)); have n5_ := q0 ((bl BK103.out hg : gb103 ≠ gb104)); have n6_ := q0 ((bg BK103.out hg : gb104 ≠ gb103)); clear BK103 HB; have BK103 := n0_; have HB := n1_; have BK104 := n2_; have GW104 := n3_; have GE104 := n4_; have NB103_104 := n5_; have NB104_103 := n6_; clear n0_ n1_ n2_ n3_ n4_ n5_ n6_ hb hbox hg; have hnb4 := NB103_104.out; have hnc4 := NB104_103.out; have hcz5_0 : w3.cell? ⟨gb103, 0, none⟩ = some (.int .i64 a0_0) := (blk_cell BK103.out 0).trans rfl; have hcz5_1 : w3.cell? ⟨gb103, 1, none⟩ = some (.slice A0_1 l0_1.length c0_1) := (blk_cell BK103.out 1).trans rfl; have hfz5_0 := blk_frozen BK103.out 0; have hfz5_1 := blk_frozen BK103.out 1) | ((with_reducible refine gate_dst (N := 8) rfl ?_); refine Kd.R_lit kTie _ 27 ?hg (N := 8) ?hd (xs := ([] : List (STie))) (inner := []) (ok := fun _ => True) (okp := fun _ => True) ?hr ?hp (fun _ hk => hk) trivial (Below.refl _ _) (Nat.le_refl _) (by simp) ?_; (case hd => rfl); (case hg => rfl); (case hr => first | (go_simp; done) | (go_simp; rfl)); (case hp => exact (Reps.none _ _)); intro v105 w6 ho7 hb hg_ hnew_; clear hg_ hnew_; (first | rw [← Ny102.out] at ho7 | (simp only [Int.reduceToNat] at ho7; rw [← Ny102.out] at ho7)); have n0_ := q0 (Kd.R_lower ho7 (below_size (qb HB.out))); have n1_ := q0 (kb BK103.out hb); have n2_ := q0 (kb BK104.out hb); have n3_ := q0 (below_step (qb HB.out) hb); clear BK103 BK104 HB; have HO106 := n0_; have BK103 := n1_; have BK104 := n2_; have HB := n3_; clear n0_ n1_ n2_ n3_ hb ho7; obtain ⟨Ao8, co8, eo8⟩ := Kd.R_slice HO106.out; subst eo8) | ((with_reducible refine gate_dst (N := 3) rfl ?_); refine be 3 #[.int .i64 0, .slice none 0 0] 32 ?_; intro gb107 hg w9 hbox hb; have n0_ := q0 (Kd.R_below (qr HO106.out) hb); have n1_ := q0 (kb BK103.out hb); have n2_ := q0 (kb BK104.out hb); have n3_ := q0 (below_step (qb HB.out) hb); have n4_ := q0 (hbox); have n5_ := q0 ((bs HB.out hg : w.heap.size ≤ gb107)); have n6_ := q0 ((bs HB.out hg : w.heap.size ≤ gb107)); have n7_ := q0 ((bl BK103.out hg : gb103 ≠ gb107)); have n8_ := q0 ((bg BK103.out hg : gb107 ≠ gb103)); have n9_ := q0 ((bl BK104.out hg : gb104 ≠ gb107)); have n10_ := q0 ((bg BK104.out hg : gb107 ≠ gb104)); clear HO106 BK103 BK104 HB; have HO106 := n0_; have BK103 := n1_; have BK104 := n2_; have HB := n3_; have BK107 := n4_; have GW107 := n5_; have GE107 := n6_; have NB103_107 := n7_; have NB107_103 := n8_; have NB104_107 := n9_; have NB107_104 := n10_; clear n0_ n1_ n2_ n3_ n4_ n5_ n6_ n7_ n8_ n9_ n10_ hb hbox hg; have hnb10 := NB107_103.out; have hnc10 := NB103_107.out; have hnb11 := NB107_104.out; have hnc11 := NB104_107.out; have hcz12_0 : w9.cell? ⟨gb107, 0, none⟩ = some (.int .i64 0) := (blk_cell BK107.out 0).trans rfl; have hcz12_1 : w9.cell? ⟨gb107, 1, none⟩ = some (.slice none 0 0) := (blk_cell BK107.out 1).trans rfl; have hfz12_0 := blk_frozen BK107.out 0; have hfz12_1 := blk_frozen BK107.out 1; have hcz13_0 : w9.cell? ⟨gb103, 0, none⟩ = some (.int .i64 a0_0) := (blk_cell BK103.out 0).trans rfl; have hcz13_1 : w9.cell? ⟨gb103, 1, none⟩ = some (.slice A0_1 l0_1.length c0_1) := (blk_cell BK103.out 1).trans rfl; have hfz13_0 := blk_frozen BK103.out 0; have hfz13_1 := blk_frozen BK103.out 1))
 go_loopg [13] k (fun kq v13 w' => ∃ (x13_1 : Int) (x100001_1 : List (STie)) (u100001 : Value), v13 = .int .i64 x13_1 ∧ Aside0 (impl_Net_tree.l0 kq l0_1 (l0_1.length : Int) x13_1 a0_0 x100001_1 = some (r1, r2)) ∧ Aside0 (kq ≤ k) ∧ Aside0 (Kd.R kTie 27 w' w.heap.size (fun _ => True) u100001 x100001_1) ∧ Aside0 (w'.heap[gb103]? = some (.cells #[.int .i64 a0_0, (.slice A0_1 l0_1.length c0_1)] 32 (0, 0))) ∧ Aside0 (w'.heap[gb104]? = some (.cells #[.int .i64 0, (.slice none 0 0)] 32 (0, 0))) ∧ Aside0 (w'.heap[gb107]? = some (.cells #[.int .i64 a0_0, u100001] 32 (0, 0))) ∧ Aside0 (Below w.heap.size w w'))
 case atStart => exact ⟨(0), (y102), (.slice Ao8 y102.length co8), qs, H', ⟨Nat.le_refl _⟩, ⟨by (with_reducible repeat (first | apply Kd.R_alloc | apply Kd.R_drewN | apply Kd.R_drew)); exact Kd.R_mono (Kd.R_far (p := ⟨gb107, 1, none⟩) (Kd.R_far (p := ⟨gb107, 0, none⟩) (Kd.R_types HO106.out BK107.out (by decide)) (fun _ hk => hk.2) (.int .i64 a0_0)) (fun _ hk => hk.2) (.slice Ao8 y102.length co8)) (fun _ hk => trivial)⟩, ⟨qf BK103.out⟩, ⟨qf BK104.out⟩, ⟨by (with_reducible repeat (first | refine blk_drewN ?_ _ | refine blk_drew ?_ | refine blk_alloc ?_ _)); refine blk_put (cs := #[.int .i64 a0_0, .slice none 0 0]) ?_ 1 _ rfl; (with_reducible repeat (first | refine blk_drewN ?_ _ | refine blk_drew ?_ | refine blk_alloc ?_ _)); refine blk_put (cs := #[.int .i64 0, .slice none 0 0]) ?_ 0 _ rfl; (with_reducible repeat (first | refine blk_drewN ?_ _ | refine blk_drew ?_ | refine blk_alloc ?_ _)); exact BK107.out⟩, ⟨qb HB.out⟩⟩
 clear H'
 try clear c1
 try clear p2
 try clear c4
 try clear c6
 try clear c10
 try clear c11
 try clear hcz12_0
 try clear hcz12_1
 try clear hcz13_0
 try clear hcz13_1
 try clear hcz5_0
 try clear hcz5_1
 try clear hfz12_0
 try clear hfz12_1
 try clear hfz13_0
 try clear hfz13_1
 try clear hfz5_0
 try clear hfz5_1
 obtain ⟨x13_1, x100001_1, u100001, rfl, HA, HK1, HO_100001, BK103, BK104, BK107, HB⟩ := hrel
 rcases gk with _ | k1
 · exact absurd HA.out (by simp [impl_Net_tree.l0])
 have H := HA.out
 clear HA
 simp only [impl_Net_tree.l0] at H
 by_cases c14 : x13_1 < (l0_1.length : Int)
 rotate_left
 · rw [if_neg c14] at H
   have c14b0 : decide (x13_1 < (l0_1.length : Int)) = false := decide_eq_false c14
   clear c14
   simp only [Option.some.injEq, Prod.mk.injEq] at H
   obtain ⟨rfl, rfl⟩ := H
   have hnb45 := NB107_103.out
   have hnc45 := NB103_107.out
   have hnb46 := NB107_104.out
   have hnc46 := NB104_107.out
   have hcz47_0 : wr.cell? ⟨gb107, 0, none⟩ = some (.int .i64 a0_0) := (blk_cell BK107.out 0).trans rfl
   have hcz47_1 : wr.cell? ⟨gb107, 1, none⟩ = some (u100001) := (blk_cell BK107.out 1).trans rfl
   have hfz47_0 := blk_frozen BK107.out 0
   have hfz47_1 := blk_frozen BK107.out 1
   have hnb48 := NB104_103.out
   have hnc48 := NB103_104.out
   have hcz49_0 : wr.cell? ⟨gb104, 0, none⟩ = some (.int .i64 0) := (blk_cell BK104.out 0).trans rfl
   have hcz49_1 : wr.cell? ⟨gb104, 1, none⟩ = some (.slice none 0 0) := (blk_cell BK104.out 1).trans rfl
   have hfz49_0 := blk_frozen BK104.out 0
   have hfz49_1 := blk_frozen BK104.out 1
   obtain ⟨Ao50, co50, eo50⟩ := Kd.R_slice HO_100001.out
   subst eo50
   go_wp2
   refine bodyPost_ret (results_cell_row rfl _ _ gb104 32 #[.int .i64 a0_0, .slice Ao50 x100001_1.length co50] (0, 0) _ rfl (by (with_reducible repeat (first | refine blk_drewN ?_ _ | refine blk_drew ?_ | refine blk_alloc ?_ _)); refine blk_put (cs := #[.int .i64 a0_0, .slice none 0 0]) ?_ 1 _ rfl; (with_reducible repeat (first | refine blk_drewN ?_ _ | refine blk_drew ?_ | refine blk_alloc ?_ _)); refine blk_put (cs := #[.int .i64 0, .slice none 0 0]) ?_ 0 _ rfl; (with_reducible repeat (first | refine blk_drewN ?_ _ | refine blk_drew ?_ | refine blk_alloc ?_ _)); exact BK104.out) Try.underlying32 rfl (by kernel_rfl)) rfl ?_
   exact ⟨_, qe, by (with_reducible repeat (first | apply Kd.R_alloc | apply Kd.R_drewN | apply Kd.R_drew)); exact Kd.R_mono (Kd.R_far (p := ⟨gb104, 1, none⟩) (Kd.R_far (p := ⟨gb104, 0, none⟩) (Kd.R_types HO_100001.out BK104.out (by decide)) (fun _ hk => hk.2) (.int .i64 a0_0)) (fun _ hk => hk.2) (.slice Ao50 x100001_1.length co50)) (fun _ hk => trivial), qb HB.out⟩
 rw [if_pos c14] at H
 have c14b0 : decide (x13_1 < (l0_1.length : Int)) = true := decide_eq_true c14
 clear c14
 by_cases c15 : 0 ≤ x13_1
 rotate_left
 · rw [if_neg c15] at H
   exact absurd H (by simp)
 rw [if_pos c15] at H
 have c15b0 : decide (0 ≤ x13_1) = true := decide_eq_true c15
 clear c15
 by_cases c16 : x13_1 < (l0_1.length : Int)
 rotate_left
 · rw [if_neg c16] at H
   exact absurd H (by simp)
 rw [if_pos c16] at H
 have c16b0 : decide (x13_1 < (l0_1.length : Int)) = true := decide_eq_true c16
 clear c16
 replace H := Option.bind_eq_some_iff.mp H
 obtain ⟨t101, A108, H⟩ := H
 replace H : (if t101 = true then (impl_Net_tree.l0 k1 l0_1 (l0_1.length : Int) (wrap64 (x13_1 + 1)) a0_0 x100001_1) else (if x100001_1.length < 8796093022208 then (impl_Net_tree.l0 k1 l0_1 (l0_1.length : Int) (wrap64 (x13_1 + 1)) a0_0 (x100001_1 ++ [(⟨(rd_TTie l0_1 x13_1).f0, (rd_TTie l0_1 x13_1).f1⟩ : STie)])) else (none))) = some (r1, r2) := H
 have A17 := Aside0.mk A108
 clear A108
 by_cases c18 : t101 = true
 · subst c18
   have H1 : (impl_Net_tree.l0 k1 l0_1 (l0_1.length : Int) (wrap64 (x13_1 + 1)) a0_0 x100001_1) = some (r1, r2) := by rw [if_pos rfl] at H; exact H
   clear H
   have H := H1
   clear H1
   have H' := Aside0.mk H
   clear H
   have p100 : 0 ≤ (x13_1 : Int) := of_decide_eq_true qa
   have q100 : x13_1 < (l0_1.length : Int) := of_decide_eq_true qa
   obtain ⟨ad100, e100, hx100_0, hx100_1⟩ := at_TTie HR0_1.out x13_1 p100 q100
   cases e100
   replace hx100_0 := (HB.out.cell (World.block_lt_of_cell? w _ hx100_0)).trans hx100_0
   replace hx100_1 := (HB.out.cell (World.block_lt_of_cell? w _ hx100_1)).trans hx100_1
   replace p100 := eq_true p100
   replace q100 := eq_true q100
   go_wp2_with (first | ((with_reducible refine gate_dst (N := 5) rfl ?_); refine be 5 #[.int .i64 0, .int .i64 0] 27 ?_; intro gb109 hg w19 hbox hb; have n0_ := q0 (Kd.R_below (Kd.R_elderB (qr HO_100001.out) gb109 (Nat.le_of_eq hg.symm)) hb); have n1_ := q0 (kb BK103.out hb); have n2_ := q0 (kb BK104.out hb); have n3_ := q0 (kb BK107.out hb); have n4_ := q0 (below_step (qb HB.out) hb); have n5_ := q0 (hbox); have n6_ := q0 ((bs HB.out hg : w.heap.size ≤ gb109)); have n7_ := q0 ((bs HB.out hg : w.heap.size ≤ gb109)); have n8_ := q0 ((bl BK103.out hg : gb103 ≠ gb109)); have n9_ := q0 ((bg BK103.out hg : gb109 ≠ gb103)); have n10_ := q0 ((bl BK104.out hg : gb104 ≠ gb109)); have n11_ := q0 ((bg BK104.out hg : gb109 ≠ gb104)); have n12_ := q0 ((bl BK107.out hg : gb107 ≠ gb109)); have n13_ := q0 ((bg BK107.out hg : gb109 ≠ gb107)); clear HO_100001 BK103 BK104 BK107 HB; have HO_100001 := n0_; have BK103 := n1_; have BK104 := n2_; have BK107 := n3_; have HB := n4_; have BK109 := n5_; have GW109 := n6_; have GE109 := n7_; have NB103_109 := n8_; have NB109_103 := n9_; have NB104_109 := n10_; have NB109_104 := n11_; have NB107_109 := n12_; have NB109_107 := n13_; clear n0_ n1_ n2_ n3_ n4_ n5_ n6_ n7_ n8_ n9_ n10_ n11_ n12_ n13_ hb hbox hg; have hnb20 := NB109_103.out; have hnc20 := NB103_109.out; have hnb21 := NB109_104.out; have hnc21 := NB104_109.out; have hnb22 := NB109_107.out; have hnc22 := NB107_109.out; have hcz23_0 : w19.cell? ⟨gb109, 0, none⟩ = some (.int .i64 0) := (blk_cell BK109.out 0).trans rfl; have hcz23_1 : w19.cell? ⟨gb109, 1, none⟩ = some (.int .i64 0) := (blk_cell BK109.out 1).trans rfl; have hfz23_0 := blk_frozen BK109.out 0; have hfz23_1 := blk_frozen BK109.out 1; have hnb24 := NB107_103.out; have hnc24 := NB103_107.out; have hnb25 := NB107_104.out; have hnc25 := NB104_107.out; have hcz26_0 : w19.cell? ⟨gb107, 0, none⟩ = some (.int .i64 a0_0) := (blk_cell BK107.out 0).trans rfl; have hcz26_1 : w19.cell? ⟨gb107, 1, none⟩ = some (u100001) := (blk_cell BK107.out 1).trans rfl; have hfz26_0 := blk_frozen BK107.out 0; have hfz26_1 := blk_frozen BK107.out 1; obtain ⟨Ao27, co27, eo27⟩ := Kd.R_slice HO_100001.out; subst eo27) | ((with_reducible refine gate_callee (f := 56) rfl ?_); refine goesL_ (some 22) rfl rfl Try.func56 (by kernel_rfl) rfl #[.agg #[.int .i64 a0_0, .slice Ao27 x100001_1.length co27], .int .i64 ((rd_TTie l0_1 x13_1).f0), .int .i64 ((rd_TTie l0_1 x13_1).f1)] rfl qm ?_; (with_reducible refine (impl_Net_joined.calls k1 a0_0 _ _ x100001_1 ((rd_TTie l0_1 x13_1).f0) ((rd_TTie l0_1 x13_1).f1) true _ ?side1 ?side2 A17.out).mono ?_); (case side1 => refine (Kd.R_reads' (e := 27) (base := w.heap.size) (ok := fun k_ => (True ∧ k_ ≠ gb109)) (n := x100001_1.length) (c := co27) ?_).2.2; exact (by (with_reducible repeat (first | apply Kd.R_alloc | apply Kd.R_drewN | apply Kd.R_drew)); exact (Kd.R_mono (Kd.R_far (p := ⟨gb109, 1, none⟩) (Kd.R_far (p := ⟨gb109, 0, none⟩) (Kd.R_mono HO_100001.out (fun k_ hk => (⟨hk, hk.2⟩ : _ ∧ k_ ≠ gb109))) (fun _ hk => hk.2) (.int .i64 ((rd_TTie l0_1 x13_1).f0))) (fun _ hk => hk.2) (.int .i64 ((rd_TTie l0_1 x13_1).f1))) (fun _ h_ => h_.1)))); (case side2 => exact (Kd.R_reads' HO_100001.out).2.1); rintro e w28 ⟨rfl, hb⟩; refine ⟨_, rfl, ?_⟩; have n0_ := q0 (Kd.R_below (by (with_reducible repeat (first | apply Kd.R_alloc | apply Kd.R_drewN | apply Kd.R_drew)); exact (Kd.R_mono (Kd.R_far (p := ⟨gb109, 1, none⟩) (Kd.R_far (p := ⟨gb109, 0, none⟩) (Kd.R_mono HO_100001.out (fun k_ hk => (⟨hk, hk.2⟩ : _ ∧ k_ ≠ gb109))) (fun _ hk => hk.2) (.int .i64 ((rd_TTie l0_1 x13_1).f0))) (fun _ hk => hk.2) (.int .i64 ((rd_TTie l0_1 x13_1).f1))) (fun _ h_ => h_.1))) hb); have n1_ := q0 (blk_below (g := gb103) (o := .cells #[.int .i64 a0_0, .slice (some ad100) l0_1.length c0_1] 32 (0, 0)) (qf BK103.out) hb); have n2_ := q0 (blk_below (g := gb104) (o := .cells #[.int .i64 0, .slice none 0 0] 32 (0, 0)) (qf BK104.out) hb); have n3_ := q0 (blk_below (g := gb107) (o := .cells #[.int .i64 a0_0, .slice Ao27 x100001_1.length co27] 32 (0, 0)) (qf BK107.out) hb); have n4_ := q0 (blk_below (g := gb109) (o := .cells #[.int .i64 ((rd_TTie l0_1 x13_1).f0), .int .i64 ((rd_TTie l0_1 x13_1).f1)] 27 (0, 0)) (by (with_reducible repeat (first | refine blk_drewN ?_ _ | refine blk_drew ?_ | refine blk_alloc ?_ _)); refine blk_put (cs := #[.int .i64 ((rd_TTie l0_1 x13_1).f0), .int .i64 0]) ?_ 1 _ rfl; (with_reducible repeat (first | refine blk_drewN ?_ _ | refine blk_drew ?_ | refine blk_alloc ?_ _)); refine blk_put (cs := #[.int .i64 0, .int .i64 0]) ?_ 0 _ rfl; (with_reducible repeat (first | refine blk_drewN ?_ _ | refine blk_drew ?_ | refine blk_alloc ?_ _)); exact BK109.out) hb); have n5_ := q0 (below_step (qb HB.out) hb); clear HO_100001 BK103 BK104 BK107 BK109 HB; have HO_100001 := n0_; have BK103 := n1_; have BK104 := n2_; have BK107 := n3_; have BK109 := n4_; have HB := n5_; clear n0_ n1_ n2_ n3_ n4_ n5_; (try clear hb); (try clear hb2); (try clear hk); (try clear hi)))
   go_roundg k1
   case measure => have := HK1.out; omega
   case rel => exact ⟨(wrap64 (x13_1 + 1)), (x100001_1), (.slice Ao27 x100001_1.length co27), qs, H', ⟨by have := HK1.out; omega⟩, ⟨by (with_reducible repeat (first | apply Kd.R_alloc | apply Kd.R_drewN | apply Kd.R_drew)); exact Kd.R_mono HO_100001.out (fun _ hk => trivial)⟩, ⟨qk BK103.out⟩, ⟨qk BK104.out⟩, ⟨qk BK107.out⟩, ⟨qb HB.out⟩⟩
 replace c18 := Bool.eq_false_iff.mpr c18
 subst c18
 have H1 : (if x100001_1.length < 8796093022208 then (impl_Net_tree.l0 k1 l0_1 (l0_1.length : Int) (wrap64 (x13_1 + 1)) a0_0 (x100001_1 ++ [(⟨(rd_TTie l0_1 x13_1).f0, (rd_TTie l0_1 x13_1).f1⟩ : STie)])) else (none)) = some (r1, r2) := by rw [if_neg (show ¬ (false = true) by decide)] at H; exact H
 clear H
 have H := H1
 clear H1
 by_cases c29 : x100001_1.length < 8796093022208
 rotate_left
 · rw [if_neg c29] at H
   exact absurd H (by simp)
 rw [if_pos c29] at H
 have LMc29 := Aside0.mk c29
 clear c29
 obtain ⟨y110, hy110⟩ : ∃ y_ : List (STie), y_ = (x100001_1 ++ [(⟨(rd_TTie l0_1 x13_1).f0, (rd_TTie l0_1 x13_1).f1⟩ : STie)]) := ⟨_, rfl⟩
 replace H : (impl_Net_tree.l0 k1 l0_1 (l0_1.length : Int) (wrap64 (x13_1 + 1)) a0_0 y110) = some (r1, r2) := by first | (rw [hy110]; with_reducible exact H) | (have H2_ := (Option.bind_some _ _).symm.trans H; rw [hy110]; with_reducible exact H2_) | (have H2_ := (Option.bind_some _ _).symm.trans H; with_reducible exact H2_) | with_reducible exact H | (rw [hy110]; exact H) | exact H
 have Ny110 := Aside0.mk hy110
 clear hy110
 have H' := Aside0.mk H
 clear H
 have p100 : 0 ≤ (x13_1 : Int) := of_decide_eq_true qa
 have q100 : x13_1 < (l0_1.length : Int) := of_decide_eq_true qa
 obtain ⟨ad100, e100, hx100_0, hx100_1⟩ := at_TTie HR0_1.out x13_1 p100 q100
 cases e100
 replace hx100_0 := (HB.out.cell (World.block_lt_of_cell? w _ hx100_0)).trans hx100_0
 replace hx100_1 := (HB.out.cell (World.block_lt_of_cell? w _ hx100_1)).trans hx100_1
 replace p100 := eq_true p100
 replace q100 := eq_true q100
 go_wp2_with (first | ((with_reducible refine gate_dst (N := 5) rfl ?_); refine be 5 #[.int .i64 0, .int .i64 0] 27 ?_; intro gb109 hg w30 hbox hb; have n0_ := q0 (Kd.R_below (Kd.R_elderB (qr HO_100001.out) gb109 (Nat.le_of_eq hg.symm)) hb); have n1_ := q0 (kb BK103.out hb); have n2_ := q0 (kb BK104.out hb); have n3_ := q0 (kb BK107.out hb); have n4_ := q0 (below_step (qb HB.out) hb); have n5_ := q0 (hbox); have n6_ := q0 ((bs HB.out hg : w.heap.size ≤ gb109)); have n7_ := q0 ((bs HB.out hg : w.heap.size ≤ gb109)); have n8_ := q0 ((bl BK103.out hg : gb103 ≠ gb109)); have n9_ := q0 ((bg BK103.out hg : gb109 ≠ gb103)); have n10_ := q0 ((bl BK104.out hg : gb104 ≠ gb109)); have n11_ := q0 ((bg BK104.out hg : gb109 ≠ gb104)); have n12_ := q0 ((bl BK107.out hg : gb107 ≠ gb109)); have n13_ := q0 ((bg BK107.out hg : gb109 ≠ gb107)); clear HO_100001 BK103 BK104 BK107 HB; have HO_100001 := n0_; have BK103 := n1_; have BK104 := n2_; have BK107 := n3_; have HB := n4_; have BK109 := n5_; have GW109 := n6_; have GE109 := n7_; have NB103_109 := n8_; have NB109_103 := n9_; have NB104_109 := n10_; have NB109_104 := n11_; have NB107_109 := n12_; have NB109_107 := n13_; clear n0_ n1_ n2_ n3_ n4_ n5_ n6_ n7_ n8_ n9_ n10_ n11_ n12_ n13_ hb hbox hg; have hnb31 := NB109_103.out; have hnc31 := NB103_109.out; have hnb32 := NB109_104.out; have hnc32 := NB104_109.out; have hnb33 := NB109_107.out; have hnc33 := NB107_109.out; have hcz34_0 : w30.cell? ⟨gb109, 0, none⟩ = some (.int .i64 0) := (blk_cell BK109.out 0).trans rfl; have hcz34_1 : w30.cell? ⟨gb109, 1, none⟩ = some (.int .i64 0) := (blk_cell BK109.out 1).trans rfl; have hfz34_0 := blk_frozen BK109.out 0; have hfz34_1 := blk_frozen BK109.out 1; have hnb35 := NB107_103.out; have hnc35 := NB103_107.out; have hnb36 := NB107_104.out; have hnc36 := NB104_107.out; have hcz37_0 : w30.cell? ⟨gb107, 0, none⟩ = some (.int .i64 a0_0) := (blk_cell BK107.out 0).trans rfl; have hcz37_1 : w30.cell? ⟨gb107, 1, none⟩ = some (u100001) := (blk_cell BK107.out 1).trans rfl; have hfz37_0 := blk_frozen BK107.out 0; have hfz37_1 := blk_frozen BK107.out 1; obtain ⟨Ao38, co38, eo38⟩ := Kd.R_slice HO_100001.out; subst eo38) | ((with_reducible refine gate_callee (f := 56) rfl ?_); refine goesL_ (some 22) rfl rfl Try.func56 (by kernel_rfl) rfl #[.agg #[.int .i64 a0_0, .slice Ao38 x100001_1.length co38], .int .i64 ((rd_TTie l0_1 x13_1).f0), .int .i64 ((rd_TTie l0_1 x13_1).f1)] rfl qm ?_; (with_reducible refine (impl_Net_joined.calls k1 a0_0 _ _ x100001_1 ((rd_TTie l0_1 x13_1).f0) ((rd_TTie l0_1 x13_1).f1) false _ ?side1 ?side2 A17.out).mono ?_); (case side1 => refine (Kd.R_reads' (e := 27) (base := w.heap.size) (ok := fun k_ => (True ∧ k_ ≠ gb109)) (n := x100001_1.length) (c := co38) ?_).2.2; exact (by (with_reducible repeat (first | apply Kd.R_alloc | apply Kd.R_drewN | apply Kd.R_drew)); exact (Kd.R_mono (Kd.R_far (p := ⟨gb109, 1, none⟩) (Kd.R_far (p := ⟨gb109, 0, none⟩) (Kd.R_mono HO_100001.out (fun k_ hk => (⟨hk, hk.2⟩ : _ ∧ k_ ≠ gb109))) (fun _ hk => hk.2) (.int .i64 ((rd_TTie l0_1 x13_1).f0))) (fun _ hk => hk.2) (.int .i64 ((rd_TTie l0_1 x13_1).f1))) (fun _ h_ => h_.1)))); (case side2 => exact (Kd.R_reads' HO_100001.out).2.1); rintro e w39 ⟨rfl, hb⟩; refine ⟨_, rfl, ?_⟩; have n0_ := q0 (Kd.R_below (by (with_reducible repeat (first | apply Kd.R_alloc | apply Kd.R_drewN | apply Kd.R_drew)); exact (Kd.R_mono (Kd.R_far (p := ⟨gb109, 1, none⟩) (Kd.R_far (p := ⟨gb109, 0, none⟩) (Kd.R_mono HO_100001.out (fun k_ hk => (⟨hk, hk.2⟩ : _ ∧ k_ ≠ gb109))) (fun _ hk => hk.2) (.int .i64 ((rd_TTie l0_1 x13_1).f0))) (fun _ hk => hk.2) (.int .i64 ((rd_TTie l0_1 x13_1).f1))) (fun _ h_ => h_.1))) hb); have n1_ := q0 (blk_below (g := gb103) (o := .cells #[.int .i64 a0_0, .slice (some ad100) l0_1.length c0_1] 32 (0, 0)) (qf BK103.out) hb); have n2_ := q0 (blk_below (g := gb104) (o := .cells #[.int .i64 0, .slice none 0 0] 32 (0, 0)) (qf BK104.out) hb); have n3_ := q0 (blk_below (g := gb107) (o := .cells #[.int .i64 a0_0, .slice Ao38 x100001_1.length co38] 32 (0, 0)) (qf BK107.out) hb); have n4_ := q0 (blk_below (g := gb109) (o := .cells #[.int .i64 ((rd_TTie l0_1 x13_1).f0), .int .i64 ((rd_TTie l0_1 x13_1).f1)] 27 (0, 0)) (by (with_reducible repeat (first | refine blk_drewN ?_ _ | refine blk_drew ?_ | refine blk_alloc ?_ _)); refine blk_put (cs := #[.int .i64 ((rd_TTie l0_1 x13_1).f0), .int .i64 0]) ?_ 1 _ rfl; (with_reducible repeat (first | refine blk_drewN ?_ _ | refine blk_drew ?_ | refine blk_alloc ?_ _)); refine blk_put (cs := #[.int .i64 0, .int .i64 0]) ?_ 0 _ rfl; (with_reducible repeat (first | refine blk_drewN ?_ _ | refine blk_drew ?_ | refine blk_alloc ?_ _)); exact BK109.out) hb); have n5_ := q0 (below_step (qb HB.out) hb); clear HO_100001 BK103 BK104 BK107 BK109 HB; have HO_100001 := n0_; have BK103 := n1_; have BK104 := n2_; have BK107 := n3_; have BK109 := n4_; have HB := n5_; clear n0_ n1_ n2_ n3_ n4_ n5_; (try clear hb); (try clear hb2); (try clear hk); (try clear hi); have hcz40_0 : w39.cell? ⟨gb107, 0, none⟩ = some (.int .i64 a0_0) := (blk_cell BK107.out 0).trans rfl; have hcz40_1 : w39.cell? ⟨gb107, 1, none⟩ = some (.slice Ao38 x100001_1.length co38) := (blk_cell BK107.out 1).trans rfl; have hfz40_0 := blk_frozen BK107.out 0; have hfz40_1 := blk_frozen BK107.out 1; have hcz41_0 : w39.cell? ⟨gb109, 0, none⟩ = some (.int .i64 ((rd_TTie l0_1 x13_1).f0)) := (blk_cell BK109.out 0).trans rfl; have hcz41_1 : w39.cell? ⟨gb109, 1, none⟩ = some (.int .i64 ((rd_TTie l0_1 x13_1).f1)) := (blk_cell BK109.out 1).trans rfl; have hfz41_0 := blk_frozen BK109.out 0; have hfz41_1 := blk_frozen BK109.out 1) | ((with_reducible refine gate_builtin (b := .append) (xs := #[.tmp 25, .tmp 27]) rfl ?_); at_builtin; refine Kd.R_append kTie (w0 := w) w.heap.size rfl (.tmp 25) (.tmp 27) 30 27 (.agg #[(.int .i64 0), (.int .i64 0)]) 16 rfl Try.underlying30 info27 rfl (by decide) (by omega) (.slice Ao38 x100001_1.length co38) x100001_1 (⟨(rd_TTie l0_1 x13_1).f0, (rd_TTie l0_1 x13_1).f1⟩ : STie) [.int .i64 ((rd_TTie l0_1 x13_1).f0), .int .i64 ((rd_TTie l0_1 x13_1).f1)] (fun k_ => k_ ≠ gb109) (fun _ => False) rfl rfl ?aP (fun _ hk => hk.elim) ?aF ?aO ?aB ?aS ?aL ?_; (case aP => exact kTie_mkM _ _ _ (⟨(rd_TTie l0_1 x13_1).f0, (rd_TTie l0_1 x13_1).f1⟩ : STie)); (case aB => exact (qb HB.out)); (case aF => exact (fun k_ hk => Kd.freshB (g := gb109) (o := .cells #[.int .i64 ((rd_TTie l0_1 x13_1).f0), .int .i64 ((rd_TTie l0_1 x13_1).f1)] 27 (0, 0)) (qk BK109.out) k_ hk)); (case aO => exact (by (with_reducible repeat (first | apply Kd.R_alloc | apply Kd.R_drewN | apply Kd.R_drew)); exact Kd.R_mono HO_100001.out (fun _ hk => hk.2))); (case aS => exact (below_size (qb HB.out))); (case aL => have := LMc29.out; omega); intro v111 w42 ho hb hg hat; rw [← Ny110.out] at ho; have n0_ := q0 (blk_grown (g := gb103) (o := .cells #[.int .i64 a0_0, .slice (some ad100) l0_1.length c0_1] 32 (0, 0)) (qk BK103.out) hg (Kd.R_ne HO_100001.out BK103.out (by decide))); have n1_ := q0 (blk_grown (g := gb104) (o := .cells #[.int .i64 0, .slice none 0 0] 32 (0, 0)) (qk BK104.out) hg (Kd.R_ne HO_100001.out BK104.out (by decide))); have n2_ := q0 (blk_grown (g := gb107) (o := .cells #[.int .i64 a0_0, .slice Ao38 x100001_1.length co38] 32 (0, 0)) (qk BK107.out) hg (Kd.R_ne HO_100001.out BK107.out (by decide))); have n3_ := q0 (blk_grown (g := gb109) (o := .cells #[.int .i64 ((rd_TTie l0_1 x13_1).f0), .int .i64 ((rd_TTie l0_1 x13_1).f1)] 27 (0, 0)) (qk BK109.out) hg (Kd.R_away HO_100001.out (fun _ hk => hk.2))); have n4_ := q0 (hb); have n5_ := q0 (ho); clear BK103 BK104 BK107 BK109 HB HO_100001; have BK103 := n0_; have BK104 := n1_; have BK107 := n2_; have BK109 := n3_; have HB := n4_; have HO112 := n5_; clear n0_ n1_ n2_ n3_ n4_ n5_ ho hb hg hat; obtain ⟨Ao43, co43, eo43⟩ := Kd.R_slice HO112.out; subst eo43; have hcz44_0 : w42.cell? ⟨gb107, 0, none⟩ = some (.int .i64 a0_0) := (blk_cell BK107.out 0).trans rfl; have hcz44_1 : w42.cell? ⟨gb107, 1, none⟩ = some (.slice Ao38 x100001_1.length co38) := (blk_cell BK107.out 1).trans rfl; have hfz44_0 := blk_frozen BK107.out 0; have hfz44_1 := blk_frozen BK107.out 1))
 go_roundg k1
 case measure => have := HK1.out; omega
 case rel => exact ⟨(wrap64 (x13_1 + 1)), (y110), (.slice Ao43 y110.length co43), qs, H', ⟨by have := HK1.out; omega⟩, ⟨by (with_reducible repeat (first | apply Kd.R_alloc | apply Kd.R_drewN | apply Kd.R_drew)); exact Kd.R_mono (Kd.R_far (p := ⟨gb107, 1, none⟩) (Kd.R_types HO112.out BK107.out (by decide)) (fun _ hk => hk.2) (.slice Ao43 y110.length co43)) (fun _ hk => trivial)⟩, ⟨qf BK103.out⟩, ⟨qf BK104.out⟩, ⟨by (with_reducible repeat (first | refine blk_drewN ?_ _ | refine blk_drew ?_ | refine blk_alloc ?_ _)); refine blk_put (cs := #[.int .i64 a0_0, .slice Ao38 x100001_1.length co38]) ?_ 1 _ rfl; (with_reducible repeat (first | refine blk_drewN ?_ _ | refine blk_drew ?_ | refine blk_alloc ?_ _)); exact BK107.out⟩, ⟨qb HB.out⟩⟩

set_option maxHeartbeats 8000000 in
set_option maxRecDepth 100000 in
theorem impl_TreeOf.calls (k : Nat) (a0_0 : Int) (A0_1 : Option Addr) (c0_1 : Nat) (l0_1 : List (STie)) (r : List (STie)) (w : World) (hr0_1 : Kd.C kTie w A0_1 l0_1.length l0_1) (hc0_1 : l0_1.length ≤ c0_1) (h : impl_TreeOf.f k a0_0 l0_1 = some r) :
    Calls Try.prog 20 #[.agg #[.int .i64 a0_0, .slice A0_1 l0_1.length c0_1]] w fun e w' => ∃ v0_ : Value, e = .returned (v0_) ∧ Kd.R kTie 27 w' w.heap.size (fun _ => True) v0_ r ∧ Below w.heap.size w w' := by
 have hu32 := Try.underlying32
 have HR0_1 := Aside0.mk hr0_1
 have HC0_1 := Aside0.mk hc0_1
 clear hr0_1 hc0_1
 have HB := q0 (Below.refl w.heap.size w)
 have H : ((impl_NetOk.f k a0_0 l0_1).bind fun t100 => (if t100 = true then ((impl_Net_tree.f k a0_0 l0_1).bind fun bt101 => (some bt101.2)) else (some (([] : List (STie)))))) = some r := h
 clear h
 replace H := Option.bind_eq_some_iff.mp H
 obtain ⟨t100, A20, H⟩ := H
 replace H : (if t100 = true then ((impl_Net_tree.f k a0_0 l0_1).bind fun bt101 => (some bt101.2)) else (some (([] : List (STie))))) = some r := H
 have A2 := Aside0.mk A20
 clear A20
 by_cases c3 : t100 = true
 · subst c3
   have H1 : ((impl_Net_tree.f k a0_0 l0_1).bind fun bt101 => (some bt101.2)) = some r := by rw [if_pos rfl] at H; exact H
   clear H
   have H := H1
   clear H1
   replace H := Option.bind_eq_some_iff.mp H
   obtain ⟨⟨t101, t102⟩, A40, H⟩ := H
   replace H : (some t102) = some r := H
   have A4 := Aside0.mk A40
   clear A40
   obtain rfl := Option.some.inj H
   go_enter Try.func20, Try.ntmps20
   go_wp2_with (first | ((with_reducible refine gate_dst (N := 1) rfl ?_); refine be 1 #[.int .i64 a0_0, .slice A0_1 l0_1.length c0_1] 32 ?_; intro gb103 hg w5 hbox hb; have n0_ := q0 (below_step (qb HB.out) hb); have n1_ := q0 (hbox); have n2_ := q0 ((bs HB.out hg : w.heap.size ≤ gb103)); have n3_ := q0 ((bs HB.out hg : w.heap.size ≤ gb103)); clear HB; have HB := n0_; have BK103 := n1_; have GW103 := n2_; have GE103 := n3_; clear n0_ n1_ n2_ n3_ hb hbox hg; have hcz6_0 : w5.cell? ⟨gb103, 0, none⟩ = some (.int .i64 a0_0) := (blk_cell BK103.out 0).trans rfl; have hcz6_1 : w5.cell? ⟨gb103, 1, none⟩ = some (.slice A0_1 l0_1.length c0_1) := (blk_cell BK103.out 1).trans rfl; have hfz6_0 := blk_frozen BK103.out 0; have hfz6_1 := blk_frozen BK103.out 1) | ((with_reducible refine gate_callee (f := 54) rfl ?_); refine goesL_ (some 4) rfl rfl Try.func54 (by kernel_rfl) rfl #[.agg #[.int .i64 a0_0, .slice A0_1 l0_1.length c0_1]] rfl qm ?_; (with_reducible refine (impl_NetOk.calls k a0_0 _ _ l0_1 true _ ?side1 ?side2 A2.out).mono ?_); (case side1 => exact qc (Kd.C_below HR0_1.out HB.out)); (case side2 => exact HC0_1.out); rintro e w7 ⟨rfl, hb⟩; refine ⟨_, rfl, ?_⟩; have n0_ := q0 (kb BK103.out hb); have n1_ := q0 (below_step (qb HB.out) hb); clear BK103 HB; have BK103 := n0_; have HB := n1_; clear n0_ n1_; (try clear hb); (try clear hb2); (try clear hk); (try clear hi); have hcz8_0 : w7.cell? ⟨gb103, 0, none⟩ = some (.int .i64 a0_0) := (blk_cell BK103.out 0).trans rfl; have hcz8_1 : w7.cell? ⟨gb103, 1, none⟩ = some (.slice A0_1 l0_1.length c0_1) := (blk_cell BK103.out 1).trans rfl; have hfz8_0 := blk_frozen BK103.out 0; have hfz8_1 := blk_frozen BK103.out 1) | ((with_reducible refine gate_callee (f := 61) rfl ?_); refine goesL_ (some 8) rfl rfl Try.func61 (by kernel_rfl) rfl #[.agg #[.int .i64 a0_0, .slice A0_1 l0_1.length c0_1]] rfl qm ?_; (with_reducible refine (impl_Net_tree.calls k a0_0 _ _ l0_1 t101 t102 _ ?side1 ?side2 A4.out).mono ?_); (case side1 => exact qc (Kd.C_below HR0_1.out HB.out)); (case side2 => exact HC0_1.out); rintro e w9 ⟨v104, rfl, ho0, hb⟩; refine ⟨_, rfl, ?_⟩; have n0_ := q0 (Kd.R_lower ho0 (below_size (qb HB.out))); have n1_ := q0 (kb BK103.out hb); have n2_ := q0 (below_step (qb HB.out) hb); clear BK103 HB; have HO105 := n0_; have BK103 := n1_; have HB := n2_; clear n0_ n1_ n2_; (try clear hb); (try clear hb2); (try clear hk); (try clear hi); (try clear ho0); obtain ⟨Ao_, co_, eo_⟩ := Kd.R_slice HO105.out; subst eo_; have hfld_ : ∀ w, (Instr.field 32 (.agg #[.int .i64 t101, .slice Ao_ t102.length co_]) 1).run Try.prog w = .ok (.slice Ao_ t102.length co_) w := fun w => by kernel_rfl))
   go_ret
   exact ⟨_, qe, by (with_reducible repeat (first | apply Kd.R_alloc | apply Kd.R_drewN | apply Kd.R_drew)); exact HO105.out, qb HB.out⟩
 replace c3 := Bool.eq_false_iff.mpr c3
 subst c3
 have H1 : (some (([] : List (STie)))) = some r := by rw [if_neg (show ¬ (false = true) by decide)] at H; exact H
 clear H
 have H := H1
 clear H1
 obtain ⟨y106, hy106⟩ : ∃ y_ : List (STie), y_ = (([] : List (STie))) := ⟨_, rfl⟩
 replace H : (some y106) = some r := by first | (rw [hy106]; with_reducible exact H) | (have H2_ := (Option.bind_some _ _).symm.trans H; rw [hy106]; with_reducible exact H2_) | (have H2_ := (Option.bind_some _ _).symm.trans H; with_reducible exact H2_) | with_reducible exact H | (rw [hy106]; exact H) | exact H
 have Ny106 := Aside0.mk hy106
 clear hy106
 obtain rfl := Option.some.inj H
 go_enter Try.func20, Try.ntmps20
 go_wp2_with (first | ((with_reducible refine gate_dst (N := 1) rfl ?_); refine be 1 #[.int .i64 a0_0, .slice A0_1 l0_1.length c0_1] 32 ?_; intro gb103 hg w10 hbox hb; have n0_ := q0 (below_step (qb HB.out) hb); have n1_ := q0 (hbox); have n2_ := q0 ((bs HB.out hg : w.heap.size ≤ gb103)); have n3_ := q0 ((bs HB.out hg : w.heap.size ≤ gb103)); clear HB; have HB := n0_; have BK103 := n1_; have GW103 := n2_; have GE103 := n3_; clear n0_ n1_ n2_ n3_ hb hbox hg; have hcz11_0 : w10.cell? ⟨gb103, 0, none⟩ = some (.int .i64 a0_0) := (blk_cell BK103.out 0).trans rfl; have hcz11_1 : w10.cell? ⟨gb103, 1, none⟩ = some (.slice A0_1 l0_1.length c0_1) := (blk_cell BK103.out 1).trans rfl; have hfz11_0 := blk_frozen BK103.out 0; have hfz11_1 := blk_frozen BK103.out 1) | ((with_reducible refine gate_callee (f := 54) rfl ?_); refine goesL_ (some 4) rfl rfl Try.func54 (by kernel_rfl) rfl #[.agg #[.int .i64 a0_0, .slice A0_1 l0_1.length c0_1]] rfl qm ?_; (with_reducible refine (impl_NetOk.calls k a0_0 _ _ l0_1 false _ ?side1 ?side2 A2.out).mono ?_); (case side1 => exact qc (Kd.C_below HR0_1.out HB.out)); (case side2 => exact HC0_1.out); rintro e w12 ⟨rfl, hb⟩; refine ⟨_, rfl, ?_⟩; have n0_ := q0 (kb BK103.out hb); have n1_ := q0 (below_step (qb HB.out) hb); clear BK103 HB; have BK103 := n0_; have HB := n1_; clear n0_ n1_; (try clear hb); (try clear hb2); (try clear hk); (try clear hi)) | ((with_reducible refine gate_dst (N := 6) rfl ?_); refine Kd.R_lit kTie _ 27 ?hg (N := 6) ?hd (xs := ([] : List (STie))) (inner := []) (ok := fun _ => True) (okp := fun _ => True) ?hr ?hp (fun _ hk => hk) trivial (Below.refl _ _) (Nat.le_refl _) (by simp) ?_; (case hd => rfl); (case hg => rfl); (case hr => first | (go_simp; done) | (go_simp; rfl)); (case hp => exact (Reps.none _ _)); intro v107 w13 ho14 hb hg_ hnew_; clear hg_ hnew_; (first | rw [← Ny106.out] at ho14 | (simp only [Int.reduceToNat] at ho14; rw [← Ny106.out] at ho14)); have n0_ := q0 (Kd.R_lower ho14 (below_size (qb HB.out))); have n1_ := q0 (kb BK103.out hb); have n2_ := q0 (below_step (qb HB.out) hb); clear BK103 HB; have HO108 := n0_; have BK103 := n1_; have HB := n2_; clear n0_ n1_ n2_ hb ho14))
 go_ret
 exact ⟨_, qe, by (with_reducible repeat (first | apply Kd.R_alloc | apply Kd.R_drewN | apply Kd.R_drew)); exact HO108.out, qb HB.out⟩

def spec_TreeOf.T7 : Bool × List (List Nat × List Nat) := (true, [([], []), ([0], [0]), ([], []), ([1, 2], [1, 2]), ([], []), ([4], [4]), ([], []), ([5, 6], [5, 6]), ([7], [7]), ([8], [8]), ([3, 9], [3, 9]), ([10, 10, 0, 1, 2, 3, 4, 5, 6, 7, 8, 9, 10], [10])])
def spec_TreeOf.B7 : List Nat := [0, 1, 0, 7, 0, 16, 0, 112, 240, 496, 1023, 2047]
theorem spec_TreeOf.tab7 : rtab .any (opsOf Try.f22 7) = spec_TreeOf.T7 := by kernel_rfl
theorem spec_TreeOf.bits7 : waitsOk spec_TreeOf.T7.2 spec_TreeOf.B7 = true := by kernel_rfl
set_option maxHeartbeats 8000000 in
set_option maxRecDepth 100000 in
theorem spec_TreeOf.calls (k : Nat) (a0_0 : Int) (A0_1 : Option Addr) (c0_1 : Nat) (l0_1 : List (STie)) (r : List (STie)) (w : World) (hr0_1 : Kd.C kTie w A0_1 l0_1.length l0_1) (hc0_1 : l0_1.length ≤ c0_1) (h : spec_TreeOf.f k a0_0 l0_1 = some r) :
    Calls Try.prog 22 #[.agg #[.int .i64 a0_0, .slice A0_1 l0_1.length c0_1]] w fun e w' => ∃ v0_ : Value, e = .returned (v0_) ∧ Kd.R kTie 27 w' w.heap.size (fun _ => True) v0_ r ∧ Below w.heap.size w w' := by
 have hu32 := Try.underlying32
 have hu27 := Try.underlying27
 have HR0_1 := Aside0.mk hr0_1
 have HC0_1 := Aside0.mk hc0_1
 clear hr0_1 hc0_1
 have HB := q0 (Below.refl w.heap.size w)
 have H : ((some (([] : List (STie)) : List (STie))).bind fun y100 => ((spec_NetOk.f k a0_0 l0_1).bind fun t102 => (if t102 = true then (spec_TreeOf.l0 k y100 0 a0_0 l0_1) else (some y100)))) = some r := h
 clear h
 obtain ⟨y100, hy100⟩ : ∃ y_ : List (STie), y_ = (([] : List (STie))) := ⟨_, rfl⟩
 replace H : ((spec_NetOk.f k a0_0 l0_1).bind fun t102 => (if t102 = true then (spec_TreeOf.l0 k y100 0 a0_0 l0_1) else (some y100))) = some r := by first | (rw [hy100]; with_reducible exact H) | (have H2_ := (Option.bind_some _ _).symm.trans H; rw [hy100]; with_reducible exact H2_) | (have H2_ := (Option.bind_some _ _).symm.trans H; with_reducible exact H2_) | with_reducible exact H | (rw [hy100]; exact H) | exact H
 have Ny100 := Aside0.mk hy100
 clear hy100
 replace H := Option.bind_eq_some_iff.mp H
 obtain ⟨t102, A20, H⟩ := H
 replace H : (if t102 = true then (spec_TreeOf.l0 k y100 0 a0_0 l0_1) else (some y100)) = some r := H
 have A2 := Aside0.mk A20
 clear A20
 by_cases c3 : t102 = true
 rotate_left
 · replace c3 := Bool.eq_false_iff.mpr c3
   subst c3
   have H1 : (some y100) = some r := by rw [if_neg (show ¬ (false = true) by decide)] at H; exact H
   clear H
   have H := H1
   clear H1
   obtain rfl := Option.some.inj H
   go_enter Try.func22, Try.ntmps22
   go_wp2_with (first | ((with_reducible refine gate_dst (N := 1) rfl ?_); refine be 1 #[.int .i64 a0_0, .slice A0_1 l0_1.length c0_1] 32 ?_; intro gb103 hg w31 hbox hb; have n0_ := q0 (below_step (qb HB.out) hb); have n1_ := q0 (hbox); have n2_ := q0 ((bs HB.out hg : w.heap.size ≤ gb103)); have n3_ := q0 ((bs HB.out hg : w.heap.size ≤ gb103)); clear HB; have HB := n0_; have BK103 := n1_; have GW103 := n2_; have GE103 := n3_; clear n0_ n1_ n2_ n3_ hb hbox hg) | ((with_reducible refine gate_dst (N := 6) rfl ?_); refine Kd.R_lit kTie _ 27 ?hg (N := 6) ?hd (xs := ([] : List (STie))) (inner := []) (ok := fun _ => True) (okp := fun _ => True) ?hr ?hp (fun _ hk => hk) trivial (Below.refl _ _) (Nat.le_refl _) (by simp) ?_; (case hd => rfl); (case hg => rfl); (case hr => first | (go_simp; done) | (go_simp; rfl)); (case hp => exact (Reps.none _ _)); intro v104 w32 ho33 hb hg_ hnew_; clear hg_ hnew_; (first | rw [← Ny100.out] at ho33 | (simp only [Int.reduceToNat] at ho33; rw [← Ny100.out] at ho33)); have n0_ := q0 (Kd.R_lower ho33 (below_size (qb HB.out))); have n1_ := q0 (kb BK103.out hb); have n2_ := q0 (below_step (qb HB.out) hb); clear BK103 HB; have HO105 := n0_; have BK103 := n1_; have HB := n2_; clear n0_ n1_ n2_ hb ho33; have hcz34_0 : w32.cell? ⟨gb103, 0, none⟩ = some (.int .i64 a0_0) := (blk_cell BK103.out 0).trans rfl; have hcz34_1 : w32.cell? ⟨gb103, 1, none⟩ = some (.slice A0_1 l0_1.length c0_1) := (blk_cell BK103.out 1).trans rfl; have hfz34_0 := blk_frozen BK103.out 0; have hfz34_1 := blk_frozen BK103.out 1) | ((with_reducible refine gate_callee (f := 23) rfl ?_); refine goesL_ (some 8) rfl rfl Try.func23 (by kernel_rfl) rfl #[.agg #[.int .i64 a0_0, .slice A0_1 l0_1.length c0_1]] rfl qm ?_; (with_reducible refine (spec_NetOk.calls k a0_0 _ _ l0_1 false _ ?side1 ?side2 A2.out).mono ?_); (case side1 => exact qc (Kd.C_below HR0_1.out HB.out)); (case side2 => exact HC0_1.out); rintro e w35 ⟨rfl, hb⟩; refine ⟨_, rfl, ?_⟩; have n0_ := q0 (Kd.R_below (qr HO105.out) hb); have n1_ := q0 (kb BK103.out hb); have n2_ := q0 (below_step (qb HB.out) hb); clear HO105 BK103 HB; have HO105 := n0_; have BK103 := n1_; have HB := n2_; clear n0_ n1_ n2_; (try clear hb); (try clear hb2); (try clear hk); (try clear hi)))
   go_ret
   exact ⟨_, qe, by (with_reducible repeat (first | apply Kd.R_alloc | apply Kd.R_drewN | apply Kd.R_drew)); exact HO105.out, qb HB.out⟩
 subst c3
 have H1 : (spec_TreeOf.l0 k y100 0 a0_0 l0_1) = some r := by rw [if_pos rfl] at H; exact H
 clear H
 have H := H1
 clear H1
 have H' := Aside0.mk H
 clear H
 go_enter Try.func22, Try.ntmps22
 go_wp2_with (first | ((with_reducible refine gate_dst (N := 1) rfl ?_); refine be 1 #[.int .i64 a0_0, .slice A0_1 l0_1.length c0_1] 32 ?_; intro gb103 hg w4 hbox hb; have n0_ := q0 (below_step (qb HB.out) hb); have n1_ := q0 (hbox); have n2_ := q0 ((bs HB.out hg : w.heap.size ≤ gb103)); have n3_ := q0 ((bs HB.out hg : w.heap.size ≤ gb103)); clear HB; have HB := n0_; have BK103 := n1_; have GW103 := n2_; have GE103 := n3_; clear n0_ n1_ n2_ n3_ hb hbox hg) | ((with_reducible refine gate_dst (N := 6) rfl ?_); refine Kd.R_lit kTie _ 27 ?hg (N := 6) ?hd (xs := ([] : List (STie))) (inner := []) (ok := fun _ => True) (okp := fun _ => True) ?hr ?hp (fun _ hk => hk) trivial (Below.refl _ _) (Nat.le_refl _) (by simp) ?_; (case hd => rfl); (case hg => rfl); (case hr => first | (go_simp; done) | (go_simp; rfl)); (case hp => exact (Reps.none _ _)); intro v104 w5 ho6 hb hg_ hnew_; clear hg_ hnew_; (first | rw [← Ny100.out] at ho6 | (simp only [Int.reduceToNat] at ho6; rw [← Ny100.out] at ho6)); have n0_ := q0 (Kd.R_lower ho6 (below_size (qb HB.out))); have n1_ := q0 (kb BK103.out hb); have n2_ := q0 (below_step (qb HB.out) hb); clear BK103 HB; have HO105 := n0_; have BK103 := n1_; have HB := n2_; clear n0_ n1_ n2_ hb ho6; have hcz7_0 : w5.cell? ⟨gb103, 0, none⟩ = some (.int .i64 a0_0) := (blk_cell BK103.out 0).trans rfl; have hcz7_1 : w5.cell? ⟨gb103, 1, none⟩ = some (.slice A0_1 l0_1.length c0_1) := (blk_cell BK103.out 1).trans rfl; have hfz7_0 := blk_frozen BK103.out 0; have hfz7_1 := blk_frozen BK103.out 1) | ((with_reducible refine gate_callee (f := 23) rfl ?_); refine goesL_ (some 8) rfl rfl Try.func23 (by kernel_rfl) rfl #[.agg #[.int .i64 a0_0, .slice A0_1 l0_1.length c0_1]] rfl qm ?_; (with_reducible refine (spec_NetOk.calls k a0_0 _ _ l0_1 true _ ?side1 ?side2 A2.out).mono ?_); (case side1 => exact qc (Kd.C_below HR0_1.out HB.out)); (case side2 => exact HC0_1.out); rintro e w8 ⟨rfl, hb⟩; refine ⟨_, rfl, ?_⟩; have n0_ := q0 (Kd.R_below (qr HO105.out) hb); have n1_ := q0 (kb BK103.out hb); have n2_ := q0 (below_step (qb HB.out) hb); clear HO105 BK103 HB; have HO105 := n0_; have BK103 := n1_; have HB := n2_; clear n0_ n1_ n2_; (try clear hb); (try clear hb2); (try clear hk); (try clear hi)))
 go_loopg [3, 4] k (fun kq v3 v4 w' => ∃ (x3_1 : List (STie)) (x4_1 : Int), v4 = .int .i64 x4_1 ∧ Aside0 (spec_TreeOf.l0 kq x3_1 x4_1 a0_0 l0_1 = some r) ∧ Aside0 (kq ≤ k) ∧ Aside0 (Kd.R kTie 27 w' w.heap.size (fun _ => True) v3 x3_1) ∧ Aside0 (w'.heap[gb103]? = some (.cells #[.int .i64 a0_0, (.slice A0_1 l0_1.length c0_1)] 32 (0, 0))) ∧ Aside0 (Below w.heap.size w w'))
 case atStart => exact ⟨(y100), (0), qs, H', ⟨Nat.le_refl _⟩, ⟨qr HO105.out⟩, ⟨qk BK103.out⟩, ⟨qb HB.out⟩⟩
 clear H'
 try clear c2
 try clear p2
 try clear c3
 try clear hcz7_0
 try clear hcz7_1
 try clear hfz7_0
 try clear hfz7_1
 obtain ⟨x3_1, x4_1, rfl, HA, HK1, HO_3, BK103, HB⟩ := hrel
 rcases gk with _ | k1
 · exact absurd HA.out (by simp [spec_TreeOf.l0])
 have H := HA.out
 clear HA
 simp only [spec_TreeOf.l0] at H
 by_cases c9 : x4_1 < (l0_1.length : Int)
 rotate_left
 · rw [if_neg c9] at H
   have c9b0 : decide (x4_1 < (l0_1.length : Int)) = false := decide_eq_false c9
   clear c9
   obtain rfl := Option.some.inj H
   have hcz30_0 : wr.cell? ⟨gb103, 0, none⟩ = some (.int .i64 a0_0) := (blk_cell BK103.out 0).trans rfl
   have hcz30_1 : wr.cell? ⟨gb103, 1, none⟩ = some (.slice A0_1 l0_1.length c0_1) := (blk_cell BK103.out 1).trans rfl
   have hfz30_0 := blk_frozen BK103.out 0
   have hfz30_1 := blk_frozen BK103.out 1
   go_wp2
   go_ret
   exact ⟨_, qe, by (with_reducible repeat (first | apply Kd.R_alloc | apply Kd.R_drewN | apply Kd.R_drew)); exact HO_3.out, qb HB.out⟩
 rw [if_pos c9] at H
 have c9b0 : decide (x4_1 < (l0_1.length : Int)) = true := decide_eq_true c9
 clear c9
 by_cases c10 : 0 ≤ x4_1
 rotate_left
 · rw [if_neg c10] at H
   exact absurd H (by simp)
 rw [if_pos c10] at H
 have c10b0 : decide (0 ≤ x4_1) = true := decide_eq_true c10
 clear c10
 replace H := Option.bind_eq_some_iff.mp H
 obtain ⟨t101, A106, H⟩ := H
 replace H : (if 0 ≤ ((rd_TTie l0_1 x4_1).f1) then (if ((rd_TTie l0_1 x4_1).f1) < (t101.length : Int) then (if (rdOf false t101 ((rd_TTie l0_1 x4_1).f1) = true) then (spec_TreeOf.l0 k1 x3_1 (wrap64 (x4_1 + 1)) a0_0 l0_1) else (if x3_1.length < 8796093022208 then (spec_TreeOf.l0 k1 (x3_1 ++ [(⟨(rd_TTie l0_1 x4_1).f0, (rd_TTie l0_1 x4_1).f1⟩ : STie)]) (wrap64 (x4_1 + 1)) a0_0 l0_1) else (none))) else (none)) else (none)) = some r := H
 have A11 := Aside0.mk A106
 clear A106
 by_cases c12 : 0 ≤ ((rd_TTie l0_1 x4_1).f1)
 rotate_left
 · rw [if_neg c12] at H
   exact absurd H (by simp)
 rw [if_pos c12] at H
 have c12b0 : decide (0 ≤ ((rd_TTie l0_1 x4_1).f1)) = true := decide_eq_true c12
 clear c12
 by_cases c13 : ((rd_TTie l0_1 x4_1).f1) < (t101.length : Int)
 rotate_left
 · rw [if_neg c13] at H
   exact absurd H (by simp)
 rw [if_pos c13] at H
 have c13b0 : decide (((rd_TTie l0_1 x4_1).f1) < (t101.length : Int)) = true := decide_eq_true c13
 clear c13
 obtain ⟨bq14, hbq14⟩ : ∃ b_ : Bool, b_ = (rdOf false t101 ((rd_TTie l0_1 x4_1).f1)) := ⟨_, rfl⟩
 replace H : (if (bq14 = true) then (spec_TreeOf.l0 k1 x3_1 (wrap64 (x4_1 + 1)) a0_0 l0_1) else (if x3_1.length < 8796093022208 then (spec_TreeOf.l0 k1 (x3_1 ++ [(⟨(rd_TTie l0_1 x4_1).f0, (rd_TTie l0_1 x4_1).f1⟩ : STie)]) (wrap64 (x4_1 + 1)) a0_0 l0_1) else (none))) = some r := by rw [← hbq14] at H; exact H
 have Nbq14 := Aside0.mk hbq14
 clear hbq14
 by_cases c15 : (bq14 = true)
 · subst c15
   have H1 : (spec_TreeOf.l0 k1 x3_1 (wrap64 (x4_1 + 1)) a0_0 l0_1) = some r := by rw [if_pos rfl] at H; exact H
   clear H
   have H := H1
   clear H1
   have H' := Aside0.mk H
   clear H
   have hcz16_0 : wr.cell? ⟨gb103, 0, none⟩ = some (.int .i64 a0_0) := (blk_cell BK103.out 0).trans rfl
   have hcz16_1 : wr.cell? ⟨gb103, 1, none⟩ = some (.slice A0_1 l0_1.length c0_1) := (blk_cell BK103.out 1).trans rfl
   have hfz16_0 := blk_frozen BK103.out 0
   have hfz16_1 := blk_frozen BK103.out 1
   try go_wp2
   have n0_ := q0 (Kd.R_drew HO_3.out)
   have n1_ := q0 (blk_drew BK103.out)
   have n2_ := q0 (below_drew1 HB.out)
   clear HO_3
   clear BK103
   clear HB
   have HO_3 := n0_
   have BK103 := n1_
   have HB := n2_
   clear n0_ n1_ n2_
   obtain ⟨Ao18, co18, eo18⟩ := Kd.R_slice HO_3.out
   (first | subst eo18 | (injection eo18 with f1_ f2_ f3_; have f4_ := f1_.symm; have f5_ := f3_.symm; clear f1_ f2_ f3_; subst f4_; subst f5_))
   have p107 : 0 ≤ (x4_1 : Int) := of_decide_eq_true qa
   have q107 : x4_1 < (l0_1.length : Int) := of_decide_eq_true qa
   obtain ⟨ad107, e107, hx107_0, hx107_1⟩ := at_TTie HR0_1.out x4_1 p107 q107
   have hw107_1 := hx107_1
   have hw107_0 := hx107_0
   cases e107
   replace hx107_0 := (HB.out.cell (World.block_lt_of_cell? w _ hx107_0)).trans hx107_0
   replace hx107_1 := (HB.out.cell (World.block_lt_of_cell? w _ hx107_1)).trans hx107_1
   replace p107 := eq_true p107
   replace q107 := eq_true q107
   refine start_ (n := 12) (S := fun w' => w'.cell? ⟨gb103, 0, none⟩ = some (.int .i64 a0_0) ∧ w'.cell? ⟨gb103, 1, none⟩ = some (.slice (some ad107) l0_1.length c0_1) ∧ w'.cell? (ad107.add ((x4_1).toNat * 2)) = some (.int .i64 ((rd_TTie l0_1 x4_1).f0)) ∧ w'.cell? ⟨(ad107.add ((x4_1).toNat * 2)).block, (ad107.add ((x4_1).toNat * 2)).off + 1, none⟩ = some (.int .i64 ((rd_TTie l0_1 x4_1).f1))) (ds := []) (ba 12 0) (by kernel_rfl) rfl (by kernel_rfl) ⟨(blk_cell BK103.out 0).trans rfl, (blk_cell BK103.out 1).trans rfl, ((HB.out.cell (World.block_lt_of_cell? w _ hw107_0)).trans hw107_0), ((HB.out.cell (World.block_lt_of_cell? w _ hw107_1)).trans hw107_1)⟩ (fun hHeld => ?_); refine with_tabW spec_TreeOf.tab7 spec_TreeOf.bits7 (fun HT_ HW_ => ?_)
   generalize wr.drew = w17 at HO_3 BK103 HB hx107_0 hx107_1 hHeld ⊢
   refine pu 0 (some 18) (ba 12 1) HT_.out ?_
   refine pu 2 (some 20) (ba 12 5) HT_.out ?_
   refine pu 4 (some 22) (ba 12 21) HT_.out ?_
   refine pu 6 (some 24) (ba 12 85) HT_.out ?_
   refine tu 1 (some 19) (ba 12 87) HT_.out HW_.out hHeld ?_
   refine pu 3 (some 21) (ba 12 95) HT_.out ?_
   refine tu 5 (some 23) (ba 12 127) HT_.out HW_.out hHeld ?_
   refine pu 7 (some 25) (ba 12 255) HT_.out ?_
   refine pu 8 (some 26) (ba 12 511) HT_.out ?_
   refine tu 9 (some 27) (ba 12 1023) HT_.out HW_.out hHeld ?_
   refine one_ (i := 10) (N := some 28) (ba 12 2047) rfl rfl (one_of HT_.out (by kernel_rfl)) (by decide) (fun K hK => ?_)
   refine goes_ Try.func51 (by kernel_rfl) rfl #[.agg #[.int .i64 a0_0, .slice Ao18 x3_1.length co18], .int .i64 ((rd_TTie l0_1 x4_1).f0)] (by rfl) rfl rfl qm ?_
   with_reducible refine (spec_WayReach.calls k1 a0_0 _ _ x3_1 ((rd_TTie l0_1 x4_1).f0) t101 _ ?side1 ?side2 A11.out).mono ?_
   (case side1 => exact qc (Kd.R_reads' HO_3.out).2.2)
   (case side2 => exact (Kd.R_reads' HO_3.out).2.1)
   rintro e w19 ⟨v108, rfl, ho0, hb⟩
   refine ⟨_, rfl, ?_⟩
   have n0_ := q0 (Kd.R_below (qr HO_3.out) hb)
   have n1_ := q0 (Kd.R_lower ho0 (below_size (qb HB.out)))
   have n2_ := q0 (kb BK103.out hb)
   have n3_ := q0 (below_step (qb HB.out) hb)
   clear HO_3
   clear BK103
   clear HB
   have HO_3 := n0_
   have HO109 := n1_
   have BK103 := n2_
   have HB := n3_
   clear n0_ n1_ n2_ n3_
   (try clear hb)
   (try clear hb2)
   (try clear hk)
   (try clear hi)
   (try clear ho0)
   refine hK.out _ _ ⟨(blk_cell BK103.out 0).trans rfl, (blk_cell BK103.out 1).trans rfl, ((HB.out.cell (World.block_lt_of_cell? w _ hw107_0)).trans hw107_0), ((HB.out.cell (World.block_lt_of_cell? w _ hw107_1)).trans hw107_1)⟩ (fun hHeld => ?_)
   clear hK K
   refine nu 28 ?_
   refine pu 11 (some 5) (ba 12 4095) HT_.out ?_
   refine done_ (done_of HT_.out (by kernel_rfl)) ?_
   have hcz20_0 : w19.cell? ⟨gb103, 0, none⟩ = some (.int .i64 a0_0) := (blk_cell BK103.out 0).trans rfl
   have hcz20_1 : w19.cell? ⟨gb103, 1, none⟩ = some (.slice (some ad107) l0_1.length c0_1) := (blk_cell BK103.out 1).trans rfl
   have hfz20_0 := blk_frozen BK103.out 0
   have hfz20_1 := blk_frozen BK103.out 1
   have p110 : 0 ≤ (x4_1 : Int) := of_decide_eq_true qa
   have q110 : x4_1 < (l0_1.length : Int) := of_decide_eq_true qa
   obtain ⟨ad110, e110, hx110_0, hx110_1⟩ := at_TTie HR0_1.out x4_1 p110 q110
   obtain rfl : ad107 = ad110 := (by injection e110)
   replace hx110_0 := (HB.out.cell (World.block_lt_of_cell? w _ hx110_0)).trans hx110_0
   replace hx110_1 := (HB.out.cell (World.block_lt_of_cell? w _ hx110_1)).trans hx110_1
   replace p110 := eq_true p110
   replace q110 := eq_true q110
   obtain ⟨Ao21, co21, eo21⟩ := Kd.R_slice HO109.out
   subst eo21
   have p111 : 0 ≤ (((rd_TTie l0_1 x4_1).f1) : Int) := of_decide_eq_true qa
   have q111 : ((rd_TTie l0_1 x4_1).f1) < (t101.length : Int) := of_decide_eq_true qa
   obtain ⟨ad111, e111, hx111_0⟩ := Kd.at_bool (Kd.R_reads' HO109.out).2.2 ((rd_TTie l0_1 x4_1).f1) p111 q111
   (try rw [← Nbq14.out] at hx111_0)
   cases e111
   replace p111 := eq_true p111
   replace q111 := eq_true q111
   try go_wp2
   go_roundg k1
   case measure => have := HK1.out; omega
   case rel => exact ⟨(x3_1), (wrap64 (x4_1 + 1)), qs, H', ⟨by have := HK1.out; omega⟩, ⟨qr HO_3.out⟩, ⟨qk BK103.out⟩, ⟨qb HB.out⟩⟩
 replace c15 := Bool.eq_false_iff.mpr c15
 subst c15
 have H1 : (if x3_1.length < 8796093022208 then (spec_TreeOf.l0 k1 (x3_1 ++ [(⟨(rd_TTie l0_1 x4_1).f0, (rd_TTie l0_1 x4_1).f1⟩ : STie)]) (wrap64 (x4_1 + 1)) a0_0 l0_1) else (none)) = some r := by rw [if_neg (show ¬ (false = true) by decide)] at H; exact H
 clear H
 have H := H1
 clear H1
 by_cases c22 : x3_1.length < 8796093022208
 rotate_left
 · rw [if_neg c22] at H
   exact absurd H (by simp)
 rw [if_pos c22] at H
 have LMc22 := Aside0.mk c22
 clear c22
 obtain ⟨y112, hy112⟩ : ∃ y_ : List (STie), y_ = (x3_1 ++ [(⟨(rd_TTie l0_1 x4_1).f0, (rd_TTie l0_1 x4_1).f1⟩ : STie)]) := ⟨_, rfl⟩
 replace H : (spec_TreeOf.l0 k1 y112 (wrap64 (x4_1 + 1)) a0_0 l0_1) = some r := by first | (rw [hy112]; with_reducible exact H) | (have H2_ := (Option.bind_some _ _).symm.trans H; rw [hy112]; with_reducible exact H2_) | (have H2_ := (Option.bind_some _ _).symm.trans H; with_reducible exact H2_) | with_reducible exact H | (rw [hy112]; exact H) | exact H
 have Ny112 := Aside0.mk hy112
 clear hy112
 have H' := Aside0.mk H
 clear H
 have hcz23_0 : wr.cell? ⟨gb103, 0, none⟩ = some (.int .i64 a0_0) := (blk_cell BK103.out 0).trans rfl
 have hcz23_1 : wr.cell? ⟨gb103, 1, none⟩ = some (.slice A0_1 l0_1.length c0_1) := (blk_cell BK103.out 1).trans rfl
 have hfz23_0 := blk_frozen BK103.out 0
 have hfz23_1 := blk_frozen BK103.out 1
 try go_wp2
 have n0_ := q0 (Kd.R_drew HO_3.out)
 have n1_ := q0 (blk_drew BK103.out)
 have n2_ := q0 (below_drew1 HB.out)
 clear HO_3
 clear BK103
 clear HB
 have HO_3 := n0_
 have BK103 := n1_
 have HB := n2_
 clear n0_ n1_ n2_
 obtain ⟨Ao25, co25, eo25⟩ := Kd.R_slice HO_3.out
 (first | subst eo25 | (injection eo25 with f1_ f2_ f3_; have f4_ := f1_.symm; have f5_ := f3_.symm; clear f1_ f2_ f3_; subst f4_; subst f5_))
 have p107 : 0 ≤ (x4_1 : Int) := of_decide_eq_true qa
 have q107 : x4_1 < (l0_1.length : Int) := of_decide_eq_true qa
 obtain ⟨ad107, e107, hx107_0, hx107_1⟩ := at_TTie HR0_1.out x4_1 p107 q107
 have hw107_1 := hx107_1
 have hw107_0 := hx107_0
 cases e107
 replace hx107_0 := (HB.out.cell (World.block_lt_of_cell? w _ hx107_0)).trans hx107_0
 replace hx107_1 := (HB.out.cell (World.block_lt_of_cell? w _ hx107_1)).trans hx107_1
 replace p107 := eq_true p107
 replace q107 := eq_true q107
 refine start_ (n := 12) (S := fun w' => w'.cell? ⟨gb103, 0, none⟩ = some (.int .i64 a0_0) ∧ w'.cell? ⟨gb103, 1, none⟩ = some (.slice (some ad107) l0_1.length c0_1) ∧ w'.cell? (ad107.add ((x4_1).toNat * 2)) = some (.int .i64 ((rd_TTie l0_1 x4_1).f0)) ∧ w'.cell? ⟨(ad107.add ((x4_1).toNat * 2)).block, (ad107.add ((x4_1).toNat * 2)).off + 1, none⟩ = some (.int .i64 ((rd_TTie l0_1 x4_1).f1))) (ds := []) (ba 12 0) (by kernel_rfl) rfl (by kernel_rfl) ⟨(blk_cell BK103.out 0).trans rfl, (blk_cell BK103.out 1).trans rfl, ((HB.out.cell (World.block_lt_of_cell? w _ hw107_0)).trans hw107_0), ((HB.out.cell (World.block_lt_of_cell? w _ hw107_1)).trans hw107_1)⟩ (fun hHeld => ?_); refine with_tabW spec_TreeOf.tab7 spec_TreeOf.bits7 (fun HT_ HW_ => ?_)
 generalize wr.drew = w24 at HO_3 BK103 HB hx107_0 hx107_1 hHeld ⊢
 refine pu 0 (some 18) (ba 12 1) HT_.out ?_
 refine pu 2 (some 20) (ba 12 5) HT_.out ?_
 refine pu 4 (some 22) (ba 12 21) HT_.out ?_
 refine pu 6 (some 24) (ba 12 85) HT_.out ?_
 refine tu 1 (some 19) (ba 12 87) HT_.out HW_.out hHeld ?_
 refine pu 3 (some 21) (ba 12 95) HT_.out ?_
 refine tu 5 (some 23) (ba 12 127) HT_.out HW_.out hHeld ?_
 refine pu 7 (some 25) (ba 12 255) HT_.out ?_
 refine pu 8 (some 26) (ba 12 511) HT_.out ?_
 refine tu 9 (some 27) (ba 12 1023) HT_.out HW_.out hHeld ?_
 refine one_ (i := 10) (N := some 28) (ba 12 2047) rfl rfl (one_of HT_.out (by kernel_rfl)) (by decide) (fun K hK => ?_)
 refine goes_ Try.func51 (by kernel_rfl) rfl #[.agg #[.int .i64 a0_0, .slice Ao25 x3_1.length co25], .int .i64 ((rd_TTie l0_1 x4_1).f0)] (by rfl) rfl rfl qm ?_
 with_reducible refine (spec_WayReach.calls k1 a0_0 _ _ x3_1 ((rd_TTie l0_1 x4_1).f0) t101 _ ?side1 ?side2 A11.out).mono ?_
 (case side1 => exact qc (Kd.R_reads' HO_3.out).2.2)
 (case side2 => exact (Kd.R_reads' HO_3.out).2.1)
 rintro e w26 ⟨v108, rfl, ho0, hb⟩
 refine ⟨_, rfl, ?_⟩
 have n0_ := q0 (Kd.R_below (qr HO_3.out) hb)
 have n1_ := q0 (Kd.R_lower ho0 (below_size (qb HB.out)))
 have n2_ := q0 (kb BK103.out hb)
 have n3_ := q0 (below_step (qb HB.out) hb)
 clear HO_3
 clear BK103
 clear HB
 have HO_3 := n0_
 have HO109 := n1_
 have BK103 := n2_
 have HB := n3_
 clear n0_ n1_ n2_ n3_
 (try clear hb)
 (try clear hb2)
 (try clear hk)
 (try clear hi)
 (try clear ho0)
 refine hK.out _ _ ⟨(blk_cell BK103.out 0).trans rfl, (blk_cell BK103.out 1).trans rfl, ((HB.out.cell (World.block_lt_of_cell? w _ hw107_0)).trans hw107_0), ((HB.out.cell (World.block_lt_of_cell? w _ hw107_1)).trans hw107_1)⟩ (fun hHeld => ?_)
 clear hK K
 refine nu 28 ?_
 refine pu 11 (some 5) (ba 12 4095) HT_.out ?_
 refine done_ (done_of HT_.out (by kernel_rfl)) ?_
 have hcz27_0 : w26.cell? ⟨gb103, 0, none⟩ = some (.int .i64 a0_0) := (blk_cell BK103.out 0).trans rfl
 have hcz27_1 : w26.cell? ⟨gb103, 1, none⟩ = some (.slice (some ad107) l0_1.length c0_1) := (blk_cell BK103.out 1).trans rfl
 have hfz27_0 := blk_frozen BK103.out 0
 have hfz27_1 := blk_frozen BK103.out 1
 have p110 : 0 ≤ (x4_1 : Int) := of_decide_eq_true qa
 have q110 : x4_1 < (l0_1.length : Int) := of_decide_eq_true qa
 obtain ⟨ad110, e110, hx110_0, hx110_1⟩ := at_TTie HR0_1.out x4_1 p110 q110
 obtain rfl : ad107 = ad110 := (by injection e110)
 replace hx110_0 := (HB.out.cell (World.block_lt_of_cell? w _ hx110_0)).trans hx110_0
 replace hx110_1 := (HB.out.cell (World.block_lt_of_cell? w _ hx110_1)).trans hx110_1
 replace p110 := eq_true p110
 replace q110 := eq_true q110
 obtain ⟨Ao28, co28, eo28⟩ := Kd.R_slice HO109.out
 subst eo28
 have p111 : 0 ≤ (((rd_TTie l0_1 x4_1).f1) : Int) := of_decide_eq_true qa
 have q111 : ((rd_TTie l0_1 x4_1).f1) < (t101.length : Int) := of_decide_eq_true qa
 obtain ⟨ad111, e111, hx111_0⟩ := Kd.at_bool (Kd.R_reads' HO109.out).2.2 ((rd_TTie l0_1 x4_1).f1) p111 q111
 (try rw [← Nbq14.out] at hx111_0)
 cases e111
 replace p111 := eq_true p111
 replace q111 := eq_true q111
 have p113 : 0 ≤ (x4_1 : Int) := of_decide_eq_true qa
 have q113 : x4_1 < (l0_1.length : Int) := of_decide_eq_true qa
 obtain ⟨ad113, e113, hx113_0, hx113_1⟩ := at_TTie HR0_1.out x4_1 p113 q113
 obtain rfl : ad107 = ad113 := (by injection e113)
 replace hx113_0 := (HB.out.cell (World.block_lt_of_cell? w _ hx113_0)).trans hx113_0
 replace hx113_1 := (HB.out.cell (World.block_lt_of_cell? w _ hx113_1)).trans hx113_1
 replace p113 := eq_true p113
 replace q113 := eq_true q113
 try go_wp2_with (first | ((with_reducible refine gate_builtin (b := .append) (xs := #[.tmp 39, .tmp 45]) rfl ?_); at_builtin; refine Kd.R_append kTie (w0 := w) w.heap.size rfl (.tmp 39) (.tmp 45) 30 27 (.agg #[(.int .i64 0), (.int .i64 0)]) 16 rfl Try.underlying30 info27 rfl (by decide) (by omega) (.slice Ao25 x3_1.length co25) x3_1 (⟨(rd_TTie l0_1 x4_1).f0, (rd_TTie l0_1 x4_1).f1⟩ : STie) [.int .i64 ((rd_TTie l0_1 x4_1).f0), .int .i64 ((rd_TTie l0_1 x4_1).f1)] (fun _ => True) (fun _ => False) rfl rfl ?aP (fun _ hk => hk.elim) ?aF ?aO ?aB ?aS ?aL ?_; (case aP => exact kTie_mkM _ _ _ (⟨(rd_TTie l0_1 x4_1).f0, (rd_TTie l0_1 x4_1).f1⟩ : STie)); (case aB => exact (qb HB.out)); (case aF => exact (fun _ _ => trivial)); (case aO => exact (qr HO_3.out)); (case aS => exact (below_size (qb HB.out))); (case aL => have := LMc22.out; omega); intro v114 w29 ho hb hg hat; rw [← Ny112.out] at ho; have n0_ := q0 (blk_grown (g := gb103) (o := .cells #[.int .i64 a0_0, .slice (some ad107) l0_1.length c0_1] 32 (0, 0)) (qk BK103.out) hg (Kd.R_ne HO_3.out BK103.out (by decide))); have n1_ := q0 (Kd.R_over' (qr HO109.out) (Kd.R_typed (qr HO_3.out)) (by decide) hg); have n2_ := q0 (hb); have n3_ := q0 (ho); clear BK103 HO109 HB HO_3; have BK103 := n0_; have HO109 := n1_; have HB := n2_; have HO115 := n3_; clear n0_ n1_ n2_ n3_ ho hb hg hat))
 go_roundg k1
 case measure => have := HK1.out; omega
 case rel => exact ⟨(y112), (wrap64 (x4_1 + 1)), qs, H', ⟨by have := HK1.out; omega⟩, ⟨qr HO115.out⟩, ⟨qk BK103.out⟩, ⟨qb HB.out⟩⟩

set_option maxHeartbeats 8000000 in
set_option maxRecDepth 100000 in
theorem impl_Net_own.calls (k : Nat) (a0_0 : Int) (A0_1 : Option Addr) (c0_1 : Nat) (l0_1 : List (STie)) (A1 : Option Addr) (c1 : Nat) (l1 : List (STie)) (r : Bool) (w : World) (hr0_1 : Kd.C kTie w A0_1 l0_1.length l0_1) (hc0_1 : l0_1.length ≤ c0_1) (hr1 : Kd.C kTie w A1 l1.length l1) (hc1 : l1.length ≤ c1) (h : impl_Net_own.f k a0_0 l0_1 l1 = some r) :
    Calls Try.prog 64 #[.agg #[.int .i64 a0_0, .slice A0_1 l0_1.length c0_1], .slice A1 l1.length c1] w fun e w' => e = .returned (.bool r) ∧ Below w.heap.size w w' := by
 have hu32 := Try.underlying32
 have hu27 := Try.underlying27
 have HR0_1 := Aside0.mk hr0_1
 have HC0_1 := Aside0.mk hc0_1
 clear hr0_1 hc0_1
 have HR1 := Aside0.mk hr1
 have HC1 := Aside0.mk hc1
 clear hr1 hc1
 have HB := q0 (Below.refl w.heap.size w)
 have H : (impl_Net_own.l0 k l1 l1 (l1.length : Int) 0 a0_0 l0_1) = some r := h
 clear h
 have H' := Aside0.mk H
 clear H
 go_enter Try.func64, Try.ntmps64
 go_wp2_with (first | ((with_reducible refine gate_dst (N := 2) rfl ?_); refine be 2 #[.int .i64 a0_0, .slice A0_1 l0_1.length c0_1] 32 ?_; intro gb103 hg w3 hbox hb; have n0_ := q0 (below_step (qb HB.out) hb); have n1_ := q0 (hbox); have n2_ := q0 ((bs HB.out hg : w.heap.size ≤ gb103)); have n3_ := q0 ((bs HB.out hg : w.heap.size ≤ gb103)); clear HB; have HB := n0_; have BK103 := n1_; have GW103 := n2_; have GE103 := n3_; clear n0_ n1_ n2_ n3_ hb hbox hg))
 go_loopg [9] k (fun kq v9 w' => ∃ (x9_1 : Int), v9 = .int .i64 x9_1 ∧ Aside0 (impl_Net_own.l0 kq l1 l1 (l1.length : Int) x9_1 a0_0 l0_1 = some r) ∧ Aside0 (kq ≤ k) ∧ Aside0 (w'.heap[gb103]? = some (.cells #[.int .i64 a0_0, (.slice A0_1 l0_1.length c0_1)] 32 (0, 0))) ∧ Aside0 (Below w.heap.size w w'))
 case atStart => exact ⟨(0), qs, H', ⟨Nat.le_refl _⟩, ⟨qk BK103.out⟩, ⟨qb HB.out⟩⟩
 clear H'
 try clear c1
 try clear p2
 obtain ⟨x9_1, rfl, HA, HK1, BK103, HB⟩ := hrel
 rcases gk with _ | k1
 · exact absurd HA.out (by simp [impl_Net_own.l0])
 have H := HA.out
 clear HA
 simp only [impl_Net_own.l0] at H
 by_cases c4 : x9_1 < (l1.length : Int)
 rotate_left
 · rw [if_neg c4] at H
   have c4b0 : decide (x9_1 < (l1.length : Int)) = false := decide_eq_false c4
   clear c4
   replace H := Option.bind_eq_some_iff.mp H
   obtain ⟨t102, A105, H⟩ := H
   replace H : (some t102) = some r := H
   have A19 := Aside0.mk A105
   clear A105
   obtain rfl := Option.some.inj H
   go_wp2_with (first | ((with_reducible refine gate_callee (f := 83) rfl ?_); refine goesL_ (some 20) rfl rfl Try.func83 (by kernel_rfl) rfl #[.slice A1 l1.length c1] rfl qm ?_; (with_reducible refine (impl_ascending.calls k1 _ _ l1 t102 _ ?side1 ?side2 A19.out).mono ?_); (case side1 => exact qc (Kd.C_below HR1.out HB.out)); (case side2 => exact HC1.out); rintro e w20 ⟨rfl, hb⟩; refine ⟨_, rfl, ?_⟩; have n0_ := q0 (kb BK103.out hb); have n1_ := q0 (below_step (qb HB.out) hb); clear BK103 HB; have BK103 := n0_; have HB := n1_; clear n0_ n1_; (try clear hb); (try clear hb2); (try clear hk); (try clear hi)))
   go_ret
   exact ⟨qe, qb HB.out⟩
 rw [if_pos c4] at H
 have c4b0 : decide (x9_1 < (l1.length : Int)) = true := decide_eq_true c4
 clear c4
 by_cases c5 : 0 ≤ x9_1
 rotate_left
 · rw [if_neg c5] at H
   exact absurd H (by simp)
 rw [if_pos c5] at H
 have c5b0 : decide (0 ≤ x9_1) = true := decide_eq_true c5
 clear c5
 by_cases c6 : x9_1 < (l1.length : Int)
 rotate_left
 · rw [if_neg c6] at H
   exact absurd H (by simp)
 rw [if_pos c6] at H
 have c6b0 : decide (x9_1 < (l1.length : Int)) = true := decide_eq_true c6
 clear c6
 replace H := Option.bind_eq_some_iff.mp H
 obtain ⟨t101, A70, H⟩ := H
 replace H : (if t101 = true then (impl_Net_own.l0 k1 l1 l1 (l1.length : Int) (wrap64 (x9_1 + 1)) a0_0 l0_1) else (some false)) = some r := H
 have A7 := Aside0.mk A70
 clear A70
 by_cases c8 : t101 = true
 rotate_left
 · replace c8 := Bool.eq_false_iff.mpr c8
   subst c8
   have H1 : (some false) = some r := by rw [if_neg (show ¬ (false = true) by decide)] at H; exact H
   clear H
   have H := H1
   clear H1
   obtain rfl := Option.some.inj H
   have p100 : 0 ≤ (x9_1 : Int) := of_decide_eq_true qa
   have q100 : x9_1 < (l1.length : Int) := of_decide_eq_true qa
   obtain ⟨ad100, e100, hx100_0, hx100_1⟩ := at_TTie HR1.out x9_1 p100 q100
   cases e100
   replace hx100_0 := (HB.out.cell (World.block_lt_of_cell? w _ hx100_0)).trans hx100_0
   replace hx100_1 := (HB.out.cell (World.block_lt_of_cell? w _ hx100_1)).trans hx100_1
   replace p100 := eq_true p100
   replace q100 := eq_true q100
   go_wp2_with (first | ((with_reducible refine gate_dst (N := 6) rfl ?_); refine be 6 #[.int .i64 0, .int .i64 0] 27 ?_; intro gb104 hg w14 hbox hb; have n0_ := q0 (kb BK103.out hb); have n1_ := q0 (below_step (qb HB.out) hb); have n2_ := q0 (hbox); have n3_ := q0 ((bs HB.out hg : w.heap.size ≤ gb104)); have n4_ := q0 ((bs HB.out hg : w.heap.size ≤ gb104)); have n5_ := q0 ((bl BK103.out hg : gb103 ≠ gb104)); have n6_ := q0 ((bg BK103.out hg : gb104 ≠ gb103)); clear BK103 HB; have BK103 := n0_; have HB := n1_; have BK104 := n2_; have GW104 := n3_; have GE104 := n4_; have NB103_104 := n5_; have NB104_103 := n6_; clear n0_ n1_ n2_ n3_ n4_ n5_ n6_ hb hbox hg; have hnb15 := NB104_103.out; have hnc15 := NB103_104.out; have hcz16_0 : w14.cell? ⟨gb104, 0, none⟩ = some (.int .i64 0) := (blk_cell BK104.out 0).trans rfl; have hcz16_1 : w14.cell? ⟨gb104, 1, none⟩ = some (.int .i64 0) := (blk_cell BK104.out 1).trans rfl; have hfz16_0 := blk_frozen BK104.out 0; have hfz16_1 := blk_frozen BK104.out 1; have hcz17_0 : w14.cell? ⟨gb103, 0, none⟩ = some (.int .i64 a0_0) := (blk_cell BK103.out 0).trans rfl; have hcz17_1 : w14.cell? ⟨gb103, 1, none⟩ = some (.slice A0_1 l0_1.length c0_1) := (blk_cell BK103.out 1).trans rfl; have hfz17_0 := blk_frozen BK103.out 0; have hfz17_1 := blk_frozen BK103.out 1) | ((with_reducible refine gate_callee (f := 68) rfl ?_); refine goesL_ (some 16) rfl rfl Try.func68 (by kernel_rfl) rfl #[.slice A0_1 l0_1.length c0_1, .agg #[.int .i64 ((rd_TTie l1 x9_1).f0), .int .i64 ((rd_TTie l1 x9_1).f1)]] rfl qm ?_; (with_reducible refine (slices_Contains_Tie.calls k1 _ _ l0_1 ((rd_TTie l1 x9_1).f0) ((rd_TTie l1 x9_1).f1) false _ ?side1 ?side2 A7.out).mono ?_); (case side1 => exact Kd.C_below HR0_1.out (qb HB.out)); (case side2 => exact HC0_1.out); rintro e w18 ⟨rfl, hb⟩; refine ⟨_, rfl, ?_⟩; have n0_ := q0 (blk_below (g := gb103) (o := .cells #[.int .i64 a0_0, .slice A0_1 l0_1.length c0_1] 32 (0, 0)) (qf BK103.out) hb); have n1_ := q0 (blk_below (g := gb104) (o := .cells #[.int .i64 ((rd_TTie l1 x9_1).f0), .int .i64 ((rd_TTie l1 x9_1).f1)] 27 (0, 0)) (by (with_reducible repeat (first | refine blk_drewN ?_ _ | refine blk_drew ?_ | refine blk_alloc ?_ _)); refine blk_put (cs := #[.int .i64 ((rd_TTie l1 x9_1).f0), .int .i64 0]) ?_ 1 _ rfl; (with_reducible repeat (first | refine blk_drewN ?_ _ | refine blk_drew ?_ | refine blk_alloc ?_ _)); refine blk_put (cs := #[.int .i64 0, .int .i64 0]) ?_ 0 _ rfl; (with_reducible repeat (first | refine blk_drewN ?_ _ | refine blk_drew ?_ | refine blk_alloc ?_ _)); exact BK104.out) hb); have n2_ := q0 (below_step (qb HB.out) hb); clear BK103 BK104 HB; have BK103 := n0_; have BK104 := n1_; have HB := n2_; clear n0_ n1_ n2_; (try clear hb); (try clear hb2); (try clear hk); (try clear hi)))
   go_ret
   exact ⟨qe, qb HB.out⟩
 subst c8
 have H1 : (impl_Net_own.l0 k1 l1 l1 (l1.length : Int) (wrap64 (x9_1 + 1)) a0_0 l0_1) = some r := by rw [if_pos rfl] at H; exact H
 clear H
 have H := H1
 clear H1
 have H' := Aside0.mk H
 clear H
 have p100 : 0 ≤ (x9_1 : Int) := of_decide_eq_true qa
 have q100 : x9_1 < (l1.length : Int) := of_decide_eq_true qa
 obtain ⟨ad100, e100, hx100_0, hx100_1⟩ := at_TTie HR1.out x9_1 p100 q100
 cases e100
 replace hx100_0 := (HB.out.cell (World.block_lt_of_cell? w _ hx100_0)).trans hx100_0
 replace hx100_1 := (HB.out.cell (World.block_lt_of_cell? w _ hx100_1)).trans hx100_1
 replace p100 := eq_true p100
 replace q100 := eq_true q100
 go_wp2_with (first | ((with_reducible refine gate_dst (N := 6) rfl ?_); refine be 6 #[.int .i64 0, .int .i64 0] 27 ?_; intro gb104 hg w9 hbox hb; have n0_ := q0 (kb BK103.out hb); have n1_ := q0 (below_step (qb HB.out) hb); have n2_ := q0 (hbox); have n3_ := q0 ((bs HB.out hg : w.heap.size ≤ gb104)); have n4_ := q0 ((bs HB.out hg : w.heap.size ≤ gb104)); have n5_ := q0 ((bl BK103.out hg : gb103 ≠ gb104)); have n6_ := q0 ((bg BK103.out hg : gb104 ≠ gb103)); clear BK103 HB; have BK103 := n0_; have HB := n1_; have BK104 := n2_; have GW104 := n3_; have GE104 := n4_; have NB103_104 := n5_; have NB104_103 := n6_; clear n0_ n1_ n2_ n3_ n4_ n5_ n6_ hb hbox hg; have hnb10 := NB104_103.out; have hnc10 := NB103_104.out; have hcz11_0 : w9.cell? ⟨gb104, 0, none⟩ = some (.int .i64 0) := (blk_cell BK104.out 0).trans rfl; have hcz11_1 : w9.cell? ⟨gb104, 1, none⟩ = some (.int .i64 0) := (blk_cell BK104.out 1).trans rfl; have hfz11_0 := blk_frozen BK104.out 0; have hfz11_1 := blk_frozen BK104.out 1; have hcz12_0 : w9.cell? ⟨gb103, 0, none⟩ = some (.int .i64 a0_0) := (blk_cell BK103.out 0).trans rfl; have hcz12_1 : w9.cell? ⟨gb103, 1, none⟩ = some (.slice A0_1 l0_1.length c0_1) := (blk_cell BK103.out 1).trans rfl; have hfz12_0 := blk_frozen BK103.out 0; have hfz12_1 := blk_frozen BK103.out 1) | ((with_reducible refine gate_callee (f := 68) rfl ?_); refine goesL_ (some 16) rfl rfl Try.func68 (by kernel_rfl) rfl #[.slice A0_1 l0_1.length c0_1, .agg #[.int .i64 ((rd_TTie l1 x9_1).f0), .int .i64 ((rd_TTie l1 x9_1).f1)]] rfl qm ?_; (with_reducible refine (slices_Contains_Tie.calls k1 _ _ l0_1 ((rd_TTie l1 x9_1).f0) ((rd_TTie l1 x9_1).f1) true _ ?side1 ?side2 A7.out).mono ?_); (case side1 => exact Kd.C_below HR0_1.out (qb HB.out)); (case side2 => exact HC0_1.out); rintro e w13 ⟨rfl, hb⟩; refine ⟨_, rfl, ?_⟩; have n0_ := q0 (blk_below (g := gb103) (o := .cells #[.int .i64 a0_0, .slice A0_1 l0_1.length c0_1] 32 (0, 0)) (qf BK103.out) hb); have n1_ := q0 (blk_below (g := gb104) (o := .cells #[.int .i64 ((rd_TTie l1 x9_1).f0), .int .i64 ((rd_TTie l1 x9_1).f1)] 27 (0, 0)) (by (with_reducible repeat (first | refine blk_drewN ?_ _ | refine blk_drew ?_ | refine blk_alloc ?_ _)); refine blk_put (cs := #[.int .i64 ((rd_TTie l1 x9_1).f0), .int .i64 0]) ?_ 1 _ rfl; (with_reducible repeat (first | refine blk_drewN ?_ _ | refine blk_drew ?_ | refine blk_alloc ?_ _)); refine blk_put (cs := #[.int .i64 0, .int .i64 0]) ?_ 0 _ rfl; (with_reducible repeat (first | refine blk_drewN ?_ _ | refine blk_drew ?_ | refine blk_alloc ?_ _)); exact BK104.out) hb); have n2_ := q0 (below_step (qb HB.out) hb); clear BK103 BK104 HB; have BK103 := n0_; have BK104 := n1_; have HB := n2_; clear n0_ n1_ n2_; (try clear hb); (try clear hb2); (try clear hk); (try clear hi)))
 go_roundg k1
 case measure => have := HK1.out; omega
 case rel => exact ⟨(wrap64 (x9_1 + 1)), qs, H', ⟨by have := HK1.out; omega⟩, ⟨qk BK103.out⟩, ⟨qb HB.out⟩⟩

set_option maxHeartbeats 8000000 in
set_option maxRecDepth 100000 in
theorem impl_Net_count.calls (k : Nat) (a0_0 : Int) (A0_1 : Option Addr) (c0_1 : Nat) (l0_1 : List (STie)) (r : Int) (w : World) (hr0_1 : Kd.C kTie w A0_1 l0_1.length l0_1) (hc0_1 : l0_1.length ≤ c0_1) (h : impl_Net_count.f k a0_0 l0_1 = some r) :
    Calls Try.prog 65 #[.agg #[.int .i64 a0_0, .slice A0_1 l0_1.length c0_1]] w fun e w' => e = .returned (.int .i64 r) ∧ Below w.heap.size w w' := by
 have hu32 := Try.underlying32
 have HR0_1 := Aside0.mk hr0_1
 have HC0_1 := Aside0.mk hc0_1
 clear hr0_1 hc0_1
 have HB := q0 (Below.refl w.heap.size w)
 have H : ((impl_Net_parts.f k a0_0 l0_1).bind fun t100 => (impl_Net_count.l0 k 0 t100 (t100.length : Int) 0)) = some r := h
 clear h
 replace H := Option.bind_eq_some_iff.mp H
 obtain ⟨t100, A20, H⟩ := H
 replace H : (impl_Net_count.l0 k 0 t100 (t100.length : Int) 0) = some r := H
 have A2 := Aside0.mk A20
 clear A20
 have H' := Aside0.mk H
 clear H
 go_enter Try.func65, Try.ntmps65
 go_wp2_with (first | ((with_reducible refine gate_dst (N := 1) rfl ?_); refine be 1 #[.int .i64 a0_0, .slice A0_1 l0_1.length c0_1] 32 ?_; intro gb101 hg w3 hbox hb; have n0_ := q0 (below_step (qb HB.out) hb); have n1_ := q0 (hbox); have n2_ := q0 ((bs HB.out hg : w.heap.size ≤ gb101)); have n3_ := q0 ((bs HB.out hg : w.heap.size ≤ gb101)); clear HB; have HB := n0_; have BK101 := n1_; have GW101 := n2_; have GE101 := n3_; clear n0_ n1_ n2_ n3_ hb hbox hg; have hcz4_0 : w3.cell? ⟨gb101, 0, none⟩ = some (.int .i64 a0_0) := (blk_cell BK101.out 0).trans rfl; have hcz4_1 : w3.cell? ⟨gb101, 1, none⟩ = some (.slice A0_1 l0_1.length c0_1) := (blk_cell BK101.out 1).trans rfl; have hfz4_0 := blk_frozen BK101.out 0; have hfz4_1 := blk_frozen BK101.out 1) | ((with_reducible refine gate_callee (f := 72) rfl ?_); refine goesL_ (some 7) rfl rfl Try.func72 (by kernel_rfl) rfl #[.agg #[.int .i64 a0_0, .slice A0_1 l0_1.length c0_1]] rfl qm ?_; (with_reducible refine (impl_Net_parts.calls k a0_0 _ _ l0_1 t100 _ ?side1 ?side2 A2.out).mono ?_); (case side1 => exact qc (Kd.C_below HR0_1.out HB.out)); (case side2 => exact HC0_1.out); rintro e w5 ⟨v102, rfl, ho0, hb⟩; refine ⟨_, rfl, ?_⟩; have n0_ := q0 (Kd.R_lower ho0 (below_size (qb HB.out))); have n1_ := q0 (kb BK101.out hb); have n2_ := q0 (below_step (qb HB.out) hb); clear BK101 HB; have HO103 := n0_; have BK101 := n1_; have HB := n2_; clear n0_ n1_ n2_; (try clear hb); (try clear hb2); (try clear hk); (try clear hi); (try clear ho0); obtain ⟨Ao6, co6, eo6⟩ := Kd.R_slice HO103.out; subst eo6))
 go_loopg [3, 9] k (fun kq v3 v9 w' => ∃ (x3_1 : Int) (x9_1 : Int), v3 = .int .i64 x3_1 ∧ v9 = .int .i64 x9_1 ∧ Aside0 (impl_Net_count.l0 kq x3_1 t100 (t100.length : Int) x9_1 = some r) ∧ Aside0 (kq ≤ k) ∧ Aside0 (Kd.R (Kd.int .i64) 3 w' w.heap.size (fun _ => True) (.slice Ao6 t100.length co6) t100) ∧ Aside0 (w'.heap[gb101]? = some (.cells #[.int .i64 a0_0, (.slice A0_1 l0_1.length c0_1)] 32 (0, 0))) ∧ Aside0 (Below w.heap.size w w'))
 case atStart => exact ⟨(0), (0), qs, qs, H', ⟨Nat.le_refl _⟩, ⟨qr HO103.out⟩, ⟨qk BK101.out⟩, ⟨qb HB.out⟩⟩
 clear H'
 try clear p2
 try clear c6
 try clear hcz4_0
 try clear hcz4_1
 try clear hfz4_0
 try clear hfz4_1
 obtain ⟨x3_1, x9_1, rfl, rfl, HA, HK1, HO_7, BK101, HB⟩ := hrel
 rcases gk with _ | k1
 · exact absurd HA.out (by simp [impl_Net_count.l0])
 have H := HA.out
 clear HA
 simp only [impl_Net_count.l0] at H
 by_cases c7 : x9_1 < (t100.length : Int)
 rotate_left
 · rw [if_neg c7] at H
   have c7b0 : decide (x9_1 < (t100.length : Int)) = false := decide_eq_false c7
   clear c7
   obtain rfl := Option.some.inj H
   go_wp2
   go_ret
   exact ⟨qe, qb HB.out⟩
 rw [if_pos c7] at H
 have c7b0 : decide (x9_1 < (t100.length : Int)) = true := decide_eq_true c7
 clear c7
 by_cases c8 : 0 ≤ x9_1
 rotate_left
 · rw [if_neg c8] at H
   exact absurd H (by simp)
 rw [if_pos c8] at H
 have c8b0 : decide (0 ≤ x9_1) = true := decide_eq_true c8
 clear c8
 by_cases c9 : x9_1 < (t100.length : Int)
 rotate_left
 · rw [if_neg c9] at H
   exact absurd H (by simp)
 rw [if_pos c9] at H
 have c9b0 : decide (x9_1 < (t100.length : Int)) = true := decide_eq_true c9
 clear c9
 by_cases c10 : x9_1 = (rd t100 x9_1)
 rotate_left
 · rw [if_neg c10] at H
   have c10b0 : (x9_1 == (rd t100 x9_1)) = false := beq_eq_false_iff_ne.mpr c10
   have c10b1 : (x9_1 != (rd t100 x9_1)) = true := bne_iff_ne.mpr c10
   have H' := Aside0.mk H
   clear H
   have p104 : 0 ≤ (x9_1 : Int) := of_decide_eq_true qa
   have q104 : x9_1 < (t100.length : Int) := of_decide_eq_true qa
   obtain ⟨ad104, e104, hx104_0⟩ := Kd.at_int (Kd.R_reads' HO_7.out).2.2 x9_1 p104 q104
   cases e104
   replace p104 := eq_true p104
   replace q104 := eq_true q104
   go_wp2
   go_roundg k1
   case measure => have := HK1.out; omega
   case rel => exact ⟨(x3_1), (wrap64 (x9_1 + 1)), qs, qs, H', ⟨by have := HK1.out; omega⟩, ⟨qr HO_7.out⟩, ⟨qk BK101.out⟩, ⟨qb HB.out⟩⟩
 rw [if_pos c10] at H
 have c10b0 : (x9_1 == (rd t100 x9_1)) = true := beq_iff_eq.mpr c10
 have c10b1 : (x9_1 != (rd t100 x9_1)) = false := bne_eq_false_iff_eq.mpr c10
 clear c10
 have H' := Aside0.mk H
 clear H
 have p104 : 0 ≤ (x9_1 : Int) := of_decide_eq_true qa
 have q104 : x9_1 < (t100.length : Int) := of_decide_eq_true qa
 obtain ⟨ad104, e104, hx104_0⟩ := Kd.at_int (Kd.R_reads' HO_7.out).2.2 x9_1 p104 q104
 cases e104
 replace p104 := eq_true p104
 replace q104 := eq_true q104
 go_wp2
 go_roundg k1
 case measure => have := HK1.out; omega
 case rel => exact ⟨(wrap64 (x3_1 + 1)), (wrap64 (x9_1 + 1)), qs, qs, H', ⟨by have := HK1.out; omega⟩, ⟨qr HO_7.out⟩, ⟨qk BK101.out⟩, ⟨qb HB.out⟩⟩

set_option maxHeartbeats 8000000 in
set_option maxRecDepth 100000 in
theorem impl_TreeOk.calls (k : Nat) (a0_0 : Int) (A0_1 : Option Addr) (c0_1 : Nat) (l0_1 : List (STie)) (A1 : Option Addr) (c1 : Nat) (l1 : List (STie)) (r : Bool) (w : World) (hr0_1 : Kd.C kTie w A0_1 l0_1.length l0_1) (hc0_1 : l0_1.length ≤ c0_1) (hr1 : Kd.C kTie w A1 l1.length l1) (hc1 : l1.length ≤ c1) (h : impl_TreeOk.f k a0_0 l0_1 l1 = some r) :
    Calls Try.prog 24 #[.agg #[.int .i64 a0_0, .slice A0_1 l0_1.length c0_1], .slice A1 l1.length c1] w fun e w' => e = .returned (.bool r) ∧ Below w.heap.size w w' := by
 have hu32 := Try.underlying32
 have HR0_1 := Aside0.mk hr0_1
 have HC0_1 := Aside0.mk hc0_1
 clear hr0_1 hc0_1
 have HR1 := Aside0.mk hr1
 have HC1 := Aside0.mk hc1
 clear hr1 hc1
 have HB := q0 (Below.refl w.heap.size w)
 have H : ((impl_NetOk.f k a0_0 l0_1).bind fun t100 => (if t100 = true then ((impl_Net_own.f k a0_0 l0_1 l1).bind fun t103 => (impl_TreeOk.j0 k l1 (!t103) a0_0 l0_1)) else (impl_TreeOk.j0 k l1 true a0_0 l0_1))) = some r := h
 clear h
 have HC3 := Aside0.mk H
 clear H
 go_enter Try.func24, Try.ntmps24
 go_upto_region 1 with (first | ((with_reducible refine gate_dst (N := 2) rfl ?_); (try (refine gate_guard (by rfl) ?_; dsimp only)); refine be 2 #[.int .i64 a0_0, .slice A0_1 l0_1.length c0_1] 32 ?_; intro gb104 hg w4 hbox hb; have n0_ := q0 (below_step (qb HB.out) hb); have n1_ := q0 (hbox); have n2_ := q0 ((bs HB.out hg : w.heap.size ≤ gb104)); have n3_ := q0 ((bs HB.out hg : w.heap.size ≤ gb104)); clear HB; have HB := n0_; have BK104 := n1_; have GW104 := n2_; have GE104 := n3_; clear n0_ n1_ n2_ n3_ hb hbox hg))
 (try simp only [Act.put, List.setIfInBounds_toArray, List.set_cons_zero, List.set_cons_succ])
 go_cut [14] (fun v14 wc => ∃ (kq : Nat) (x14_2 : Bool), v14 = .bool x14_2 ∧ Aside0 (impl_TreeOk.j0 kq l1 x14_2 a0_0 l0_1 = some r) ∧ Aside0 (kq ≤ k) ∧ Aside0 (wc.heap[gb104]? = some (.cells #[.int .i64 a0_0, (.slice A0_1 l0_1.length c0_1)] 32 (0, 0))) ∧ Aside0 (Below w.heap.size w wc))
 case first =>
   have H := HC3.out
   clear HC3
   replace H := Option.bind_eq_some_iff.mp H
   obtain ⟨t100, A50, H⟩ := H
   replace H : (if t100 = true then ((impl_Net_own.f k a0_0 l0_1 l1).bind fun t103 => (impl_TreeOk.j0 k l1 (!t103) a0_0 l0_1)) else (impl_TreeOk.j0 k l1 true a0_0 l0_1)) = some r := H
   have A5 := Aside0.mk A50
   clear A50
   by_cases c6 : t100 = true
   rotate_left
   · replace c6 := Bool.eq_false_iff.mpr c6
     subst c6
     have H1 : (impl_TreeOk.j0 k l1 true a0_0 l0_1) = some r := by rw [if_neg (show ¬ (false = true) by decide)] at H; exact H
     clear H
     have H := H1
     clear H1
     have H' := Aside0.mk H
     clear H
     have hcz12_0 : w4.cell? ⟨gb104, 0, none⟩ = some (.int .i64 a0_0) := (blk_cell BK104.out 0).trans rfl
     have hcz12_1 : w4.cell? ⟨gb104, 1, none⟩ = some (.slice A0_1 l0_1.length c0_1) := (blk_cell BK104.out 1).trans rfl
     have hfz12_0 := blk_frozen BK104.out 0
     have hfz12_1 := blk_frozen BK104.out 1
     go_wp2_with (first | ((with_reducible refine gate_callee (f := 54) rfl ?_); refine goesL_ (some 7) rfl rfl Try.func54 (by kernel_rfl) rfl #[.agg #[.int .i64 a0_0, .slice A0_1 l0_1.length c0_1]] rfl qm ?_; (with_reducible refine (impl_NetOk.calls k a0_0 _ _ l0_1 false _ ?side1 ?side2 A5.out).mono ?_); (case side1 => exact qc (Kd.C_below HR0_1.out HB.out)); (case side2 => exact HC0_1.out); rintro e w13 ⟨rfl, hb⟩; refine ⟨_, rfl, ?_⟩; have n0_ := q0 (kb BK104.out hb); have n1_ := q0 (below_step (qb HB.out) hb); clear BK104 HB; have BK104 := n0_; have HB := n1_; clear n0_ n1_; (try clear hb); (try clear hb2); (try clear hk); (try clear hi)))
     go_meet
     case rel => exact ⟨_, (true), qs, H', ⟨by first | omega | exact Nat.le_refl _⟩, ⟨qk BK104.out⟩, ⟨qb HB.out⟩⟩
   subst c6
   have H1 : ((impl_Net_own.f k a0_0 l0_1 l1).bind fun t103 => (impl_TreeOk.j0 k l1 (!t103) a0_0 l0_1)) = some r := by rw [if_pos rfl] at H; exact H
   clear H
   have H := H1
   clear H1
   replace H := Option.bind_eq_some_iff.mp H
   obtain ⟨t103, A70, H⟩ := H
   replace H : (impl_TreeOk.j0 k l1 (!t103) a0_0 l0_1) = some r := H
   have A7 := Aside0.mk A70
   clear A70
   have H' := Aside0.mk H
   clear H
   have hcz8_0 : w4.cell? ⟨gb104, 0, none⟩ = some (.int .i64 a0_0) := (blk_cell BK104.out 0).trans rfl
   have hcz8_1 : w4.cell? ⟨gb104, 1, none⟩ = some (.slice A0_1 l0_1.length c0_1) := (blk_cell BK104.out 1).trans rfl
   have hfz8_0 := blk_frozen BK104.out 0
   have hfz8_1 := blk_frozen BK104.out 1
   go_wp2_with (first | ((with_reducible refine gate_callee (f := 54) rfl ?_); refine goesL_ (some 7) rfl rfl Try.func54 (by kernel_rfl) rfl #[.agg #[.int .i64 a0_0, .slice A0_1 l0_1.length c0_1]] rfl qm ?_; (with_reducible refine (impl_NetOk.calls k a0_0 _ _ l0_1 true _ ?side1 ?side2 A5.out).mono ?_); (case side1 => exact qc (Kd.C_below HR0_1.out HB.out)); (case side2 => exact HC0_1.out); rintro e w9 ⟨rfl, hb⟩; refine ⟨_, rfl, ?_⟩; have n0_ := q0 (kb BK104.out hb); have n1_ := q0 (below_step (qb HB.out) hb); clear BK104 HB; have BK104 := n0_; have HB := n1_; clear n0_ n1_; (try clear hb); (try clear hb2); (try clear hk); (try clear hi); have hcz10_0 : w9.cell? ⟨gb104, 0, none⟩ = some (.int .i64 a0_0) := (blk_cell BK104.out 0).trans rfl; have hcz10_1 : w9.cell? ⟨gb104, 1, none⟩ = some (.slice A0_1 l0_1.length c0_1) := (blk_cell BK104.out 1).trans rfl; have hfz10_0 := blk_frozen BK104.out 0; have hfz10_1 := blk_frozen BK104.out 1) | (go_at_call 64; (with_reducible refine (impl_Net_own.calls k a0_0 _ _ l0_1 _ _ l1 t103 _ ?side1 ?side2 ?side3 ?side4 A7.out).mono ?_); (case side1 => exact qc (Kd.C_below HR0_1.out HB.out)); (case side2 => exact HC0_1.out); (case side3 => exact qc (Kd.C_below HR1.out HB.out)); (case side4 => exact HC1.out); rintro e w11 ⟨rfl, hb⟩; have n0_ := q0 (kb BK104.out hb); have n1_ := q0 (below_step (qb HB.out) hb); clear BK104 HB; have BK104 := n0_; have HB := n1_; clear n0_ n1_; (try clear hb); (try clear hb2); (try clear hk); (try clear hi)))
   go_meet
   case rel => exact ⟨_, (!t103), qs, H', ⟨by first | omega | exact Nat.le_refl _⟩, ⟨qk BK104.out⟩, ⟨qb HB.out⟩⟩
 clear HC3
 try clear c1
 try clear c2
 try clear p2
 try clear c5
 try clear c6
 try clear hcz10_0
 try clear hcz10_1
 try clear hcz12_0
 try clear hcz12_1
 try clear hcz8_0
 try clear hcz8_1
 try clear hfz10_0
 try clear hfz10_1
 try clear hfz12_0
 try clear hfz12_1
 try clear hfz8_0
 try clear hfz8_1
 obtain ⟨kq, x14_2, rfl, HA, HJ2, BK104, HB⟩ := hcut
 rcases kq with _ | kj2
 · exact absurd HA.out (by simp [impl_TreeOk.j0])
 have H := HA.out
 clear HA
 simp only [impl_TreeOk.j0] at H
 by_cases c14 : x14_2 = true
 · subst c14
   have H1 : (some false) = some r := by rw [if_pos rfl] at H; exact H
   clear H
   have H := H1
   clear H1
   obtain rfl := Option.some.inj H
   go_wp2
   go_ret
   exact ⟨qe, qb HB.out⟩
 replace c14 := Bool.eq_false_iff.mpr c14
 subst c14
 have H1 : ((impl_Net_count.f kj2 a0_0 l0_1).bind fun t101 => ((impl_Net_count.f kj2 a0_0 l1).bind fun t102 => (if t102 = t101 then (some ((l1.length : Int) == (wrap64 (a0_0 - t101)))) else (some false)))) = some r := by rw [if_neg (show ¬ (false = true) by decide)] at H; exact H
 clear H
 have H := H1
 clear H1
 replace H := Option.bind_eq_some_iff.mp H
 obtain ⟨t101, A105, H⟩ := H
 replace H : ((impl_Net_count.f kj2 a0_0 l1).bind fun t102 => (if t102 = t101 then (some ((l1.length : Int) == (wrap64 (a0_0 - t101)))) else (some false))) = some r := H
 have A15 := Aside0.mk A105
 clear A105
 replace H := Option.bind_eq_some_iff.mp H
 obtain ⟨t102, A106, H⟩ := H
 replace H : (if t102 = t101 then (some ((l1.length : Int) == (wrap64 (a0_0 - t101)))) else (some false)) = some r := H
 have A16 := Aside0.mk A106
 clear A106
 by_cases c17 : t102 = t101
 rotate_left
 · rw [if_neg c17] at H
   have c17b0 : (t102 == t101) = false := beq_eq_false_iff_ne.mpr c17
   have c17b1 : (t102 != t101) = true := bne_iff_ne.mpr c17
   obtain rfl := Option.some.inj H
   have hcz23_0 : wc.cell? ⟨gb104, 0, none⟩ = some (.int .i64 a0_0) := (blk_cell BK104.out 0).trans rfl
   have hcz23_1 : wc.cell? ⟨gb104, 1, none⟩ = some (.slice A0_1 l0_1.length c0_1) := (blk_cell BK104.out 1).trans rfl
   have hfz23_0 := blk_frozen BK104.out 0
   have hfz23_1 := blk_frozen BK104.out 1
   go_wp2_with (first | ((with_reducible refine gate_callee (f := 65) rfl ?_); refine goesL_ (some 16) rfl rfl Try.func65 (by kernel_rfl) rfl #[.agg #[.int .i64 a0_0, .slice A0_1 l0_1.length c0_1]] rfl qm ?_; (with_reducible refine (impl_Net_count.calls kj2 a0_0 _ _ l0_1 t101 _ ?side1 ?side2 A15.out).mono ?_); (case side1 => exact qc (Kd.C_below HR0_1.out HB.out)); (case side2 => exact HC0_1.out); rintro e w24 ⟨rfl, hb⟩; refine ⟨_, rfl, ?_⟩; have n0_ := q0 (kb BK104.out hb); have n1_ := q0 (below_step (qb HB.out) hb); clear BK104 HB; have BK104 := n0_; have HB := n1_; clear n0_ n1_; (try clear hb); (try clear hb2); (try clear hk); (try clear hi); have hcz25_0 : w24.cell? ⟨gb104, 0, none⟩ = some (.int .i64 a0_0) := (blk_cell BK104.out 0).trans rfl; have hcz25_1 : w24.cell? ⟨gb104, 1, none⟩ = some (.slice A0_1 l0_1.length c0_1) := (blk_cell BK104.out 1).trans rfl; have hfz25_0 := blk_frozen BK104.out 0; have hfz25_1 := blk_frozen BK104.out 1) | ((with_reducible refine gate_callee (f := 65) rfl ?_); refine goesL_ (some 21) rfl rfl Try.func65 (by kernel_rfl) rfl #[.agg #[.int .i64 a0_0, .slice A1 l1.length c1]] rfl qm ?_; (with_reducible refine (impl_Net_count.calls kj2 a0_0 _ _ l1 t102 _ ?side1 ?side2 A16.out).mono ?_); (case side1 => exact qc (Kd.C_below HR1.out HB.out)); (case side2 => exact HC1.out); rintro e w26 ⟨rfl, hb⟩; refine ⟨_, rfl, ?_⟩; have n0_ := q0 (kb BK104.out hb); have n1_ := q0 (below_step (qb HB.out) hb); clear BK104 HB; have BK104 := n0_; have HB := n1_; clear n0_ n1_; (try clear hb); (try clear hb2); (try clear hk); (try clear hi)))
   go_ret
   exact ⟨qe, qb HB.out⟩
 rw [if_pos c17] at H
 have c17b0 : (t102 == t101) = true := beq_iff_eq.mpr c17
 have c17b1 : (t102 != t101) = false := bne_eq_false_iff_eq.mpr c17
 clear c17
 obtain rfl := Option.some.inj H
 have hcz18_0 : wc.cell? ⟨gb104, 0, none⟩ = some (.int .i64 a0_0) := (blk_cell BK104.out 0).trans rfl
 have hcz18_1 : wc.cell? ⟨gb104, 1, none⟩ = some (.slice A0_1 l0_1.length c0_1) := (blk_cell BK104.out 1).trans rfl
 have hfz18_0 := blk_frozen BK104.out 0
 have hfz18_1 := blk_frozen BK104.out 1
 go_wp2_with (first | ((with_reducible refine gate_callee (f := 65) rfl ?_); refine goesL_ (some 16) rfl rfl Try.func65 (by kernel_rfl) rfl #[.agg #[.int .i64 a0_0, .slice A0_1 l0_1.length c0_1]] rfl qm ?_; (with_reducible refine (impl_Net_count.calls kj2 a0_0 _ _ l0_1 t101 _ ?side1 ?side2 A15.out).mono ?_); (case side1 => exact qc (Kd.C_below HR0_1.out HB.out)); (case side2 => exact HC0_1.out); rintro e w19 ⟨rfl, hb⟩; refine ⟨_, rfl, ?_⟩; have n0_ := q0 (kb BK104.out hb); have n1_ := q0 (below_step (qb HB.out) hb); clear BK104 HB; have BK104 := n0_; have HB := n1_; clear n0_ n1_; (try clear hb); (try clear hb2); (try clear hk); (try clear hi); have hcz20_0 : w19.cell? ⟨gb104, 0, none⟩ = some (.int .i64 a0_0) := (blk_cell BK104.out 0).trans rfl; have hcz20_1 : w19.cell? ⟨gb104, 1, none⟩ = some (.slice A0_1 l0_1.length c0_1) := (blk_cell BK104.out 1).trans rfl; have hfz20_0 := blk_frozen BK104.out 0; have hfz20_1 := blk_frozen BK104.out 1) | ((with_reducible refine gate_callee (f := 65) rfl ?_); refine goesL_ (some 21) rfl rfl Try.func65 (by kernel_rfl) rfl #[.agg #[.int .i64 a0_0, .slice A1 l1.length c1]] rfl qm ?_; (with_reducible refine (impl_Net_count.calls kj2 a0_0 _ _ l1 t102 _ ?side1 ?side2 A16.out).mono ?_); (case side1 => exact qc (Kd.C_below HR1.out HB.out)); (case side2 => exact HC1.out); rintro e w21 ⟨rfl, hb⟩; refine ⟨_, rfl, ?_⟩; have n0_ := q0 (kb BK104.out hb); have n1_ := q0 (below_step (qb HB.out) hb); clear BK104 HB; have BK104 := n0_; have HB := n1_; clear n0_ n1_; (try clear hb); (try clear hb2); (try clear hk); (try clear hi); have hcz22_0 : w21.cell? ⟨gb104, 0, none⟩ = some (.int .i64 a0_0) := (blk_cell BK104.out 0).trans rfl; have hcz22_1 : w21.cell? ⟨gb104, 1, none⟩ = some (.slice A0_1 l0_1.length c0_1) := (blk_cell BK104.out 1).trans rfl; have hfz22_0 := blk_frozen BK104.out 0; have hfz22_1 := blk_frozen BK104.out 1))
 go_ret
 exact ⟨qe, qb HB.out⟩

end Go.Proofs.Ytheoebelhgbejab.P
