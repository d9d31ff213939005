import Derived.Test.YthaihdfkjhammaaP0
import Derived.Test.YthaihdfkjhammaaP1
import Derived.Test.YthaihdfkjhammaaP2
import Derived.Test.YthaihdfkjhammaaP8
import Derived.Test.YthaihdfkjhammaaP10
import Derived.Test.YthaihdfkjhammaaP11
namespace Go.Proofs.Ythaihdfkjhammaa.P
open Go.RowKit Go.Proofs.YthaihdfkjhammaaW.PrintWords Go.Proofs.YthaihdfkjhammaaW.PrintLast Go.Proofs.YthaihdfkjhammaaW.PrintMore
attribute [local go_sem] max2_int min2_int max_two min_two max_three min_three max_four min_four
set_option linter.unusedVariables false
set_option linter.unusedSimpArgs false
attribute [local go_sem high] eqATie
def spec_TreeOf.T7 : Bool × List (List Nat × List Nat) := (true, [([], []), ([0], [0]), ([], []), ([1, 2], [1, 2]), ([], []), ([4], [4]), ([], []), ([5, 6], [5, 6]), ([7], [7]), ([8], [8]), ([3, 9], [3, 9]), ([10, 10, 0, 1, 2, 3, 4, 5, 6, 7, 8, 9, 10], [10])])
def spec_TreeOf.B7 : List Nat := [0, 1, 0, 7, 0, 16, 0, 112, 240, 496, 1023, 2047]
theorem spec_TreeOf.tab7 : rtab .any (opsOf Try.f42 7) = spec_TreeOf.T7 := by kernel_rfl
theorem spec_TreeOf.bits7 : waitsOk spec_TreeOf.T7.2 spec_TreeOf.B7 = true := by kernel_rfl
set_option maxHeartbeats 8000000 in
set_option maxRecDepth 100000 in
theorem spec_TreeOf.calls (k : Nat) (a0_0 : Int) (A0_1 : Option Addr) (c0_1 : Nat) (l0_1 : List (STie)) (r : List (STie)) (w : World) (hr0_1 : Kd.C kTie w A0_1 l0_1.length l0_1) (hc0_1 : l0_1.length ≤ c0_1) (h : spec_TreeOf.f k a0_0 l0_1 = some r) :
    Calls Try.prog 42 #[.agg #[.int .i64 a0_0, .slice A0_1 l0_1.length c0_1]] w fun e w' => ∃ v0_ : Value, e = .returned (v0_) ∧ Kd.R kTie 54 w' w.heap.size (fun _ => True) v0_ r ∧ Below w.heap.size w w' := by
 have hu30 := Try.underlying30
 have hu54 := Try.underlying54
 have HR0_1 := Aside0.mk hr0_1
 have HC0_1 := Aside0.mk hc0_1
 clear hr0_1 hc0_1
 have HB := q0 (Below.refl w.heap.size w)
 have H : ((some (([] : List (STie)) : List (STie))).bind fun y100 => ((spec_NetOk.f k a0_0 l0_1).bind fun t102 => (if t102 = true then (spec_TreeOf.l0 k y100 0 a0_0 l0_1) else (some y100)))) = some r := h
 clear h
 obtain ⟨y100, hy100⟩ : ∃ y_ : List (STie), y_ = (([] : List (STie))) := ⟨_, rfl⟩
 replace H : ((spec_NetOk.f k a0_0 l0_1).bind fun t102 => (if t102 = true then (spec_TreeOf.l0 k y100 0 a0_0 l0_1) else (some y100))) = some r := by first | (rw [hy100]; with_reducible exact H) | (have H2_ := (Option.bind_some _ _).symm.trans H; rw [hy100]; with_reducible exact H2_) | (have H2_ := (Option.bind_some _ _).symm.trans H; with_reducible exact H2_) | with_reducible exact H | (rw [hy100]; exact H) | exact H
 have Ny100 := Aside0.mk hy100
 clear hy100
 replace H := Option.bind_eq_some_iff.mp H
 obtain ⟨t102, A20, H⟩ := H
 replace H : (if t102 = true then (spec_TreeOf.l0 k y100 0 a0_0 l0_1) else (some y100)) = some r := H
 have A2 := Aside0.mk A20
 clear A20
 by_cases c3 : t102 = true
 rotate_left
 · replace c3 := Bool.eq_false_iff.mpr c3
   subst c3
   have H1 : (some y100) = some r := by rw [if_neg (show ¬ (false = true) by decide)] at H; exact H
   clear H
   have H := H1
   clear H1
   obtain rfl := Option.some.inj H
   go_enter Try.func42, Try.ntmps42
   go_wp2_with (first | ((with_reducible refine gate_dst (N := 1) rfl ?_); refine be 1 #[.int .i64 a0_0, .slice A0_1 l0_1.length c0_1] 30 ?_; intro gb103 hg w31 hbox hb; have n0_ := q0 (below_step (qb HB.out) hb); have n1_ := q0 (hbox); have n2_ := q0 ((bs HB.out hg : w.heap.size ≤ gb103)); have n3_ := q0 ((bs HB.out hg : w.heap.size ≤ gb103)); clear HB; have HB := n0_; have BK103 := n1_; have GW103 := n2_; have GE103 := n3_; clear n0_ n1_ n2_ n3_ hb hbox hg) | ((with_reducible refine gate_dst (N := 6) rfl ?_); refine Kd.R_lit kTie _ 54 ?hg (N := 6) ?hd (xs := ([] : List (STie))) (inner := []) (ok := fun _ => True) (okp := fun _ => True) ?hr ?hp (fun _ hk => hk) trivial (Below.refl _ _) (Nat.le_refl _) (by simp) ?_; (case hd => rfl); (case hg => rfl); (case hr => first | (go_simp; done) | (go_simp; rfl)); (case hp => exact (Reps.none _ _)); intro v104 w32 ho33 hb hg_ hnew_; clear hg_ hnew_; (first | rw [← Ny100.out] at ho33 | (simp only [Int.reduceToNat] at ho33; rw [← Ny100.out] at ho33)); have n0_ := q0 (Kd.R_lower ho33 (below_size (qb HB.out))); have n1_ := q0 (kb BK103.out hb); have n2_ := q0 (below_step (qb HB.out) hb); clear BK103 HB; have HO105 := n0_; have BK103 := n1_; have HB := n2_; clear n0_ n1_ n2_ hb ho33; have hcz34_0 : w32.cell? ⟨gb103, 0, none⟩ = some (.int .i64 a0_0) := (blk_cell BK103.out 0).trans rfl; have hcz34_1 : w32.cell? ⟨gb103, 1, none⟩ = some (.slice A0_1 l0_1.length c0_1) := (blk_cell BK103.out 1).trans rfl; have hfz34_0 := blk_frozen BK103.out 0; have hfz34_1 := blk_frozen BK103.out 1) | ((with_reducible refine gate_callee (f := 15) rfl ?_); refine goesL_ (some 8) rfl rfl Try.func15 (by kernel_rfl) rfl #[.agg #[.int .i64 a0_0, .slice A0_1 l0_1.length c0_1]] rfl qm ?_; (with_reducible refine (spec_NetOk.calls k a0_0 _ _ l0_1 false _ ?side1 ?side2 A2.out).mono ?_); (case side1 => exact qc (Kd.C_below HR0_1.out HB.out)); (case side2 => exact HC0_1.out); rintro e w35 ⟨rfl, hb⟩; refine ⟨_, rfl, ?_⟩; have n0_ := q0 (Kd.R_below (qr HO105.out) hb); have n1_ := q0 (kb BK103.out hb); have n2_ := q0 (below_step (qb HB.out) hb); clear HO105 BK103 HB; have HO105 := n0_; have BK103 := n1_; have HB := n2_; clear n0_ n1_ n2_; (try clear hb); (try clear hb2); (try clear hk); (try clear hi)))
   go_ret
   exact ⟨_, qe, by (with_reducible repeat (first | apply Kd.R_alloc | apply Kd.R_drewN | apply Kd.R_drew)); exact HO105.out, qb HB.out⟩
 subst c3
 have H1 : (spec_TreeOf.l0 k y100 0 a0_0 l0_1) = some r := by rw [if_pos rfl] at H; exact H
 clear H
 have H := H1
 clear H1
 have H' := Aside0.mk H
 clear H
 go_enter Try.func42, Try.ntmps42
 go_wp2_with (first | ((with_reducible refine gate_dst (N := 1) rfl ?_); refine be 1 #[.int .i64 a0_0, .slice A0_1 l0_1.length c0_1] 30 ?_; intro gb103 hg w4 hbox hb; have n0_ := q0 (below_step (qb HB.out) hb); have n1_ := q0 (hbox); have n2_ := q0 ((bs HB.out hg : w.heap.size ≤ gb103)); have n3_ := q0 ((bs HB.out hg : w.heap.size ≤ gb103)); clear HB; have HB := n0_; have BK103 := n1_; have GW103 := n2_; have GE103 := n3_; clear n0_ n1_ n2_ n3_ hb hbox hg) | ((with_reducible refine gate_dst (N := 6) rfl ?_); refine Kd.R_lit kTie _ 54 ?hg (N := 6) ?hd (xs := ([] : List (STie))) (inner := []) (ok := fun _ => True) (okp := fun _ => True) ?hr ?hp (fun _ hk => hk) trivial (Below.refl _ _) (Nat.le_refl _) (by simp) ?_; (case hd => rfl); (case hg => rfl); (case hr => first | (go_simp; done) | (go_simp; rfl)); (case hp => exact (Reps.none _ _)); intro v104 w5 ho6 hb hg_ hnew_; clear hg_ hnew_; (first | rw [← Ny100.out] at ho6 | (simp only [Int.reduceToNat] at ho6; rw [← Ny100.out] at ho6)); have n0_ := q0 (Kd.R_lower ho6 (below_size (qb HB.out))); have n1_ := q0 (kb BK103.out hb); have n2_ := q0 (below_step (qb HB.out) hb); clear BK103 HB; have HO105 := n0_; have BK103 := n1_; have HB := n2_; clear n0_ n1_ n2_ hb ho6; have hcz7_0 : w5.cell? ⟨gb103, 0, none⟩ = some (.int .i64 a0_0) := (blk_cell BK103.out 0).trans rfl; have hcz7_1 : w5.cell? ⟨gb103, 1, none⟩ = some (.slice A0_1 l0_1.length c0_1) := (blk_cell BK103.out 1).trans rfl; have hfz7_0 := blk_frozen BK103.out 0; have hfz7_1 := blk_frozen BK103.out 1) | ((with_reducible refine gate_callee (f := 15) rfl ?_); refine goesL_ (some 8) rfl rfl Try.func15 (by kernel_rfl) rfl #[.agg #[.int .i64 a0_0, .slice A0_1 l0_1.length c0_1]] rfl qm ?_; (with_reducible refine (spec_NetOk.calls k a0_0 _ _ l0_1 true _ ?side1 ?side2 A2.out).mono ?_); (case side1 => exact qc (Kd.C_below HR0_1.out HB.out)); (case side2 => exact HC0_1.out); rintro e w8 ⟨rfl, hb⟩; refine ⟨_, rfl, ?_⟩; have n0_ := q0 (Kd.R_below (qr HO105.out) hb); have n1_ := q0 (kb BK103.out hb); have n2_ := q0 (below_step (qb HB.out) hb); clear HO105 BK103 HB; have HO105 := n0_; have BK103 := n1_; have HB := n2_; clear n0_ n1_ n2_; (try clear hb); (try clear hb2); (try clear hk); (try clear hi)))
 go_loopg [3, 4] k (fun kq v3 v4 w' => ∃ (x3_1 : List (STie)) (x4_1 : Int), v4 = .int .i64 x4_1 ∧ Aside0 (spec_TreeOf.l0 kq x3_1 x4_1 a0_0 l0_1 = some r) ∧ Aside0 (kq ≤ k) ∧ Aside0 (Kd.R kTie 54 w' w.heap.size (fun _ => True) v3 x3_1) ∧ Aside0 (w'.heap[gb103]? = some (.cells #[.int .i64 a0_0, (.slice A0_1 l0_1.length c0_1)] 30 (0, 0))) ∧ Aside0 (Below w.heap.size w w'))
 case atStart => exact ⟨(y100), (0), qs, H', ⟨Nat.le_refl _⟩, ⟨qr HO105.out⟩, ⟨qk BK103.out⟩, ⟨qb HB.out⟩⟩
 clear H'
 try clear c1
 try clear p2
 try clear c3
 try clear c4
 try clear hcz7_0
 try clear hcz7_1
 try clear hfz7_0
 try clear hfz7_1
 obtain ⟨x3_1, x4_1, rfl, HA, HK1, HO_3, BK103, HB⟩ := hrel
 rcases gk with _ | k1
 · exact absurd HA.out (by simp [spec_TreeOf.l0])
 have H := HA.out
 clear HA
 simp only [spec_TreeOf.l0] at H
 by_cases c9 : x4_1 < (l0_1.length : Int)
 rotate_left
 · rw [if_neg c9] at H
   have c9b0 : decide (x4_1 < (l0_1.length : Int)) = false := decide_eq_false c9
   clear c9
   obtain rfl := Option.some.inj H
   have hcz30_0 : wr.cell? ⟨gb103, 0, none⟩ = some (.int .i64 a0_0) := (blk_cell BK103.out 0).trans rfl
   have hcz30_1 : wr.cell? ⟨gb103, 1, none⟩ = some (.slice A0_1 l0_1.length c0_1) := (blk_cell BK103.out 1).trans rfl
   have hfz30_0 := blk_frozen BK103.out 0
   have hfz30_1 := blk_frozen BK103.out 1
   go_wp2
   go_ret
   exact ⟨_, qe, by (with_reducible repeat (first | apply Kd.R_alloc | apply Kd.R_drewN | apply Kd.R_drew)); exact HO_3.out, qb HB.out⟩
 rw [if_pos c9] at H
 have c9b0 : decide (x4_1 < (l0_1.length : Int)) = true := decide_eq_true c9
 clear c9
 by_cases c10 : 0 ≤ x4_1
 rotate_left
 · rw [if_neg c10] at H
   exact absurd H (by simp)
 rw [if_pos c10] at H
 have c10b0 : decide (0 ≤ x4_1) = true := decide_eq_true c10
 clear c10
 replace H := Option.bind_eq_some_iff.mp H
 obtain ⟨t101, A106, H⟩ := H
 replace H : (if 0 ≤ ((rd_TTie l0_1 x4_1).f1) then (if ((rd_TTie l0_1 x4_1).f1) < (t101.length : Int) then (if (rdOf false t101 ((rd_TTie l0_1 x4_1).f1) = true) then (spec_TreeOf.l0 k1 x3_1 (wrap64 (x4_1 + 1)) a0_0 l0_1) else (if x3_1.length < 8796093022208 then (spec_TreeOf.l0 k1 (x3_1 ++ [(⟨(rd_TTie l0_1 x4_1).f0, (rd_TTie l0_1 x4_1).f1⟩ : STie)]) (wrap64 (x4_1 + 1)) a0_0 l0_1) else (none))) else (none)) else (none)) = some r := H
 have A11 := Aside0.mk A106
 clear A106
 by_cases c12 : 0 ≤ ((rd_TTie l0_1 x4_1).f1)
 rotate_left
 · rw [if_neg c12] at H
   exact absurd H (by simp)
 rw [if_pos c12] at H
 have c12b0 : decide (0 ≤ ((rd_TTie l0_1 x4_1).f1)) = true := decide_eq_true c12
 clear c12
 by_cases c13 : ((rd_TTie l0_1 x4_1).f1) < (t101.length : Int)
 rotate_left
 · rw [if_neg c13] at H
   exact absurd H (by simp)
 rw [if_pos c13] at H
 have c13b0 : decide (((rd_TTie l0_1 x4_1).f1) < (t101.length : Int)) = true := decide_eq_true c13
 clear c13
 obtain ⟨bq14, hbq14⟩ : ∃ b_ : Bool, b_ = (rdOf false t101 ((rd_TTie l0_1 x4_1).f1)) := ⟨_, rfl⟩
 replace H : (if (bq14 = true) then (spec_TreeOf.l0 k1 x3_1 (wrap64 (x4_1 + 1)) a0_0 l0_1) else (if x3_1.length < 8796093022208 then (spec_TreeOf.l0 k1 (x3_1 ++ [(⟨(rd_TTie l0_1 x4_1).f0, (rd_TTie l0_1 x4_1).f1⟩ : STie)]) (wrap64 (x4_1 + 1)) a0_0 l0_1) else (none))) = some r := by rw [← hbq14] at H; exact H
 have Nbq14 := Aside0.mk hbq14
 clear hbq14
 by_cases c15 : (bq14 = true)
 · subst c15
   have H1 : (spec_TreeOf.l0 k1 x3_1 (wrap64 (x4_1 + 1)) a0_0 l0_1) = some r := by rw [if_pos rfl] at H; exact H
   clear H
   have H := H1
   clear H1
   have H' := Aside0.mk H
   clear H
   have hcz16_0 : wr.cell? ⟨gb103, 0, none⟩ = some (.int .i64 a0_0) := (blk_cell BK103.out 0).trans rfl
   have hcz16_1 : wr.cell? ⟨gb103, 1, none⟩ = some (.slice A0_1 l0_1.length c0_1) := (blk_cell BK103.out 1).trans rfl
   have hfz16_0 := blk_frozen BK103.out 0
   have hfz16_1 := blk_frozen BK103.out 1
   try go_wp2
   have n0_ := q0 (Kd.R_drew HO_3.out)
   have n1_ := q0 (blk_drew BK103.out)
   have n2_ := q0 (below_drew1 HB.out)
   clear HO_3
   clear BK103
   clear HB
   have HO_3 := n0_
   have BK103 := n1_
   have HB := n2_
   clear n0_ n1_ n2_
   obtain ⟨Ao18, co18, eo18⟩ := Kd.R_slice HO_3.out
   (first | subst eo18 | (injection eo18 with f1_ f2_ f3_; have f4_ := f1_.symm; have f5_ := f3_.symm; clear f1_ f2_ f3_; subst f4_; subst f5_))
   have p107 : 0 ≤ (x4_1 : Int) := of_decide_eq_true qa
   have q107 : x4_1 < (l0_1.length : Int) := of_decide_eq_true qa
   obtain ⟨ad107, e107, hx107_0, hx107_1⟩ := at_TTie HR0_1.out x4_1 p107 q107
   have hw107_1 := hx107_1
   have hw107_0 := hx107_0
   cases e107
   replace hx107_0 := (HB.out.cell (World.block_lt_of_cell? w _ hx107_0)).trans hx107_0
   replace hx107_1 := (HB.out.cell (World.block_lt_of_cell? w _ hx107_1)).trans hx107_1
   replace p107 := eq_true p107
   replace q107 := eq_true q107
   refine start_ (n := 12) (S := fun w' => w'.cell? ⟨gb103, 0, none⟩ = some (.int .i64 a0_0) ∧ w'.cell? ⟨gb103, 1, none⟩ = some (.slice (some ad107) l0_1.length c0_1) ∧ w'.cell? (ad107.add ((x4_1).toNat * 2)) = some (.int .i64 ((rd_TTie l0_1 x4_1).f0)) ∧ w'.cell? ⟨(ad107.add ((x4_1).toNat * 2)).block, (ad107.add ((x4_1).toNat * 2)).off + 1, none⟩ = some (.int .i64 ((rd_TTie l0_1 x4_1).f1))) (ds := []) (ba 12 0) (by kernel_rfl) rfl (by kernel_rfl) ⟨(blk_cell BK103.out 0).trans rfl, (blk_cell BK103.out 1).trans rfl, ((HB.out.cell (World.block_lt_of_cell? w _ hw107_0)).trans hw107_0), ((HB.out.cell (World.block_lt_of_cell? w _ hw107_1)).trans hw107_1)⟩ (fun hHeld => ?_); refine with_tabW spec_TreeOf.tab7 spec_TreeOf.bits7 (fun HT_ HW_ => ?_)
   generalize wr.drew = w17 at HO_3 BK103 HB hx107_0 hx107_1 hHeld ⊢
   refine pu 0 (some 18) (ba 12 1) HT_.out ?_
   refine pu 2 (some 20) (ba 12 5) HT_.out ?_
   refine pu 4 (some 22) (ba 12 21) HT_.out ?_
   refine pu 6 (some 24) (ba 12 85) HT_.out ?_
   refine tu 1 (some 19) (ba 12 87) HT_.out HW_.out hHeld ?_
   refine pu 3 (some 21) (ba 12 95) HT_.out ?_
   refine tu 5 (some 23) (ba 12 127) HT_.out HW_.out hHeld ?_
   refine pu 7 (some 25) (ba 12 255) HT_.out ?_
   refine pu 8 (some 26) (ba 12 511) HT_.out ?_
   refine tu 9 (some 27) (ba 12 1023) HT_.out HW_.out hHeld ?_
   refine one_ (i := 10) (N := some 28) (ba 12 2047) rfl rfl (one_of HT_.out (by kernel_rfl)) (by decide) (fun K hK => ?_)
   refine goes_ Try.func37 (by kernel_rfl) rfl #[.agg #[.int .i64 a0_0, .slice Ao18 x3_1.length co18], .int .i64 ((rd_TTie l0_1 x4_1).f0)] (by rfl) rfl rfl qm ?_
   with_reducible refine (spec_WayReach.calls k1 a0_0 _ _ x3_1 ((rd_TTie l0_1 x4_1).f0) t101 _ ?side1 ?side2 A11.out).mono ?_
   (case side1 => exact qc (Kd.R_reads' HO_3.out).2.2)
   (case side2 => exact (Kd.R_reads' HO_3.out).2.1)
   rintro e w19 ⟨v108, rfl, ho0, hb⟩
   refine ⟨_, rfl, ?_⟩
   have n0_ := q0 (Kd.R_below (qr HO_3.out) hb)
   have n1_ := q0 (Kd.R_lower ho0 (below_size (qb HB.out)))
   have n2_ := q0 (kb BK103.out hb)
   have n3_ := q0 (below_step (qb HB.out) hb)
   clear HO_3
   clear BK103
   clear HB
   have HO_3 := n0_
   have HO109 := n1_
   have BK103 := n2_
   have HB := n3_
   clear n0_ n1_ n2_ n3_
   (try clear hb)
   (try clear hb2)
   (try clear hk)
   (try clear hi)
   (try clear ho0)
   refine hK.out _ _ ⟨(blk_cell BK103.out 0).trans rfl, (blk_cell BK103.out 1).trans rfl, ((HB.out.cell (World.block_lt_of_cell? w _ hw107_0)).trans hw107_0), ((HB.out.cell (World.block_lt_of_cell? w _ hw107_1)).trans hw107_1)⟩ (fun hHeld => ?_)
   clear hK K
   refine nu 28 ?_
   refine pu 11 (some 5) (ba 12 4095) HT_.out ?_
   refine done_ (done_of HT_.out (by kernel_rfl)) ?_
   have hcz20_0 : w19.cell? ⟨gb103, 0, none⟩ = some (.int .i64 a0_0) := (blk_cell BK103.out 0).trans rfl
   have hcz20_1 : w19.cell? ⟨gb103, 1, none⟩ = some (.slice (some ad107) l0_1.length c0_1) := (blk_cell BK103.out 1).trans rfl
   have hfz20_0 := blk_frozen BK103.out 0
   have hfz20_1 := blk_frozen BK103.out 1
   have p110 : 0 ≤ (x4_1 : Int) := of_decide_eq_true qa
   have q110 : x4_1 < (l0_1.length : Int) := of_decide_eq_true qa
   obtain ⟨ad110, e110, hx110_0, hx110_1⟩ := at_TTie HR0_1.out x4_1 p110 q110
   obtain rfl : ad107 = ad110 := (by injection e110)
   replace hx110_0 := (HB.out.cell (World.block_lt_of_cell? w _ hx110_0)).trans hx110_0
   replace hx110_1 := (HB.out.cell (World.block_lt_of_cell? w _ hx110_1)).trans hx110_1
   replace p110 := eq_true p110
   replace q110 := eq_true q110
   obtain ⟨Ao21, co21, eo21⟩ := Kd.R_slice HO109.out
   subst eo21
   have p111 : 0 ≤ (((rd_TTie l0_1 x4_1).f1) : Int) := of_decide_eq_true qa
   have q111 : ((rd_TTie l0_1 x4_1).f1) < (t101.length : Int) := of_decide_eq_true qa
   obtain ⟨ad111, e111, hx111_0⟩ := Kd.at_bool (Kd.R_reads' HO109.out).2.2 ((rd_TTie l0_1 x4_1).f1) p111 q111
   (try rw [← Nbq14.out] at hx111_0)
   cases e111
   replace p111 := eq_true p111
   replace q111 := eq_true q111
   try go_wp2
   go_roundg k1
   case measure => have := HK1.out; omega
   case rel => exact ⟨(x3_1), (wrap64 (x4_1 + 1)), qs, H', ⟨by have := HK1.out; omega⟩, ⟨qr HO_3.out⟩, ⟨qk BK103.out⟩, ⟨qb HB.out⟩⟩
 replace c15 := Bool.eq_false_iff.mpr c15
 subst c15
 have H1 : (if x3_1.length < 8796093022208 then (spec_TreeOf.l0 k1 (x3_1 ++ [(⟨(rd_TTie l0_1 x4_1).f0, (rd_TTie l0_1 x4_1).f1⟩ : STie)]) (wrap64 (x4_1 + 1)) a0_0 l0_1) else (none)) = some r := by rw [if_neg (show ¬ (false = true) by decide)] at H; exact H
 clear H
 have H := H1
 clear H1
 by_cases c22 : x3_1.length < 8796093022208
 rotate_left
 · rw [if_neg c22] at H
   exact absurd H (by simp)
 rw [if_pos c22] at H
 have LMc22 := Aside0.mk c22
 clear c22
 obtain ⟨y112, hy112⟩ : ∃ y_ : List (STie), y_ = (x3_1 ++ [(⟨(rd_TTie l0_1 x4_1).f0, (rd_TTie l0_1 x4_1).f1⟩ : STie)]) := ⟨_, rfl⟩
 replace H : (spec_TreeOf.l0 k1 y112 (wrap64 (x4_1 + 1)) a0_0 l0_1) = some r := by first | (rw [hy112]; with_reducible exact H) | (have H2_ := (Option.bind_some _ _).symm.trans H; rw [hy112]; with_reducible exact H2_) | (have H2_ := (Option.bind_some _ _).symm.trans H; with_reducible exact H2_) | with_reducible exact H | (rw [hy112]; exact H) | exact H
 have Ny112 := Aside0.mk hy112
 clear hy112
 have H' := Aside0.mk H
 clear H
 have hcz23_0 : wr.cell? ⟨gb103, 0, none⟩ = some (.int .i64 a0_0) := (blk_cell BK103.out 0).trans rfl
 have hcz23_1 : wr.cell? ⟨gb103, 1, none⟩ = some (.slice A0_1 l0_1.length c0_1) := (blk_cell BK103.out 1).trans rfl
 have hfz23_0 := blk_frozen BK103.out 0
 have hfz23_1 := blk_frozen BK103.out 1
 try go_wp2
 have n0_ := q0 (Kd.R_drew HO_3.out)
 have n1_ := q0 (blk_drew BK103.out)
 have n2_ := q0 (below_drew1 HB.out)
 clear HO_3
 clear BK103
 clear HB
 have HO_3 := n0_
 have BK103 := n1_
 have HB := n2_
 clear n0_ n1_ n2_
 obtain ⟨Ao25, co25, eo25⟩ := Kd.R_slice HO_3.out
 (first | subst eo25 | (injection eo25 with f1_ f2_ f3_; have f4_ := f1_.symm; have f5_ := f3_.symm; clear f1_ f2_ f3_; subst f4_; subst f5_))
 have p107 : 0 ≤ (x4_1 : Int) := of_decide_eq_true qa
 have q107 : x4_1 < (l0_1.length : Int) := of_decide_eq_true qa
 obtain ⟨ad107, e107, hx107_0, hx107_1⟩ := at_TTie HR0_1.out x4_1 p107 q107
 have hw107_1 := hx107_1
 have hw107_0 := hx107_0
 cases e107
 replace hx107_0 := (HB.out.cell (World.block_lt_of_cell? w _ hx107_0)).trans hx107_0
 replace hx107_1 := (HB.out.cell (World.block_lt_of_cell? w _ hx107_1)).trans hx107_1
 replace p107 := eq_true p107
 replace q107 := eq_true q107
 refine start_ (n := 12) (S := fun w' => w'.cell? ⟨gb103, 0, none⟩ = some (.int .i64 a0_0) ∧ w'.cell? ⟨gb103, 1, none⟩ = some (.slice (some ad107) l0_1.length c0_1) ∧ w'.cell? (ad107.add ((x4_1).toNat * 2)) = some (.int .i64 ((rd_TTie l0_1 x4_1).f0)) ∧ w'.cell? ⟨(ad107.add ((x4_1).toNat * 2)).block, (ad107.add ((x4_1).toNat * 2)).off + 1, none⟩ = some (.int .i64 ((rd_TTie l0_1 x4_1).f1))) (ds := []) (ba 12 0) (by kernel_rfl) rfl (by kernel_rfl) ⟨(blk_cell BK103.out 0).trans rfl, (blk_cell BK103.out 1).trans rfl, ((HB.out.cell (World.block_lt_of_cell? w _ hw107_0)).trans hw107_0), ((HB.out.cell (World.block_lt_of_cell? w _ hw107_1)).trans hw107_1)⟩ (fun hHeld => ?_); refine with_tabW spec_TreeOf.tab7 spec_TreeOf.bits7 (fun HT_ HW_ => ?_)
 generalize wr.drew = w24 at HO_3 BK103 HB hx107_0 hx107_1 hHeld ⊢
 refine pu 0 (some 18) (ba 12 1) HT_.out ?_
 refine pu 2 (some 20) (ba 12 5) HT_.out ?_
 refine pu 4 (some 22) (ba 12 21) HT_.out ?_
 refine pu 6 (some 24) (ba 12 85) HT_.out ?_
 refine tu 1 (some 19) (ba 12 87) HT_.out HW_.out hHeld ?_
 refine pu 3 (some 21) (ba 12 95) HT_.out ?_
 refine tu 5 (some 23) (ba 12 127) HT_.out HW_.out hHeld ?_
 refine pu 7 (some 25) (ba 12 255) HT_.out ?_
 refine pu 8 (some 26) (ba 12 511) HT_.out ?_
 refine tu 9 (some 27) (ba 12 1023) HT_.out HW_.out hHeld ?_
 refine one_ (i := 10) (N := some 28) (ba 12 2047) rfl rfl (one_of HT_.out (by kernel_rfl)) (by decide) (fun K hK => ?_)
 refine goes_ Try.func37 (by kernel_rfl) rfl #[.agg #[.int .i64 a0_0, .slice Ao25 x3_1.length co25], .int .i64 ((rd_TTie l0_1 x4_1).f0)] (by rfl) rfl rfl qm ?_
 with_reducible refine (spec_WayReach.calls k1 a0_0 _ _ x3_1 ((rd_TTie l0_1 x4_1).f0) t101 _ ?side1 ?side2 A11.out).mono ?_
 (case side1 => exact qc (Kd.R_reads' HO_3.out).2.2)
 (case side2 => exact (Kd.R_reads' HO_3.out).2.1)
 rintro e w26 ⟨v108, rfl, ho0, hb⟩
 refine ⟨_, rfl, ?_⟩
 have n0_ := q0 (Kd.R_below (qr HO_3.out) hb)
 have n1_ := q0 (Kd.R_lower ho0 (below_size (qb HB.out)))
 have n2_ := q0 (kb BK103.out hb)
 have n3_ := q0 (below_step (qb HB.out) hb)
 clear HO_3
 clear BK103
 clear HB
 have HO_3 := n0_
 have HO109 := n1_
 have BK103 := n2_
 have HB := n3_
 clear n0_ n1_ n2_ n3_
 (try clear hb)
 (try clear hb2)
 (try clear hk)
 (try clear hi)
 (try clear ho0)
 refine hK.out _ _ ⟨(blk_cell BK103.out 0).trans rfl, (blk_cell BK103.out 1).trans rfl, ((HB.out.cell (World.block_lt_of_cell? w _ hw107_0)).trans hw107_0), ((HB.out.cell (World.block_lt_of_cell? w _ hw107_1)).trans hw107_1)⟩ (fun hHeld => ?_)
 clear hK K
 refine nu 28 ?_
 refine pu 11 (some 5) (ba 12 4095) HT_.out ?_
 refine done_ (done_of HT_.out (by kernel_rfl)) ?_
 have hcz27_0 : w26.cell? ⟨gb103, 0, none⟩ = some (.int .i64 a0_0) := (blk_cell BK103.out 0).trans rfl
 have hcz27_1 : w26.cell? ⟨gb103, 1, none⟩ = some (.slice (some ad107) l0_1.length c0_1) := (blk_cell BK103.out 1).trans rfl
 have hfz27_0 := blk_frozen BK103.out 0
 have hfz27_1 := blk_frozen BK103.out 1
 have p110 : 0 ≤ (x4_1 : Int) := of_decide_eq_true qa
 have q110 : x4_1 < (l0_1.length : Int) := of_decide_eq_true qa
 obtain ⟨ad110, e110, hx110_0, hx110_1⟩ := at_TTie HR0_1.out x4_1 p110 q110
 obtain rfl : ad107 = ad110 := (by injection e110)
 replace hx110_0 := (HB.out.cell (World.block_lt_of_cell? w _ hx110_0)).trans hx110_0
 replace hx110_1 := (HB.out.cell (World.block_lt_of_cell? w _ hx110_1)).trans hx110_1
 replace p110 := eq_true p110
 replace q110 := eq_true q110
 obtain ⟨Ao28, co28, eo28⟩ := Kd.R_slice HO109.out
 subst eo28
 have p111 : 0 ≤ (((rd_TTie l0_1 x4_1).f1) : Int) := of_decide_eq_true qa
 have q111 : ((rd_TTie l0_1 x4_1).f1) < (t101.length : Int) := of_decide_eq_true qa
 obtain ⟨ad111, e111, hx111_0⟩ := Kd.at_bool (Kd.R_reads' HO109.out).2.2 ((rd_TTie l0_1 x4_1).f1) p111 q111
 (try rw [← Nbq14.out] at hx111_0)
 cases e111
 replace p111 := eq_true p111
 replace q111 := eq_true q111
 have p113 : 0 ≤ (x4_1 : Int) := of_decide_eq_true qa
 have q113 : x4_1 < (l0_1.length : Int) := of_decide_eq_true qa
 obtain ⟨ad113, e113, hx113_0, hx113_1⟩ := at_TTie HR0_1.out x4_1 p113 q113
 obtain rfl : ad107 = ad113 := (by injection e113)
 replace hx113_0 := (HB.out.cell (World.block_lt_of_cell? w _ hx113_0)).trans hx113_0
 replace hx113_1 := (HB.out.cell (World.block_lt_of_cell? w _ hx113_1)).trans hx113_1
 replace p113 := eq_true p113
 replace q113 := eq_true q113
 try go_wp2_with (first | ((with_reducible refine gate_builtin (b := .append) (xs := #[.tmp 39, .tmp 45]) rfl ?_); at_builtin; refine Kd.R_append kTie (w0 := w) w.heap.size rfl (.tmp 39) (.tmp 45) 28 54 (.agg #[(.int .i64 0), (.int .i64 0)]) 16 rfl Try.underlying28 info54 rfl (by decide) (by omega) (.slice Ao25 x3_1.length co25) x3_1 (⟨(rd_TTie l0_1 x4_1).f0, (rd_TTie l0_1 x4_1).f1⟩ : STie) [.int .i64 ((rd_TTie l0_1 x4_1).f0), .int .i64 ((rd_TTie l0_1 x4_1).f1)] (fun _ => True) (fun _ => False) rfl rfl ?aP (fun _ hk => hk.elim) ?aF ?aO ?aB ?aS ?aL ?_; (case aP => exact kTie_mkM _ _ _ (⟨(rd_TTie l0_1 x4_1).f0, (rd_TTie l0_1 x4_1).f1⟩ : STie)); (case aB => exact (qb HB.out)); (case aF => exact (fun _ _ => trivial)); (case aO => exact (qr HO_3.out)); (case aS => exact (below_size (qb HB.out))); (case aL => have := LMc22.out; omega); intro v114 w29 ho hb hg hat; rw [← Ny112.out] at ho; have n0_ := q0 (blk_grown (g := gb103) (o := .cells #[.int .i64 a0_0, .slice (some ad107) l0_1.length c0_1] 30 (0, 0)) (qk BK103.out) hg (Kd.R_ne HO_3.out BK103.out (by decide))); have n1_ := q0 (Kd.R_over' (qr HO109.out) (Kd.R_typed (qr HO_3.out)) (by decide) hg); have n2_ := q0 (hb); have n3_ := q0 (ho); clear BK103 HO109 HB HO_3; have BK103 := n0_; have HO109 := n1_; have HB := n2_; have HO115 := n3_; clear n0_ n1_ n2_ n3_ ho hb hg hat))
 go_roundg k1
 case measure => have := HK1.out; omega
 case rel => exact ⟨(y112), (wrap64 (x4_1 + 1)), qs, H', ⟨by have := HK1.out; omega⟩, ⟨qr HO115.out⟩, ⟨qk BK103.out⟩, ⟨qb HB.out⟩⟩

set_option maxHeartbeats 8000000 in
set_option maxRecDepth 100000 in
theorem impl_Net_joined.calls (k : Nat) (a0_0 : Int) (A0_1 : Option Addr) (c0_1 : Nat) (l0_1 : List (STie)) (a1 : Int) (a2 : Int) (r : Bool) (w : World) (hr0_1 : Kd.C kTie w A0_1 l0_1.length l0_1) (hc0_1 : l0_1.length ≤ c0_1) (h : impl_Net_joined.f k a0_0 l0_1 a1 a2 = some r) :
    Calls Try.prog 82 #[.agg #[.int .i64 a0_0, .slice A0_1 l0_1.length c0_1], .int .i64 a1, .int .i64 a2] w fun e w' => e = .returned (.bool r) ∧ Below w.heap.size w w' := by
 have hu30 := Try.underlying30
 have HR0_1 := Aside0.mk hr0_1
 have HC0_1 := Aside0.mk hc0_1
 clear hr0_1 hc0_1
 have HB := q0 (Below.refl w.heap.size w)
 have H : ((impl_Net_parts.f k a0_0 l0_1).bind fun t100 => (if 0 ≤ a1 then (if a1 < (t100.length : Int) then (if 0 ≤ a2 then (if a2 < (t100.length : Int) then (some ((rd t100 a1) == (rd t100 a2))) else (none)) else (none)) else (none)) else (none))) = some r := h
 clear h
 replace H := Option.bind_eq_some_iff.mp H
 obtain ⟨t100, A40, H⟩ := H
 replace H : (if 0 ≤ a1 then (if a1 < (t100.length : Int) then (if 0 ≤ a2 then (if a2 < (t100.length : Int) then (some ((rd t100 a1) == (rd t100 a2))) else (none)) else (none)) else (none)) else (none)) = some r := H
 have A4 := Aside0.mk A40
 clear A40
 by_cases c5 : 0 ≤ a1
 rotate_left
 · rw [if_neg c5] at H
   exact absurd H (by simp)
 rw [if_pos c5] at H
 have c5b0 : decide (0 ≤ a1) = true := decide_eq_true c5
 clear c5
 by_cases c6 : a1 < (t100.length : Int)
 rotate_left
 · rw [if_neg c6] at H
   exact absurd H (by simp)
 rw [if_pos c6] at H
 have c6b0 : decide (a1 < (t100.length : Int)) = true := decide_eq_true c6
 clear c6
 by_cases c7 : 0 ≤ a2
 rotate_left
 · rw [if_neg c7] at H
   exact absurd H (by simp)
 rw [if_pos c7] at H
 have c7b0 : decide (0 ≤ a2) = true := decide_eq_true c7
 clear c7
 by_cases c8 : a2 < (t100.length : Int)
 rotate_left
 · rw [if_neg c8] at H
   exact absurd H (by simp)
 rw [if_pos c8] at H
 have c8b0 : decide (a2 < (t100.length : Int)) = true := decide_eq_true c8
 clear c8
 obtain rfl := Option.some.inj H
 go_enter Try.func82, Try.ntmps82
 go_wp2_with (first | ((with_reducible refine gate_dst (N := 3) rfl ?_); refine be 3 #[.int .i64 a0_0, .slice A0_1 l0_1.length c0_1] 30 ?_; intro gb101 hg w9 hbox hb; have n0_ := q0 (below_step (qb HB.out) hb); have n1_ := q0 (hbox); have n2_ := q0 ((bs HB.out hg : w.heap.size ≤ gb101)); have n3_ := q0 ((bs HB.out hg : w.heap.size ≤ gb101)); clear HB; have HB := n0_; have BK101 := n1_; have GW101 := n2_; have GE101 := n3_; clear n0_ n1_ n2_ n3_ hb hbox hg; have hcz10_0 : w9.cell? ⟨gb101, 0, none⟩ = some (.int .i64 a0_0) := (blk_cell BK101.out 0).trans rfl; have hcz10_1 : w9.cell? ⟨gb101, 1, none⟩ = some (.slice A0_1 l0_1.length c0_1) := (blk_cell BK101.out 1).trans rfl; have hfz10_0 := blk_frozen BK101.out 0; have hfz10_1 := blk_frozen BK101.out 1) | (go_at_call 71; (with_reducible refine (impl_Net_parts.calls k a0_0 _ _ l0_1 t100 _ ?side1 ?side2 A4.out).mono ?_); (case side1 => exact qc (Kd.C_below HR0_1.out HB.out)); (case side2 => exact HC0_1.out); rintro e w11 ⟨v102, rfl, ho0, hb⟩; have n0_ := q0 (Kd.R_lower ho0 (below_size (qb HB.out))); have n1_ := q0 (kb BK101.out hb); have n2_ := q0 (below_step (qb HB.out) hb); clear BK101 HB; have HO103 := n0_; have BK101 := n1_; have HB := n2_; clear n0_ n1_ n2_; (try clear hb); (try clear hb2); (try clear hk); (try clear hi); (try clear ho0); obtain ⟨Ao12, co12, eo12⟩ := Kd.R_slice HO103.out; subst eo12; have p104 : 0 ≤ (a1 : Int) := of_decide_eq_true qa; have q104 : a1 < (t100.length : Int) := of_decide_eq_true qa; obtain ⟨ad104, e104, hx104_0⟩ := Kd.at_int (Kd.R_reads' HO103.out).2.2 a1 p104 q104; cases e104; replace p104 := eq_true p104; replace q104 := eq_true q104; have p105 : 0 ≤ (a2 : Int) := of_decide_eq_true qa; have q105 : a2 < (t100.length : Int) := of_decide_eq_true qa; obtain ⟨ad105, e105, hx105_0⟩ := Kd.at_int (Kd.R_reads' HO103.out).2.2 a2 p105 q105; obtain rfl : ad104 = ad105 := (by injection e105); replace p105 := eq_true p105; replace q105 := eq_true q105))
 repeat (go_quiet (first | ((with_reducible refine gate_dst (N := 3) rfl ?_); refine be 3 #[.int .i64 a0_0, .slice A0_1 l0_1.length c0_1] 30 ?_; intro gb101 hg w9 hbox hb; have n0_ := q0 (below_step (qb HB.out) hb); have n1_ := q0 (hbox); have n2_ := q0 ((bs HB.out hg : w.heap.size ≤ gb101)); have n3_ := q0 ((bs HB.out hg : w.heap.size ≤ gb101)); clear HB; have HB := n0_; have BK101 := n1_; have GW101 := n2_; have GE101 := n3_; clear n0_ n1_ n2_ n3_ hb hbox hg; have hcz10_0 : w9.cell? ⟨gb101, 0, none⟩ = some (.int .i64 a0_0) := (blk_cell BK101.out 0).trans rfl; have hcz10_1 : w9.cell? ⟨gb101, 1, none⟩ = some (.slice A0_1 l0_1.length c0_1) := (blk_cell BK101.out 1).trans rfl; have hfz10_0 := blk_frozen BK101.out 0; have hfz10_1 := blk_frozen BK101.out 1) | (go_at_call 71; (with_reducible refine (impl_Net_parts.calls k a0_0 _ _ l0_1 t100 _ ?side1 ?side2 A4.out).mono ?_); (case side1 => exact qc (Kd.C_below HR0_1.out HB.out)); (case side2 => exact HC0_1.out); rintro e w11 ⟨v102, rfl, ho0, hb⟩; have n0_ := q0 (Kd.R_lower ho0 (below_size (qb HB.out))); have n1_ := q0 (kb BK101.out hb); have n2_ := q0 (below_step (qb HB.out) hb); clear BK101 HB; have HO103 := n0_; have BK101 := n1_; have HB := n2_; clear n0_ n1_ n2_; (try clear hb); (try clear hb2); (try clear hk); (try clear hi); (try clear ho0); obtain ⟨Ao12, co12, eo12⟩ := Kd.R_slice HO103.out; subst eo12; have p104 : 0 ≤ (a1 : Int) := of_decide_eq_true qa; have q104 : a1 < (t100.length : Int) := of_decide_eq_true qa; obtain ⟨ad104, e104, hx104_0⟩ := Kd.at_int (Kd.R_reads' HO103.out).2.2 a1 p104 q104; cases e104; replace p104 := eq_true p104; replace q104 := eq_true q104; have p105 : 0 ≤ (a2 : Int) := of_decide_eq_true qa; have q105 : a2 < (t100.length : Int) := of_decide_eq_true qa; obtain ⟨ad105, e105, hx105_0⟩ := Kd.at_int (Kd.R_reads' HO103.out).2.2 a2 p105 q105; obtain rfl : ad104 = ad105 := (by injection e105); replace p105 := eq_true p105; replace q105 := eq_true q105)); try go_wp2_with (first | ((with_reducible refine gate_dst (N := 3) rfl ?_); refine be 3 #[.int .i64 a0_0, .slice A0_1 l0_1.length c0_1] 30 ?_; intro gb101 hg w9 hbox hb; have n0_ := q0 (below_step (qb HB.out) hb); have n1_ := q0 (hbox); have n2_ := q0 ((bs HB.out hg : w.heap.size ≤ gb101)); have n3_ := q0 ((bs HB.out hg : w.heap.size ≤ gb101)); clear HB; have HB := n0_; have BK101 := n1_; have GW101 := n2_; have GE101 := n3_; clear n0_ n1_ n2_ n3_ hb hbox hg; have hcz10_0 : w9.cell? ⟨gb101, 0, none⟩ = some (.int .i64 a0_0) := (blk_cell BK101.out 0).trans rfl; have hcz10_1 : w9.cell? ⟨gb101, 1, none⟩ = some (.slice A0_1 l0_1.length c0_1) := (blk_cell BK101.out 1).trans rfl; have hfz10_0 := blk_frozen BK101.out 0; have hfz10_1 := blk_frozen BK101.out 1) | (go_at_call 71; (with_reducible refine (impl_Net_parts.calls k a0_0 _ _ l0_1 t100 _ ?side1 ?side2 A4.out).mono ?_); (case side1 => exact qc (Kd.C_below HR0_1.out HB.out)); (case side2 => exact HC0_1.out); rintro e w11 ⟨v102, rfl, ho0, hb⟩; have n0_ := q0 (Kd.R_lower ho0 (below_size (qb HB.out))); have n1_ := q0 (kb BK101.out hb); have n2_ := q0 (below_step (qb HB.out) hb); clear BK101 HB; have HO103 := n0_; have BK101 := n1_; have HB := n2_; clear n0_ n1_ n2_; (try clear hb); (try clear hb2); (try clear hk); (try clear hi); (try clear ho0); obtain ⟨Ao12, co12, eo12⟩ := Kd.R_slice HO103.out; subst eo12; have p104 : 0 ≤ (a1 : Int) := of_decide_eq_true qa; have q104 : a1 < (t100.length : Int) := of_decide_eq_true qa; obtain ⟨ad104, e104, hx104_0⟩ := Kd.at_int (Kd.R_reads' HO103.out).2.2 a1 p104 q104; cases e104; replace p104 := eq_true p104; replace q104 := eq_true q104; have p105 : 0 ≤ (a2 : Int) := of_decide_eq_true qa; have q105 : a2 < (t100.length : Int) := of_decide_eq_true qa; obtain ⟨ad105, e105, hx105_0⟩ := Kd.at_int (Kd.R_reads' HO103.out).2.2 a2 p105 q105; obtain rfl : ad104 = ad105 := (by injection e105); replace p105 := eq_true p105; replace q105 := eq_true q105)))
 go_ret
 exact ⟨qe, qb HB.out⟩

set_option maxHeartbeats 8000000 in
set_option maxRecDepth 100000 in
theorem impl_Net_tree.calls (k : Nat) (a0_0 : Int) (A0_1 : Option Addr) (c0_1 : Nat) (l0_1 : List (STie)) (r1 : Int) (r2 : List (STie)) (w : World) (hr0_1 : Kd.C kTie w A0_1 l0_1.length l0_1) (hc0_1 : l0_1.length ≤ c0_1) (h : impl_Net_tree.f k a0_0 l0_1 = some (r1, r2)) :
    Calls Try.prog 72 #[.agg #[.int .i64 a0_0, .slice A0_1 l0_1.length c0_1]] w fun e w' => ∃ v1_ : Value, e = .returned (.agg #[.int .i64 r1, v1_]) ∧ Kd.R kTie 54 w' w.heap.size (fun _ => True) v1_ r2 ∧ Below w.heap.size w w' := by
 have hu30 := Try.underlying30
 have hu54 := Try.underlying54
 have HR0_1 := Aside0.mk hr0_1
 have HC0_1 := Aside0.mk hc0_1
 clear hr0_1 hc0_1
 have HB := q0 (Below.refl w.heap.size w)
 have H : (impl_Net_tree.l0 k l0_1 (l0_1.length : Int) 0 a0_0 (([] : List (STie)))) = some (r1, r2) := h
 clear h
 obtain ⟨y102, hy102⟩ : ∃ y_ : List (STie), y_ = (([] : List (STie))) := ⟨_, rfl⟩
 replace H : (impl_Net_tree.l0 k l0_1 (l0_1.length : Int) 0 a0_0 y102) = some (r1, r2) := by first | (rw [hy102]; with_reducible exact H) | (have H2_ := (Option.bind_some _ _).symm.trans H; rw [hy102]; with_reducible exact H2_) | (have H2_ := (Option.bind_some _ _).symm.trans H; with_reducible exact H2_) | with_reducible exact H | (rw [hy102]; exact H) | exact H
 have Ny102 := Aside0.mk hy102
 clear hy102
 have H' := Aside0.mk H
 clear H
 go_enter Try.func72, Try.ntmps72
 go_wp2_with (first | ((with_reducible refine gate_dst (N := 1) rfl ?_); refine be 1 #[.int .i64 a0_0, .slice A0_1 l0_1.length c0_1] 30 ?_; intro gb103 hg w2 hbox hb; have n0_ := q0 (below_step (qb HB.out) hb); have n1_ := q0 (hbox); have n2_ := q0 ((bs HB.out hg : w.heap.size ≤ gb103)); have n3_ := q0 ((bs HB.out hg : w.heap.size ≤ gb103)); clear HB; have HB := n0_; have BK103 := n1_; have GW103 := n2_; have GE103 := n3_; clear n0_ n1_ n2_ n3_ hb hbox hg) | ((with_reducible refine gate_dst (N := 2) rfl ?_); refine be 2 #[.int .i64 0, .slice none 0 0] 30 ?_; intro gb104 hg w3 hbox hb; have n0_ := q0 (kb BK103.out hb); have n1_ := q0 (below_step (qb HB.out) hb); have n2_ := q0 (hbox); have n3_ := q0 ((bs HB.out hg : w.heap.size ≤ gb104)); have n4_ := q0 ((bs HB.out hg : w.heap.size ≤ gb104)); have n5_ := q0 ((bl BK103.out hg : gb103 ≠ gb104)); have n6_ := q0 ((bg BK103.out hg : gb104 ≠ gb103)); clear BK103 HB; have BK103 := n0_; have HB := n1_; have BK104 := n2_; have GW104 := n3_; have GE104 := n4_; have NB103_104 := n5_; have NB104_103 := n6_; clear n0_ n1_ n2_ n3_ n4_ n5_ n6_ hb hbox hg; have hnb4 := NB103_104.out; have hnc4 := NB104_103.out; have hcz5_0 : w3.cell? ⟨gb103, 0, none⟩ = some (.int .i64 a0_0) := (blk_cell BK103.out 0).trans rfl; have hcz5_1 : w3.cell? ⟨gb103, 1, none⟩ = some (.slice A0_1 l0_1.length c0_1) := (blk_cell BK103.out 1).trans rfl; have hfz5_0 := blk_frozen BK103.out 0; have hfz5_1 := blk_frozen BK103.out 1) | ((with_reducible refine gate_dst (N := 8) rfl ?_); refine Kd.R_lit kTie _ 54 ?hg (N := 8) ?hd (xs := ([] : List (STie))) (inner := []) (ok := fun _ => True) (okp := fun _ => True) ?hr ?hp (fun _ hk => hk) trivial (Below.refl _ _) (Nat.le_refl _) (by simp) ?_; (case hd => rfl); (case hg => rfl); (case hr => first | (go_simp; done) | (go_simp; rfl)); (case hp => exact (Reps.none _ _)); intro v105 w6 ho7 hb hg_ hnew_; clear hg_ hnew_; (first | rw [← Ny102.out] at ho7 | (simp only [Int.reduceToNat] at ho7; rw [← Ny102.out] at ho7)); have n0_ := q0 (Kd.R_lower ho7 (below_size (qb HB.out))); have n1_ := q0 (kb BK103.out hb); have n2_ := q0 (kb BK104.out hb); have n3_ := q0 (below_step (qb HB.out) hb); clear BK103 BK104 HB; have HO106 := n0_; have BK103 := n1_; have BK104 := n2_; have HB := n3_; clear n0_ n1_ n2_ n3_ hb ho7; obtain ⟨Ao8, co8, eo8⟩ := Kd.R_slice HO106.out; subst eo8) | ((with_reducible refine gate_dst (N := 3) rfl ?_); refine be 3 #[.int .i64 0, .slice none 0 0] 30 ?_; intro gb107 hg w9 hbox hb; have n0_ := q0 (Kd.R_below (qr HO106.out) hb); have n1_ := q0 (kb BK103.out hb); have n2_ := q0 (kb BK104.out hb); have n3_ := q0 (below_step (qb HB.out) hb); have n4_ := q0 (hbox); have n5_ := q0 ((bs HB.out hg : w.heap.size ≤ gb107)); have n6_ := q0 ((bs HB.out hg : w.heap.size ≤ gb107)); have n7_ := q0 ((bl BK103.out hg : gb103 ≠ gb107)); have n8_ := q0 ((bg BK103.out hg : gb107 ≠ gb103)); have n9_ := q0 ((bl BK104.out hg : gb104 ≠ gb107)); have n10_ := q0 ((bg BK104.out hg : gb107 ≠ gb104)); clear HO106 BK103 BK104 HB; have HO106 := n0_; have BK103 := n1_; have BK104 := n2_; have HB := n3_; have BK107 := n4_; have GW107 := n5_; have GE107 := n6_; have NB103_107 := n7_; have NB107_103 := n8_; have NB104_107 := n9_; have NB107_104 := n10_; clear n0_ n1_ n2_ n3_ n4_ n5_ n6_ n7_ n8_ n9_ n10_ hb hbox hg; have hnb10 := NB107_103.out; have hnc10 := NB103_107.out; have hnb11 := NB107_104.out; have hnc11 := NB104_107.out; have hcz12_0 : w9.cell? ⟨gb107, 0, none⟩ = some (.int .i64 0) := (blk_cell BK107.out 0).trans rfl; have hcz12_1 : w9.cell? ⟨gb107, 1, none⟩ = some (.slice none 0 0) := (blk_cell BK107.out 1).trans rfl; have hfz12_0 := blk_frozen BK107.out 0; have hfz12_1 := blk_frozen BK107.out 1; have hcz13_0 : w9.cell? ⟨gb103, 0, none⟩ = some (.int .i64 a0_0) := (blk_cell BK103.out 0).trans rfl; have hcz13_1 : w9.cell? ⟨gb103, 1, none⟩ = some (.slice A0_1 l0_1.length c0_1) := (blk_cell BK103.out 1).trans rfl; have hfz13_0 := blk_frozen BK103.out 0; have hfz13_1 := blk_frozen BK103.out 1))
 go_loopg [13] k (fun kq v13 w' => ∃ (x13_1 : Int) (x100001_1 : List (STie)) (u100001 : Value), v13 = .int .i64 x13_1 ∧ Aside0 (impl_Net_tree.l0 kq l0_1 (l0_1.length : Int) x13_1 a0_0 x100001_1 = some (r1, r2)) ∧ Aside0 (kq ≤ k) ∧ Aside0 (Kd.R kTie 54 w' w.heap.size (fun _ => True) u100001 x100001_1) ∧ Aside0 (w'.heap[gb103]? = some (.cells #[.int .i64 a0_0, (.slice A0_1 l0_1.length c0_1)] 30 (0, 0))) ∧ Aside0 (w'.heap[gb104]? = some (.cells #[.int .i64 0, (.slice none 0 0)] 30 (0, 0))) ∧ Aside0 (w'.heap[gb107]? = some (.cells #[.int .i64 a0_0, u100001] 30 (0, 0))) ∧ Aside0 (Below w.heap.size w w'))
 case atStart => exact ⟨(0), (y102), (.slice Ao8 y102.length co8), qs, H', ⟨Nat.le_refl _⟩, ⟨by (with_reducible repeat (first | apply Kd.R_alloc | apply Kd.R_drewN | apply Kd.R_drew)); exact Kd.R_mono (Kd.R_far (p := ⟨gb107, 1, none⟩) (Kd.R_far (p := ⟨gb107, 0, none⟩) (Kd.R_types HO106.out BK107.out (by decide)) (fun _ hk => hk.2) (.int .i64 a0_0)) (fun _ hk => hk.2) (.slice Ao8 y102.length co8)) (fun _ hk => trivial)⟩, ⟨qf BK103.out⟩, ⟨qf BK104.out⟩, ⟨by (with_reducible repeat (first | refine blk_drewN ?_ _ | refine blk_drew ?_ | refine blk_alloc ?_ _)); refine blk_put (cs := #[.int .i64 a0_0, .slice none 0 0]) ?_ 1 _ rfl; (with_reducible repeat (first | refine blk_drewN ?_ _ | refine blk_drew ?_ | refine blk_alloc ?_ _)); refine blk_put (cs := #[.int .i64 0, .slice none 0 0]) ?_ 0 _ rfl; (with_reducible repeat (first | refine blk_drewN ?_ _ | refine blk_drew ?_ | refine blk_alloc ?_ _)); exact BK107.out⟩, ⟨qb HB.out⟩⟩
 clear H'
 try clear c1
 try clear p2
 try clear c4
 try clear c7
 try clear c10
 try clear c11
 try clear hcz12_0
 try clear hcz12_1
 try clear hcz13_0
 try clear hcz13_1
 try clear hcz5_0
 try clear hcz5_1
 try clear hfz12_0
 try clear hfz12_1
 try clear hfz13_0
 try clear hfz13_1
 try clear hfz5_0
 try clear hfz5_1
 obtain ⟨x13_1, x100001_1, u100001, rfl, HA, HK1, HO_100001, BK103, BK104, BK107, HB⟩ := hrel
 rcases gk with _ | k1
 · exact absurd HA.out (by simp [impl_Net_tree.l0])
 have H := HA.out
 clear HA
 simp only [impl_Net_tree.l0] at H
 by_cases c14 : x13_1 < (l0_1.length : Int)
 rotate_left
 · rw [if_neg c14] at H
   have c14b0 : decide (x13_1 < (l0_1.length : Int)) = false := decide_eq_false c14
   clear c14
   simp only [Option.some.injEq, Prod.mk.injEq] at H
   obtain ⟨rfl, rfl⟩ := H
   have hnb45 := NB107_103.out
   have hnc45 := NB103_107.out
   have hnb46 := NB107_104.out
   have hnc46 := NB104_107.out
   have hcz47_0 : wr.cell? ⟨gb107, 0, none⟩ = some (.int .i64 a0_0) := (blk_cell BK107.out 0).trans rfl
   have hcz47_1 : wr.cell? ⟨gb107, 1, none⟩ = some (u100001) := (blk_cell BK107.out 1).trans rfl
   have hfz47_0 := blk_frozen BK107.out 0
   have hfz47_1 := blk_frozen BK107.out 1
   have hnb48 := NB104_103.out
   have hnc48 := NB103_104.out
   have hcz49_0 : wr.cell? ⟨gb104, 0, none⟩ = some (.int .i64 0) := (blk_cell BK104.out 0).trans rfl
   have hcz49_1 : wr.cell? ⟨gb104, 1, none⟩ = some (.slice none 0 0) := (blk_cell BK104.out 1).trans rfl
   have hfz49_0 := blk_frozen BK104.out 0
   have hfz49_1 := blk_frozen BK104.out 1
   obtain ⟨Ao50, co50, eo50⟩ := Kd.R_slice HO_100001.out
   subst eo50
   go_wp2
   refine bodyPost_ret (results_cell_row rfl _ _ gb104 30 #[.int .i64 a0_0, .slice Ao50 x100001_1.length co50] (0, 0) _ rfl (by (with_reducible repeat (first | refine blk_drewN ?_ _ | refine blk_drew ?_ | refine blk_alloc ?_ _)); refine blk_put (cs := #[.int .i64 a0_0, .slice none 0 0]) ?_ 1 _ rfl; (with_reducible repeat (first | refine blk_drewN ?_ _ | refine blk_drew ?_ | refine blk_alloc ?_ _)); refine blk_put (cs := #[.int .i64 0, .slice none 0 0]) ?_ 0 _ rfl; (with_reducible repeat (first | refine blk_drewN ?_ _ | refine blk_drew ?_ | refine blk_alloc ?_ _)); exact BK104.out) Try.underlying30 rfl (by kernel_rfl)) rfl ?_
   exact ⟨_, qe, by (with_reducible repeat (first | apply Kd.R_alloc | apply Kd.R_drewN | apply Kd.R_drew)); exact Kd.R_mono (Kd.R_far (p := ⟨gb104, 1, none⟩) (Kd.R_far (p := ⟨gb104, 0, none⟩) (Kd.R_types HO_100001.out BK104.out (by decide)) (fun _ hk => hk.2) (.int .i64 a0_0)) (fun _ hk => hk.2) (.slice Ao50 x100001_1.length co50)) (fun _ hk => trivial), qb HB.out⟩
 rw [if_pos c14] at H
 have c14b0 : decide (x13_1 < (l0_1.length : Int)) = true := decide_eq_true c14
 clear c14
 by_cases c15 : 0 ≤ x13_1
 rotate_left
 · rw [if_neg c15] at H
   exact absurd H (by simp)
 rw [if_pos c15] at H
 have c15b0 : decide (0 ≤ x13_1) = true := decide_eq_true c15
 clear c15
 by_cases c16 : x13_1 < (l0_1.length : Int)
 rotate_left
 · rw [if_neg c16] at H
   exact absurd H (by simp)
 rw [if_pos c16] at H
 have c16b0 : decide (x13_1 < (l0_1.length : Int)) = true := decide_eq_true c16
 clear c16
 replace H := Option.bind_eq_some_iff.mp H
 obtain ⟨t101, A108, H⟩ := H
 replace H : (if t101 = true then (impl_Net_tree.l0 k1 l0_1 (l0_1.length : Int) (wrap64 (x13_1 + 1)) a0_0 x100001_1) else (if x100001_1.length < 8796093022208 then (impl_Net_tree.l0 k1 l0_1 (l0_1.length : Int) (wrap64 (x13_1 + 1)) a0_0 (x100001_1 ++ [(⟨(rd_TTie l0_1 x13_1).f0, (rd_TTie l0_1 x13_1).f1⟩ : STie)])) else (none))) = some (r1, r2) := H
 have A17 := Aside0.mk A108
 clear A108
 by_cases c18 : t101 = true
 · subst c18
   have H1 : (impl_Net_tree.l0 k1 l0_1 (l0_1.length : Int) (wrap64 (x13_1 + 1)) a0_0 x100001_1) = some (r1, r2) := by rw [if_pos rfl] at H; exact H
   clear H
   have H := H1
   clear H1
   have H' := Aside0.mk H
   clear H
   have p100 : 0 ≤ (x13_1 : Int) := of_decide_eq_true qa
   have q100 : x13_1 < (l0_1.length : Int) := of_decide_eq_true qa
   obtain ⟨ad100, e100, hx100_0, hx100_1⟩ := at_TTie HR0_1.out x13_1 p100 q100
   cases e100
   replace hx100_0 := (HB.out.cell (World.block_lt_of_cell? w _ hx100_0)).trans hx100_0
   replace hx100_1 := (HB.out.cell (World.block_lt_of_cell? w _ hx100_1)).trans hx100_1
   replace p100 := eq_true p100
   replace q100 := eq_true q100
   go_wp2_with (first | ((with_reducible refine gate_dst (N := 5) rfl ?_); refine be 5 #[.int .i64 0, .int .i64 0] 54 ?_; intro gb109 hg w19 hbox hb; have n0_ := q0 (Kd.R_below (Kd.R_elderB (qr HO_100001.out) gb109 (Nat.le_of_eq hg.symm)) hb); have n1_ := q0 (kb BK103.out hb); have n2_ := q0 (kb BK104.out hb); have n3_ := q0 (kb BK107.out hb); have n4_ := q0 (below_step (qb HB.out) hb); have n5_ := q0 (hbox); have n6_ := q0 ((bs HB.out hg : w.heap.size ≤ gb109)); have n7_ := q0 ((bs HB.out hg : w.heap.size ≤ gb109)); have n8_ := q0 ((bl BK103.out hg : gb103 ≠ gb109)); have n9_ := q0 ((bg BK103.out hg : gb109 ≠ gb103)); have n10_ := q0 ((bl BK104.out hg : gb104 ≠ gb109)); have n11_ := q0 ((bg BK104.out hg : gb109 ≠ gb104)); have n12_ := q0 ((bl BK107.out hg : gb107 ≠ gb109)); have n13_ := q0 ((bg BK107.out hg : gb109 ≠ gb107)); clear HO_100001 BK103 BK104 BK107 HB; have HO_100001 := n0_; have BK103 := n1_; have BK104 := n2_; have BK107 := n3_; have HB := n4_; have BK109 := n5_; have GW109 := n6_; have GE109 := n7_; have NB103_109 := n8_; have NB109_103 := n9_; have NB104_109 := n10_; have NB109_104 := n11_; have NB107_109 := n12_; have NB109_107 := n13_; clear n0_ n1_ n2_ n3_ n4_ n5_ n6_ n7_ n8_ n9_ n10_ n11_ n12_ n13_ hb hbox hg; have hnb20 := NB109_103.out; have hnc20 := NB103_109.out; have hnb21 := NB109_104.out; have hnc21 := NB104_109.out; have hnb22 := NB109_107.out; have hnc22 := NB107_109.out; have hcz23_0 : w19.cell? ⟨gb109, 0, none⟩ = some (.int .i64 0) := (blk_cell BK109.out 0).trans rfl; have hcz23_1 : w19.cell? ⟨gb109, 1, none⟩ = some (.int .i64 0) := (blk_cell BK109.out 1).trans rfl; have hfz23_0 := blk_frozen BK109.out 0; have hfz23_1 := blk_frozen BK109.out 1; have hnb24 := NB107_103.out; have hnc24 := NB103_107.out; have hnb25 := NB107_104.out; have hnc25 := NB104_107.out; have hcz26_0 : w19.cell? ⟨gb107, 0, none⟩ = some (.int .i64 a0_0) := (blk_cell BK107.out 0).trans rfl; have hcz26_1 : w19.cell? ⟨gb107, 1, none⟩ = some (u100001) := (blk_cell BK107.out 1).trans rfl; have hfz26_0 := blk_frozen BK107.out 0; have hfz26_1 := blk_frozen BK107.out 1; obtain ⟨Ao27, co27, eo27⟩ := Kd.R_slice HO_100001.out; subst eo27) | ((with_reducible refine gate_callee (f := 82) rfl ?_); refine goesL_ (some 22) rfl rfl Try.func82 (by kernel_rfl) rfl #[.agg #[.int .i64 a0_0, .slice Ao27 x100001_1.length co27], .int .i64 ((rd_TTie l0_1 x13_1).f0), .int .i64 ((rd_TTie l0_1 x13_1).f1)] rfl qm ?_; (with_reducible refine (impl_Net_joined.calls k1 a0_0 _ _ x100001_1 ((rd_TTie l0_1 x13_1).f0) ((rd_TTie l0_1 x13_1).f1) true _ ?side1 ?side2 A17.out).mono ?_); (case side1 => refine (Kd.R_reads' (e := 54) (base := w.heap.size) (ok := fun k_ => (True ∧ k_ ≠ gb109)) (n := x100001_1.length) (c := co27) ?_).2.2; exact (by (with_reducible repeat (first | apply Kd.R_alloc | apply Kd.R_drewN | apply Kd.R_drew)); exact (Kd.R_mono (Kd.R_far (p := ⟨gb109, 1, none⟩) (Kd.R_far (p := ⟨gb109, 0, none⟩) (Kd.R_mono HO_100001.out (fun k_ hk => (⟨hk, hk.2⟩ : _ ∧ k_ ≠ gb109))) (fun _ hk => hk.2) (.int .i64 ((rd_TTie l0_1 x13_1).f0))) (fun _ hk => hk.2) (.int .i64 ((rd_TTie l0_1 x13_1).f1))) (fun _ h_ => h_.1)))); (case side2 => exact (Kd.R_reads' HO_100001.out).2.1); rintro e w28 ⟨rfl, hb⟩; refine ⟨_, rfl, ?_⟩; have n0_ := q0 (Kd.R_below (by (with_reducible repeat (first | apply Kd.R_alloc | apply Kd.R_drewN | apply Kd.R_drew)); exact (Kd.R_mono (Kd.R_far (p := ⟨gb109, 1, none⟩) (Kd.R_far (p := ⟨gb109, 0, none⟩) (Kd.R_mono HO_100001.out (fun k_ hk => (⟨hk, hk.2⟩ : _ ∧ k_ ≠ gb109))) (fun _ hk => hk.2) (.int .i64 ((rd_TTie l0_1 x13_1).f0))) (fun _ hk => hk.2) (.int .i64 ((rd_TTie l0_1 x13_1).f1))) (fun _ h_ => h_.1))) hb); have n1_ := q0 (blk_below (g := gb103) (o := .cells #[.int .i64 a0_0, .slice (some ad100) l0_1.length c0_1] 30 (0, 0)) (qf BK103.out) hb); have n2_ := q0 (blk_below (g := gb104) (o := .cells #[.int .i64 0, .slice none 0 0] 30 (0, 0)) (qf BK104.out) hb); have n3_ := q0 (blk_below (g := gb107) (o := .cells #[.int .i64 a0_0, .slice Ao27 x100001_1.length co27] 30 (0, 0)) (qf BK107.out) hb); have n4_ := q0 (blk_below (g := gb109) (o := .cells #[.int .i64 ((rd_TTie l0_1 x13_1).f0), .int .i64 ((rd_TTie l0_1 x13_1).f1)] 54 (0, 0)) (by (with_reducible repeat (first | refine blk_drewN ?_ _ | refine blk_drew ?_ | refine blk_alloc ?_ _)); refine blk_put (cs := #[.int .i64 ((rd_TTie l0_1 x13_1).f0), .int .i64 0]) ?_ 1 _ rfl; (with_reducible repeat (first | refine blk_drewN ?_ _ | refine blk_drew ?_ | refine blk_alloc ?_ _)); refine blk_put (cs := #[.int .i64 0, .int .i64 0]) ?_ 0 _ rfl; (with_reducible repeat (first | refine blk_drewN ?_ _ | refine blk_drew ?_ | refine blk_alloc ?_ _)); exact BK109.out) hb); have n5_ := q0 (below_step (qb HB.out) hb); clear HO_100001 BK103 BK104 BK107 BK109 HB; have HO_100001 := n0_; have BK103 := n1_; have BK104 := n2_; have BK107 := n3_; have BK109 := n4_; have HB := n5_; clear n0_ n1_ n2_ n3_ n4_ n5_; (try clear hb); (try clear hb2); (try clear hk); (try clear hi)))
   go_roundg k1
   case measure => have := HK1.out; omega
   case rel => exact ⟨(wrap64 (x13_1 + 1)), (x100001_1), (.slice Ao27 x100001_1.length co27), qs, H', ⟨by have := HK1.out; omega⟩, ⟨by (with_reducible repeat (first | apply Kd.R_alloc | apply Kd.R_drewN | apply Kd.R_drew)); exact Kd.R_mono HO_100001.out (fun _ hk => trivial)⟩, ⟨qk BK103.out⟩, ⟨qk BK104.out⟩, ⟨qk BK107.out⟩, ⟨qb HB.out⟩⟩
 replace c18 := Bool.eq_false_iff.mpr c18
 subst c18
 have H1 : (if x100001_1.length < 8796093022208 then (impl_Net_tree.l0 k1 l0_1 (l0_1.length : Int) (wrap64 (x13_1 + 1)) a0_0 (x100001_1 ++ [(⟨(rd_TTie l0_1 x13_1).f0, (rd_TTie l0_1 x13_1).f1⟩ : STie)])) else (none)) = some (r1, r2) := by rw [if_neg (show ¬ (false = true) by decide)] at H; exact H
 clear H
 have H := H1
 clear H1
 by_cases c29 : x100001_1.length < 8796093022208
 rotate_left
 · rw [if_neg c29] at H
   exact absurd H (by simp)
 rw [if_pos c29] at H
 have LMc29 := Aside0.mk c29
 clear c29
 obtain ⟨y110, hy110⟩ : ∃ y_ : List (STie), y_ = (x100001_1 ++ [(⟨(rd_TTie l0_1 x13_1).f0, (rd_TTie l0_1 x13_1).f1⟩ : STie)]) := ⟨_, rfl⟩
 replace H : (impl_Net_tree.l0 k1 l0_1 (l0_1.length : Int) (wrap64 (x13_1 + 1)) a0_0 y110) = some (r1, r2) := by first | (rw [hy110]; with_reducible exact H) | (have H2_ := (Option.bind_some _ _).symm.trans H; rw [hy110]; with_reducible exact H2_) | (have H2_ := (Option.bind_some _ _).symm.trans H; with_reducible exact H2_) | with_reducible exact H | (rw [hy110]; exact H) | exact H
 have Ny110 := Aside0.mk hy110
 clear hy110
 have H' := Aside0.mk H
 clear H
 have p100 : 0 ≤ (x13_1 : Int) := of_decide_eq_true qa
 have q100 : x13_1 < (l0_1.length : Int) := of_decide_eq_true qa
 obtain ⟨ad100, e100, hx100_0, hx100_1⟩ := at_TTie HR0_1.out x13_1 p100 q100
 cases e100
 replace hx100_0 := (HB.out.cell (World.block_lt_of_cell? w _ hx100_0)).trans hx100_0
 replace hx100_1 := (HB.out.cell (World.block_lt_of_cell? w _ hx100_1)).trans hx100_1
 replace p100 := eq_true p100
 replace q100 := eq_true q100
 go_wp2_with (first | ((with_reducible refine gate_dst (N := 5) rfl ?_); refine be 5 #[.int .i64 0, .int .i64 0] 54 ?_; intro gb109 hg w30 hbox hb; have n0_ := q0 (Kd.R_below (Kd.R_elderB (qr HO_100001.out) gb109 (Nat.le_of_eq hg.symm)) hb); have n1_ := q0 (kb BK103.out hb); have n2_ := q0 (kb BK104.out hb); have n3_ := q0 (kb BK107.out hb); have n4_ := q0 (below_step (qb HB.out) hb); have n5_ := q0 (hbox); have n6_ := q0 ((bs HB.out hg : w.heap.size ≤ gb109)); have n7_ := q0 ((bs HB.out hg : w.heap.size ≤ gb109)); have n8_ := q0 ((bl BK103.out hg : gb103 ≠ gb109)); have n9_ := q0 ((bg BK103.out hg : gb109 ≠ gb103)); have n10_ := q0 ((bl BK104.out hg : gb104 ≠ gb109)); have n11_ := q0 ((bg BK104.out hg : gb109 ≠ gb104)); have n12_ := q0 ((bl BK107.out hg : gb107 ≠ gb109)); have n13_ := q0 ((bg BK107.out hg : gb109 ≠ gb107)); clear HO_100001 BK103 BK104 BK107 HB; have HO_100001 := n0_; have BK103 := n1_; have BK104 := n2_; have BK107 := n3_; have HB := n4_; have BK109 := n5_; have GW109 := n6_; have GE109 := n7_; have NB103_109 := n8_; have NB109_103 := n9_; have NB104_109 := n10_; have NB109_104 := n11_; have NB107_109 := n12_; have NB109_107 := n13_; clear n0_ n1_ n2_ n3_ n4_ n5_ n6_ n7_ n8_ n9_ n10_ n11_ n12_ n13_ hb hbox hg; have hnb31 := NB109_103.out; have hnc31 := NB103_109.out; have hnb32 := NB109_104.out; have hnc32 := NB104_109.out; have hnb33 := NB109_107.out; have hnc33 := NB107_109.out; have hcz34_0 : w30.cell? ⟨gb109, 0, none⟩ = some (.int .i64 0) := (blk_cell BK109.out 0).trans rfl; have hcz34_1 : w30.cell? ⟨gb109, 1, none⟩ = some (.int .i64 0) := (blk_cell BK109.out 1).trans rfl; have hfz34_0 := blk_frozen BK109.out 0; have hfz34_1 := blk_frozen BK109.out 1; have hnb35 := NB107_103.out; have hnc35 := NB103_107.out; have hnb36 := NB107_104.out; have hnc36 := NB104_107.out; have hcz37_0 : w30.cell? ⟨gb107, 0, none⟩ = some (.int .i64 a0_0) := (blk_cell BK107.out 0).trans rfl; have hcz37_1 : w30.cell? ⟨gb107, 1, none⟩ = some (u100001) := (blk_cell BK107.out 1).trans rfl; have hfz37_0 := blk_frozen BK107.out 0; have hfz37_1 := blk_frozen BK107.out 1; obtain ⟨Ao38, co38, eo38⟩ := Kd.R_slice HO_100001.out; subst eo38) | ((with_reducible refine gate_callee (f := 82) rfl ?_); refine goesL_ (some 22) rfl rfl Try.func82 (by kernel_rfl) rfl #[.agg #[.int .i64 a0_0, .slice Ao38 x100001_1.length co38], .int .i64 ((rd_TTie l0_1 x13_1).f0), .int .i64 ((rd_TTie l0_1 x13_1).f1)] rfl qm ?_; (with_reducible refine (impl_Net_joined.calls k1 a0_0 _ _ x100001_1 ((rd_TTie l0_1 x13_1).f0) ((rd_TTie l0_1 x13_1).f1) false _ ?side1 ?side2 A17.out).mono ?_); (case side1 => refine (Kd.R_reads' (e := 54) (base := w.heap.size) (ok := fun k_ => (True ∧ k_ ≠ gb109)) (n := x100001_1.length) (c := co38) ?_).2.2; exact (by (with_reducible repeat (first | apply Kd.R_alloc | apply Kd.R_drewN | apply Kd.R_drew)); exact (Kd.R_mono (Kd.R_far (p := ⟨gb109, 1, none⟩) (Kd.R_far (p := ⟨gb109, 0, none⟩) (Kd.R_mono HO_100001.out (fun k_ hk => (⟨hk, hk.2⟩ : _ ∧ k_ ≠ gb109))) (fun _ hk => hk.2) (.int .i64 ((rd_TTie l0_1 x13_1).f0))) (fun _ hk => hk.2) (.int .i64 ((rd_TTie l0_1 x13_1).f1))) (fun _ h_ => h_.1)))); (case side2 => exact (Kd.R_reads' HO_100001.out).2.1); rintro e w39 ⟨rfl, hb⟩; refine ⟨_, rfl, ?_⟩; have n0_ := q0 (Kd.R_below (by (with_reducible repeat (first | apply Kd.R_alloc | apply Kd.R_drewN | apply Kd.R_drew)); exact (Kd.R_mono (Kd.R_far (p := ⟨gb109, 1, none⟩) (Kd.R_far (p := ⟨gb109, 0, none⟩) (Kd.R_mono HO_100001.out (fun k_ hk => (⟨hk, hk.2⟩ : _ ∧ k_ ≠ gb109))) (fun _ hk => hk.2) (.int .i64 ((rd_TTie l0_1 x13_1).f0))) (fun _ hk => hk.2) (.int .i64 ((rd_TTie l0_1 x13_1).f1))) (fun _ h_ => h_.1))) hb); have n1_ := q0 (blk_below (g := gb103) (o := .cells #[.int .i64 a0_0, .slice (some ad100) l0_1.length c0_1] 30 (0, 0)) (qf BK103.out) hb); have n2_ := q0 (blk_below (g := gb104) (o := .cells #[.int .i64 0, .slice none 0 0] 30 (0, 0)) (qf BK104.out) hb); have n3_ := q0 (blk_below (g := gb107) (o := .cells #[.int .i64 a0_0, .slice Ao38 x100001_1.length co38] 30 (0, 0)) (qf BK107.out) hb); have n4_ := q0 (blk_below (g := gb109) (o := .cells #[.int .i64 ((rd_TTie l0_1 x13_1).f0), .int .i64 ((rd_TTie l0_1 x13_1).f1)] 54 (0, 0)) (by (with_reducible repeat (first | refine blk_drewN ?_ _ | refine blk_drew ?_ | refine blk_alloc ?_ _)); refine blk_put (cs := #[.int .i64 ((rd_TTie l0_1 x13_1).f0), .int .i64 0]) ?_ 1 _ rfl; (with_reducible repeat (first | refine blk_drewN ?_ _ | refine blk_drew ?_ | refine blk_alloc ?_ _)); refine blk_put (cs := #[.int .i64 0, .int .i64 0]) ?_ 0 _ rfl; (with_reducible repeat (first | refine blk_drewN ?_ _ | refine blk_drew ?_ | refine blk_alloc ?_ _)); exact BK109.out) hb); have n5_ := q0 (below_step (qb HB.out) hb); clear HO_100001 BK103 BK104 BK107 BK109 HB; have HO_100001 := n0_; have BK103 := n1_; have BK104 := n2_; have BK107 := n3_; have BK109 := n4_; have HB := n5_; clear n0_ n1_ n2_ n3_ n4_ n5_; (try clear hb); (try clear hb2); (try clear hk); (try clear hi); have hcz40_0 : w39.cell? ⟨gb107, 0, none⟩ = some (.int .i64 a0_0) := (blk_cell BK107.out 0).trans rfl; have hcz40_1 : w39.cell? ⟨gb107, 1, none⟩ = some (.slice Ao38 x100001_1.length co38) := (blk_cell BK107.out 1).trans rfl; have hfz40_0 := blk_frozen BK107.out 0; have hfz40_1 := blk_frozen BK107.out 1; have hcz41_0 : w39.cell? ⟨gb109, 0, none⟩ = some (.int .i64 ((rd_TTie l0_1 x13_1).f0)) := (blk_cell BK109.out 0).trans rfl; have hcz41_1 : w39.cell? ⟨gb109, 1, none⟩ = some (.int .i64 ((rd_TTie l0_1 x13_1).f1)) := (blk_cell BK109.out 1).trans rfl; have hfz41_0 := blk_frozen BK109.out 0; have hfz41_1 := blk_frozen BK109.out 1) | ((with_reducible refine gate_builtin (b := .append) (xs := #[.tmp 25, .tmp 27]) rfl ?_); at_builtin; refine Kd.R_append kTie (w0 := w) w.heap.size rfl (.tmp 25) (.tmp 27) 28 54 (.agg #[(.int .i64 0), (.int .i64 0)]) 16 rfl Try.underlying28 info54 rfl (by decide) (by omega) (.slice Ao38 x100001_1.length co38) x100001_1 (⟨(rd_TTie l0_1 x13_1).f0, (rd_TTie l0_1 x13_1).f1⟩ : STie) [.int .i64 ((rd_TTie l0_1 x13_1).f0), .int .i64 ((rd_TTie l0_1 x13_1).f1)] (fun k_ => k_ ≠ gb109) (fun _ => False) rfl rfl ?aP (fun _ hk => hk.elim) ?aF ?aO ?aB ?aS ?aL ?_; (case aP => exact kTie_mkM _ _ _ (⟨(rd_TTie l0_1 x13_1).f0, (rd_TTie l0_1 x13_1).f1⟩ : STie)); (case aB => exact (qb HB.out)); (case aF => exact (fun k_ hk => Kd.freshB (g := gb109) (o := .cells #[.int .i64 ((rd_TTie l0_1 x13_1).f0), .int .i64 ((rd_TTie l0_1 x13_1).f1)] 54 (0, 0)) (qk BK109.out) k_ hk)); (case aO => exact (by (with_reducible repeat (first | apply Kd.R_alloc | apply Kd.R_drewN | apply Kd.R_drew)); exact Kd.R_mono HO_100001.out (fun _ hk => hk.2))); (case aS => exact (below_size (qb HB.out))); (case aL => have := LMc29.out; omega); intro v111 w42 ho hb hg hat; rw [← Ny110.out] at ho; have n0_ := q0 (blk_grown (g := gb103) (o := .cells #[.int .i64 a0_0, .slice (some ad100) l0_1.length c0_1] 30 (0, 0)) (qk BK103.out) hg (Kd.R_ne HO_100001.out BK103.out (by decide))); have n1_ := q0 (blk_grown (g := gb104) (o := .cells #[.int .i64 0, .slice none 0 0] 30 (0, 0)) (qk BK104.out) hg (Kd.R_ne HO_100001.out BK104.out (by decide))); have n2_ := q0 (blk_grown (g := gb107) (o := .cells #[.int .i64 a0_0, .slice Ao38 x100001_1.length co38] 30 (0, 0)) (qk BK107.out) hg (Kd.R_ne HO_100001.out BK107.out (by decide))); have n3_ := q0 (blk_grown (g := gb109) (o := .cells #[.int .i64 ((rd_TTie l0_1 x13_1).f0), .int .i64 ((rd_TTie l0_1 x13_1).f1)] 54 (0, 0)) (qk BK109.out) hg (Kd.R_away HO_100001.out (fun _ hk => hk.2))); have n4_ := q0 (hb); have n5_ := q0 (ho); clear BK103 BK104 BK107 BK109 HB HO_100001; have BK103 := n0_; have BK104 := n1_; have BK107 := n2_; have BK109 := n3_; have HB := n4_; have HO112 := n5_; clear n0_ n1_ n2_ n3_ n4_ n5_ ho hb hg hat; obtain ⟨Ao43, co43, eo43⟩ := Kd.R_slice HO112.out; subst eo43; have hcz44_0 : w42.cell? ⟨gb107, 0, none⟩ = some (.int .i64 a0_0) := (blk_cell BK107.out 0).trans rfl; have hcz44_1 : w42.cell? ⟨gb107, 1, none⟩ = some (.slice Ao38 x100001_1.length co38) := (blk_cell BK107.out 1).trans rfl; have hfz44_0 := blk_frozen BK107.out 0; have hfz44_1 := blk_frozen BK107.out 1))
 go_roundg k1
 case measure => have := HK1.out; omega
 case rel => exact ⟨(wrap64 (x13_1 + 1)), (y110), (.slice Ao43 y110.length co43), qs, H', ⟨by have := HK1.out; omega⟩, ⟨by (with_reducible repeat (first | apply Kd.R_alloc | apply Kd.R_drewN | apply Kd.R_drew)); exact Kd.R_mono (Kd.R_far (p := ⟨gb107, 1, none⟩) (Kd.R_types HO112.out BK107.out (by decide)) (fun _ hk => hk.2) (.slice Ao43 y110.length co43)) (fun _ hk => trivial)⟩, ⟨qf BK103.out⟩, ⟨qf BK104.out⟩, ⟨by (with_reducible repeat (first | refine blk_drewN ?_ _ | refine blk_drew ?_ | refine blk_alloc ?_ _)); refine blk_put (cs := #[.int .i64 a0_0, .slice Ao38 x100001_1.length co38]) ?_ 1 _ rfl; (with_reducible repeat (first | refine blk_drewN ?_ _ | refine blk_drew ?_ | refine blk_alloc ?_ _)); exact BK107.out⟩, ⟨qb HB.out⟩⟩

set_option maxHeartbeats 8000000 in
set_option maxRecDepth 100000 in
theorem impl_TreeOf.calls (k : Nat) (a0_0 : Int) (A0_1 : Option Addr) (c0_1 : Nat) (l0_1 : List (STie)) (r : List (STie)) (w : World) (hr0_1 : Kd.C kTie w A0_1 l0_1.length l0_1) (hc0_1 : l0_1.length ≤ c0_1) (h : impl_TreeOf.f k a0_0 l0_1 = some r) :
    Calls Try.prog 43 #[.agg #[.int .i64 a0_0, .slice A0_1 l0_1.length c0_1]] w fun e w' => ∃ v0_ : Value, e = .returned (v0_) ∧ Kd.R kTie 54 w' w.heap.size (fun _ => True) v0_ r ∧ Below w.heap.size w w' := by
 have hu30 := Try.underlying30
 have HR0_1 := Aside0.mk hr0_1
 have HC0_1 := Aside0.mk hc0_1
 clear hr0_1 hc0_1
 have HB := q0 (Below.refl w.heap.size w)
 have H : ((impl_NetOk.f k a0_0 l0_1).bind fun t100 => (if t100 = true then ((impl_Net_tree.f k a0_0 l0_1).bind fun bt101 => (some bt101.2)) else (some (([] : List (STie)))))) = some r := h
 clear h
 replace H := Option.bind_eq_some_iff.mp H
 obtain ⟨t100, A20, H⟩ := H
 replace H : (if t100 = true then ((impl_Net_tree.f k a0_0 l0_1).bind fun bt101 => (some bt101.2)) else (some (([] : List (STie))))) = some r := H
 have A2 := Aside0.mk A20
 clear A20
 by_cases c3 : t100 = true
 · subst c3
   have H1 : ((impl_Net_tree.f k a0_0 l0_1).bind fun bt101 => (some bt101.2)) = some r := by rw [if_pos rfl] at H; exact H
   clear H
   have H := H1
   clear H1
   replace H := Option.bind_eq_some_iff.mp H
   obtain ⟨⟨t101, t102⟩, A40, H⟩ := H
   replace H : (some t102) = some r := H
   have A4 := Aside0.mk A40
   clear A40
   obtain rfl := Option.some.inj H
   go_enter Try.func43, Try.ntmps43
   go_wp2_with (first | ((with_reducible refine gate_dst (N := 1) rfl ?_); refine be 1 #[.int .i64 a0_0, .slice A0_1 l0_1.length c0_1] 30 ?_; intro gb103 hg w5 hbox hb; have n0_ := q0 (below_step (qb HB.out) hb); have n1_ := q0 (hbox); have n2_ := q0 ((bs HB.out hg : w.heap.size ≤ gb103)); have n3_ := q0 ((bs HB.out hg : w.heap.size ≤ gb103)); clear HB; have HB := n0_; have BK103 := n1_; have GW103 := n2_; have GE103 := n3_; clear n0_ n1_ n2_ n3_ hb hbox hg; have hcz6_0 : w5.cell? ⟨gb103, 0, none⟩ = some (.int .i64 a0_0) := (blk_cell BK103.out 0).trans rfl; have hcz6_1 : w5.cell? ⟨gb103, 1, none⟩ = some (.slice A0_1 l0_1.length c0_1) := (blk_cell BK103.out 1).trans rfl; have hfz6_0 := blk_frozen BK103.out 0; have hfz6_1 := blk_frozen BK103.out 1) | ((with_reducible refine gate_callee (f := 17) rfl ?_); refine goesL_ (some 4) rfl rfl Try.func17 (by kernel_rfl) rfl #[.agg #[.int .i64 a0_0, .slice A0_1 l0_1.length c0_1]] rfl qm ?_; (with_reducible refine (impl_NetOk.calls k a0_0 _ _ l0_1 true _ ?side1 ?side2 A2.out).mono ?_); (case side1 => exact qc (Kd.C_below HR0_1.out HB.out)); (case side2 => exact HC0_1.out); rintro e w7 ⟨rfl, hb⟩; refine ⟨_, rfl, ?_⟩; have n0_ := q0 (kb BK103.out hb); have n1_ := q0 (below_step (qb HB.out) hb); clear BK103 HB; have BK103 := n0_; have HB := n1_; clear n0_ n1_; (try clear hb); (try clear hb2); (try clear hk); (try clear hi); have hcz8_0 : w7.cell? ⟨gb103, 0, none⟩ = some (.int .i64 a0_0) := (blk_cell BK103.out 0).trans rfl; have hcz8_1 : w7.cell? ⟨gb103, 1, none⟩ = some (.slice A0_1 l0_1.length c0_1) := (blk_cell BK103.out 1).trans rfl; have hfz8_0 := blk_frozen BK103.out 0; have hfz8_1 := blk_frozen BK103.out 1) | ((with_reducible refine gate_callee (f := 72) rfl ?_); refine goesL_ (some 8) rfl rfl Try.func72 (by kernel_rfl) rfl #[.agg #[.int .i64 a0_0, .slice A0_1 l0_1.length c0_1]] rfl qm ?_; (with_reducible refine (impl_Net_tree.calls k a0_0 _ _ l0_1 t101 t102 _ ?side1 ?side2 A4.out).mono ?_); (case side1 => exact qc (Kd.C_below HR0_1.out HB.out)); (case side2 => exact HC0_1.out); rintro e w9 ⟨v104, rfl, ho0, hb⟩; refine ⟨_, rfl, ?_⟩; have n0_ := q0 (Kd.R_lower ho0 (below_size (qb HB.out))); have n1_ := q0 (kb BK103.out hb); have n2_ := q0 (below_step (qb HB.out) hb); clear BK103 HB; have HO105 := n0_; have BK103 := n1_; have HB := n2_; clear n0_ n1_ n2_; (try clear hb); (try clear hb2); (try clear hk); (try clear hi); (try clear ho0); obtain ⟨Ao_, co_, eo_⟩ := Kd.R_slice HO105.out; subst eo_; have hfld_ : ∀ w, (Instr.field 30 (.agg #[.int .i64 t101, .slice Ao_ t102.length co_]) 1).run Try.prog w = .ok (.slice Ao_ t102.length co_) w := fun w => by kernel_rfl))
   go_ret
   exact ⟨_, qe, by (with_reducible repeat (first | apply Kd.R_alloc | apply Kd.R_drewN | apply Kd.R_drew)); exact HO105.out, qb HB.out⟩
 replace c3 := Bool.eq_false_iff.mpr c3
 subst c3
 have H1 : (some (([] : List (STie)))) = some r := by rw [if_neg (show ¬ (false = true) by decide)] at H; exact H
 clear H
 have H := H1
 clear H1
 obtain ⟨y106, hy106⟩ : ∃ y_ : List (STie), y_ = (([] : List (STie))) := ⟨_, rfl⟩
 replace H : (some y106) = some r := by first | (rw [hy106]; with_reducible exact H) | (have H2_ := (Option.bind_some _ _).symm.trans H; rw [hy106]; with_reducible exact H2_) | (have H2_ := (Option.bind_some _ _).symm.trans H; with_reducible exact H2_) | with_reducible exact H | (rw [hy106]; exact H) | exact H
 have Ny106 := Aside0.mk hy106
 clear hy106
 obtain rfl := Option.some.inj H
 go_enter Try.func43, Try.ntmps43
 go_wp2_with (first | ((with_reducible refine gate_dst (N := 1) rfl ?_); refine be 1 #[.int .i64 a0_0, .slice A0_1 l0_1.length c0_1] 30 ?_; intro gb103 hg w10 hbox hb; have n0_ := q0 (below_step (qb HB.out) hb); have n1_ := q0 (hbox); have n2_ := q0 ((bs HB.out hg : w.heap.size ≤ gb103)); have n3_ := q0 ((bs HB.out hg : w.heap.size ≤ gb103)); clear HB; have HB := n0_; have BK103 := n1_; have GW103 := n2_; have GE103 := n3_; clear n0_ n1_ n2_ n3_ hb hbox hg; have hcz11_0 : w10.cell? ⟨gb103, 0, none⟩ = some (.int .i64 a0_0) := (blk_cell BK103.out 0).trans rfl; have hcz11_1 : w10.cell? ⟨gb103, 1, none⟩ = some (.slice A0_1 l0_1.length c0_1) := (blk_cell BK103.out 1).trans rfl; have hfz11_0 := blk_frozen BK103.out 0; have hfz11_1 := blk_frozen BK103.out 1) | ((with_reducible refine gate_callee (f := 17) rfl ?_); refine goesL_ (some 4) rfl rfl Try.func17 (by kernel_rfl) rfl #[.agg #[.int .i64 a0_0, .slice A0_1 l0_1.length c0_1]] rfl qm ?_; (with_reducible refine (impl_NetOk.calls k a0_0 _ _ l0_1 false _ ?side1 ?side2 A2.out).mono ?_); (case side1 => exact qc (Kd.C_below HR0_1.out HB.out)); (case side2 => exact HC0_1.out); rintro e w12 ⟨rfl, hb⟩; refine ⟨_, rfl, ?_⟩; have n0_ := q0 (kb BK103.out hb); have n1_ := q0 (below_step (qb HB.out) hb); clear BK103 HB; have BK103 := n0_; have HB := n1_; clear n0_ n1_; (try clear hb); (try clear hb2); (try clear hk); (try clear hi)) | ((with_reducible refine gate_dst (N := 6) rfl ?_); refine Kd.R_lit kTie _ 54 ?hg (N := 6) ?hd (xs := ([] : List (STie))) (inner := []) (ok := fun _ => True) (okp := fun _ => True) ?hr ?hp (fun _ hk => hk) trivial (Below.refl _ _) (Nat.le_refl _) (by simp) ?_; (case hd => rfl); (case hg => rfl); (case hr => first | (go_simp; done) | (go_simp; rfl)); (case hp => exact (Reps.none _ _)); intro v107 w13 ho14 hb hg_ hnew_; clear hg_ hnew_; (first | rw [← Ny106.out] at ho14 | (simp only [Int.reduceToNat] at ho14; rw [← Ny106.out] at ho14)); have n0_ := q0 (Kd.R_lower ho14 (below_size (qb HB.out))); have n1_ := q0 (kb BK103.out hb); have n2_ := q0 (below_step (qb HB.out) hb); clear BK103 HB; have HO108 := n0_; have BK103 := n1_; have HB := n2_; clear n0_ n1_ n2_ hb ho14))
 go_ret
 exact ⟨_, qe, by (with_reducible repeat (first | apply Kd.R_alloc | apply Kd.R_drewN | apply Kd.R_drew)); exact HO108.out, qb HB.out⟩

set_option maxHeartbeats 8000000 in
set_option maxRecDepth 100000 in
theorem laws_FnExactTreeOf.calls (k : Nat) (a0_0 : Int) (A0_1 : Option Addr) (c0_1 : Nat) (l0_1 : List (SLTie)) (r : Bool) (w : World) (hr0_1 : Kd.C kLTie w A0_1 l0_1.length l0_1) (hc0_1 : l0_1.length ≤ c0_1) (h : laws_FnExactTreeOf.f k a0_0 l0_1 = some r) :
    Calls Try.prog 13 #[.agg #[.int .i64 a0_0, .slice A0_1 l0_1.length c0_1]] w fun e w' => e = .returned (.bool r) ∧ Below w.heap.size w w' := by
 have hu25 := Try.underlying25
 have hu30 := Try.underlying30
 have HR0_1 := Aside0.mk hr0_1
 have HC0_1 := Aside0.mk hc0_1
 clear hr0_1 hc0_1
 have HB := q0 (Below.refl w.heap.size w)
 have H : ((laws_szNet.f a0_0 l0_1 1048576).bind fun t100 => (if t100 < 0 then (some true) else ((laws_toNet.f k a0_0 l0_1).bind fun bt107 => ((spec_TreeOf.f k bt107.1 bt107.2).bind fun t108 => ((laws_toNet.f k a0_0 l0_1).bind fun bt109 => ((impl_TreeOf.f k bt109.1 bt109.2).bind fun t110 => ((laws_eqTieS.f k t110 t108).bind fun t111 => (if t111 = true then ((laws_toNet.f k a0_0 l0_1).bind fun bt112 => ((laws_eqNet.f k bt109.1 bt109.2 bt112.1 bt112.2).bind fun t113 => (if t113 = true then ((laws_markNet.f k bt109.1 bt109.2 1).bind fun bt114 => (if bt114.1 < 0 then (laws_FnExactTreeOf.j0 k t108 t110 true a0_0 l0_1) else ((laws_eqTieS.f k t110 t108).bind fun t115 => (laws_FnExactTreeOf.j0 k t108 t110 (!t115) a0_0 l0_1)))) else (some false)))) else (some false))))))))) = some r := h
 clear h
 replace H := Option.bind_eq_some_iff.mp H
 obtain ⟨t100, A20, H⟩ := H
 replace H : (if t100 < 0 then (some true) else ((laws_toNet.f k a0_0 l0_1).bind fun bt107 => ((spec_TreeOf.f k bt107.1 bt107.2).bind fun t108 => ((laws_toNet.f k a0_0 l0_1).bind fun bt109 => ((impl_TreeOf.f k bt109.1 bt109.2).bind fun t110 => ((laws_eqTieS.f k t110 t108).bind fun t111 => (if t111 = true then ((laws_toNet.f k a0_0 l0_1).bind fun bt112 => ((laws_eqNet.f k bt109.1 bt109.2 bt112.1 bt112.2).bind fun t113 => (if t113 = true then ((laws_markNet.f k bt109.1 bt109.2 1).bind fun bt114 => (if bt114.1 < 0 then (laws_FnExactTreeOf.j0 k t108 t110 true a0_0 l0_1) else ((laws_eqTieS.f k t110 t108).bind fun t115 => (laws_FnExactTreeOf.j0 k t108 t110 (!t115) a0_0 l0_1)))) else (some false)))) else (some false)))))))) = some r := H
 have A2 := Aside0.mk A20
 clear A20
 by_cases c3 : t100 < 0
 · rw [if_pos c3] at H
   have c3b0 : decide (t100 < 0) = true := decide_eq_true c3
   clear c3
   obtain rfl := Option.some.inj H
   go_enter Try.func13, Try.ntmps13
   go_wp2_with (first | ((with_reducible refine gate_dst (N := 1) rfl ?_); refine be 1 #[.int .i64 a0_0, .slice A0_1 l0_1.length c0_1] 25 ?_; intro gb116 hg w4 hbox hb; have n0_ := q0 (below_step (qb HB.out) hb); have n1_ := q0 (hbox); have n2_ := q0 ((bs HB.out hg : w.heap.size ≤ gb116)); have n3_ := q0 ((bs HB.out hg : w.heap.size ≤ gb116)); clear HB; have HB := n0_; have BK116 := n1_; have GW116 := n2_; have GE116 := n3_; clear n0_ n1_ n2_ n3_ hb hbox hg; have hcz5_0 : w4.cell? ⟨gb116, 0, none⟩ = some (.int .i64 a0_0) := (blk_cell BK116.out 0).trans rfl; have hcz5_1 : w4.cell? ⟨gb116, 1, none⟩ = some (.slice A0_1 l0_1.length c0_1) := (blk_cell BK116.out 1).trans rfl; have hfz5_0 := blk_frozen BK116.out 0; have hfz5_1 := blk_frozen BK116.out 1) | ((with_reducible refine gate_callee (f := 14) rfl ?_); refine goesL_ (some 13) rfl rfl Try.func14 (by kernel_rfl) rfl #[.agg #[.int .i64 a0_0, .slice A0_1 l0_1.length c0_1], .int .i64 1048576] rfl qm ?_; (with_reducible refine (laws_szNet.calls a0_0 _ _ l0_1 1048576 t100 _ ?side1 ?side2 A2.out).mono ?_); (case side1 => exact qc (Kd.C_below HR0_1.out HB.out)); (case side2 => exact HC0_1.out); rintro e w6 ⟨rfl, hb⟩; refine ⟨_, rfl, ?_⟩; have n0_ := q0 (kb BK116.out hb); have n1_ := q0 (below_step (qb HB.out) hb); clear BK116 HB; have BK116 := n0_; have HB := n1_; clear n0_ n1_; (try clear hb); (try clear hb2); (try clear hk); (try clear hi)))
   go_ret
   exact ⟨qe, qb HB.out⟩
 rw [if_neg c3] at H
 have c3b0 : decide (t100 < 0) = false := decide_eq_false c3
 clear c3
 replace H := Option.bind_eq_some_iff.mp H
 obtain ⟨⟨t107, t117⟩, A70, H⟩ := H
 replace H : ((spec_TreeOf.f k t107 t117).bind fun t108 => ((laws_toNet.f k a0_0 l0_1).bind fun bt109 => ((impl_TreeOf.f k bt109.1 bt109.2).bind fun t110 => ((laws_eqTieS.f k t110 t108).bind fun t111 => (if t111 = true then ((laws_toNet.f k a0_0 l0_1).bind fun bt112 => ((laws_eqNet.f k bt109.1 bt109.2 bt112.1 bt112.2).bind fun t113 => (if t113 = true then ((laws_markNet.f k bt109.1 bt109.2 1).bind fun bt114 => (if bt114.1 < 0 then (laws_FnExactTreeOf.j0 k t108 t110 true a0_0 l0_1) else ((laws_eqTieS.f k t110 t108).bind fun t115 => (laws_FnExactTreeOf.j0 k t108 t110 (!t115) a0_0 l0_1)))) else (some false)))) else (some false)))))) = some r := H
 have A7 := Aside0.mk A70
 clear A70
 replace H := Option.bind_eq_some_iff.mp H
 obtain ⟨t108, A80, H⟩ := H
 replace H : ((laws_toNet.f k a0_0 l0_1).bind fun bt109 => ((impl_TreeOf.f k bt109.1 bt109.2).bind fun t110 => ((laws_eqTieS.f k t110 t108).bind fun t111 => (if t111 = true then ((laws_toNet.f k a0_0 l0_1).bind fun bt112 => ((laws_eqNet.f k bt109.1 bt109.2 bt112.1 bt112.2).bind fun t113 => (if t113 = true then ((laws_markNet.f k bt109.1 bt109.2 1).bind fun bt114 => (if bt114.1 < 0 then (laws_FnExactTreeOf.j0 k t108 t110 true a0_0 l0_1) else ((laws_eqTieS.f k t110 t108).bind fun t115 => (laws_FnExactTreeOf.j0 k t108 t110 (!t115) a0_0 l0_1)))) else (some false)))) else (some false))))) = some r := H
 have A8 := Aside0.mk A80
 clear A80
 replace H := Option.bind_eq_some_iff.mp H
 obtain ⟨⟨t109, t118⟩, A90, H⟩ := H
 replace H : ((impl_TreeOf.f k t109 t118).bind fun t110 => ((laws_eqTieS.f k t110 t108).bind fun t111 => (if t111 = true then ((laws_toNet.f k a0_0 l0_1).bind fun bt112 => ((laws_eqNet.f k t109 t118 bt112.1 bt112.2).bind fun t113 => (if t113 = true then ((laws_markNet.f k t109 t118 1).bind fun bt114 => (if bt114.1 < 0 then (laws_FnExactTreeOf.j0 k t108 t110 true a0_0 l0_1) else ((laws_eqTieS.f k t110 t108).bind fun t115 => (laws_FnExactTreeOf.j0 k t108 t110 (!t115) a0_0 l0_1)))) else (some false)))) else (some false)))) = some r := H
 have A9 := Aside0.mk A90
 clear A90
 replace H := Option.bind_eq_some_iff.mp H
 obtain ⟨t110, A119, H⟩ := H
 replace H : ((laws_eqTieS.f k t110 t108).bind fun t111 => (if t111 = true then ((laws_toNet.f k a0_0 l0_1).bind fun bt112 => ((laws_eqNet.f k t109 t118 bt112.1 bt112.2).bind fun t113 => (if t113 = true then ((laws_markNet.f k t109 t118 1).bind fun bt114 => (if bt114.1 < 0 then (laws_FnExactTreeOf.j0 k t108 t110 true a0_0 l0_1) else ((laws_eqTieS.f k t110 t108).bind fun t115 => (laws_FnExactTreeOf.j0 k t108 t110 (!t115) a0_0 l0_1)))) else (some false)))) else (some false))) = some r := H
 have A10 := Aside0.mk A119
 clear A119
 replace H := Option.bind_eq_some_iff.mp H
 obtain ⟨t111, A120, H⟩ := H
 replace H : (if t111 = true then ((laws_toNet.f k a0_0 l0_1).bind fun bt112 => ((laws_eqNet.f k t109 t118 bt112.1 bt112.2).bind fun t113 => (if t113 = true then ((laws_markNet.f k t109 t118 1).bind fun bt114 => (if bt114.1 < 0 then (laws_FnExactTreeOf.j0 k t108 t110 true a0_0 l0_1) else ((laws_eqTieS.f k t110 t108).bind fun t115 => (laws_FnExactTreeOf.j0 k t108 t110 (!t115) a0_0 l0_1)))) else (some false)))) else (some false)) = some r := H
 have A11 := Aside0.mk A120
 clear A120
 by_cases c12 : t111 = true
 rotate_left
 · replace c12 := Bool.eq_false_iff.mpr c12
   subst c12
   have H1 : (some false) = some r := by rw [if_neg (show ¬ (false = true) by decide)] at H; exact H
   clear H
   have H := H1
   clear H1
   obtain rfl := Option.some.inj H
   go_enter Try.func13, Try.ntmps13
   go_wp2_with (first | ((with_reducible refine gate_dst (N := 1) rfl ?_); refine be 1 #[.int .i64 a0_0, .slice A0_1 l0_1.length c0_1] 25 ?_; intro gb116 hg w159 hbox hb; have n0_ := q0 (below_step (qb HB.out) hb); have n1_ := q0 (hbox); have n2_ := q0 ((bs HB.out hg : w.heap.size ≤ gb116)); have n3_ := q0 ((bs HB.out hg : w.heap.size ≤ gb116)); clear HB; have HB := n0_; have BK116 := n1_; have GW116 := n2_; have GE116 := n3_; clear n0_ n1_ n2_ n3_ hb hbox hg; have hcz160_0 : w159.cell? ⟨gb116, 0, none⟩ = some (.int .i64 a0_0) := (blk_cell BK116.out 0).trans rfl; have hcz160_1 : w159.cell? ⟨gb116, 1, none⟩ = some (.slice A0_1 l0_1.length c0_1) := (blk_cell BK116.out 1).trans rfl; have hfz160_0 := blk_frozen BK116.out 0; have hfz160_1 := blk_frozen BK116.out 1) | ((with_reducible refine gate_callee (f := 14) rfl ?_); refine goesL_ (some 13) rfl rfl Try.func14 (by kernel_rfl) rfl #[.agg #[.int .i64 a0_0, .slice A0_1 l0_1.length c0_1], .int .i64 1048576] rfl qm ?_; (with_reducible refine (laws_szNet.calls a0_0 _ _ l0_1 1048576 t100 _ ?side1 ?side2 A2.out).mono ?_); (case side1 => exact qc (Kd.C_below HR0_1.out HB.out)); (case side2 => exact HC0_1.out); rintro e w161 ⟨rfl, hb⟩; refine ⟨_, rfl, ?_⟩; have n0_ := q0 (kb BK116.out hb); have n1_ := q0 (below_step (qb HB.out) hb); clear BK116 HB; have BK116 := n0_; have HB := n1_; clear n0_ n1_; (try clear hb); (try clear hb2); (try clear hk); (try clear hi); have hcz162_0 : w161.cell? ⟨gb116, 0, none⟩ = some (.int .i64 a0_0) := (blk_cell BK116.out 0).trans rfl; have hcz162_1 : w161.cell? ⟨gb116, 1, none⟩ = some (.slice A0_1 l0_1.length c0_1) := (blk_cell BK116.out 1).trans rfl; have hfz162_0 := blk_frozen BK116.out 0; have hfz162_1 := blk_frozen BK116.out 1) | ((with_reducible refine gate_callee (f := 16) rfl ?_); refine goesL_ (some 17) rfl rfl Try.func16 (by kernel_rfl) rfl #[.agg #[.int .i64 a0_0, .slice A0_1 l0_1.length c0_1]] rfl qm ?_; (with_reducible refine (laws_toNet.calls k a0_0 _ _ l0_1 t107 t117 _ ?side1 ?side2 A7.out).mono ?_); (case side1 => exact qc (Kd.C_below HR0_1.out HB.out)); (case side2 => exact HC0_1.out); rintro e w163 ⟨v126, rfl, ho0, hb⟩; refine ⟨_, rfl, ?_⟩; have n0_ := q0 (Kd.R_lower ho0 (below_size (qb HB.out))); have n1_ := q0 (kb BK116.out hb); have n2_ := q0 (below_step (qb HB.out) hb); clear BK116 HB; have HO127 := n0_; have BK116 := n1_; have HB := n2_; clear n0_ n1_ n2_; (try clear hb); (try clear hb2); (try clear hk); (try clear hi); (try clear ho0); obtain ⟨Ao164, co164, eo164⟩ := Kd.R_slice HO127.out; subst eo164) | ((with_reducible refine gate_callee (f := 42) rfl ?_); refine goesL_ (some 18) rfl rfl Try.func42 (by kernel_rfl) rfl #[.agg #[.int .i64 t107, .slice Ao164 t117.length co164]] rfl qm ?_; (with_reducible refine (spec_TreeOf.calls k t107 _ _ t117 t108 _ ?side1 ?side2 A8.out).mono ?_); (case side1 => exact qc (Kd.R_reads' HO127.out).2.2); (case side2 => exact (Kd.R_reads' HO127.out).2.1); rintro e w165 ⟨v128, rfl, ho0, hb⟩; refine ⟨_, rfl, ?_⟩; have n0_ := q0 (Kd.R_elder' (qr HO127.out) (Kd.R_base ho0) hb); have n1_ := q0 (Kd.R_lower (Kd.R_new' ho0 (Kd.R_lt (qr HO127.out))) (below_size (qb HB.out))); have n2_ := q0 (kb BK116.out hb); have n3_ := q0 (below_step (qb HB.out) hb); clear HO127 BK116 HB; have HO127 := n0_; have HO129 := n1_; have BK116 := n2_; have HB := n3_; clear n0_ n1_ n2_ n3_; (try clear hb); (try clear hb2); (try clear hk); (try clear hi); (try clear ho0); have hcz166_0 : w165.cell? ⟨gb116, 0, none⟩ = some (.int .i64 a0_0) := (blk_cell BK116.out 0).trans rfl; have hcz166_1 : w165.cell? ⟨gb116, 1, none⟩ = some (.slice A0_1 l0_1.length c0_1) := (blk_cell BK116.out 1).trans rfl; have hfz166_0 := blk_frozen BK116.out 0; have hfz166_1 := blk_frozen BK116.out 1) | ((with_reducible refine gate_callee (f := 16) rfl ?_); refine goesL_ (some 20) rfl rfl Try.func16 (by kernel_rfl) rfl #[.agg #[.int .i64 a0_0, .slice A0_1 l0_1.length c0_1]] rfl qm ?_; (with_reducible refine (laws_toNet.calls k a0_0 _ _ l0_1 t109 t118 _ ?side1 ?side2 A9.out).mono ?_); (case side1 => exact qc (Kd.C_below HR0_1.out HB.out)); (case side2 => exact HC0_1.out); rintro e w167 ⟨v130, rfl, ho0, hb⟩; refine ⟨_, rfl, ?_⟩; have n0_ := q0 (Kd.R_elder' (qr HO127.out) (Kd.R_base ho0) hb); have n1_ := q0 (Kd.R_elder' (qr HO129.out) (Kd.R_base ho0) hb); have n2_ := q0 (Kd.R_lower (Kd.R_new' (Kd.R_new' ho0 (Kd.R_lt (qr HO127.out))) (Kd.R_lt (qr HO129.out))) (below_size (qb HB.out))); have n3_ := q0 (kb BK116.out hb); have n4_ := q0 (below_step (qb HB.out) hb); clear HO127 HO129 BK116 HB; have HO127 := n0_; have HO129 := n1_; have HO131 := n2_; have BK116 := n3_; have HB := n4_; clear n0_ n1_ n2_ n3_ n4_; (try clear hb); (try clear hb2); (try clear hk); (try clear hi); (try clear ho0)) | ((with_reducible refine gate_dst (N := 5) rfl ?_); refine be 5 #[.int .i64 0, .slice none 0 0] 30 ?_; intro gb132 hg w168 hbox hb; have n0_ := q0 (Kd.R_below (qr HO127.out) hb); have n1_ := q0 (Kd.R_below (qr HO129.out) hb); have n2_ := q0 (Kd.R_below (qr HO131.out) hb); have n3_ := q0 (kb BK116.out hb); have n4_ := q0 (below_step (qb HB.out) hb); have n5_ := q0 (hbox); have n6_ := q0 ((bs HB.out hg : w.heap.size ≤ gb132)); have n7_ := q0 ((bs HB.out hg : w.heap.size ≤ gb132)); have n8_ := q0 ((bl BK116.out hg : gb116 ≠ gb132)); have n9_ := q0 ((bg BK116.out hg : gb132 ≠ gb116)); clear HO127 HO129 HO131 BK116 HB; have HO127 := n0_; have HO129 := n1_; have HO131 := n2_; have BK116 := n3_; have HB := n4_; have BK132 := n5_; have GW132 := n6_; have GE132 := n7_; have NB116_132 := n8_; have NB132_116 := n9_; clear n0_ n1_ n2_ n3_ n4_ n5_ n6_ n7_ n8_ n9_ hb hbox hg; have hnb169 := NB132_116.out; have hnc169 := NB116_132.out; have hcz170_0 : w168.cell? ⟨gb132, 0, none⟩ = some (.int .i64 0) := (blk_cell BK132.out 0).trans rfl; have hcz170_1 : w168.cell? ⟨gb132, 1, none⟩ = some (.slice none 0 0) := (blk_cell BK132.out 1).trans rfl; have hfz170_0 := blk_frozen BK132.out 0; have hfz170_1 := blk_frozen BK132.out 1; obtain ⟨Ao171, co171, eo171⟩ := Kd.R_slice HO131.out; subst eo171) | ((with_reducible refine gate_callee (f := 43) rfl ?_); refine goesL_ (some 22) rfl rfl Try.func43 (by kernel_rfl) rfl #[.agg #[.int .i64 t109, .slice Ao171 t118.length co171]] rfl qm ?_; (with_reducible refine (impl_TreeOf.calls k t109 _ _ t118 t110 _ ?side1 ?side2 A10.out).mono ?_); (case side1 => refine (Kd.R_reads' (e := 54) (base := w.heap.size) (ok := fun k_ => ((True ∧ some k_ ≠ (.slice Ao164 t117.length co164 : Value).ownBlock) ∧ some k_ ≠ (v128 : Value).ownBlock)) (n := t118.length) (c := co171) ?_).2.2; exact (by (with_reducible repeat (first | apply Kd.R_alloc | apply Kd.R_drewN | apply Kd.R_drew)); exact (Kd.R_mono (Kd.R_far (p := ⟨gb132, 1, none⟩) (Kd.R_far (p := ⟨gb132, 0, none⟩) (Kd.R_types HO131.out BK132.out (by decide)) (fun _ hk => hk.2) (.int .i64 t109)) (fun _ hk => hk.2) (.slice Ao171 t118.length co171)) (fun _ h_ => h_.1)))); (case side2 => exact (Kd.R_reads' HO131.out).2.1); rintro e w172 ⟨v133, rfl, ho0, hb⟩; refine ⟨_, rfl, ?_⟩; have n0_ := q0 (Kd.R_elder' (by (with_reducible repeat (first | apply Kd.R_alloc | apply Kd.R_drewN | apply Kd.R_drew)); exact (Kd.R_mono (Kd.R_far (p := ⟨gb132, 1, none⟩) (Kd.R_far (p := ⟨gb132, 0, none⟩) (Kd.R_types HO127.out BK132.out (by decide)) (fun _ hk => hk.2) (.int .i64 t109)) (fun _ hk => hk.2) (.slice Ao171 t118.length co171)) (fun _ h_ => h_.1))) (Kd.R_base ho0) hb); have n1_ := q0 (Kd.R_elder' (by (with_reducible repeat (first | apply Kd.R_alloc | apply Kd.R_drewN | apply Kd.R_drew)); exact (Kd.R_mono (Kd.R_far (p := ⟨gb132, 1, none⟩) (Kd.R_far (p := ⟨gb132, 0, none⟩) (Kd.R_types HO129.out BK132.out (by decide)) (fun _ hk => hk.2) (.int .i64 t109)) (fun _ hk => hk.2) (.slice Ao171 t118.length co171)) (fun _ h_ => h_.1))) (Kd.R_base ho0) hb); have n2_ := q0 (Kd.R_elder' (by (with_reducible repeat (first | apply Kd.R_alloc | apply Kd.R_drewN | apply Kd.R_drew)); exact (Kd.R_mono (Kd.R_far (p := ⟨gb132, 1, none⟩) (Kd.R_far (p := ⟨gb132, 0, none⟩) (Kd.R_types HO131.out BK132.out (by decide)) (fun _ hk => hk.2) (.int .i64 t109)) (fun _ hk => hk.2) (.slice Ao171 t118.length co171)) (fun _ h_ => h_.1))) (Kd.R_base ho0) hb); have n3_ := q0 (Kd.R_lower (Kd.R_new' (Kd.R_new' (Kd.R_new' ho0 (Kd.R_lt (by (with_reducible repeat (first | apply Kd.R_alloc | apply Kd.R_drewN | apply Kd.R_drew)); exact (Kd.R_mono (Kd.R_far (p := ⟨gb132, 1, none⟩) (Kd.R_far (p := ⟨gb132, 0, none⟩) (Kd.R_types HO127.out BK132.out (by decide)) (fun _ hk => hk.2) (.int .i64 t109)) (fun _ hk => hk.2) (.slice Ao171 t118.length co171)) (fun _ h_ => h_.1))))) (Kd.R_lt (by (with_reducible repeat (first | apply Kd.R_alloc | apply Kd.R_drewN | apply Kd.R_drew)); exact (Kd.R_mono (Kd.R_far (p := ⟨gb132, 1, none⟩) (Kd.R_far (p := ⟨gb132, 0, none⟩) (Kd.R_types HO129.out BK132.out (by decide)) (fun _ hk => hk.2) (.int .i64 t109)) (fun _ hk => hk.2) (.slice Ao171 t118.length co171)) (fun _ h_ => h_.1))))) (Kd.R_lt (by (with_reducible repeat (first | apply Kd.R_alloc | apply Kd.R_drewN | apply Kd.R_drew)); exact (Kd.R_mono (Kd.R_far (p := ⟨gb132, 1, none⟩) (Kd.R_far (p := ⟨gb132, 0, none⟩) (Kd.R_types HO131.out BK132.out (by decide)) (fun _ hk => hk.2) (.int .i64 t109)) (fun _ hk => hk.2) (.slice Ao171 t118.length co171)) (fun _ h_ => h_.1))))) (below_size (qb HB.out))); have n4_ := q0 (blk_below (g := gb116) (o := .cells #[.int .i64 a0_0, .slice A0_1 l0_1.length c0_1] 25 (0, 0)) (qf BK116.out) hb); have n5_ := q0 (blk_below (g := gb132) (o := .cells #[.int .i64 t109, .slice Ao171 t118.length co171] 30 (0, 0)) (by (with_reducible repeat (first | refine blk_drewN ?_ _ | refine blk_drew ?_ | refine blk_alloc ?_ _)); refine blk_put (cs := #[.int .i64 t109, .slice none 0 0]) ?_ 1 _ rfl; (with_reducible repeat (first | refine blk_drewN ?_ _ | refine blk_drew ?_ | refine blk_alloc ?_ _)); refine blk_put (cs := #[.int .i64 0, .slice none 0 0]) ?_ 0 _ rfl; (with_reducible repeat (first | refine blk_drewN ?_ _ | refine blk_drew ?_ | refine blk_alloc ?_ _)); exact BK132.out) hb); have n6_ := q0 (below_step (qb HB.out) hb); clear HO127 HO129 HO131 BK116 BK132 HB; have HO127 := n0_; have HO129 := n1_; have HO131 := n2_; have HO134 := n3_; have BK116 := n4_; have BK132 := n5_; have HB := n6_; clear n0_ n1_ n2_ n3_ n4_ n5_ n6_; (try clear hb); (try clear hb2); (try clear hk); (try clear hi); (try clear ho0); obtain ⟨Ao173, co173, eo173⟩ := Kd.R_slice HO134.out; subst eo173; obtain ⟨Ao174, co174, eo174⟩ := Kd.R_slice HO129.out; subst eo174) | ((with_reducible refine gate_callee (f := 44) rfl ?_); refine goesL_ (some 25) rfl rfl Try.func44 (by kernel_rfl) rfl #[.slice Ao173 t110.length co173, .slice Ao174 t108.length co174] rfl qm ?_; (with_reducible refine (laws_eqTieS.calls k _ _ t110 _ _ t108 false _ ?side1 ?side2 ?side3 ?side4 A11.out).mono ?_); (case side1 => exact qc (Kd.R_reads' HO134.out).2.2); (case side2 => exact (Kd.R_reads' HO134.out).2.1); (case side3 => exact qc (Kd.R_reads' HO129.out).2.2); (case side4 => exact (Kd.R_reads' HO129.out).2.1); rintro e w175 ⟨rfl, hb⟩; refine ⟨_, rfl, ?_⟩; have n0_ := q0 (Kd.R_below (qr HO127.out) hb); have n1_ := q0 (Kd.R_below (qr HO129.out) hb); have n2_ := q0 (Kd.R_below (qr HO131.out) hb); have n3_ := q0 (Kd.R_below (qr HO134.out) hb); have n4_ := q0 (kb BK116.out hb); have n5_ := q0 (kb BK132.out hb); have n6_ := q0 (below_step (qb HB.out) hb); clear HO127 HO129 HO131 HO134 BK116 BK132 HB; have HO127 := n0_; have HO129 := n1_; have HO131 := n2_; have HO134 := n3_; have BK116 := n4_; have BK132 := n5_; have HB := n6_; clear n0_ n1_ n2_ n3_ n4_ n5_ n6_; (try clear hb); (try clear hb2); (try clear hk); (try clear hi)))
   go_ret
   exact ⟨qe, qb HB.out⟩
 subst c12
 have H1 : ((laws_toNet.f k a0_0 l0_1).bind fun bt112 => ((laws_eqNet.f k t109 t118 bt112.1 bt112.2).bind fun t113 => (if t113 = true then ((laws_markNet.f k t109 t118 1).bind fun bt114 => (if bt114.1 < 0 then (laws_FnExactTreeOf.j0 k t108 t110 true a0_0 l0_1) else ((laws_eqTieS.f k t110 t108).bind fun t115 => (laws_FnExactTreeOf.j0 k t108 t110 (!t115) a0_0 l0_1)))) else (some false)))) = some r := by rw [if_pos rfl] at H; exact H
 clear H
 have H := H1
 clear H1
 replace H := Option.bind_eq_some_iff.mp H
 obtain ⟨⟨t112, t121⟩, A122, H⟩ := H
 replace H : ((laws_eqNet.f k t109 t118 t112 t121).bind fun t113 => (if t113 = true then ((laws_markNet.f k t109 t118 1).bind fun bt114 => (if bt114.1 < 0 then (laws_FnExactTreeOf.j0 k t108 t110 true a0_0 l0_1) else ((laws_eqTieS.f k t110 t108).bind fun t115 => (laws_FnExactTreeOf.j0 k t108 t110 (!t115) a0_0 l0_1)))) else (some false))) = some r := H
 have A13 := Aside0.mk A122
 clear A122
 replace H := Option.bind_eq_some_iff.mp H
 obtain ⟨t113, A123, H⟩ := H
 replace H : (if t113 = true then ((laws_markNet.f k t109 t118 1).bind fun bt114 => (if bt114.1 < 0 then (laws_FnExactTreeOf.j0 k t108 t110 true a0_0 l0_1) else ((laws_eqTieS.f k t110 t108).bind fun t115 => (laws_FnExactTreeOf.j0 k t108 t110 (!t115) a0_0 l0_1)))) else (some false)) = some r := H
 have A14 := Aside0.mk A123
 clear A123
 by_cases c15 : t113 = true
 rotate_left
 · replace c15 := Bool.eq_false_iff.mpr c15
   subst c15
   have H1 : (some false) = some r := by rw [if_neg (show ¬ (false = true) by decide)] at H; exact H
   clear H
   have H := H1
   clear H1
   obtain rfl := Option.some.inj H
   go_enter Try.func13, Try.ntmps13
   try go_wp2_with (first | ((with_reducible refine gate_dst (N := 1) rfl ?_); refine be 1 #[.int .i64 a0_0, .slice A0_1 l0_1.length c0_1] 25 ?_; intro gb116 hg w90 hbox hb; have n0_ := q0 (below_step (qb HB.out) hb); have n1_ := q0 (hbox); have n2_ := q0 ((bs HB.out hg : w.heap.size ≤ gb116)); have n3_ := q0 ((bs HB.out hg : w.heap.size ≤ gb116)); clear HB; have HB := n0_; have BK116 := n1_; have GW116 := n2_; have GE116 := n3_; clear n0_ n1_ n2_ n3_ hb hbox hg; have hcz91_0 : w90.cell? ⟨gb116, 0, none⟩ = some (.int .i64 a0_0) := (blk_cell BK116.out 0).trans rfl; have hcz91_1 : w90.cell? ⟨gb116, 1, none⟩ = some (.slice A0_1 l0_1.length c0_1) := (blk_cell BK116.out 1).trans rfl; have hfz91_0 := blk_frozen BK116.out 0; have hfz91_1 := blk_frozen BK116.out 1) | ((with_reducible refine gate_callee (f := 14) rfl ?_); refine goesL_ (some 13) rfl rfl Try.func14 (by kernel_rfl) rfl #[.agg #[.int .i64 a0_0, .slice A0_1 l0_1.length c0_1], .int .i64 1048576] rfl qm ?_; (with_reducible refine (laws_szNet.calls a0_0 _ _ l0_1 1048576 t100 _ ?side1 ?side2 A2.out).mono ?_); (case side1 => exact qc (Kd.C_below HR0_1.out HB.out)); (case side2 => exact HC0_1.out); rintro e w92 ⟨rfl, hb⟩; refine ⟨_, rfl, ?_⟩; have n0_ := q0 (kb BK116.out hb); have n1_ := q0 (below_step (qb HB.out) hb); clear BK116 HB; have BK116 := n0_; have HB := n1_; clear n0_ n1_; (try clear hb); (try clear hb2); (try clear hk); (try clear hi); have hcz93_0 : w92.cell? ⟨gb116, 0, none⟩ = some (.int .i64 a0_0) := (blk_cell BK116.out 0).trans rfl; have hcz93_1 : w92.cell? ⟨gb116, 1, none⟩ = some (.slice A0_1 l0_1.length c0_1) := (blk_cell BK116.out 1).trans rfl; have hfz93_0 := blk_frozen BK116.out 0; have hfz93_1 := blk_frozen BK116.out 1) | ((with_reducible refine gate_callee (f := 16) rfl ?_); refine goesL_ (some 17) rfl rfl Try.func16 (by kernel_rfl) rfl #[.agg #[.int .i64 a0_0, .slice A0_1 l0_1.length c0_1]] rfl qm ?_; (with_reducible refine (laws_toNet.calls k a0_0 _ _ l0_1 t107 t117 _ ?side1 ?side2 A7.out).mono ?_); (case side1 => exact qc (Kd.C_below HR0_1.out HB.out)); (case side2 => exact HC0_1.out); rintro e w94 ⟨v126, rfl, ho0, hb⟩; refine ⟨_, rfl, ?_⟩; have n0_ := q0 (Kd.R_lower ho0 (below_size (qb HB.out))); have n1_ := q0 (kb BK116.out hb); have n2_ := q0 (below_step (qb HB.out) hb); clear BK116 HB; have HO127 := n0_; have BK116 := n1_; have HB := n2_; clear n0_ n1_ n2_; (try clear hb); (try clear hb2); (try clear hk); (try clear hi); (try clear ho0); obtain ⟨Ao95, co95, eo95⟩ := Kd.R_slice HO127.out; subst eo95) | ((with_reducible refine gate_callee (f := 42) rfl ?_); refine goesL_ (some 18) rfl rfl Try.func42 (by kernel_rfl) rfl #[.agg #[.int .i64 t107, .slice Ao95 t117.length co95]] rfl qm ?_; (with_reducible refine (spec_TreeOf.calls k t107 _ _ t117 t108 _ ?side1 ?side2 A8.out).mono ?_); (case side1 => exact qc (Kd.R_reads' HO127.out).2.2); (case side2 => exact (Kd.R_reads' HO127.out).2.1); rintro e w96 ⟨v128, rfl, ho0, hb⟩; refine ⟨_, rfl, ?_⟩; have n0_ := q0 (Kd.R_elder' (qr HO127.out) (Kd.R_base ho0) hb); have n1_ := q0 (Kd.R_lower (Kd.R_new' ho0 (Kd.R_lt (qr HO127.out))) (below_size (qb HB.out))); have n2_ := q0 (kb BK116.out hb); have n3_ := q0 (below_step (qb HB.out) hb); clear HO127 BK116 HB; have HO127 := n0_; have HO129 := n1_; have BK116 := n2_; have HB := n3_; clear n0_ n1_ n2_ n3_; (try clear hb); (try clear hb2); (try clear hk); (try clear hi); (try clear ho0); have hcz97_0 : w96.cell? ⟨gb116, 0, none⟩ = some (.int .i64 a0_0) := (blk_cell BK116.out 0).trans rfl; have hcz97_1 : w96.cell? ⟨gb116, 1, none⟩ = some (.slice A0_1 l0_1.length c0_1) := (blk_cell BK116.out 1).trans rfl; have hfz97_0 := blk_frozen BK116.out 0; have hfz97_1 := blk_frozen BK116.out 1) | ((with_reducible refine gate_callee (f := 16) rfl ?_); refine goesL_ (some 20) rfl rfl Try.func16 (by kernel_rfl) rfl #[.agg #[.int .i64 a0_0, .slice A0_1 l0_1.length c0_1]] rfl qm ?_; (with_reducible refine (laws_toNet.calls k a0_0 _ _ l0_1 t109 t118 _ ?side1 ?side2 A9.out).mono ?_); (case side1 => exact qc (Kd.C_below HR0_1.out HB.out)); (case side2 => exact HC0_1.out); rintro e w98 ⟨v130, rfl, ho0, hb⟩; refine ⟨_, rfl, ?_⟩; have n0_ := q0 (Kd.R_elder' (qr HO127.out) (Kd.R_base ho0) hb); have n1_ := q0 (Kd.R_elder' (qr HO129.out) (Kd.R_base ho0) hb); have n2_ := q0 (Kd.R_lower (Kd.R_new' (Kd.R_new' ho0 (Kd.R_lt (qr HO127.out))) (Kd.R_lt (qr HO129.out))) (below_size (qb HB.out))); have n3_ := q0 (kb BK116.out hb); have n4_ := q0 (below_step (qb HB.out) hb); clear HO127 HO129 BK116 HB; have HO127 := n0_; have HO129 := n1_; have HO131 := n2_; have BK116 := n3_; have HB := n4_; clear n0_ n1_ n2_ n3_ n4_; (try clear hb); (try clear hb2); (try clear hk); (try clear hi); (try clear ho0)) | ((with_reducible refine gate_dst (N := 5) rfl ?_); refine be 5 #[.int .i64 0, .slice none 0 0] 30 ?_; intro gb132 hg w99 hbox hb; have n0_ := q0 (Kd.R_below (qr HO127.out) hb); have n1_ := q0 (Kd.R_below (qr HO129.out) hb); have n2_ := q0 (Kd.R_below (qr HO131.out) hb); have n3_ := q0 (kb BK116.out hb); have n4_ := q0 (below_step (qb HB.out) hb); have n5_ := q0 (hbox); have n6_ := q0 ((bs HB.out hg : w.heap.size ≤ gb132)); have n7_ := q0 ((bs HB.out hg : w.heap.size ≤ gb132)); have n8_ := q0 ((bl BK116.out hg : gb116 ≠ gb132)); have n9_ := q0 ((bg BK116.out hg : gb132 ≠ gb116)); clear HO127 HO129 HO131 BK116 HB; have HO127 := n0_; have HO129 := n1_; have HO131 := n2_; have BK116 := n3_; have HB := n4_; have BK132 := n5_; have GW132 := n6_; have GE132 := n7_; have NB116_132 := n8_; have NB132_116 := n9_; clear n0_ n1_ n2_ n3_ n4_ n5_ n6_ n7_ n8_ n9_ hb hbox hg; have hnb119 := NB132_116.out; have hnc119 := NB116_132.out; have hcz150_0 : w99.cell? ⟨gb132, 0, none⟩ = some (.int .i64 0) := (blk_cell BK132.out 0).trans rfl; have hcz150_1 : w99.cell? ⟨gb132, 1, none⟩ = some (.slice none 0 0) := (blk_cell BK132.out 1).trans rfl; have hfz150_0 := blk_frozen BK132.out 0; have hfz150_1 := blk_frozen BK132.out 1; obtain ⟨Ao151, co151, eo151⟩ := Kd.R_slice HO131.out; subst eo151) | ((with_reducible refine gate_callee (f := 43) rfl ?_); refine goesL_ (some 22) rfl rfl Try.func43 (by kernel_rfl) rfl #[.agg #[.int .i64 t109, .slice Ao151 t118.length co151]] rfl qm ?_; (with_reducible refine (impl_TreeOf.calls k t109 _ _ t118 t110 _ ?side1 ?side2 A10.out).mono ?_); (case side1 => refine (Kd.R_reads' (e := 54) (base := w.heap.size) (ok := fun k_ => ((True ∧ some k_ ≠ (.slice Ao95 t117.length co95 : Value).ownBlock) ∧ some k_ ≠ (v128 : Value).ownBlock)) (n := t118.length) (c := co151) ?_).2.2; exact (by (with_reducible repeat (first | apply Kd.R_alloc | apply Kd.R_drewN | apply Kd.R_drew)); exact (Kd.R_mono (Kd.R_far (p := ⟨gb132, 1, none⟩) (Kd.R_far (p := ⟨gb132, 0, none⟩) (Kd.R_types HO131.out BK132.out (by decide)) (fun _ hk => hk.2) (.int .i64 t109)) (fun _ hk => hk.2) (.slice Ao151 t118.length co151)) (fun _ h_ => h_.1)))); (case side2 => exact (Kd.R_reads' HO131.out).2.1); rintro e w152 ⟨v133, rfl, ho0, hb⟩; refine ⟨_, rfl, ?_⟩; have n0_ := q0 (Kd.R_elder' (by (with_reducible repeat (first | apply Kd.R_alloc | apply Kd.R_drewN | apply Kd.R_drew)); exact (Kd.R_mono (Kd.R_far (p := ⟨gb132, 1, none⟩) (Kd.R_far (p := ⟨gb132, 0, none⟩) (Kd.R_types HO127.out BK132.out (by decide)) (fun _ hk => hk.2) (.int .i64 t109)) (fun _ hk => hk.2) (.slice Ao151 t118.length co151)) (fun _ h_ => h_.1))) (Kd.R_base ho0) hb); have n1_ := q0 (Kd.R_elder' (by (with_reducible repeat (first | apply Kd.R_alloc | apply Kd.R_drewN | apply Kd.R_drew)); exact (Kd.R_mono (Kd.R_far (p := ⟨gb132, 1, none⟩) (Kd.R_far (p := ⟨gb132, 0, none⟩) (Kd.R_types HO129.out BK132.out (by decide)) (fun _ hk => hk.2) (.int .i64 t109)) (fun _ hk => hk.2) (.slice Ao151 t118.length co151)) (fun _ h_ => h_.1))) (Kd.R_base ho0) hb); have n2_ := q0 (Kd.R_elder' (by (with_reducible repeat (first | apply Kd.R_alloc | apply Kd.R_drewN | apply Kd.R_drew)); exact (Kd.R_mono (Kd.R_far (p := ⟨gb132, 1, none⟩) (Kd.R_far (p := ⟨gb132, 0, none⟩) (Kd.R_types HO131.out BK132.out (by decide)) (fun _ hk => hk.2) (.int .i64 t109)) (fun _ hk => hk.2) (.slice Ao151 t118.length co151)) (fun _ h_ => h_.1))) (Kd.R_base ho0) hb); have n3_ := q0 (Kd.R_lower (Kd.R_new' (Kd.R_new' (Kd.R_new' ho0 (Kd.R_lt (by (with_reducible repeat (first | apply Kd.R_alloc | apply Kd.R_drewN | apply Kd.R_drew)); exact (Kd.R_mono (Kd.R_far (p := ⟨gb132, 1, none⟩) (Kd.R_far (p := ⟨gb132, 0, none⟩) (Kd.R_types HO127.out BK132.out (by decide)) (fun _ hk => hk.2) (.int .i64 t109)) (fun _ hk => hk.2) (.slice Ao151 t118.length co151)) (fun _ h_ => h_.1))))) (Kd.R_lt (by (with_reducible repeat (first | apply Kd.R_alloc | apply Kd.R_drewN | apply Kd.R_drew)); exact (Kd.R_mono (Kd.R_far (p := ⟨gb132, 1, none⟩) (Kd.R_far (p := ⟨gb132, 0, none⟩) (Kd.R_types HO129.out BK132.out (by decide)) (fun _ hk => hk.2) (.int .i64 t109)) (fun _ hk => hk.2) (.slice Ao151 t118.length co151)) (fun _ h_ => h_.1))))) (Kd.R_lt (by (with_reducible repeat (first | apply Kd.R_alloc | apply Kd.R_drewN | apply Kd.R_drew)); exact (Kd.R_mono (Kd.R_far (p := ⟨gb132, 1, none⟩) (Kd.R_far (p := ⟨gb132, 0, none⟩) (Kd.R_types HO131.out BK132.out (by decide)) (fun _ hk => hk.2) (.int .i64 t109)) (fun _ hk => hk.2) (.slice Ao151 t118.length co151)) (fun _ h_ => h_.1))))) (below_size (qb HB.out))); have n4_ := q0 (blk_below (g := gb116) (o := .cells #[.int .i64 a0_0, .slice A0_1 l0_1.length c0_1] 25 (0, 0)) (qf BK116.out) hb); have n5_ := q0 (blk_below (g := gb132) (o := .cells #[.int .i64 t109, .slice Ao151 t118.length co151] 30 (0, 0)) (by (with_reducible repeat (first | refine blk_drewN ?_ _ | refine blk_drew ?_ | refine blk_alloc ?_ _)); refine blk_put (cs := #[.int .i64 t109, .slice none 0 0]) ?_ 1 _ rfl; (with_reducible repeat (first | refine blk_drewN ?_ _ | refine blk_drew ?_ | refine blk_alloc ?_ _)); refine blk_put (cs := #[.int .i64 0, .slice none 0 0]) ?_ 0 _ rfl; (with_reducible repeat (first | refine blk_drewN ?_ _ | refine blk_drew ?_ | refine blk_alloc ?_ _)); exact BK132.out) hb); have n6_ := q0 (below_step (qb HB.out) hb); clear HO127 HO129 HO131 BK116 BK132 HB; have HO127 := n0_; have HO129 := n1_; have HO131 := n2_; have HO134 := n3_; have BK116 := n4_; have BK132 := n5_; have HB := n6_; clear n0_ n1_ n2_ n3_ n4_ n5_ n6_; (try clear hb); (try clear hb2); (try clear hk); (try clear hi); (try clear ho0); obtain ⟨Ao153, co153, eo153⟩ := Kd.R_slice HO134.out; subst eo153; obtain ⟨Ao154, co154, eo154⟩ := Kd.R_slice HO129.out; subst eo154) | ((with_reducible refine gate_callee (f := 44) rfl ?_); refine goesL_ (some 25) rfl rfl Try.func44 (by kernel_rfl) rfl #[.slice Ao153 t110.length co153, .slice Ao154 t108.length co154] rfl qm ?_; (with_reducible refine (laws_eqTieS.calls k _ _ t110 _ _ t108 true _ ?side1 ?side2 ?side3 ?side4 A11.out).mono ?_); (case side1 => exact qc (Kd.R_reads' HO134.out).2.2); (case side2 => exact (Kd.R_reads' HO134.out).2.1); (case side3 => exact qc (Kd.R_reads' HO129.out).2.2); (case side4 => exact (Kd.R_reads' HO129.out).2.1); rintro e w155 ⟨rfl, hb⟩; refine ⟨_, rfl, ?_⟩; have n0_ := q0 (Kd.R_below (qr HO127.out) hb); have n1_ := q0 (Kd.R_below (qr HO129.out) hb); have n2_ := q0 (Kd.R_below (qr HO131.out) hb); have n3_ := q0 (Kd.R_below (qr HO134.out) hb); have n4_ := q0 (kb BK116.out hb); have n5_ := q0 (kb BK132.out hb); have n6_ := q0 (below_step (qb HB.out) hb); clear HO127 HO129 HO131 HO134 BK116 BK132 HB; have HO127 := n0_; have HO129 := n1_; have HO131 := n2_; have HO134 := n3_; have BK116 := n4_; have BK132 := n5_; have HB := n6_; clear n0_ n1_ n2_ n3_ n4_ n5_ n6_; (try clear hb); (try clear hb2); (try clear hk); (try clear hi)))
   have n0_ := q0 (Kd.R_drew HO127.out)
   have n1_ := q0 (Kd.R_drew HO129.out)
   have n2_ := q0 (Kd.R_drew HO131.out)
   have n3_ := q0 (Kd.R_drew HO134.out)
   have n4_ := q0 (blk_drew BK116.out)
   have n5_ := q0 (blk_drew BK132.out)
   have n6_ := q0 (below_drew1 HB.out)
   clear HO127
   clear HO129
   clear HO131
   clear HO134
   clear BK116
   clear BK132
   clear HB
   have HO127 := n0_
   have HO129 := n1_
   have HO131 := n2_
   have HO134 := n3_
   have BK116 := n4_
   have BK132 := n5_
   have HB := n6_
   clear n0_ n1_ n2_ n3_ n4_ n5_ n6_
   refine start_ (n := 5) (S := fun w' => w'.cell? ⟨gb132, 0, none⟩ = some (.int .i64 t109) ∧ w'.cell? ⟨gb132, 1, none⟩ = some (.slice Ao151 t118.length co151) ∧ w'.cell? ⟨gb116, 0, none⟩ = some (.int .i64 a0_0) ∧ w'.cell? ⟨gb116, 1, none⟩ = some (.slice A0_1 l0_1.length c0_1)) (ds := []) (ba 5 0) (by kernel_rfl) rfl (by kernel_rfl) ⟨(blk_cell BK132.out 0).trans rfl, (blk_cell BK132.out 1).trans rfl, (blk_cell BK116.out 0).trans rfl, (blk_cell BK116.out 1).trans rfl⟩ (fun hHeld => ?_)
   generalize w155.drew = w156 at HO127 HO129 HO131 HO134 BK116 BK132 HB hHeld ⊢
   refine tw 0 (some 27) (ba 5 1) hHeld ?_
   refine tw 1 (some 28) (ba 5 3) hHeld ?_
   refine one_ (i := 2) (N := some 29) (ba 5 7) rfl rfl (by kernel_rfl) (by decide) (fun K hK => ?_)
   refine goes_ Try.func16 (by kernel_rfl) rfl #[.agg #[.int .i64 a0_0, .slice A0_1 l0_1.length c0_1]] (by rfl) rfl rfl qm ?_
   with_reducible refine (laws_toNet.calls k a0_0 _ _ l0_1 t112 t121 _ ?side1 ?side2 A13.out).mono ?_
   (case side1 => exact qc (Kd.C_below HR0_1.out HB.out))
   (case side2 => exact HC0_1.out)
   rintro e w157 ⟨v135, rfl, ho0, hb⟩
   refine ⟨_, rfl, ?_⟩
   have n0_ := q0 (Kd.R_elder' (qr HO127.out) (Kd.R_base ho0) hb)
   have n1_ := q0 (Kd.R_elder' (qr HO129.out) (Kd.R_base ho0) hb)
   have n2_ := q0 (Kd.R_elder' (qr HO131.out) (Kd.R_base ho0) hb)
   have n3_ := q0 (Kd.R_elder' (qr HO134.out) (Kd.R_base ho0) hb)
   have n4_ := q0 (Kd.R_lower (Kd.R_new' (Kd.R_new' (Kd.R_new' (Kd.R_new' ho0 (Kd.R_lt (qr HO127.out))) (Kd.R_lt (qr HO129.out))) (Kd.R_lt (qr HO131.out))) (Kd.R_lt (qr HO134.out))) (below_size (qb HB.out)))
   have n5_ := q0 (kb BK116.out hb)
   have n6_ := q0 (kb BK132.out hb)
   have n7_ := q0 (below_step (qb HB.out) hb)
   clear HO127
   clear HO129
   clear HO131
   clear HO134
   clear BK116
   clear BK132
   clear HB
   have HO127 := n0_
   have HO129 := n1_
   have HO131 := n2_
   have HO134 := n3_
   have HO136 := n4_
   have BK116 := n5_
   have BK132 := n6_
   have HB := n7_
   clear n0_ n1_ n2_ n3_ n4_ n5_ n6_ n7_
   (try clear hb)
   (try clear hb2)
   (try clear hk)
   (try clear hi)
   (try clear ho0)
   obtain ⟨Ao158, co158, eo158⟩ := Kd.R_slice HO136.out
   (first | subst eo158 | (injection eo158 with f1_ f2_ f3_; have f4_ := f1_.symm; have f5_ := f3_.symm; clear f1_ f2_ f3_; subst f4_; subst f5_))
   refine hK.out _ _ ⟨(blk_cell BK132.out 0).trans rfl, (blk_cell BK132.out 1).trans rfl, (blk_cell BK116.out 0).trans rfl, (blk_cell BK116.out 1).trans rfl⟩ (fun hHeld => ?_)
   clear hK K
   refine nu 29 ?_
   refine one_ (i := 3) (N := some 30) (ba 5 15) rfl rfl (by kernel_rfl) (by decide) (fun K hK => ?_)
   refine goes_ Try.func18 (by kernel_rfl) rfl #[.agg #[.int .i64 t109, .slice Ao151 t118.length co151], .agg #[.int .i64 t112, .slice Ao158 t121.length co158]] (by rfl) rfl rfl qm ?_
   with_reducible refine (laws_eqNet.calls k t109 _ _ t118 t112 _ _ t121 false _ ?side1 ?side2 ?side3 ?side4 A14.out).mono ?_
   (case side1 => exact qc (Kd.R_reads' HO131.out).2.2)
   (case side2 => exact (Kd.R_reads' HO131.out).2.1)
   (case side3 => exact qc (Kd.R_reads' HO136.out).2.2)
   (case side4 => exact (Kd.R_reads' HO136.out).2.1)
   rintro e w120 ⟨rfl, hb⟩
   refine ⟨_, rfl, ?_⟩
   have n0_ := q0 (Kd.R_below (qr HO127.out) hb)
   have n1_ := q0 (Kd.R_below (qr HO129.out) hb)
   have n2_ := q0 (Kd.R_below (qr HO131.out) hb)
   have n3_ := q0 (Kd.R_below (qr HO134.out) hb)
   have n4_ := q0 (Kd.R_below (qr HO136.out) hb)
   have n5_ := q0 (kb BK116.out hb)
   have n6_ := q0 (kb BK132.out hb)
   have n7_ := q0 (below_step (qb HB.out) hb)
   clear HO127
   clear HO129
   clear HO131
   clear HO134
   clear HO136
   clear BK116
   clear BK132
   clear HB
   have HO127 := n0_
   have HO129 := n1_
   have HO131 := n2_
   have HO134 := n3_
   have HO136 := n4_
   have BK116 := n5_
   have BK132 := n6_
   have HB := n7_
   clear n0_ n1_ n2_ n3_ n4_ n5_ n6_ n7_
   (try clear hb)
   (try clear hb2)
   (try clear hk)
   (try clear hi)
   refine hK.out _ _ ⟨(blk_cell BK132.out 0).trans rfl, (blk_cell BK132.out 1).trans rfl, (blk_cell BK116.out 0).trans rfl, (blk_cell BK116.out 1).trans rfl⟩ (fun hHeld => ?_)
   clear hK K
   refine nu 30 ?_
   refine pw 4 (some 31) (ba 5 31) ?_
   refine done_ (by kernel_rfl) ?_
   try go_wp2
   go_ret
   exact ⟨qe, qb HB.out⟩
 subst c15
 have H1 : ((laws_markNet.f k t109 t118 1).bind fun bt114 => (if bt114.1 < 0 then (laws_FnExactTreeOf.j0 k t108 t110 true a0_0 l0_1) else ((laws_eqTieS.f k t110 t108).bind fun t115 => (laws_FnExactTreeOf.j0 k t108 t110 (!t115) a0_0 l0_1)))) = some r := by rw [if_pos rfl] at H; exact H
 clear H
 have H := H1
 clear H1
 replace H := Option.bind_eq_some_iff.mp H
 obtain ⟨⟨t114, t124⟩, A125, H⟩ := H
 replace H : (if t114 < 0 then (laws_FnExactTreeOf.j0 k t108 t110 true a0_0 l0_1) else ((laws_eqTieS.f k t110 t108).bind fun t115 => (laws_FnExactTreeOf.j0 k t108 t110 (!t115) a0_0 l0_1))) = some r := H
 have A16 := Aside0.mk A125
 clear A125
 have HC17 := Aside0.mk H
 clear H
 go_enter Try.func13, Try.ntmps13
 try go_wp2_with (first | ((with_reducible refine gate_dst (N := 1) rfl ?_); refine be 1 #[.int .i64 a0_0, .slice A0_1 l0_1.length c0_1] 25 ?_; intro gb116 hg w18 hbox hb; have n0_ := q0 (below_step (qb HB.out) hb); have n1_ := q0 (hbox); have n2_ := q0 ((bs HB.out hg : w.heap.size ≤ gb116)); have n3_ := q0 ((bs HB.out hg : w.heap.size ≤ gb116)); clear HB; have HB := n0_; have BK116 := n1_; have GW116 := n2_; have GE116 := n3_; clear n0_ n1_ n2_ n3_ hb hbox hg; have hcz19_0 : w18.cell? ⟨gb116, 0, none⟩ = some (.int .i64 a0_0) := (blk_cell BK116.out 0).trans rfl; have hcz19_1 : w18.cell? ⟨gb116, 1, none⟩ = some (.slice A0_1 l0_1.length c0_1) := (blk_cell BK116.out 1).trans rfl; have hfz19_0 := blk_frozen BK116.out 0; have hfz19_1 := blk_frozen BK116.out 1) | ((with_reducible refine gate_callee (f := 14) rfl ?_); refine goesL_ (some 13) rfl rfl Try.func14 (by kernel_rfl) rfl #[.agg #[.int .i64 a0_0, .slice A0_1 l0_1.length c0_1], .int .i64 1048576] rfl qm ?_; (with_reducible refine (laws_szNet.calls a0_0 _ _ l0_1 1048576 t100 _ ?side1 ?side2 A2.out).mono ?_); (case side1 => exact qc (Kd.C_below HR0_1.out HB.out)); (case side2 => exact HC0_1.out); rintro e w20 ⟨rfl, hb⟩; refine ⟨_, rfl, ?_⟩; have n0_ := q0 (kb BK116.out hb); have n1_ := q0 (below_step (qb HB.out) hb); clear BK116 HB; have BK116 := n0_; have HB := n1_; clear n0_ n1_; (try clear hb); (try clear hb2); (try clear hk); (try clear hi); have hcz21_0 : w20.cell? ⟨gb116, 0, none⟩ = some (.int .i64 a0_0) := (blk_cell BK116.out 0).trans rfl; have hcz21_1 : w20.cell? ⟨gb116, 1, none⟩ = some (.slice A0_1 l0_1.length c0_1) := (blk_cell BK116.out 1).trans rfl; have hfz21_0 := blk_frozen BK116.out 0; have hfz21_1 := blk_frozen BK116.out 1) | ((with_reducible refine gate_callee (f := 16) rfl ?_); refine goesL_ (some 17) rfl rfl Try.func16 (by kernel_rfl) rfl #[.agg #[.int .i64 a0_0, .slice A0_1 l0_1.length c0_1]] rfl qm ?_; (with_reducible refine (laws_toNet.calls k a0_0 _ _ l0_1 t107 t117 _ ?side1 ?side2 A7.out).mono ?_); (case side1 => exact qc (Kd.C_below HR0_1.out HB.out)); (case side2 => exact HC0_1.out); rintro e w22 ⟨v126, rfl, ho0, hb⟩; refine ⟨_, rfl, ?_⟩; have n0_ := q0 (Kd.R_lower ho0 (below_size (qb HB.out))); have n1_ := q0 (kb BK116.out hb); have n2_ := q0 (below_step (qb HB.out) hb); clear BK116 HB; have HO127 := n0_; have BK116 := n1_; have HB := n2_; clear n0_ n1_ n2_; (try clear hb); (try clear hb2); (try clear hk); (try clear hi); (try clear ho0); obtain ⟨Ao23, co23, eo23⟩ := Kd.R_slice HO127.out; subst eo23) | ((with_reducible refine gate_callee (f := 42) rfl ?_); refine goesL_ (some 18) rfl rfl Try.func42 (by kernel_rfl) rfl #[.agg #[.int .i64 t107, .slice Ao23 t117.length co23]] rfl qm ?_; (with_reducible refine (spec_TreeOf.calls k t107 _ _ t117 t108 _ ?side1 ?side2 A8.out).mono ?_); (case side1 => exact qc (Kd.R_reads' HO127.out).2.2); (case side2 => exact (Kd.R_reads' HO127.out).2.1); rintro e w24 ⟨v128, rfl, ho0, hb⟩; refine ⟨_, rfl, ?_⟩; have n0_ := q0 (Kd.R_elder' (qr HO127.out) (Kd.R_base ho0) hb); have n1_ := q0 (Kd.R_lower (Kd.R_new' ho0 (Kd.R_lt (qr HO127.out))) (below_size (qb HB.out))); have n2_ := q0 (kb BK116.out hb); have n3_ := q0 (below_step (qb HB.out) hb); clear HO127 BK116 HB; have HO127 := n0_; have HO129 := n1_; have BK116 := n2_; have HB := n3_; clear n0_ n1_ n2_ n3_; (try clear hb); (try clear hb2); (try clear hk); (try clear hi); (try clear ho0); have hcz25_0 : w24.cell? ⟨gb116, 0, none⟩ = some (.int .i64 a0_0) := (blk_cell BK116.out 0).trans rfl; have hcz25_1 : w24.cell? ⟨gb116, 1, none⟩ = some (.slice A0_1 l0_1.length c0_1) := (blk_cell BK116.out 1).trans rfl; have hfz25_0 := blk_frozen BK116.out 0; have hfz25_1 := blk_frozen BK116.out 1) | ((with_reducible refine gate_callee (f := 16) rfl ?_); refine goesL_ (some 20) rfl rfl Try.func16 (by kernel_rfl) rfl #[.agg #[.int .i64 a0_0, .slice A0_1 l0_1.length c0_1]] rfl qm ?_; (with_reducible refine (laws_toNet.calls k a0_0 _ _ l0_1 t109 t118 _ ?side1 ?side2 A9.out).mono ?_); (case side1 => exact qc (Kd.C_below HR0_1.out HB.out)); (case side2 => exact HC0_1.out); rintro e w26 ⟨v130, rfl, ho0, hb⟩; refine ⟨_, rfl, ?_⟩; have n0_ := q0 (Kd.R_elder' (qr HO127.out) (Kd.R_base ho0) hb); have n1_ := q0 (Kd.R_elder' (qr HO129.out) (Kd.R_base ho0) hb); have n2_ := q0 (Kd.R_lower (Kd.R_new' (Kd.R_new' ho0 (Kd.R_lt (qr HO127.out))) (Kd.R_lt (qr HO129.out))) (below_size (qb HB.out))); have n3_ := q0 (kb BK116.out hb); have n4_ := q0 (below_step (qb HB.out) hb); clear HO127 HO129 BK116 HB; have HO127 := n0_; have HO129 := n1_; have HO131 := n2_; have BK116 := n3_; have HB := n4_; clear n0_ n1_ n2_ n3_ n4_; (try clear hb); (try clear hb2); (try clear hk); (try clear hi); (try clear ho0)) | ((with_reducible refine gate_dst (N := 5) rfl ?_); refine be 5 #[.int .i64 0, .slice none 0 0] 30 ?_; intro gb132 hg w27 hbox hb; have n0_ := q0 (Kd.R_below (qr HO127.out) hb); have n1_ := q0 (Kd.R_below (qr HO129.out) hb); have n2_ := q0 (Kd.R_below (qr HO131.out) hb); have n3_ := q0 (kb BK116.out hb); have n4_ := q0 (below_step (qb HB.out) hb); have n5_ := q0 (hbox); have n6_ := q0 ((bs HB.out hg : w.heap.size ≤ gb132)); have n7_ := q0 ((bs HB.out hg : w.heap.size ≤ gb132)); have n8_ := q0 ((bl BK116.out hg : gb116 ≠ gb132)); have n9_ := q0 ((bg BK116.out hg : gb132 ≠ gb116)); clear HO127 HO129 HO131 BK116 HB; have HO127 := n0_; have HO129 := n1_; have HO131 := n2_; have BK116 := n3_; have HB := n4_; have BK132 := n5_; have GW132 := n6_; have GE132 := n7_; have NB116_132 := n8_; have NB132_116 := n9_; clear n0_ n1_ n2_ n3_ n4_ n5_ n6_ n7_ n8_ n9_ hb hbox hg; have hnb28 := NB132_116.out; have hnc28 := NB116_132.out; have hcz29_0 : w27.cell? ⟨gb132, 0, none⟩ = some (.int .i64 0) := (blk_cell BK132.out 0).trans rfl; have hcz29_1 : w27.cell? ⟨gb132, 1, none⟩ = some (.slice none 0 0) := (blk_cell BK132.out 1).trans rfl; have hfz29_0 := blk_frozen BK132.out 0; have hfz29_1 := blk_frozen BK132.out 1; obtain ⟨Ao30, co30, eo30⟩ := Kd.R_slice HO131.out; subst eo30) | ((with_reducible refine gate_callee (f := 43) rfl ?_); refine goesL_ (some 22) rfl rfl Try.func43 (by kernel_rfl) rfl #[.agg #[.int .i64 t109, .slice Ao30 t118.length co30]] rfl qm ?_; (with_reducible refine (impl_TreeOf.calls k t109 _ _ t118 t110 _ ?side1 ?side2 A10.out).mono ?_); (case side1 => refine (Kd.R_reads' (e := 54) (base := w.heap.size) (ok := fun k_ => ((True ∧ some k_ ≠ (.slice Ao23 t117.length co23 : Value).ownBlock) ∧ some k_ ≠ (v128 : Value).ownBlock)) (n := t118.length) (c := co30) ?_).2.2; exact (by (with_reducible repeat (first | apply Kd.R_alloc | apply Kd.R_drewN | apply Kd.R_drew)); exact (Kd.R_mono (Kd.R_far (p := ⟨gb132, 1, none⟩) (Kd.R_far (p := ⟨gb132, 0, none⟩) (Kd.R_types HO131.out BK132.out (by decide)) (fun _ hk => hk.2) (.int .i64 t109)) (fun _ hk => hk.2) (.slice Ao30 t118.length co30)) (fun _ h_ => h_.1)))); (case side2 => exact (Kd.R_reads' HO131.out).2.1); rintro e w31 ⟨v133, rfl, ho0, hb⟩; refine ⟨_, rfl, ?_⟩; have n0_ := q0 (Kd.R_elder' (by (with_reducible repeat (first | apply Kd.R_alloc | apply Kd.R_drewN | apply Kd.R_drew)); exact (Kd.R_mono (Kd.R_far (p := ⟨gb132, 1, none⟩) (Kd.R_far (p := ⟨gb132, 0, none⟩) (Kd.R_types HO127.out BK132.out (by decide)) (fun _ hk => hk.2) (.int .i64 t109)) (fun _ hk => hk.2) (.slice Ao30 t118.length co30)) (fun _ h_ => h_.1))) (Kd.R_base ho0) hb); have n1_ := q0 (Kd.R_elder' (by (with_reducible repeat (first | apply Kd.R_alloc | apply Kd.R_drewN | apply Kd.R_drew)); exact (Kd.R_mono (Kd.R_far (p := ⟨gb132, 1, none⟩) (Kd.R_far (p := ⟨gb132, 0, none⟩) (Kd.R_types HO129.out BK132.out (by decide)) (fun _ hk => hk.2) (.int .i64 t109)) (fun _ hk => hk.2) (.slice Ao30 t118.length co30)) (fun _ h_ => h_.1))) (Kd.R_base ho0) hb); have n2_ := q0 (Kd.R_elder' (by (with_reducible repeat (first | apply Kd.R_alloc | apply Kd.R_drewN | apply Kd.R_drew)); exact (Kd.R_mono (Kd.R_far (p := ⟨gb132, 1, none⟩) (Kd.R_far (p := ⟨gb132, 0, none⟩) (Kd.R_types HO131.out BK132.out (by decide)) (fun _ hk => hk.2) (.int .i64 t109)) (fun _ hk => hk.2) (.slice Ao30 t118.length co30)) (fun _ h_ => h_.1))) (Kd.R_base ho0) hb); have n3_ := q0 (Kd.R_lower (Kd.R_new' (Kd.R_new' (Kd.R_new' ho0 (Kd.R_lt (by (with_reducible repeat (first | apply Kd.R_alloc | apply Kd.R_drewN | apply Kd.R_drew)); exact (Kd.R_mono (Kd.R_far (p := ⟨gb132, 1, none⟩) (Kd.R_far (p := ⟨gb132, 0, none⟩) (Kd.R_types HO127.out BK132.out (by decide)) (fun _ hk => hk.2) (.int .i64 t109)) (fun _ hk => hk.2) (.slice Ao30 t118.length co30)) (fun _ h_ => h_.1))))) (Kd.R_lt (by (with_reducible repeat (first | apply Kd.R_alloc | apply Kd.R_drewN | apply Kd.R_drew)); exact (Kd.R_mono (Kd.R_far (p := ⟨gb132, 1, none⟩) (Kd.R_far (p := ⟨gb132, 0, none⟩) (Kd.R_types HO129.out BK132.out (by decide)) (fun _ hk => hk.2) (.int .i64 t109)) (fun _ hk => hk.2) (.slice Ao30 t118.length co30)) (fun _ h_ => h_.1))))) (Kd.R_lt (by (with_reducible repeat (first | apply Kd.R_alloc | apply Kd.R_drewN | apply Kd.R_drew)); exact (Kd.R_mono (Kd.R_far (p := ⟨gb132, 1, none⟩) (Kd.R_far (p := ⟨gb132, 0, none⟩) (Kd.R_types HO131.out BK132.out (by decide)) (fun _ hk => hk.2) (.int .i64 t109)) (fun _ hk => hk.2) (.slice Ao30 t118.length co30)) (fun _ h_ => h_.1))))) (below_size (qb HB.out))); have n4_ := q0 (blk_below (g := gb116) (o := .cells #[.int .i64 a0_0, .slice A0_1 l0_1.length c0_1] 25 (0, 0)) (qf BK116.out) hb); have n5_ := q0 (blk_below (g := gb132) (o := .cells #[.int .i64 t109, .slice Ao30 t118.length co30] 30 (0, 0)) (by (with_reducible repeat (first | refine blk_drewN ?_ _ | refine blk_drew ?_ | refine blk_alloc ?_ _)); refine blk_put (cs := #[.int .i64 t109, .slice none 0 0]) ?_ 1 _ rfl; (with_reducible repeat (first | refine blk_drewN ?_ _ | refine blk_drew ?_ | refine blk_alloc ?_ _)); refine blk_put (cs := #[.int .i64 0, .slice none 0 0]) ?_ 0 _ rfl; (with_reducible repeat (first | refine blk_drewN ?_ _ | refine blk_drew ?_ | refine blk_alloc ?_ _)); exact BK132.out) hb); have n6_ := q0 (below_step (qb HB.out) hb); clear HO127 HO129 HO131 BK116 BK132 HB; have HO127 := n0_; have HO129 := n1_; have HO131 := n2_; have HO134 := n3_; have BK116 := n4_; have BK132 := n5_; have HB := n6_; clear n0_ n1_ n2_ n3_ n4_ n5_ n6_; (try clear hb); (try clear hb2); (try clear hk); (try clear hi); (try clear ho0); obtain ⟨Ao32, co32, eo32⟩ := Kd.R_slice HO134.out; subst eo32; obtain ⟨Ao33, co33, eo33⟩ := Kd.R_slice HO129.out; subst eo33) | ((with_reducible refine gate_callee (f := 44) rfl ?_); refine goesL_ (some 25) rfl rfl Try.func44 (by kernel_rfl) rfl #[.slice Ao32 t110.length co32, .slice Ao33 t108.length co33] rfl qm ?_; (with_reducible refine (laws_eqTieS.calls k _ _ t110 _ _ t108 true _ ?side1 ?side2 ?side3 ?side4 A11.out).mono ?_); (case side1 => exact qc (Kd.R_reads' HO134.out).2.2); (case side2 => exact (Kd.R_reads' HO134.out).2.1); (case side3 => exact qc (Kd.R_reads' HO129.out).2.2); (case side4 => exact (Kd.R_reads' HO129.out).2.1); rintro e w34 ⟨rfl, hb⟩; refine ⟨_, rfl, ?_⟩; have n0_ := q0 (Kd.R_below (qr HO127.out) hb); have n1_ := q0 (Kd.R_below (qr HO129.out) hb); have n2_ := q0 (Kd.R_below (qr HO131.out) hb); have n3_ := q0 (Kd.R_below (qr HO134.out) hb); have n4_ := q0 (kb BK116.out hb); have n5_ := q0 (kb BK132.out hb); have n6_ := q0 (below_step (qb HB.out) hb); clear HO127 HO129 HO131 HO134 BK116 BK132 HB; have HO127 := n0_; have HO129 := n1_; have HO131 := n2_; have HO134 := n3_; have BK116 := n4_; have BK132 := n5_; have HB := n6_; clear n0_ n1_ n2_ n3_ n4_ n5_ n6_; (try clear hb); (try clear hb2); (try clear hk); (try clear hi)))
 have n0_ := q0 (Kd.R_drew HO127.out)
 have n1_ := q0 (Kd.R_drew HO129.out)
 have n2_ := q0 (Kd.R_drew HO131.out)
 have n3_ := q0 (Kd.R_drew HO134.out)
 have n4_ := q0 (blk_drew BK116.out)
 have n5_ := q0 (blk_drew BK132.out)
 have n6_ := q0 (below_drew1 HB.out)
 clear HO127
 clear HO129
 clear HO131
 clear HO134
 clear BK116
 clear BK132
 clear HB
 have HO127 := n0_
 have HO129 := n1_
 have HO131 := n2_
 have HO134 := n3_
 have BK116 := n4_
 have BK132 := n5_
 have HB := n6_
 clear n0_ n1_ n2_ n3_ n4_ n5_ n6_
 refine start_ (n := 5) (S := fun w' => w'.cell? ⟨gb132, 0, none⟩ = some (.int .i64 t109) ∧ w'.cell? ⟨gb132, 1, none⟩ = some (.slice Ao30 t118.length co30) ∧ w'.cell? ⟨gb116, 0, none⟩ = some (.int .i64 a0_0) ∧ w'.cell? ⟨gb116, 1, none⟩ = some (.slice A0_1 l0_1.length c0_1)) (ds := []) (ba 5 0) (by kernel_rfl) rfl (by kernel_rfl) ⟨(blk_cell BK132.out 0).trans rfl, (blk_cell BK132.out 1).trans rfl, (blk_cell BK116.out 0).trans rfl, (blk_cell BK116.out 1).trans rfl⟩ (fun hHeld => ?_)
 generalize w34.drew = w35 at HO127 HO129 HO131 HO134 BK116 BK132 HB hHeld ⊢
 refine tw 0 (some 27) (ba 5 1) hHeld ?_
 refine tw 1 (some 28) (ba 5 3) hHeld ?_
 refine one_ (i := 2) (N := some 29) (ba 5 7) rfl rfl (by kernel_rfl) (by decide) (fun K hK => ?_)
 refine goes_ Try.func16 (by kernel_rfl) rfl #[.agg #[.int .i64 a0_0, .slice A0_1 l0_1.length c0_1]] (by rfl) rfl rfl qm ?_
 with_reducible refine (laws_toNet.calls k a0_0 _ _ l0_1 t112 t121 _ ?side1 ?side2 A13.out).mono ?_
 (case side1 => exact qc (Kd.C_below HR0_1.out HB.out))
 (case side2 => exact HC0_1.out)
 rintro e w36 ⟨v135, rfl, ho0, hb⟩
 refine ⟨_, rfl, ?_⟩
 have n0_ := q0 (Kd.R_elder' (qr HO127.out) (Kd.R_base ho0) hb)
 have n1_ := q0 (Kd.R_elder' (qr HO129.out) (Kd.R_base ho0) hb)
 have n2_ := q0 (Kd.R_elder' (qr HO131.out) (Kd.R_base ho0) hb)
 have n3_ := q0 (Kd.R_elder' (qr HO134.out) (Kd.R_base ho0) hb)
 have n4_ := q0 (Kd.R_lower (Kd.R_new' (Kd.R_new' (Kd.R_new' (Kd.R_new' ho0 (Kd.R_lt (qr HO127.out))) (Kd.R_lt (qr HO129.out))) (Kd.R_lt (qr HO131.out))) (Kd.R_lt (qr HO134.out))) (below_size (qb HB.out)))
 have n5_ := q0 (kb BK116.out hb)
 have n6_ := q0 (kb BK132.out hb)
 have n7_ := q0 (below_step (qb HB.out) hb)
 clear HO127
 clear HO129
 clear HO131
 clear HO134
 clear BK116
 clear BK132
 clear HB
 have HO127 := n0_
 have HO129 := n1_
 have HO131 := n2_
 have HO134 := n3_
 have HO136 := n4_
 have BK116 := n5_
 have BK132 := n6_
 have HB := n7_
 clear n0_ n1_ n2_ n3_ n4_ n5_ n6_ n7_
 (try clear hb)
 (try clear hb2)
 (try clear hk)
 (try clear hi)
 (try clear ho0)
 obtain ⟨Ao37, co37, eo37⟩ := Kd.R_slice HO136.out
 (first | subst eo37 | (injection eo37 with f1_ f2_ f3_; have f4_ := f1_.symm; have f5_ := f3_.symm; clear f1_ f2_ f3_; subst f4_; subst f5_))
 refine hK.out _ _ ⟨(blk_cell BK132.out 0).trans rfl, (blk_cell BK132.out 1).trans rfl, (blk_cell BK116.out 0).trans rfl, (blk_cell BK116.out 1).trans rfl⟩ (fun hHeld => ?_)
 clear hK K
 refine nu 29 ?_
 refine one_ (i := 3) (N := some 30) (ba 5 15) rfl rfl (by kernel_rfl) (by decide) (fun K hK => ?_)
 refine goes_ Try.func18 (by kernel_rfl) rfl #[.agg #[.int .i64 t109, .slice Ao30 t118.length co30], .agg #[.int .i64 t112, .slice Ao37 t121.length co37]] (by rfl) rfl rfl qm ?_
 with_reducible refine (laws_eqNet.calls k t109 _ _ t118 t112 _ _ t121 true _ ?side1 ?side2 ?side3 ?side4 A14.out).mono ?_
 (case side1 => exact qc (Kd.R_reads' HO131.out).2.2)
 (case side2 => exact (Kd.R_reads' HO131.out).2.1)
 (case side3 => exact qc (Kd.R_reads' HO136.out).2.2)
 (case side4 => exact (Kd.R_reads' HO136.out).2.1)
 rintro e w38 ⟨rfl, hb⟩
 refine ⟨_, rfl, ?_⟩
 have n0_ := q0 (Kd.R_below (qr HO127.out) hb)
 have n1_ := q0 (Kd.R_below (qr HO129.out) hb)
 have n2_ := q0 (Kd.R_below (qr HO131.out) hb)
 have n3_ := q0 (Kd.R_below (qr HO134.out) hb)
 have n4_ := q0 (Kd.R_below (qr HO136.out) hb)
 have n5_ := q0 (kb BK116.out hb)
 have n6_ := q0 (kb BK132.out hb)
 have n7_ := q0 (below_step (qb HB.out) hb)
 clear HO127
 clear HO129
 clear HO131
 clear HO134
 clear HO136
 clear BK116
 clear BK132
 clear HB
 have HO127 := n0_
 have HO129 := n1_
 have HO131 := n2_
 have HO134 := n3_
 have HO136 := n4_
 have BK116 := n5_
 have BK132 := n6_
 have HB := n7_
 clear n0_ n1_ n2_ n3_ n4_ n5_ n6_ n7_
 (try clear hb)
 (try clear hb2)
 (try clear hk)
 (try clear hi)
 refine hK.out _ _ ⟨(blk_cell BK132.out 0).trans rfl, (blk_cell BK132.out 1).trans rfl, (blk_cell BK116.out 0).trans rfl, (blk_cell BK116.out 1).trans rfl⟩ (fun hHeld => ?_)
 clear hK K
 refine nu 30 ?_
 refine pw 4 (some 31) (ba 5 31) ?_
 refine done_ (by kernel_rfl) ?_
 have hcz39_0 : w38.cell? ⟨gb132, 0, none⟩ = some (.int .i64 t109) := (blk_cell BK132.out 0).trans rfl
 have hcz39_1 : w38.cell? ⟨gb132, 1, none⟩ = some (.slice Ao30 t118.length co30) := (blk_cell BK132.out 1).trans rfl
 have hfz39_0 := blk_frozen BK132.out 0
 have hfz39_1 := blk_frozen BK132.out 1
 go_upto_region 14 with (first | ((with_reducible refine gate_callee (f := 23) rfl ?_); refine goesL_ (some 34) rfl rfl Try.func23 (by kernel_rfl) rfl #[.agg #[.int .i64 t109, .slice Ao30 t118.length co30], .int .i64 1] rfl qm ?_; (with_reducible refine (laws_markNet.calls k t109 (fun k_ => some k_ = (.slice Ao30 t118.length co30 : Value).ownBlock) (.slice Ao30 t118.length co30) t118 1 t114 t124 w _ ?side1 ?side2 A16.out).mono ?_); (case side1 => exact qb HB.out); (case side2 => exact Kd.R_tight rfl HO131.out); rintro e w40 ⟨rfl, hy0, hb, hkp⟩; refine ⟨_, rfl, ?_⟩; have n0_ := q0 (blk_kept (qk BK116.out) hkp (fun hs_ => (fun e_ => (Kd.R_ne HO131.out BK116.out (by decide)) e_) hs_)); have n1_ := q0 (Kd.R_mono (ok' := fun k_ => some k_ ≠ (.slice Ao33 t108.length co33 : Value).ownBlock ∧ some k_ ≠ (.slice Ao30 t118.length co30 : Value).ownBlock ∧ some k_ ≠ (.slice Ao32 t110.length co32 : Value).ownBlock ∧ some k_ ≠ (.slice Ao37 t121.length co37 : Value).ownBlock) (Kd.R_keptB (HO127.out) hkp (fun k_ hk_ hs_ => (hk_.1.1.2) hs_)) (fun k_ hk_ => ⟨hk_.1.1.1.1.2, hk_.1.1.1.2, hk_.1.1.2, hk_.1.2⟩)); have n2_ := q0 (Kd.R_mono (ok' := fun k_ => some k_ ≠ (.slice Ao23 t117.length co23 : Value).ownBlock ∧ some k_ ≠ (.slice Ao30 t118.length co30 : Value).ownBlock ∧ some k_ ≠ (.slice Ao32 t110.length co32 : Value).ownBlock ∧ some k_ ≠ (.slice Ao37 t121.length co37 : Value).ownBlock) (Kd.R_keptB (HO129.out) hkp (fun k_ hk_ hs_ => (hk_.1.1.2) hs_)) (fun k_ hk_ => ⟨hk_.1.1.1.1.2, hk_.1.1.1.2, hk_.1.1.2, hk_.1.2⟩)); have n3_ := q0 (Kd.R_reok rfl hy0 (fun k_ e_ => HO131.out.1 k_ e_)); have n4_ := q0 (blk_kept (qk BK132.out) hkp (fun hs_ => (fun e_ => (Kd.R_ne HO131.out BK132.out (by decide)) e_) hs_)); have n5_ := q0 (Kd.R_mono (ok' := fun k_ => some k_ ≠ (.slice Ao23 t117.length co23 : Value).ownBlock ∧ some k_ ≠ (.slice Ao33 t108.length co33 : Value).ownBlock ∧ some k_ ≠ (.slice Ao30 t118.length co30 : Value).ownBlock ∧ some k_ ≠ (.slice Ao37 t121.length co37 : Value).ownBlock) (Kd.R_keptB (HO134.out) hkp (fun k_ hk_ hs_ => (hk_.1.2) hs_)) (fun k_ hk_ => ⟨hk_.1.1.1.1.2, hk_.1.1.1.2, hk_.1.1.2, hk_.1.2⟩)); have n6_ := q0 (Kd.R_mono (ok' := fun k_ => some k_ ≠ (.slice Ao23 t117.length co23 : Value).ownBlock ∧ some k_ ≠ (.slice Ao33 t108.length co33 : Value).ownBlock ∧ some k_ ≠ (.slice Ao30 t118.length co30 : Value).ownBlock ∧ some k_ ≠ (.slice Ao32 t110.length co32 : Value).ownBlock) (Kd.R_keptB (HO136.out) hkp (fun k_ hk_ hs_ => (hk_.1.2) hs_)) (fun k_ hk_ => ⟨hk_.1.1.1.1.2, hk_.1.1.1.2, hk_.1.1.2, hk_.1.2⟩)); have n7_ := q0 (hb); clear BK116 HO127 HO129 HO131 BK132 HO134 HO136 HB; have BK116 := n0_; have HO127 := n1_; have HO129 := n2_; have HO131 := n3_; have BK132 := n4_; have HO134 := n5_; have HO136 := n6_; have HB := n7_; clear n0_ n1_ n2_ n3_ n4_ n5_ n6_ n7_; (try clear hb); (try clear hkp); (try clear hy0)))
 (try simp only [Act.put, List.setIfInBounds_toArray, List.set_cons_zero, List.set_cons_succ])
 go_cut [42] (fun v42 wc => ∃ (kq : Nat) (x42_16 : Bool), v42 = .bool x42_16 ∧ Aside0 (laws_FnExactTreeOf.j0 kq t108 t110 x42_16 a0_0 l0_1 = some r) ∧ Aside0 (kq ≤ k) ∧ Aside0 (Kd.R kTie 54 wc w.heap.size (fun k_ => some k_ ≠ ((.slice Ao32 t110.length co32) : Value).ownBlock ∧ some k_ ≠ ((.slice Ao30 t118.length co30) : Value).ownBlock) (.slice Ao33 t108.length co33) t108) ∧ Aside0 (Kd.R kTie 54 wc w.heap.size (fun k_ => some k_ ≠ ((.slice Ao33 t108.length co33) : Value).ownBlock ∧ some k_ ≠ ((.slice Ao30 t118.length co30) : Value).ownBlock) (.slice Ao32 t110.length co32) t110) ∧ Aside0 (Kd.R kTie 54 wc w.heap.size (fun k_ => some k_ ≠ ((.slice Ao33 t108.length co33) : Value).ownBlock ∧ some k_ ≠ ((.slice Ao32 t110.length co32) : Value).ownBlock) (.slice Ao30 t118.length co30) t124) ∧ Aside0 (wc.heap[gb116]? = some (.cells #[.int .i64 a0_0, (.slice A0_1 l0_1.length c0_1)] 25 (0, 0))) ∧ Aside0 (wc.heap[gb132]? = some (.cells #[.int .i64 t109, (.slice Ao30 t118.length co30)] 30 (0, 0))) ∧ Aside0 (Below w.heap.size w wc))
 case first =>
   have H := HC17.out
   clear HC17
   by_cases c41 : t114 < 0
   · rw [if_pos c41] at H
     have c41b0 : decide (t114 < 0) = true := decide_eq_true c41
     clear c41
     (first | rw [c41b0] | (simp only [i64_w, i32_w]; rw [c41b0]) | skip)
     have H' := Aside0.mk H
     clear H
     go_wp2
     go_meet
     case rel => exact ⟨_, (true), qs, H', ⟨by first | omega | exact Nat.le_refl _⟩, ⟨by (with_reducible repeat (first | apply Kd.R_alloc | apply Kd.R_drewN | apply Kd.R_drew)); exact Kd.R_mono HO129.out (fun _ hk => ⟨hk.2.2.1, hk.2.1⟩)⟩, ⟨by (with_reducible repeat (first | apply Kd.R_alloc | apply Kd.R_drewN | apply Kd.R_drew)); exact Kd.R_mono HO134.out (fun _ hk => ⟨hk.2.1, hk.2.2.1⟩)⟩, ⟨by (with_reducible repeat (first | apply Kd.R_alloc | apply Kd.R_drewN | apply Kd.R_drew)); exact Kd.R_mono HO131.out (fun _ hk => ⟨hk.1.1.2, hk.1.2⟩)⟩, ⟨qk BK116.out⟩, ⟨qk BK132.out⟩, ⟨qb HB.out⟩⟩
   rw [if_neg c41] at H
   have c41b0 : decide (t114 < 0) = false := decide_eq_false c41
   clear c41
   (first | rw [c41b0] | (simp only [i64_w, i32_w]; rw [c41b0]) | skip)
   replace H := Option.bind_eq_some_iff.mp H
   obtain ⟨t115, A137, H⟩ := H
   replace H : (laws_FnExactTreeOf.j0 k t108 t110 (!t115) a0_0 l0_1) = some r := H
   have A42 := Aside0.mk A137
   clear A137
   have H' := Aside0.mk H
   clear H
   go_wp2_with (first | (go_at_call 44; (with_reducible refine (laws_eqTieS.calls k _ _ t110 _ _ t108 t115 _ ?side1 ?side2 ?side3 ?side4 A42.out).mono ?_); (case side1 => exact qc (Kd.R_reads' HO134.out).2.2); (case side2 => exact (Kd.R_reads' HO134.out).2.1); (case side3 => exact qc (Kd.R_reads' HO129.out).2.2); (case side4 => exact (Kd.R_reads' HO129.out).2.1); rintro e w43 ⟨rfl, hb⟩; have n0_ := q0 (Kd.R_below (qr HO127.out) hb); have n1_ := q0 (Kd.R_below (qr HO129.out) hb); have n2_ := q0 (Kd.R_below (qr HO131.out) hb); have n3_ := q0 (Kd.R_below (qr HO134.out) hb); have n4_ := q0 (Kd.R_below (qr HO136.out) hb); have n5_ := q0 (kb BK116.out hb); have n6_ := q0 (kb BK132.out hb); have n7_ := q0 (below_step (qb HB.out) hb); clear HO127 HO129 HO131 HO134 HO136 BK116 BK132 HB; have HO127 := n0_; have HO129 := n1_; have HO131 := n2_; have HO134 := n3_; have HO136 := n4_; have BK116 := n5_; have BK132 := n6_; have HB := n7_; clear n0_ n1_ n2_ n3_ n4_ n5_ n6_ n7_; (try clear hb); (try clear hb2); (try clear hk); (try clear hi)))
   go_meet
   case rel => exact ⟨_, (!t115), qs, H', ⟨by first | omega | exact Nat.le_refl _⟩, ⟨by (with_reducible repeat (first | apply Kd.R_alloc | apply Kd.R_drewN | apply Kd.R_drew)); exact Kd.R_mono HO129.out (fun _ hk => ⟨hk.2.2.1, hk.2.1⟩)⟩, ⟨by (with_reducible repeat (first | apply Kd.R_alloc | apply Kd.R_drewN | apply Kd.R_drew)); exact Kd.R_mono HO134.out (fun _ hk => ⟨hk.2.1, hk.2.2.1⟩)⟩, ⟨by (with_reducible repeat (first | apply Kd.R_alloc | apply Kd.R_drewN | apply Kd.R_drew)); exact Kd.R_mono HO131.out (fun _ hk => ⟨hk.1.1.2, hk.1.2⟩)⟩, ⟨qk BK116.out⟩, ⟨qk BK132.out⟩, ⟨qb HB.out⟩⟩
 clear HC17
 try clear c1
 try clear c2
 try clear p2
 try clear c3
 try clear c3b0
 try clear c4
 try clear c12
 try clear c13
 try clear c14
 try clear c15
 try clear c16
 try clear c18
 try clear c23
 try clear c28
 try clear c41
 try clear c41b0
 try clear c42
 try clear c43
 try clear hcz19_0
 try clear hcz19_1
 try clear hcz21_0
 try clear hcz21_1
 try clear hcz25_0
 try clear hcz25_1
 try clear hcz29_0
 try clear hcz29_1
 try clear hcz39_0
 try clear hcz39_1
 try clear hcz5_0
 try clear hcz5_1
 try clear hfz19_0
 try clear hfz19_1
 try clear hfz21_0
 try clear hfz21_1
 try clear hfz25_0
 try clear hfz25_1
 try clear hfz29_0
 try clear hfz29_1
 try clear hfz39_0
 try clear hfz39_1
 try clear hfz5_0
 try clear hfz5_1
 obtain ⟨kq, x42_16, rfl, HA, HJ16, HO_4, HO_6, HO_110001, BK116, BK132, HB⟩ := hcut
 have hl110001_16 := (Kd.R_reads' HO_110001.out).1
 rw [hl110001_16] at HO_110001
 (try simp only [hl110001_16])
 (try simp only [hl110001_16] at BK116)
 (try simp only [hl110001_16] at BK132)
 (try simp only [hl110001_16] at HO_4)
 (try simp only [hl110001_16] at HO_6)
 rcases kq with _ | kj16
 · exact absurd HA.out (by simp [laws_FnExactTreeOf.j0])
 have H := HA.out
 clear HA
 simp only [laws_FnExactTreeOf.j0] at H
 by_cases c44 : x42_16 = true
 · subst c44
   have H1 : (some false) = some r := by rw [if_pos rfl] at H; exact H
   clear H
   have H := H1
   clear H1
   obtain rfl := Option.some.inj H
   go_wp2
   go_ret
   exact ⟨qe, qb HB.out⟩
 replace c44 := Bool.eq_false_iff.mpr c44
 subst c44
 have H1 : ((laws_markTieS.f kj16 t110 1).bind fun bt101 => ((laws_heldTieS.f kj16 bt101.2 1).bind fun t102 => (if t102 < 0 then (some false) else (if t102 = bt101.1 then ((laws_toNet.f kj16 a0_0 l0_1).bind fun bt103 => ((impl_TreeOf.f kj16 bt103.1 bt103.2).bind fun t104 => ((laws_eqTieS.f kj16 t104 t108).bind fun t105 => (if t105 = true then ((laws_heldTieS.f kj16 bt101.2 1).bind fun t106 => (if t106 < 0 then (some false) else (if t106 = bt101.1 then (some true) else (some false)))) else (some false))))) else (some false))))) = some r := by rw [if_neg (show ¬ (false = true) by decide)] at H; exact H
 clear H
 have H := H1
 clear H1
 replace H := Option.bind_eq_some_iff.mp H
 obtain ⟨⟨t101, t138⟩, A139, H⟩ := H
 replace H : ((laws_heldTieS.f kj16 t138 1).bind fun t102 => (if t102 < 0 then (some false) else (if t102 = t101 then ((laws_toNet.f kj16 a0_0 l0_1).bind fun bt103 => ((impl_TreeOf.f kj16 bt103.1 bt103.2).bind fun t104 => ((laws_eqTieS.f kj16 t104 t108).bind fun t105 => (if t105 = true then ((laws_heldTieS.f kj16 t138 1).bind fun t106 => (if t106 < 0 then (some false) else (if t106 = t101 then (some true) else (some false)))) else (some false))))) else (some false)))) = some r := H
 have A45 := Aside0.mk A139
 clear A139
 replace H := Option.bind_eq_some_iff.mp H
 obtain ⟨t102, A140, H⟩ := H
 replace H : (if t102 < 0 then (some false) else (if t102 = t101 then ((laws_toNet.f kj16 a0_0 l0_1).bind fun bt103 => ((impl_TreeOf.f kj16 bt103.1 bt103.2).bind fun t104 => ((laws_eqTieS.f kj16 t104 t108).bind fun t105 => (if t105 = true then ((laws_heldTieS.f kj16 t138 1).bind fun t106 => (if t106 < 0 then (some false) else (if t106 = t101 then (some true) else (some false)))) else (some false))))) else (some false))) = some r := H
 have A46 := Aside0.mk A140
 clear A140
 by_cases c47 : t102 < 0
 · rw [if_pos c47] at H
   have c47b0 : decide (t102 < 0) = true := decide_eq_true c47
   clear c47
   obtain rfl := Option.some.inj H
   go_wp2_with (first | ((with_reducible refine gate_callee (f := 45) rfl ?_); refine goesL_ (some 45) rfl rfl Try.func45 (by kernel_rfl) rfl #[.slice Ao32 t110.length co32, .int .i64 1] rfl qm ?_; (with_reducible refine (laws_markTieS.calls kj16 (fun k_ => some k_ = (.slice Ao32 t110.length co32 : Value).ownBlock) (.slice Ao32 t110.length co32) t110 1 t101 t138 w _ ?side1 ?side2 A45.out).mono ?_); (case side1 => exact qb HB.out); (case side2 => exact Kd.R_tight rfl HO_6.out); rintro e w48 ⟨rfl, hy0, hb, hkp⟩; refine ⟨_, rfl, ?_⟩; have n0_ := q0 (Kd.R_mono (ok' := fun k_ => some k_ ≠ (.slice Ao32 t110.length co32 : Value).ownBlock ∧ some k_ ≠ (.slice Ao30 t124.length co30 : Value).ownBlock) (Kd.R_keptB (HO_4.out) hkp (fun k_ hk_ hs_ => (hk_.1) hs_)) (fun k_ hk_ => ⟨hk_.1.1, hk_.1.2⟩)); have n1_ := q0 (Kd.R_reok rfl hy0 (fun k_ e_ => HO_6.out.1 k_ e_)); have n2_ := q0 (Kd.R_mono (ok' := fun k_ => some k_ ≠ (.slice Ao33 t108.length co33 : Value).ownBlock ∧ some k_ ≠ (.slice Ao32 t110.length co32 : Value).ownBlock) (Kd.R_keptB (HO_110001.out) hkp (fun k_ hk_ hs_ => (hk_.2) hs_)) (fun k_ hk_ => ⟨hk_.1.1, hk_.1.2⟩)); have n3_ := q0 (blk_kept (qk BK116.out) hkp (fun hs_ => (fun e_ => (Kd.R_ne HO_6.out BK116.out (by decide)) e_) hs_)); have n4_ := q0 (blk_kept (qk BK132.out) hkp (fun hs_ => (fun e_ => (Kd.R_ne HO_6.out BK132.out (by decide)) e_) hs_)); have n5_ := q0 (hb); clear HO_4 HO_6 HO_110001 BK116 BK132 HB; have HO_4 := n0_; have HO_6 := n1_; have HO_110001 := n2_; have BK116 := n3_; have BK132 := n4_; have HB := n5_; clear n0_ n1_ n2_ n3_ n4_ n5_; (try clear hb); (try clear hkp); (try clear hy0)) | ((with_reducible refine gate_callee (f := 46) rfl ?_); refine goesL_ (some 48) rfl rfl Try.func46 (by kernel_rfl) rfl #[.slice Ao32 t138.length co32, .int .i64 1] rfl (by (try simp only [List.map_toArray, List.map_cons, List.map_nil]); first | done | (rw [show t138.length = t110.length from (Kd.R_reads' HO_6.out).1.symm] <;> rfl) | rfl | (simp only [List.length_drop, List.length_take]; rfl)) ?_; (with_reducible refine (laws_heldTieS.calls kj16 _ _ t138 1 t102 _ ?side1 ?side2 A46.out).mono ?_); (case side1 => exact qc (Kd.R_reads' HO_6.out).2.2); (case side2 => rw [show t138.length = t110.length from (Kd.R_reads' HO_6.out).1.symm]; exact (Kd.R_reads' HO_6.out).2.1); rintro e w' ⟨rfl, ⟨nd, rfl⟩⟩; refine ⟨_, rfl, ?_⟩))
   go_ret
   exact ⟨qe, qb HB.out⟩
 rw [if_neg c47] at H
 have c47b0 : decide (t102 < 0) = false := decide_eq_false c47
 clear c47
 by_cases c49 : t102 = t101
 rotate_left
 · rw [if_neg c49] at H
   have c49b0 : (t102 == t101) = false := beq_eq_false_iff_ne.mpr c49
   have c49b1 : (t102 != t101) = true := bne_iff_ne.mpr c49
   obtain rfl := Option.some.inj H
   go_wp2_with (first | ((with_reducible refine gate_callee (f := 45) rfl ?_); refine goesL_ (some 45) rfl rfl Try.func45 (by kernel_rfl) rfl #[.slice Ao32 t110.length co32, .int .i64 1] rfl qm ?_; (with_reducible refine (laws_markTieS.calls kj16 (fun k_ => some k_ = (.slice Ao32 t110.length co32 : Value).ownBlock) (.slice Ao32 t110.length co32) t110 1 t101 t138 w _ ?side1 ?side2 A45.out).mono ?_); (case side1 => exact qb HB.out); (case side2 => exact Kd.R_tight rfl HO_6.out); rintro e w89 ⟨rfl, hy0, hb, hkp⟩; refine ⟨_, rfl, ?_⟩; have n0_ := q0 (Kd.R_mono (ok' := fun k_ => some k_ ≠ (.slice Ao32 t110.length co32 : Value).ownBlock ∧ some k_ ≠ (.slice Ao30 t124.length co30 : Value).ownBlock) (Kd.R_keptB (HO_4.out) hkp (fun k_ hk_ hs_ => (hk_.1) hs_)) (fun k_ hk_ => ⟨hk_.1.1, hk_.1.2⟩)); have n1_ := q0 (Kd.R_reok rfl hy0 (fun k_ e_ => HO_6.out.1 k_ e_)); have n2_ := q0 (Kd.R_mono (ok' := fun k_ => some k_ ≠ (.slice Ao33 t108.length co33 : Value).ownBlock ∧ some k_ ≠ (.slice Ao32 t110.length co32 : Value).ownBlock) (Kd.R_keptB (HO_110001.out) hkp (fun k_ hk_ hs_ => (hk_.2) hs_)) (fun k_ hk_ => ⟨hk_.1.1, hk_.1.2⟩)); have n3_ := q0 (blk_kept (qk BK116.out) hkp (fun hs_ => (fun e_ => (Kd.R_ne HO_6.out BK116.out (by decide)) e_) hs_)); have n4_ := q0 (blk_kept (qk BK132.out) hkp (fun hs_ => (fun e_ => (Kd.R_ne HO_6.out BK132.out (by decide)) e_) hs_)); have n5_ := q0 (hb); clear HO_4 HO_6 HO_110001 BK116 BK132 HB; have HO_4 := n0_; have HO_6 := n1_; have HO_110001 := n2_; have BK116 := n3_; have BK132 := n4_; have HB := n5_; clear n0_ n1_ n2_ n3_ n4_ n5_; (try clear hb); (try clear hkp); (try clear hy0)) | ((with_reducible refine gate_callee (f := 46) rfl ?_); refine goesL_ (some 48) rfl rfl Try.func46 (by kernel_rfl) rfl #[.slice Ao32 t138.length co32, .int .i64 1] rfl (by (try simp only [List.map_toArray, List.map_cons, List.map_nil]); first | done | (rw [show t138.length = t110.length from (Kd.R_reads' HO_6.out).1.symm] <;> rfl) | rfl | (simp only [List.length_drop, List.length_take]; rfl)) ?_; (with_reducible refine (laws_heldTieS.calls kj16 _ _ t138 1 t102 _ ?side1 ?side2 A46.out).mono ?_); (case side1 => exact qc (Kd.R_reads' HO_6.out).2.2); (case side2 => rw [show t138.length = t110.length from (Kd.R_reads' HO_6.out).1.symm]; exact (Kd.R_reads' HO_6.out).2.1); rintro e w' ⟨rfl, ⟨nd, rfl⟩⟩; refine ⟨_, rfl, ?_⟩))
   go_ret
   exact ⟨qe, qb HB.out⟩
 rw [if_pos c49] at H
 have c49b0 : (t102 == t101) = true := beq_iff_eq.mpr c49
 have c49b1 : (t102 != t101) = false := bne_eq_false_iff_eq.mpr c49
 clear c49
 replace H := Option.bind_eq_some_iff.mp H
 obtain ⟨⟨t103, t141⟩, A142, H⟩ := H
 replace H : ((impl_TreeOf.f kj16 t103 t141).bind fun t104 => ((laws_eqTieS.f kj16 t104 t108).bind fun t105 => (if t105 = true then ((laws_heldTieS.f kj16 t138 1).bind fun t106 => (if t106 < 0 then (some false) else (if t106 = t101 then (some true) else (some false)))) else (some false)))) = some r := H
 have A50 := Aside0.mk A142
 clear A142
 replace H := Option.bind_eq_some_iff.mp H
 obtain ⟨t104, A143, H⟩ := H
 replace H : ((laws_eqTieS.f kj16 t104 t108).bind fun t105 => (if t105 = true then ((laws_heldTieS.f kj16 t138 1).bind fun t106 => (if t106 < 0 then (some false) else (if t106 = t101 then (some true) else (some false)))) else (some false))) = some r := H
 have A51 := Aside0.mk A143
 clear A143
 replace H := Option.bind_eq_some_iff.mp H
 obtain ⟨t105, A144, H⟩ := H
 replace H : (if t105 = true then ((laws_heldTieS.f kj16 t138 1).bind fun t106 => (if t106 < 0 then (some false) else (if t106 = t101 then (some true) else (some false)))) else (some false)) = some r := H
 have A52 := Aside0.mk A144
 clear A144
 by_cases c53 : t105 = true
 rotate_left
 · replace c53 := Bool.eq_false_iff.mpr c53
   subst c53
   have H1 : (some false) = some r := by rw [if_neg (show ¬ (false = true) by decide)] at H; exact H
   clear H
   have H := H1
   clear H1
   obtain rfl := Option.some.inj H
   go_wp2_with (first | ((with_reducible refine gate_callee (f := 45) rfl ?_); refine goesL_ (some 45) rfl rfl Try.func45 (by kernel_rfl) rfl #[.slice Ao32 t110.length co32, .int .i64 1] rfl qm ?_; (with_reducible refine (laws_markTieS.calls kj16 (fun k_ => some k_ = (.slice Ao32 t110.length co32 : Value).ownBlock) (.slice Ao32 t110.length co32) t110 1 t101 t138 w _ ?side1 ?side2 A45.out).mono ?_); (case side1 => exact qb HB.out); (case side2 => exact Kd.R_tight rfl HO_6.out); rintro e w81 ⟨rfl, hy0, hb, hkp⟩; refine ⟨_, rfl, ?_⟩; have n0_ := q0 (Kd.R_mono (ok' := fun k_ => some k_ ≠ (.slice Ao32 t110.length co32 : Value).ownBlock ∧ some k_ ≠ (.slice Ao30 t124.length co30 : Value).ownBlock) (Kd.R_keptB (HO_4.out) hkp (fun k_ hk_ hs_ => (hk_.1) hs_)) (fun k_ hk_ => ⟨hk_.1.1, hk_.1.2⟩)); have n1_ := q0 (Kd.R_reok rfl hy0 (fun k_ e_ => HO_6.out.1 k_ e_)); have n2_ := q0 (Kd.R_mono (ok' := fun k_ => some k_ ≠ (.slice Ao33 t108.length co33 : Value).ownBlock ∧ some k_ ≠ (.slice Ao32 t110.length co32 : Value).ownBlock) (Kd.R_keptB (HO_110001.out) hkp (fun k_ hk_ hs_ => (hk_.2) hs_)) (fun k_ hk_ => ⟨hk_.1.1, hk_.1.2⟩)); have n3_ := q0 (blk_kept (qk BK116.out) hkp (fun hs_ => (fun e_ => (Kd.R_ne HO_6.out BK116.out (by decide)) e_) hs_)); have n4_ := q0 (blk_kept (qk BK132.out) hkp (fun hs_ => (fun e_ => (Kd.R_ne HO_6.out BK132.out (by decide)) e_) hs_)); have n5_ := q0 (hb); clear HO_4 HO_6 HO_110001 BK116 BK132 HB; have HO_4 := n0_; have HO_6 := n1_; have HO_110001 := n2_; have BK116 := n3_; have BK132 := n4_; have HB := n5_; clear n0_ n1_ n2_ n3_ n4_ n5_; (try clear hb); (try clear hkp); (try clear hy0)) | ((with_reducible refine gate_callee (f := 46) rfl ?_); refine goesL_ (some 48) rfl rfl Try.func46 (by kernel_rfl) rfl #[.slice Ao32 t138.length co32, .int .i64 1] rfl (by (try simp only [List.map_toArray, List.map_cons, List.map_nil]); first | done | (rw [show t138.length = t110.length from (Kd.R_reads' HO_6.out).1.symm] <;> rfl) | rfl | (simp only [List.length_drop, List.length_take]; rfl)) ?_; (with_reducible refine (laws_heldTieS.calls kj16 _ _ t138 1 t102 _ ?side1 ?side2 A46.out).mono ?_); (case side1 => exact qc (Kd.R_reads' HO_6.out).2.2); (case side2 => rw [show t138.length = t110.length from (Kd.R_reads' HO_6.out).1.symm]; exact (Kd.R_reads' HO_6.out).2.1); rintro e w' ⟨rfl, ⟨nd, rfl⟩⟩; refine ⟨_, rfl, ?_⟩; have hnb82 := NB116_132.out; have hnc82 := NB132_116.out; have hcz83_0 : w81.cell? ⟨gb116, 0, none⟩ = some (.int .i64 a0_0) := (blk_cell BK116.out 0).trans rfl; have hcz83_1 : w81.cell? ⟨gb116, 1, none⟩ = some (.slice A0_1 l0_1.length c0_1) := (blk_cell BK116.out 1).trans rfl; have hfz83_0 := blk_frozen BK116.out 0; have hfz83_1 := blk_frozen BK116.out 1) | ((with_reducible refine gate_callee (f := 16) rfl ?_); refine goesL_ (some 55) rfl rfl Try.func16 (by kernel_rfl) rfl #[.agg #[.int .i64 a0_0, .slice A0_1 l0_1.length c0_1]] rfl qm ?_; (with_reducible refine (laws_toNet.calls kj16 a0_0 _ _ l0_1 t103 t141 _ ?side1 ?side2 A50.out).mono ?_); (case side1 => exact qc (Kd.C_below HR0_1.out (qb HB.out))); (case side2 => exact HC0_1.out); rintro e w84 ⟨v146, rfl, ho0, hb⟩; refine ⟨_, rfl, ?_⟩; have n0_ := q0 (Kd.R_elder' (qr HO_4.out) (Kd.R_base ho0) hb); have n1_ := q0 (Kd.R_elder' (qr HO_6.out) (Kd.R_base ho0) hb); have n2_ := q0 (Kd.R_elder' (qr HO_110001.out) (Kd.R_base ho0) hb); have n3_ := q0 (Kd.R_lower (Kd.R_new' (Kd.R_new' (Kd.R_new' ho0 (Kd.R_lt (qr HO_4.out))) (Kd.R_lt (qr HO_6.out))) (Kd.R_lt (qr HO_110001.out))) (below_size (qb HB.out))); have n4_ := q0 (kb BK116.out hb); have n5_ := q0 (kb BK132.out hb); have n6_ := q0 (below_step (qb HB.out) hb); clear HO_4 HO_6 HO_110001 BK116 BK132 HB; have HO_4 := n0_; have HO_6 := n1_; have HO_110001 := n2_; have HO147 := n3_; have BK116 := n4_; have BK132 := n5_; have HB := n6_; clear n0_ n1_ n2_ n3_ n4_ n5_ n6_; (try clear hb); (try clear hb2); (try clear hk); (try clear hi); (try clear ho0); obtain ⟨Ao85, co85, eo85⟩ := Kd.R_slice HO147.out; subst eo85) | ((with_reducible refine gate_callee (f := 43) rfl ?_); refine goesL_ (some 56) rfl rfl Try.func43 (by kernel_rfl) rfl #[.agg #[.int .i64 t103, .slice Ao85 t141.length co85]] rfl qm ?_; (with_reducible refine (impl_TreeOf.calls kj16 t103 _ _ t141 t104 _ ?side1 ?side2 A51.out).mono ?_); (case side1 => exact qc (Kd.R_reads' HO147.out).2.2); (case side2 => exact (Kd.R_reads' HO147.out).2.1); rintro e w86 ⟨v148, rfl, ho0, hb⟩; refine ⟨_, rfl, ?_⟩; have n0_ := q0 (Kd.R_elder' (qr HO_4.out) (Kd.R_base ho0) hb); have n1_ := q0 (Kd.R_elder' (qr HO_6.out) (Kd.R_base ho0) hb); have n2_ := q0 (Kd.R_elder' (qr HO_110001.out) (Kd.R_base ho0) hb); have n3_ := q0 (Kd.R_elder' (qr HO147.out) (Kd.R_base ho0) hb); have n4_ := q0 (Kd.R_lower (Kd.R_new' (Kd.R_new' (Kd.R_new' (Kd.R_new' ho0 (Kd.R_lt (qr HO_4.out))) (Kd.R_lt (qr HO_6.out))) (Kd.R_lt (qr HO_110001.out))) (Kd.R_lt (qr HO147.out))) (below_size (qb HB.out))); have n5_ := q0 (kb BK116.out hb); have n6_ := q0 (kb BK132.out hb); have n7_ := q0 (below_step (qb HB.out) hb); clear HO_4 HO_6 HO_110001 HO147 BK116 BK132 HB; have HO_4 := n0_; have HO_6 := n1_; have HO_110001 := n2_; have HO147 := n3_; have HO149 := n4_; have BK116 := n5_; have BK132 := n6_; have HB := n7_; clear n0_ n1_ n2_ n3_ n4_ n5_ n6_ n7_; (try clear hb); (try clear hb2); (try clear hk); (try clear hi); (try clear ho0); obtain ⟨Ao87, co87, eo87⟩ := Kd.R_slice HO149.out; subst eo87) | ((with_reducible refine gate_callee (f := 44) rfl ?_); refine goesL_ (some 59) rfl rfl Try.func44 (by kernel_rfl) rfl #[.slice Ao87 t104.length co87, .slice Ao33 t108.length co33] rfl qm ?_; (with_reducible refine (laws_eqTieS.calls kj16 _ _ t104 _ _ t108 false _ ?side1 ?side2 ?side3 ?side4 A52.out).mono ?_); (case side1 => exact qc (Kd.R_reads' HO149.out).2.2); (case side2 => exact (Kd.R_reads' HO149.out).2.1); (case side3 => exact qc (Kd.R_reads' HO_4.out).2.2); (case side4 => exact (Kd.R_reads' HO_4.out).2.1); rintro e w88 ⟨rfl, hb⟩; refine ⟨_, rfl, ?_⟩; have n0_ := q0 (Kd.R_below (qr HO_4.out) hb); have n1_ := q0 (Kd.R_below (qr HO_6.out) hb); have n2_ := q0 (Kd.R_below (qr HO_110001.out) hb); have n3_ := q0 (Kd.R_below (qr HO147.out) hb); have n4_ := q0 (Kd.R_below (qr HO149.out) hb); have n5_ := q0 (kb BK116.out hb); have n6_ := q0 (kb BK132.out hb); have n7_ := q0 (below_step (qb HB.out) hb); clear HO_4 HO_6 HO_110001 HO147 HO149 BK116 BK132 HB; have HO_4 := n0_; have HO_6 := n1_; have HO_110001 := n2_; have HO147 := n3_; have HO149 := n4_; have BK116 := n5_; have BK132 := n6_; have HB := n7_; clear n0_ n1_ n2_ n3_ n4_ n5_ n6_ n7_; (try clear hb); (try clear hb2); (try clear hk); (try clear hi)))
   go_ret
   exact ⟨qe, qb HB.out⟩
 subst c53
 have H1 : ((laws_heldTieS.f kj16 t138 1).bind fun t106 => (if t106 < 0 then (some false) else (if t106 = t101 then (some true) else (some false)))) = some r := by rw [if_pos rfl] at H; exact H
 clear H
 have H := H1
 clear H1
 replace H := Option.bind_eq_some_iff.mp H
 obtain ⟨t106, A145, H⟩ := H
 replace H : (if t106 < 0 then (some false) else (if t106 = t101 then (some true) else (some false))) = some r := H
 have A54 := Aside0.mk A145
 clear A145
 by_cases c55 : t106 < 0
 · rw [if_pos c55] at H
   have c55b0 : decide (t106 < 0) = true := decide_eq_true c55
   clear c55
   obtain rfl := Option.some.inj H
   go_wp2_with (first | ((with_reducible refine gate_callee (f := 45) rfl ?_); refine goesL_ (some 45) rfl rfl Try.func45 (by kernel_rfl) rfl #[.slice Ao32 t110.length co32, .int .i64 1] rfl qm ?_; (with_reducible refine (laws_markTieS.calls kj16 (fun k_ => some k_ = (.slice Ao32 t110.length co32 : Value).ownBlock) (.slice Ao32 t110.length co32) t110 1 t101 t138 w _ ?side1 ?side2 A45.out).mono ?_); (case side1 => exact qb HB.out); (case side2 => exact Kd.R_tight rfl HO_6.out); rintro e w56 ⟨rfl, hy0, hb, hkp⟩; refine ⟨_, rfl, ?_⟩; have n0_ := q0 (Kd.R_mono (ok' := fun k_ => some k_ ≠ (.slice Ao32 t110.length co32 : Value).ownBlock ∧ some k_ ≠ (.slice Ao30 t124.length co30 : Value).ownBlock) (Kd.R_keptB (HO_4.out) hkp (fun k_ hk_ hs_ => (hk_.1) hs_)) (fun k_ hk_ => ⟨hk_.1.1, hk_.1.2⟩)); have n1_ := q0 (Kd.R_reok rfl hy0 (fun k_ e_ => HO_6.out.1 k_ e_)); have n2_ := q0 (Kd.R_mono (ok' := fun k_ => some k_ ≠ (.slice Ao33 t108.length co33 : Value).ownBlock ∧ some k_ ≠ (.slice Ao32 t110.length co32 : Value).ownBlock) (Kd.R_keptB (HO_110001.out) hkp (fun k_ hk_ hs_ => (hk_.2) hs_)) (fun k_ hk_ => ⟨hk_.1.1, hk_.1.2⟩)); have n3_ := q0 (blk_kept (qk BK116.out) hkp (fun hs_ => (fun e_ => (Kd.R_ne HO_6.out BK116.out (by decide)) e_) hs_)); have n4_ := q0 (blk_kept (qk BK132.out) hkp (fun hs_ => (fun e_ => (Kd.R_ne HO_6.out BK132.out (by decide)) e_) hs_)); have n5_ := q0 (hb); clear HO_4 HO_6 HO_110001 BK116 BK132 HB; have HO_4 := n0_; have HO_6 := n1_; have HO_110001 := n2_; have BK116 := n3_; have BK132 := n4_; have HB := n5_; clear n0_ n1_ n2_ n3_ n4_ n5_; (try clear hb); (try clear hkp); (try clear hy0)) | ((with_reducible refine gate_callee (f := 46) rfl ?_); refine goesL_ (some 48) rfl rfl Try.func46 (by kernel_rfl) rfl #[.slice Ao32 t138.length co32, .int .i64 1] rfl (by (try simp only [List.map_toArray, List.map_cons, List.map_nil]); first | done | (rw [show t138.length = t110.length from (Kd.R_reads' HO_6.out).1.symm] <;> rfl) | rfl | (simp only [List.length_drop, List.length_take]; rfl)) ?_; (with_reducible refine (laws_heldTieS.calls kj16 _ _ t138 1 t102 _ ?side1 ?side2 A46.out).mono ?_); (case side1 => exact qc (Kd.R_reads' HO_6.out).2.2); (case side2 => rw [show t138.length = t110.length from (Kd.R_reads' HO_6.out).1.symm]; exact (Kd.R_reads' HO_6.out).2.1); rintro e w' ⟨rfl, ⟨nd, rfl⟩⟩; refine ⟨_, rfl, ?_⟩; have hnb57 := NB116_132.out; have hnc57 := NB132_116.out; have hcz58_0 : w56.cell? ⟨gb116, 0, none⟩ = some (.int .i64 a0_0) := (blk_cell BK116.out 0).trans rfl; have hcz58_1 : w56.cell? ⟨gb116, 1, none⟩ = some (.slice A0_1 l0_1.length c0_1) := (blk_cell BK116.out 1).trans rfl; have hfz58_0 := blk_frozen BK116.out 0; have hfz58_1 := blk_frozen BK116.out 1) | ((with_reducible refine gate_callee (f := 16) rfl ?_); refine goesL_ (some 55) rfl rfl Try.func16 (by kernel_rfl) rfl #[.agg #[.int .i64 a0_0, .slice A0_1 l0_1.length c0_1]] rfl qm ?_; (with_reducible refine (laws_toNet.calls kj16 a0_0 _ _ l0_1 t103 t141 _ ?side1 ?side2 A50.out).mono ?_); (case side1 => exact qc (Kd.C_below HR0_1.out (qb HB.out))); (case side2 => exact HC0_1.out); rintro e w59 ⟨v146, rfl, ho0, hb⟩; refine ⟨_, rfl, ?_⟩; have n0_ := q0 (Kd.R_elder' (qr HO_4.out) (Kd.R_base ho0) hb); have n1_ := q0 (Kd.R_elder' (qr HO_6.out) (Kd.R_base ho0) hb); have n2_ := q0 (Kd.R_elder' (qr HO_110001.out) (Kd.R_base ho0) hb); have n3_ := q0 (Kd.R_lower (Kd.R_new' (Kd.R_new' (Kd.R_new' ho0 (Kd.R_lt (qr HO_4.out))) (Kd.R_lt (qr HO_6.out))) (Kd.R_lt (qr HO_110001.out))) (below_size (qb HB.out))); have n4_ := q0 (kb BK116.out hb); have n5_ := q0 (kb BK132.out hb); have n6_ := q0 (below_step (qb HB.out) hb); clear HO_4 HO_6 HO_110001 BK116 BK132 HB; have HO_4 := n0_; have HO_6 := n1_; have HO_110001 := n2_; have HO147 := n3_; have BK116 := n4_; have BK132 := n5_; have HB := n6_; clear n0_ n1_ n2_ n3_ n4_ n5_ n6_; (try clear hb); (try clear hb2); (try clear hk); (try clear hi); (try clear ho0); obtain ⟨Ao60, co60, eo60⟩ := Kd.R_slice HO147.out; subst eo60) | ((with_reducible refine gate_callee (f := 43) rfl ?_); refine goesL_ (some 56) rfl rfl Try.func43 (by kernel_rfl) rfl #[.agg #[.int .i64 t103, .slice Ao60 t141.length co60]] rfl qm ?_; (with_reducible refine (impl_TreeOf.calls kj16 t103 _ _ t141 t104 _ ?side1 ?side2 A51.out).mono ?_); (case side1 => exact qc (Kd.R_reads' HO147.out).2.2); (case side2 => exact (Kd.R_reads' HO147.out).2.1); rintro e w61 ⟨v148, rfl, ho0, hb⟩; refine ⟨_, rfl, ?_⟩; have n0_ := q0 (Kd.R_elder' (qr HO_4.out) (Kd.R_base ho0) hb); have n1_ := q0 (Kd.R_elder' (qr HO_6.out) (Kd.R_base ho0) hb); have n2_ := q0 (Kd.R_elder' (qr HO_110001.out) (Kd.R_base ho0) hb); have n3_ := q0 (Kd.R_elder' (qr HO147.out) (Kd.R_base ho0) hb); have n4_ := q0 (Kd.R_lower (Kd.R_new' (Kd.R_new' (Kd.R_new' (Kd.R_new' ho0 (Kd.R_lt (qr HO_4.out))) (Kd.R_lt (qr HO_6.out))) (Kd.R_lt (qr HO_110001.out))) (Kd.R_lt (qr HO147.out))) (below_size (qb HB.out))); have n5_ := q0 (kb BK116.out hb); have n6_ := q0 (kb BK132.out hb); have n7_ := q0 (below_step (qb HB.out) hb); clear HO_4 HO_6 HO_110001 HO147 BK116 BK132 HB; have HO_4 := n0_; have HO_6 := n1_; have HO_110001 := n2_; have HO147 := n3_; have HO149 := n4_; have BK116 := n5_; have BK132 := n6_; have HB := n7_; clear n0_ n1_ n2_ n3_ n4_ n5_ n6_ n7_; (try clear hb); (try clear hb2); (try clear hk); (try clear hi); (try clear ho0); obtain ⟨Ao62, co62, eo62⟩ := Kd.R_slice HO149.out; subst eo62) | ((with_reducible refine gate_callee (f := 44) rfl ?_); refine goesL_ (some 59) rfl rfl Try.func44 (by kernel_rfl) rfl #[.slice Ao62 t104.length co62, .slice Ao33 t108.length co33] rfl qm ?_; (with_reducible refine (laws_eqTieS.calls kj16 _ _ t104 _ _ t108 true _ ?side1 ?side2 ?side3 ?side4 A52.out).mono ?_); (case side1 => exact qc (Kd.R_reads' HO149.out).2.2); (case side2 => exact (Kd.R_reads' HO149.out).2.1); (case side3 => exact qc (Kd.R_reads' HO_4.out).2.2); (case side4 => exact (Kd.R_reads' HO_4.out).2.1); rintro e w63 ⟨rfl, hb⟩; refine ⟨_, rfl, ?_⟩; have n0_ := q0 (Kd.R_below (qr HO_4.out) hb); have n1_ := q0 (Kd.R_below (qr HO_6.out) hb); have n2_ := q0 (Kd.R_below (qr HO_110001.out) hb); have n3_ := q0 (Kd.R_below (qr HO147.out) hb); have n4_ := q0 (Kd.R_below (qr HO149.out) hb); have n5_ := q0 (kb BK116.out hb); have n6_ := q0 (kb BK132.out hb); have n7_ := q0 (below_step (qb HB.out) hb); clear HO_4 HO_6 HO_110001 HO147 HO149 BK116 BK132 HB; have HO_4 := n0_; have HO_6 := n1_; have HO_110001 := n2_; have HO147 := n3_; have HO149 := n4_; have BK116 := n5_; have BK132 := n6_; have HB := n7_; clear n0_ n1_ n2_ n3_ n4_ n5_ n6_ n7_; (try clear hb); (try clear hb2); (try clear hk); (try clear hi)) | ((with_reducible refine gate_callee (f := 46) rfl ?_); refine goesL_ (some 63) rfl rfl Try.func46 (by kernel_rfl) rfl #[.slice Ao32 t138.length co32, .int .i64 1] rfl (by (try simp only [List.map_toArray, List.map_cons, List.map_nil]); first | done | (rw [show t138.length = t110.length from (Kd.R_reads' HO_6.out).1.symm] <;> rfl) | rfl | (simp only [List.length_drop, List.length_take]; rfl)) ?_; (with_reducible refine (laws_heldTieS.calls kj16 _ _ t138 1 t106 _ ?side1 ?side2 A54.out).mono ?_); (case side1 => exact qc (Kd.R_reads' HO_6.out).2.2); (case side2 => rw [show t138.length = t110.length from (Kd.R_reads' HO_6.out).1.symm]; exact (Kd.R_reads' HO_6.out).2.1); rintro e w' ⟨rfl, ⟨nd, rfl⟩⟩; refine ⟨_, rfl, ?_⟩))
   go_ret
   exact ⟨qe, qb HB.out⟩
 rw [if_neg c55] at H
 have c55b0 : decide (t106 < 0) = false := decide_eq_false c55
 clear c55
 by_cases c64 : t106 = t101
 rotate_left
 · rw [if_neg c64] at H
   have c64b0 : (t106 == t101) = false := beq_eq_false_iff_ne.mpr c64
   have c64b1 : (t106 != t101) = true := bne_iff_ne.mpr c64
   obtain rfl := Option.some.inj H
   go_wp2_with (first | ((with_reducible refine gate_callee (f := 45) rfl ?_); refine goesL_ (some 45) rfl rfl Try.func45 (by kernel_rfl) rfl #[.slice Ao32 t110.length co32, .int .i64 1] rfl qm ?_; (with_reducible refine (laws_markTieS.calls kj16 (fun k_ => some k_ = (.slice Ao32 t110.length co32 : Value).ownBlock) (.slice Ao32 t110.length co32) t110 1 t101 t138 w _ ?side1 ?side2 A45.out).mono ?_); (case side1 => exact qb HB.out); (case side2 => exact Kd.R_tight rfl HO_6.out); rintro e w73 ⟨rfl, hy0, hb, hkp⟩; refine ⟨_, rfl, ?_⟩; have n0_ := q0 (Kd.R_mono (ok' := fun k_ => some k_ ≠ (.slice Ao32 t110.length co32 : Value).ownBlock ∧ some k_ ≠ (.slice Ao30 t124.length co30 : Value).ownBlock) (Kd.R_keptB (HO_4.out) hkp (fun k_ hk_ hs_ => (hk_.1) hs_)) (fun k_ hk_ => ⟨hk_.1.1, hk_.1.2⟩)); have n1_ := q0 (Kd.R_reok rfl hy0 (fun k_ e_ => HO_6.out.1 k_ e_)); have n2_ := q0 (Kd.R_mono (ok' := fun k_ => some k_ ≠ (.slice Ao33 t108.length co33 : Value).ownBlock ∧ some k_ ≠ (.slice Ao32 t110.length co32 : Value).ownBlock) (Kd.R_keptB (HO_110001.out) hkp (fun k_ hk_ hs_ => (hk_.2) hs_)) (fun k_ hk_ => ⟨hk_.1.1, hk_.1.2⟩)); have n3_ := q0 (blk_kept (qk BK116.out) hkp (fun hs_ => (fun e_ => (Kd.R_ne HO_6.out BK116.out (by decide)) e_) hs_)); have n4_ := q0 (blk_kept (qk BK132.out) hkp (fun hs_ => (fun e_ => (Kd.R_ne HO_6.out BK132.out (by decide)) e_) hs_)); have n5_ := q0 (hb); clear HO_4 HO_6 HO_110001 BK116 BK132 HB; have HO_4 := n0_; have HO_6 := n1_; have HO_110001 := n2_; have BK116 := n3_; have BK132 := n4_; have HB := n5_; clear n0_ n1_ n2_ n3_ n4_ n5_; (try clear hb); (try clear hkp); (try clear hy0)) | ((with_reducible refine gate_callee (f := 46) rfl ?_); refine goesL_ (some 48) rfl rfl Try.func46 (by kernel_rfl) rfl #[.slice Ao32 t138.length co32, .int .i64 1] rfl (by (try simp only [List.map_toArray, List.map_cons, List.map_nil]); first | done | (rw [show t138.length = t110.length from (Kd.R_reads' HO_6.out).1.symm] <;> rfl) | rfl | (simp only [List.length_drop, List.length_take]; rfl)) ?_; (with_reducible refine (laws_heldTieS.calls kj16 _ _ t138 1 t102 _ ?side1 ?side2 A46.out).mono ?_); (case side1 => exact qc (Kd.R_reads' HO_6.out).2.2); (case side2 => rw [show t138.length = t110.length from (Kd.R_reads' HO_6.out).1.symm]; exact (Kd.R_reads' HO_6.out).2.1); rintro e w' ⟨rfl, ⟨nd, rfl⟩⟩; refine ⟨_, rfl, ?_⟩; have hnb74 := NB116_132.out; have hnc74 := NB132_116.out; have hcz75_0 : w73.cell? ⟨gb116, 0, none⟩ = some (.int .i64 a0_0) := (blk_cell BK116.out 0).trans rfl; have hcz75_1 : w73.cell? ⟨gb116, 1, none⟩ = some (.slice A0_1 l0_1.length c0_1) := (blk_cell BK116.out 1).trans rfl; have hfz75_0 := blk_frozen BK116.out 0; have hfz75_1 := blk_frozen BK116.out 1) | ((with_reducible refine gate_callee (f := 16) rfl ?_); refine goesL_ (some 55) rfl rfl Try.func16 (by kernel_rfl) rfl #[.agg #[.int .i64 a0_0, .slice A0_1 l0_1.length c0_1]] rfl qm ?_; (with_reducible refine (laws_toNet.calls kj16 a0_0 _ _ l0_1 t103 t141 _ ?side1 ?side2 A50.out).mono ?_); (case side1 => exact qc (Kd.C_below HR0_1.out (qb HB.out))); (case side2 => exact HC0_1.out); rintro e w76 ⟨v146, rfl, ho0, hb⟩; refine ⟨_, rfl, ?_⟩; have n0_ := q0 (Kd.R_elder' (qr HO_4.out) (Kd.R_base ho0) hb); have n1_ := q0 (Kd.R_elder' (qr HO_6.out) (Kd.R_base ho0) hb); have n2_ := q0 (Kd.R_elder' (qr HO_110001.out) (Kd.R_base ho0) hb); have n3_ := q0 (Kd.R_lower (Kd.R_new' (Kd.R_new' (Kd.R_new' ho0 (Kd.R_lt (qr HO_4.out))) (Kd.R_lt (qr HO_6.out))) (Kd.R_lt (qr HO_110001.out))) (below_size (qb HB.out))); have n4_ := q0 (kb BK116.out hb); have n5_ := q0 (kb BK132.out hb); have n6_ := q0 (below_step (qb HB.out) hb); clear HO_4 HO_6 HO_110001 BK116 BK132 HB; have HO_4 := n0_; have HO_6 := n1_; have HO_110001 := n2_; have HO147 := n3_; have BK116 := n4_; have BK132 := n5_; have HB := n6_; clear n0_ n1_ n2_ n3_ n4_ n5_ n6_; (try clear hb); (try clear hb2); (try clear hk); (try clear hi); (try clear ho0); obtain ⟨Ao77, co77, eo77⟩ := Kd.R_slice HO147.out; subst eo77) | ((with_reducible refine gate_callee (f := 43) rfl ?_); refine goesL_ (some 56) rfl rfl Try.func43 (by kernel_rfl) rfl #[.agg #[.int .i64 t103, .slice Ao77 t141.length co77]] rfl qm ?_; (with_reducible refine (impl_TreeOf.calls kj16 t103 _ _ t141 t104 _ ?side1 ?side2 A51.out).mono ?_); (case side1 => exact qc (Kd.R_reads' HO147.out).2.2); (case side2 => exact (Kd.R_reads' HO147.out).2.1); rintro e w78 ⟨v148, rfl, ho0, hb⟩; refine ⟨_, rfl, ?_⟩; have n0_ := q0 (Kd.R_elder' (qr HO_4.out) (Kd.R_base ho0) hb); have n1_ := q0 (Kd.R_elder' (qr HO_6.out) (Kd.R_base ho0) hb); have n2_ := q0 (Kd.R_elder' (qr HO_110001.out) (Kd.R_base ho0) hb); have n3_ := q0 (Kd.R_elder' (qr HO147.out) (Kd.R_base ho0) hb); have n4_ := q0 (Kd.R_lower (Kd.R_new' (Kd.R_new' (Kd.R_new' (Kd.R_new' ho0 (Kd.R_lt (qr HO_4.out))) (Kd.R_lt (qr HO_6.out))) (Kd.R_lt (qr HO_110001.out))) (Kd.R_lt (qr HO147.out))) (below_size (qb HB.out))); have n5_ := q0 (kb BK116.out hb); have n6_ := q0 (kb BK132.out hb); have n7_ := q0 (below_step (qb HB.out) hb); clear HO_4 HO_6 HO_110001 HO147 BK116 BK132 HB; have HO_4 := n0_; have HO_6 := n1_; have HO_110001 := n2_; have HO147 := n3_; have HO149 := n4_; have BK116 := n5_; have BK132 := n6_; have HB := n7_; clear n0_ n1_ n2_ n3_ n4_ n5_ n6_ n7_; (try clear hb); (try clear hb2); (try clear hk); (try clear hi); (try clear ho0); obtain ⟨Ao79, co79, eo79⟩ := Kd.R_slice HO149.out; subst eo79) | ((with_reducible refine gate_callee (f := 44) rfl ?_); refine goesL_ (some 59) rfl rfl Try.func44 (by kernel_rfl) rfl #[.slice Ao79 t104.length co79, .slice Ao33 t108.length co33] rfl qm ?_; (with_reducible refine (laws_eqTieS.calls kj16 _ _ t104 _ _ t108 true _ ?side1 ?side2 ?side3 ?side4 A52.out).mono ?_); (case side1 => exact qc (Kd.R_reads' HO149.out).2.2); (case side2 => exact (Kd.R_reads' HO149.out).2.1); (case side3 => exact qc (Kd.R_reads' HO_4.out).2.2); (case side4 => exact (Kd.R_reads' HO_4.out).2.1); rintro e w80 ⟨rfl, hb⟩; refine ⟨_, rfl, ?_⟩; have n0_ := q0 (Kd.R_below (qr HO_4.out) hb); have n1_ := q0 (Kd.R_below (qr HO_6.out) hb); have n2_ := q0 (Kd.R_below (qr HO_110001.out) hb); have n3_ := q0 (Kd.R_below (qr HO147.out) hb); have n4_ := q0 (Kd.R_below (qr HO149.out) hb); have n5_ := q0 (kb BK116.out hb); have n6_ := q0 (kb BK132.out hb); have n7_ := q0 (below_step (qb HB.out) hb); clear HO_4 HO_6 HO_110001 HO147 HO149 BK116 BK132 HB; have HO_4 := n0_; have HO_6 := n1_; have HO_110001 := n2_; have HO147 := n3_; have HO149 := n4_; have BK116 := n5_; have BK132 := n6_; have HB := n7_; clear n0_ n1_ n2_ n3_ n4_ n5_ n6_ n7_; (try clear hb); (try clear hb2); (try clear hk); (try clear hi)) | ((with_reducible refine gate_callee (f := 46) rfl ?_); refine goesL_ (some 63) rfl rfl Try.func46 (by kernel_rfl) rfl #[.slice Ao32 t138.length co32, .int .i64 1] rfl (by (try simp only [List.map_toArray, List.map_cons, List.map_nil]); first | done | (rw [show t138.length = t110.length from (Kd.R_reads' HO_6.out).1.symm] <;> rfl) | rfl | (simp only [List.length_drop, List.length_take]; rfl)) ?_; (with_reducible refine (laws_heldTieS.calls kj16 _ _ t138 1 t106 _ ?side1 ?side2 A54.out).mono ?_); (case side1 => exact qc (Kd.R_reads' HO_6.out).2.2); (case side2 => rw [show t138.length = t110.length from (Kd.R_reads' HO_6.out).1.symm]; exact (Kd.R_reads' HO_6.out).2.1); rintro e w' ⟨rfl, ⟨nd, rfl⟩⟩; refine ⟨_, rfl, ?_⟩))
   go_ret
   exact ⟨qe, qb HB.out⟩
 rw [if_pos c64] at H
 have c64b0 : (t106 == t101) = true := beq_iff_eq.mpr c64
 have c64b1 : (t106 != t101) = false := bne_eq_false_iff_eq.mpr c64
 clear c64
 obtain rfl := Option.some.inj H
 go_wp2_with (first | ((with_reducible refine gate_callee (f := 45) rfl ?_); refine goesL_ (some 45) rfl rfl Try.func45 (by kernel_rfl) rfl #[.slice Ao32 t110.length co32, .int .i64 1] rfl qm ?_; (with_reducible refine (laws_markTieS.calls kj16 (fun k_ => some k_ = (.slice Ao32 t110.length co32 : Value).ownBlock) (.slice Ao32 t110.length co32) t110 1 t101 t138 w _ ?side1 ?side2 A45.out).mono ?_); (case side1 => exact qb HB.out); (case side2 => exact Kd.R_tight rfl HO_6.out); rintro e w65 ⟨rfl, hy0, hb, hkp⟩; refine ⟨_, rfl, ?_⟩; have n0_ := q0 (Kd.R_mono (ok' := fun k_ => some k_ ≠ (.slice Ao32 t110.length co32 : Value).ownBlock ∧ some k_ ≠ (.slice Ao30 t124.length co30 : Value).ownBlock) (Kd.R_keptB (HO_4.out) hkp (fun k_ hk_ hs_ => (hk_.1) hs_)) (fun k_ hk_ => ⟨hk_.1.1, hk_.1.2⟩)); have n1_ := q0 (Kd.R_reok rfl hy0 (fun k_ e_ => HO_6.out.1 k_ e_)); have n2_ := q0 (Kd.R_mono (ok' := fun k_ => some k_ ≠ (.slice Ao33 t108.length co33 : Value).ownBlock ∧ some k_ ≠ (.slice Ao32 t110.length co32 : Value).ownBlock) (Kd.R_keptB (HO_110001.out) hkp (fun k_ hk_ hs_ => (hk_.2) hs_)) (fun k_ hk_ => ⟨hk_.1.1, hk_.1.2⟩)); have n3_ := q0 (blk_kept (qk BK116.out) hkp (fun hs_ => (fun e_ => (Kd.R_ne HO_6.out BK116.out (by decide)) e_) hs_)); have n4_ := q0 (blk_kept (qk BK132.out) hkp (fun hs_ => (fun e_ => (Kd.R_ne HO_6.out BK132.out (by decide)) e_) hs_)); have n5_ := q0 (hb); clear HO_4 HO_6 HO_110001 BK116 BK132 HB; have HO_4 := n0_; have HO_6 := n1_; have HO_110001 := n2_; have BK116 := n3_; have BK132 := n4_; have HB := n5_; clear n0_ n1_ n2_ n3_ n4_ n5_; (try clear hb); (try clear hkp); (try clear hy0)) | ((with_reducible refine gate_callee (f := 46) rfl ?_); refine goesL_ (some 48) rfl rfl Try.func46 (by kernel_rfl) rfl #[.slice Ao32 t138.length co32, .int .i64 1] rfl (by (try simp only [List.map_toArray, List.map_cons, List.map_nil]); first | done | (rw [show t138.length = t110.length from (Kd.R_reads' HO_6.out).1.symm] <;> rfl) | rfl | (simp only [List.length_drop, List.length_take]; rfl)) ?_; (with_reducible refine (laws_heldTieS.calls kj16 _ _ t138 1 t102 _ ?side1 ?side2 A46.out).mono ?_); (case side1 => exact qc (Kd.R_reads' HO_6.out).2.2); (case side2 => rw [show t138.length = t110.length from (Kd.R_reads' HO_6.out).1.symm]; exact (Kd.R_reads' HO_6.out).2.1); rintro e w' ⟨rfl, ⟨nd, rfl⟩⟩; refine ⟨_, rfl, ?_⟩; have hnb66 := NB116_132.out; have hnc66 := NB132_116.out; have hcz67_0 : w65.cell? ⟨gb116, 0, none⟩ = some (.int .i64 a0_0) := (blk_cell BK116.out 0).trans rfl; have hcz67_1 : w65.cell? ⟨gb116, 1, none⟩ = some (.slice A0_1 l0_1.length c0_1) := (blk_cell BK116.out 1).trans rfl; have hfz67_0 := blk_frozen BK116.out 0; have hfz67_1 := blk_frozen BK116.out 1) | ((with_reducible refine gate_callee (f := 16) rfl ?_); refine goesL_ (some 55) rfl rfl Try.func16 (by kernel_rfl) rfl #[.agg #[.int .i64 a0_0, .slice A0_1 l0_1.length c0_1]] rfl qm ?_; (with_reducible refine (laws_toNet.calls kj16 a0_0 _ _ l0_1 t103 t141 _ ?side1 ?side2 A50.out).mono ?_); (case side1 => exact qc (Kd.C_below HR0_1.out (qb HB.out))); (case side2 => exact HC0_1.out); rintro e w68 ⟨v146, rfl, ho0, hb⟩; refine ⟨_, rfl, ?_⟩; have n0_ := q0 (Kd.R_elder' (qr HO_4.out) (Kd.R_base ho0) hb); have n1_ := q0 (Kd.R_elder' (qr HO_6.out) (Kd.R_base ho0) hb); have n2_ := q0 (Kd.R_elder' (qr HO_110001.out) (Kd.R_base ho0) hb); have n3_ := q0 (Kd.R_lower (Kd.R_new' (Kd.R_new' (Kd.R_new' ho0 (Kd.R_lt (qr HO_4.out))) (Kd.R_lt (qr HO_6.out))) (Kd.R_lt (qr HO_110001.out))) (below_size (qb HB.out))); have n4_ := q0 (kb BK116.out hb); have n5_ := q0 (kb BK132.out hb); have n6_ := q0 (below_step (qb HB.out) hb); clear HO_4 HO_6 HO_110001 BK116 BK132 HB; have HO_4 := n0_; have HO_6 := n1_; have HO_110001 := n2_; have HO147 := n3_; have BK116 := n4_; have BK132 := n5_; have HB := n6_; clear n0_ n1_ n2_ n3_ n4_ n5_ n6_; (try clear hb); (try clear hb2); (try clear hk); (try clear hi); (try clear ho0); obtain ⟨Ao69, co69, eo69⟩ := Kd.R_slice HO147.out; subst eo69) | ((with_reducible refine gate_callee (f := 43) rfl ?_); refine goesL_ (some 56) rfl rfl Try.func43 (by kernel_rfl) rfl #[.agg #[.int .i64 t103, .slice Ao69 t141.length co69]] rfl qm ?_; (with_reducible refine (impl_TreeOf.calls kj16 t103 _ _ t141 t104 _ ?side1 ?side2 A51.out).mono ?_); (case side1 => exact qc (Kd.R_reads' HO147.out).2.2); (case side2 => exact (Kd.R_reads' HO147.out).2.1); rintro e w70 ⟨v148, rfl, ho0, hb⟩; refine ⟨_, rfl, ?_⟩; have n0_ := q0 (Kd.R_elder' (qr HO_4.out) (Kd.R_base ho0) hb); have n1_ := q0 (Kd.R_elder' (qr HO_6.out) (Kd.R_base ho0) hb); have n2_ := q0 (Kd.R_elder' (qr HO_110001.out) (Kd.R_base ho0) hb); have n3_ := q0 (Kd.R_elder' (qr HO147.out) (Kd.R_base ho0) hb); have n4_ := q0 (Kd.R_lower (Kd.R_new' (Kd.R_new' (Kd.R_new' (Kd.R_new' ho0 (Kd.R_lt (qr HO_4.out))) (Kd.R_lt (qr HO_6.out))) (Kd.R_lt (qr HO_110001.out))) (Kd.R_lt (qr HO147.out))) (below_size (qb HB.out))); have n5_ := q0 (kb BK116.out hb); have n6_ := q0 (kb BK132.out hb); have n7_ := q0 (below_step (qb HB.out) hb); clear HO_4 HO_6 HO_110001 HO147 BK116 BK132 HB; have HO_4 := n0_; have HO_6 := n1_; have HO_110001 := n2_; have HO147 := n3_; have HO149 := n4_; have BK116 := n5_; have BK132 := n6_; have HB := n7_; clear n0_ n1_ n2_ n3_ n4_ n5_ n6_ n7_; (try clear hb); (try clear hb2); (try clear hk); (try clear hi); (try clear ho0); obtain ⟨Ao71, co71, eo71⟩ := Kd.R_slice HO149.out; subst eo71) | ((with_reducible refine gate_callee (f := 44) rfl ?_); refine goesL_ (some 59) rfl rfl Try.func44 (by kernel_rfl) rfl #[.slice Ao71 t104.length co71, .slice Ao33 t108.length co33] rfl qm ?_; (with_reducible refine (laws_eqTieS.calls kj16 _ _ t104 _ _ t108 true _ ?side1 ?side2 ?side3 ?side4 A52.out).mono ?_); (case side1 => exact qc (Kd.R_reads' HO149.out).2.2); (case side2 => exact (Kd.R_reads' HO149.out).2.1); (case side3 => exact qc (Kd.R_reads' HO_4.out).2.2); (case side4 => exact (Kd.R_reads' HO_4.out).2.1); rintro e w72 ⟨rfl, hb⟩; refine ⟨_, rfl, ?_⟩; have n0_ := q0 (Kd.R_below (qr HO_4.out) hb); have n1_ := q0 (Kd.R_below (qr HO_6.out) hb); have n2_ := q0 (Kd.R_below (qr HO_110001.out) hb); have n3_ := q0 (Kd.R_below (qr HO147.out) hb); have n4_ := q0 (Kd.R_below (qr HO149.out) hb); have n5_ := q0 (kb BK116.out hb); have n6_ := q0 (kb BK132.out hb); have n7_ := q0 (below_step (qb HB.out) hb); clear HO_4 HO_6 HO_110001 HO147 HO149 BK116 BK132 HB; have HO_4 := n0_; have HO_6 := n1_; have HO_110001 := n2_; have HO147 := n3_; have HO149 := n4_; have BK116 := n5_; have BK132 := n6_; have HB := n7_; clear n0_ n1_ n2_ n3_ n4_ n5_ n6_ n7_; (try clear hb); (try clear hb2); (try clear hk); (try clear hi)) | ((with_reducible refine gate_callee (f := 46) rfl ?_); refine goesL_ (some 63) rfl rfl Try.func46 (by kernel_rfl) rfl #[.slice Ao32 t138.length co32, .int .i64 1] rfl (by (try simp only [List.map_toArray, List.map_cons, List.map_nil]); first | done | (rw [show t138.length = t110.length from (Kd.R_reads' HO_6.out).1.symm] <;> rfl) | rfl | (simp only [List.length_drop, List.length_take]; rfl)) ?_; (with_reducible refine (laws_heldTieS.calls kj16 _ _ t138 1 t106 _ ?side1 ?side2 A54.out).mono ?_); (case side1 => exact qc (Kd.R_reads' HO_6.out).2.2); (case side2 => rw [show t138.length = t110.length from (Kd.R_reads' HO_6.out).1.symm]; exact (Kd.R_reads' HO_6.out).2.1); rintro e w' ⟨rfl, ⟨nd, rfl⟩⟩; refine ⟨_, rfl, ?_⟩))
 go_ret
 exact ⟨qe, qb HB.out⟩

end Go.Proofs.Ythaihdfkjhammaa.P
