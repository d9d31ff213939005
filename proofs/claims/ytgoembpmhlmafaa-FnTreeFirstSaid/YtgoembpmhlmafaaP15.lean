import Derived.Test.YtgoembpmhlmafaaP0
import Derived.Test.YtgoembpmhlmafaaP1
import Derived.Test.YtgoembpmhlmafaaP2
import Derived.Test.YtgoembpmhlmafaaP6
import Derived.Test.YtgoembpmhlmafaaP10
import Derived.Test.YtgoembpmhlmafaaP13
namespace Go.Proofs.Ytgoembpmhlmafaa.P
open Go.RowKit Go.Proofs.YtgoembpmhlmafaaW.PrintWords Go.Proofs.YtgoembpmhlmafaaW.PrintLast Go.Proofs.YtgoembpmhlmafaaW.PrintMore
attribute [local go_sem] max2_int min2_int max_two min_two max_three min_three max_four min_four
set_option linter.unusedVariables false
set_option linter.unusedSimpArgs false
attribute [local go_sem high] eqATie
def spec_TreeOf.T7 : Bool × List (List Nat × List Nat) := (true, [([], []), ([0], [0]), ([], []), ([1, 2], [1, 2]), ([], []), ([4], [4]), ([], []), ([5, 6], [5, 6]), ([7], [7]), ([8], [8]), ([3, 9], [3, 9]), ([10, 10, 0, 1, 2, 3, 4, 5, 6, 7, 8, 9, 10], [10])])
def spec_TreeOf.B7 : List Nat := [0, 1, 0, 7, 0, 16, 0, 112, 240, 496, 1023, 2047]
theorem spec_TreeOf.tab7 : rtab .any (opsOf Try.f24 7) = spec_TreeOf.T7 := by kernel_rfl
theorem spec_TreeOf.bits7 : waitsOk spec_TreeOf.T7.2 spec_TreeOf.B7 = true := by kernel_rfl
set_option maxHeartbeats 8000000 in
set_option maxRecDepth 100000 in
theorem spec_TreeOf.calls (k : Nat) (a0_0 : Int) (A0_1 : Option Addr) (c0_1 : Nat) (l0_1 : List (STie)) (r : List (STie)) (w : World) (hr0_1 : Kd.C kTie w A0_1 l0_1.length l0_1) (hc0_1 : l0_1.length ≤ c0_1) (h : spec_TreeOf.f k a0_0 l0_1 = some r) :
    Calls Try.prog 24 #[.agg #[.int .i64 a0_0, .slice A0_1 l0_1.length c0_1]] w fun e w' => ∃ v0_ : Value, e = .returned (v0_) ∧ Kd.R kTie 32 w' w.heap.size (fun _ => True) v0_ r ∧ Below w.heap.size w w' := by
 have hu25 := Try.underlying25
 have hu32 := Try.underlying32
 have HR0_1 := Aside0.mk hr0_1
 have HC0_1 := Aside0.mk hc0_1
 clear hr0_1 hc0_1
 have HB := q0 (Below.refl w.heap.size w)
 have H : ((some (([] : List (STie)) : List (STie))).bind fun y100 => ((spec_NetOk.f k a0_0 l0_1).bind fun t102 => (if t102 = true then (spec_TreeOf.l0 k y100 0 a0_0 l0_1) else (some y100)))) = some r := h
 clear h
 obtain ⟨y100, hy100⟩ : ∃ y_ : List (STie), y_ = (([] : List (STie))) := ⟨_, rfl⟩
 replace H : ((spec_NetOk.f k a0_0 l0_1).bind fun t102 => (if t102 = true then (spec_TreeOf.l0 k y100 0 a0_0 l0_1) else (some y100))) = some r := qy H hy100
 have Ny100 := Aside0.mk hy100
 clear hy100
 replace H := Option.bind_eq_some_iff.mp H
 obtain ⟨t102, A20, H⟩ := H
 have A2 := Aside0.mk A20
 clear A20
 by_cases c3 : t102 = true
 rotate_left
 · replace c3 := Bool.eq_false_iff.mpr c3
   subst c3
   rw [if_neg nf] at H
   obtain rfl := Option.some.inj H
   go_enter Try.func24, Try.ntmps24
   go_wp2_with (first | ((with_reducible refine gate_dst (N := 1) rfl ?_); refine be 1 #[.int .i64 a0_0, .slice A0_1 l0_1.length c0_1] 25 ?_; intro gb103 hg w31 hbox hb; have BK103 := q0 (hbox); have GW103 := q0 ((bs HB.out hg : w.heap.size ≤ gb103)); have GE103 := q0 ((bs HB.out hg : w.heap.size ≤ gb103)); replace HB := q0 (below_step (qb HB.out) hb); clear hb hbox hg) | ((with_reducible refine gate_dst (N := 6) rfl ?_); refine Kd.R_lit kTie _ 32 ?hg (N := 6) ?hd (xs := ([] : List (STie))) (inner := []) (ok := fun _ => True) (okp := fun _ => True) ?hr ?hp (fun _ hk => hk) trivial (Below.refl _ _) (Nat.le_refl _) (by simp) ?_; (case hd => rfl); (case hg => rfl); (case hr => first | (go_simp; done) | (go_simp; rfl)); (case hp => exact (Reps.none _ _)); intro v104 w32 ho33 hb hg_ hnew_; clear hg_ hnew_; (first | rw [← Ny100.out] at ho33 | (simp only [Int.reduceToNat] at ho33; rw [← Ny100.out] at ho33)); have HO105 := q0 (Kd.R_lower ho33 (below_size (qb HB.out))); replace BK103 := q0 (kb BK103.out hb); replace HB := q0 (below_step (qb HB.out) hb); clear hb ho33; have hcz34_0 : w32.cell? ⟨gb103, 0, none⟩ = some (.int .i64 a0_0) := (blk_cell BK103.out 0).trans rfl; have hcz34_1 : w32.cell? ⟨gb103, 1, none⟩ = some (.slice A0_1 l0_1.length c0_1) := (blk_cell BK103.out 1).trans rfl; have hfz34_0 := blk_frozen BK103.out 0; have hfz34_1 := blk_frozen BK103.out 1) | ((with_reducible refine gate_callee (f := 49) rfl ?_); refine gl 8 Try.func49 #[.agg #[.int .i64 a0_0, .slice A0_1 l0_1.length c0_1]] ?_; (with_reducible refine (spec_NetOk.calls k a0_0 _ _ l0_1 false _ ?side1 ?side2 A2.out).mono ?_); (case side1 => exact qc (Kd.C_below HR0_1.out HB.out)); (case side2 => exact HC0_1.out); rintro e w35 ⟨rfl, hb⟩; refine ⟨_, rfl, ?_⟩; replace HO105 := q0 (Kd.R_below (qr HO105.out) hb); replace BK103 := q0 (kb BK103.out hb); replace HB := q0 (below_step (qb HB.out) hb); (try clear hb); (try clear hb2); (try clear hk); (try clear hi)))
   go_ret
   exact ⟨_, qe, qr HO105.out, qb HB.out⟩
 subst c3
 rw [if_pos rfl] at H
 have H' := Aside0.mk H
 clear H
 go_enter Try.func24, Try.ntmps24
 go_wp2_with (first | ((with_reducible refine gate_dst (N := 1) rfl ?_); refine be 1 #[.int .i64 a0_0, .slice A0_1 l0_1.length c0_1] 25 ?_; intro gb103 hg w4 hbox hb; have BK103 := q0 (hbox); have GW103 := q0 ((bs HB.out hg : w.heap.size ≤ gb103)); have GE103 := q0 ((bs HB.out hg : w.heap.size ≤ gb103)); replace HB := q0 (below_step (qb HB.out) hb); clear hb hbox hg) | ((with_reducible refine gate_dst (N := 6) rfl ?_); refine Kd.R_lit kTie _ 32 ?hg (N := 6) ?hd (xs := ([] : List (STie))) (inner := []) (ok := fun _ => True) (okp := fun _ => True) ?hr ?hp (fun _ hk => hk) trivial (Below.refl _ _) (Nat.le_refl _) (by simp) ?_; (case hd => rfl); (case hg => rfl); (case hr => first | (go_simp; done) | (go_simp; rfl)); (case hp => exact (Reps.none _ _)); intro v104 w5 ho6 hb hg_ hnew_; clear hg_ hnew_; (first | rw [← Ny100.out] at ho6 | (simp only [Int.reduceToNat] at ho6; rw [← Ny100.out] at ho6)); have HO105 := q0 (Kd.R_lower ho6 (below_size (qb HB.out))); replace BK103 := q0 (kb BK103.out hb); replace HB := q0 (below_step (qb HB.out) hb); clear hb ho6; have hcz7_0 : w5.cell? ⟨gb103, 0, none⟩ = some (.int .i64 a0_0) := (blk_cell BK103.out 0).trans rfl; have hcz7_1 : w5.cell? ⟨gb103, 1, none⟩ = some (.slice A0_1 l0_1.length c0_1) := (blk_cell BK103.out 1).trans rfl; have hfz7_0 := blk_frozen BK103.out 0; have hfz7_1 := blk_frozen BK103.out 1) | ((with_reducible refine gate_callee (f := 49) rfl ?_); refine gl 8 Try.func49 #[.agg #[.int .i64 a0_0, .slice A0_1 l0_1.length c0_1]] ?_; (with_reducible refine (spec_NetOk.calls k a0_0 _ _ l0_1 true _ ?side1 ?side2 A2.out).mono ?_); (case side1 => exact qc (Kd.C_below HR0_1.out HB.out)); (case side2 => exact HC0_1.out); rintro e w8 ⟨rfl, hb⟩; refine ⟨_, rfl, ?_⟩; replace HO105 := q0 (Kd.R_below (qr HO105.out) hb); replace BK103 := q0 (kb BK103.out hb); replace HB := q0 (below_step (qb HB.out) hb); (try clear hb); (try clear hb2); (try clear hk); (try clear hi)))
 go_loopg [3, 4] k (fun kq v3 v4 w' => ∃ (x3_1 : List (STie)) (x4_1 : Int), v4 = .int .i64 x4_1 ∧ Aside0 (spec_TreeOf.l0 kq x3_1 x4_1 a0_0 l0_1 = some r) ∧ Aside0 (kq ≤ k) ∧ Aside0 (Kd.R kTie 32 w' w.heap.size (fun _ => True) v3 x3_1) ∧ Aside0 (w'.heap[gb103]? = some (.cells #[.int .i64 a0_0, (.slice A0_1 l0_1.length c0_1)] 25 (0, 0))) ∧ Aside0 (Below w.heap.size w w'))
 case atStart => exact ⟨(y100), (0), qs, H', ⟨Nat.le_refl _⟩, ⟨qr HO105.out⟩, ⟨qk BK103.out⟩, ⟨qb HB.out⟩⟩
 clear H'
 try clear c2
 try clear p2
 try clear c3
 try clear c4
 try clear hcz7_0
 try clear hcz7_1
 try clear hfz7_0
 try clear hfz7_1
 obtain ⟨x3_1, x4_1, rfl, HA, HK1, HO_3, BK103, HB⟩ := hrel
 rcases gk with _ | k1
 · exact absurd HA.out (by simp [spec_TreeOf.l0])
 have H := HA.out
 clear HA
 simp only [spec_TreeOf.l0] at H
 by_cases c9 : x4_1 < (l0_1.length : Int)
 rotate_left
 · rw [if_neg c9] at H
   have c9b0 : decide (x4_1 < (l0_1.length : Int)) = false := decide_eq_false c9
   clear c9
   obtain rfl := Option.some.inj H
   have hcz30_0 : wr.cell? ⟨gb103, 0, none⟩ = some (.int .i64 a0_0) := (blk_cell BK103.out 0).trans rfl
   have hcz30_1 : wr.cell? ⟨gb103, 1, none⟩ = some (.slice A0_1 l0_1.length c0_1) := (blk_cell BK103.out 1).trans rfl
   have hfz30_0 := blk_frozen BK103.out 0
   have hfz30_1 := blk_frozen BK103.out 1
   go_wp2
   go_ret
   exact ⟨_, qe, qr HO_3.out, qb HB.out⟩
 rw [if_pos c9] at H
 have c9b0 : decide (x4_1 < (l0_1.length : Int)) = true := decide_eq_true c9
 clear c9
 by_cases c10 : 0 ≤ x4_1
 rotate_left
 · rw [if_neg c10] at H
   exact absurd H (by simp)
 rw [if_pos c10] at H
 have c10b0 : decide (0 ≤ x4_1) = true := decide_eq_true c10
 clear c10
 replace H := Option.bind_eq_some_iff.mp H
 obtain ⟨t101, A106, H⟩ := H
 have A11 := Aside0.mk A106
 clear A106
 by_cases c12 : 0 ≤ ((rd_TTie l0_1 x4_1).f1)
 rotate_left
 · rw [if_neg c12] at H
   exact absurd H (by simp)
 rw [if_pos c12] at H
 have c12b0 : decide (0 ≤ ((rd_TTie l0_1 x4_1).f1)) = true := decide_eq_true c12
 clear c12
 by_cases c13 : ((rd_TTie l0_1 x4_1).f1) < (t101.length : Int)
 rotate_left
 · rw [if_neg c13] at H
   exact absurd H (by simp)
 rw [if_pos c13] at H
 have c13b0 : decide (((rd_TTie l0_1 x4_1).f1) < (t101.length : Int)) = true := decide_eq_true c13
 clear c13
 obtain ⟨bq14, hbq14⟩ : ∃ b_ : Bool, b_ = (rdOf false t101 ((rd_TTie l0_1 x4_1).f1)) := ⟨_, rfl⟩
 replace H : (if (bq14 = true) then (spec_TreeOf.l0 k1 x3_1 (wrap64 (x4_1 + 1)) a0_0 l0_1) else (if x3_1.length < 8796093022208 then (spec_TreeOf.l0 k1 (x3_1 ++ [(⟨(rd_TTie l0_1 x4_1).f0, (rd_TTie l0_1 x4_1).f1⟩ : STie)]) (wrap64 (x4_1 + 1)) a0_0 l0_1) else (none))) = some r := by rw [← hbq14] at H; exact H
 have Nbq14 := Aside0.mk hbq14
 clear hbq14
 by_cases c15 : (bq14 = true)
 · subst c15
   rw [if_pos rfl] at H
   have H' := Aside0.mk H
   clear H
   have hcz16_0 : wr.cell? ⟨gb103, 0, none⟩ = some (.int .i64 a0_0) := (blk_cell BK103.out 0).trans rfl
   have hcz16_1 : wr.cell? ⟨gb103, 1, none⟩ = some (.slice A0_1 l0_1.length c0_1) := (blk_cell BK103.out 1).trans rfl
   have hfz16_0 := blk_frozen BK103.out 0
   have hfz16_1 := blk_frozen BK103.out 1
   try go_wp2
   replace HO_3 := q0 (Kd.R_drew HO_3.out)
   replace BK103 := q0 (blk_drew BK103.out)
   replace HB := q0 (below_drew1 HB.out)
   obtain ⟨Ao18, co18, eo18⟩ := Kd.R_slice HO_3.out
   (first | subst eo18 | (injection eo18 with f1_ f2_ f3_; have f4_ := f1_.symm; have f5_ := f3_.symm; clear f1_ f2_ f3_; subst f4_; subst f5_))
   have p107 : 0 ≤ (x4_1 : Int) := of_decide_eq_true qa
   have q107 : x4_1 < (l0_1.length : Int) := of_decide_eq_true qa
   obtain ⟨ad107, e107, hx107_0, hx107_1⟩ := at_TTie HR0_1.out x4_1 p107 q107
   have hw107_1 := hx107_1
   have hw107_0 := hx107_0
   cases e107
   replace hx107_0 := (HB.out.cell (World.block_lt_of_cell? w _ hx107_0)).trans hx107_0
   replace hx107_1 := (HB.out.cell (World.block_lt_of_cell? w _ hx107_1)).trans hx107_1
   replace p107 := eq_true p107
   replace q107 := eq_true q107
   refine start_ (n := 12) (S := fun w' => w'.cell? ⟨gb103, 0, none⟩ = some (.int .i64 a0_0) ∧ w'.cell? ⟨gb103, 1, none⟩ = some (.slice (some ad107) l0_1.length c0_1) ∧ w'.cell? (ad107.add ((x4_1).toNat * 2)) = some (.int .i64 ((rd_TTie l0_1 x4_1).f0)) ∧ w'.cell? ⟨(ad107.add ((x4_1).toNat * 2)).block, (ad107.add ((x4_1).toNat * 2)).off + 1, none⟩ = some (.int .i64 ((rd_TTie l0_1 x4_1).f1))) (ds := []) (ba 12 0) (by kernel_rfl) rfl (by kernel_rfl) ⟨(blk_cell BK103.out 0).trans rfl, (blk_cell BK103.out 1).trans rfl, ((HB.out.cell (World.block_lt_of_cell? w _ hw107_0)).trans hw107_0), ((HB.out.cell (World.block_lt_of_cell? w _ hw107_1)).trans hw107_1)⟩ (fun hHeld => ?_); refine with_tabW spec_TreeOf.tab7 spec_TreeOf.bits7 (fun HT_ HW_ => ?_)
   generalize wr.drew = w17 at HO_3 BK103 HB hx107_0 hx107_1 hHeld ⊢
   refine pu 0 (some 18) (ba 12 1) HT_.out ?_
   refine pu 2 (some 20) (ba 12 5) HT_.out ?_
   refine pu 4 (some 22) (ba 12 21) HT_.out ?_
   refine pu 6 (some 24) (ba 12 85) HT_.out ?_
   refine tu 1 (some 19) (ba 12 87) HT_.out HW_.out hHeld ?_
   refine pu 3 (some 21) (ba 12 95) HT_.out ?_
   refine tu 5 (some 23) (ba 12 127) HT_.out HW_.out hHeld ?_
   refine pu 7 (some 25) (ba 12 255) HT_.out ?_
   refine pu 8 (some 26) (ba 12 511) HT_.out ?_
   refine tu 9 (some 27) (ba 12 1023) HT_.out HW_.out hHeld ?_
   refine one_ (i := 10) (N := some 28) (ba 12 2047) rfl rfl (one_of HT_.out (by kernel_rfl)) (by decide) (fun K hK => ?_)
   refine goes_ Try.func65 (by kernel_rfl) rfl #[.agg #[.int .i64 a0_0, .slice Ao18 x3_1.length co18], .int .i64 ((rd_TTie l0_1 x4_1).f0)] (by rfl) rfl rfl qm ?_
   with_reducible refine (spec_WayReach.calls k1 a0_0 _ _ x3_1 ((rd_TTie l0_1 x4_1).f0) t101 _ ?side1 ?side2 A11.out).mono ?_
   (case side1 => exact qc (Kd.R_reads' HO_3.out).2.2)
   (case side2 => exact (Kd.R_reads' HO_3.out).2.1)
   rintro e w19 ⟨v108, rfl, ho0, hb⟩
   refine ⟨_, rfl, ?_⟩
   replace HO_3 := q0 (Kd.R_below (qr HO_3.out) hb)
   have HO109 := q0 (Kd.R_lower ho0 (below_size (qb HB.out)))
   replace BK103 := q0 (kb BK103.out hb)
   replace HB := q0 (below_step (qb HB.out) hb)
   (try clear hb)
   (try clear hb2)
   (try clear hk)
   (try clear hi)
   (try clear ho0)
   refine hK.out _ _ ⟨(blk_cell BK103.out 0).trans rfl, (blk_cell BK103.out 1).trans rfl, ((HB.out.cell (World.block_lt_of_cell? w _ hw107_0)).trans hw107_0), ((HB.out.cell (World.block_lt_of_cell? w _ hw107_1)).trans hw107_1)⟩ (fun hHeld => ?_)
   clear hK K
   refine nu 28 ?_
   refine pu 11 (some 5) (ba 12 4095) HT_.out ?_
   refine done_ (done_of HT_.out (by kernel_rfl)) ?_
   have hcz20_0 : w19.cell? ⟨gb103, 0, none⟩ = some (.int .i64 a0_0) := (blk_cell BK103.out 0).trans rfl
   have hcz20_1 : w19.cell? ⟨gb103, 1, none⟩ = some (.slice (some ad107) l0_1.length c0_1) := (blk_cell BK103.out 1).trans rfl
   have hfz20_0 := blk_frozen BK103.out 0
   have hfz20_1 := blk_frozen BK103.out 1
   have p110 : 0 ≤ (x4_1 : Int) := of_decide_eq_true qa
   have q110 : x4_1 < (l0_1.length : Int) := of_decide_eq_true qa
   obtain ⟨ad110, e110, hx110_0, hx110_1⟩ := at_TTie HR0_1.out x4_1 p110 q110
   obtain rfl : ad107 = ad110 := (by injection e110)
   replace hx110_0 := (HB.out.cell (World.block_lt_of_cell? w _ hx110_0)).trans hx110_0
   replace hx110_1 := (HB.out.cell (World.block_lt_of_cell? w _ hx110_1)).trans hx110_1
   replace p110 := eq_true p110
   replace q110 := eq_true q110
   obtain ⟨Ao21, co21, eo21⟩ := Kd.R_slice HO109.out
   subst eo21
   have p111 : 0 ≤ (((rd_TTie l0_1 x4_1).f1) : Int) := of_decide_eq_true qa
   have q111 : ((rd_TTie l0_1 x4_1).f1) < (t101.length : Int) := of_decide_eq_true qa
   obtain ⟨ad111, e111, hx111_0⟩ := Kd.at_bool (Kd.R_reads' HO109.out).2.2 ((rd_TTie l0_1 x4_1).f1) p111 q111
   (try rw [← Nbq14.out] at hx111_0)
   cases e111
   replace p111 := eq_true p111
   replace q111 := eq_true q111
   try go_wp2
   go_roundg k1
   case measure => have := HK1.out; omega
   case rel => exact ⟨(x3_1), (wrap64 (x4_1 + 1)), qs, H', ⟨by have := HK1.out; omega⟩, ⟨qr HO_3.out⟩, ⟨qk BK103.out⟩, ⟨qb HB.out⟩⟩
 replace c15 := Bool.eq_false_iff.mpr c15
 subst c15
 rw [if_neg nf] at H
 by_cases c22 : x3_1.length < 8796093022208
 rotate_left
 · rw [if_neg c22] at H
   exact absurd H (by simp)
 rw [if_pos c22] at H
 have LMc22 := Aside0.mk c22
 clear c22
 obtain ⟨y112, hy112⟩ : ∃ y_ : List (STie), y_ = (x3_1 ++ [(⟨(rd_TTie l0_1 x4_1).f0, (rd_TTie l0_1 x4_1).f1⟩ : STie)]) := ⟨_, rfl⟩
 replace H : (spec_TreeOf.l0 k1 y112 (wrap64 (x4_1 + 1)) a0_0 l0_1) = some r := qy H hy112
 have Ny112 := Aside0.mk hy112
 clear hy112
 have H' := Aside0.mk H
 clear H
 have hcz23_0 : wr.cell? ⟨gb103, 0, none⟩ = some (.int .i64 a0_0) := (blk_cell BK103.out 0).trans rfl
 have hcz23_1 : wr.cell? ⟨gb103, 1, none⟩ = some (.slice A0_1 l0_1.length c0_1) := (blk_cell BK103.out 1).trans rfl
 have hfz23_0 := blk_frozen BK103.out 0
 have hfz23_1 := blk_frozen BK103.out 1
 try go_wp2
 replace HO_3 := q0 (Kd.R_drew HO_3.out)
 replace BK103 := q0 (blk_drew BK103.out)
 replace HB := q0 (below_drew1 HB.out)
 obtain ⟨Ao25, co25, eo25⟩ := Kd.R_slice HO_3.out
 (first | subst eo25 | (injection eo25 with f1_ f2_ f3_; have f4_ := f1_.symm; have f5_ := f3_.symm; clear f1_ f2_ f3_; subst f4_; subst f5_))
 have p107 : 0 ≤ (x4_1 : Int) := of_decide_eq_true qa
 have q107 : x4_1 < (l0_1.length : Int) := of_decide_eq_true qa
 obtain ⟨ad107, e107, hx107_0, hx107_1⟩ := at_TTie HR0_1.out x4_1 p107 q107
 have hw107_1 := hx107_1
 have hw107_0 := hx107_0
 cases e107
 replace hx107_0 := (HB.out.cell (World.block_lt_of_cell? w _ hx107_0)).trans hx107_0
 replace hx107_1 := (HB.out.cell (World.block_lt_of_cell? w _ hx107_1)).trans hx107_1
 replace p107 := eq_true p107
 replace q107 := eq_true q107
 refine start_ (n := 12) (S := fun w' => w'.cell? ⟨gb103, 0, none⟩ = some (.int .i64 a0_0) ∧ w'.cell? ⟨gb103, 1, none⟩ = some (.slice (some ad107) l0_1.length c0_1) ∧ w'.cell? (ad107.add ((x4_1).toNat * 2)) = some (.int .i64 ((rd_TTie l0_1 x4_1).f0)) ∧ w'.cell? ⟨(ad107.add ((x4_1).toNat * 2)).block, (ad107.add ((x4_1).toNat * 2)).off + 1, none⟩ = some (.int .i64 ((rd_TTie l0_1 x4_1).f1))) (ds := []) (ba 12 0) (by kernel_rfl) rfl (by kernel_rfl) ⟨(blk_cell BK103.out 0).trans rfl, (blk_cell BK103.out 1).trans rfl, ((HB.out.cell (World.block_lt_of_cell? w _ hw107_0)).trans hw107_0), ((HB.out.cell (World.block_lt_of_cell? w _ hw107_1)).trans hw107_1)⟩ (fun hHeld => ?_); refine with_tabW spec_TreeOf.tab7 spec_TreeOf.bits7 (fun HT_ HW_ => ?_)
 generalize wr.drew = w24 at HO_3 BK103 HB hx107_0 hx107_1 hHeld ⊢
 refine pu 0 (some 18) (ba 12 1) HT_.out ?_
 refine pu 2 (some 20) (ba 12 5) HT_.out ?_
 refine pu 4 (some 22) (ba 12 21) HT_.out ?_
 refine pu 6 (some 24) (ba 12 85) HT_.out ?_
 refine tu 1 (some 19) (ba 12 87) HT_.out HW_.out hHeld ?_
 refine pu 3 (some 21) (ba 12 95) HT_.out ?_
 refine tu 5 (some 23) (ba 12 127) HT_.out HW_.out hHeld ?_
 refine pu 7 (some 25) (ba 12 255) HT_.out ?_
 refine pu 8 (some 26) (ba 12 511) HT_.out ?_
 refine tu 9 (some 27) (ba 12 1023) HT_.out HW_.out hHeld ?_
 refine one_ (i := 10) (N := some 28) (ba 12 2047) rfl rfl (one_of HT_.out (by kernel_rfl)) (by decide) (fun K hK => ?_)
 refine goes_ Try.func65 (by kernel_rfl) rfl #[.agg #[.int .i64 a0_0, .slice Ao25 x3_1.length co25], .int .i64 ((rd_TTie l0_1 x4_1).f0)] (by rfl) rfl rfl qm ?_
 with_reducible refine (spec_WayReach.calls k1 a0_0 _ _ x3_1 ((rd_TTie l0_1 x4_1).f0) t101 _ ?side1 ?side2 A11.out).mono ?_
 (case side1 => exact qc (Kd.R_reads' HO_3.out).2.2)
 (case side2 => exact (Kd.R_reads' HO_3.out).2.1)
 rintro e w26 ⟨v108, rfl, ho0, hb⟩
 refine ⟨_, rfl, ?_⟩
 replace HO_3 := q0 (Kd.R_below (qr HO_3.out) hb)
 have HO109 := q0 (Kd.R_lower ho0 (below_size (qb HB.out)))
 replace BK103 := q0 (kb BK103.out hb)
 replace HB := q0 (below_step (qb HB.out) hb)
 (try clear hb)
 (try clear hb2)
 (try clear hk)
 (try clear hi)
 (try clear ho0)
 refine hK.out _ _ ⟨(blk_cell BK103.out 0).trans rfl, (blk_cell BK103.out 1).trans rfl, ((HB.out.cell (World.block_lt_of_cell? w _ hw107_0)).trans hw107_0), ((HB.out.cell (World.block_lt_of_cell? w _ hw107_1)).trans hw107_1)⟩ (fun hHeld => ?_)
 clear hK K
 refine nu 28 ?_
 refine pu 11 (some 5) (ba 12 4095) HT_.out ?_
 refine done_ (done_of HT_.out (by kernel_rfl)) ?_
 have hcz27_0 : w26.cell? ⟨gb103, 0, none⟩ = some (.int .i64 a0_0) := (blk_cell BK103.out 0).trans rfl
 have hcz27_1 : w26.cell? ⟨gb103, 1, none⟩ = some (.slice (some ad107) l0_1.length c0_1) := (blk_cell BK103.out 1).trans rfl
 have hfz27_0 := blk_frozen BK103.out 0
 have hfz27_1 := blk_frozen BK103.out 1
 have p110 : 0 ≤ (x4_1 : Int) := of_decide_eq_true qa
 have q110 : x4_1 < (l0_1.length : Int) := of_decide_eq_true qa
 obtain ⟨ad110, e110, hx110_0, hx110_1⟩ := at_TTie HR0_1.out x4_1 p110 q110
 obtain rfl : ad107 = ad110 := (by injection e110)
 replace hx110_0 := (HB.out.cell (World.block_lt_of_cell? w _ hx110_0)).trans hx110_0
 replace hx110_1 := (HB.out.cell (World.block_lt_of_cell? w _ hx110_1)).trans hx110_1
 replace p110 := eq_true p110
 replace q110 := eq_true q110
 obtain ⟨Ao28, co28, eo28⟩ := Kd.R_slice HO109.out
 subst eo28
 have p111 : 0 ≤ (((rd_TTie l0_1 x4_1).f1) : Int) := of_decide_eq_true qa
 have q111 : ((rd_TTie l0_1 x4_1).f1) < (t101.length : Int) := of_decide_eq_true qa
 obtain ⟨ad111, e111, hx111_0⟩ := Kd.at_bool (Kd.R_reads' HO109.out).2.2 ((rd_TTie l0_1 x4_1).f1) p111 q111
 (try rw [← Nbq14.out] at hx111_0)
 cases e111
 replace p111 := eq_true p111
 replace q111 := eq_true q111
 have p113 : 0 ≤ (x4_1 : Int) := of_decide_eq_true qa
 have q113 : x4_1 < (l0_1.length : Int) := of_decide_eq_true qa
 obtain ⟨ad113, e113, hx113_0, hx113_1⟩ := at_TTie HR0_1.out x4_1 p113 q113
 obtain rfl : ad107 = ad113 := (by injection e113)
 replace hx113_0 := (HB.out.cell (World.block_lt_of_cell? w _ hx113_0)).trans hx113_0
 replace hx113_1 := (HB.out.cell (World.block_lt_of_cell? w _ hx113_1)).trans hx113_1
 replace p113 := eq_true p113
 replace q113 := eq_true q113
 try go_wp2_with (first | ((with_reducible refine gate_builtin (b := .append) (xs := #[.tmp 39, .tmp 45]) rfl ?_); at_builtin; refine Kd.R_append kTie (w0 := w) w.heap.size rfl (.tmp 39) (.tmp 45) 23 32 (.agg #[(.int .i64 0), (.int .i64 0)]) 16 rfl Try.underlying23 info32 rfl (by decide) (by omega) (.slice Ao25 x3_1.length co25) x3_1 (⟨(rd_TTie l0_1 x4_1).f0, (rd_TTie l0_1 x4_1).f1⟩ : STie) [.int .i64 ((rd_TTie l0_1 x4_1).f0), .int .i64 ((rd_TTie l0_1 x4_1).f1)] (fun _ => True) (fun _ => False) rfl rfl ?aP (fun _ hk => hk.elim) ?aF ?aO ?aB ?aS ?aL ?_; (case aP => exact kTie_mkM _ _ _ (⟨(rd_TTie l0_1 x4_1).f0, (rd_TTie l0_1 x4_1).f1⟩ : STie)); (case aB => exact (qb HB.out)); (case aF => exact (fun _ _ => trivial)); (case aO => exact (qr HO_3.out)); (case aS => exact (below_size (qb HB.out))); (case aL => have := LMc22.out; omega); intro v114 w29 ho hb hg hat; rw [← Ny112.out] at ho; replace BK103 := q0 (blk_grown (g := gb103) (o := .cells #[.int .i64 a0_0, .slice (some ad107) l0_1.length c0_1] 25 (0, 0)) (qk BK103.out) hg (Kd.R_ne HO_3.out BK103.out (by decide))); replace HO109 := q0 (Kd.R_over' (qr HO109.out) (Kd.R_typed (qr HO_3.out)) (by decide) hg); replace HB := q0 (hb); have HO115 := q0 (ho); clear HO_3; clear ho hb hg hat))
 go_roundg k1
 case measure => have := HK1.out; omega
 case rel => exact ⟨(y112), (wrap64 (x4_1 + 1)), qs, H', ⟨by have := HK1.out; omega⟩, ⟨qr HO115.out⟩, ⟨qk BK103.out⟩, ⟨qb HB.out⟩⟩

def spec_DrawTreeOk.T7 : Bool × List (List Nat × List Nat) := (true, [([], []), ([0], [0]), ([], []), ([], []), ([3], [3]), ([4], [4]), ([2, 5], [2, 5]), ([1, 6], [1, 6]), ([7], [7]), ([], []), ([9, 8, 6, 0, 1, 2, 3, 4, 5, 6, 7, 8, 9], [8, 9])])
def spec_DrawTreeOk.B7 : List Nat := [0, 1, 0, 0, 8, 24, 60, 127, 255, 0, 1023]
theorem spec_DrawTreeOk.tab7 : rtab .any (opsOf Try.f20 7) = spec_DrawTreeOk.T7 := by kernel_rfl
theorem spec_DrawTreeOk.bits7 : waitsOk spec_DrawTreeOk.T7.2 spec_DrawTreeOk.B7 = true := by kernel_rfl
set_option maxHeartbeats 8000000 in
set_option maxRecDepth 100000 in
theorem spec_DrawTreeOk.calls (k : Nat) (A0 : Option Addr) (c0 : Nat) (l0 : List Int) (r1 : Int) (r2 : List (STie)) (r3 : List (STie)) (w : World) (hr0 : Kd.C (Kd.int .u8) w A0 l0.length l0) (hc0 : l0.length ≤ c0) (h : spec_DrawTreeOk.f k l0 = some (r1, r2, r3)) :
    Calls Try.prog 20 #[.slice A0 l0.length c0] w fun e w' => ∃ v1_ v2_ : Value, e = .returned (.tuple #[.agg #[.int .i64 r1, v1_], v2_]) ∧ Kd.R kTie 32 w' w.heap.size (fun k_ => some k_ ≠ (v2_ : Value).ownBlock) v1_ r2 ∧ Kd.Q kTie 32 w' w.heap.size (fun k_ => some k_ ≠ (v1_ : Value).ownBlock) v2_ r3 ∧ Below w.heap.size w w' := by
 have hu25 := Try.underlying25
 have hu32 := Try.underlying32
 have HR0 := Aside0.mk hr0
 have HC0 := Aside0.mk hc0
 clear hr0 hc0
 have HB := q0 (Below.refl w.heap.size w)
 have H : ((spec_l6Open.f l0).bind fun bt109 => ((spec_l71Any.f k bt109.1 bt109.2).bind fun bt100 => ((spec_TreeOf.f k bt100.1 bt100.2.1).bind fun t101 => ((spec_l6Rd_pick.f k bt109.1 bt100.2.2 3).bind fun bt110 => (if bt110.1 = 0 then (if (t101.length : Int) > 0 then (spec_DrawTreeOk.j0 k t101 (decide ((bt100.2.1.length : Int) > (t101.length : Int))) bt109.1 bt110.2 bt100.1 bt100.2.1) else (spec_DrawTreeOk.j0 k t101 false bt109.1 bt110.2 bt100.1 bt100.2.1)) else (spec_DrawTreeOk.j0 k t101 false bt109.1 bt110.2 bt100.1 bt100.2.1)))))) = some (r1, r2, r3) := h
 clear h
 replace H := Option.bind_eq_some_iff.mp H
 obtain ⟨⟨t109, t111⟩, A20, H⟩ := H
 have A2 := Aside0.mk A20
 clear A20
 replace H := Option.bind_eq_some_iff.mp H
 obtain ⟨⟨t100, t112, t113⟩, A30, H⟩ := H
 have A3 := Aside0.mk A30
 clear A30
 replace H := Option.bind_eq_some_iff.mp H
 obtain ⟨t101, A40, H⟩ := H
 have A4 := Aside0.mk A40
 clear A40
 have HC5 := Aside0.mk H
 clear H
 go_enter Try.func20, Try.ntmps20
 go_upto_region 4 with (first | ((with_reducible refine gate_dst (N := 2) rfl ?_); (try (refine gate_guard (by rfl) ?_; dsimp only)); refine be 2 #[.int .i64 0, .slice none 0 0] 25 ?_; intro gb114 hg w6 hbox hb; have BK114 := q0 (hbox); have GW114 := q0 ((bs HB.out hg : w.heap.size ≤ gb114)); have GE114 := q0 ((bs HB.out hg : w.heap.size ≤ gb114)); replace HB := q0 (below_step (qb HB.out) hb); clear hb hbox hg) | ((with_reducible refine gate_callee (f := 52) rfl ?_); refine gl 13 Try.func52 #[.slice A0 l0.length c0] ?_; (with_reducible refine (spec_l6Open.calls _ _ l0 t109 t111 w _ ?side1 ?side2 ?side3 A2.out).mono ?_); (case side1 => exact qb HB.out); (case side2 => exact HR0.out); (case side3 => exact HC0.out); rintro e w7 ⟨g115, rfl, hi, hb, hb2⟩; refine ⟨_, rfl, ?_⟩; replace HB := q0 (hb); have HI115 := q0 (hi); have NB115_114 := q0 (IsSRd.ne_blk hi (kb BK114.out hb2) (by decide)); have NB114_115 := q0 (Ne.symm (IsSRd.ne_blk hi (kb BK114.out hb2) (by decide))); replace BK114 := q0 (kb BK114.out hb2); (try clear hb); (try clear hb2); (try clear hk); (try clear hi)) | ((with_reducible refine gate_callee (f := 51) rfl ?_); refine gl 15 Try.func51 #[.pointer (some ⟨g115, 0, none⟩)] ?_; (with_reducible refine (spec_l71Any.calls k g115 t109 t111 t100 t112 t113 w _ ?side1 ?side2 A3.out).mono ?_); (case side1 => exact qi HI115.out); (case side2 => exact qj HB.out HI115.out); rintro e w8 ⟨v116, rfl, ho0, hi, hb, hk⟩; refine ⟨_, rfl, ?_⟩; replace BK114 := q0 (kc hk BK114.out NB114_115.out); have HO117 := q0 (Kd.R_lower ho0 (below_size (qj HB.out HI115.out))); replace HB := q0 (hb); replace HI115 := q0 (hi); (try clear hb); (try clear hb2); (try clear hk); (try clear hi); (try clear ho0)) | ((with_reducible refine gate_dst (N := 5) rfl ?_); (try (refine gate_guard (by rfl) ?_; dsimp only)); refine be 5 #[.int .i64 0, .slice none 0 0] 25 ?_; intro gb118 hg w9 hbox hb; replace HO117 := q0 (Kd.R_below (qr HO117.out) hb); have BK118 := q0 (hbox); have GW118 := q0 ((by rw [hg]; exact (below_size (qj HB.out HI115.out)) : w.heap.size ≤ gb118)); have GE118 := q0 ((by rw [hg]; exact (below_size (qj HB.out HI115.out)) : w.heap.size ≤ gb118)); replace HB := q0 (below_step (qj HB.out HI115.out) hb); have NB114_118 := q0 ((bl BK114.out hg : gb114 ≠ gb118)); have NB118_114 := q0 ((bg BK114.out hg : gb118 ≠ gb114)); replace BK114 := q0 (kb BK114.out hb); have NB115_118 := q0 ((by rw [hg]; exact Nat.ne_of_lt (IsSRd.lt (show IsSRd w _ g115 t109 t113 from qi HI115.out)) : g115 ≠ gb118)); have NB118_115 := q0 ((by rw [hg]; exact Nat.ne_of_gt (IsSRd.lt (show IsSRd w _ g115 t109 t113 from qi HI115.out)) : gb118 ≠ g115)); replace HI115 := q0 (IsSRd.below (qi HI115.out) hb); clear hb hbox hg; have hnb10 := NB118_114.out; have hnc10 := NB114_118.out; have hnb11 := NB118_115.out; have hnc11 := NB115_118.out; have hcz12_0 : w9.cell? ⟨gb118, 0, none⟩ = some (.int .i64 0) := (blk_cell BK118.out 0).trans rfl; have hcz12_1 : w9.cell? ⟨gb118, 1, none⟩ = some (.slice none 0 0) := (blk_cell BK118.out 1).trans rfl; have hfz12_0 := blk_frozen BK118.out 0; have hfz12_1 := blk_frozen BK118.out 1; obtain ⟨Ao13, co13, eo13⟩ := Kd.R_slice HO117.out; subst eo13) | ((with_reducible refine gate_callee (f := 24) rfl ?_); refine gl 17 Try.func24 #[.agg #[.int .i64 t100, .slice Ao13 t112.length co13]] ?_; (with_reducible refine (spec_TreeOf.calls k t100 _ _ t112 t101 _ ?side1 ?side2 A4.out).mono ?_); (case side1 => refine (Kd.R_reads' (e := 32) (base := w.heap.size) (ok := fun k_ => True) (n := t112.length) (c := co13) ?_).2.2; exact (by (with_reducible repeat (first | apply Kd.R_alloc | apply Kd.R_drewN | apply Kd.R_drew)); exact (rf2 HO117.out BK118.out (fun _ h_ => h_.1)))); (case side2 => exact (Kd.R_reads' HO117.out).2.1); rintro e w14 ⟨v119, rfl, ho0, hb⟩; refine ⟨_, rfl, ?_⟩; have HO120 := q0 (Kd.R_lower (Kd.R_new' ho0 (Kd.R_lt (by (with_reducible repeat (first | apply Kd.R_alloc | apply Kd.R_drewN | apply Kd.R_drew)); exact (rf2 HO117.out BK118.out (fun _ h_ => h_.1))))) (below_size (qj HB.out HI115.out))); replace HO117 := q0 (Kd.R_elder' (by (with_reducible repeat (first | apply Kd.R_alloc | apply Kd.R_drewN | apply Kd.R_drew)); exact (rf2 HO117.out BK118.out (fun _ h_ => h_.1))) (Kd.R_base ho0) hb); replace BK114 := q0 (kf BK114.out hb); replace BK118 := q0 (blk_below (g := gb118) (o := .cells #[.int .i64 t100, .slice Ao13 t112.length co13] 25 (0, 0)) (by (with_reducible repeat (first | refine blk_drewN ?_ _ | refine blk_drew ?_ | refine blk_alloc ?_ _)); refine blk_put (cs := #[.int .i64 t100, .slice none 0 0]) ?_ 1 _ rfl; (with_reducible repeat (first | refine blk_drewN ?_ _ | refine blk_drew ?_ | refine blk_alloc ?_ _)); refine blk_put (cs := #[.int .i64 0, .slice none 0 0]) ?_ 0 _ rfl; (with_reducible repeat (first | refine blk_drewN ?_ _ | refine blk_drew ?_ | refine blk_alloc ?_ _)); exact BK118.out) hb); replace HB := q0 (below_step (qj HB.out HI115.out) hb); replace HI115 := q0 (IsSRd.below (show IsSRd w ((w9.setCell ⟨gb118, 0, none⟩ (.int .i64 t100)).setCell ⟨gb118, 1, none⟩ (.slice Ao13 t112.length co13)) g115 t109 t113 from qi HI115.out) hb); (try clear hb); (try clear hb2); (try clear hk); (try clear hi); (try clear ho0)))
 (try simp only [Act.put, List.setIfInBounds_toArray, List.set_cons_zero, List.set_cons_succ])
 go_cut [33] (fun v33 wc => ∃ (kq : Nat) (x33_4 : Bool) (x100001_4 : Int), v33 = .bool x33_4 ∧ Aside0 (spec_DrawTreeOk.j0 kq t101 x33_4 t109 x100001_4 t100 t112 = some (r1, r2, r3)) ∧ Aside0 (kq ≤ k) ∧ Aside0 (Kd.Q kTie 32 wc w.heap.size (fun k_ => some k_ ≠ ((.slice Ao13 t112.length co13) : Value).ownBlock) v119 t101) ∧ Aside0 (Kd.R kTie 32 wc w.heap.size (fun k_ => some k_ ≠ (v119 : Value).ownBlock) (.slice Ao13 t112.length co13) t112) ∧ Aside0 (wc.heap[gb114]? = some (.cells #[.int .i64 0, (.slice none 0 0)] 25 (0, 0))) ∧ Aside0 (wc.heap[gb118]? = some (.cells #[.int .i64 t100, (.slice Ao13 t112.length co13)] 25 (0, 0))) ∧ Aside0 (IsSRd w wc g115 t109 x100001_4) ∧ Aside0 (Below w.heap.size w wc))
 case first =>
   have H := HC5.out
   clear HC5
   replace H := Option.bind_eq_some_iff.mp H
   obtain ⟨⟨t110, t121⟩, A122, H⟩ := H
   have A15 := Aside0.mk A122
   clear A122
   by_cases c16 : t110 = 0
   rotate_left
   · rw [if_neg c16] at H
     have c16b0 : (t110 == 0) = false := beq_eq_false_iff_ne.mpr c16
     have c16b1 : (t110 != 0) = true := bne_iff_ne.mpr c16
     (first | rw [c16b0] | (simp only [i64_w, i32_w]; rw [c16b0]) | skip)
     have H' := Aside0.mk H
     clear H
     go_wp2_with (first | ((with_reducible refine gate_callee (f := 59) rfl ?_); refine gl 19 Try.func59 #[.pointer (some ⟨g115, 0, none⟩), .int .i64 3] ?_; (with_reducible refine (spec_l6Rd_pick.calls k g115 t109 t113 3 t110 t121 w _ ?side1 ?side2 A15.out).mono ?_); (case side1 => exact qi HI115.out); (case side2 => exact qj HB.out HI115.out); rintro e w25 ⟨rfl, hi, hb, hk⟩; refine ⟨_, rfl, ?_⟩; replace BK114 := q0 (kc hk BK114.out NB114_115.out); replace HO117 := q0 (Kd.R_mono (Kd.R_keep (IsSRd.apart (show IsSRd w _ g115 t109 t113 from qi HI115.out) (qr HO117.out) (by decide)) hk (fun _ h => h.2)) (fun _ h => h.1)); replace BK118 := q0 (kc hk BK118.out NB118_115.out); replace HO120 := q0 (Kd.R_mono (Kd.R_keep (IsSRd.apart (show IsSRd w _ g115 t109 t113 from qi HI115.out) (qr HO120.out) (by decide)) hk (fun _ h => h.2)) (fun _ h => h.1)); replace HB := q0 (hb); replace HI115 := q0 (hi); (try clear hb); (try clear hb2); (try clear hk); (try clear hi)))
     go_meet
     case rel => exact ⟨_, (false), (t121), qs, H', ⟨by first | omega | exact Nat.le_refl _⟩, ⟨Kd.Q_of_R (by (with_reducible repeat (first | apply Kd.R_alloc | apply Kd.R_drewN | apply Kd.R_drew)); exact Kd.R_mono HO120.out (fun _ hk => hk.2))⟩, ⟨by (with_reducible repeat (first | apply Kd.R_alloc | apply Kd.R_drewN | apply Kd.R_drew)); exact Kd.R_mono HO117.out (fun _ hk => hk.2)⟩, ⟨qk BK114.out⟩, ⟨qk BK118.out⟩, ⟨qi HI115.out⟩, ⟨qj HB.out HI115.out⟩⟩
   rw [if_pos c16] at H
   have c16b0 : (t110 == 0) = true := beq_iff_eq.mpr c16
   have c16b1 : (t110 != 0) = false := bne_eq_false_iff_eq.mpr c16
   clear c16
   (first | rw [c16b0] | (simp only [i64_w, i32_w]; rw [c16b0]) | skip)
   by_cases c17 : (t101.length : Int) > 0
   · rw [if_pos c17] at H
     have c17b0 : decide (0 < (t101.length : Int)) = true := decide_eq_true c17
     have c17b1 : decide (0 < t101.length) = true := decide_eq_true (by omega)
     clear c17
     have H' := Aside0.mk H
     clear H
     go_wp2_with (first | ((with_reducible refine gate_callee (f := 59) rfl ?_); refine gl 19 Try.func59 #[.pointer (some ⟨g115, 0, none⟩), .int .i64 3] ?_; (with_reducible refine (spec_l6Rd_pick.calls k g115 t109 t113 3 t110 t121 w _ ?side1 ?side2 A15.out).mono ?_); (case side1 => exact qi HI115.out); (case side2 => exact qj HB.out HI115.out); rintro e w18 ⟨rfl, hi, hb, hk⟩; refine ⟨_, rfl, ?_⟩; replace BK114 := q0 (kc hk BK114.out NB114_115.out); replace HO117 := q0 (Kd.R_mono (Kd.R_keep (IsSRd.apart (show IsSRd w _ g115 t109 t113 from qi HI115.out) (qr HO117.out) (by decide)) hk (fun _ h => h.2)) (fun _ h => h.1)); replace BK118 := q0 (kc hk BK118.out NB118_115.out); replace HO120 := q0 (Kd.R_mono (Kd.R_keep (IsSRd.apart (show IsSRd w _ g115 t109 t113 from qi HI115.out) (qr HO120.out) (by decide)) hk (fun _ h => h.2)) (fun _ h => h.1)); replace HB := q0 (hb); replace HI115 := q0 (hi); (try clear hb); (try clear hb2); (try clear hk); (try clear hi); obtain ⟨Ao19, co19, eo19⟩ := Kd.R_slice HO120.out; subst eo19; have hnb20 := NB118_114.out; have hnc20 := NB114_118.out; have hnb21 := NB118_115.out; have hnc21 := NB115_118.out; have hcz22_0 : w18.cell? ⟨gb118, 0, none⟩ = some (.int .i64 t100) := (blk_cell BK118.out 0).trans rfl; have hcz22_1 : w18.cell? ⟨gb118, 1, none⟩ = some (.slice Ao13 t112.length co13) := (blk_cell BK118.out 1).trans rfl; have hfz22_0 := blk_frozen BK118.out 0; have hfz22_1 := blk_frozen BK118.out 1))
     go_meet
     case rel => exact ⟨_, (decide ((t112.length : Int) > (t101.length : Int))), (t121), qs, H', ⟨by first | omega | exact Nat.le_refl _⟩, ⟨Kd.Q_of_R (by (with_reducible repeat (first | apply Kd.R_alloc | apply Kd.R_drewN | apply Kd.R_drew)); exact Kd.R_mono HO120.out (fun _ hk => hk.2))⟩, ⟨by (with_reducible repeat (first | apply Kd.R_alloc | apply Kd.R_drewN | apply Kd.R_drew)); exact Kd.R_mono HO117.out (fun _ hk => hk.2)⟩, ⟨qk BK114.out⟩, ⟨qk BK118.out⟩, ⟨qi HI115.out⟩, ⟨qj HB.out HI115.out⟩⟩
   rw [if_neg c17] at H
   have c17b0 : decide (0 < (t101.length : Int)) = false := decide_eq_false c17
   have c17b1 : decide (0 < t101.length) = false := decide_eq_false (by omega)
   clear c17
   have H' := Aside0.mk H
   clear H
   go_wp2_with (first | ((with_reducible refine gate_callee (f := 59) rfl ?_); refine gl 19 Try.func59 #[.pointer (some ⟨g115, 0, none⟩), .int .i64 3] ?_; (with_reducible refine (spec_l6Rd_pick.calls k g115 t109 t113 3 t110 t121 w _ ?side1 ?side2 A15.out).mono ?_); (case side1 => exact qi HI115.out); (case side2 => exact qj HB.out HI115.out); rintro e w23 ⟨rfl, hi, hb, hk⟩; refine ⟨_, rfl, ?_⟩; replace BK114 := q0 (kc hk BK114.out NB114_115.out); replace HO117 := q0 (Kd.R_mono (Kd.R_keep (IsSRd.apart (show IsSRd w _ g115 t109 t113 from qi HI115.out) (qr HO117.out) (by decide)) hk (fun _ h => h.2)) (fun _ h => h.1)); replace BK118 := q0 (kc hk BK118.out NB118_115.out); replace HO120 := q0 (Kd.R_mono (Kd.R_keep (IsSRd.apart (show IsSRd w _ g115 t109 t113 from qi HI115.out) (qr HO120.out) (by decide)) hk (fun _ h => h.2)) (fun _ h => h.1)); replace HB := q0 (hb); replace HI115 := q0 (hi); (try clear hb); (try clear hb2); (try clear hk); (try clear hi); obtain ⟨Ao24, co24, eo24⟩ := Kd.R_slice HO120.out; subst eo24))
   go_meet
   case rel => exact ⟨_, (false), (t121), qs, H', ⟨by first | omega | exact Nat.le_refl _⟩, ⟨Kd.Q_of_R (by (with_reducible repeat (first | apply Kd.R_alloc | apply Kd.R_drewN | apply Kd.R_drew)); exact Kd.R_mono HO120.out (fun _ hk => hk.2))⟩, ⟨by (with_reducible repeat (first | apply Kd.R_alloc | apply Kd.R_drewN | apply Kd.R_drew)); exact Kd.R_mono HO117.out (fun _ hk => hk.2)⟩, ⟨qk BK114.out⟩, ⟨qk BK118.out⟩, ⟨qi HI115.out⟩, ⟨qj HB.out HI115.out⟩⟩
 clear HC5
 try clear c1
 try clear c2
 try clear p2
 try clear c5
 try clear c10
 try clear c11
 try clear c16
 try clear c16b0
 try clear c16b1
 try clear c17
 try clear c17b0
 try clear c17b1
 try clear c20
 try clear c21
 try clear c24
 try clear hcz12_0
 try clear hcz12_1
 try clear hcz22_0
 try clear hcz22_1
 try clear hfz12_0
 try clear hfz12_1
 try clear hfz22_0
 try clear hfz22_1
 obtain ⟨kq, x33_4, x100001_4, rfl, HA, HJ4, HO_6, HO_101001, BK114, BK118, HI115, HB⟩ := hcut
 rcases kq with _ | kj4
 · exact absurd HA.out (by simp [spec_DrawTreeOk.j0])
 have H := HA.out
 clear HA
 simp only [spec_DrawTreeOk.j0] at H
 by_cases c26 : x33_4 = true
 rotate_left
 · replace c26 := Bool.eq_false_iff.mpr c26
   subst c26
   rw [if_neg nf] at H
   replace H := Option.bind_eq_some_iff.mp H
   obtain ⟨⟨t106, t175⟩, A176, H⟩ := H
   have A177 := Aside0.mk A176
   clear A176
   by_cases c178 : t106 = 0
   · rw [if_pos c178] at H
     have c178b0 : (t106 == 0) = true := beq_iff_eq.mpr c178
     have c178b1 : (t106 != 0) = false := bne_eq_false_iff_eq.mpr c178
     clear c178
     replace H := Option.bind_eq_some_iff.mp H
     obtain ⟨⟨t107, t179⟩, A180, H⟩ := H
     have A181 := Aside0.mk A180
     clear A180
     replace H := Option.bind_eq_some_iff.mp H
     obtain ⟨⟨t108, t182⟩, A183, H⟩ := H
     have A184 := Aside0.mk A183
     clear A183
     by_cases c185 : t101.length < 8796093022208
     rotate_left
     · rw [if_neg c185] at H
       exact absurd H (by simp)
     rw [if_pos c185] at H
     have LMc185 := Aside0.mk c185
     clear c185
     obtain ⟨y186, hy186⟩ : ∃ y_ : List (STie), y_ = (t101 ++ [(⟨t107, wrap64 (4 + t108)⟩ : STie)]) := ⟨_, rfl⟩
     replace H : (some (t100, t112, y186)) = some (r1, r2, r3) := qy H hy186
     have Ny186 := Aside0.mk hy186
     clear hy186
     simp only [Option.some.injEq, Prod.mk.injEq] at H
     obtain ⟨rfl, rfl, rfl⟩ := H
     go_wp2_with (first | ((with_reducible refine gate_callee (f := 59) rfl ?_); refine gl 80 Try.func59 #[.pointer (some ⟨g115, 0, none⟩), .int .i64 8] ?_; (with_reducible refine (spec_l6Rd_pick.calls kj4 g115 t109 x100001_4 8 t106 t175 w _ ?side1 ?side2 A177.out).mono ?_); (case side1 => exact qi HI115.out); (case side2 => exact qj HB.out HI115.out); rintro e w187 ⟨rfl, hi, hb, hk⟩; refine ⟨_, rfl, ?_⟩; replace HO_6 := q0 (Kd.Q_mono (Kd.Q_keep (IsSRd.apartQ (show IsSRd w _ g115 t109 x100001_4 from qi HI115.out) (by (with_reducible repeat (first | apply Kd.Q_alloc | apply Kd.Q_drewN | apply Kd.Q_drew)); exact HO_6.out) (by decide)) hk (fun _ h => h.2)) (fun _ h => h.1)); replace HO_101001 := q0 (Kd.R_mono (Kd.R_keep (IsSRd.apart (show IsSRd w _ g115 t109 x100001_4 from qi HI115.out) (qr HO_101001.out) (by decide)) hk (fun _ h => h.2)) (fun _ h => h.1)); replace BK114 := q0 (kc hk BK114.out NB114_115.out); replace BK118 := q0 (kc hk BK118.out NB118_115.out); replace HB := q0 (hb); replace HI115 := q0 (hi); (try clear hb); (try clear hb2); (try clear hk); (try clear hi)) | ((with_reducible refine gate_callee (f := 59) rfl ?_); refine gl 85 Try.func59 #[.pointer (some ⟨g115, 0, none⟩), .int .i64 4] ?_; (with_reducible refine (spec_l6Rd_pick.calls kj4 g115 t109 t175 4 t107 t179 w _ ?side1 ?side2 A181.out).mono ?_); (case side1 => exact qi HI115.out); (case side2 => exact qj HB.out HI115.out); rintro e w188 ⟨rfl, hi, hb, hk⟩; refine ⟨_, rfl, ?_⟩; replace HO_6 := q0 (Kd.Q_mono (Kd.Q_keep (IsSRd.apartQ (show IsSRd w _ g115 t109 t175 from qi HI115.out) (by (with_reducible repeat (first | apply Kd.Q_alloc | apply Kd.Q_drewN | apply Kd.Q_drew)); exact HO_6.out) (by decide)) hk (fun _ h => h.2)) (fun _ h => h.1)); replace HO_101001 := q0 (Kd.R_mono (Kd.R_keep (IsSRd.apart (show IsSRd w _ g115 t109 t175 from qi HI115.out) (qr HO_101001.out) (by decide)) hk (fun _ h => h.2)) (fun _ h => h.1)); replace BK114 := q0 (kc hk BK114.out NB114_115.out); replace BK118 := q0 (kc hk BK118.out NB118_115.out); replace HB := q0 (hb); replace HI115 := q0 (hi); (try clear hb); (try clear hb2); (try clear hk); (try clear hi)) | ((with_reducible refine gate_callee (f := 59) rfl ?_); refine gl 87 Try.func59 #[.pointer (some ⟨g115, 0, none⟩), .int .i64 4] ?_; (with_reducible refine (spec_l6Rd_pick.calls kj4 g115 t109 t179 4 t108 t182 w _ ?side1 ?side2 A184.out).mono ?_); (case side1 => exact qi HI115.out); (case side2 => exact qj HB.out HI115.out); rintro e w189 ⟨rfl, hi, hb, hk⟩; refine ⟨_, rfl, ?_⟩; replace HO_6 := q0 (Kd.Q_mono (Kd.Q_keep (IsSRd.apartQ (show IsSRd w _ g115 t109 t179 from qi HI115.out) (by (with_reducible repeat (first | apply Kd.Q_alloc | apply Kd.Q_drewN | apply Kd.Q_drew)); exact HO_6.out) (by decide)) hk (fun _ h => h.2)) (fun _ h => h.1)); replace HO_101001 := q0 (Kd.R_mono (Kd.R_keep (IsSRd.apart (show IsSRd w _ g115 t109 t179 from qi HI115.out) (qr HO_101001.out) (by decide)) hk (fun _ h => h.2)) (fun _ h => h.1)); replace BK114 := q0 (kc hk BK114.out NB114_115.out); replace BK118 := q0 (kc hk BK118.out NB118_115.out); replace HB := q0 (hb); replace HI115 := q0 (hi); (try clear hb); (try clear hb2); (try clear hk); (try clear hi)) | ((with_reducible refine gate_builtin (b := .append) (xs := #[.tmp 83, .tmp 90]) rfl ?_); (try (refine gate_guard (by rfl) ?_; dsimp only)); at_builtin; refine Kd.Q_append kTie (w0 := w) w.heap.size rfl (.tmp 83) (.tmp 90) 23 32 (.agg #[(.int .i64 0), (.int .i64 0)]) 16 rfl Try.underlying23 info32 rfl (by decide) (by omega) v119 t101 (⟨t107, wrap64 (4 + t108)⟩ : STie) [.int .i64 t107, .int .i64 (wrap64 (4 + t108))] (fun k_ => some k_ ≠ (.slice Ao13 t112.length co13 : Value).ownBlock) (fun _ => False) rfl rfl ?aP (fun _ hk => hk.elim) ?aF ?aO ?aB ?aS ?aL ?_; (case aP => exact kTie_mkM _ _ _ (⟨t107, wrap64 (4 + t108)⟩ : STie)); (case aB => exact (qj HB.out HI115.out)); (case aF => exact (fun k_ hk => Kd.fresh' (Kd.R_lt (qr HO_101001.out)) k_ hk)); (case aO => exact (by (with_reducible repeat (first | apply Kd.Q_alloc | apply Kd.Q_drewN | apply Kd.Q_drew)); exact HO_6.out)); (case aS => exact (below_size (qj HB.out HI115.out))); (case aL => have := LMc185.out; omega); intro v190 w191 ho hb hg hat; rw [← Ny186.out] at ho; replace HO_101001 := q0 (Kd.R_after (ok := (fun _ => True)) (by (with_reducible repeat (first | apply Kd.R_alloc | apply Kd.R_drewN | apply Kd.R_drew)); exact Kd.R_mono HO_101001.out (fun _ hk => ⟨trivial, hk⟩)) hg hat); replace BK114 := q0 (blk_grown (g := gb114) (o := .cells #[.int .i64 0, .slice none 0 0] 25 (0, 0)) (qk BK114.out) hg (Kd.Q_ne HO_6.out BK114.out (by decide))); replace BK118 := q0 (blk_grown (g := gb118) (o := .cells #[.int .i64 t100, .slice Ao13 t112.length co13] 25 (0, 0)) (qk BK118.out) hg (Kd.Q_ne HO_6.out BK118.out (by decide))); replace HI115 := q0 (IsSRd.grown (qi HI115.out) hg (IsSRd.own_neQ HI115.out HO_6.out (by decide))); replace HB := q0 (hb); have HO192 := q0 (ho); clear HO_6; clear ho hb hg hat; have hnb193 := NB118_114.out; have hnc193 := NB114_118.out; have hnb194 := NB118_115.out; have hnc194 := NB115_118.out; have hcz195_0 : w191.cell? ⟨gb118, 0, none⟩ = some (.int .i64 t100) := (blk_cell BK118.out 0).trans rfl; have hcz195_1 : w191.cell? ⟨gb118, 1, none⟩ = some (.slice Ao13 t112.length co13) := (blk_cell BK118.out 1).trans rfl; have hfz195_0 := blk_frozen BK118.out 0; have hfz195_1 := blk_frozen BK118.out 1; have hnb196 := NB114_115.out; have hnc196 := NB115_114.out; have hcz197_0 : w191.cell? ⟨gb114, 0, none⟩ = some (.int .i64 0) := (blk_cell BK114.out 0).trans rfl; have hcz197_1 : w191.cell? ⟨gb114, 1, none⟩ = some (.slice none 0 0) := (blk_cell BK114.out 1).trans rfl; have hfz197_0 := blk_frozen BK114.out 0; have hfz197_1 := blk_frozen BK114.out 1))
     refine bodyPost_ret (results_ct rfl _ _ gb114 25 #[.int .i64 t100, .slice Ao13 t112.length co13] (0, 0) _ rfl (by (with_reducible repeat (first | refine blk_drewN ?_ _ | refine blk_drew ?_ | refine blk_alloc ?_ _)); refine blk_put (cs := #[.int .i64 t100, .slice none 0 0]) ?_ 1 _ rfl; (with_reducible repeat (first | refine blk_drewN ?_ _ | refine blk_drew ?_ | refine blk_alloc ?_ _)); refine blk_put (cs := #[.int .i64 0, .slice none 0 0]) ?_ 0 _ rfl; (with_reducible repeat (first | refine blk_drewN ?_ _ | refine blk_drew ?_ | refine blk_alloc ?_ _)); exact BK114.out) Try.underlying25 rfl (by kernel_rfl)) rfl ?_
     exact ⟨_, _, qe, by (with_reducible repeat (first | apply Kd.R_alloc | apply Kd.R_drewN | apply Kd.R_drew)); exact rf2 HO_101001.out BK114.out (fun _ hk => hk.1.2), by (with_reducible repeat (first | apply Kd.Q_alloc | apply Kd.Q_drewN | apply Kd.Q_drew)); exact Kd.Q_mono (Kd.Q_far (p := ⟨gb114, 1, none⟩) (Kd.Q_far (p := ⟨gb114, 0, none⟩) (Kd.Q_types HO192.out BK114.out (by decide)) (fun _ hk => hk.2) (.int .i64 t100)) (fun _ hk => hk.2) (.slice Ao13 t112.length co13)) (fun _ hk => hk.1), qj HB.out HI115.out⟩
   rw [if_neg c178] at H
   have c178b0 : (t106 == 0) = false := beq_eq_false_iff_ne.mpr c178
   have c178b1 : (t106 != 0) = true := bne_iff_ne.mpr c178
   by_cases c198 : t106 = 1
   rotate_left
   · rw [if_neg c198] at H
     have c198b0 : (t106 == 1) = false := beq_eq_false_iff_ne.mpr c198
     have c198b1 : (t106 != 1) = true := bne_iff_ne.mpr c198
     simp only [Option.some.injEq, Prod.mk.injEq] at H
     obtain ⟨rfl, rfl, rfl⟩ := H
     go_wp2_with (first | ((with_reducible refine gate_callee (f := 59) rfl ?_); refine gl 80 Try.func59 #[.pointer (some ⟨g115, 0, none⟩), .int .i64 8] ?_; (with_reducible refine (spec_l6Rd_pick.calls kj4 g115 t109 x100001_4 8 t106 t175 w _ ?side1 ?side2 A177.out).mono ?_); (case side1 => exact qi HI115.out); (case side2 => exact qj HB.out HI115.out); rintro e w218 ⟨rfl, hi, hb, hk⟩; refine ⟨_, rfl, ?_⟩; replace HO_6 := q0 (Kd.Q_mono (Kd.Q_keep (IsSRd.apartQ (show IsSRd w _ g115 t109 x100001_4 from qi HI115.out) (by (with_reducible repeat (first | apply Kd.Q_alloc | apply Kd.Q_drewN | apply Kd.Q_drew)); exact HO_6.out) (by decide)) hk (fun _ h => h.2)) (fun _ h => h.1)); replace HO_101001 := q0 (Kd.R_mono (Kd.R_keep (IsSRd.apart (show IsSRd w _ g115 t109 x100001_4 from qi HI115.out) (qr HO_101001.out) (by decide)) hk (fun _ h => h.2)) (fun _ h => h.1)); replace BK114 := q0 (kc hk BK114.out NB114_115.out); replace BK118 := q0 (kc hk BK118.out NB118_115.out); replace HB := q0 (hb); replace HI115 := q0 (hi); (try clear hb); (try clear hb2); (try clear hk); (try clear hi); have hnb219 := NB118_114.out; have hnc219 := NB114_118.out; have hnb220 := NB118_115.out; have hnc220 := NB115_118.out; have hcz221_0 : w218.cell? ⟨gb118, 0, none⟩ = some (.int .i64 t100) := (blk_cell BK118.out 0).trans rfl; have hcz221_1 : w218.cell? ⟨gb118, 1, none⟩ = some (.slice Ao13 t112.length co13) := (blk_cell BK118.out 1).trans rfl; have hfz221_0 := blk_frozen BK118.out 0; have hfz221_1 := blk_frozen BK118.out 1; have hnb222 := NB114_115.out; have hnc222 := NB115_114.out; have hcz223_0 : w218.cell? ⟨gb114, 0, none⟩ = some (.int .i64 0) := (blk_cell BK114.out 0).trans rfl; have hcz223_1 : w218.cell? ⟨gb114, 1, none⟩ = some (.slice none 0 0) := (blk_cell BK114.out 1).trans rfl; have hfz223_0 := blk_frozen BK114.out 0; have hfz223_1 := blk_frozen BK114.out 1))
     refine bodyPost_ret (results_ct rfl _ _ gb114 25 #[.int .i64 t100, .slice Ao13 t112.length co13] (0, 0) _ rfl (by (with_reducible repeat (first | refine blk_drewN ?_ _ | refine blk_drew ?_ | refine blk_alloc ?_ _)); refine blk_put (cs := #[.int .i64 t100, .slice none 0 0]) ?_ 1 _ rfl; (with_reducible repeat (first | refine blk_drewN ?_ _ | refine blk_drew ?_ | refine blk_alloc ?_ _)); refine blk_put (cs := #[.int .i64 0, .slice none 0 0]) ?_ 0 _ rfl; (with_reducible repeat (first | refine blk_drewN ?_ _ | refine blk_drew ?_ | refine blk_alloc ?_ _)); exact BK114.out) Try.underlying25 rfl (by kernel_rfl)) rfl ?_
     exact ⟨_, _, qe, by (with_reducible repeat (first | apply Kd.R_alloc | apply Kd.R_drewN | apply Kd.R_drew)); exact rf2 HO_101001.out BK114.out (fun _ hk => hk.1), by (with_reducible repeat (first | apply Kd.Q_alloc | apply Kd.Q_drewN | apply Kd.Q_drew)); exact Kd.Q_mono (Kd.Q_far (p := ⟨gb114, 1, none⟩) (Kd.Q_far (p := ⟨gb114, 0, none⟩) (Kd.Q_types HO_6.out BK114.out (by decide)) (fun _ hk => hk.2) (.int .i64 t100)) (fun _ hk => hk.2) (.slice Ao13 t112.length co13)) (fun _ hk => hk.1), qj HB.out HI115.out⟩
   rw [if_pos c198] at H
   have c198b0 : (t106 == 1) = true := beq_iff_eq.mpr c198
   have c198b1 : (t106 != 1) = false := bne_eq_false_iff_eq.mpr c198
   clear c198
   by_cases c199 : (t101.length : Int) > 0
   rotate_left
   · rw [if_neg c199] at H
     have c199b0 : decide (0 < (t101.length : Int)) = false := decide_eq_false c199
     have c199b1 : decide (0 < t101.length) = false := decide_eq_false (by omega)
     clear c199
     simp only [Option.some.injEq, Prod.mk.injEq] at H
     obtain ⟨rfl, rfl, rfl⟩ := H
     go_wp2_with (first | ((with_reducible refine gate_callee (f := 59) rfl ?_); refine gl 80 Try.func59 #[.pointer (some ⟨g115, 0, none⟩), .int .i64 8] ?_; (with_reducible refine (spec_l6Rd_pick.calls kj4 g115 t109 x100001_4 8 t106 t175 w _ ?side1 ?side2 A177.out).mono ?_); (case side1 => exact qi HI115.out); (case side2 => exact qj HB.out HI115.out); rintro e w211 ⟨rfl, hi, hb, hk⟩; refine ⟨_, rfl, ?_⟩; replace HO_6 := q0 (Kd.Q_mono (Kd.Q_keep (IsSRd.apartQ (show IsSRd w _ g115 t109 x100001_4 from qi HI115.out) (by (with_reducible repeat (first | apply Kd.Q_alloc | apply Kd.Q_drewN | apply Kd.Q_drew)); exact HO_6.out) (by decide)) hk (fun _ h => h.2)) (fun _ h => h.1)); replace HO_101001 := q0 (Kd.R_mono (Kd.R_keep (IsSRd.apart (show IsSRd w _ g115 t109 x100001_4 from qi HI115.out) (qr HO_101001.out) (by decide)) hk (fun _ h => h.2)) (fun _ h => h.1)); replace BK114 := q0 (kc hk BK114.out NB114_115.out); replace BK118 := q0 (kc hk BK118.out NB118_115.out); replace HB := q0 (hb); replace HI115 := q0 (hi); (try clear hb); (try clear hb2); (try clear hk); (try clear hi); obtain ⟨Ao212, co212, eo212, _⟩ := Kd.Q_slice HO_6.out; subst eo212; have hnb213 := NB118_114.out; have hnc213 := NB114_118.out; have hnb214 := NB118_115.out; have hnc214 := NB115_118.out; have hcz215_0 : w211.cell? ⟨gb118, 0, none⟩ = some (.int .i64 t100) := (blk_cell BK118.out 0).trans rfl; have hcz215_1 : w211.cell? ⟨gb118, 1, none⟩ = some (.slice Ao13 t112.length co13) := (blk_cell BK118.out 1).trans rfl; have hfz215_0 := blk_frozen BK118.out 0; have hfz215_1 := blk_frozen BK118.out 1; have hnb216 := NB114_115.out; have hnc216 := NB115_114.out; have hcz217_0 : w211.cell? ⟨gb114, 0, none⟩ = some (.int .i64 0) := (blk_cell BK114.out 0).trans rfl; have hcz217_1 : w211.cell? ⟨gb114, 1, none⟩ = some (.slice none 0 0) := (blk_cell BK114.out 1).trans rfl; have hfz217_0 := blk_frozen BK114.out 0; have hfz217_1 := blk_frozen BK114.out 1))
     refine bodyPost_ret (results_ct rfl _ _ gb114 25 #[.int .i64 t100, .slice Ao13 t112.length co13] (0, 0) _ rfl (by (with_reducible repeat (first | refine blk_drewN ?_ _ | refine blk_drew ?_ | refine blk_alloc ?_ _)); refine blk_put (cs := #[.int .i64 t100, .slice none 0 0]) ?_ 1 _ rfl; (with_reducible repeat (first | refine blk_drewN ?_ _ | refine blk_drew ?_ | refine blk_alloc ?_ _)); refine blk_put (cs := #[.int .i64 0, .slice none 0 0]) ?_ 0 _ rfl; (with_reducible repeat (first | refine blk_drewN ?_ _ | refine blk_drew ?_ | refine blk_alloc ?_ _)); exact BK114.out) Try.underlying25 rfl (by kernel_rfl)) rfl ?_
     exact ⟨_, _, qe, by (with_reducible repeat (first | apply Kd.R_alloc | apply Kd.R_drewN | apply Kd.R_drew)); exact rf2 HO_101001.out BK114.out (fun _ hk => hk.1), by (with_reducible repeat (first | apply Kd.Q_alloc | apply Kd.Q_drewN | apply Kd.Q_drew)); exact Kd.Q_mono (Kd.Q_far (p := ⟨gb114, 1, none⟩) (Kd.Q_far (p := ⟨gb114, 0, none⟩) (Kd.Q_types HO_6.out BK114.out (by decide)) (fun _ hk => hk.2) (.int .i64 t100)) (fun _ hk => hk.2) (.slice Ao13 t112.length co13)) (fun _ hk => hk.1), qj HB.out HI115.out⟩
   rw [if_pos c199] at H
   have c199b0 : decide (0 < (t101.length : Int)) = true := decide_eq_true c199
   have c199b1 : decide (0 < t101.length) = true := decide_eq_true (by omega)
   clear c199
   by_cases c200 : 1 ≤ (t101.length : Int)
   rotate_left
   · rw [if_neg c200] at H
     exact absurd H (by simp)
   rw [if_pos c200] at H
   have c200b0 := eq_true c200
   have c200b1 : decide (1 ≤ (t101.length : Int)) = true := decide_eq_true c200
   clear c200
   obtain ⟨y201, hy201⟩ : ∃ y_ : List (STie), y_ = (t101.drop (1 : Int).toNat) := ⟨_, rfl⟩
   replace H : (some (t100, t112, y201)) = some (r1, r2, r3) := qy H hy201
   have Ny201 := Aside0.mk hy201
   clear hy201
   simp only [Option.some.injEq, Prod.mk.injEq] at H
   obtain ⟨rfl, rfl, rfl⟩ := H
   go_wp2_with (first | ((with_reducible refine gate_callee (f := 59) rfl ?_); refine gl 80 Try.func59 #[.pointer (some ⟨g115, 0, none⟩), .int .i64 8] ?_; (with_reducible refine (spec_l6Rd_pick.calls kj4 g115 t109 x100001_4 8 t106 t175 w _ ?side1 ?side2 A177.out).mono ?_); (case side1 => exact qi HI115.out); (case side2 => exact qj HB.out HI115.out); rintro e w202 ⟨rfl, hi, hb, hk⟩; refine ⟨_, rfl, ?_⟩; replace HO_6 := q0 (Kd.Q_mono (Kd.Q_keep (IsSRd.apartQ (show IsSRd w _ g115 t109 x100001_4 from qi HI115.out) (by (with_reducible repeat (first | apply Kd.Q_alloc | apply Kd.Q_drewN | apply Kd.Q_drew)); exact HO_6.out) (by decide)) hk (fun _ h => h.2)) (fun _ h => h.1)); replace HO_101001 := q0 (Kd.R_mono (Kd.R_keep (IsSRd.apart (show IsSRd w _ g115 t109 x100001_4 from qi HI115.out) (qr HO_101001.out) (by decide)) hk (fun _ h => h.2)) (fun _ h => h.1)); replace BK114 := q0 (kc hk BK114.out NB114_115.out); replace BK118 := q0 (kc hk BK118.out NB118_115.out); replace HB := q0 (hb); replace HI115 := q0 (hi); (try clear hb); (try clear hb2); (try clear hk); (try clear hi); obtain ⟨Ao122, co122, eo122, _⟩ := Kd.Q_slice HO_6.out; subst eo122; have q203 : (1 : Int) ≤ ((t101.length : Int) : Int) := of_decide_eq_true qa; obtain ⟨i204, hi204, _, hsz203, _⟩ := info_parts info32; have hcut203 := cut_from (P := Try.prog) 23 32 .i64 Try.underlying23 hi204 2 hsz203 Ao122 t101.length co122 1 (by omega) q203; have hr203 := Kd.Q_drop (k := (1 : Int).toNat) HO_6.out (by omega); obtain ⟨A203, hA203⟩ : ∃ A1, A1 = (if co122 = (1 : Int).toNat then Ao122 else (Ao122 : Option Addr).map (·.add ((1 : Int).toNat * 2))) := ⟨_, rfl⟩; obtain ⟨c203, hc203⟩ : ∃ c1, c1 = co122 - (1 : Int).toNat := ⟨_, rfl⟩; have hy203 : y201.length = t101.length - (1 : Int).toNat := (by rw [Ny201.out, List.length_drop]); rw [← Ny201.out] at hr203; rw [← hy203, ← hA203, ← hc203] at hcut203; replace hr203 : Kd.Q kTie 32 w202 w.heap.size (fun k_ => some k_ ≠ (.slice Ao13 t112.length co13 : Value).ownBlock) (.slice A203 y201.length c203) y201 := (by rw [hA203, hc203, hy203]; exact hr203); have HE203 : Aside0 ((Value.slice A203 y201.length c203).ownBlock = (.slice Ao122 t101.length co122 : Value).ownBlock) := ⟨by rw [hA203]; split <;> (cases (Ao122 : Option Addr) <;> rfl)⟩; clear hy203 hi204 hsz203 HO_6 hA203 hc203; have HO205 := Aside0.mk hr203; clear hr203; replace q203 := eq_true q203; have n_ := q0 (Kd.R_mono (ok' := fun k_ => some k_ ≠ (.slice A203 y201.length c203 : Value).ownBlock) HO_101001.out (fun k_ hk => (by rw [HE203.out]; exact hk))); clear HO_101001; have HO_101001 := n_; clear n_; have hnb206 := NB118_114.out; have hnc206 := NB114_118.out; have hnb207 := NB118_115.out; have hnc207 := NB115_118.out; have hcz208_0 : w202.cell? ⟨gb118, 0, none⟩ = some (.int .i64 t100) := (blk_cell BK118.out 0).trans rfl; have hcz208_1 : w202.cell? ⟨gb118, 1, none⟩ = some (.slice Ao13 t112.length co13) := (blk_cell BK118.out 1).trans rfl; have hfz208_0 := blk_frozen BK118.out 0; have hfz208_1 := blk_frozen BK118.out 1; have hnb209 := NB114_115.out; have hnc209 := NB115_114.out; have hcz210_0 : w202.cell? ⟨gb114, 0, none⟩ = some (.int .i64 0) := (blk_cell BK114.out 0).trans rfl; have hcz210_1 : w202.cell? ⟨gb114, 1, none⟩ = some (.slice none 0 0) := (blk_cell BK114.out 1).trans rfl; have hfz210_0 := blk_frozen BK114.out 0; have hfz210_1 := blk_frozen BK114.out 1))
   refine bodyPost_ret (results_ct rfl _ _ gb114 25 #[.int .i64 t100, .slice Ao13 t112.length co13] (0, 0) _ rfl (by (with_reducible repeat (first | refine blk_drewN ?_ _ | refine blk_drew ?_ | refine blk_alloc ?_ _)); refine blk_put (cs := #[.int .i64 t100, .slice none 0 0]) ?_ 1 _ rfl; (with_reducible repeat (first | refine blk_drewN ?_ _ | refine blk_drew ?_ | refine blk_alloc ?_ _)); refine blk_put (cs := #[.int .i64 0, .slice none 0 0]) ?_ 0 _ rfl; (with_reducible repeat (first | refine blk_drewN ?_ _ | refine blk_drew ?_ | refine blk_alloc ?_ _)); exact BK114.out) Try.underlying25 rfl (by kernel_rfl)) rfl ?_
   exact ⟨_, _, qe, by (with_reducible repeat (first | apply Kd.R_alloc | apply Kd.R_drewN | apply Kd.R_drew)); exact rf2 HO_101001.out BK114.out (fun _ hk => hk.1), by (with_reducible repeat (first | apply Kd.Q_alloc | apply Kd.Q_drewN | apply Kd.Q_drew)); exact Kd.Q_mono (Kd.Q_far (p := ⟨gb114, 1, none⟩) (Kd.Q_far (p := ⟨gb114, 0, none⟩) (Kd.Q_types HO205.out BK114.out (by decide)) (fun _ hk => hk.2) (.int .i64 t100)) (fun _ hk => hk.2) (.slice Ao13 t112.length co13)) (fun _ hk => hk.1), qj HB.out HI115.out⟩
 subst c26
 rw [if_pos rfl] at H
 replace H := Option.bind_eq_some_iff.mp H
 obtain ⟨⟨t102, t123⟩, A124, H⟩ := H
 have A27 := Aside0.mk A124
 clear A124
 by_cases c28 : 0 ≤ t102
 rotate_left
 · rw [if_neg c28] at H
   exact absurd H (by simp)
 rw [if_pos c28] at H
 have c28b0 : decide (0 ≤ t102) = true := decide_eq_true c28
 clear c28
 by_cases c29 : t102 < (t101.length : Int)
 rotate_left
 · rw [if_neg c29] at H
   exact absurd H (by simp)
 rw [if_pos c29] at H
 have c29b0 : decide (t102 < (t101.length : Int)) = true := decide_eq_true c29
 clear c29
 replace H := Option.bind_eq_some_iff.mp H
 obtain ⟨⟨t103, t125⟩, A126, H⟩ := H
 have A30 := Aside0.mk A126
 clear A126
 by_cases c31 : 0 ≤ t103
 rotate_left
 · rw [if_neg c31] at H
   exact absurd H (by simp)
 rw [if_pos c31] at H
 have c31b0 : decide (0 ≤ t103) = true := decide_eq_true c31
 clear c31
 by_cases c32 : t103 < (t112.length : Int)
 rotate_left
 · rw [if_neg c32] at H
   exact absurd H (by simp)
 rw [if_pos c32] at H
 have c32b0 : decide (t103 < (t112.length : Int)) = true := decide_eq_true c32
 clear c32
 replace H := Option.bind_eq_some_iff.mp H
 obtain ⟨⟨t104, t127, t128⟩, A129, H⟩ := H
 have A33 := Aside0.mk A129
 clear A129
 replace H := Option.bind_eq_some_iff.mp H
 obtain ⟨⟨t105, t130, t131⟩, A132, H⟩ := H
 have A34 := Aside0.mk A132
 clear A132
 by_cases c35 : t131 = true
 · subst c35
   rw [if_pos rfl] at H
   simp only [Option.some.injEq, Prod.mk.injEq] at H
   obtain ⟨rfl, rfl, rfl⟩ := H
   have hnb36 := NB118_114.out
   have hnc36 := NB114_118.out
   have hnb37 := NB118_115.out
   have hnc37 := NB115_118.out
   have hcz38_0 : wc.cell? ⟨gb118, 0, none⟩ = some (.int .i64 t100) := (blk_cell BK118.out 0).trans rfl
   have hcz38_1 : wc.cell? ⟨gb118, 1, none⟩ = some (.slice Ao13 t112.length co13) := (blk_cell BK118.out 1).trans rfl
   have hfz38_0 := blk_frozen BK118.out 0
   have hfz38_1 := blk_frozen BK118.out 1
   obtain ⟨Ao39, co39, eo39, _⟩ := Kd.Q_slice HO_6.out
   subst eo39
   try go_wp2_with (first | ((with_reducible refine gate_dst (N := 7) rfl ?_); (try (refine gate_guard (by rfl) ?_; dsimp only)); refine be 7 #[.int .i64 0, .slice none 0 0] 25 ?_; intro gb133 hg w40 hbox hb; replace HO_6 := q0 (Kd.Q_below (by (with_reducible repeat (first | apply Kd.Q_alloc | apply Kd.Q_drewN | apply Kd.Q_drew)); exact HO_6.out) hb); replace HO_101001 := q0 (Kd.R_below (qr HO_101001.out) hb); have BK133 := q0 (hbox); have GW133 := q0 ((by rw [hg]; exact (below_size (qj HB.out HI115.out)) : w.heap.size ≤ gb133)); have GE133 := q0 ((by rw [hg]; exact (below_size (qj HB.out HI115.out)) : w.heap.size ≤ gb133)); replace HB := q0 (below_step (qj HB.out HI115.out) hb); have NB114_133 := q0 ((bl BK114.out hg : gb114 ≠ gb133)); have NB133_114 := q0 ((bg BK114.out hg : gb133 ≠ gb114)); replace BK114 := q0 (kb BK114.out hb); have NB118_133 := q0 ((bl BK118.out hg : gb118 ≠ gb133)); have NB133_118 := q0 ((bg BK118.out hg : gb133 ≠ gb118)); replace BK118 := q0 (kb BK118.out hb); have NB115_133 := q0 ((by rw [hg]; exact Nat.ne_of_lt (IsSRd.lt (show IsSRd w _ g115 t109 x100001_4 from qi HI115.out)) : g115 ≠ gb133)); have NB133_115 := q0 ((by rw [hg]; exact Nat.ne_of_gt (IsSRd.lt (show IsSRd w _ g115 t109 x100001_4 from qi HI115.out)) : gb133 ≠ g115)); replace HI115 := q0 (IsSRd.below (qi HI115.out) hb); clear hb hbox hg; have hnb41 := NB133_114.out; have hnc41 := NB114_133.out; have hnb42 := NB133_118.out; have hnc42 := NB118_133.out; have hnb43 := NB133_115.out; have hnc43 := NB115_133.out; have hcz44_0 : w40.cell? ⟨gb133, 0, none⟩ = some (.int .i64 0) := (blk_cell BK133.out 0).trans rfl; have hcz44_1 : w40.cell? ⟨gb133, 1, none⟩ = some (.slice none 0 0) := (blk_cell BK133.out 1).trans rfl; have hfz44_0 := blk_frozen BK133.out 0; have hfz44_1 := blk_frozen BK133.out 1) | ((with_reducible refine gate_callee (f := 59) rfl ?_); refine gl 42 Try.func59 #[.pointer (some ⟨g115, 0, none⟩), .int .i64 (t101.length : Int)] ?_; (with_reducible refine (spec_l6Rd_pick.calls kj4 g115 t109 x100001_4 (t101.length : Int) t102 t123 w _ ?side1 ?side2 A27.out).mono ?_); (case side1 => exact qi HI115.out); (case side2 => exact qj HB.out HI115.out); rintro e w45 ⟨rfl, hi, hb, hk⟩; refine ⟨_, rfl, ?_⟩; replace HO_6 := q0 (Kd.Q_mono (Kd.Q_keep (IsSRd.apartQ (show IsSRd w _ g115 t109 x100001_4 from qi HI115.out) (by (with_reducible repeat (first | apply Kd.Q_alloc | apply Kd.Q_drewN | apply Kd.Q_drew)); exact (Kd.Q_mono (Kd.Q_far (p := ⟨gb133, 1, none⟩) (Kd.Q_far (p := ⟨gb133, 0, none⟩) (Kd.Q_types HO_6.out BK133.out (by decide)) (fun _ hk => hk.2) (.int .i64 t100)) (fun _ hk => hk.2) (.slice Ao39 t101.length co39)) (fun _ h_ => h_.1))) (by decide)) hk (fun _ h => h.2)) (fun _ h => h.1)); replace HO_101001 := q0 (Kd.R_mono (Kd.R_keep (IsSRd.apart (show IsSRd w _ g115 t109 x100001_4 from qi HI115.out) (by (with_reducible repeat (first | apply Kd.R_alloc | apply Kd.R_drewN | apply Kd.R_drew)); exact (rf2 HO_101001.out BK133.out (fun _ h_ => h_.1))) (by decide)) hk (fun _ h => h.2)) (fun _ h => h.1)); replace BK114 := q0 (kc hk BK114.out NB114_115.out); replace BK118 := q0 (kc hk BK118.out NB118_115.out); replace BK133 := q0 (KeepBut.blk hk (g' := gb133) (o := .cells #[.int .i64 t100, .slice Ao39 t101.length co39] 25 (0, 0)) (by (with_reducible repeat (first | refine blk_drewN ?_ _ | refine blk_drew ?_ | refine blk_alloc ?_ _)); refine blk_put (cs := #[.int .i64 t100, .slice none 0 0]) ?_ 1 _ rfl; (with_reducible repeat (first | refine blk_drewN ?_ _ | refine blk_drew ?_ | refine blk_alloc ?_ _)); refine blk_put (cs := #[.int .i64 0, .slice none 0 0]) ?_ 0 _ rfl; (with_reducible repeat (first | refine blk_drewN ?_ _ | refine blk_drew ?_ | refine blk_alloc ?_ _)); exact BK133.out) NB133_115.out (by simp)); replace HB := q0 (hb); replace HI115 := q0 (hi); (try clear hb); (try clear hb2); (try clear hk); (try clear hi); have p134 : 0 ≤ (t102 : Int) := of_decide_eq_true qa; have q134 : t102 < (t101.length : Int) := of_decide_eq_true qa; obtain ⟨ad134, e134, hx134_0, hx134_1⟩ := at_TTie (Kd.Q_reads' HO_6.out).2.2 t102 p134 q134; cases e134; replace p134 := eq_true p134; replace q134 := eq_true q134) | ((with_reducible refine gate_dst (N := 8) rfl ?_); (try (refine gate_guard (by rfl) ?_; dsimp only)); refine be 8 #[.int .i64 0, .int .i64 0] 32 ?_; intro gb135 hg w46 hbox hb; replace HO_6 := q0 (Kd.Q_below (Kd.Q_elderB (by (with_reducible repeat (first | apply Kd.Q_alloc | apply Kd.Q_drewN | apply Kd.Q_drew)); exact HO_6.out) gb135 (Nat.le_of_eq hg.symm)) hb); replace HO_101001 := q0 (Kd.R_below (Kd.R_elderB (qr HO_101001.out) gb135 (Nat.le_of_eq hg.symm)) hb); have BK135 := q0 (hbox); have GW135 := q0 ((by rw [hg]; exact (below_size (qj HB.out HI115.out)) : w.heap.size ≤ gb135)); have GE135 := q0 ((by rw [hg]; exact (below_size (qj HB.out HI115.out)) : w.heap.size ≤ gb135)); replace HB := q0 (below_step (qj HB.out HI115.out) hb); have NB114_135 := q0 ((bl BK114.out hg : gb114 ≠ gb135)); have NB135_114 := q0 ((bg BK114.out hg : gb135 ≠ gb114)); replace BK114 := q0 (kb BK114.out hb); have NB118_135 := q0 ((bl BK118.out hg : gb118 ≠ gb135)); have NB135_118 := q0 ((bg BK118.out hg : gb135 ≠ gb118)); replace BK118 := q0 (kb BK118.out hb); have NB133_135 := q0 ((bl BK133.out hg : gb133 ≠ gb135)); have NB135_133 := q0 ((bg BK133.out hg : gb135 ≠ gb133)); replace BK133 := q0 (kb BK133.out hb); have NB115_135 := q0 ((by rw [hg]; exact Nat.ne_of_lt (IsSRd.lt (show IsSRd w _ g115 t109 t123 from qi HI115.out)) : g115 ≠ gb135)); have NB135_115 := q0 ((by rw [hg]; exact Nat.ne_of_gt (IsSRd.lt (show IsSRd w _ g115 t109 t123 from qi HI115.out)) : gb135 ≠ g115)); replace HI115 := q0 (IsSRd.below (qi HI115.out) hb); clear hb hbox hg; have hnb47 := NB135_114.out; have hnc47 := NB114_135.out; have hnb48 := NB135_118.out; have hnc48 := NB118_135.out; have hnb49 := NB135_133.out; have hnc49 := NB133_135.out; have hnb50 := NB135_115.out; have hnc50 := NB115_135.out; have hcz51_0 : w46.cell? ⟨gb135, 0, none⟩ = some (.int .i64 0) := (blk_cell BK135.out 0).trans rfl; have hcz51_1 : w46.cell? ⟨gb135, 1, none⟩ = some (.int .i64 0) := (blk_cell BK135.out 1).trans rfl; have hfz51_0 := blk_frozen BK135.out 0; have hfz51_1 := blk_frozen BK135.out 1))
   have n0_ : Aside0 (Kd.Q kTie 32 ((w46.setCell ⟨gb135, 0, none⟩ (.int .i64 ((rd_TTie t101 t102).f0))).setCell ⟨gb135, 1, none⟩ (.int .i64 ((rd_TTie t101 t102).f1))) w.heap.size (fun k_ => some k_ ≠ (.slice Ao13 t112.length co13 : Value).ownBlock ∧ k_ ≠ gb135) (.slice (some ad134) t101.length co39) t101) := ⟨by (with_reducible repeat (first | apply Kd.Q_alloc | apply Kd.Q_drewN | apply Kd.Q_drew)); exact Kd.Q_mono (Kd.Q_far (p := ⟨gb135, 1, none⟩) (Kd.Q_far (p := ⟨gb135, 0, none⟩) (Kd.Q_mono HO_6.out (fun k_ hk => (⟨hk, hk.2⟩ : _ ∧ k_ ≠ gb135))) (fun _ hk => hk.2) (.int .i64 ((rd_TTie t101 t102).f0))) (fun _ hk => hk.2) (.int .i64 ((rd_TTie t101 t102).f1))) (fun _ hk => ⟨hk.1.1, hk.1.2⟩)⟩
   have n1_ : Aside0 (Kd.R kTie 32 ((w46.setCell ⟨gb135, 0, none⟩ (.int .i64 ((rd_TTie t101 t102).f0))).setCell ⟨gb135, 1, none⟩ (.int .i64 ((rd_TTie t101 t102).f1))) w.heap.size (fun k_ => some k_ ≠ (.slice (some ad134) t101.length co39 : Value).ownBlock ∧ k_ ≠ gb135) (.slice Ao13 t112.length co13) t112) := ⟨by (with_reducible repeat (first | apply Kd.R_alloc | apply Kd.R_drewN | apply Kd.R_drew)); exact Kd.R_mono (Kd.R_far (p := ⟨gb135, 1, none⟩) (Kd.R_far (p := ⟨gb135, 0, none⟩) (Kd.R_mono HO_101001.out (fun k_ hk => (⟨hk, hk.2⟩ : _ ∧ k_ ≠ gb135))) (fun _ hk => hk.2) (.int .i64 ((rd_TTie t101 t102).f0))) (fun _ hk => hk.2) (.int .i64 ((rd_TTie t101 t102).f1))) (fun _ hk => ⟨hk.1.1, hk.1.2⟩)⟩
   have n2_ : Aside0 (((w46.setCell ⟨gb135, 0, none⟩ (.int .i64 ((rd_TTie t101 t102).f0))).setCell ⟨gb135, 1, none⟩ (.int .i64 ((rd_TTie t101 t102).f1))).heap[gb114]? = some (.cells #[.int .i64 0, .slice none 0 0] 25 (0, 0))) := ⟨qf BK114.out⟩
   have n3_ : Aside0 (((w46.setCell ⟨gb135, 0, none⟩ (.int .i64 ((rd_TTie t101 t102).f0))).setCell ⟨gb135, 1, none⟩ (.int .i64 ((rd_TTie t101 t102).f1))).heap[gb118]? = some (.cells #[.int .i64 t100, .slice Ao13 t112.length co13] 25 (0, 0))) := ⟨qf BK118.out⟩
   have n4_ : Aside0 (((w46.setCell ⟨gb135, 0, none⟩ (.int .i64 ((rd_TTie t101 t102).f0))).setCell ⟨gb135, 1, none⟩ (.int .i64 ((rd_TTie t101 t102).f1))).heap[gb133]? = some (.cells #[.int .i64 t100, .slice (some ad134) t101.length co39] 25 (0, 0))) := ⟨qf BK133.out⟩
   have n5_ : Aside0 (((w46.setCell ⟨gb135, 0, none⟩ (.int .i64 ((rd_TTie t101 t102).f0))).setCell ⟨gb135, 1, none⟩ (.int .i64 ((rd_TTie t101 t102).f1))).heap[gb135]? = some (.cells #[.int .i64 ((rd_TTie t101 t102).f0), .int .i64 ((rd_TTie t101 t102).f1)] 32 (0, 0))) := ⟨by (with_reducible repeat (first | refine blk_drewN ?_ _ | refine blk_drew ?_ | refine blk_alloc ?_ _)); refine blk_put (cs := #[.int .i64 ((rd_TTie t101 t102).f0), .int .i64 0]) ?_ 1 _ rfl; (with_reducible repeat (first | refine blk_drewN ?_ _ | refine blk_drew ?_ | refine blk_alloc ?_ _)); refine blk_put (cs := #[.int .i64 0, .int .i64 0]) ?_ 0 _ rfl; (with_reducible repeat (first | refine blk_drewN ?_ _ | refine blk_drew ?_ | refine blk_alloc ?_ _)); exact BK135.out⟩
   have n6_ : Aside0 (IsSRd w ((w46.setCell ⟨gb135, 0, none⟩ (.int .i64 ((rd_TTie t101 t102).f0))).setCell ⟨gb135, 1, none⟩ (.int .i64 ((rd_TTie t101 t102).f1))) g115 t109 t123) := ⟨qi HI115.out⟩
   have n7_ : Aside0 (Below w.heap.size w ((w46.setCell ⟨gb135, 0, none⟩ (.int .i64 ((rd_TTie t101 t102).f0))).setCell ⟨gb135, 1, none⟩ (.int .i64 ((rd_TTie t101 t102).f1)))) := ⟨qj HB.out HI115.out⟩
   (try clear HO_6)
   (try clear HO_101001)
   (try clear BK114)
   (try clear BK118)
   (try clear BK133)
   (try clear BK135)
   (try clear HI115)
   (try clear HB)
   generalize ((w46.setCell ⟨gb135, 0, none⟩ (.int .i64 ((rd_TTie t101 t102).f0))).setCell ⟨gb135, 1, none⟩ (.int .i64 ((rd_TTie t101 t102).f1))) = w52 at n0_ n1_ n2_ n3_ n4_ n5_ n6_ n7_ ⊢
   have HO_6 := n0_
   have HO_101001 := n1_
   have BK114 := n2_
   have BK118 := n3_
   have BK133 := n4_
   have BK135 := n5_
   have HI115 := n6_
   have HB := n7_
   clear n0_ n1_ n2_ n3_ n4_ n5_ n6_ n7_
   replace HO_6 := q0 (Kd.Q_drew HO_6.out)
   replace HO_101001 := q0 (Kd.R_drew HO_101001.out)
   replace BK114 := q0 (blk_drew BK114.out)
   replace BK118 := q0 (blk_drew BK118.out)
   replace BK133 := q0 (blk_drew BK133.out)
   replace BK135 := q0 (blk_drew BK135.out)
   replace HI115 := q0 (IsSRd.drew HI115.out)
   replace HB := q0 (below_drew1 HB.out)
   have p136 : 0 ≤ (t103 : Int) := of_decide_eq_true qa
   have q136 : t103 < (t112.length : Int) := of_decide_eq_true qa
   obtain ⟨ad136, e136, hx136_0, hx136_1⟩ := at_TTie (Kd.R_reads' HO_101001.out).2.2 t103 p136 q136
   cases e136
   replace p136 := eq_true p136
   replace q136 := eq_true q136
   refine start_ (n := 11) (S := fun w' => w'.cell? ⟨gb118, 0, none⟩ = some (.int .i64 t100) ∧ w'.cell? ⟨gb118, 1, none⟩ = some (.slice (some ad136) t112.length co13) ∧ w'.cell? (ad136.add ((t103).toNat * 2)) = some (.int .i64 ((rd_TTie t112 t103).f0)) ∧ w'.cell? ⟨(ad136.add ((t103).toNat * 2)).block, (ad136.add ((t103).toNat * 2)).off + 1, none⟩ = some (.int .i64 ((rd_TTie t112 t103).f1))) (ds := []) (ba 11 0) (by kernel_rfl) rfl (by kernel_rfl) ⟨(blk_cell BK118.out 0).trans rfl, (blk_cell BK118.out 1).trans rfl, hx136_0, hx136_1⟩ (fun hHeld => ?_); refine with_tabW spec_DrawTreeOk.tab7 spec_DrawTreeOk.bits7 (fun HT_ HW_ => ?_)
   generalize w52.drew = w53 at HO_6 HO_101001 BK114 BK118 BK133 BK135 HI115 HB hx136_0 hx136_1 hHeld ⊢
   refine pu 0 (some 45) (ba 11 1) HT_.out ?_
   refine pu 2 (some 47) (ba 11 5) HT_.out ?_
   refine pu 3 (some 48) (ba 11 13) HT_.out ?_
   refine tu 1 (some 46) (ba 11 15) HT_.out HW_.out hHeld ?_
   refine tu 4 (some 49) (ba 11 31) HT_.out HW_.out hHeld ?_
   refine pu 5 (some 50) (ba 11 63) HT_.out ?_
   refine join_ (σ := Nat) 1 (ba 11 1023) (fun s_ => [(51, .int .i64 t103), (9, .pointer (some ⟨s_, 0, none⟩)), (52, .pointer (some (ad136.add ((t103).toNat * 2)))), (53, .agg #[.int .i64 ((rd_TTie t112 t103).f0), .int .i64 ((rd_TTie t112 t103).f1)])]) (fun s_ w' => (w'.cell? ⟨gb118, 0, none⟩ = some (.int .i64 t100) ∧ w'.cell? ⟨gb118, 1, none⟩ = some (.slice (some ad136) t112.length co13) ∧ w'.cell? (ad136.add ((t103).toNat * 2)) = some (.int .i64 ((rd_TTie t112 t103).f0)) ∧ w'.cell? ⟨(ad136.add ((t103).toNat * 2)).block, (ad136.add ((t103).toNat * 2)).off + 1, none⟩ = some (.int .i64 ((rd_TTie t112 t103).f1))) ∧ (Kd.R kTie 32 w' w.heap.size (fun k_ => some k_ ≠ (.slice (some ad134) t101.length co39 : Value).ownBlock ∧ k_ ≠ gb135 ∧ k_ ≠ s_) (.slice (some ad136) t112.length co13) t112) ∧ (Kd.Q kTie 32 w' w.heap.size (fun k_ => some k_ ≠ (.slice (some ad136) t112.length co13 : Value).ownBlock ∧ k_ ≠ gb135 ∧ k_ ≠ s_) (.slice (some ad134) t101.length co39) t101) ∧ (w'.heap[gb114]? = some (.cells #[.int .i64 0, .slice none 0 0] 25 (0, 0))) ∧ (w'.heap[gb118]? = some (.cells #[.int .i64 t100, .slice (some ad136) t112.length co13] 25 (0, 0))) ∧ (w'.heap[gb133]? = some (.cells #[.int .i64 t100, .slice (some ad134) t101.length co39] 25 (0, 0))) ∧ (w'.heap[gb135]? = some (.cells #[.int .i64 ((rd_TTie t101 t102).f0), .int .i64 ((rd_TTie t101 t102).f1)] 32 (0, 0))) ∧ (w'.heap[s_]? = some (.cells #[.int .i64 0, .int .i64 0] 32 (0, 0))) ∧ (w.heap.size ≤ s_) ∧ (w.heap.size ≤ s_) ∧ (g115 ≠ s_) ∧ (s_ ≠ g115) ∧ (gb114 ≠ s_) ∧ (s_ ≠ gb114) ∧ (gb118 ≠ s_) ∧ (s_ ≠ gb118) ∧ (gb133 ≠ s_) ∧ (s_ ≠ gb133) ∧ (gb135 ≠ s_) ∧ (s_ ≠ gb135) ∧ (IsSRd w w' g115 t109 t125) ∧ (Below w.heap.size w w')) ?_ ?_
   rotate_left
   · intro hCont
     refine two_ (i := 6) (j := 9) (Ni := some 51) (Nj := some 9) (ba 11 127) (ba 11 575) rfl rfl rfl rfl (two_of HT_.out (by kernel_rfl)) (by decide) (by decide) (fun K hK => ?_) (fun K hK => ?_)
     · skip
       refine goes_ Try.func59 (by kernel_rfl) rfl #[.pointer (some ⟨g115, 0, none⟩), .int .i64 (t112.length : Int)] (by rfl) rfl rfl qm ?_
       with_reducible refine (spec_l6Rd_pick.calls kj4 g115 t109 t123 (t112.length : Int) t103 t125 w _ ?side1 ?side2 A30.out).mono ?_
       (case side1 => exact qi HI115.out)
       (case side2 => exact qj HB.out HI115.out)
       rintro e w54 ⟨rfl, hi, hb, hk⟩
       have HS2_ := keep_cell hk (hHeld.2.2.1) (by first | (rw [add_block]; exact Kd.own_blk (IsSRd.own_ne HI115.out HO_101001.out (by decide))) | (show (Addr.add _ _).block ≠ _; rw [add_block]; exact Kd.own_blk (IsSRd.own_ne HI115.out HO_101001.out (by decide))) | exact Kd.own_blk (IsSRd.own_ne HI115.out HO_101001.out (by decide)))
       have HS3_ := keep_cell hk (hHeld.2.2.2) (by first | (rw [add_block]; exact Kd.own_blk (IsSRd.own_ne HI115.out HO_101001.out (by decide))) | (show (Addr.add _ _).block ≠ _; rw [add_block]; exact Kd.own_blk (IsSRd.own_ne HI115.out HO_101001.out (by decide))) | exact Kd.own_blk (IsSRd.own_ne HI115.out HO_101001.out (by decide)))
       refine ⟨_, rfl, ?_⟩
       replace HO_6 := q0 (Kd.Q_mono (Kd.Q_keep (IsSRd.apartQ (show IsSRd w _ g115 t109 t123 from qi HI115.out) (by (with_reducible repeat (first | apply Kd.Q_alloc | apply Kd.Q_drewN | apply Kd.Q_drew)); exact HO_6.out) (by decide)) hk (fun _ h => h.2)) (fun _ h => h.1))
       replace HO_101001 := q0 (Kd.R_mono (Kd.R_keep (IsSRd.apart (show IsSRd w _ g115 t109 t123 from qi HI115.out) (qr HO_101001.out) (by decide)) hk (fun _ h => h.2)) (fun _ h => h.1))
       replace BK114 := q0 (kc hk BK114.out NB114_115.out)
       replace BK118 := q0 (kc hk BK118.out NB118_115.out)
       replace BK133 := q0 (kc hk BK133.out NB133_115.out)
       replace BK135 := q0 (kc hk BK135.out NB135_115.out)
       replace HB := q0 (hb)
       replace HI115 := q0 (hi)
       (try clear hb)
       (try clear hb2)
       (try clear hk)
       (try clear hi)
       refine hK.out _ _ ⟨(blk_cell BK118.out 0).trans rfl, (blk_cell BK118.out 1).trans rfl, HS2_, HS3_⟩ (fun hHeld => ?_)
       clear hK K
       refine nu 51 ?_
       refine pu 7 (some 52) (ba 11 255) HT_.out ?_
       refine tu 8 (some 53) (ba 11 511) HT_.out HW_.out hHeld ?_
       refine one_ (i := 9) (N := some 9) (ba 11 1023) rfl rfl (one_of HT_.out (by kernel_rfl)) (by decide) (fun K hK => ?_)
       refine box_step ?hg (N := 9) ?hd (cs := #[.int .i64 0, .int .i64 0]) (t := 32) ?hr ?_; (case hd => rfl); (case hg => rfl); (case hr => first | (go_simp; done) | (go_simp; rfl))
       intro gb137 hg w55 hbox hb
       have HS2_ := (hb.cell (World.block_lt_of_cell? _ _ (hHeld.2.2.1))).trans (hHeld.2.2.1)
       have HS3_ := (hb.cell (World.block_lt_of_cell? _ _ (hHeld.2.2.2))).trans (hHeld.2.2.2)
       replace HO_6 := q0 (Kd.Q_below (Kd.Q_elderB (by (with_reducible repeat (first | apply Kd.Q_alloc | apply Kd.Q_drewN | apply Kd.Q_drew)); exact HO_6.out) gb137 (Nat.le_of_eq hg.symm)) hb)
       replace HO_101001 := q0 (Kd.R_below (Kd.R_elderB (qr HO_101001.out) gb137 (Nat.le_of_eq hg.symm)) hb)
       have BK137 := q0 (hbox)
       have GW137 := q0 ((by rw [hg]; exact (below_size (qj HB.out HI115.out)) : w.heap.size ≤ gb137))
       have GE137 := q0 ((by rw [hg]; exact (below_size (qj HB.out HI115.out)) : w.heap.size ≤ gb137))
       replace HB := q0 (below_step (qj HB.out HI115.out) hb)
       have NB114_137 := q0 ((bl BK114.out hg : gb114 ≠ gb137))
       have NB137_114 := q0 ((bg BK114.out hg : gb137 ≠ gb114))
       replace BK114 := q0 (kb BK114.out hb)
       have NB118_137 := q0 ((bl BK118.out hg : gb118 ≠ gb137))
       have NB137_118 := q0 ((bg BK118.out hg : gb137 ≠ gb118))
       replace BK118 := q0 (kb BK118.out hb)
       have NB133_137 := q0 ((bl BK133.out hg : gb133 ≠ gb137))
       have NB137_133 := q0 ((bg BK133.out hg : gb137 ≠ gb133))
       replace BK133 := q0 (kb BK133.out hb)
       have NB135_137 := q0 ((bl BK135.out hg : gb135 ≠ gb137))
       have NB137_135 := q0 ((bg BK135.out hg : gb137 ≠ gb135))
       replace BK135 := q0 (kb BK135.out hb)
       have NB115_137 := q0 ((by rw [hg]; exact Nat.ne_of_lt (IsSRd.lt (show IsSRd w _ g115 t109 t125 from qi HI115.out)) : g115 ≠ gb137))
       have NB137_115 := q0 ((by rw [hg]; exact Nat.ne_of_gt (IsSRd.lt (show IsSRd w _ g115 t109 t125 from qi HI115.out)) : gb137 ≠ g115))
       replace HI115 := q0 (IsSRd.below (qi HI115.out) hb)
       clear hb hbox hg
       refine hK.out _ _ ⟨(blk_cell BK118.out 0).trans rfl, (blk_cell BK118.out 1).trans rfl, HS2_, HS3_⟩ (fun hHeld => ?_)
       clear hK K
       refine nu 9 ?_
       exact norm_ (by simp only [putAll, Act.put, List.setIfInBounds_toArray, List.set_cons_zero, List.set_cons_succ]) (hCont (gb137) _ ⟨hHeld, (by (with_reducible repeat (first | apply Kd.R_alloc | apply Kd.R_drewN | apply Kd.R_drew)); exact Kd.R_mono HO_101001.out (fun _ hk => ⟨hk.1.1, ⟨hk.1.2, hk.2⟩⟩)), (by (with_reducible repeat (first | apply Kd.Q_alloc | apply Kd.Q_drewN | apply Kd.Q_drew)); exact Kd.Q_mono HO_6.out (fun _ hk => ⟨hk.1.1, ⟨hk.1.2, hk.2⟩⟩)), (qk BK114.out), (qk BK118.out), (qk BK133.out), (qk BK135.out), (qk BK137.out), GW137.out, GE137.out, NB115_137.out, NB137_115.out, NB114_137.out, NB137_114.out, NB118_137.out, NB137_118.out, NB133_137.out, NB137_133.out, NB135_137.out, NB137_135.out, (qi HI115.out), (qj HB.out HI115.out)⟩)
     · skip
       refine box_step ?hg (N := 9) ?hd (cs := #[.int .i64 0, .int .i64 0]) (t := 32) ?hr ?_; (case hd => rfl); (case hg => rfl); (case hr => first | (go_simp; done) | (go_simp; rfl))
       intro gb137 hg w54 hbox hb
       have HS2_ := (hb.cell (World.block_lt_of_cell? _ _ (hHeld.2.2.1))).trans (hHeld.2.2.1)
       have HS3_ := (hb.cell (World.block_lt_of_cell? _ _ (hHeld.2.2.2))).trans (hHeld.2.2.2)
       replace HO_6 := q0 (Kd.Q_below (Kd.Q_elderB (by (with_reducible repeat (first | apply Kd.Q_alloc | apply Kd.Q_drewN | apply Kd.Q_drew)); exact HO_6.out) gb137 (Nat.le_of_eq hg.symm)) hb)
       replace HO_101001 := q0 (Kd.R_below (Kd.R_elderB (qr HO_101001.out) gb137 (Nat.le_of_eq hg.symm)) hb)
       have BK137 := q0 (hbox)
       have GW137 := q0 ((by rw [hg]; exact (below_size (qj HB.out HI115.out)) : w.heap.size ≤ gb137))
       have GE137 := q0 ((by rw [hg]; exact (below_size (qj HB.out HI115.out)) : w.heap.size ≤ gb137))
       replace HB := q0 (below_step (qj HB.out HI115.out) hb)
       have NB114_137 := q0 ((bl BK114.out hg : gb114 ≠ gb137))
       have NB137_114 := q0 ((bg BK114.out hg : gb137 ≠ gb114))
       replace BK114 := q0 (kb BK114.out hb)
       have NB118_137 := q0 ((bl BK118.out hg : gb118 ≠ gb137))
       have NB137_118 := q0 ((bg BK118.out hg : gb137 ≠ gb118))
       replace BK118 := q0 (kb BK118.out hb)
       have NB133_137 := q0 ((bl BK133.out hg : gb133 ≠ gb137))
       have NB137_133 := q0 ((bg BK133.out hg : gb137 ≠ gb133))
       replace BK133 := q0 (kb BK133.out hb)
       have NB135_137 := q0 ((bl BK135.out hg : gb135 ≠ gb137))
       have NB137_135 := q0 ((bg BK135.out hg : gb137 ≠ gb135))
       replace BK135 := q0 (kb BK135.out hb)
       have NB115_137 := q0 ((by rw [hg]; exact Nat.ne_of_lt (IsSRd.lt (show IsSRd w _ g115 t109 t123 from qi HI115.out)) : g115 ≠ gb137))
       have NB137_115 := q0 ((by rw [hg]; exact Nat.ne_of_gt (IsSRd.lt (show IsSRd w _ g115 t109 t123 from qi HI115.out)) : gb137 ≠ g115))
       replace HI115 := q0 (IsSRd.below (qi HI115.out) hb)
       clear hb hbox hg
       refine hK.out _ _ ⟨(blk_cell BK118.out 0).trans rfl, (blk_cell BK118.out 1).trans rfl, HS2_, HS3_⟩ (fun hHeld => ?_)
       clear hK K
       refine nu 9 ?_
       refine one_ (i := 6) (N := some 51) (ba 11 639) rfl rfl (one_of HT_.out (by kernel_rfl)) (by decide) (fun K hK => ?_)
       refine goes_ Try.func59 (by kernel_rfl) rfl #[.pointer (some ⟨g115, 0, none⟩), .int .i64 (t112.length : Int)] (by rfl) rfl rfl qm ?_
       with_reducible refine (spec_l6Rd_pick.calls kj4 g115 t109 t123 (t112.length : Int) t103 t125 w _ ?side1 ?side2 A30.out).mono ?_
       (case side1 => exact qi HI115.out)
       (case side2 => exact qj HB.out HI115.out)
       rintro e w55 ⟨rfl, hi, hb, hk⟩
       have HS2_ := keep_cell hk (hHeld.2.2.1) (by first | (rw [add_block]; exact Kd.own_blk (IsSRd.own_ne HI115.out HO_101001.out (by decide))) | (show (Addr.add _ _).block ≠ _; rw [add_block]; exact Kd.own_blk (IsSRd.own_ne HI115.out HO_101001.out (by decide))) | exact Kd.own_blk (IsSRd.own_ne HI115.out HO_101001.out (by decide)))
       have HS3_ := keep_cell hk (hHeld.2.2.2) (by first | (rw [add_block]; exact Kd.own_blk (IsSRd.own_ne HI115.out HO_101001.out (by decide))) | (show (Addr.add _ _).block ≠ _; rw [add_block]; exact Kd.own_blk (IsSRd.own_ne HI115.out HO_101001.out (by decide))) | exact Kd.own_blk (IsSRd.own_ne HI115.out HO_101001.out (by decide)))
       refine ⟨_, rfl, ?_⟩
       replace HO_6 := q0 (Kd.Q_mono (Kd.Q_keep (IsSRd.apartQ (show IsSRd w _ g115 t109 t123 from qi HI115.out) (by (with_reducible repeat (first | apply Kd.Q_alloc | apply Kd.Q_drewN | apply Kd.Q_drew)); exact HO_6.out) (by decide)) hk (fun _ h => h.2)) (fun _ h => h.1))
       replace HO_101001 := q0 (Kd.R_mono (Kd.R_keep (IsSRd.apart (show IsSRd w _ g115 t109 t123 from qi HI115.out) (qr HO_101001.out) (by decide)) hk (fun _ h => h.2)) (fun _ h => h.1))
       replace BK114 := q0 (kc hk BK114.out NB114_115.out)
       replace BK118 := q0 (kc hk BK118.out NB118_115.out)
       replace BK133 := q0 (kc hk BK133.out NB133_115.out)
       replace BK135 := q0 (kc hk BK135.out NB135_115.out)
       replace BK137 := q0 (kc hk BK137.out NB137_115.out)
       replace HB := q0 (hb)
       replace HI115 := q0 (hi)
       (try clear hb)
       (try clear hb2)
       (try clear hk)
       (try clear hi)
       refine hK.out _ _ ⟨(blk_cell BK118.out 0).trans rfl, (blk_cell BK118.out 1).trans rfl, HS2_, HS3_⟩ (fun hHeld => ?_)
       clear hK K
       refine nu 51 ?_
       refine pu 7 (some 52) (ba 11 767) HT_.out ?_
       refine tu 8 (some 53) (ba 11 1023) HT_.out HW_.out hHeld ?_
       exact norm_ (by simp only [putAll, Act.put, List.setIfInBounds_toArray, List.set_cons_zero, List.set_cons_succ]) (hCont (gb137) _ ⟨hHeld, (by (with_reducible repeat (first | apply Kd.R_alloc | apply Kd.R_drewN | apply Kd.R_drew)); exact Kd.R_mono HO_101001.out (fun _ hk => ⟨hk.1.1, ⟨hk.1.2, hk.2⟩⟩)), (by (with_reducible repeat (first | apply Kd.Q_alloc | apply Kd.Q_drewN | apply Kd.Q_drew)); exact Kd.Q_mono HO_6.out (fun _ hk => ⟨hk.1.1, ⟨hk.1.2, hk.2⟩⟩)), (qk BK114.out), (qk BK118.out), (qk BK133.out), (qk BK135.out), (qk BK137.out), GW137.out, GE137.out, NB115_137.out, NB137_115.out, NB114_137.out, NB137_114.out, NB118_137.out, NB137_118.out, NB133_137.out, NB137_133.out, NB135_137.out, NB137_135.out, (qi HI115.out), (qj HB.out HI115.out)⟩)
   rintro gb137 w56 ⟨hS_, h0_, h1_, h2_, h3_, h4_, h5_, h6_, h7_, h8_, h9_, h10_, h11_, h12_, h13_, h14_, h15_, h16_, h17_, h18_, h19_, h20_⟩
   have n0_ : Aside0 (Kd.R kTie 32 w56 w.heap.size (fun k_ => some k_ ≠ (.slice (some ad134) t101.length co39 : Value).ownBlock ∧ k_ ≠ gb135 ∧ k_ ≠ gb137) (.slice (some ad136) t112.length co13) t112) := ⟨h0_⟩
   have n1_ : Aside0 (Kd.Q kTie 32 w56 w.heap.size (fun k_ => some k_ ≠ (.slice (some ad136) t112.length co13 : Value).ownBlock ∧ k_ ≠ gb135 ∧ k_ ≠ gb137) (.slice (some ad134) t101.length co39) t101) := ⟨h1_⟩
   have n2_ : Aside0 (w56.heap[gb114]? = some (.cells #[.int .i64 0, .slice none 0 0] 25 (0, 0))) := ⟨h2_⟩
   have n3_ : Aside0 (w56.heap[gb118]? = some (.cells #[.int .i64 t100, .slice (some ad136) t112.length co13] 25 (0, 0))) := ⟨h3_⟩
   have n4_ : Aside0 (w56.heap[gb133]? = some (.cells #[.int .i64 t100, .slice (some ad134) t101.length co39] 25 (0, 0))) := ⟨h4_⟩
   have n5_ : Aside0 (w56.heap[gb135]? = some (.cells #[.int .i64 ((rd_TTie t101 t102).f0), .int .i64 ((rd_TTie t101 t102).f1)] 32 (0, 0))) := ⟨h5_⟩
   have n6_ : Aside0 (w56.heap[gb137]? = some (.cells #[.int .i64 0, .int .i64 0] 32 (0, 0))) := ⟨h6_⟩
   have n7_ : Aside0 (w.heap.size ≤ gb137) := ⟨h7_⟩
   have n8_ : Aside0 (w.heap.size ≤ gb137) := ⟨h8_⟩
   have n9_ : Aside0 (g115 ≠ gb137) := ⟨h9_⟩
   have n10_ : Aside0 (gb137 ≠ g115) := ⟨h10_⟩
   have n11_ : Aside0 (gb114 ≠ gb137) := ⟨h11_⟩
   have n12_ : Aside0 (gb137 ≠ gb114) := ⟨h12_⟩
   have n13_ : Aside0 (gb118 ≠ gb137) := ⟨h13_⟩
   have n14_ : Aside0 (gb137 ≠ gb118) := ⟨h14_⟩
   have n15_ : Aside0 (gb133 ≠ gb137) := ⟨h15_⟩
   have n16_ : Aside0 (gb137 ≠ gb133) := ⟨h16_⟩
   have n17_ : Aside0 (gb135 ≠ gb137) := ⟨h17_⟩
   have n18_ : Aside0 (gb137 ≠ gb135) := ⟨h18_⟩
   have n19_ : Aside0 (IsSRd w w56 g115 t109 t125) := ⟨h19_⟩
   have n20_ : Aside0 (Below w.heap.size w w56) := ⟨h20_⟩
   clear HO_6
   clear HO_101001
   clear BK114
   clear BK118
   clear BK133
   clear BK135
   clear HI115
   clear HB
   clear h0_ h1_ h2_ h3_ h4_ h5_ h6_ h7_ h8_ h9_ h10_ h11_ h12_ h13_ h14_ h15_ h16_ h17_ h18_ h19_ h20_
   have HO_101001 := n0_
   have HO_6 := n1_
   have BK114 := n2_
   have BK118 := n3_
   have BK133 := n4_
   have BK135 := n5_
   have BK137 := n6_
   have GW137 := n7_
   have GE137 := n8_
   have NB115_137 := n9_
   have NB137_115 := n10_
   have NB114_137 := n11_
   have NB137_114 := n12_
   have NB118_137 := n13_
   have NB137_118 := n14_
   have NB133_137 := n15_
   have NB137_133 := n16_
   have NB135_137 := n17_
   have NB137_135 := n18_
   have HI115 := n19_
   have HB := n20_
   clear n0_ n1_ n2_ n3_ n4_ n5_ n6_ n7_ n8_ n9_ n10_ n11_ n12_ n13_ n14_ n15_ n16_ n17_ n18_ n19_ n20_
   have hHeld : w56.cell? ⟨gb118, 0, none⟩ = some (.int .i64 t100) ∧ w56.cell? ⟨gb118, 1, none⟩ = some (.slice (some ad136) t112.length co13) ∧ w56.cell? (ad136.add ((t103).toNat * 2)) = some (.int .i64 ((rd_TTie t112 t103).f0)) ∧ w56.cell? ⟨(ad136.add ((t103).toNat * 2)).block, (ad136.add ((t103).toNat * 2)).off + 1, none⟩ = some (.int .i64 ((rd_TTie t112 t103).f1)) := hS_
   refine norm_ (a' := ?_) ?_ ?_
   rotate_left
   · simp only [putAll, Act.put, List.setIfInBounds_toArray, List.set_cons_zero, List.set_cons_succ]
     rfl
   refine one_ (i := 10) (N := none) (ba 11 2047) rfl rfl (one_of HT_.out (by kernel_rfl)) (by decide) (fun K hK => ?_)
   have hs57 : w56.cell? ⟨gb137, 0, none⟩ = some (.int .i64 0) := (blk_cell BK137.out 0).trans rfl
   have hfs57 := blk_frozen BK137.out 0
   have hns57_0 := NB114_137.out
   have hns57_1 := NB118_137.out
   have hns57_2 := NB133_137.out
   have hns57_3 := NB135_137.out
   have hms57_0 := NB137_114.out
   have hms57_1 := NB137_118.out
   have hms57_2 := NB137_133.out
   have hms57_3 := NB137_135.out
   have hs58 : w56.cell? ⟨gb137, 1, none⟩ = some (.int .i64 0) := (blk_cell BK137.out 1).trans rfl
   have hfs58 := blk_frozen BK137.out 1
   have hns58_0 := NB114_137.out
   have hns58_1 := NB118_137.out
   have hns58_2 := NB133_137.out
   have hns58_3 := NB135_137.out
   have hms58_0 := NB137_114.out
   have hms58_1 := NB137_118.out
   have hms58_2 := NB137_133.out
   have hms58_3 := NB137_135.out
   refine skip_ (w1 := ?_) (by rfl) rfl ?_ ?_
   rotate_left
   · go_simp
     rfl
   refine hK.out _ _ ⟨((cell_far (p := ⟨gb137, _, none⟩) NB118_137.out _).trans (((cell_far (p := ⟨gb137, _, none⟩) NB118_137.out _).trans (hHeld.1)))), ((cell_far (p := ⟨gb137, _, none⟩) NB118_137.out _).trans (((cell_far (p := ⟨gb137, _, none⟩) NB118_137.out _).trans (hHeld.2.1)))), ((cell_far (p := ⟨gb137, _, none⟩) (by first | exact Kd.own_blk (Kd.R_away HO_101001.out (fun _ hk => hk.2.2)) | (rw [add_block]; exact Kd.own_blk (Kd.R_away HO_101001.out (fun _ hk => hk.2.2))) | (show (Addr.add _ _).block ≠ _; rw [add_block]; exact Kd.own_blk (Kd.R_away HO_101001.out (fun _ hk => hk.2.2))) | (dsimp only; exact Kd.own_blk (Kd.R_away HO_101001.out (fun _ hk => hk.2.2)))) _).trans (((cell_far (p := ⟨gb137, _, none⟩) (by first | exact Kd.own_blk (Kd.R_away HO_101001.out (fun _ hk => hk.2.2)) | (rw [add_block]; exact Kd.own_blk (Kd.R_away HO_101001.out (fun _ hk => hk.2.2))) | (show (Addr.add _ _).block ≠ _; rw [add_block]; exact Kd.own_blk (Kd.R_away HO_101001.out (fun _ hk => hk.2.2))) | (dsimp only; exact Kd.own_blk (Kd.R_away HO_101001.out (fun _ hk => hk.2.2)))) _).trans (hHeld.2.2.1)))), ((cell_far (p := ⟨gb137, _, none⟩) (by first | exact Kd.own_blk (Kd.R_away HO_101001.out (fun _ hk => hk.2.2)) | (rw [add_block]; exact Kd.own_blk (Kd.R_away HO_101001.out (fun _ hk => hk.2.2))) | (show (Addr.add _ _).block ≠ _; rw [add_block]; exact Kd.own_blk (Kd.R_away HO_101001.out (fun _ hk => hk.2.2))) | (dsimp only; exact Kd.own_blk (Kd.R_away HO_101001.out (fun _ hk => hk.2.2)))) _).trans (((cell_far (p := ⟨gb137, _, none⟩) (by first | exact Kd.own_blk (Kd.R_away HO_101001.out (fun _ hk => hk.2.2)) | (rw [add_block]; exact Kd.own_blk (Kd.R_away HO_101001.out (fun _ hk => hk.2.2))) | (show (Addr.add _ _).block ≠ _; rw [add_block]; exact Kd.own_blk (Kd.R_away HO_101001.out (fun _ hk => hk.2.2))) | (dsimp only; exact Kd.own_blk (Kd.R_away HO_101001.out (fun _ hk => hk.2.2)))) _).trans (hHeld.2.2.2))))⟩ (fun hHeld => ?_)
   clear hK K
   refine done_ (done_of HT_.out (by kernel_rfl)) ?_
   have hnb59 := NB133_137.out
   have hnc59 := NB137_133.out
   have hcz60_0 : w56.cell? ⟨gb133, 0, none⟩ = some (.int .i64 t100) := (blk_cell BK133.out 0).trans rfl
   have hcz60_1 : w56.cell? ⟨gb133, 1, none⟩ = some (.slice (some ad134) t101.length co39) := (blk_cell BK133.out 1).trans rfl
   have hfz60_0 := blk_frozen BK133.out 0
   have hfz60_1 := blk_frozen BK133.out 1
   have hnb61 := NB135_137.out
   have hnc61 := NB137_135.out
   have hcz62_0 : w56.cell? ⟨gb135, 0, none⟩ = some (.int .i64 ((rd_TTie t101 t102).f0)) := (blk_cell BK135.out 0).trans rfl
   have hcz62_1 : w56.cell? ⟨gb135, 1, none⟩ = some (.int .i64 ((rd_TTie t101 t102).f1)) := (blk_cell BK135.out 1).trans rfl
   have hfz62_0 := blk_frozen BK135.out 0
   have hfz62_1 := blk_frozen BK135.out 1
   try go_wp2_with (first | ((with_reducible refine gate_callee (f := 40) rfl ?_); refine gl 60 Try.func40 #[.agg #[.int .i64 t100, .slice (some ad134) t101.length co39], .int .i64 ((rd_TTie t101 t102).f0), .int .i64 ((rd_TTie t101 t102).f1)] ?_; (with_reducible refine (spec_NetCut.calls kj4 t100 _ _ t101 ((rd_TTie t101 t102).f0) ((rd_TTie t101 t102).f1) t104 t127 t128 _ ?side1 ?side2 A33.out).mono ?_); (case side1 => refine (Kd.Q_reads' (e := 32) (base := w.heap.size) (ok := fun k_ => (some k_ ≠ (.slice (some ad136) t112.length co13 : Value).ownBlock ∧ (k_ ≠ gb135 ∧ k_ ≠ gb137))) (n := t101.length) (c := co39) ?_).2.2; exact (by (with_reducible repeat (first | apply Kd.Q_alloc | apply Kd.Q_drewN | apply Kd.Q_drew)); exact (Kd.Q_mono (Kd.Q_far (p := ⟨gb137, 1, none⟩) (Kd.Q_far (p := ⟨gb137, 0, none⟩) (Kd.Q_mono HO_6.out (fun k_ hk => (⟨hk, hk.2.2⟩ : _ ∧ k_ ≠ gb137))) (fun _ hk => hk.2) (.int .i64 ((rd_TTie t112 t103).f0))) (fun _ hk => hk.2) (.int .i64 ((rd_TTie t112 t103).f1))) (fun _ h_ => h_.1)))); (case side2 => exact (Kd.Q_reads' HO_6.out).2.1); rintro e w63 ⟨v138, rfl, ho0, hb⟩; refine ⟨_, rfl, ?_⟩; have HO139 := q0 (Kd.R_lower (Kd.R_newB (Kd.R_newB (Kd.R_new' (Kd.R_new' ho0 (Kd.Q_lt (by (with_reducible repeat (first | apply Kd.Q_alloc | apply Kd.Q_drewN | apply Kd.Q_drew)); exact (Kd.Q_mono (Kd.Q_far (p := ⟨gb137, 1, none⟩) (Kd.Q_far (p := ⟨gb137, 0, none⟩) (Kd.Q_mono HO_6.out (fun k_ hk => (⟨hk, hk.2.2⟩ : _ ∧ k_ ≠ gb137))) (fun _ hk => hk.2) (.int .i64 ((rd_TTie t112 t103).f0))) (fun _ hk => hk.2) (.int .i64 ((rd_TTie t112 t103).f1))) (fun _ h_ => h_.1))))) (Kd.R_lt (by (with_reducible repeat (first | apply Kd.R_alloc | apply Kd.R_drewN | apply Kd.R_drew)); exact (Kd.R_mono (Kd.R_far (p := ⟨gb137, 1, none⟩) (Kd.R_far (p := ⟨gb137, 0, none⟩) (Kd.R_mono HO_101001.out (fun k_ hk => (⟨hk, hk.2.2⟩ : _ ∧ k_ ≠ gb137))) (fun _ hk => hk.2) (.int .i64 ((rd_TTie t112 t103).f0))) (fun _ hk => hk.2) (.int .i64 ((rd_TTie t112 t103).f1))) (fun _ h_ => h_.1))))) (g := gb135) (o := .cells #[.int .i64 ((rd_TTie t101 t102).f0), .int .i64 ((rd_TTie t101 t102).f1)] 32 (0, 0)) (qf BK135.out)) (g := gb137) (o := .cells #[.int .i64 ((rd_TTie t112 t103).f0), .int .i64 ((rd_TTie t112 t103).f1)] 32 (0, 0)) (by (with_reducible repeat (first | refine blk_drewN ?_ _ | refine blk_drew ?_ | refine blk_alloc ?_ _)); refine blk_put (cs := #[.int .i64 ((rd_TTie t112 t103).f0), .int .i64 0]) ?_ 1 _ rfl; (with_reducible repeat (first | refine blk_drewN ?_ _ | refine blk_drew ?_ | refine blk_alloc ?_ _)); refine blk_put (cs := #[.int .i64 0, .int .i64 0]) ?_ 0 _ rfl; (with_reducible repeat (first | refine blk_drewN ?_ _ | refine blk_drew ?_ | refine blk_alloc ?_ _)); exact BK137.out)) (below_size (qj HB.out HI115.out))); replace HO_6 := q0 (Kd.Q_elder' (by (with_reducible repeat (first | apply Kd.Q_alloc | apply Kd.Q_drewN | apply Kd.Q_drew)); exact (Kd.Q_mono (Kd.Q_far (p := ⟨gb137, 1, none⟩) (Kd.Q_far (p := ⟨gb137, 0, none⟩) (Kd.Q_mono HO_6.out (fun k_ hk => (⟨hk, hk.2.2⟩ : _ ∧ k_ ≠ gb137))) (fun _ hk => hk.2) (.int .i64 ((rd_TTie t112 t103).f0))) (fun _ hk => hk.2) (.int .i64 ((rd_TTie t112 t103).f1))) (fun _ h_ => h_.1))) (Kd.R_base ho0) hb); replace HO_101001 := q0 (Kd.R_elder' (by (with_reducible repeat (first | apply Kd.R_alloc | apply Kd.R_drewN | apply Kd.R_drew)); exact (Kd.R_mono (Kd.R_far (p := ⟨gb137, 1, none⟩) (Kd.R_far (p := ⟨gb137, 0, none⟩) (Kd.R_mono HO_101001.out (fun k_ hk => (⟨hk, hk.2.2⟩ : _ ∧ k_ ≠ gb137))) (fun _ hk => hk.2) (.int .i64 ((rd_TTie t112 t103).f0))) (fun _ hk => hk.2) (.int .i64 ((rd_TTie t112 t103).f1))) (fun _ h_ => h_.1))) (Kd.R_base ho0) hb); replace BK114 := q0 (kf BK114.out hb); replace BK118 := q0 (kf BK118.out hb); replace BK133 := q0 (kf BK133.out hb); replace BK135 := q0 (kf BK135.out hb); replace BK137 := q0 (blk_below (g := gb137) (o := .cells #[.int .i64 ((rd_TTie t112 t103).f0), .int .i64 ((rd_TTie t112 t103).f1)] 32 (0, 0)) (by (with_reducible repeat (first | refine blk_drewN ?_ _ | refine blk_drew ?_ | refine blk_alloc ?_ _)); refine blk_put (cs := #[.int .i64 ((rd_TTie t112 t103).f0), .int .i64 0]) ?_ 1 _ rfl; (with_reducible repeat (first | refine blk_drewN ?_ _ | refine blk_drew ?_ | refine blk_alloc ?_ _)); refine blk_put (cs := #[.int .i64 0, .int .i64 0]) ?_ 0 _ rfl; (with_reducible repeat (first | refine blk_drewN ?_ _ | refine blk_drew ?_ | refine blk_alloc ?_ _)); exact BK137.out) hb); replace HB := q0 (below_step (qj HB.out HI115.out) hb); replace HI115 := q0 (IsSRd.below (show IsSRd w ((w56.setCell ⟨gb137, 0, none⟩ (.int .i64 ((rd_TTie t112 t103).f0))).setCell ⟨gb137, 1, none⟩ (.int .i64 ((rd_TTie t112 t103).f1))) g115 t109 t125 from qi HI115.out) hb); (try clear hb); (try clear hb2); (try clear hk); (try clear hi); (try clear ho0); have hcz64_0 : w63.cell? ⟨gb133, 0, none⟩ = some (.int .i64 t100) := (blk_cell BK133.out 0).trans rfl; have hcz64_1 : w63.cell? ⟨gb133, 1, none⟩ = some (.slice (some ad134) t101.length co39) := (blk_cell BK133.out 1).trans rfl; have hfz64_0 := blk_frozen BK133.out 0; have hfz64_1 := blk_frozen BK133.out 1; obtain ⟨Ao65, co65, eo65⟩ := Kd.R_slice HO139.out; subst eo65; have hnb66 := NB137_114.out; have hnc66 := NB114_137.out; have hnb67 := NB137_118.out; have hnc67 := NB118_137.out; have hnb68 := NB137_115.out; have hnc68 := NB115_137.out; have hcz69_0 : w63.cell? ⟨gb137, 0, none⟩ = some (.int .i64 ((rd_TTie t112 t103).f0)) := (blk_cell BK137.out 0).trans rfl; have hcz69_1 : w63.cell? ⟨gb137, 1, none⟩ = some (.int .i64 ((rd_TTie t112 t103).f1)) := (blk_cell BK137.out 1).trans rfl; have hfz69_0 := blk_frozen BK137.out 0; have hfz69_1 := blk_frozen BK137.out 1) | ((with_reducible refine gate_callee (f := 27) rfl ?_); refine gl 69 Try.func27 #[.agg #[.int .i64 t104, .slice Ao65 t127.length co65], .int .i64 ((rd_TTie t112 t103).f0), .int .i64 ((rd_TTie t112 t103).f1)] ?_; (with_reducible refine (spec_NetAdd.calls kj4 t104 _ _ t127 ((rd_TTie t112 t103).f0) ((rd_TTie t112 t103).f1) t105 t130 true _ ?side1 ?side2 A34.out).mono ?_); (case side1 => refine (Kd.R_reads' (e := 32) (base := w.heap.size) (ok := fun k_ => ((((True ∧ some k_ ≠ (.slice (some ad134) t101.length co39 : Value).ownBlock) ∧ some k_ ≠ (.slice (some ad136) t112.length co13 : Value).ownBlock) ∧ k_ ≠ gb135) ∧ k_ ≠ gb137)) (n := t127.length) (c := co65) ?_).2.2; exact (by (with_reducible repeat (first | apply Kd.R_alloc | apply Kd.R_drewN | apply Kd.R_drew)); exact (rf2 HO139.out BK133.out (fun _ h_ => h_.1)))); (case side2 => exact (Kd.R_reads' HO139.out).2.1); rintro e w70 ⟨v140, rfl, ho0, hb⟩; refine ⟨_, rfl, ?_⟩; have HO141 := q0 (Kd.R_lower (Kd.R_newB (Kd.R_newB (Kd.R_new' (Kd.R_new' (Kd.R_new' ho0 (Kd.Q_lt (by (with_reducible repeat (first | apply Kd.Q_alloc | apply Kd.Q_drewN | apply Kd.Q_drew)); exact (Kd.Q_mono (Kd.Q_far (p := ⟨gb133, 1, none⟩) (Kd.Q_far (p := ⟨gb133, 0, none⟩) (Kd.Q_types HO_6.out BK133.out (by decide)) (fun _ hk => hk.2) (.int .i64 t104)) (fun _ hk => hk.2) (.slice Ao65 t127.length co65)) (fun _ h_ => h_.1))))) (Kd.R_lt (by (with_reducible repeat (first | apply Kd.R_alloc | apply Kd.R_drewN | apply Kd.R_drew)); exact (rf2 HO_101001.out BK133.out (fun _ h_ => h_.1))))) (Kd.R_lt (by (with_reducible repeat (first | apply Kd.R_alloc | apply Kd.R_drewN | apply Kd.R_drew)); exact (rf2 HO139.out BK133.out (fun _ h_ => h_.1))))) (g := gb135) (o := .cells #[.int .i64 ((rd_TTie t101 t102).f0), .int .i64 ((rd_TTie t101 t102).f1)] 32 (0, 0)) (qf BK135.out)) (g := gb137) (o := .cells #[.int .i64 ((rd_TTie t112 t103).f0), .int .i64 ((rd_TTie t112 t103).f1)] 32 (0, 0)) (qf BK137.out)) (below_size (qj HB.out HI115.out))); replace HO_6 := q0 (Kd.Q_elder' (by (with_reducible repeat (first | apply Kd.Q_alloc | apply Kd.Q_drewN | apply Kd.Q_drew)); exact (Kd.Q_mono (Kd.Q_far (p := ⟨gb133, 1, none⟩) (Kd.Q_far (p := ⟨gb133, 0, none⟩) (Kd.Q_types HO_6.out BK133.out (by decide)) (fun _ hk => hk.2) (.int .i64 t104)) (fun _ hk => hk.2) (.slice Ao65 t127.length co65)) (fun _ h_ => h_.1))) (Kd.R_base ho0) hb); replace HO_101001 := q0 (Kd.R_elder' (by (with_reducible repeat (first | apply Kd.R_alloc | apply Kd.R_drewN | apply Kd.R_drew)); exact (rf2 HO_101001.out BK133.out (fun _ h_ => h_.1))) (Kd.R_base ho0) hb); replace HO139 := q0 (Kd.R_elder' (by (with_reducible repeat (first | apply Kd.R_alloc | apply Kd.R_drewN | apply Kd.R_drew)); exact (rf2 HO139.out BK133.out (fun _ h_ => h_.1))) (Kd.R_base ho0) hb); replace BK114 := q0 (kf BK114.out hb); replace BK118 := q0 (kf BK118.out hb); replace BK133 := q0 (blk_below (g := gb133) (o := .cells #[.int .i64 t104, .slice Ao65 t127.length co65] 25 (0, 0)) (by (with_reducible repeat (first | refine blk_drewN ?_ _ | refine blk_drew ?_ | refine blk_alloc ?_ _)); refine blk_put (cs := #[.int .i64 t104, .slice (some ad134) t101.length co39]) ?_ 1 _ rfl; (with_reducible repeat (first | refine blk_drewN ?_ _ | refine blk_drew ?_ | refine blk_alloc ?_ _)); refine blk_put (cs := #[.int .i64 t100, .slice (some ad134) t101.length co39]) ?_ 0 _ rfl; (with_reducible repeat (first | refine blk_drewN ?_ _ | refine blk_drew ?_ | refine blk_alloc ?_ _)); exact BK133.out) hb); replace BK135 := q0 (kf BK135.out hb); replace BK137 := q0 (kf BK137.out hb); replace HB := q0 (below_step (qj HB.out HI115.out) hb); replace HI115 := q0 (IsSRd.below (show IsSRd w ((w63.setCell ⟨gb133, 0, none⟩ (.int .i64 t104)).setCell ⟨gb133, 1, none⟩ (.slice Ao65 t127.length co65)) g115 t109 t125 from qi HI115.out) hb); (try clear hb); (try clear hb2); (try clear hk); (try clear hi); (try clear ho0)) | ((with_reducible refine gate_dst (N := 10) rfl ?_); (try (refine gate_guard (by rfl) ?_; dsimp only)); refine be 10 #[.int .i64 0, .slice none 0 0] 25 ?_; intro gb142 hg w71 hbox hb; replace HO_6 := q0 (Kd.Q_below (by (with_reducible repeat (first | apply Kd.Q_alloc | apply Kd.Q_drewN | apply Kd.Q_drew)); exact HO_6.out) hb); replace HO_101001 := q0 (Kd.R_below (qr HO_101001.out) hb); replace HO139 := q0 (Kd.R_below (qr HO139.out) hb); replace HO141 := q0 (Kd.R_below (qr HO141.out) hb); have BK142 := q0 (hbox); have GW142 := q0 ((by rw [hg]; exact (below_size (qj HB.out HI115.out)) : w.heap.size ≤ gb142)); have GE142 := q0 ((by rw [hg]; exact (below_size (qj HB.out HI115.out)) : w.heap.size ≤ gb142)); replace HB := q0 (below_step (qj HB.out HI115.out) hb); have NB114_142 := q0 ((bl BK114.out hg : gb114 ≠ gb142)); have NB142_114 := q0 ((bg BK114.out hg : gb142 ≠ gb114)); replace BK114 := q0 (kb BK114.out hb); have NB118_142 := q0 ((bl BK118.out hg : gb118 ≠ gb142)); have NB142_118 := q0 ((bg BK118.out hg : gb142 ≠ gb118)); replace BK118 := q0 (kb BK118.out hb); have NB133_142 := q0 ((bl BK133.out hg : gb133 ≠ gb142)); have NB142_133 := q0 ((bg BK133.out hg : gb142 ≠ gb133)); replace BK133 := q0 (kb BK133.out hb); have NB135_142 := q0 ((bl BK135.out hg : gb135 ≠ gb142)); have NB142_135 := q0 ((bg BK135.out hg : gb142 ≠ gb135)); replace BK135 := q0 (kb BK135.out hb); have NB137_142 := q0 ((bl BK137.out hg : gb137 ≠ gb142)); have NB142_137 := q0 ((bg BK137.out hg : gb142 ≠ gb137)); replace BK137 := q0 (kb BK137.out hb); have NB115_142 := q0 ((by rw [hg]; exact Nat.ne_of_lt (IsSRd.lt (show IsSRd w _ g115 t109 t125 from qi HI115.out)) : g115 ≠ gb142)); have NB142_115 := q0 ((by rw [hg]; exact Nat.ne_of_gt (IsSRd.lt (show IsSRd w _ g115 t109 t125 from qi HI115.out)) : gb142 ≠ g115)); replace HI115 := q0 (IsSRd.below (qi HI115.out) hb); clear hb hbox hg; have hnb72 := NB142_114.out; have hnc72 := NB114_142.out; have hnb73 := NB142_118.out; have hnc73 := NB118_142.out; have hnb74 := NB142_133.out; have hnc74 := NB133_142.out; have hnb75 := NB142_135.out; have hnc75 := NB135_142.out; have hnb76 := NB142_137.out; have hnc76 := NB137_142.out; have hnb77 := NB142_115.out; have hnc77 := NB115_142.out; have hcz78_0 : w71.cell? ⟨gb142, 0, none⟩ = some (.int .i64 0) := (blk_cell BK142.out 0).trans rfl; have hcz78_1 : w71.cell? ⟨gb142, 1, none⟩ = some (.slice none 0 0) := (blk_cell BK142.out 1).trans rfl; have hfz78_0 := blk_frozen BK142.out 0; have hfz78_1 := blk_frozen BK142.out 1; obtain ⟨Ao79, co79, eo79⟩ := Kd.R_slice HO141.out; subst eo79))
   have n0_ : Aside0 (Kd.Q kTie 32 ((w71.setCell ⟨gb142, 0, none⟩ (.int .i64 t105)).setCell ⟨gb142, 1, none⟩ (.slice Ao79 t130.length co79)) w.heap.size (fun k_ => some k_ ≠ (.slice (some ad136) t112.length co13 : Value).ownBlock ∧ some k_ ≠ (.slice Ao65 t127.length co65 : Value).ownBlock ∧ some k_ ≠ (.slice Ao79 t130.length co79 : Value).ownBlock ∧ k_ ≠ gb135 ∧ k_ ≠ gb137) (.slice (some ad134) t101.length co39) t101) := ⟨by (with_reducible repeat (first | apply Kd.Q_alloc | apply Kd.Q_drewN | apply Kd.Q_drew)); exact Kd.Q_mono (Kd.Q_far (p := ⟨gb142, 1, none⟩) (Kd.Q_far (p := ⟨gb142, 0, none⟩) (Kd.Q_types HO_6.out BK142.out (by decide)) (fun _ hk => hk.2) (.int .i64 t105)) (fun _ hk => hk.2) (.slice Ao79 t130.length co79)) (fun _ hk => ⟨hk.1.1.1.1, ⟨hk.1.1.2, ⟨hk.1.2, ⟨hk.1.1.1.2.1, hk.1.1.1.2.2⟩⟩⟩⟩)⟩
   have n1_ : Aside0 (Kd.R kTie 32 ((w71.setCell ⟨gb142, 0, none⟩ (.int .i64 t105)).setCell ⟨gb142, 1, none⟩ (.slice Ao79 t130.length co79)) w.heap.size (fun k_ => some k_ ≠ (.slice (some ad134) t101.length co39 : Value).ownBlock ∧ some k_ ≠ (.slice Ao65 t127.length co65 : Value).ownBlock ∧ some k_ ≠ (.slice Ao79 t130.length co79 : Value).ownBlock ∧ k_ ≠ gb135 ∧ k_ ≠ gb137) (.slice (some ad136) t112.length co13) t112) := ⟨by (with_reducible repeat (first | apply Kd.R_alloc | apply Kd.R_drewN | apply Kd.R_drew)); exact rf2 HO_101001.out BK142.out (fun _ hk => ⟨hk.1.1.1.1, ⟨hk.1.1.2, ⟨hk.1.2, ⟨hk.1.1.1.2.1, hk.1.1.1.2.2⟩⟩⟩⟩)⟩
   have n2_ : Aside0 (Kd.R kTie 32 ((w71.setCell ⟨gb142, 0, none⟩ (.int .i64 t105)).setCell ⟨gb142, 1, none⟩ (.slice Ao79 t130.length co79)) w.heap.size (fun k_ => some k_ ≠ (.slice (some ad134) t101.length co39 : Value).ownBlock ∧ some k_ ≠ (.slice (some ad136) t112.length co13 : Value).ownBlock ∧ some k_ ≠ (.slice Ao79 t130.length co79 : Value).ownBlock ∧ k_ ≠ gb135 ∧ k_ ≠ gb137) (.slice Ao65 t127.length co65) t127) := ⟨by (with_reducible repeat (first | apply Kd.R_alloc | apply Kd.R_drewN | apply Kd.R_drew)); exact rf2 HO139.out BK142.out (fun _ hk => ⟨hk.1.1.1.1.1.2, ⟨hk.1.1.1.1.2, ⟨hk.1.2, ⟨hk.1.1.1.2, hk.1.1.2⟩⟩⟩⟩)⟩
   have n3_ : Aside0 (Kd.R kTie 32 ((w71.setCell ⟨gb142, 0, none⟩ (.int .i64 t105)).setCell ⟨gb142, 1, none⟩ (.slice Ao79 t130.length co79)) w.heap.size (fun k_ => some k_ ≠ (.slice (some ad134) t101.length co39 : Value).ownBlock ∧ some k_ ≠ (.slice (some ad136) t112.length co13 : Value).ownBlock ∧ some k_ ≠ (.slice Ao65 t127.length co65 : Value).ownBlock ∧ k_ ≠ gb135 ∧ k_ ≠ gb137) (.slice Ao79 t130.length co79) t130) := ⟨by (with_reducible repeat (first | apply Kd.R_alloc | apply Kd.R_drewN | apply Kd.R_drew)); exact rf2 HO141.out BK142.out (fun _ hk => ⟨hk.1.1.1.1.1.2, ⟨hk.1.1.1.1.2, ⟨hk.1.1.1.2, ⟨hk.1.1.2, hk.1.2⟩⟩⟩⟩)⟩
   have n4_ : Aside0 (((w71.setCell ⟨gb142, 0, none⟩ (.int .i64 t105)).setCell ⟨gb142, 1, none⟩ (.slice Ao79 t130.length co79)).heap[gb114]? = some (.cells #[.int .i64 0, .slice none 0 0] 25 (0, 0))) := ⟨qf BK114.out⟩
   have n5_ : Aside0 (((w71.setCell ⟨gb142, 0, none⟩ (.int .i64 t105)).setCell ⟨gb142, 1, none⟩ (.slice Ao79 t130.length co79)).heap[gb118]? = some (.cells #[.int .i64 t100, .slice (some ad136) t112.length co13] 25 (0, 0))) := ⟨qf BK118.out⟩
   have n6_ : Aside0 (((w71.setCell ⟨gb142, 0, none⟩ (.int .i64 t105)).setCell ⟨gb142, 1, none⟩ (.slice Ao79 t130.length co79)).heap[gb133]? = some (.cells #[.int .i64 t104, .slice Ao65 t127.length co65] 25 (0, 0))) := ⟨qf BK133.out⟩
   have n7_ : Aside0 (((w71.setCell ⟨gb142, 0, none⟩ (.int .i64 t105)).setCell ⟨gb142, 1, none⟩ (.slice Ao79 t130.length co79)).heap[gb135]? = some (.cells #[.int .i64 ((rd_TTie t101 t102).f0), .int .i64 ((rd_TTie t101 t102).f1)] 32 (0, 0))) := ⟨qf BK135.out⟩
   have n8_ : Aside0 (((w71.setCell ⟨gb142, 0, none⟩ (.int .i64 t105)).setCell ⟨gb142, 1, none⟩ (.slice Ao79 t130.length co79)).heap[gb137]? = some (.cells #[.int .i64 ((rd_TTie t112 t103).f0), .int .i64 ((rd_TTie t112 t103).f1)] 32 (0, 0))) := ⟨qf BK137.out⟩
   have n9_ : Aside0 (((w71.setCell ⟨gb142, 0, none⟩ (.int .i64 t105)).setCell ⟨gb142, 1, none⟩ (.slice Ao79 t130.length co79)).heap[gb142]? = some (.cells #[.int .i64 t105, .slice Ao79 t130.length co79] 25 (0, 0))) := ⟨by (with_reducible repeat (first | refine blk_drewN ?_ _ | refine blk_drew ?_ | refine blk_alloc ?_ _)); refine blk_put (cs := #[.int .i64 t105, .slice none 0 0]) ?_ 1 _ rfl; (with_reducible repeat (first | refine blk_drewN ?_ _ | refine blk_drew ?_ | refine blk_alloc ?_ _)); refine blk_put (cs := #[.int .i64 0, .slice none 0 0]) ?_ 0 _ rfl; (with_reducible repeat (first | refine blk_drewN ?_ _ | refine blk_drew ?_ | refine blk_alloc ?_ _)); exact BK142.out⟩
   have n10_ : Aside0 (IsSRd w ((w71.setCell ⟨gb142, 0, none⟩ (.int .i64 t105)).setCell ⟨gb142, 1, none⟩ (.slice Ao79 t130.length co79)) g115 t109 t125) := ⟨qi HI115.out⟩
   have n11_ : Aside0 (Below w.heap.size w ((w71.setCell ⟨gb142, 0, none⟩ (.int .i64 t105)).setCell ⟨gb142, 1, none⟩ (.slice Ao79 t130.length co79))) := ⟨qj HB.out HI115.out⟩
   (try clear HO_6)
   (try clear HO_101001)
   (try clear HO139)
   (try clear HO141)
   (try clear BK114)
   (try clear BK118)
   (try clear BK133)
   (try clear BK135)
   (try clear BK137)
   (try clear BK142)
   (try clear HI115)
   (try clear HB)
   generalize ((w71.setCell ⟨gb142, 0, none⟩ (.int .i64 t105)).setCell ⟨gb142, 1, none⟩ (.slice Ao79 t130.length co79)) = w80 at n0_ n1_ n2_ n3_ n4_ n5_ n6_ n7_ n8_ n9_ n10_ n11_ ⊢
   have HO_6 := n0_
   have HO_101001 := n1_
   have HO139 := n2_
   have HO141 := n3_
   have BK114 := n4_
   have BK118 := n5_
   have BK133 := n6_
   have BK135 := n7_
   have BK137 := n8_
   have BK142 := n9_
   have HI115 := n10_
   have HB := n11_
   clear n0_ n1_ n2_ n3_ n4_ n5_ n6_ n7_ n8_ n9_ n10_ n11_
   replace HO_6 := q0 (Kd.Q_drew HO_6.out)
   replace HO_101001 := q0 (Kd.R_drew HO_101001.out)
   replace HO139 := q0 (Kd.R_drew HO139.out)
   replace HO141 := q0 (Kd.R_drew HO141.out)
   replace BK114 := q0 (blk_drew BK114.out)
   replace BK118 := q0 (blk_drew BK118.out)
   replace BK133 := q0 (blk_drew BK133.out)
   replace BK135 := q0 (blk_drew BK135.out)
   replace BK137 := q0 (blk_drew BK137.out)
   replace BK142 := q0 (blk_drew BK142.out)
   replace HI115 := q0 (IsSRd.drew HI115.out)
   replace HB := q0 (below_drew1 HB.out)
   refine start_ (n := 5) (S := fun w' => w'.cell? ⟨gb118, 0, none⟩ = some (.int .i64 t100) ∧ w'.cell? ⟨gb118, 1, none⟩ = some (.slice (some ad136) t112.length co13) ∧ w'.cell? ⟨gb142, 0, none⟩ = some (.int .i64 t105) ∧ w'.cell? ⟨gb142, 1, none⟩ = some (.slice Ao79 t130.length co79)) (ds := []) (ba 5 0) (by kernel_rfl) rfl (by kernel_rfl) ⟨(blk_cell BK118.out 0).trans rfl, (blk_cell BK118.out 1).trans rfl, (blk_cell BK142.out 0).trans rfl, (blk_cell BK142.out 1).trans rfl⟩ (fun hHeld => ?_)
   generalize w80.drew = w81 at HO_6 HO_101001 HO139 HO141 BK114 BK118 BK133 BK135 BK137 BK142 HI115 HB hHeld ⊢
   refine pw 1 (some 74) (ba 5 2) ?_
   refine tw 0 (some 73) (ba 5 3) hHeld ?_
   refine tw 2 (some 75) (ba 5 7) hHeld ?_
   refine one_ (i := 3) (N := none) (ba 5 15) rfl rfl (by kernel_rfl) (by decide) (fun K hK => ?_)
   have hs82 : w81.cell? ⟨gb114, 0, none⟩ = some (.int .i64 0) := (blk_cell BK114.out 0).trans rfl
   have hfs82 := blk_frozen BK114.out 0
   have hns82_1 := NB118_114.out
   have hns82_2 := NB133_114.out
   have hns82_3 := NB135_114.out
   have hns82_4 := NB137_114.out
   have hns82_5 := NB142_114.out
   have hms82_1 := NB114_118.out
   have hms82_2 := NB114_133.out
   have hms82_3 := NB114_135.out
   have hms82_4 := NB114_137.out
   have hms82_5 := NB114_142.out
   have hs83 : w81.cell? ⟨gb114, 1, none⟩ = some (.slice none 0 0) := (blk_cell BK114.out 1).trans rfl
   have hfs83 := blk_frozen BK114.out 1
   have hns83_1 := NB118_114.out
   have hns83_2 := NB133_114.out
   have hns83_3 := NB135_114.out
   have hns83_4 := NB137_114.out
   have hns83_5 := NB142_114.out
   have hms83_1 := NB114_118.out
   have hms83_2 := NB114_133.out
   have hms83_3 := NB114_135.out
   have hms83_4 := NB114_137.out
   have hms83_5 := NB114_142.out
   refine skip_ (w1 := ?_) (by rfl) rfl ?_ ?_
   rotate_left
   · go_simp
     rfl
   refine hK.out _ _ ⟨((cell_far (p := ⟨gb114, _, none⟩) NB118_114.out _).trans (((cell_far (p := ⟨gb114, _, none⟩) NB118_114.out _).trans (hHeld.1)))), ((cell_far (p := ⟨gb114, _, none⟩) NB118_114.out _).trans (((cell_far (p := ⟨gb114, _, none⟩) NB118_114.out _).trans (hHeld.2.1)))), ((cell_far (p := ⟨gb114, _, none⟩) NB142_114.out _).trans (((cell_far (p := ⟨gb114, _, none⟩) NB142_114.out _).trans (hHeld.2.2.1)))), ((cell_far (p := ⟨gb114, _, none⟩) NB142_114.out _).trans (((cell_far (p := ⟨gb114, _, none⟩) NB142_114.out _).trans (hHeld.2.2.2))))⟩ (fun hHeld => ?_)
   clear hK K
   refine pw 4 (some 3) (ba 5 31) ?_
   refine done_ (by kernel_rfl) ?_
   try go_wp2
   refine bodyPost_ret (results_ct rfl _ _ gb114 25 #[.int .i64 t100, .slice (some ad136) t112.length co13] (0, 0) _ rfl (by (with_reducible repeat (first | refine blk_drewN ?_ _ | refine blk_drew ?_ | refine blk_alloc ?_ _)); refine blk_put (cs := #[.int .i64 t100, .slice none 0 0]) ?_ 1 _ rfl; (with_reducible repeat (first | refine blk_drewN ?_ _ | refine blk_drew ?_ | refine blk_alloc ?_ _)); refine blk_put (cs := #[.int .i64 0, .slice none 0 0]) ?_ 0 _ rfl; (with_reducible repeat (first | refine blk_drewN ?_ _ | refine blk_drew ?_ | refine blk_alloc ?_ _)); exact BK114.out) Try.underlying25 rfl (by kernel_rfl)) rfl ?_
   exact ⟨_, _, qe, by (with_reducible repeat (first | apply Kd.R_alloc | apply Kd.R_drewN | apply Kd.R_drew)); exact rf2 HO_101001.out BK114.out (fun _ hk => hk.1.2.2.1), Kd.Q_of_R (by (with_reducible repeat (first | apply Kd.R_alloc | apply Kd.R_drewN | apply Kd.R_drew)); exact rf2 HO141.out BK114.out (fun _ hk => hk.1.2.1)), qj HB.out HI115.out⟩
 replace c35 := Bool.eq_false_iff.mpr c35
 subst c35
 rw [if_neg nf] at H
 simp only [Option.some.injEq, Prod.mk.injEq] at H
 obtain ⟨rfl, rfl, rfl⟩ := H
 have hnb84 := NB118_114.out
 have hnc84 := NB114_118.out
 have hnb85 := NB118_115.out
 have hnc85 := NB115_118.out
 have hcz86_0 : wc.cell? ⟨gb118, 0, none⟩ = some (.int .i64 t100) := (blk_cell BK118.out 0).trans rfl
 have hcz86_1 : wc.cell? ⟨gb118, 1, none⟩ = some (.slice Ao13 t112.length co13) := (blk_cell BK118.out 1).trans rfl
 have hfz86_0 := blk_frozen BK118.out 0
 have hfz86_1 := blk_frozen BK118.out 1
 obtain ⟨Ao87, co87, eo87, _⟩ := Kd.Q_slice HO_6.out
 subst eo87
 try go_wp2_with (first | ((with_reducible refine gate_dst (N := 7) rfl ?_); (try (refine gate_guard (by rfl) ?_; dsimp only)); refine be 7 #[.int .i64 0, .slice none 0 0] 25 ?_; intro gb133 hg w88 hbox hb; replace HO_6 := q0 (Kd.Q_below (by (with_reducible repeat (first | apply Kd.Q_alloc | apply Kd.Q_drewN | apply Kd.Q_drew)); exact HO_6.out) hb); replace HO_101001 := q0 (Kd.R_below (qr HO_101001.out) hb); have BK133 := q0 (hbox); have GW133 := q0 ((by rw [hg]; exact (below_size (qj HB.out HI115.out)) : w.heap.size ≤ gb133)); have GE133 := q0 ((by rw [hg]; exact (below_size (qj HB.out HI115.out)) : w.heap.size ≤ gb133)); replace HB := q0 (below_step (qj HB.out HI115.out) hb); have NB114_133 := q0 ((bl BK114.out hg : gb114 ≠ gb133)); have NB133_114 := q0 ((bg BK114.out hg : gb133 ≠ gb114)); replace BK114 := q0 (kb BK114.out hb); have NB118_133 := q0 ((bl BK118.out hg : gb118 ≠ gb133)); have NB133_118 := q0 ((bg BK118.out hg : gb133 ≠ gb118)); replace BK118 := q0 (kb BK118.out hb); have NB115_133 := q0 ((by rw [hg]; exact Nat.ne_of_lt (IsSRd.lt (show IsSRd w _ g115 t109 x100001_4 from qi HI115.out)) : g115 ≠ gb133)); have NB133_115 := q0 ((by rw [hg]; exact Nat.ne_of_gt (IsSRd.lt (show IsSRd w _ g115 t109 x100001_4 from qi HI115.out)) : gb133 ≠ g115)); replace HI115 := q0 (IsSRd.below (qi HI115.out) hb); clear hb hbox hg; have hnb89 := NB133_114.out; have hnc89 := NB114_133.out; have hnb90 := NB133_118.out; have hnc90 := NB118_133.out; have hnb91 := NB133_115.out; have hnc91 := NB115_133.out; have hcz92_0 : w88.cell? ⟨gb133, 0, none⟩ = some (.int .i64 0) := (blk_cell BK133.out 0).trans rfl; have hcz92_1 : w88.cell? ⟨gb133, 1, none⟩ = some (.slice none 0 0) := (blk_cell BK133.out 1).trans rfl; have hfz92_0 := blk_frozen BK133.out 0; have hfz92_1 := blk_frozen BK133.out 1) | ((with_reducible refine gate_callee (f := 59) rfl ?_); refine gl 42 Try.func59 #[.pointer (some ⟨g115, 0, none⟩), .int .i64 (t101.length : Int)] ?_; (with_reducible refine (spec_l6Rd_pick.calls kj4 g115 t109 x100001_4 (t101.length : Int) t102 t123 w _ ?side1 ?side2 A27.out).mono ?_); (case side1 => exact qi HI115.out); (case side2 => exact qj HB.out HI115.out); rintro e w93 ⟨rfl, hi, hb, hk⟩; refine ⟨_, rfl, ?_⟩; replace HO_6 := q0 (Kd.Q_mono (Kd.Q_keep (IsSRd.apartQ (show IsSRd w _ g115 t109 x100001_4 from qi HI115.out) (by (with_reducible repeat (first | apply Kd.Q_alloc | apply Kd.Q_drewN | apply Kd.Q_drew)); exact (Kd.Q_mono (Kd.Q_far (p := ⟨gb133, 1, none⟩) (Kd.Q_far (p := ⟨gb133, 0, none⟩) (Kd.Q_types HO_6.out BK133.out (by decide)) (fun _ hk => hk.2) (.int .i64 t100)) (fun _ hk => hk.2) (.slice Ao87 t101.length co87)) (fun _ h_ => h_.1))) (by decide)) hk (fun _ h => h.2)) (fun _ h => h.1)); replace HO_101001 := q0 (Kd.R_mono (Kd.R_keep (IsSRd.apart (show IsSRd w _ g115 t109 x100001_4 from qi HI115.out) (by (with_reducible repeat (first | apply Kd.R_alloc | apply Kd.R_drewN | apply Kd.R_drew)); exact (rf2 HO_101001.out BK133.out (fun _ h_ => h_.1))) (by decide)) hk (fun _ h => h.2)) (fun _ h => h.1)); replace BK114 := q0 (kc hk BK114.out NB114_115.out); replace BK118 := q0 (kc hk BK118.out NB118_115.out); replace BK133 := q0 (KeepBut.blk hk (g' := gb133) (o := .cells #[.int .i64 t100, .slice Ao87 t101.length co87] 25 (0, 0)) (by (with_reducible repeat (first | refine blk_drewN ?_ _ | refine blk_drew ?_ | refine blk_alloc ?_ _)); refine blk_put (cs := #[.int .i64 t100, .slice none 0 0]) ?_ 1 _ rfl; (with_reducible repeat (first | refine blk_drewN ?_ _ | refine blk_drew ?_ | refine blk_alloc ?_ _)); refine blk_put (cs := #[.int .i64 0, .slice none 0 0]) ?_ 0 _ rfl; (with_reducible repeat (first | refine blk_drewN ?_ _ | refine blk_drew ?_ | refine blk_alloc ?_ _)); exact BK133.out) NB133_115.out (by simp)); replace HB := q0 (hb); replace HI115 := q0 (hi); (try clear hb); (try clear hb2); (try clear hk); (try clear hi); have p134 : 0 ≤ (t102 : Int) := of_decide_eq_true qa; have q134 : t102 < (t101.length : Int) := of_decide_eq_true qa; obtain ⟨ad134, e134, hx134_0, hx134_1⟩ := at_TTie (Kd.Q_reads' HO_6.out).2.2 t102 p134 q134; cases e134; replace p134 := eq_true p134; replace q134 := eq_true q134) | ((with_reducible refine gate_dst (N := 8) rfl ?_); (try (refine gate_guard (by rfl) ?_; dsimp only)); refine be 8 #[.int .i64 0, .int .i64 0] 32 ?_; intro gb135 hg w94 hbox hb; replace HO_6 := q0 (Kd.Q_below (Kd.Q_elderB (by (with_reducible repeat (first | apply Kd.Q_alloc | apply Kd.Q_drewN | apply Kd.Q_drew)); exact HO_6.out) gb135 (Nat.le_of_eq hg.symm)) hb); replace HO_101001 := q0 (Kd.R_below (Kd.R_elderB (qr HO_101001.out) gb135 (Nat.le_of_eq hg.symm)) hb); have BK135 := q0 (hbox); have GW135 := q0 ((by rw [hg]; exact (below_size (qj HB.out HI115.out)) : w.heap.size ≤ gb135)); have GE135 := q0 ((by rw [hg]; exact (below_size (qj HB.out HI115.out)) : w.heap.size ≤ gb135)); replace HB := q0 (below_step (qj HB.out HI115.out) hb); have NB114_135 := q0 ((bl BK114.out hg : gb114 ≠ gb135)); have NB135_114 := q0 ((bg BK114.out hg : gb135 ≠ gb114)); replace BK114 := q0 (kb BK114.out hb); have NB118_135 := q0 ((bl BK118.out hg : gb118 ≠ gb135)); have NB135_118 := q0 ((bg BK118.out hg : gb135 ≠ gb118)); replace BK118 := q0 (kb BK118.out hb); have NB133_135 := q0 ((bl BK133.out hg : gb133 ≠ gb135)); have NB135_133 := q0 ((bg BK133.out hg : gb135 ≠ gb133)); replace BK133 := q0 (kb BK133.out hb); have NB115_135 := q0 ((by rw [hg]; exact Nat.ne_of_lt (IsSRd.lt (show IsSRd w _ g115 t109 t123 from qi HI115.out)) : g115 ≠ gb135)); have NB135_115 := q0 ((by rw [hg]; exact Nat.ne_of_gt (IsSRd.lt (show IsSRd w _ g115 t109 t123 from qi HI115.out)) : gb135 ≠ g115)); replace HI115 := q0 (IsSRd.below (qi HI115.out) hb); clear hb hbox hg; have hnb95 := NB135_114.out; have hnc95 := NB114_135.out; have hnb96 := NB135_118.out; have hnc96 := NB118_135.out; have hnb97 := NB135_133.out; have hnc97 := NB133_135.out; have hnb98 := NB135_115.out; have hnc98 := NB115_135.out; have hcz99_0 : w94.cell? ⟨gb135, 0, none⟩ = some (.int .i64 0) := (blk_cell BK135.out 0).trans rfl; have hcz99_1 : w94.cell? ⟨gb135, 1, none⟩ = some (.int .i64 0) := (blk_cell BK135.out 1).trans rfl; have hfz99_0 := blk_frozen BK135.out 0; have hfz99_1 := blk_frozen BK135.out 1))
 have n0_ : Aside0 (Kd.Q kTie 32 ((w94.setCell ⟨gb135, 0, none⟩ (.int .i64 ((rd_TTie t101 t102).f0))).setCell ⟨gb135, 1, none⟩ (.int .i64 ((rd_TTie t101 t102).f1))) w.heap.size (fun k_ => some k_ ≠ (.slice Ao13 t112.length co13 : Value).ownBlock ∧ k_ ≠ gb135) (.slice (some ad134) t101.length co87) t101) := ⟨by (with_reducible repeat (first | apply Kd.Q_alloc | apply Kd.Q_drewN | apply Kd.Q_drew)); exact Kd.Q_mono (Kd.Q_far (p := ⟨gb135, 1, none⟩) (Kd.Q_far (p := ⟨gb135, 0, none⟩) (Kd.Q_mono HO_6.out (fun k_ hk => (⟨hk, hk.2⟩ : _ ∧ k_ ≠ gb135))) (fun _ hk => hk.2) (.int .i64 ((rd_TTie t101 t102).f0))) (fun _ hk => hk.2) (.int .i64 ((rd_TTie t101 t102).f1))) (fun _ hk => ⟨hk.1.1, hk.1.2⟩)⟩
 have n1_ : Aside0 (Kd.R kTie 32 ((w94.setCell ⟨gb135, 0, none⟩ (.int .i64 ((rd_TTie t101 t102).f0))).setCell ⟨gb135, 1, none⟩ (.int .i64 ((rd_TTie t101 t102).f1))) w.heap.size (fun k_ => some k_ ≠ (.slice (some ad134) t101.length co87 : Value).ownBlock ∧ k_ ≠ gb135) (.slice Ao13 t112.length co13) t112) := ⟨by (with_reducible repeat (first | apply Kd.R_alloc | apply Kd.R_drewN | apply Kd.R_drew)); exact Kd.R_mono (Kd.R_far (p := ⟨gb135, 1, none⟩) (Kd.R_far (p := ⟨gb135, 0, none⟩) (Kd.R_mono HO_101001.out (fun k_ hk => (⟨hk, hk.2⟩ : _ ∧ k_ ≠ gb135))) (fun _ hk => hk.2) (.int .i64 ((rd_TTie t101 t102).f0))) (fun _ hk => hk.2) (.int .i64 ((rd_TTie t101 t102).f1))) (fun _ hk => ⟨hk.1.1, hk.1.2⟩)⟩
 have n2_ : Aside0 (((w94.setCell ⟨gb135, 0, none⟩ (.int .i64 ((rd_TTie t101 t102).f0))).setCell ⟨gb135, 1, none⟩ (.int .i64 ((rd_TTie t101 t102).f1))).heap[gb114]? = some (.cells #[.int .i64 0, .slice none 0 0] 25 (0, 0))) := ⟨qf BK114.out⟩
 have n3_ : Aside0 (((w94.setCell ⟨gb135, 0, none⟩ (.int .i64 ((rd_TTie t101 t102).f0))).setCell ⟨gb135, 1, none⟩ (.int .i64 ((rd_TTie t101 t102).f1))).heap[gb118]? = some (.cells #[.int .i64 t100, .slice Ao13 t112.length co13] 25 (0, 0))) := ⟨qf BK118.out⟩
 have n4_ : Aside0 (((w94.setCell ⟨gb135, 0, none⟩ (.int .i64 ((rd_TTie t101 t102).f0))).setCell ⟨gb135, 1, none⟩ (.int .i64 ((rd_TTie t101 t102).f1))).heap[gb133]? = some (.cells #[.int .i64 t100, .slice (some ad134) t101.length co87] 25 (0, 0))) := ⟨qf BK133.out⟩
 have n5_ : Aside0 (((w94.setCell ⟨gb135, 0, none⟩ (.int .i64 ((rd_TTie t101 t102).f0))).setCell ⟨gb135, 1, none⟩ (.int .i64 ((rd_TTie t101 t102).f1))).heap[gb135]? = some (.cells #[.int .i64 ((rd_TTie t101 t102).f0), .int .i64 ((rd_TTie t101 t102).f1)] 32 (0, 0))) := ⟨by (with_reducible repeat (first | refine blk_drewN ?_ _ | refine blk_drew ?_ | refine blk_alloc ?_ _)); refine blk_put (cs := #[.int .i64 ((rd_TTie t101 t102).f0), .int .i64 0]) ?_ 1 _ rfl; (with_reducible repeat (first | refine blk_drewN ?_ _ | refine blk_drew ?_ | refine blk_alloc ?_ _)); refine blk_put (cs := #[.int .i64 0, .int .i64 0]) ?_ 0 _ rfl; (with_reducible repeat (first | refine blk_drewN ?_ _ | refine blk_drew ?_ | refine blk_alloc ?_ _)); exact BK135.out⟩
 have n6_ : Aside0 (IsSRd w ((w94.setCell ⟨gb135, 0, none⟩ (.int .i64 ((rd_TTie t101 t102).f0))).setCell ⟨gb135, 1, none⟩ (.int .i64 ((rd_TTie t101 t102).f1))) g115 t109 t123) := ⟨qi HI115.out⟩
 have n7_ : Aside0 (Below w.heap.size w ((w94.setCell ⟨gb135, 0, none⟩ (.int .i64 ((rd_TTie t101 t102).f0))).setCell ⟨gb135, 1, none⟩ (.int .i64 ((rd_TTie t101 t102).f1)))) := ⟨qj HB.out HI115.out⟩
 (try clear HO_6)
 (try clear HO_101001)
 (try clear BK114)
 (try clear BK118)
 (try clear BK133)
 (try clear BK135)
 (try clear HI115)
 (try clear HB)
 generalize ((w94.setCell ⟨gb135, 0, none⟩ (.int .i64 ((rd_TTie t101 t102).f0))).setCell ⟨gb135, 1, none⟩ (.int .i64 ((rd_TTie t101 t102).f1))) = w143 at n0_ n1_ n2_ n3_ n4_ n5_ n6_ n7_ ⊢
 have HO_6 := n0_
 have HO_101001 := n1_
 have BK114 := n2_
 have BK118 := n3_
 have BK133 := n4_
 have BK135 := n5_
 have HI115 := n6_
 have HB := n7_
 clear n0_ n1_ n2_ n3_ n4_ n5_ n6_ n7_
 replace HO_6 := q0 (Kd.Q_drew HO_6.out)
 replace HO_101001 := q0 (Kd.R_drew HO_101001.out)
 replace BK114 := q0 (blk_drew BK114.out)
 replace BK118 := q0 (blk_drew BK118.out)
 replace BK133 := q0 (blk_drew BK133.out)
 replace BK135 := q0 (blk_drew BK135.out)
 replace HI115 := q0 (IsSRd.drew HI115.out)
 replace HB := q0 (below_drew1 HB.out)
 have p136 : 0 ≤ (t103 : Int) := of_decide_eq_true qa
 have q136 : t103 < (t112.length : Int) := of_decide_eq_true qa
 obtain ⟨ad136, e136, hx136_0, hx136_1⟩ := at_TTie (Kd.R_reads' HO_101001.out).2.2 t103 p136 q136
 cases e136
 replace p136 := eq_true p136
 replace q136 := eq_true q136
 refine start_ (n := 11) (S := fun w' => w'.cell? ⟨gb118, 0, none⟩ = some (.int .i64 t100) ∧ w'.cell? ⟨gb118, 1, none⟩ = some (.slice (some ad136) t112.length co13) ∧ w'.cell? (ad136.add ((t103).toNat * 2)) = some (.int .i64 ((rd_TTie t112 t103).f0)) ∧ w'.cell? ⟨(ad136.add ((t103).toNat * 2)).block, (ad136.add ((t103).toNat * 2)).off + 1, none⟩ = some (.int .i64 ((rd_TTie t112 t103).f1))) (ds := []) (ba 11 0) (by kernel_rfl) rfl (by kernel_rfl) ⟨(blk_cell BK118.out 0).trans rfl, (blk_cell BK118.out 1).trans rfl, hx136_0, hx136_1⟩ (fun hHeld => ?_); refine with_tabW spec_DrawTreeOk.tab7 spec_DrawTreeOk.bits7 (fun HT_ HW_ => ?_)
 generalize w143.drew = w144 at HO_6 HO_101001 BK114 BK118 BK133 BK135 HI115 HB hx136_0 hx136_1 hHeld ⊢
 refine pu 0 (some 45) (ba 11 1) HT_.out ?_
 refine pu 2 (some 47) (ba 11 5) HT_.out ?_
 refine pu 3 (some 48) (ba 11 13) HT_.out ?_
 refine tu 1 (some 46) (ba 11 15) HT_.out HW_.out hHeld ?_
 refine tu 4 (some 49) (ba 11 31) HT_.out HW_.out hHeld ?_
 refine pu 5 (some 50) (ba 11 63) HT_.out ?_
 refine join_ (σ := Nat) 1 (ba 11 1023) (fun s_ => [(51, .int .i64 t103), (9, .pointer (some ⟨s_, 0, none⟩)), (52, .pointer (some (ad136.add ((t103).toNat * 2)))), (53, .agg #[.int .i64 ((rd_TTie t112 t103).f0), .int .i64 ((rd_TTie t112 t103).f1)])]) (fun s_ w' => (w'.cell? ⟨gb118, 0, none⟩ = some (.int .i64 t100) ∧ w'.cell? ⟨gb118, 1, none⟩ = some (.slice (some ad136) t112.length co13) ∧ w'.cell? (ad136.add ((t103).toNat * 2)) = some (.int .i64 ((rd_TTie t112 t103).f0)) ∧ w'.cell? ⟨(ad136.add ((t103).toNat * 2)).block, (ad136.add ((t103).toNat * 2)).off + 1, none⟩ = some (.int .i64 ((rd_TTie t112 t103).f1))) ∧ (Kd.R kTie 32 w' w.heap.size (fun k_ => some k_ ≠ (.slice (some ad134) t101.length co87 : Value).ownBlock ∧ k_ ≠ gb135 ∧ k_ ≠ s_) (.slice (some ad136) t112.length co13) t112) ∧ (Kd.Q kTie 32 w' w.heap.size (fun k_ => some k_ ≠ (.slice (some ad136) t112.length co13 : Value).ownBlock ∧ k_ ≠ gb135 ∧ k_ ≠ s_) (.slice (some ad134) t101.length co87) t101) ∧ (w'.heap[gb114]? = some (.cells #[.int .i64 0, .slice none 0 0] 25 (0, 0))) ∧ (w'.heap[gb118]? = some (.cells #[.int .i64 t100, .slice (some ad136) t112.length co13] 25 (0, 0))) ∧ (w'.heap[gb133]? = some (.cells #[.int .i64 t100, .slice (some ad134) t101.length co87] 25 (0, 0))) ∧ (w'.heap[gb135]? = some (.cells #[.int .i64 ((rd_TTie t101 t102).f0), .int .i64 ((rd_TTie t101 t102).f1)] 32 (0, 0))) ∧ (w'.heap[s_]? = some (.cells #[.int .i64 0, .int .i64 0] 32 (0, 0))) ∧ (w.heap.size ≤ s_) ∧ (w.heap.size ≤ s_) ∧ (g115 ≠ s_) ∧ (s_ ≠ g115) ∧ (gb114 ≠ s_) ∧ (s_ ≠ gb114) ∧ (gb118 ≠ s_) ∧ (s_ ≠ gb118) ∧ (gb133 ≠ s_) ∧ (s_ ≠ gb133) ∧ (gb135 ≠ s_) ∧ (s_ ≠ gb135) ∧ (IsSRd w w' g115 t109 t125) ∧ (Below w.heap.size w w')) ?_ ?_
 rotate_left
 · intro hCont
   refine two_ (i := 6) (j := 9) (Ni := some 51) (Nj := some 9) (ba 11 127) (ba 11 575) rfl rfl rfl rfl (two_of HT_.out (by kernel_rfl)) (by decide) (by decide) (fun K hK => ?_) (fun K hK => ?_)
   · skip
     refine goes_ Try.func59 (by kernel_rfl) rfl #[.pointer (some ⟨g115, 0, none⟩), .int .i64 (t112.length : Int)] (by rfl) rfl rfl qm ?_
     with_reducible refine (spec_l6Rd_pick.calls kj4 g115 t109 t123 (t112.length : Int) t103 t125 w _ ?side1 ?side2 A30.out).mono ?_
     (case side1 => exact qi HI115.out)
     (case side2 => exact qj HB.out HI115.out)
     rintro e w145 ⟨rfl, hi, hb, hk⟩
     have HS2_ := keep_cell hk (hHeld.2.2.1) (by first | (rw [add_block]; exact Kd.own_blk (IsSRd.own_ne HI115.out HO_101001.out (by decide))) | (show (Addr.add _ _).block ≠ _; rw [add_block]; exact Kd.own_blk (IsSRd.own_ne HI115.out HO_101001.out (by decide))) | exact Kd.own_blk (IsSRd.own_ne HI115.out HO_101001.out (by decide)))
     have HS3_ := keep_cell hk (hHeld.2.2.2) (by first | (rw [add_block]; exact Kd.own_blk (IsSRd.own_ne HI115.out HO_101001.out (by decide))) | (show (Addr.add _ _).block ≠ _; rw [add_block]; exact Kd.own_blk (IsSRd.own_ne HI115.out HO_101001.out (by decide))) | exact Kd.own_blk (IsSRd.own_ne HI115.out HO_101001.out (by decide)))
     refine ⟨_, rfl, ?_⟩
     replace HO_6 := q0 (Kd.Q_mono (Kd.Q_keep (IsSRd.apartQ (show IsSRd w _ g115 t109 t123 from qi HI115.out) (by (with_reducible repeat (first | apply Kd.Q_alloc | apply Kd.Q_drewN | apply Kd.Q_drew)); exact HO_6.out) (by decide)) hk (fun _ h => h.2)) (fun _ h => h.1))
     replace HO_101001 := q0 (Kd.R_mono (Kd.R_keep (IsSRd.apart (show IsSRd w _ g115 t109 t123 from qi HI115.out) (qr HO_101001.out) (by decide)) hk (fun _ h => h.2)) (fun _ h => h.1))
     replace BK114 := q0 (kc hk BK114.out NB114_115.out)
     replace BK118 := q0 (kc hk BK118.out NB118_115.out)
     replace BK133 := q0 (kc hk BK133.out NB133_115.out)
     replace BK135 := q0 (kc hk BK135.out NB135_115.out)
     replace HB := q0 (hb)
     replace HI115 := q0 (hi)
     (try clear hb)
     (try clear hb2)
     (try clear hk)
     (try clear hi)
     refine hK.out _ _ ⟨(blk_cell BK118.out 0).trans rfl, (blk_cell BK118.out 1).trans rfl, HS2_, HS3_⟩ (fun hHeld => ?_)
     clear hK K
     refine nu 51 ?_
     refine pu 7 (some 52) (ba 11 255) HT_.out ?_
     refine tu 8 (some 53) (ba 11 511) HT_.out HW_.out hHeld ?_
     refine one_ (i := 9) (N := some 9) (ba 11 1023) rfl rfl (one_of HT_.out (by kernel_rfl)) (by decide) (fun K hK => ?_)
     refine box_step ?hg (N := 9) ?hd (cs := #[.int .i64 0, .int .i64 0]) (t := 32) ?hr ?_; (case hd => rfl); (case hg => rfl); (case hr => first | (go_simp; done) | (go_simp; rfl))
     intro gb137 hg w146 hbox hb
     have HS2_ := (hb.cell (World.block_lt_of_cell? _ _ (hHeld.2.2.1))).trans (hHeld.2.2.1)
     have HS3_ := (hb.cell (World.block_lt_of_cell? _ _ (hHeld.2.2.2))).trans (hHeld.2.2.2)
     replace HO_6 := q0 (Kd.Q_below (Kd.Q_elderB (by (with_reducible repeat (first | apply Kd.Q_alloc | apply Kd.Q_drewN | apply Kd.Q_drew)); exact HO_6.out) gb137 (Nat.le_of_eq hg.symm)) hb)
     replace HO_101001 := q0 (Kd.R_below (Kd.R_elderB (qr HO_101001.out) gb137 (Nat.le_of_eq hg.symm)) hb)
     have BK137 := q0 (hbox)
     have GW137 := q0 ((by rw [hg]; exact (below_size (qj HB.out HI115.out)) : w.heap.size ≤ gb137))
     have GE137 := q0 ((by rw [hg]; exact (below_size (qj HB.out HI115.out)) : w.heap.size ≤ gb137))
     replace HB := q0 (below_step (qj HB.out HI115.out) hb)
     have NB114_137 := q0 ((bl BK114.out hg : gb114 ≠ gb137))
     have NB137_114 := q0 ((bg BK114.out hg : gb137 ≠ gb114))
     replace BK114 := q0 (kb BK114.out hb)
     have NB118_137 := q0 ((bl BK118.out hg : gb118 ≠ gb137))
     have NB137_118 := q0 ((bg BK118.out hg : gb137 ≠ gb118))
     replace BK118 := q0 (kb BK118.out hb)
     have NB133_137 := q0 ((bl BK133.out hg : gb133 ≠ gb137))
     have NB137_133 := q0 ((bg BK133.out hg : gb137 ≠ gb133))
     replace BK133 := q0 (kb BK133.out hb)
     have NB135_137 := q0 ((bl BK135.out hg : gb135 ≠ gb137))
     have NB137_135 := q0 ((bg BK135.out hg : gb137 ≠ gb135))
     replace BK135 := q0 (kb BK135.out hb)
     have NB115_137 := q0 ((by rw [hg]; exact Nat.ne_of_lt (IsSRd.lt (show IsSRd w _ g115 t109 t125 from qi HI115.out)) : g115 ≠ gb137))
     have NB137_115 := q0 ((by rw [hg]; exact Nat.ne_of_gt (IsSRd.lt (show IsSRd w _ g115 t109 t125 from qi HI115.out)) : gb137 ≠ g115))
     replace HI115 := q0 (IsSRd.below (qi HI115.out) hb)
     clear hb hbox hg
     refine hK.out _ _ ⟨(blk_cell BK118.out 0).trans rfl, (blk_cell BK118.out 1).trans rfl, HS2_, HS3_⟩ (fun hHeld => ?_)
     clear hK K
     refine nu 9 ?_
     exact norm_ (by simp only [putAll, Act.put, List.setIfInBounds_toArray, List.set_cons_zero, List.set_cons_succ]) (hCont (gb137) _ ⟨hHeld, (by (with_reducible repeat (first | apply Kd.R_alloc | apply Kd.R_drewN | apply Kd.R_drew)); exact Kd.R_mono HO_101001.out (fun _ hk => ⟨hk.1.1, ⟨hk.1.2, hk.2⟩⟩)), (by (with_reducible repeat (first | apply Kd.Q_alloc | apply Kd.Q_drewN | apply Kd.Q_drew)); exact Kd.Q_mono HO_6.out (fun _ hk => ⟨hk.1.1, ⟨hk.1.2, hk.2⟩⟩)), (qk BK114.out), (qk BK118.out), (qk BK133.out), (qk BK135.out), (qk BK137.out), GW137.out, GE137.out, NB115_137.out, NB137_115.out, NB114_137.out, NB137_114.out, NB118_137.out, NB137_118.out, NB133_137.out, NB137_133.out, NB135_137.out, NB137_135.out, (qi HI115.out), (qj HB.out HI115.out)⟩)
   · skip
     refine box_step ?hg (N := 9) ?hd (cs := #[.int .i64 0, .int .i64 0]) (t := 32) ?hr ?_; (case hd => rfl); (case hg => rfl); (case hr => first | (go_simp; done) | (go_simp; rfl))
     intro gb137 hg w145 hbox hb
     have HS2_ := (hb.cell (World.block_lt_of_cell? _ _ (hHeld.2.2.1))).trans (hHeld.2.2.1)
     have HS3_ := (hb.cell (World.block_lt_of_cell? _ _ (hHeld.2.2.2))).trans (hHeld.2.2.2)
     replace HO_6 := q0 (Kd.Q_below (Kd.Q_elderB (by (with_reducible repeat (first | apply Kd.Q_alloc | apply Kd.Q_drewN | apply Kd.Q_drew)); exact HO_6.out) gb137 (Nat.le_of_eq hg.symm)) hb)
     replace HO_101001 := q0 (Kd.R_below (Kd.R_elderB (qr HO_101001.out) gb137 (Nat.le_of_eq hg.symm)) hb)
     have BK137 := q0 (hbox)
     have GW137 := q0 ((by rw [hg]; exact (below_size (qj HB.out HI115.out)) : w.heap.size ≤ gb137))
     have GE137 := q0 ((by rw [hg]; exact (below_size (qj HB.out HI115.out)) : w.heap.size ≤ gb137))
     replace HB := q0 (below_step (qj HB.out HI115.out) hb)
     have NB114_137 := q0 ((bl BK114.out hg : gb114 ≠ gb137))
     have NB137_114 := q0 ((bg BK114.out hg : gb137 ≠ gb114))
     replace BK114 := q0 (kb BK114.out hb)
     have NB118_137 := q0 ((bl BK118.out hg : gb118 ≠ gb137))
     have NB137_118 := q0 ((bg BK118.out hg : gb137 ≠ gb118))
     replace BK118 := q0 (kb BK118.out hb)
     have NB133_137 := q0 ((bl BK133.out hg : gb133 ≠ gb137))
     have NB137_133 := q0 ((bg BK133.out hg : gb137 ≠ gb133))
     replace BK133 := q0 (kb BK133.out hb)
     have NB135_137 := q0 ((bl BK135.out hg : gb135 ≠ gb137))
     have NB137_135 := q0 ((bg BK135.out hg : gb137 ≠ gb135))
     replace BK135 := q0 (kb BK135.out hb)
     have NB115_137 := q0 ((by rw [hg]; exact Nat.ne_of_lt (IsSRd.lt (show IsSRd w _ g115 t109 t123 from qi HI115.out)) : g115 ≠ gb137))
     have NB137_115 := q0 ((by rw [hg]; exact Nat.ne_of_gt (IsSRd.lt (show IsSRd w _ g115 t109 t123 from qi HI115.out)) : gb137 ≠ g115))
     replace HI115 := q0 (IsSRd.below (qi HI115.out) hb)
     clear hb hbox hg
     refine hK.out _ _ ⟨(blk_cell BK118.out 0).trans rfl, (blk_cell BK118.out 1).trans rfl, HS2_, HS3_⟩ (fun hHeld => ?_)
     clear hK K
     refine nu 9 ?_
     refine one_ (i := 6) (N := some 51) (ba 11 639) rfl rfl (one_of HT_.out (by kernel_rfl)) (by decide) (fun K hK => ?_)
     refine goes_ Try.func59 (by kernel_rfl) rfl #[.pointer (some ⟨g115, 0, none⟩), .int .i64 (t112.length : Int)] (by rfl) rfl rfl qm ?_
     with_reducible refine (spec_l6Rd_pick.calls kj4 g115 t109 t123 (t112.length : Int) t103 t125 w _ ?side1 ?side2 A30.out).mono ?_
     (case side1 => exact qi HI115.out)
     (case side2 => exact qj HB.out HI115.out)
     rintro e w146 ⟨rfl, hi, hb, hk⟩
     have HS2_ := keep_cell hk (hHeld.2.2.1) (by first | (rw [add_block]; exact Kd.own_blk (IsSRd.own_ne HI115.out HO_101001.out (by decide))) | (show (Addr.add _ _).block ≠ _; rw [add_block]; exact Kd.own_blk (IsSRd.own_ne HI115.out HO_101001.out (by decide))) | exact Kd.own_blk (IsSRd.own_ne HI115.out HO_101001.out (by decide)))
     have HS3_ := keep_cell hk (hHeld.2.2.2) (by first | (rw [add_block]; exact Kd.own_blk (IsSRd.own_ne HI115.out HO_101001.out (by decide))) | (show (Addr.add _ _).block ≠ _; rw [add_block]; exact Kd.own_blk (IsSRd.own_ne HI115.out HO_101001.out (by decide))) | exact Kd.own_blk (IsSRd.own_ne HI115.out HO_101001.out (by decide)))
     refine ⟨_, rfl, ?_⟩
     replace HO_6 := q0 (Kd.Q_mono (Kd.Q_keep (IsSRd.apartQ (show IsSRd w _ g115 t109 t123 from qi HI115.out) (by (with_reducible repeat (first | apply Kd.Q_alloc | apply Kd.Q_drewN | apply Kd.Q_drew)); exact HO_6.out) (by decide)) hk (fun _ h => h.2)) (fun _ h => h.1))
     replace HO_101001 := q0 (Kd.R_mono (Kd.R_keep (IsSRd.apart (show IsSRd w _ g115 t109 t123 from qi HI115.out) (qr HO_101001.out) (by decide)) hk (fun _ h => h.2)) (fun _ h => h.1))
     replace BK114 := q0 (kc hk BK114.out NB114_115.out)
     replace BK118 := q0 (kc hk BK118.out NB118_115.out)
     replace BK133 := q0 (kc hk BK133.out NB133_115.out)
     replace BK135 := q0 (kc hk BK135.out NB135_115.out)
     replace BK137 := q0 (kc hk BK137.out NB137_115.out)
     replace HB := q0 (hb)
     replace HI115 := q0 (hi)
     (try clear hb)
     (try clear hb2)
     (try clear hk)
     (try clear hi)
     refine hK.out _ _ ⟨(blk_cell BK118.out 0).trans rfl, (blk_cell BK118.out 1).trans rfl, HS2_, HS3_⟩ (fun hHeld => ?_)
     clear hK K
     refine nu 51 ?_
     refine pu 7 (some 52) (ba 11 767) HT_.out ?_
     refine tu 8 (some 53) (ba 11 1023) HT_.out HW_.out hHeld ?_
     exact norm_ (by simp only [putAll, Act.put, List.setIfInBounds_toArray, List.set_cons_zero, List.set_cons_succ]) (hCont (gb137) _ ⟨hHeld, (by (with_reducible repeat (first | apply Kd.R_alloc | apply Kd.R_drewN | apply Kd.R_drew)); exact Kd.R_mono HO_101001.out (fun _ hk => ⟨hk.1.1, ⟨hk.1.2, hk.2⟩⟩)), (by (with_reducible repeat (first | apply Kd.Q_alloc | apply Kd.Q_drewN | apply Kd.Q_drew)); exact Kd.Q_mono HO_6.out (fun _ hk => ⟨hk.1.1, ⟨hk.1.2, hk.2⟩⟩)), (qk BK114.out), (qk BK118.out), (qk BK133.out), (qk BK135.out), (qk BK137.out), GW137.out, GE137.out, NB115_137.out, NB137_115.out, NB114_137.out, NB137_114.out, NB118_137.out, NB137_118.out, NB133_137.out, NB137_133.out, NB135_137.out, NB137_135.out, (qi HI115.out), (qj HB.out HI115.out)⟩)
 rintro gb137 w147 ⟨hS_, h0_, h1_, h2_, h3_, h4_, h5_, h6_, h7_, h8_, h9_, h10_, h11_, h12_, h13_, h14_, h15_, h16_, h17_, h18_, h19_, h20_⟩
 have n0_ : Aside0 (Kd.R kTie 32 w147 w.heap.size (fun k_ => some k_ ≠ (.slice (some ad134) t101.length co87 : Value).ownBlock ∧ k_ ≠ gb135 ∧ k_ ≠ gb137) (.slice (some ad136) t112.length co13) t112) := ⟨h0_⟩
 have n1_ : Aside0 (Kd.Q kTie 32 w147 w.heap.size (fun k_ => some k_ ≠ (.slice (some ad136) t112.length co13 : Value).ownBlock ∧ k_ ≠ gb135 ∧ k_ ≠ gb137) (.slice (some ad134) t101.length co87) t101) := ⟨h1_⟩
 have n2_ : Aside0 (w147.heap[gb114]? = some (.cells #[.int .i64 0, .slice none 0 0] 25 (0, 0))) := ⟨h2_⟩
 have n3_ : Aside0 (w147.heap[gb118]? = some (.cells #[.int .i64 t100, .slice (some ad136) t112.length co13] 25 (0, 0))) := ⟨h3_⟩
 have n4_ : Aside0 (w147.heap[gb133]? = some (.cells #[.int .i64 t100, .slice (some ad134) t101.length co87] 25 (0, 0))) := ⟨h4_⟩
 have n5_ : Aside0 (w147.heap[gb135]? = some (.cells #[.int .i64 ((rd_TTie t101 t102).f0), .int .i64 ((rd_TTie t101 t102).f1)] 32 (0, 0))) := ⟨h5_⟩
 have n6_ : Aside0 (w147.heap[gb137]? = some (.cells #[.int .i64 0, .int .i64 0] 32 (0, 0))) := ⟨h6_⟩
 have n7_ : Aside0 (w.heap.size ≤ gb137) := ⟨h7_⟩
 have n8_ : Aside0 (w.heap.size ≤ gb137) := ⟨h8_⟩
 have n9_ : Aside0 (g115 ≠ gb137) := ⟨h9_⟩
 have n10_ : Aside0 (gb137 ≠ g115) := ⟨h10_⟩
 have n11_ : Aside0 (gb114 ≠ gb137) := ⟨h11_⟩
 have n12_ : Aside0 (gb137 ≠ gb114) := ⟨h12_⟩
 have n13_ : Aside0 (gb118 ≠ gb137) := ⟨h13_⟩
 have n14_ : Aside0 (gb137 ≠ gb118) := ⟨h14_⟩
 have n15_ : Aside0 (gb133 ≠ gb137) := ⟨h15_⟩
 have n16_ : Aside0 (gb137 ≠ gb133) := ⟨h16_⟩
 have n17_ : Aside0 (gb135 ≠ gb137) := ⟨h17_⟩
 have n18_ : Aside0 (gb137 ≠ gb135) := ⟨h18_⟩
 have n19_ : Aside0 (IsSRd w w147 g115 t109 t125) := ⟨h19_⟩
 have n20_ : Aside0 (Below w.heap.size w w147) := ⟨h20_⟩
 clear HO_6
 clear HO_101001
 clear BK114
 clear BK118
 clear BK133
 clear BK135
 clear HI115
 clear HB
 clear h0_ h1_ h2_ h3_ h4_ h5_ h6_ h7_ h8_ h9_ h10_ h11_ h12_ h13_ h14_ h15_ h16_ h17_ h18_ h19_ h20_
 have HO_101001 := n0_
 have HO_6 := n1_
 have BK114 := n2_
 have BK118 := n3_
 have BK133 := n4_
 have BK135 := n5_
 have BK137 := n6_
 have GW137 := n7_
 have GE137 := n8_
 have NB115_137 := n9_
 have NB137_115 := n10_
 have NB114_137 := n11_
 have NB137_114 := n12_
 have NB118_137 := n13_
 have NB137_118 := n14_
 have NB133_137 := n15_
 have NB137_133 := n16_
 have NB135_137 := n17_
 have NB137_135 := n18_
 have HI115 := n19_
 have HB := n20_
 clear n0_ n1_ n2_ n3_ n4_ n5_ n6_ n7_ n8_ n9_ n10_ n11_ n12_ n13_ n14_ n15_ n16_ n17_ n18_ n19_ n20_
 have hHeld : w147.cell? ⟨gb118, 0, none⟩ = some (.int .i64 t100) ∧ w147.cell? ⟨gb118, 1, none⟩ = some (.slice (some ad136) t112.length co13) ∧ w147.cell? (ad136.add ((t103).toNat * 2)) = some (.int .i64 ((rd_TTie t112 t103).f0)) ∧ w147.cell? ⟨(ad136.add ((t103).toNat * 2)).block, (ad136.add ((t103).toNat * 2)).off + 1, none⟩ = some (.int .i64 ((rd_TTie t112 t103).f1)) := hS_
 refine norm_ (a' := ?_) ?_ ?_
 rotate_left
 · simp only [putAll, Act.put, List.setIfInBounds_toArray, List.set_cons_zero, List.set_cons_succ]
   rfl
 refine one_ (i := 10) (N := none) (ba 11 2047) rfl rfl (one_of HT_.out (by kernel_rfl)) (by decide) (fun K hK => ?_)
 have hs148 : w147.cell? ⟨gb137, 0, none⟩ = some (.int .i64 0) := (blk_cell BK137.out 0).trans rfl
 have hfs148 := blk_frozen BK137.out 0
 have hns148_0 := NB114_137.out
 have hns148_1 := NB118_137.out
 have hns148_2 := NB133_137.out
 have hns148_3 := NB135_137.out
 have hms148_0 := NB137_114.out
 have hms148_1 := NB137_118.out
 have hms148_2 := NB137_133.out
 have hms148_3 := NB137_135.out
 have hs149 : w147.cell? ⟨gb137, 1, none⟩ = some (.int .i64 0) := (blk_cell BK137.out 1).trans rfl
 have hfs149 := blk_frozen BK137.out 1
 have hns149_0 := NB114_137.out
 have hns149_1 := NB118_137.out
 have hns149_2 := NB133_137.out
 have hns149_3 := NB135_137.out
 have hms149_0 := NB137_114.out
 have hms149_1 := NB137_118.out
 have hms149_2 := NB137_133.out
 have hms149_3 := NB137_135.out
 refine skip_ (w1 := ?_) (by rfl) rfl ?_ ?_
 rotate_left
 · go_simp
   rfl
 refine hK.out _ _ ⟨((cell_far (p := ⟨gb137, _, none⟩) NB118_137.out _).trans (((cell_far (p := ⟨gb137, _, none⟩) NB118_137.out _).trans (hHeld.1)))), ((cell_far (p := ⟨gb137, _, none⟩) NB118_137.out _).trans (((cell_far (p := ⟨gb137, _, none⟩) NB118_137.out _).trans (hHeld.2.1)))), ((cell_far (p := ⟨gb137, _, none⟩) (by first | exact Kd.own_blk (Kd.R_away HO_101001.out (fun _ hk => hk.2.2)) | (rw [add_block]; exact Kd.own_blk (Kd.R_away HO_101001.out (fun _ hk => hk.2.2))) | (show (Addr.add _ _).block ≠ _; rw [add_block]; exact Kd.own_blk (Kd.R_away HO_101001.out (fun _ hk => hk.2.2))) | (dsimp only; exact Kd.own_blk (Kd.R_away HO_101001.out (fun _ hk => hk.2.2)))) _).trans (((cell_far (p := ⟨gb137, _, none⟩) (by first | exact Kd.own_blk (Kd.R_away HO_101001.out (fun _ hk => hk.2.2)) | (rw [add_block]; exact Kd.own_blk (Kd.R_away HO_101001.out (fun _ hk => hk.2.2))) | (show (Addr.add _ _).block ≠ _; rw [add_block]; exact Kd.own_blk (Kd.R_away HO_101001.out (fun _ hk => hk.2.2))) | (dsimp only; exact Kd.own_blk (Kd.R_away HO_101001.out (fun _ hk => hk.2.2)))) _).trans (hHeld.2.2.1)))), ((cell_far (p := ⟨gb137, _, none⟩) (by first | exact Kd.own_blk (Kd.R_away HO_101001.out (fun _ hk => hk.2.2)) | (rw [add_block]; exact Kd.own_blk (Kd.R_away HO_101001.out (fun _ hk => hk.2.2))) | (show (Addr.add _ _).block ≠ _; rw [add_block]; exact Kd.own_blk (Kd.R_away HO_101001.out (fun _ hk => hk.2.2))) | (dsimp only; exact Kd.own_blk (Kd.R_away HO_101001.out (fun _ hk => hk.2.2)))) _).trans (((cell_far (p := ⟨gb137, _, none⟩) (by first | exact Kd.own_blk (Kd.R_away HO_101001.out (fun _ hk => hk.2.2)) | (rw [add_block]; exact Kd.own_blk (Kd.R_away HO_101001.out (fun _ hk => hk.2.2))) | (show (Addr.add _ _).block ≠ _; rw [add_block]; exact Kd.own_blk (Kd.R_away HO_101001.out (fun _ hk => hk.2.2))) | (dsimp only; exact Kd.own_blk (Kd.R_away HO_101001.out (fun _ hk => hk.2.2)))) _).trans (hHeld.2.2.2))))⟩ (fun hHeld => ?_)
 clear hK K
 refine done_ (done_of HT_.out (by kernel_rfl)) ?_
 have hnb150 := NB133_137.out
 have hnc150 := NB137_133.out
 have hcz151_0 : w147.cell? ⟨gb133, 0, none⟩ = some (.int .i64 t100) := (blk_cell BK133.out 0).trans rfl
 have hcz151_1 : w147.cell? ⟨gb133, 1, none⟩ = some (.slice (some ad134) t101.length co87) := (blk_cell BK133.out 1).trans rfl
 have hfz151_0 := blk_frozen BK133.out 0
 have hfz151_1 := blk_frozen BK133.out 1
 have hnb152 := NB135_137.out
 have hnc152 := NB137_135.out
 have hcz153_0 : w147.cell? ⟨gb135, 0, none⟩ = some (.int .i64 ((rd_TTie t101 t102).f0)) := (blk_cell BK135.out 0).trans rfl
 have hcz153_1 : w147.cell? ⟨gb135, 1, none⟩ = some (.int .i64 ((rd_TTie t101 t102).f1)) := (blk_cell BK135.out 1).trans rfl
 have hfz153_0 := blk_frozen BK135.out 0
 have hfz153_1 := blk_frozen BK135.out 1
 try go_wp2_with (first | ((with_reducible refine gate_callee (f := 40) rfl ?_); refine gl 60 Try.func40 #[.agg #[.int .i64 t100, .slice (some ad134) t101.length co87], .int .i64 ((rd_TTie t101 t102).f0), .int .i64 ((rd_TTie t101 t102).f1)] ?_; (with_reducible refine (spec_NetCut.calls kj4 t100 _ _ t101 ((rd_TTie t101 t102).f0) ((rd_TTie t101 t102).f1) t104 t127 t128 _ ?side1 ?side2 A33.out).mono ?_); (case side1 => refine (Kd.Q_reads' (e := 32) (base := w.heap.size) (ok := fun k_ => (some k_ ≠ (.slice (some ad136) t112.length co13 : Value).ownBlock ∧ (k_ ≠ gb135 ∧ k_ ≠ gb137))) (n := t101.length) (c := co87) ?_).2.2; exact (by (with_reducible repeat (first | apply Kd.Q_alloc | apply Kd.Q_drewN | apply Kd.Q_drew)); exact (Kd.Q_mono (Kd.Q_far (p := ⟨gb137, 1, none⟩) (Kd.Q_far (p := ⟨gb137, 0, none⟩) (Kd.Q_mono HO_6.out (fun k_ hk => (⟨hk, hk.2.2⟩ : _ ∧ k_ ≠ gb137))) (fun _ hk => hk.2) (.int .i64 ((rd_TTie t112 t103).f0))) (fun _ hk => hk.2) (.int .i64 ((rd_TTie t112 t103).f1))) (fun _ h_ => h_.1)))); (case side2 => exact (Kd.Q_reads' HO_6.out).2.1); rintro e w154 ⟨v138, rfl, ho0, hb⟩; refine ⟨_, rfl, ?_⟩; have HO139 := q0 (Kd.R_lower (Kd.R_newB (Kd.R_newB (Kd.R_new' (Kd.R_new' ho0 (Kd.Q_lt (by (with_reducible repeat (first | apply Kd.Q_alloc | apply Kd.Q_drewN | apply Kd.Q_drew)); exact (Kd.Q_mono (Kd.Q_far (p := ⟨gb137, 1, none⟩) (Kd.Q_far (p := ⟨gb137, 0, none⟩) (Kd.Q_mono HO_6.out (fun k_ hk => (⟨hk, hk.2.2⟩ : _ ∧ k_ ≠ gb137))) (fun _ hk => hk.2) (.int .i64 ((rd_TTie t112 t103).f0))) (fun _ hk => hk.2) (.int .i64 ((rd_TTie t112 t103).f1))) (fun _ h_ => h_.1))))) (Kd.R_lt (by (with_reducible repeat (first | apply Kd.R_alloc | apply Kd.R_drewN | apply Kd.R_drew)); exact (Kd.R_mono (Kd.R_far (p := ⟨gb137, 1, none⟩) (Kd.R_far (p := ⟨gb137, 0, none⟩) (Kd.R_mono HO_101001.out (fun k_ hk => (⟨hk, hk.2.2⟩ : _ ∧ k_ ≠ gb137))) (fun _ hk => hk.2) (.int .i64 ((rd_TTie t112 t103).f0))) (fun _ hk => hk.2) (.int .i64 ((rd_TTie t112 t103).f1))) (fun _ h_ => h_.1))))) (g := gb135) (o := .cells #[.int .i64 ((rd_TTie t101 t102).f0), .int .i64 ((rd_TTie t101 t102).f1)] 32 (0, 0)) (qf BK135.out)) (g := gb137) (o := .cells #[.int .i64 ((rd_TTie t112 t103).f0), .int .i64 ((rd_TTie t112 t103).f1)] 32 (0, 0)) (by (with_reducible repeat (first | refine blk_drewN ?_ _ | refine blk_drew ?_ | refine blk_alloc ?_ _)); refine blk_put (cs := #[.int .i64 ((rd_TTie t112 t103).f0), .int .i64 0]) ?_ 1 _ rfl; (with_reducible repeat (first | refine blk_drewN ?_ _ | refine blk_drew ?_ | refine blk_alloc ?_ _)); refine blk_put (cs := #[.int .i64 0, .int .i64 0]) ?_ 0 _ rfl; (with_reducible repeat (first | refine blk_drewN ?_ _ | refine blk_drew ?_ | refine blk_alloc ?_ _)); exact BK137.out)) (below_size (qj HB.out HI115.out))); replace HO_6 := q0 (Kd.Q_elder' (by (with_reducible repeat (first | apply Kd.Q_alloc | apply Kd.Q_drewN | apply Kd.Q_drew)); exact (Kd.Q_mono (Kd.Q_far (p := ⟨gb137, 1, none⟩) (Kd.Q_far (p := ⟨gb137, 0, none⟩) (Kd.Q_mono HO_6.out (fun k_ hk => (⟨hk, hk.2.2⟩ : _ ∧ k_ ≠ gb137))) (fun _ hk => hk.2) (.int .i64 ((rd_TTie t112 t103).f0))) (fun _ hk => hk.2) (.int .i64 ((rd_TTie t112 t103).f1))) (fun _ h_ => h_.1))) (Kd.R_base ho0) hb); replace HO_101001 := q0 (Kd.R_elder' (by (with_reducible repeat (first | apply Kd.R_alloc | apply Kd.R_drewN | apply Kd.R_drew)); exact (Kd.R_mono (Kd.R_far (p := ⟨gb137, 1, none⟩) (Kd.R_far (p := ⟨gb137, 0, none⟩) (Kd.R_mono HO_101001.out (fun k_ hk => (⟨hk, hk.2.2⟩ : _ ∧ k_ ≠ gb137))) (fun _ hk => hk.2) (.int .i64 ((rd_TTie t112 t103).f0))) (fun _ hk => hk.2) (.int .i64 ((rd_TTie t112 t103).f1))) (fun _ h_ => h_.1))) (Kd.R_base ho0) hb); replace BK114 := q0 (kf BK114.out hb); replace BK118 := q0 (kf BK118.out hb); replace BK133 := q0 (kf BK133.out hb); replace BK135 := q0 (kf BK135.out hb); replace BK137 := q0 (blk_below (g := gb137) (o := .cells #[.int .i64 ((rd_TTie t112 t103).f0), .int .i64 ((rd_TTie t112 t103).f1)] 32 (0, 0)) (by (with_reducible repeat (first | refine blk_drewN ?_ _ | refine blk_drew ?_ | refine blk_alloc ?_ _)); refine blk_put (cs := #[.int .i64 ((rd_TTie t112 t103).f0), .int .i64 0]) ?_ 1 _ rfl; (with_reducible repeat (first | refine blk_drewN ?_ _ | refine blk_drew ?_ | refine blk_alloc ?_ _)); refine blk_put (cs := #[.int .i64 0, .int .i64 0]) ?_ 0 _ rfl; (with_reducible repeat (first | refine blk_drewN ?_ _ | refine blk_drew ?_ | refine blk_alloc ?_ _)); exact BK137.out) hb); replace HB := q0 (below_step (qj HB.out HI115.out) hb); replace HI115 := q0 (IsSRd.below (show IsSRd w ((w147.setCell ⟨gb137, 0, none⟩ (.int .i64 ((rd_TTie t112 t103).f0))).setCell ⟨gb137, 1, none⟩ (.int .i64 ((rd_TTie t112 t103).f1))) g115 t109 t125 from qi HI115.out) hb); (try clear hb); (try clear hb2); (try clear hk); (try clear hi); (try clear ho0); have hcz155_0 : w154.cell? ⟨gb133, 0, none⟩ = some (.int .i64 t100) := (blk_cell BK133.out 0).trans rfl; have hcz155_1 : w154.cell? ⟨gb133, 1, none⟩ = some (.slice (some ad134) t101.length co87) := (blk_cell BK133.out 1).trans rfl; have hfz155_0 := blk_frozen BK133.out 0; have hfz155_1 := blk_frozen BK133.out 1; obtain ⟨Ao156, co156, eo156⟩ := Kd.R_slice HO139.out; subst eo156; have hnb157 := NB137_114.out; have hnc157 := NB114_137.out; have hnb158 := NB137_118.out; have hnc158 := NB118_137.out; have hnb159 := NB137_115.out; have hnc159 := NB115_137.out; have hcz160_0 : w154.cell? ⟨gb137, 0, none⟩ = some (.int .i64 ((rd_TTie t112 t103).f0)) := (blk_cell BK137.out 0).trans rfl; have hcz160_1 : w154.cell? ⟨gb137, 1, none⟩ = some (.int .i64 ((rd_TTie t112 t103).f1)) := (blk_cell BK137.out 1).trans rfl; have hfz160_0 := blk_frozen BK137.out 0; have hfz160_1 := blk_frozen BK137.out 1) | ((with_reducible refine gate_callee (f := 27) rfl ?_); refine gl 69 Try.func27 #[.agg #[.int .i64 t104, .slice Ao156 t127.length co156], .int .i64 ((rd_TTie t112 t103).f0), .int .i64 ((rd_TTie t112 t103).f1)] ?_; (with_reducible refine (spec_NetAdd.calls kj4 t104 _ _ t127 ((rd_TTie t112 t103).f0) ((rd_TTie t112 t103).f1) t105 t130 false _ ?side1 ?side2 A34.out).mono ?_); (case side1 => refine (Kd.R_reads' (e := 32) (base := w.heap.size) (ok := fun k_ => ((((True ∧ some k_ ≠ (.slice (some ad134) t101.length co87 : Value).ownBlock) ∧ some k_ ≠ (.slice (some ad136) t112.length co13 : Value).ownBlock) ∧ k_ ≠ gb135) ∧ k_ ≠ gb137)) (n := t127.length) (c := co156) ?_).2.2; exact (by (with_reducible repeat (first | apply Kd.R_alloc | apply Kd.R_drewN | apply Kd.R_drew)); exact (rf2 HO139.out BK133.out (fun _ h_ => h_.1)))); (case side2 => exact (Kd.R_reads' HO139.out).2.1); rintro e w161 ⟨v140, rfl, ho0, hb⟩; refine ⟨_, rfl, ?_⟩; have HO141 := q0 (Kd.R_lower (Kd.R_newB (Kd.R_newB (Kd.R_new' (Kd.R_new' (Kd.R_new' ho0 (Kd.Q_lt (by (with_reducible repeat (first | apply Kd.Q_alloc | apply Kd.Q_drewN | apply Kd.Q_drew)); exact (Kd.Q_mono (Kd.Q_far (p := ⟨gb133, 1, none⟩) (Kd.Q_far (p := ⟨gb133, 0, none⟩) (Kd.Q_types HO_6.out BK133.out (by decide)) (fun _ hk => hk.2) (.int .i64 t104)) (fun _ hk => hk.2) (.slice Ao156 t127.length co156)) (fun _ h_ => h_.1))))) (Kd.R_lt (by (with_reducible repeat (first | apply Kd.R_alloc | apply Kd.R_drewN | apply Kd.R_drew)); exact (rf2 HO_101001.out BK133.out (fun _ h_ => h_.1))))) (Kd.R_lt (by (with_reducible repeat (first | apply Kd.R_alloc | apply Kd.R_drewN | apply Kd.R_drew)); exact (rf2 HO139.out BK133.out (fun _ h_ => h_.1))))) (g := gb135) (o := .cells #[.int .i64 ((rd_TTie t101 t102).f0), .int .i64 ((rd_TTie t101 t102).f1)] 32 (0, 0)) (qf BK135.out)) (g := gb137) (o := .cells #[.int .i64 ((rd_TTie t112 t103).f0), .int .i64 ((rd_TTie t112 t103).f1)] 32 (0, 0)) (qf BK137.out)) (below_size (qj HB.out HI115.out))); replace HO_6 := q0 (Kd.Q_elder' (by (with_reducible repeat (first | apply Kd.Q_alloc | apply Kd.Q_drewN | apply Kd.Q_drew)); exact (Kd.Q_mono (Kd.Q_far (p := ⟨gb133, 1, none⟩) (Kd.Q_far (p := ⟨gb133, 0, none⟩) (Kd.Q_types HO_6.out BK133.out (by decide)) (fun _ hk => hk.2) (.int .i64 t104)) (fun _ hk => hk.2) (.slice Ao156 t127.length co156)) (fun _ h_ => h_.1))) (Kd.R_base ho0) hb); replace HO_101001 := q0 (Kd.R_elder' (by (with_reducible repeat (first | apply Kd.R_alloc | apply Kd.R_drewN | apply Kd.R_drew)); exact (rf2 HO_101001.out BK133.out (fun _ h_ => h_.1))) (Kd.R_base ho0) hb); replace HO139 := q0 (Kd.R_elder' (by (with_reducible repeat (first | apply Kd.R_alloc | apply Kd.R_drewN | apply Kd.R_drew)); exact (rf2 HO139.out BK133.out (fun _ h_ => h_.1))) (Kd.R_base ho0) hb); replace BK114 := q0 (kf BK114.out hb); replace BK118 := q0 (kf BK118.out hb); replace BK133 := q0 (blk_below (g := gb133) (o := .cells #[.int .i64 t104, .slice Ao156 t127.length co156] 25 (0, 0)) (by (with_reducible repeat (first | refine blk_drewN ?_ _ | refine blk_drew ?_ | refine blk_alloc ?_ _)); refine blk_put (cs := #[.int .i64 t104, .slice (some ad134) t101.length co87]) ?_ 1 _ rfl; (with_reducible repeat (first | refine blk_drewN ?_ _ | refine blk_drew ?_ | refine blk_alloc ?_ _)); refine blk_put (cs := #[.int .i64 t100, .slice (some ad134) t101.length co87]) ?_ 0 _ rfl; (with_reducible repeat (first | refine blk_drewN ?_ _ | refine blk_drew ?_ | refine blk_alloc ?_ _)); exact BK133.out) hb); replace BK135 := q0 (kf BK135.out hb); replace BK137 := q0 (kf BK137.out hb); replace HB := q0 (below_step (qj HB.out HI115.out) hb); replace HI115 := q0 (IsSRd.below (show IsSRd w ((w154.setCell ⟨gb133, 0, none⟩ (.int .i64 t104)).setCell ⟨gb133, 1, none⟩ (.slice Ao156 t127.length co156)) g115 t109 t125 from qi HI115.out) hb); (try clear hb); (try clear hb2); (try clear hk); (try clear hi); (try clear ho0)) | ((with_reducible refine gate_dst (N := 10) rfl ?_); (try (refine gate_guard (by rfl) ?_; dsimp only)); refine be 10 #[.int .i64 0, .slice none 0 0] 25 ?_; intro gb142 hg w162 hbox hb; replace HO_6 := q0 (Kd.Q_below (by (with_reducible repeat (first | apply Kd.Q_alloc | apply Kd.Q_drewN | apply Kd.Q_drew)); exact HO_6.out) hb); replace HO_101001 := q0 (Kd.R_below (qr HO_101001.out) hb); replace HO139 := q0 (Kd.R_below (qr HO139.out) hb); replace HO141 := q0 (Kd.R_below (qr HO141.out) hb); have BK142 := q0 (hbox); have GW142 := q0 ((by rw [hg]; exact (below_size (qj HB.out HI115.out)) : w.heap.size ≤ gb142)); have GE142 := q0 ((by rw [hg]; exact (below_size (qj HB.out HI115.out)) : w.heap.size ≤ gb142)); replace HB := q0 (below_step (qj HB.out HI115.out) hb); have NB114_142 := q0 ((bl BK114.out hg : gb114 ≠ gb142)); have NB142_114 := q0 ((bg BK114.out hg : gb142 ≠ gb114)); replace BK114 := q0 (kb BK114.out hb); have NB118_142 := q0 ((bl BK118.out hg : gb118 ≠ gb142)); have NB142_118 := q0 ((bg BK118.out hg : gb142 ≠ gb118)); replace BK118 := q0 (kb BK118.out hb); have NB133_142 := q0 ((bl BK133.out hg : gb133 ≠ gb142)); have NB142_133 := q0 ((bg BK133.out hg : gb142 ≠ gb133)); replace BK133 := q0 (kb BK133.out hb); have NB135_142 := q0 ((bl BK135.out hg : gb135 ≠ gb142)); have NB142_135 := q0 ((bg BK135.out hg : gb142 ≠ gb135)); replace BK135 := q0 (kb BK135.out hb); have NB137_142 := q0 ((bl BK137.out hg : gb137 ≠ gb142)); have NB142_137 := q0 ((bg BK137.out hg : gb142 ≠ gb137)); replace BK137 := q0 (kb BK137.out hb); have NB115_142 := q0 ((by rw [hg]; exact Nat.ne_of_lt (IsSRd.lt (show IsSRd w _ g115 t109 t125 from qi HI115.out)) : g115 ≠ gb142)); have NB142_115 := q0 ((by rw [hg]; exact Nat.ne_of_gt (IsSRd.lt (show IsSRd w _ g115 t109 t125 from qi HI115.out)) : gb142 ≠ g115)); replace HI115 := q0 (IsSRd.below (qi HI115.out) hb); clear hb hbox hg; have hnb163 := NB142_114.out; have hnc163 := NB114_142.out; have hnb164 := NB142_118.out; have hnc164 := NB118_142.out; have hnb165 := NB142_133.out; have hnc165 := NB133_142.out; have hnb166 := NB142_135.out; have hnc166 := NB135_142.out; have hnb167 := NB142_137.out; have hnc167 := NB137_142.out; have hnb168 := NB142_115.out; have hnc168 := NB115_142.out; have hcz169_0 : w162.cell? ⟨gb142, 0, none⟩ = some (.int .i64 0) := (blk_cell BK142.out 0).trans rfl; have hcz169_1 : w162.cell? ⟨gb142, 1, none⟩ = some (.slice none 0 0) := (blk_cell BK142.out 1).trans rfl; have hfz169_0 := blk_frozen BK142.out 0; have hfz169_1 := blk_frozen BK142.out 1; obtain ⟨Ao170, co170, eo170⟩ := Kd.R_slice HO141.out; subst eo170))
 have n0_ : Aside0 (Kd.Q kTie 32 ((w162.setCell ⟨gb142, 0, none⟩ (.int .i64 t105)).setCell ⟨gb142, 1, none⟩ (.slice Ao170 t130.length co170)) w.heap.size (fun k_ => some k_ ≠ (.slice (some ad136) t112.length co13 : Value).ownBlock ∧ some k_ ≠ (.slice Ao156 t127.length co156 : Value).ownBlock ∧ some k_ ≠ (.slice Ao170 t130.length co170 : Value).ownBlock ∧ k_ ≠ gb135 ∧ k_ ≠ gb137) (.slice (some ad134) t101.length co87) t101) := ⟨by (with_reducible repeat (first | apply Kd.Q_alloc | apply Kd.Q_drewN | apply Kd.Q_drew)); exact Kd.Q_mono (Kd.Q_far (p := ⟨gb142, 1, none⟩) (Kd.Q_far (p := ⟨gb142, 0, none⟩) (Kd.Q_types HO_6.out BK142.out (by decide)) (fun _ hk => hk.2) (.int .i64 t105)) (fun _ hk => hk.2) (.slice Ao170 t130.length co170)) (fun _ hk => ⟨hk.1.1.1.1, ⟨hk.1.1.2, ⟨hk.1.2, ⟨hk.1.1.1.2.1, hk.1.1.1.2.2⟩⟩⟩⟩)⟩
 have n1_ : Aside0 (Kd.R kTie 32 ((w162.setCell ⟨gb142, 0, none⟩ (.int .i64 t105)).setCell ⟨gb142, 1, none⟩ (.slice Ao170 t130.length co170)) w.heap.size (fun k_ => some k_ ≠ (.slice (some ad134) t101.length co87 : Value).ownBlock ∧ some k_ ≠ (.slice Ao156 t127.length co156 : Value).ownBlock ∧ some k_ ≠ (.slice Ao170 t130.length co170 : Value).ownBlock ∧ k_ ≠ gb135 ∧ k_ ≠ gb137) (.slice (some ad136) t112.length co13) t112) := ⟨by (with_reducible repeat (first | apply Kd.R_alloc | apply Kd.R_drewN | apply Kd.R_drew)); exact rf2 HO_101001.out BK142.out (fun _ hk => ⟨hk.1.1.1.1, ⟨hk.1.1.2, ⟨hk.1.2, ⟨hk.1.1.1.2.1, hk.1.1.1.2.2⟩⟩⟩⟩)⟩
 have n2_ : Aside0 (Kd.R kTie 32 ((w162.setCell ⟨gb142, 0, none⟩ (.int .i64 t105)).setCell ⟨gb142, 1, none⟩ (.slice Ao170 t130.length co170)) w.heap.size (fun k_ => some k_ ≠ (.slice (some ad134) t101.length co87 : Value).ownBlock ∧ some k_ ≠ (.slice (some ad136) t112.length co13 : Value).ownBlock ∧ some k_ ≠ (.slice Ao170 t130.length co170 : Value).ownBlock ∧ k_ ≠ gb135 ∧ k_ ≠ gb137) (.slice Ao156 t127.length co156) t127) := ⟨by (with_reducible repeat (first | apply Kd.R_alloc | apply Kd.R_drewN | apply Kd.R_drew)); exact rf2 HO139.out BK142.out (fun _ hk => ⟨hk.1.1.1.1.1.2, ⟨hk.1.1.1.1.2, ⟨hk.1.2, ⟨hk.1.1.1.2, hk.1.1.2⟩⟩⟩⟩)⟩
 have n3_ : Aside0 (Kd.R kTie 32 ((w162.setCell ⟨gb142, 0, none⟩ (.int .i64 t105)).setCell ⟨gb142, 1, none⟩ (.slice Ao170 t130.length co170)) w.heap.size (fun k_ => some k_ ≠ (.slice (some ad134) t101.length co87 : Value).ownBlock ∧ some k_ ≠ (.slice (some ad136) t112.length co13 : Value).ownBlock ∧ some k_ ≠ (.slice Ao156 t127.length co156 : Value).ownBlock ∧ k_ ≠ gb135 ∧ k_ ≠ gb137) (.slice Ao170 t130.length co170) t130) := ⟨by (with_reducible repeat (first | apply Kd.R_alloc | apply Kd.R_drewN | apply Kd.R_drew)); exact rf2 HO141.out BK142.out (fun _ hk => ⟨hk.1.1.1.1.1.2, ⟨hk.1.1.1.1.2, ⟨hk.1.1.1.2, ⟨hk.1.1.2, hk.1.2⟩⟩⟩⟩)⟩
 have n4_ : Aside0 (((w162.setCell ⟨gb142, 0, none⟩ (.int .i64 t105)).setCell ⟨gb142, 1, none⟩ (.slice Ao170 t130.length co170)).heap[gb114]? = some (.cells #[.int .i64 0, .slice none 0 0] 25 (0, 0))) := ⟨qf BK114.out⟩
 have n5_ : Aside0 (((w162.setCell ⟨gb142, 0, none⟩ (.int .i64 t105)).setCell ⟨gb142, 1, none⟩ (.slice Ao170 t130.length co170)).heap[gb118]? = some (.cells #[.int .i64 t100, .slice (some ad136) t112.length co13] 25 (0, 0))) := ⟨qf BK118.out⟩
 have n6_ : Aside0 (((w162.setCell ⟨gb142, 0, none⟩ (.int .i64 t105)).setCell ⟨gb142, 1, none⟩ (.slice Ao170 t130.length co170)).heap[gb133]? = some (.cells #[.int .i64 t104, .slice Ao156 t127.length co156] 25 (0, 0))) := ⟨qf BK133.out⟩
 have n7_ : Aside0 (((w162.setCell ⟨gb142, 0, none⟩ (.int .i64 t105)).setCell ⟨gb142, 1, none⟩ (.slice Ao170 t130.length co170)).heap[gb135]? = some (.cells #[.int .i64 ((rd_TTie t101 t102).f0), .int .i64 ((rd_TTie t101 t102).f1)] 32 (0, 0))) := ⟨qf BK135.out⟩
 have n8_ : Aside0 (((w162.setCell ⟨gb142, 0, none⟩ (.int .i64 t105)).setCell ⟨gb142, 1, none⟩ (.slice Ao170 t130.length co170)).heap[gb137]? = some (.cells #[.int .i64 ((rd_TTie t112 t103).f0), .int .i64 ((rd_TTie t112 t103).f1)] 32 (0, 0))) := ⟨qf BK137.out⟩
 have n9_ : Aside0 (((w162.setCell ⟨gb142, 0, none⟩ (.int .i64 t105)).setCell ⟨gb142, 1, none⟩ (.slice Ao170 t130.length co170)).heap[gb142]? = some (.cells #[.int .i64 t105, .slice Ao170 t130.length co170] 25 (0, 0))) := ⟨by (with_reducible repeat (first | refine blk_drewN ?_ _ | refine blk_drew ?_ | refine blk_alloc ?_ _)); refine blk_put (cs := #[.int .i64 t105, .slice none 0 0]) ?_ 1 _ rfl; (with_reducible repeat (first | refine blk_drewN ?_ _ | refine blk_drew ?_ | refine blk_alloc ?_ _)); refine blk_put (cs := #[.int .i64 0, .slice none 0 0]) ?_ 0 _ rfl; (with_reducible repeat (first | refine blk_drewN ?_ _ | refine blk_drew ?_ | refine blk_alloc ?_ _)); exact BK142.out⟩
 have n10_ : Aside0 (IsSRd w ((w162.setCell ⟨gb142, 0, none⟩ (.int .i64 t105)).setCell ⟨gb142, 1, none⟩ (.slice Ao170 t130.length co170)) g115 t109 t125) := ⟨qi HI115.out⟩
 have n11_ : Aside0 (Below w.heap.size w ((w162.setCell ⟨gb142, 0, none⟩ (.int .i64 t105)).setCell ⟨gb142, 1, none⟩ (.slice Ao170 t130.length co170))) := ⟨qj HB.out HI115.out⟩
 (try clear HO_6)
 (try clear HO_101001)
 (try clear HO139)
 (try clear HO141)
 (try clear BK114)
 (try clear BK118)
 (try clear BK133)
 (try clear BK135)
 (try clear BK137)
 (try clear BK142)
 (try clear HI115)
 (try clear HB)
 generalize ((w162.setCell ⟨gb142, 0, none⟩ (.int .i64 t105)).setCell ⟨gb142, 1, none⟩ (.slice Ao170 t130.length co170)) = w171 at n0_ n1_ n2_ n3_ n4_ n5_ n6_ n7_ n8_ n9_ n10_ n11_ ⊢
 have HO_6 := n0_
 have HO_101001 := n1_
 have HO139 := n2_
 have HO141 := n3_
 have BK114 := n4_
 have BK118 := n5_
 have BK133 := n6_
 have BK135 := n7_
 have BK137 := n8_
 have BK142 := n9_
 have HI115 := n10_
 have HB := n11_
 clear n0_ n1_ n2_ n3_ n4_ n5_ n6_ n7_ n8_ n9_ n10_ n11_
 replace HO_6 := q0 (Kd.Q_drew HO_6.out)
 replace HO_101001 := q0 (Kd.R_drew HO_101001.out)
 replace HO139 := q0 (Kd.R_drew HO139.out)
 replace HO141 := q0 (Kd.R_drew HO141.out)
 replace BK114 := q0 (blk_drew BK114.out)
 replace BK118 := q0 (blk_drew BK118.out)
 replace BK133 := q0 (blk_drew BK133.out)
 replace BK135 := q0 (blk_drew BK135.out)
 replace BK137 := q0 (blk_drew BK137.out)
 replace BK142 := q0 (blk_drew BK142.out)
 replace HI115 := q0 (IsSRd.drew HI115.out)
 replace HB := q0 (below_drew1 HB.out)
 refine start_ (n := 5) (S := fun w' => w'.cell? ⟨gb118, 0, none⟩ = some (.int .i64 t100) ∧ w'.cell? ⟨gb118, 1, none⟩ = some (.slice (some ad136) t112.length co13) ∧ w'.cell? ⟨gb133, 0, none⟩ = some (.int .i64 t104) ∧ w'.cell? ⟨gb133, 1, none⟩ = some (.slice Ao156 t127.length co156)) (ds := []) (ba 5 0) (by kernel_rfl) rfl (by kernel_rfl) ⟨(blk_cell BK118.out 0).trans rfl, (blk_cell BK118.out 1).trans rfl, (blk_cell BK133.out 0).trans rfl, (blk_cell BK133.out 1).trans rfl⟩ (fun hHeld => ?_)
 generalize w171.drew = w172 at HO_6 HO_101001 HO139 HO141 BK114 BK118 BK133 BK135 BK137 BK142 HI115 HB hHeld ⊢
 refine pw 1 (some 77) (ba 5 2) ?_
 refine tw 0 (some 76) (ba 5 3) hHeld ?_
 refine tw 2 (some 78) (ba 5 7) hHeld ?_
 refine one_ (i := 3) (N := none) (ba 5 15) rfl rfl (by kernel_rfl) (by decide) (fun K hK => ?_)
 have hs173 : w172.cell? ⟨gb114, 0, none⟩ = some (.int .i64 0) := (blk_cell BK114.out 0).trans rfl
 have hfs173 := blk_frozen BK114.out 0
 have hns173_1 := NB118_114.out
 have hns173_2 := NB133_114.out
 have hns173_3 := NB135_114.out
 have hns173_4 := NB137_114.out
 have hns173_5 := NB142_114.out
 have hms173_1 := NB114_118.out
 have hms173_2 := NB114_133.out
 have hms173_3 := NB114_135.out
 have hms173_4 := NB114_137.out
 have hms173_5 := NB114_142.out
 have hs174 : w172.cell? ⟨gb114, 1, none⟩ = some (.slice none 0 0) := (blk_cell BK114.out 1).trans rfl
 have hfs174 := blk_frozen BK114.out 1
 have hns174_1 := NB118_114.out
 have hns174_2 := NB133_114.out
 have hns174_3 := NB135_114.out
 have hns174_4 := NB137_114.out
 have hns174_5 := NB142_114.out
 have hms174_1 := NB114_118.out
 have hms174_2 := NB114_133.out
 have hms174_3 := NB114_135.out
 have hms174_4 := NB114_137.out
 have hms174_5 := NB114_142.out
 refine skip_ (w1 := ?_) (by rfl) rfl ?_ ?_
 rotate_left
 · go_simp
   rfl
 refine hK.out _ _ ⟨((cell_far (p := ⟨gb114, _, none⟩) NB118_114.out _).trans (((cell_far (p := ⟨gb114, _, none⟩) NB118_114.out _).trans (hHeld.1)))), ((cell_far (p := ⟨gb114, _, none⟩) NB118_114.out _).trans (((cell_far (p := ⟨gb114, _, none⟩) NB118_114.out _).trans (hHeld.2.1)))), ((cell_far (p := ⟨gb114, _, none⟩) NB133_114.out _).trans (((cell_far (p := ⟨gb114, _, none⟩) NB133_114.out _).trans (hHeld.2.2.1)))), ((cell_far (p := ⟨gb114, _, none⟩) NB133_114.out _).trans (((cell_far (p := ⟨gb114, _, none⟩) NB133_114.out _).trans (hHeld.2.2.2))))⟩ (fun hHeld => ?_)
 clear hK K
 refine pw 4 (some 3) (ba 5 31) ?_
 refine done_ (by kernel_rfl) ?_
 try go_wp2
 refine bodyPost_ret (results_ct rfl _ _ gb114 25 #[.int .i64 t100, .slice (some ad136) t112.length co13] (0, 0) _ rfl (by (with_reducible repeat (first | refine blk_drewN ?_ _ | refine blk_drew ?_ | refine blk_alloc ?_ _)); refine blk_put (cs := #[.int .i64 t100, .slice none 0 0]) ?_ 1 _ rfl; (with_reducible repeat (first | refine blk_drewN ?_ _ | refine blk_drew ?_ | refine blk_alloc ?_ _)); refine blk_put (cs := #[.int .i64 0, .slice none 0 0]) ?_ 0 _ rfl; (with_reducible repeat (first | refine blk_drewN ?_ _ | refine blk_drew ?_ | refine blk_alloc ?_ _)); exact BK114.out) Try.underlying25 rfl (by kernel_rfl)) rfl ?_
 exact ⟨_, _, qe, by (with_reducible repeat (first | apply Kd.R_alloc | apply Kd.R_drewN | apply Kd.R_drew)); exact rf2 HO_101001.out BK114.out (fun _ hk => hk.1.2.1), Kd.Q_of_R (by (with_reducible repeat (first | apply Kd.R_alloc | apply Kd.R_drewN | apply Kd.R_drew)); exact rf2 HO139.out BK114.out (fun _ hk => hk.1.2.1)), qj HB.out HI115.out⟩

set_option maxHeartbeats 8000000 in
set_option maxRecDepth 100000 in
theorem impl_Net_own.calls (k : Nat) (a0_0 : Int) (A0_1 : Option Addr) (c0_1 : Nat) (l0_1 : List (STie)) (A1 : Option Addr) (c1 : Nat) (l1 : List (STie)) (r : Bool) (w : World) (hr0_1 : Kd.C kTie w A0_1 l0_1.length l0_1) (hc0_1 : l0_1.length ≤ c0_1) (hr1 : Kd.C kTie w A1 l1.length l1) (hc1 : l1.length ≤ c1) (h : impl_Net_own.f k a0_0 l0_1 l1 = some r) :
    Calls Try.prog 60 #[.agg #[.int .i64 a0_0, .slice A0_1 l0_1.length c0_1], .slice A1 l1.length c1] w fun e w' => e = .returned (.bool r) ∧ Below w.heap.size w w' := by
 have hu25 := Try.underlying25
 have hu32 := Try.underlying32
 have HR0_1 := Aside0.mk hr0_1
 have HC0_1 := Aside0.mk hc0_1
 clear hr0_1 hc0_1
 have HR1 := Aside0.mk hr1
 have HC1 := Aside0.mk hc1
 clear hr1 hc1
 have HB := q0 (Below.refl w.heap.size w)
 have H : (impl_Net_own.l0 k l1 l1 (l1.length : Int) 0 a0_0 l0_1) = some r := h
 clear h
 have H' := Aside0.mk H
 clear H
 go_enter Try.func60, Try.ntmps60
 go_wp2_with (first | ((with_reducible refine gate_dst (N := 2) rfl ?_); refine be 2 #[.int .i64 a0_0, .slice A0_1 l0_1.length c0_1] 25 ?_; intro gb103 hg w3 hbox hb; have BK103 := q0 (hbox); have GW103 := q0 ((bs HB.out hg : w.heap.size ≤ gb103)); have GE103 := q0 ((bs HB.out hg : w.heap.size ≤ gb103)); replace HB := q0 (below_step (qb HB.out) hb); clear hb hbox hg))
 go_loopg [9] k (fun kq v9 w' => ∃ (x9_1 : Int), v9 = .int .i64 x9_1 ∧ Aside0 (impl_Net_own.l0 kq l1 l1 (l1.length : Int) x9_1 a0_0 l0_1 = some r) ∧ Aside0 (kq ≤ k) ∧ Aside0 (w'.heap[gb103]? = some (.cells #[.int .i64 a0_0, (.slice A0_1 l0_1.length c0_1)] 25 (0, 0))) ∧ Aside0 (Below w.heap.size w w'))
 case atStart => exact ⟨(0), qs, H', ⟨Nat.le_refl _⟩, ⟨qk BK103.out⟩, ⟨qb HB.out⟩⟩
 clear H'
 try clear c1
 try clear p2
 obtain ⟨x9_1, rfl, HA, HK1, BK103, HB⟩ := hrel
 rcases gk with _ | k1
 · exact absurd HA.out (by simp [impl_Net_own.l0])
 have H := HA.out
 clear HA
 simp only [impl_Net_own.l0] at H
 by_cases c4 : x9_1 < (l1.length : Int)
 rotate_left
 · rw [if_neg c4] at H
   have c4b0 : decide (x9_1 < (l1.length : Int)) = false := decide_eq_false c4
   clear c4
   replace H := Option.bind_eq_some_iff.mp H
   obtain ⟨t102, A105, H⟩ := H
   have A19 := Aside0.mk A105
   clear A105
   obtain rfl := Option.some.inj H
   go_wp2_with (first | ((with_reducible refine gate_callee (f := 78) rfl ?_); refine gl 20 Try.func78 #[.slice A1 l1.length c1] ?_; (with_reducible refine (impl_ascending.calls k1 _ _ l1 t102 _ ?side1 ?side2 A19.out).mono ?_); (case side1 => exact qc (Kd.C_below HR1.out HB.out)); (case side2 => exact HC1.out); rintro e w20 ⟨rfl, hb⟩; refine ⟨_, rfl, ?_⟩; replace BK103 := q0 (kb BK103.out hb); replace HB := q0 (below_step (qb HB.out) hb); (try clear hb); (try clear hb2); (try clear hk); (try clear hi)))
   go_ret
   exact ⟨qe, qb HB.out⟩
 rw [if_pos c4] at H
 have c4b0 : decide (x9_1 < (l1.length : Int)) = true := decide_eq_true c4
 clear c4
 by_cases c5 : 0 ≤ x9_1
 rotate_left
 · rw [if_neg c5] at H
   exact absurd H (by simp)
 rw [if_pos c5] at H
 have c5b0 : decide (0 ≤ x9_1) = true := decide_eq_true c5
 clear c5
 by_cases c6 : x9_1 < (l1.length : Int)
 rotate_left
 · rw [if_neg c6] at H
   exact absurd H (by simp)
 rw [if_pos c6] at H
 have c6b0 : decide (x9_1 < (l1.length : Int)) = true := decide_eq_true c6
 clear c6
 replace H := Option.bind_eq_some_iff.mp H
 obtain ⟨t101, A70, H⟩ := H
 have A7 := Aside0.mk A70
 clear A70
 by_cases c8 : t101 = true
 rotate_left
 · replace c8 := Bool.eq_false_iff.mpr c8
   subst c8
   rw [if_neg nf] at H
   obtain rfl := Option.some.inj H
   have p100 : 0 ≤ (x9_1 : Int) := of_decide_eq_true qa
   have q100 : x9_1 < (l1.length : Int) := of_decide_eq_true qa
   obtain ⟨ad100, e100, hx100_0, hx100_1⟩ := at_TTie HR1.out x9_1 p100 q100
   cases e100
   replace hx100_0 := (HB.out.cell (World.block_lt_of_cell? w _ hx100_0)).trans hx100_0
   replace hx100_1 := (HB.out.cell (World.block_lt_of_cell? w _ hx100_1)).trans hx100_1
   replace p100 := eq_true p100
   replace q100 := eq_true q100
   go_wp2_with (first | ((with_reducible refine gate_dst (N := 6) rfl ?_); refine be 6 #[.int .i64 0, .int .i64 0] 32 ?_; intro gb104 hg w14 hbox hb; have BK104 := q0 (hbox); have GW104 := q0 ((bs HB.out hg : w.heap.size ≤ gb104)); have GE104 := q0 ((bs HB.out hg : w.heap.size ≤ gb104)); replace HB := q0 (below_step (qb HB.out) hb); have NB103_104 := q0 ((bl BK103.out hg : gb103 ≠ gb104)); have NB104_103 := q0 ((bg BK103.out hg : gb104 ≠ gb103)); replace BK103 := q0 (kb BK103.out hb); clear hb hbox hg; have hnb15 := NB104_103.out; have hnc15 := NB103_104.out; have hcz16_0 : w14.cell? ⟨gb104, 0, none⟩ = some (.int .i64 0) := (blk_cell BK104.out 0).trans rfl; have hcz16_1 : w14.cell? ⟨gb104, 1, none⟩ = some (.int .i64 0) := (blk_cell BK104.out 1).trans rfl; have hfz16_0 := blk_frozen BK104.out 0; have hfz16_1 := blk_frozen BK104.out 1; have hcz17_0 : w14.cell? ⟨gb103, 0, none⟩ = some (.int .i64 a0_0) := (blk_cell BK103.out 0).trans rfl; have hcz17_1 : w14.cell? ⟨gb103, 1, none⟩ = some (.slice A0_1 l0_1.length c0_1) := (blk_cell BK103.out 1).trans rfl; have hfz17_0 := blk_frozen BK103.out 0; have hfz17_1 := blk_frozen BK103.out 1) | ((with_reducible refine gate_callee (f := 82) rfl ?_); refine gl 16 Try.func82 #[.slice A0_1 l0_1.length c0_1, .agg #[.int .i64 ((rd_TTie l1 x9_1).f0), .int .i64 ((rd_TTie l1 x9_1).f1)]] ?_; (with_reducible refine (slices_Contains_Tie.calls k1 _ _ l0_1 ((rd_TTie l1 x9_1).f0) ((rd_TTie l1 x9_1).f1) false _ ?side1 ?side2 A7.out).mono ?_); (case side1 => exact Kd.C_below HR0_1.out (qb HB.out)); (case side2 => exact HC0_1.out); rintro e w18 ⟨rfl, hb⟩; refine ⟨_, rfl, ?_⟩; replace BK103 := q0 (kf BK103.out hb); replace BK104 := q0 (blk_below (g := gb104) (o := .cells #[.int .i64 ((rd_TTie l1 x9_1).f0), .int .i64 ((rd_TTie l1 x9_1).f1)] 32 (0, 0)) (by (with_reducible repeat (first | refine blk_drewN ?_ _ | refine blk_drew ?_ | refine blk_alloc ?_ _)); refine blk_put (cs := #[.int .i64 ((rd_TTie l1 x9_1).f0), .int .i64 0]) ?_ 1 _ rfl; (with_reducible repeat (first | refine blk_drewN ?_ _ | refine blk_drew ?_ | refine blk_alloc ?_ _)); refine blk_put (cs := #[.int .i64 0, .int .i64 0]) ?_ 0 _ rfl; (with_reducible repeat (first | refine blk_drewN ?_ _ | refine blk_drew ?_ | refine blk_alloc ?_ _)); exact BK104.out) hb); replace HB := q0 (below_step (qb HB.out) hb); (try clear hb); (try clear hb2); (try clear hk); (try clear hi)))
   go_ret
   exact ⟨qe, qb HB.out⟩
 subst c8
 rw [if_pos rfl] at H
 have H' := Aside0.mk H
 clear H
 have p100 : 0 ≤ (x9_1 : Int) := of_decide_eq_true qa
 have q100 : x9_1 < (l1.length : Int) := of_decide_eq_true qa
 obtain ⟨ad100, e100, hx100_0, hx100_1⟩ := at_TTie HR1.out x9_1 p100 q100
 cases e100
 replace hx100_0 := (HB.out.cell (World.block_lt_of_cell? w _ hx100_0)).trans hx100_0
 replace hx100_1 := (HB.out.cell (World.block_lt_of_cell? w _ hx100_1)).trans hx100_1
 replace p100 := eq_true p100
 replace q100 := eq_true q100
 go_wp2_with (first | ((with_reducible refine gate_dst (N := 6) rfl ?_); refine be 6 #[.int .i64 0, .int .i64 0] 32 ?_; intro gb104 hg w9 hbox hb; have BK104 := q0 (hbox); have GW104 := q0 ((bs HB.out hg : w.heap.size ≤ gb104)); have GE104 := q0 ((bs HB.out hg : w.heap.size ≤ gb104)); replace HB := q0 (below_step (qb HB.out) hb); have NB103_104 := q0 ((bl BK103.out hg : gb103 ≠ gb104)); have NB104_103 := q0 ((bg BK103.out hg : gb104 ≠ gb103)); replace BK103 := q0 (kb BK103.out hb); clear hb hbox hg; have hnb10 := NB104_103.out; have hnc10 := NB103_104.out; have hcz11_0 : w9.cell? ⟨gb104, 0, none⟩ = some (.int .i64 0) := (blk_cell BK104.out 0).trans rfl; have hcz11_1 : w9.cell? ⟨gb104, 1, none⟩ = some (.int .i64 0) := (blk_cell BK104.out 1).trans rfl; have hfz11_0 := blk_frozen BK104.out 0; have hfz11_1 := blk_frozen BK104.out 1; have hcz12_0 : w9.cell? ⟨gb103, 0, none⟩ = some (.int .i64 a0_0) := (blk_cell BK103.out 0).trans rfl; have hcz12_1 : w9.cell? ⟨gb103, 1, none⟩ = some (.slice A0_1 l0_1.length c0_1) := (blk_cell BK103.out 1).trans rfl; have hfz12_0 := blk_frozen BK103.out 0; have hfz12_1 := blk_frozen BK103.out 1) | ((with_reducible refine gate_callee (f := 82) rfl ?_); refine gl 16 Try.func82 #[.slice A0_1 l0_1.length c0_1, .agg #[.int .i64 ((rd_TTie l1 x9_1).f0), .int .i64 ((rd_TTie l1 x9_1).f1)]] ?_; (with_reducible refine (slices_Contains_Tie.calls k1 _ _ l0_1 ((rd_TTie l1 x9_1).f0) ((rd_TTie l1 x9_1).f1) true _ ?side1 ?side2 A7.out).mono ?_); (case side1 => exact Kd.C_below HR0_1.out (qb HB.out)); (case side2 => exact HC0_1.out); rintro e w13 ⟨rfl, hb⟩; refine ⟨_, rfl, ?_⟩; replace BK103 := q0 (kf BK103.out hb); replace BK104 := q0 (blk_below (g := gb104) (o := .cells #[.int .i64 ((rd_TTie l1 x9_1).f0), .int .i64 ((rd_TTie l1 x9_1).f1)] 32 (0, 0)) (by (with_reducible repeat (first | refine blk_drewN ?_ _ | refine blk_drew ?_ | refine blk_alloc ?_ _)); refine blk_put (cs := #[.int .i64 ((rd_TTie l1 x9_1).f0), .int .i64 0]) ?_ 1 _ rfl; (with_reducible repeat (first | refine blk_drewN ?_ _ | refine blk_drew ?_ | refine blk_alloc ?_ _)); refine blk_put (cs := #[.int .i64 0, .int .i64 0]) ?_ 0 _ rfl; (with_reducible repeat (first | refine blk_drewN ?_ _ | refine blk_drew ?_ | refine blk_alloc ?_ _)); exact BK104.out) hb); replace HB := q0 (below_step (qb HB.out) hb); (try clear hb); (try clear hb2); (try clear hk); (try clear hi)))
 go_roundg k1
 case measure => have := HK1.out; omega
 case rel => exact ⟨(wrap64 (x9_1 + 1)), qs, H', ⟨by have := HK1.out; omega⟩, ⟨qk BK103.out⟩, ⟨qb HB.out⟩⟩

set_option maxHeartbeats 8000000 in
set_option maxRecDepth 100000 in
theorem impl_TreeOk.calls (k : Nat) (a0_0 : Int) (A0_1 : Option Addr) (c0_1 : Nat) (l0_1 : List (STie)) (A1 : Option Addr) (c1 : Nat) (l1 : List (STie)) (r : Bool) (w : World) (hr0_1 : Kd.C kTie w A0_1 l0_1.length l0_1) (hc0_1 : l0_1.length ≤ c0_1) (hr1 : Kd.C kTie w A1 l1.length l1) (hc1 : l1.length ≤ c1) (h : impl_TreeOk.f k a0_0 l0_1 l1 = some r) :
    Calls Try.prog 21 #[.agg #[.int .i64 a0_0, .slice A0_1 l0_1.length c0_1], .slice A1 l1.length c1] w fun e w' => e = .returned (.bool r) ∧ Below w.heap.size w w' := by
 have hu25 := Try.underlying25
 have HR0_1 := Aside0.mk hr0_1
 have HC0_1 := Aside0.mk hc0_1
 clear hr0_1 hc0_1
 have HR1 := Aside0.mk hr1
 have HC1 := Aside0.mk hc1
 clear hr1 hc1
 have HB := q0 (Below.refl w.heap.size w)
 have H : ((impl_NetOk.f k a0_0 l0_1).bind fun t100 => (if t100 = true then ((impl_Net_own.f k a0_0 l0_1 l1).bind fun t103 => (impl_TreeOk.j0 k l1 (!t103) a0_0 l0_1)) else (impl_TreeOk.j0 k l1 true a0_0 l0_1))) = some r := h
 clear h
 have HC3 := Aside0.mk H
 clear H
 go_enter Try.func21, Try.ntmps21
 go_upto_region 1 with (first | ((with_reducible refine gate_dst (N := 2) rfl ?_); (try (refine gate_guard (by rfl) ?_; dsimp only)); refine be 2 #[.int .i64 a0_0, .slice A0_1 l0_1.length c0_1] 25 ?_; intro gb104 hg w4 hbox hb; have BK104 := q0 (hbox); have GW104 := q0 ((bs HB.out hg : w.heap.size ≤ gb104)); have GE104 := q0 ((bs HB.out hg : w.heap.size ≤ gb104)); replace HB := q0 (below_step (qb HB.out) hb); clear hb hbox hg))
 (try simp only [Act.put, List.setIfInBounds_toArray, List.set_cons_zero, List.set_cons_succ])
 go_cut [14] (fun v14 wc => ∃ (kq : Nat) (x14_2 : Bool), v14 = .bool x14_2 ∧ Aside0 (impl_TreeOk.j0 kq l1 x14_2 a0_0 l0_1 = some r) ∧ Aside0 (kq ≤ k) ∧ Aside0 (wc.heap[gb104]? = some (.cells #[.int .i64 a0_0, (.slice A0_1 l0_1.length c0_1)] 25 (0, 0))) ∧ Aside0 (Below w.heap.size w wc))
 case first =>
   have H := HC3.out
   clear HC3
   replace H := Option.bind_eq_some_iff.mp H
   obtain ⟨t100, A50, H⟩ := H
   have A5 := Aside0.mk A50
   clear A50
   by_cases c6 : t100 = true
   rotate_left
   · replace c6 := Bool.eq_false_iff.mpr c6
     subst c6
     rw [if_neg nf] at H
     have H' := Aside0.mk H
     clear H
     have hcz12_0 : w4.cell? ⟨gb104, 0, none⟩ = some (.int .i64 a0_0) := (blk_cell BK104.out 0).trans rfl
     have hcz12_1 : w4.cell? ⟨gb104, 1, none⟩ = some (.slice A0_1 l0_1.length c0_1) := (blk_cell BK104.out 1).trans rfl
     have hfz12_0 := blk_frozen BK104.out 0
     have hfz12_1 := blk_frozen BK104.out 1
     go_wp2_with (first | ((with_reducible refine gate_callee (f := 37) rfl ?_); refine gl 7 Try.func37 #[.agg #[.int .i64 a0_0, .slice A0_1 l0_1.length c0_1]] ?_; (with_reducible refine (impl_NetOk.calls k a0_0 _ _ l0_1 false _ ?side1 ?side2 A5.out).mono ?_); (case side1 => exact qc (Kd.C_below HR0_1.out HB.out)); (case side2 => exact HC0_1.out); rintro e w13 ⟨rfl, hb⟩; refine ⟨_, rfl, ?_⟩; replace BK104 := q0 (kb BK104.out hb); replace HB := q0 (below_step (qb HB.out) hb); (try clear hb); (try clear hb2); (try clear hk); (try clear hi)))
     go_meet
     case rel => exact ⟨_, (true), qs, H', ⟨by first | omega | exact Nat.le_refl _⟩, ⟨qk BK104.out⟩, ⟨qb HB.out⟩⟩
   subst c6
   rw [if_pos rfl] at H
   replace H := Option.bind_eq_some_iff.mp H
   obtain ⟨t103, A70, H⟩ := H
   have A7 := Aside0.mk A70
   clear A70
   have H' := Aside0.mk H
   clear H
   have hcz8_0 : w4.cell? ⟨gb104, 0, none⟩ = some (.int .i64 a0_0) := (blk_cell BK104.out 0).trans rfl
   have hcz8_1 : w4.cell? ⟨gb104, 1, none⟩ = some (.slice A0_1 l0_1.length c0_1) := (blk_cell BK104.out 1).trans rfl
   have hfz8_0 := blk_frozen BK104.out 0
   have hfz8_1 := blk_frozen BK104.out 1
   go_wp2_with (first | ((with_reducible refine gate_callee (f := 37) rfl ?_); refine gl 7 Try.func37 #[.agg #[.int .i64 a0_0, .slice A0_1 l0_1.length c0_1]] ?_; (with_reducible refine (impl_NetOk.calls k a0_0 _ _ l0_1 true _ ?side1 ?side2 A5.out).mono ?_); (case side1 => exact qc (Kd.C_below HR0_1.out HB.out)); (case side2 => exact HC0_1.out); rintro e w9 ⟨rfl, hb⟩; refine ⟨_, rfl, ?_⟩; replace BK104 := q0 (kb BK104.out hb); replace HB := q0 (below_step (qb HB.out) hb); (try clear hb); (try clear hb2); (try clear hk); (try clear hi); have hcz10_0 : w9.cell? ⟨gb104, 0, none⟩ = some (.int .i64 a0_0) := (blk_cell BK104.out 0).trans rfl; have hcz10_1 : w9.cell? ⟨gb104, 1, none⟩ = some (.slice A0_1 l0_1.length c0_1) := (blk_cell BK104.out 1).trans rfl; have hfz10_0 := blk_frozen BK104.out 0; have hfz10_1 := blk_frozen BK104.out 1) | (go_at_call 60; (with_reducible refine (impl_Net_own.calls k a0_0 _ _ l0_1 _ _ l1 t103 _ ?side1 ?side2 ?side3 ?side4 A7.out).mono ?_); (case side1 => exact qc (Kd.C_below HR0_1.out HB.out)); (case side2 => exact HC0_1.out); (case side3 => exact qc (Kd.C_below HR1.out HB.out)); (case side4 => exact HC1.out); rintro e w11 ⟨rfl, hb⟩; replace BK104 := q0 (kb BK104.out hb); replace HB := q0 (below_step (qb HB.out) hb); (try clear hb); (try clear hb2); (try clear hk); (try clear hi)))
   go_meet
   case rel => exact ⟨_, (!t103), qs, H', ⟨by first | omega | exact Nat.le_refl _⟩, ⟨qk BK104.out⟩, ⟨qb HB.out⟩⟩
 clear HC3
 try clear c1
 try clear c2
 try clear p2
 try clear c3
 try clear c6
 try clear hcz10_0
 try clear hcz10_1
 try clear hcz12_0
 try clear hcz12_1
 try clear hcz8_0
 try clear hcz8_1
 try clear hfz10_0
 try clear hfz10_1
 try clear hfz12_0
 try clear hfz12_1
 try clear hfz8_0
 try clear hfz8_1
 obtain ⟨kq, x14_2, rfl, HA, HJ2, BK104, HB⟩ := hcut
 rcases kq with _ | kj2
 · exact absurd HA.out (by simp [impl_TreeOk.j0])
 have H := HA.out
 clear HA
 simp only [impl_TreeOk.j0] at H
 by_cases c14 : x14_2 = true
 · subst c14
   rw [if_pos rfl] at H
   obtain rfl := Option.some.inj H
   go_wp2
   go_ret
   exact ⟨qe, qb HB.out⟩
 replace c14 := Bool.eq_false_iff.mpr c14
 subst c14
 rw [if_neg nf] at H
 replace H := Option.bind_eq_some_iff.mp H
 obtain ⟨t101, A105, H⟩ := H
 have A15 := Aside0.mk A105
 clear A105
 replace H := Option.bind_eq_some_iff.mp H
 obtain ⟨t102, A106, H⟩ := H
 have A16 := Aside0.mk A106
 clear A106
 by_cases c17 : t102 = t101
 rotate_left
 · rw [if_neg c17] at H
   have c17b0 : (t102 == t101) = false := beq_eq_false_iff_ne.mpr c17
   have c17b1 : (t102 != t101) = true := bne_iff_ne.mpr c17
   obtain rfl := Option.some.inj H
   have hcz23_0 : wc.cell? ⟨gb104, 0, none⟩ = some (.int .i64 a0_0) := (blk_cell BK104.out 0).trans rfl
   have hcz23_1 : wc.cell? ⟨gb104, 1, none⟩ = some (.slice A0_1 l0_1.length c0_1) := (blk_cell BK104.out 1).trans rfl
   have hfz23_0 := blk_frozen BK104.out 0
   have hfz23_1 := blk_frozen BK104.out 1
   go_wp2_with (first | ((with_reducible refine gate_callee (f := 61) rfl ?_); refine gl 16 Try.func61 #[.agg #[.int .i64 a0_0, .slice A0_1 l0_1.length c0_1]] ?_; (with_reducible refine (impl_Net_count.calls kj2 a0_0 _ _ l0_1 t101 _ ?side1 ?side2 A15.out).mono ?_); (case side1 => exact qc (Kd.C_below HR0_1.out HB.out)); (case side2 => exact HC0_1.out); rintro e w24 ⟨rfl, hb⟩; refine ⟨_, rfl, ?_⟩; replace BK104 := q0 (kb BK104.out hb); replace HB := q0 (below_step (qb HB.out) hb); (try clear hb); (try clear hb2); (try clear hk); (try clear hi); have hcz25_0 : w24.cell? ⟨gb104, 0, none⟩ = some (.int .i64 a0_0) := (blk_cell BK104.out 0).trans rfl; have hcz25_1 : w24.cell? ⟨gb104, 1, none⟩ = some (.slice A0_1 l0_1.length c0_1) := (blk_cell BK104.out 1).trans rfl; have hfz25_0 := blk_frozen BK104.out 0; have hfz25_1 := blk_frozen BK104.out 1) | ((with_reducible refine gate_callee (f := 61) rfl ?_); refine gl 21 Try.func61 #[.agg #[.int .i64 a0_0, .slice A1 l1.length c1]] ?_; (with_reducible refine (impl_Net_count.calls kj2 a0_0 _ _ l1 t102 _ ?side1 ?side2 A16.out).mono ?_); (case side1 => exact qc (Kd.C_below HR1.out HB.out)); (case side2 => exact HC1.out); rintro e w26 ⟨rfl, hb⟩; refine ⟨_, rfl, ?_⟩; replace BK104 := q0 (kb BK104.out hb); replace HB := q0 (below_step (qb HB.out) hb); (try clear hb); (try clear hb2); (try clear hk); (try clear hi)))
   go_ret
   exact ⟨qe, qb HB.out⟩
 rw [if_pos c17] at H
 have c17b0 : (t102 == t101) = true := beq_iff_eq.mpr c17
 have c17b1 : (t102 != t101) = false := bne_eq_false_iff_eq.mpr c17
 clear c17
 obtain rfl := Option.some.inj H
 have hcz18_0 : wc.cell? ⟨gb104, 0, none⟩ = some (.int .i64 a0_0) := (blk_cell BK104.out 0).trans rfl
 have hcz18_1 : wc.cell? ⟨gb104, 1, none⟩ = some (.slice A0_1 l0_1.length c0_1) := (blk_cell BK104.out 1).trans rfl
 have hfz18_0 := blk_frozen BK104.out 0
 have hfz18_1 := blk_frozen BK104.out 1
 go_wp2_with (first | ((with_reducible refine gate_callee (f := 61) rfl ?_); refine gl 16 Try.func61 #[.agg #[.int .i64 a0_0, .slice A0_1 l0_1.length c0_1]] ?_; (with_reducible refine (impl_Net_count.calls kj2 a0_0 _ _ l0_1 t101 _ ?side1 ?side2 A15.out).mono ?_); (case side1 => exact qc (Kd.C_below HR0_1.out HB.out)); (case side2 => exact HC0_1.out); rintro e w19 ⟨rfl, hb⟩; refine ⟨_, rfl, ?_⟩; replace BK104 := q0 (kb BK104.out hb); replace HB := q0 (below_step (qb HB.out) hb); (try clear hb); (try clear hb2); (try clear hk); (try clear hi); have hcz20_0 : w19.cell? ⟨gb104, 0, none⟩ = some (.int .i64 a0_0) := (blk_cell BK104.out 0).trans rfl; have hcz20_1 : w19.cell? ⟨gb104, 1, none⟩ = some (.slice A0_1 l0_1.length c0_1) := (blk_cell BK104.out 1).trans rfl; have hfz20_0 := blk_frozen BK104.out 0; have hfz20_1 := blk_frozen BK104.out 1) | ((with_reducible refine gate_callee (f := 61) rfl ?_); refine gl 21 Try.func61 #[.agg #[.int .i64 a0_0, .slice A1 l1.length c1]] ?_; (with_reducible refine (impl_Net_count.calls kj2 a0_0 _ _ l1 t102 _ ?side1 ?side2 A16.out).mono ?_); (case side1 => exact qc (Kd.C_below HR1.out HB.out)); (case side2 => exact HC1.out); rintro e w21 ⟨rfl, hb⟩; refine ⟨_, rfl, ?_⟩; replace BK104 := q0 (kb BK104.out hb); replace HB := q0 (below_step (qb HB.out) hb); (try clear hb); (try clear hb2); (try clear hk); (try clear hi); have hcz22_0 : w21.cell? ⟨gb104, 0, none⟩ = some (.int .i64 a0_0) := (blk_cell BK104.out 0).trans rfl; have hcz22_1 : w21.cell? ⟨gb104, 1, none⟩ = some (.slice A0_1 l0_1.length c0_1) := (blk_cell BK104.out 1).trans rfl; have hfz22_0 := blk_frozen BK104.out 0; have hfz22_1 := blk_frozen BK104.out 1))
 go_ret
 exact ⟨qe, qb HB.out⟩

set_option maxHeartbeats 8000000 in
set_option maxRecDepth 100000 in
theorem impl_Net_tree.calls (k : Nat) (a0_0 : Int) (A0_1 : Option Addr) (c0_1 : Nat) (l0_1 : List (STie)) (r1 : Int) (r2 : List (STie)) (w : World) (hr0_1 : Kd.C kTie w A0_1 l0_1.length l0_1) (hc0_1 : l0_1.length ≤ c0_1) (h : impl_Net_tree.f k a0_0 l0_1 = some (r1, r2)) :
    Calls Try.prog 62 #[.agg #[.int .i64 a0_0, .slice A0_1 l0_1.length c0_1]] w fun e w' => ∃ v1_ : Value, e = .returned (.agg #[.int .i64 r1, v1_]) ∧ Kd.R kTie 32 w' w.heap.size (fun _ => True) v1_ r2 ∧ Below w.heap.size w w' := by
 have hu25 := Try.underlying25
 have hu32 := Try.underlying32
 have HR0_1 := Aside0.mk hr0_1
 have HC0_1 := Aside0.mk hc0_1
 clear hr0_1 hc0_1
 have HB := q0 (Below.refl w.heap.size w)
 have H : (impl_Net_tree.l0 k l0_1 (l0_1.length : Int) 0 a0_0 (([] : List (STie)))) = some (r1, r2) := h
 clear h
 obtain ⟨y102, hy102⟩ : ∃ y_ : List (STie), y_ = (([] : List (STie))) := ⟨_, rfl⟩
 replace H : (impl_Net_tree.l0 k l0_1 (l0_1.length : Int) 0 a0_0 y102) = some (r1, r2) := qy H hy102
 have Ny102 := Aside0.mk hy102
 clear hy102
 have H' := Aside0.mk H
 clear H
 go_enter Try.func62, Try.ntmps62
 go_wp2_with (first | ((with_reducible refine gate_dst (N := 1) rfl ?_); refine be 1 #[.int .i64 a0_0, .slice A0_1 l0_1.length c0_1] 25 ?_; intro gb103 hg w2 hbox hb; have BK103 := q0 (hbox); have GW103 := q0 ((bs HB.out hg : w.heap.size ≤ gb103)); have GE103 := q0 ((bs HB.out hg : w.heap.size ≤ gb103)); replace HB := q0 (below_step (qb HB.out) hb); clear hb hbox hg) | ((with_reducible refine gate_dst (N := 2) rfl ?_); refine be 2 #[.int .i64 0, .slice none 0 0] 25 ?_; intro gb104 hg w3 hbox hb; have BK104 := q0 (hbox); have GW104 := q0 ((bs HB.out hg : w.heap.size ≤ gb104)); have GE104 := q0 ((bs HB.out hg : w.heap.size ≤ gb104)); replace HB := q0 (below_step (qb HB.out) hb); have NB103_104 := q0 ((bl BK103.out hg : gb103 ≠ gb104)); have NB104_103 := q0 ((bg BK103.out hg : gb104 ≠ gb103)); replace BK103 := q0 (kb BK103.out hb); clear hb hbox hg; have hnb4 := NB103_104.out; have hnc4 := NB104_103.out; have hcz5_0 : w3.cell? ⟨gb103, 0, none⟩ = some (.int .i64 a0_0) := (blk_cell BK103.out 0).trans rfl; have hcz5_1 : w3.cell? ⟨gb103, 1, none⟩ = some (.slice A0_1 l0_1.length c0_1) := (blk_cell BK103.out 1).trans rfl; have hfz5_0 := blk_frozen BK103.out 0; have hfz5_1 := blk_frozen BK103.out 1) | ((with_reducible refine gate_dst (N := 8) rfl ?_); refine Kd.R_lit kTie _ 32 ?hg (N := 8) ?hd (xs := ([] : List (STie))) (inner := []) (ok := fun _ => True) (okp := fun _ => True) ?hr ?hp (fun _ hk => hk) trivial (Below.refl _ _) (Nat.le_refl _) (by simp) ?_; (case hd => rfl); (case hg => rfl); (case hr => first | (go_simp; done) | (go_simp; rfl)); (case hp => exact (Reps.none _ _)); intro v105 w6 ho7 hb hg_ hnew_; clear hg_ hnew_; (first | rw [← Ny102.out] at ho7 | (simp only [Int.reduceToNat] at ho7; rw [← Ny102.out] at ho7)); have HO106 := q0 (Kd.R_lower ho7 (below_size (qb HB.out))); replace BK103 := q0 (kb BK103.out hb); replace BK104 := q0 (kb BK104.out hb); replace HB := q0 (below_step (qb HB.out) hb); clear hb ho7; obtain ⟨Ao8, co8, eo8⟩ := Kd.R_slice HO106.out; subst eo8) | ((with_reducible refine gate_dst (N := 3) rfl ?_); refine be 3 #[.int .i64 0, .slice none 0 0] 25 ?_; intro gb107 hg w9 hbox hb; replace HO106 := q0 (Kd.R_below (qr HO106.out) hb); have BK107 := q0 (hbox); have GW107 := q0 ((bs HB.out hg : w.heap.size ≤ gb107)); have GE107 := q0 ((bs HB.out hg : w.heap.size ≤ gb107)); replace HB := q0 (below_step (qb HB.out) hb); have NB103_107 := q0 ((bl BK103.out hg : gb103 ≠ gb107)); have NB107_103 := q0 ((bg BK103.out hg : gb107 ≠ gb103)); replace BK103 := q0 (kb BK103.out hb); have NB104_107 := q0 ((bl BK104.out hg : gb104 ≠ gb107)); have NB107_104 := q0 ((bg BK104.out hg : gb107 ≠ gb104)); replace BK104 := q0 (kb BK104.out hb); clear hb hbox hg; have hnb10 := NB107_103.out; have hnc10 := NB103_107.out; have hnb11 := NB107_104.out; have hnc11 := NB104_107.out; have hcz12_0 : w9.cell? ⟨gb107, 0, none⟩ = some (.int .i64 0) := (blk_cell BK107.out 0).trans rfl; have hcz12_1 : w9.cell? ⟨gb107, 1, none⟩ = some (.slice none 0 0) := (blk_cell BK107.out 1).trans rfl; have hfz12_0 := blk_frozen BK107.out 0; have hfz12_1 := blk_frozen BK107.out 1; have hcz13_0 : w9.cell? ⟨gb103, 0, none⟩ = some (.int .i64 a0_0) := (blk_cell BK103.out 0).trans rfl; have hcz13_1 : w9.cell? ⟨gb103, 1, none⟩ = some (.slice A0_1 l0_1.length c0_1) := (blk_cell BK103.out 1).trans rfl; have hfz13_0 := blk_frozen BK103.out 0; have hfz13_1 := blk_frozen BK103.out 1))
 go_loopg [13] k (fun kq v13 w' => ∃ (x13_1 : Int) (x100001_1 : List (STie)) (u100001 : Value), v13 = .int .i64 x13_1 ∧ Aside0 (impl_Net_tree.l0 kq l0_1 (l0_1.length : Int) x13_1 a0_0 x100001_1 = some (r1, r2)) ∧ Aside0 (kq ≤ k) ∧ Aside0 (Kd.R kTie 32 w' w.heap.size (fun _ => True) u100001 x100001_1) ∧ Aside0 (w'.heap[gb103]? = some (.cells #[.int .i64 a0_0, (.slice A0_1 l0_1.length c0_1)] 25 (0, 0))) ∧ Aside0 (w'.heap[gb104]? = some (.cells #[.int .i64 0, (.slice none 0 0)] 25 (0, 0))) ∧ Aside0 (w'.heap[gb107]? = some (.cells #[.int .i64 a0_0, u100001] 25 (0, 0))) ∧ Aside0 (Below w.heap.size w w'))
 case atStart => exact ⟨(0), (y102), (.slice Ao8 y102.length co8), qs, H', ⟨Nat.le_refl _⟩, ⟨by (with_reducible repeat (first | apply Kd.R_alloc | apply Kd.R_drewN | apply Kd.R_drew)); exact rf2 HO106.out BK107.out (fun _ hk => trivial)⟩, ⟨qf BK103.out⟩, ⟨qf BK104.out⟩, ⟨by (with_reducible repeat (first | refine blk_drewN ?_ _ | refine blk_drew ?_ | refine blk_alloc ?_ _)); refine blk_put (cs := #[.int .i64 a0_0, .slice none 0 0]) ?_ 1 _ rfl; (with_reducible repeat (first | refine blk_drewN ?_ _ | refine blk_drew ?_ | refine blk_alloc ?_ _)); refine blk_put (cs := #[.int .i64 0, .slice none 0 0]) ?_ 0 _ rfl; (with_reducible repeat (first | refine blk_drewN ?_ _ | refine blk_drew ?_ | refine blk_alloc ?_ _)); exact BK107.out⟩, ⟨qb HB.out⟩⟩
 clear H'
 try clear c1
 try clear p2
 try clear c4
 try clear c6
 try clear c10
 try clear c11
 try clear hcz12_0
 try clear hcz12_1
 try clear hcz13_0
 try clear hcz13_1
 try clear hcz5_0
 try clear hcz5_1
 try clear hfz12_0
 try clear hfz12_1
 try clear hfz13_0
 try clear hfz13_1
 try clear hfz5_0
 try clear hfz5_1
 obtain ⟨x13_1, x100001_1, u100001, rfl, HA, HK1, HO_100001, BK103, BK104, BK107, HB⟩ := hrel
 rcases gk with _ | k1
 · exact absurd HA.out (by simp [impl_Net_tree.l0])
 have H := HA.out
 clear HA
 simp only [impl_Net_tree.l0] at H
 by_cases c14 : x13_1 < (l0_1.length : Int)
 rotate_left
 · rw [if_neg c14] at H
   have c14b0 : decide (x13_1 < (l0_1.length : Int)) = false := decide_eq_false c14
   clear c14
   simp only [Option.some.injEq, Prod.mk.injEq] at H
   obtain ⟨rfl, rfl⟩ := H
   have hnb45 := NB107_103.out
   have hnc45 := NB103_107.out
   have hnb46 := NB107_104.out
   have hnc46 := NB104_107.out
   have hcz47_0 : wr.cell? ⟨gb107, 0, none⟩ = some (.int .i64 a0_0) := (blk_cell BK107.out 0).trans rfl
   have hcz47_1 : wr.cell? ⟨gb107, 1, none⟩ = some (u100001) := (blk_cell BK107.out 1).trans rfl
   have hfz47_0 := blk_frozen BK107.out 0
   have hfz47_1 := blk_frozen BK107.out 1
   have hnb48 := NB104_103.out
   have hnc48 := NB103_104.out
   have hcz49_0 : wr.cell? ⟨gb104, 0, none⟩ = some (.int .i64 0) := (blk_cell BK104.out 0).trans rfl
   have hcz49_1 : wr.cell? ⟨gb104, 1, none⟩ = some (.slice none 0 0) := (blk_cell BK104.out 1).trans rfl
   have hfz49_0 := blk_frozen BK104.out 0
   have hfz49_1 := blk_frozen BK104.out 1
   obtain ⟨Ao50, co50, eo50⟩ := Kd.R_slice HO_100001.out
   subst eo50
   go_wp2
   refine bodyPost_ret (results_cell_row rfl _ _ gb104 25 #[.int .i64 a0_0, .slice Ao50 x100001_1.length co50] (0, 0) _ rfl (by (with_reducible repeat (first | refine blk_drewN ?_ _ | refine blk_drew ?_ | refine blk_alloc ?_ _)); refine blk_put (cs := #[.int .i64 a0_0, .slice none 0 0]) ?_ 1 _ rfl; (with_reducible repeat (first | refine blk_drewN ?_ _ | refine blk_drew ?_ | refine blk_alloc ?_ _)); refine blk_put (cs := #[.int .i64 0, .slice none 0 0]) ?_ 0 _ rfl; (with_reducible repeat (first | refine blk_drewN ?_ _ | refine blk_drew ?_ | refine blk_alloc ?_ _)); exact BK104.out) Try.underlying25 rfl (by kernel_rfl)) rfl ?_
   exact ⟨_, qe, by (with_reducible repeat (first | apply Kd.R_alloc | apply Kd.R_drewN | apply Kd.R_drew)); exact rf2 HO_100001.out BK104.out (fun _ hk => trivial), qb HB.out⟩
 rw [if_pos c14] at H
 have c14b0 : decide (x13_1 < (l0_1.length : Int)) = true := decide_eq_true c14
 clear c14
 by_cases c15 : 0 ≤ x13_1
 rotate_left
 · rw [if_neg c15] at H
   exact absurd H (by simp)
 rw [if_pos c15] at H
 have c15b0 : decide (0 ≤ x13_1) = true := decide_eq_true c15
 clear c15
 by_cases c16 : x13_1 < (l0_1.length : Int)
 rotate_left
 · rw [if_neg c16] at H
   exact absurd H (by simp)
 rw [if_pos c16] at H
 have c16b0 : decide (x13_1 < (l0_1.length : Int)) = true := decide_eq_true c16
 clear c16
 replace H := Option.bind_eq_some_iff.mp H
 obtain ⟨t101, A108, H⟩ := H
 have A17 := Aside0.mk A108
 clear A108
 by_cases c18 : t101 = true
 · subst c18
   rw [if_pos rfl] at H
   have H' := Aside0.mk H
   clear H
   have p100 : 0 ≤ (x13_1 : Int) := of_decide_eq_true qa
   have q100 : x13_1 < (l0_1.length : Int) := of_decide_eq_true qa
   obtain ⟨ad100, e100, hx100_0, hx100_1⟩ := at_TTie HR0_1.out x13_1 p100 q100
   cases e100
   replace hx100_0 := (HB.out.cell (World.block_lt_of_cell? w _ hx100_0)).trans hx100_0
   replace hx100_1 := (HB.out.cell (World.block_lt_of_cell? w _ hx100_1)).trans hx100_1
   replace p100 := eq_true p100
   replace q100 := eq_true q100
   go_wp2_with (first | ((with_reducible refine gate_dst (N := 5) rfl ?_); refine be 5 #[.int .i64 0, .int .i64 0] 32 ?_; intro gb109 hg w19 hbox hb; replace HO_100001 := q0 (Kd.R_below (Kd.R_elderB (qr HO_100001.out) gb109 (Nat.le_of_eq hg.symm)) hb); have BK109 := q0 (hbox); have GW109 := q0 ((bs HB.out hg : w.heap.size ≤ gb109)); have GE109 := q0 ((bs HB.out hg : w.heap.size ≤ gb109)); replace HB := q0 (below_step (qb HB.out) hb); have NB103_109 := q0 ((bl BK103.out hg : gb103 ≠ gb109)); have NB109_103 := q0 ((bg BK103.out hg : gb109 ≠ gb103)); replace BK103 := q0 (kb BK103.out hb); have NB104_109 := q0 ((bl BK104.out hg : gb104 ≠ gb109)); have NB109_104 := q0 ((bg BK104.out hg : gb109 ≠ gb104)); replace BK104 := q0 (kb BK104.out hb); have NB107_109 := q0 ((bl BK107.out hg : gb107 ≠ gb109)); have NB109_107 := q0 ((bg BK107.out hg : gb109 ≠ gb107)); replace BK107 := q0 (kb BK107.out hb); clear hb hbox hg; have hnb20 := NB109_103.out; have hnc20 := NB103_109.out; have hnb21 := NB109_104.out; have hnc21 := NB104_109.out; have hnb22 := NB109_107.out; have hnc22 := NB107_109.out; have hcz23_0 : w19.cell? ⟨gb109, 0, none⟩ = some (.int .i64 0) := (blk_cell BK109.out 0).trans rfl; have hcz23_1 : w19.cell? ⟨gb109, 1, none⟩ = some (.int .i64 0) := (blk_cell BK109.out 1).trans rfl; have hfz23_0 := blk_frozen BK109.out 0; have hfz23_1 := blk_frozen BK109.out 1; have hnb24 := NB107_103.out; have hnc24 := NB103_107.out; have hnb25 := NB107_104.out; have hnc25 := NB104_107.out; have hcz26_0 : w19.cell? ⟨gb107, 0, none⟩ = some (.int .i64 a0_0) := (blk_cell BK107.out 0).trans rfl; have hcz26_1 : w19.cell? ⟨gb107, 1, none⟩ = some (u100001) := (blk_cell BK107.out 1).trans rfl; have hfz26_0 := blk_frozen BK107.out 0; have hfz26_1 := blk_frozen BK107.out 1; obtain ⟨Ao27, co27, eo27⟩ := Kd.R_slice HO_100001.out; subst eo27) | ((with_reducible refine gate_callee (f := 93) rfl ?_); refine gl 22 Try.func93 #[.agg #[.int .i64 a0_0, .slice Ao27 x100001_1.length co27], .int .i64 ((rd_TTie l0_1 x13_1).f0), .int .i64 ((rd_TTie l0_1 x13_1).f1)] ?_; (with_reducible refine (impl_Net_joined.calls k1 a0_0 _ _ x100001_1 ((rd_TTie l0_1 x13_1).f0) ((rd_TTie l0_1 x13_1).f1) true _ ?side1 ?side2 A17.out).mono ?_); (case side1 => refine (Kd.R_reads' (e := 32) (base := w.heap.size) (ok := fun k_ => (True ∧ k_ ≠ gb109)) (n := x100001_1.length) (c := co27) ?_).2.2; exact (by (with_reducible repeat (first | apply Kd.R_alloc | apply Kd.R_drewN | apply Kd.R_drew)); exact (Kd.R_mono (Kd.R_far (p := ⟨gb109, 1, none⟩) (Kd.R_far (p := ⟨gb109, 0, none⟩) (Kd.R_mono HO_100001.out (fun k_ hk => (⟨hk, hk.2⟩ : _ ∧ k_ ≠ gb109))) (fun _ hk => hk.2) (.int .i64 ((rd_TTie l0_1 x13_1).f0))) (fun _ hk => hk.2) (.int .i64 ((rd_TTie l0_1 x13_1).f1))) (fun _ h_ => h_.1)))); (case side2 => exact (Kd.R_reads' HO_100001.out).2.1); rintro e w28 ⟨rfl, hb⟩; refine ⟨_, rfl, ?_⟩; replace HO_100001 := q0 (Kd.R_below (by (with_reducible repeat (first | apply Kd.R_alloc | apply Kd.R_drewN | apply Kd.R_drew)); exact (Kd.R_mono (Kd.R_far (p := ⟨gb109, 1, none⟩) (Kd.R_far (p := ⟨gb109, 0, none⟩) (Kd.R_mono HO_100001.out (fun k_ hk => (⟨hk, hk.2⟩ : _ ∧ k_ ≠ gb109))) (fun _ hk => hk.2) (.int .i64 ((rd_TTie l0_1 x13_1).f0))) (fun _ hk => hk.2) (.int .i64 ((rd_TTie l0_1 x13_1).f1))) (fun _ h_ => h_.1))) hb); replace BK103 := q0 (kf BK103.out hb); replace BK104 := q0 (kf BK104.out hb); replace BK107 := q0 (kf BK107.out hb); replace BK109 := q0 (blk_below (g := gb109) (o := .cells #[.int .i64 ((rd_TTie l0_1 x13_1).f0), .int .i64 ((rd_TTie l0_1 x13_1).f1)] 32 (0, 0)) (by (with_reducible repeat (first | refine blk_drewN ?_ _ | refine blk_drew ?_ | refine blk_alloc ?_ _)); refine blk_put (cs := #[.int .i64 ((rd_TTie l0_1 x13_1).f0), .int .i64 0]) ?_ 1 _ rfl; (with_reducible repeat (first | refine blk_drewN ?_ _ | refine blk_drew ?_ | refine blk_alloc ?_ _)); refine blk_put (cs := #[.int .i64 0, .int .i64 0]) ?_ 0 _ rfl; (with_reducible repeat (first | refine blk_drewN ?_ _ | refine blk_drew ?_ | refine blk_alloc ?_ _)); exact BK109.out) hb); replace HB := q0 (below_step (qb HB.out) hb); (try clear hb); (try clear hb2); (try clear hk); (try clear hi)))
   go_roundg k1
   case measure => have := HK1.out; omega
   case rel => exact ⟨(wrap64 (x13_1 + 1)), (x100001_1), (.slice Ao27 x100001_1.length co27), qs, H', ⟨by have := HK1.out; omega⟩, ⟨by (with_reducible repeat (first | apply Kd.R_alloc | apply Kd.R_drewN | apply Kd.R_drew)); exact Kd.R_mono HO_100001.out (fun _ hk => trivial)⟩, ⟨qk BK103.out⟩, ⟨qk BK104.out⟩, ⟨qk BK107.out⟩, ⟨qb HB.out⟩⟩
 replace c18 := Bool.eq_false_iff.mpr c18
 subst c18
 rw [if_neg nf] at H
 by_cases c29 : x100001_1.length < 8796093022208
 rotate_left
 · rw [if_neg c29] at H
   exact absurd H (by simp)
 rw [if_pos c29] at H
 have LMc29 := Aside0.mk c29
 clear c29
 obtain ⟨y110, hy110⟩ : ∃ y_ : List (STie), y_ = (x100001_1 ++ [(⟨(rd_TTie l0_1 x13_1).f0, (rd_TTie l0_1 x13_1).f1⟩ : STie)]) := ⟨_, rfl⟩
 replace H : (impl_Net_tree.l0 k1 l0_1 (l0_1.length : Int) (wrap64 (x13_1 + 1)) a0_0 y110) = some (r1, r2) := qy H hy110
 have Ny110 := Aside0.mk hy110
 clear hy110
 have H' := Aside0.mk H
 clear H
 have p100 : 0 ≤ (x13_1 : Int) := of_decide_eq_true qa
 have q100 : x13_1 < (l0_1.length : Int) := of_decide_eq_true qa
 obtain ⟨ad100, e100, hx100_0, hx100_1⟩ := at_TTie HR0_1.out x13_1 p100 q100
 cases e100
 replace hx100_0 := (HB.out.cell (World.block_lt_of_cell? w _ hx100_0)).trans hx100_0
 replace hx100_1 := (HB.out.cell (World.block_lt_of_cell? w _ hx100_1)).trans hx100_1
 replace p100 := eq_true p100
 replace q100 := eq_true q100
 go_wp2_with (first | ((with_reducible refine gate_dst (N := 5) rfl ?_); refine be 5 #[.int .i64 0, .int .i64 0] 32 ?_; intro gb109 hg w30 hbox hb; replace HO_100001 := q0 (Kd.R_below (Kd.R_elderB (qr HO_100001.out) gb109 (Nat.le_of_eq hg.symm)) hb); have BK109 := q0 (hbox); have GW109 := q0 ((bs HB.out hg : w.heap.size ≤ gb109)); have GE109 := q0 ((bs HB.out hg : w.heap.size ≤ gb109)); replace HB := q0 (below_step (qb HB.out) hb); have NB103_109 := q0 ((bl BK103.out hg : gb103 ≠ gb109)); have NB109_103 := q0 ((bg BK103.out hg : gb109 ≠ gb103)); replace BK103 := q0 (kb BK103.out hb); have NB104_109 := q0 ((bl BK104.out hg : gb104 ≠ gb109)); have NB109_104 := q0 ((bg BK104.out hg : gb109 ≠ gb104)); replace BK104 := q0 (kb BK104.out hb); have NB107_109 := q0 ((bl BK107.out hg : gb107 ≠ gb109)); have NB109_107 := q0 ((bg BK107.out hg : gb109 ≠ gb107)); replace BK107 := q0 (kb BK107.out hb); clear hb hbox hg; have hnb31 := NB109_103.out; have hnc31 := NB103_109.out; have hnb32 := NB109_104.out; have hnc32 := NB104_109.out; have hnb33 := NB109_107.out; have hnc33 := NB107_109.out; have hcz34_0 : w30.cell? ⟨gb109, 0, none⟩ = some (.int .i64 0) := (blk_cell BK109.out 0).trans rfl; have hcz34_1 : w30.cell? ⟨gb109, 1, none⟩ = some (.int .i64 0) := (blk_cell BK109.out 1).trans rfl; have hfz34_0 := blk_frozen BK109.out 0; have hfz34_1 := blk_frozen BK109.out 1; have hnb35 := NB107_103.out; have hnc35 := NB103_107.out; have hnb36 := NB107_104.out; have hnc36 := NB104_107.out; have hcz37_0 : w30.cell? ⟨gb107, 0, none⟩ = some (.int .i64 a0_0) := (blk_cell BK107.out 0).trans rfl; have hcz37_1 : w30.cell? ⟨gb107, 1, none⟩ = some (u100001) := (blk_cell BK107.out 1).trans rfl; have hfz37_0 := blk_frozen BK107.out 0; have hfz37_1 := blk_frozen BK107.out 1; obtain ⟨Ao38, co38, eo38⟩ := Kd.R_slice HO_100001.out; subst eo38) | ((with_reducible refine gate_callee (f := 93) rfl ?_); refine gl 22 Try.func93 #[.agg #[.int .i64 a0_0, .slice Ao38 x100001_1.length co38], .int .i64 ((rd_TTie l0_1 x13_1).f0), .int .i64 ((rd_TTie l0_1 x13_1).f1)] ?_; (with_reducible refine (impl_Net_joined.calls k1 a0_0 _ _ x100001_1 ((rd_TTie l0_1 x13_1).f0) ((rd_TTie l0_1 x13_1).f1) false _ ?side1 ?side2 A17.out).mono ?_); (case side1 => refine (Kd.R_reads' (e := 32) (base := w.heap.size) (ok := fun k_ => (True ∧ k_ ≠ gb109)) (n := x100001_1.length) (c := co38) ?_).2.2; exact (by (with_reducible repeat (first | apply Kd.R_alloc | apply Kd.R_drewN | apply Kd.R_drew)); exact (Kd.R_mono (Kd.R_far (p := ⟨gb109, 1, none⟩) (Kd.R_far (p := ⟨gb109, 0, none⟩) (Kd.R_mono HO_100001.out (fun k_ hk => (⟨hk, hk.2⟩ : _ ∧ k_ ≠ gb109))) (fun _ hk => hk.2) (.int .i64 ((rd_TTie l0_1 x13_1).f0))) (fun _ hk => hk.2) (.int .i64 ((rd_TTie l0_1 x13_1).f1))) (fun _ h_ => h_.1)))); (case side2 => exact (Kd.R_reads' HO_100001.out).2.1); rintro e w39 ⟨rfl, hb⟩; refine ⟨_, rfl, ?_⟩; replace HO_100001 := q0 (Kd.R_below (by (with_reducible repeat (first | apply Kd.R_alloc | apply Kd.R_drewN | apply Kd.R_drew)); exact (Kd.R_mono (Kd.R_far (p := ⟨gb109, 1, none⟩) (Kd.R_far (p := ⟨gb109, 0, none⟩) (Kd.R_mono HO_100001.out (fun k_ hk => (⟨hk, hk.2⟩ : _ ∧ k_ ≠ gb109))) (fun _ hk => hk.2) (.int .i64 ((rd_TTie l0_1 x13_1).f0))) (fun _ hk => hk.2) (.int .i64 ((rd_TTie l0_1 x13_1).f1))) (fun _ h_ => h_.1))) hb); replace BK103 := q0 (kf BK103.out hb); replace BK104 := q0 (kf BK104.out hb); replace BK107 := q0 (kf BK107.out hb); replace BK109 := q0 (blk_below (g := gb109) (o := .cells #[.int .i64 ((rd_TTie l0_1 x13_1).f0), .int .i64 ((rd_TTie l0_1 x13_1).f1)] 32 (0, 0)) (by (with_reducible repeat (first | refine blk_drewN ?_ _ | refine blk_drew ?_ | refine blk_alloc ?_ _)); refine blk_put (cs := #[.int .i64 ((rd_TTie l0_1 x13_1).f0), .int .i64 0]) ?_ 1 _ rfl; (with_reducible repeat (first | refine blk_drewN ?_ _ | refine blk_drew ?_ | refine blk_alloc ?_ _)); refine blk_put (cs := #[.int .i64 0, .int .i64 0]) ?_ 0 _ rfl; (with_reducible repeat (first | refine blk_drewN ?_ _ | refine blk_drew ?_ | refine blk_alloc ?_ _)); exact BK109.out) hb); replace HB := q0 (below_step (qb HB.out) hb); (try clear hb); (try clear hb2); (try clear hk); (try clear hi); have hcz40_0 : w39.cell? ⟨gb107, 0, none⟩ = some (.int .i64 a0_0) := (blk_cell BK107.out 0).trans rfl; have hcz40_1 : w39.cell? ⟨gb107, 1, none⟩ = some (.slice Ao38 x100001_1.length co38) := (blk_cell BK107.out 1).trans rfl; have hfz40_0 := blk_frozen BK107.out 0; have hfz40_1 := blk_frozen BK107.out 1; have hcz41_0 : w39.cell? ⟨gb109, 0, none⟩ = some (.int .i64 ((rd_TTie l0_1 x13_1).f0)) := (blk_cell BK109.out 0).trans rfl; have hcz41_1 : w39.cell? ⟨gb109, 1, none⟩ = some (.int .i64 ((rd_TTie l0_1 x13_1).f1)) := (blk_cell BK109.out 1).trans rfl; have hfz41_0 := blk_frozen BK109.out 0; have hfz41_1 := blk_frozen BK109.out 1) | ((with_reducible refine gate_builtin (b := .append) (xs := #[.tmp 25, .tmp 27]) rfl ?_); at_builtin; refine Kd.R_append kTie (w0 := w) w.heap.size rfl (.tmp 25) (.tmp 27) 23 32 (.agg #[(.int .i64 0), (.int .i64 0)]) 16 rfl Try.underlying23 info32 rfl (by decide) (by omega) (.slice Ao38 x100001_1.length co38) x100001_1 (⟨(rd_TTie l0_1 x13_1).f0, (rd_TTie l0_1 x13_1).f1⟩ : STie) [.int .i64 ((rd_TTie l0_1 x13_1).f0), .int .i64 ((rd_TTie l0_1 x13_1).f1)] (fun k_ => k_ ≠ gb109) (fun _ => False) rfl rfl ?aP (fun _ hk => hk.elim) ?aF ?aO ?aB ?aS ?aL ?_; (case aP => exact kTie_mkM _ _ _ (⟨(rd_TTie l0_1 x13_1).f0, (rd_TTie l0_1 x13_1).f1⟩ : STie)); (case aB => exact (qb HB.out)); (case aF => exact (fun k_ hk => Kd.freshB (g := gb109) (o := .cells #[.int .i64 ((rd_TTie l0_1 x13_1).f0), .int .i64 ((rd_TTie l0_1 x13_1).f1)] 32 (0, 0)) (qk BK109.out) k_ hk)); (case aO => exact (by (with_reducible repeat (first | apply Kd.R_alloc | apply Kd.R_drewN | apply Kd.R_drew)); exact Kd.R_mono HO_100001.out (fun _ hk => hk.2))); (case aS => exact (below_size (qb HB.out))); (case aL => have := LMc29.out; omega); intro v111 w42 ho hb hg hat; rw [← Ny110.out] at ho; replace BK103 := q0 (blk_grown (g := gb103) (o := .cells #[.int .i64 a0_0, .slice (some ad100) l0_1.length c0_1] 25 (0, 0)) (qk BK103.out) hg (Kd.R_ne HO_100001.out BK103.out (by decide))); replace BK104 := q0 (blk_grown (g := gb104) (o := .cells #[.int .i64 0, .slice none 0 0] 25 (0, 0)) (qk BK104.out) hg (Kd.R_ne HO_100001.out BK104.out (by decide))); replace BK107 := q0 (blk_grown (g := gb107) (o := .cells #[.int .i64 a0_0, .slice Ao38 x100001_1.length co38] 25 (0, 0)) (qk BK107.out) hg (Kd.R_ne HO_100001.out BK107.out (by decide))); replace BK109 := q0 (blk_grown (g := gb109) (o := .cells #[.int .i64 ((rd_TTie l0_1 x13_1).f0), .int .i64 ((rd_TTie l0_1 x13_1).f1)] 32 (0, 0)) (qk BK109.out) hg (Kd.R_away HO_100001.out (fun _ hk => hk.2))); replace HB := q0 (hb); have HO112 := q0 (ho); clear HO_100001; clear ho hb hg hat; obtain ⟨Ao43, co43, eo43⟩ := Kd.R_slice HO112.out; subst eo43; have hcz44_0 : w42.cell? ⟨gb107, 0, none⟩ = some (.int .i64 a0_0) := (blk_cell BK107.out 0).trans rfl; have hcz44_1 : w42.cell? ⟨gb107, 1, none⟩ = some (.slice Ao38 x100001_1.length co38) := (blk_cell BK107.out 1).trans rfl; have hfz44_0 := blk_frozen BK107.out 0; have hfz44_1 := blk_frozen BK107.out 1))
 go_roundg k1
 case measure => have := HK1.out; omega
 case rel => exact ⟨(wrap64 (x13_1 + 1)), (y110), (.slice Ao43 y110.length co43), qs, H', ⟨by have := HK1.out; omega⟩, ⟨by (with_reducible repeat (first | apply Kd.R_alloc | apply Kd.R_drewN | apply Kd.R_drew)); exact Kd.R_mono (Kd.R_far (p := ⟨gb107, 1, none⟩) (Kd.R_types HO112.out BK107.out (by decide)) (fun _ hk => hk.2) (.slice Ao43 y110.length co43)) (fun _ hk => trivial)⟩, ⟨qf BK103.out⟩, ⟨qf BK104.out⟩, ⟨by (with_reducible repeat (first | refine blk_drewN ?_ _ | refine blk_drew ?_ | refine blk_alloc ?_ _)); refine blk_put (cs := #[.int .i64 a0_0, .slice Ao38 x100001_1.length co38]) ?_ 1 _ rfl; (with_reducible repeat (first | refine blk_drewN ?_ _ | refine blk_drew ?_ | refine blk_alloc ?_ _)); exact BK107.out⟩, ⟨qb HB.out⟩⟩

set_option maxHeartbeats 8000000 in
set_option maxRecDepth 100000 in
theorem impl_TreeOf.calls (k : Nat) (a0_0 : Int) (A0_1 : Option Addr) (c0_1 : Nat) (l0_1 : List (STie)) (r : List (STie)) (w : World) (hr0_1 : Kd.C kTie w A0_1 l0_1.length l0_1) (hc0_1 : l0_1.length ≤ c0_1) (h : impl_TreeOf.f k a0_0 l0_1 = some r) :
    Calls Try.prog 22 #[.agg #[.int .i64 a0_0, .slice A0_1 l0_1.length c0_1]] w fun e w' => ∃ v0_ : Value, e = .returned (v0_) ∧ Kd.R kTie 32 w' w.heap.size (fun _ => True) v0_ r ∧ Below w.heap.size w w' := by
 have hu25 := Try.underlying25
 have HR0_1 := Aside0.mk hr0_1
 have HC0_1 := Aside0.mk hc0_1
 clear hr0_1 hc0_1
 have HB := q0 (Below.refl w.heap.size w)
 have H : ((impl_NetOk.f k a0_0 l0_1).bind fun t100 => (if t100 = true then ((impl_Net_tree.f k a0_0 l0_1).bind fun bt101 => (some bt101.2)) else (some (([] : List (STie)))))) = some r := h
 clear h
 replace H := Option.bind_eq_some_iff.mp H
 obtain ⟨t100, A20, H⟩ := H
 have A2 := Aside0.mk A20
 clear A20
 by_cases c3 : t100 = true
 · subst c3
   rw [if_pos rfl] at H
   replace H := Option.bind_eq_some_iff.mp H
   obtain ⟨⟨t101, t102⟩, A40, H⟩ := H
   have A4 := Aside0.mk A40
   clear A40
   obtain rfl := Option.some.inj H
   go_enter Try.func22, Try.ntmps22
   go_wp2_with (first | ((with_reducible refine gate_dst (N := 1) rfl ?_); refine be 1 #[.int .i64 a0_0, .slice A0_1 l0_1.length c0_1] 25 ?_; intro gb103 hg w5 hbox hb; have BK103 := q0 (hbox); have GW103 := q0 ((bs HB.out hg : w.heap.size ≤ gb103)); have GE103 := q0 ((bs HB.out hg : w.heap.size ≤ gb103)); replace HB := q0 (below_step (qb HB.out) hb); clear hb hbox hg; have hcz6_0 : w5.cell? ⟨gb103, 0, none⟩ = some (.int .i64 a0_0) := (blk_cell BK103.out 0).trans rfl; have hcz6_1 : w5.cell? ⟨gb103, 1, none⟩ = some (.slice A0_1 l0_1.length c0_1) := (blk_cell BK103.out 1).trans rfl; have hfz6_0 := blk_frozen BK103.out 0; have hfz6_1 := blk_frozen BK103.out 1) | ((with_reducible refine gate_callee (f := 37) rfl ?_); refine gl 4 Try.func37 #[.agg #[.int .i64 a0_0, .slice A0_1 l0_1.length c0_1]] ?_; (with_reducible refine (impl_NetOk.calls k a0_0 _ _ l0_1 true _ ?side1 ?side2 A2.out).mono ?_); (case side1 => exact qc (Kd.C_below HR0_1.out HB.out)); (case side2 => exact HC0_1.out); rintro e w7 ⟨rfl, hb⟩; refine ⟨_, rfl, ?_⟩; replace BK103 := q0 (kb BK103.out hb); replace HB := q0 (below_step (qb HB.out) hb); (try clear hb); (try clear hb2); (try clear hk); (try clear hi); have hcz8_0 : w7.cell? ⟨gb103, 0, none⟩ = some (.int .i64 a0_0) := (blk_cell BK103.out 0).trans rfl; have hcz8_1 : w7.cell? ⟨gb103, 1, none⟩ = some (.slice A0_1 l0_1.length c0_1) := (blk_cell BK103.out 1).trans rfl; have hfz8_0 := blk_frozen BK103.out 0; have hfz8_1 := blk_frozen BK103.out 1) | ((with_reducible refine gate_callee (f := 62) rfl ?_); refine gl 8 Try.func62 #[.agg #[.int .i64 a0_0, .slice A0_1 l0_1.length c0_1]] ?_; (with_reducible refine (impl_Net_tree.calls k a0_0 _ _ l0_1 t101 t102 _ ?side1 ?side2 A4.out).mono ?_); (case side1 => exact qc (Kd.C_below HR0_1.out HB.out)); (case side2 => exact HC0_1.out); rintro e w9 ⟨v104, rfl, ho0, hb⟩; refine ⟨_, rfl, ?_⟩; have HO105 := q0 (Kd.R_lower ho0 (below_size (qb HB.out))); replace BK103 := q0 (kb BK103.out hb); replace HB := q0 (below_step (qb HB.out) hb); (try clear hb); (try clear hb2); (try clear hk); (try clear hi); (try clear ho0); obtain ⟨Ao_, co_, eo_⟩ := Kd.R_slice HO105.out; subst eo_; have hfld_ : ∀ w, (Instr.field 25 (.agg #[.int .i64 t101, .slice Ao_ t102.length co_]) 1).run Try.prog w = .ok (.slice Ao_ t102.length co_) w := fun w => by kernel_rfl))
   go_ret
   exact ⟨_, qe, qr HO105.out, qb HB.out⟩
 replace c3 := Bool.eq_false_iff.mpr c3
 subst c3
 rw [if_neg nf] at H
 obtain ⟨y106, hy106⟩ : ∃ y_ : List (STie), y_ = (([] : List (STie))) := ⟨_, rfl⟩
 replace H : (some y106) = some r := qy H hy106
 have Ny106 := Aside0.mk hy106
 clear hy106
 obtain rfl := Option.some.inj H
 go_enter Try.func22, Try.ntmps22
 go_wp2_with (first | ((with_reducible refine gate_dst (N := 1) rfl ?_); refine be 1 #[.int .i64 a0_0, .slice A0_1 l0_1.length c0_1] 25 ?_; intro gb103 hg w10 hbox hb; have BK103 := q0 (hbox); have GW103 := q0 ((bs HB.out hg : w.heap.size ≤ gb103)); have GE103 := q0 ((bs HB.out hg : w.heap.size ≤ gb103)); replace HB := q0 (below_step (qb HB.out) hb); clear hb hbox hg; have hcz11_0 : w10.cell? ⟨gb103, 0, none⟩ = some (.int .i64 a0_0) := (blk_cell BK103.out 0).trans rfl; have hcz11_1 : w10.cell? ⟨gb103, 1, none⟩ = some (.slice A0_1 l0_1.length c0_1) := (blk_cell BK103.out 1).trans rfl; have hfz11_0 := blk_frozen BK103.out 0; have hfz11_1 := blk_frozen BK103.out 1) | ((with_reducible refine gate_callee (f := 37) rfl ?_); refine gl 4 Try.func37 #[.agg #[.int .i64 a0_0, .slice A0_1 l0_1.length c0_1]] ?_; (with_reducible refine (impl_NetOk.calls k a0_0 _ _ l0_1 false _ ?side1 ?side2 A2.out).mono ?_); (case side1 => exact qc (Kd.C_below HR0_1.out HB.out)); (case side2 => exact HC0_1.out); rintro e w12 ⟨rfl, hb⟩; refine ⟨_, rfl, ?_⟩; replace BK103 := q0 (kb BK103.out hb); replace HB := q0 (below_step (qb HB.out) hb); (try clear hb); (try clear hb2); (try clear hk); (try clear hi)) | ((with_reducible refine gate_dst (N := 6) rfl ?_); refine Kd.R_lit kTie _ 32 ?hg (N := 6) ?hd (xs := ([] : List (STie))) (inner := []) (ok := fun _ => True) (okp := fun _ => True) ?hr ?hp (fun _ hk => hk) trivial (Below.refl _ _) (Nat.le_refl _) (by simp) ?_; (case hd => rfl); (case hg => rfl); (case hr => first | (go_simp; done) | (go_simp; rfl)); (case hp => exact (Reps.none _ _)); intro v107 w13 ho14 hb hg_ hnew_; clear hg_ hnew_; (first | rw [← Ny106.out] at ho14 | (simp only [Int.reduceToNat] at ho14; rw [← Ny106.out] at ho14)); have HO108 := q0 (Kd.R_lower ho14 (below_size (qb HB.out))); replace BK103 := q0 (kb BK103.out hb); replace HB := q0 (below_step (qb HB.out) hb); clear hb ho14))
 go_ret
 exact ⟨_, qe, qr HO108.out, qb HB.out⟩

def spec_TreeOk.T7 : Bool × List (List Nat × List Nat) := (true, [([], []), ([], []), ([], []), ([1, 2], [1, 2]), ([3], [3]), ([4], [4]), ([], []), ([], []), ([6, 7], [6, 7]), ([8], [8]), ([9], [9]), ([0, 5, 10], [0, 5, 10]), ([11], [11])])
def spec_TreeOk.B7 : List Nat := [0, 0, 0, 6, 14, 30, 0, 0, 192, 448, 960, 2047, 4095]
theorem spec_TreeOk.tab7 : rtab .any (opsOf Try.f23 7) = spec_TreeOk.T7 := by kernel_rfl
theorem spec_TreeOk.bits7 : waitsOk spec_TreeOk.T7.2 spec_TreeOk.B7 = true := by kernel_rfl
def spec_TreeOk.T9 : Bool × List (List Nat × List Nat) := (true, [([], []), ([0], [0]), ([], []), ([2, 1], [2]), ([1, 3], [1, 3]), ([4, 3], [4]), ([5], [5]), ([6, 5], [5, 6]), ([5], [5]), ([8, 5], [5, 8]), ([5], [5]), ([10, 5, 5], [5, 10]), ([9, 11, 5], [5, 9, 11]), ([7, 12, 5], [5, 7, 12]), ([5, 13], [5, 13]), ([14, 11, 0, 1, 2, 3, 4, 5, 6, 7, 8, 9, 10, 11, 12, 13, 14], [14])])
def spec_TreeOk.B9 : List Nat := [0, 1, 0, 7, 15, 31, 63, 127, 63, 319, 63, 1087, 3903, 8191, 16383, 32767]
theorem spec_TreeOk.tab9 : rtab .any (opsOf Try.f23 9) = spec_TreeOk.T9 := by kernel_rfl
theorem spec_TreeOk.bits9 : waitsOk spec_TreeOk.T9.2 spec_TreeOk.B9 = true := by kernel_rfl
set_option maxHeartbeats 8000000 in
set_option maxRecDepth 100000 in
theorem spec_TreeOk.calls (k : Nat) (a0_0 : Int) (A0_1 : Option Addr) (c0_1 : Nat) (l0_1 : List (STie)) (A1 : Option Addr) (c1 : Nat) (l1 : List (STie)) (r : Bool) (w : World) (hr0_1 : Kd.C kTie w A0_1 l0_1.length l0_1) (hc0_1 : l0_1.length ≤ c0_1) (hr1 : Kd.C kTie w A1 l1.length l1) (hc1 : l1.length ≤ c1) (h : spec_TreeOk.f k a0_0 l0_1 l1 = some r) :
    Calls Try.prog 23 #[.agg #[.int .i64 a0_0, .slice A0_1 l0_1.length c0_1], .slice A1 l1.length c1] w fun e w' => e = .returned (.bool r) ∧ Below w.heap.size w w' := by
 have hu25 := Try.underlying25
 have HR0_1 := Aside0.mk hr0_1
 have HC0_1 := Aside0.mk hc0_1
 clear hr0_1 hc0_1
 have HR1 := Aside0.mk hr1
 have HC1 := Aside0.mk hc1
 clear hr1 hc1
 have HB := q0 (Below.refl w.heap.size w)
 have H : ((spec_NetOk.f k a0_0 l0_1).bind fun t101 => (if t101 = true then ((spec_NetOk.f k a0_0 l1).bind fun t106 => (spec_TreeOk.j0 k l1 (!t106) a0_0 l0_1 a0_0 l1)) else (spec_TreeOk.j0 k l1 true a0_0 l0_1 a0_0 l1))) = some r := h
 clear h
 have HC3 := Aside0.mk H
 clear H
 go_enter Try.func23, Try.ntmps23
 go_upto_region 2 with (first | ((with_reducible refine gate_dst (N := 2) rfl ?_); (try (refine gate_guard (by rfl) ?_; dsimp only)); refine be 2 #[.int .i64 a0_0, .slice A0_1 l0_1.length c0_1] 25 ?_; intro gb107 hg w4 hbox hb; have BK107 := q0 (hbox); have GW107 := q0 ((bs HB.out hg : w.heap.size ≤ gb107)); have GE107 := q0 ((bs HB.out hg : w.heap.size ≤ gb107)); replace HB := q0 (below_step (qb HB.out) hb); clear hb hbox hg; have hcz5_0 : w4.cell? ⟨gb107, 0, none⟩ = some (.int .i64 a0_0) := (blk_cell BK107.out 0).trans rfl; have hcz5_1 : w4.cell? ⟨gb107, 1, none⟩ = some (.slice A0_1 l0_1.length c0_1) := (blk_cell BK107.out 1).trans rfl; have hfz5_0 := blk_frozen BK107.out 0; have hfz5_1 := blk_frozen BK107.out 1) | ((with_reducible refine gate_dst (N := 5) rfl ?_); (try (refine gate_guard (by rfl) ?_; dsimp only)); refine be 5 #[.int .i64 0, .slice none 0 0] 25 ?_; intro gb100 hg w6 hbox hb; have BK100 := q0 (hbox); have GW100 := q0 ((bs HB.out hg : w.heap.size ≤ gb100)); have GE100 := q0 ((bs HB.out hg : w.heap.size ≤ gb100)); replace HB := q0 (below_step (qb HB.out) hb); have NB107_100 := q0 ((bl BK107.out hg : gb107 ≠ gb100)); have NB100_107 := q0 ((bg BK107.out hg : gb100 ≠ gb107)); replace BK107 := q0 (kb BK107.out hb); clear hb hbox hg; have hnb7 := NB100_107.out; have hnc7 := NB107_100.out; have hcz8_0 : w6.cell? ⟨gb100, 0, none⟩ = some (.int .i64 0) := (blk_cell BK100.out 0).trans rfl; have hcz8_1 : w6.cell? ⟨gb100, 1, none⟩ = some (.slice none 0 0) := (blk_cell BK100.out 1).trans rfl; have hfz8_0 := blk_frozen BK100.out 0; have hfz8_1 := blk_frozen BK100.out 1))
 (try simp only [Act.put, List.setIfInBounds_toArray, List.set_cons_zero, List.set_cons_succ])
 go_cut [18] (fun v18 wc => ∃ (kq : Nat) (x18_2 : Bool), v18 = .bool x18_2 ∧ Aside0 (spec_TreeOk.j0 kq l1 x18_2 a0_0 l0_1 a0_0 l1 = some r) ∧ Aside0 (kq ≤ k) ∧ Aside0 (wc.heap[gb107]? = some (.cells #[.int .i64 a0_0, (.slice A0_1 l0_1.length c0_1)] 25 (0, 0))) ∧ Aside0 (wc.heap[gb100]? = some (.cells #[.int .i64 a0_0, (.slice A1 l1.length c1)] 25 (0, 0))) ∧ Aside0 (Below w.heap.size w wc))
 case first =>
   have H := HC3.out
   clear HC3
   replace H := Option.bind_eq_some_iff.mp H
   obtain ⟨t101, A90, H⟩ := H
   have A9 := Aside0.mk A90
   clear A90
   by_cases c10 : t101 = true
   rotate_left
   · replace c10 := Bool.eq_false_iff.mpr c10
     subst c10
     rw [if_neg nf] at H
     have H' := Aside0.mk H
     clear H
     have hnb17 := NB107_100.out
     have hnc17 := NB100_107.out
     have hcz18_0 : w6.cell? ⟨gb107, 0, none⟩ = some (.int .i64 a0_0) := (blk_cell BK107.out 0).trans rfl
     have hcz18_1 : w6.cell? ⟨gb107, 1, none⟩ = some (.slice A0_1 l0_1.length c0_1) := (blk_cell BK107.out 1).trans rfl
     have hfz18_0 := blk_frozen BK107.out 0
     have hfz18_1 := blk_frozen BK107.out 1
     go_wp2_with (first | ((with_reducible refine gate_callee (f := 49) rfl ?_); refine gl 12 Try.func49 #[.agg #[.int .i64 a0_0, .slice A0_1 l0_1.length c0_1]] ?_; (with_reducible refine (spec_NetOk.calls k a0_0 _ _ l0_1 false _ ?side1 ?side2 A9.out).mono ?_); (case side1 => exact Kd.C_below HR0_1.out (qb HB.out)); (case side2 => exact HC0_1.out); rintro e w19 ⟨rfl, hb⟩; refine ⟨_, rfl, ?_⟩; replace BK107 := q0 (kf BK107.out hb); replace BK100 := q0 (blk_below (g := gb100) (o := .cells #[.int .i64 a0_0, .slice A1 l1.length c1] 25 (0, 0)) (by (with_reducible repeat (first | refine blk_drewN ?_ _ | refine blk_drew ?_ | refine blk_alloc ?_ _)); refine blk_put (cs := #[.int .i64 a0_0, .slice none 0 0]) ?_ 1 _ rfl; (with_reducible repeat (first | refine blk_drewN ?_ _ | refine blk_drew ?_ | refine blk_alloc ?_ _)); refine blk_put (cs := #[.int .i64 0, .slice none 0 0]) ?_ 0 _ rfl; (with_reducible repeat (first | refine blk_drewN ?_ _ | refine blk_drew ?_ | refine blk_alloc ?_ _)); exact BK100.out) hb); replace HB := q0 (below_step (qb HB.out) hb); (try clear hb); (try clear hb2); (try clear hk); (try clear hi)))
     go_meet
     case rel => exact ⟨_, (true), qs, H', ⟨by first | omega | exact Nat.le_refl _⟩, ⟨qk BK107.out⟩, ⟨qk BK100.out⟩, ⟨qb HB.out⟩⟩
   subst c10
   rw [if_pos rfl] at H
   replace H := Option.bind_eq_some_iff.mp H
   obtain ⟨t106, A108, H⟩ := H
   have A11 := Aside0.mk A108
   clear A108
   have H' := Aside0.mk H
   clear H
   have hnb12 := NB107_100.out
   have hnc12 := NB100_107.out
   have hcz13_0 : w6.cell? ⟨gb107, 0, none⟩ = some (.int .i64 a0_0) := (blk_cell BK107.out 0).trans rfl
   have hcz13_1 : w6.cell? ⟨gb107, 1, none⟩ = some (.slice A0_1 l0_1.length c0_1) := (blk_cell BK107.out 1).trans rfl
   have hfz13_0 := blk_frozen BK107.out 0
   have hfz13_1 := blk_frozen BK107.out 1
   go_wp2_with (first | ((with_reducible refine gate_callee (f := 49) rfl ?_); refine gl 12 Try.func49 #[.agg #[.int .i64 a0_0, .slice A0_1 l0_1.length c0_1]] ?_; (with_reducible refine (spec_NetOk.calls k a0_0 _ _ l0_1 true _ ?side1 ?side2 A9.out).mono ?_); (case side1 => exact Kd.C_below HR0_1.out (qb HB.out)); (case side2 => exact HC0_1.out); rintro e w14 ⟨rfl, hb⟩; refine ⟨_, rfl, ?_⟩; replace BK107 := q0 (kf BK107.out hb); replace BK100 := q0 (blk_below (g := gb100) (o := .cells #[.int .i64 a0_0, .slice A1 l1.length c1] 25 (0, 0)) (by (with_reducible repeat (first | refine blk_drewN ?_ _ | refine blk_drew ?_ | refine blk_alloc ?_ _)); refine blk_put (cs := #[.int .i64 a0_0, .slice none 0 0]) ?_ 1 _ rfl; (with_reducible repeat (first | refine blk_drewN ?_ _ | refine blk_drew ?_ | refine blk_alloc ?_ _)); refine blk_put (cs := #[.int .i64 0, .slice none 0 0]) ?_ 0 _ rfl; (with_reducible repeat (first | refine blk_drewN ?_ _ | refine blk_drew ?_ | refine blk_alloc ?_ _)); exact BK100.out) hb); replace HB := q0 (below_step (qb HB.out) hb); (try clear hb); (try clear hb2); (try clear hk); (try clear hi); have hcz15_0 : w14.cell? ⟨gb100, 0, none⟩ = some (.int .i64 a0_0) := (blk_cell BK100.out 0).trans rfl; have hcz15_1 : w14.cell? ⟨gb100, 1, none⟩ = some (.slice A1 l1.length c1) := (blk_cell BK100.out 1).trans rfl; have hfz15_0 := blk_frozen BK100.out 0; have hfz15_1 := blk_frozen BK100.out 1) | (go_at_call 49; (with_reducible refine (spec_NetOk.calls k a0_0 _ _ l1 t106 _ ?side1 ?side2 A11.out).mono ?_); (case side1 => exact qc (Kd.C_below HR1.out HB.out)); (case side2 => exact HC1.out); rintro e w16 ⟨rfl, hb⟩; replace BK107 := q0 (kb BK107.out hb); replace BK100 := q0 (kb BK100.out hb); replace HB := q0 (below_step (qb HB.out) hb); (try clear hb); (try clear hb2); (try clear hk); (try clear hi)))
   go_meet
   case rel => exact ⟨_, (!t106), qs, H', ⟨by first | omega | exact Nat.le_refl _⟩, ⟨qk BK107.out⟩, ⟨qk BK100.out⟩, ⟨qb HB.out⟩⟩
 clear HC3
 try clear c1
 try clear c2
 try clear p2
 try clear c4
 try clear c7
 try clear c10
 try clear c12
 try clear c17
 try clear hcz13_0
 try clear hcz13_1
 try clear hcz15_0
 try clear hcz15_1
 try clear hcz18_0
 try clear hcz18_1
 try clear hcz5_0
 try clear hcz5_1
 try clear hcz8_0
 try clear hcz8_1
 try clear hfz13_0
 try clear hfz13_1
 try clear hfz15_0
 try clear hfz15_1
 try clear hfz18_0
 try clear hfz18_1
 try clear hfz5_0
 try clear hfz5_1
 try clear hfz8_0
 try clear hfz8_1
 obtain ⟨kq, x18_2, rfl, HA, HJ2, BK107, BK100, HB⟩ := hcut
 rcases kq with _ | kj2
 · exact absurd HA.out (by simp [spec_TreeOk.j0])
 have H := HA.out
 clear HA
 simp only [spec_TreeOk.j0] at H
 by_cases c20 : x18_2 = true
 · subst c20
   rw [if_pos rfl] at H
   obtain rfl := Option.some.inj H
   go_wp2
   go_ret
   exact ⟨qe, qb HB.out⟩
 replace c20 := Bool.eq_false_iff.mpr c20
 subst c20
 rw [if_neg nf] at H
 have H' := Aside0.mk H
 clear H
 go_wp2
 go_loopg [6] kj2 (fun kq v6 w' => ∃ (x6_2 : Int), v6 = .int .i64 x6_2 ∧ Aside0 (spec_TreeOk.l0 kq l1 x6_2 a0_0 l0_1 a0_0 l1 = some r) ∧ Aside0 (kq ≤ kj2) ∧ Aside0 (w'.heap[gb107]? = some (.cells #[.int .i64 a0_0, (.slice A0_1 l0_1.length c0_1)] 25 (0, 0))) ∧ Aside0 (w'.heap[gb100]? = some (.cells #[.int .i64 a0_0, (.slice A1 l1.length c1)] 25 (0, 0))) ∧ Aside0 (Below w.heap.size w w'))
 case atStart => exact ⟨(0), qs, H', ⟨Nat.le_refl _⟩, ⟨qk BK107.out⟩, ⟨qk BK100.out⟩, ⟨qb HB.out⟩⟩
 clear H'
 try clear c1
 try clear c2
 try clear p2
 try clear c4
 try clear c7
 try clear c10
 try clear c12
 try clear c17
 try clear c20
 try clear hcz13_0
 try clear hcz13_1
 try clear hcz15_0
 try clear hcz15_1
 try clear hcz18_0
 try clear hcz18_1
 try clear hcz5_0
 try clear hcz5_1
 try clear hcz8_0
 try clear hcz8_1
 try clear hfz13_0
 try clear hfz13_1
 try clear hfz15_0
 try clear hfz15_1
 try clear hfz18_0
 try clear hfz18_1
 try clear hfz5_0
 try clear hfz5_1
 try clear hfz8_0
 try clear hfz8_1
 try clear p2
 obtain ⟨x6_2, rfl, HA, HK2, BK107, BK100, HB⟩ := hrel
 rcases gk with _ | k2
 · exact absurd HA.out (by simp [spec_TreeOk.l0])
 have H := HA.out
 clear HA
 simp only [spec_TreeOk.l0] at H
 by_cases c21 : x6_2 < (l1.length : Int)
 · rw [if_pos c21] at H
   have c21b0 : decide (x6_2 < (l1.length : Int)) = true := decide_eq_true c21
   clear c21
   by_cases c22 : 0 ≤ x6_2
   rotate_left
   · rw [if_neg c22] at H
     exact absurd H (by simp)
   rw [if_pos c22] at H
   have c22b0 : decide (0 ≤ x6_2) = true := decide_eq_true c22
   clear c22
   replace H := Option.bind_eq_some_iff.mp H
   obtain ⟨t102, A109, H⟩ := H
   have A23 := Aside0.mk A109
   clear A109
   by_cases c24 : t102 = true
   rotate_left
   · replace c24 := Bool.eq_false_iff.mpr c24
     subst c24
     rw [if_neg nf] at H
     obtain rfl := Option.some.inj H
     try go_wp2
     replace BK107 := q0 (blk_drew BK107.out)
     replace BK100 := q0 (blk_drew BK100.out)
     replace HB := q0 (below_drew1 HB.out)
     have p110 : 0 ≤ (x6_2 : Int) := of_decide_eq_true qa
     have q110 : x6_2 < (l1.length : Int) := of_decide_eq_true qa
     obtain ⟨ad110, e110, hx110_0, hx110_1⟩ := at_TTie HR1.out x6_2 p110 q110
     have hw110_1 := hx110_1
     have hw110_0 := hx110_0
     cases e110
     replace hx110_0 := (HB.out.cell (World.block_lt_of_cell? w _ hx110_0)).trans hx110_0
     replace hx110_1 := (HB.out.cell (World.block_lt_of_cell? w _ hx110_1)).trans hx110_1
     replace p110 := eq_true p110
     replace q110 := eq_true q110
     have p111 : 0 ≤ (x6_2 : Int) := of_decide_eq_true qa
     have q111 : x6_2 < (l1.length : Int) := of_decide_eq_true qa
     obtain ⟨ad111, e111, hx111_0, hx111_1⟩ := at_TTie HR1.out x6_2 p111 q111
     have hw111_1 := hx111_1
     have hw111_0 := hx111_0
     obtain rfl : ad110 = ad111 := (by injection e111)
     replace hx111_0 := (HB.out.cell (World.block_lt_of_cell? w _ hx111_0)).trans hx111_0
     replace hx111_1 := (HB.out.cell (World.block_lt_of_cell? w _ hx111_1)).trans hx111_1
     replace p111 := eq_true p111
     replace q111 := eq_true q111
     refine start_ (n := 13) (S := fun w' => w'.cell? ⟨gb107, 0, none⟩ = some (.int .i64 a0_0) ∧ w'.cell? ⟨gb107, 1, none⟩ = some (.slice A0_1 l0_1.length c0_1) ∧ w'.cell? (ad110.add ((x6_2).toNat * 2)) = some (.int .i64 ((rd_TTie l1 x6_2).f0)) ∧ w'.cell? ⟨(ad110.add ((x6_2).toNat * 2)).block, (ad110.add ((x6_2).toNat * 2)).off + 1, none⟩ = some (.int .i64 ((rd_TTie l1 x6_2).f1)) ∧ w'.cell? (ad110.add ((x6_2).toNat * 2)) = some (.int .i64 ((rd_TTie l1 x6_2).f0)) ∧ w'.cell? ⟨(ad110.add ((x6_2).toNat * 2)).block, (ad110.add ((x6_2).toNat * 2)).off + 1, none⟩ = some (.int .i64 ((rd_TTie l1 x6_2).f1))) (ds := []) (ba 13 0) (by kernel_rfl) rfl (by kernel_rfl) ⟨(blk_cell BK107.out 0).trans rfl, (blk_cell BK107.out 1).trans rfl, ((HB.out.cell (World.block_lt_of_cell? w _ hw110_0)).trans hw110_0), ((HB.out.cell (World.block_lt_of_cell? w _ hw110_1)).trans hw110_1), ((HB.out.cell (World.block_lt_of_cell? w _ hw111_0)).trans hw111_0), ((HB.out.cell (World.block_lt_of_cell? w _ hw111_1)).trans hw111_1)⟩ (fun hHeld => ?_); refine with_tabW spec_TreeOk.tab7 spec_TreeOk.bits7 (fun HT_ HW_ => ?_)
     generalize wr.drew = w27 at BK107 BK100 HB hx110_0 hx110_1 hx111_0 hx111_1 hHeld ⊢
     refine pu 1 (some 26) (ba 13 2) HT_.out ?_
     refine pu 2 (some 27) (ba 13 6) HT_.out ?_
     refine pu 3 (some 28) (ba 13 14) HT_.out ?_
     refine pu 4 (some 29) (ba 13 30) HT_.out ?_
     refine pu 6 (some 31) (ba 13 94) HT_.out ?_
     refine pu 7 (some 32) (ba 13 222) HT_.out ?_
     refine pu 8 (some 33) (ba 13 478) HT_.out ?_
     refine pu 9 (some 34) (ba 13 990) HT_.out ?_
     refine tu 0 (some 25) (ba 13 991) HT_.out HW_.out hHeld ?_
     refine tu 5 (some 30) (ba 13 1023) HT_.out HW_.out hHeld ?_
     refine tu 10 (some 35) (ba 13 2047) HT_.out HW_.out hHeld ?_
     refine one_ (i := 11) (N := some 36) (ba 13 4095) rfl rfl (one_of HT_.out (by kernel_rfl)) (by decide) (fun K hK => ?_)
     refine goes_ Try.func63 (by kernel_rfl) rfl #[.agg #[.int .i64 a0_0, .slice A0_1 l0_1.length c0_1], .int .i64 ((rd_TTie l1 x6_2).f0), .int .i64 ((rd_TTie l1 x6_2).f1)] (by rfl) rfl rfl qm ?_
     with_reducible refine (spec_NetHas.calls k2 a0_0 _ _ l0_1 ((rd_TTie l1 x6_2).f0) ((rd_TTie l1 x6_2).f1) false _ ?side1 ?side2 A23.out).mono ?_
     (case side1 => exact qc (Kd.C_below HR0_1.out HB.out))
     (case side2 => exact HC0_1.out)
     rintro e w28 ⟨rfl, hb⟩
     refine ⟨_, rfl, ?_⟩
     replace BK107 := q0 (kb BK107.out hb)
     replace BK100 := q0 (kb BK100.out hb)
     replace HB := q0 (below_step (qb HB.out) hb)
     (try clear hb)
     (try clear hb2)
     (try clear hk)
     (try clear hi)
     refine hK.out _ _ ⟨(blk_cell BK107.out 0).trans rfl, (blk_cell BK107.out 1).trans rfl, ((HB.out.cell (World.block_lt_of_cell? w _ hw110_0)).trans hw110_0), ((HB.out.cell (World.block_lt_of_cell? w _ hw110_1)).trans hw110_1), ((HB.out.cell (World.block_lt_of_cell? w _ hw111_0)).trans hw111_0), ((HB.out.cell (World.block_lt_of_cell? w _ hw111_1)).trans hw111_1)⟩ (fun hHeld => ?_)
     clear hK K
     refine nu 36 ?_
     refine pu 12 (some 37) (ba 13 8191) HT_.out ?_
     refine done_ (done_of HT_.out (by kernel_rfl)) ?_
     try go_wp2
     go_ret
     exact ⟨qe, qb HB.out⟩
   subst c24
   rw [if_pos rfl] at H
   have H' := Aside0.mk H
   clear H
   try go_wp2
   replace BK107 := q0 (blk_drew BK107.out)
   replace BK100 := q0 (blk_drew BK100.out)
   replace HB := q0 (below_drew1 HB.out)
   have p110 : 0 ≤ (x6_2 : Int) := of_decide_eq_true qa
   have q110 : x6_2 < (l1.length : Int) := of_decide_eq_true qa
   obtain ⟨ad110, e110, hx110_0, hx110_1⟩ := at_TTie HR1.out x6_2 p110 q110
   have hw110_1 := hx110_1
   have hw110_0 := hx110_0
   cases e110
   replace hx110_0 := (HB.out.cell (World.block_lt_of_cell? w _ hx110_0)).trans hx110_0
   replace hx110_1 := (HB.out.cell (World.block_lt_of_cell? w _ hx110_1)).trans hx110_1
   replace p110 := eq_true p110
   replace q110 := eq_true q110
   have p111 : 0 ≤ (x6_2 : Int) := of_decide_eq_true qa
   have q111 : x6_2 < (l1.length : Int) := of_decide_eq_true qa
   obtain ⟨ad111, e111, hx111_0, hx111_1⟩ := at_TTie HR1.out x6_2 p111 q111
   have hw111_1 := hx111_1
   have hw111_0 := hx111_0
   obtain rfl : ad110 = ad111 := (by injection e111)
   replace hx111_0 := (HB.out.cell (World.block_lt_of_cell? w _ hx111_0)).trans hx111_0
   replace hx111_1 := (HB.out.cell (World.block_lt_of_cell? w _ hx111_1)).trans hx111_1
   replace p111 := eq_true p111
   replace q111 := eq_true q111
   refine start_ (n := 13) (S := fun w' => w'.cell? ⟨gb107, 0, none⟩ = some (.int .i64 a0_0) ∧ w'.cell? ⟨gb107, 1, none⟩ = some (.slice A0_1 l0_1.length c0_1) ∧ w'.cell? (ad110.add ((x6_2).toNat * 2)) = some (.int .i64 ((rd_TTie l1 x6_2).f0)) ∧ w'.cell? ⟨(ad110.add ((x6_2).toNat * 2)).block, (ad110.add ((x6_2).toNat * 2)).off + 1, none⟩ = some (.int .i64 ((rd_TTie l1 x6_2).f1)) ∧ w'.cell? (ad110.add ((x6_2).toNat * 2)) = some (.int .i64 ((rd_TTie l1 x6_2).f0)) ∧ w'.cell? ⟨(ad110.add ((x6_2).toNat * 2)).block, (ad110.add ((x6_2).toNat * 2)).off + 1, none⟩ = some (.int .i64 ((rd_TTie l1 x6_2).f1))) (ds := []) (ba 13 0) (by kernel_rfl) rfl (by kernel_rfl) ⟨(blk_cell BK107.out 0).trans rfl, (blk_cell BK107.out 1).trans rfl, ((HB.out.cell (World.block_lt_of_cell? w _ hw110_0)).trans hw110_0), ((HB.out.cell (World.block_lt_of_cell? w _ hw110_1)).trans hw110_1), ((HB.out.cell (World.block_lt_of_cell? w _ hw111_0)).trans hw111_0), ((HB.out.cell (World.block_lt_of_cell? w _ hw111_1)).trans hw111_1)⟩ (fun hHeld => ?_); refine with_tabW spec_TreeOk.tab7 spec_TreeOk.bits7 (fun HT_ HW_ => ?_)
   generalize wr.drew = w25 at BK107 BK100 HB hx110_0 hx110_1 hx111_0 hx111_1 hHeld ⊢
   refine pu 1 (some 26) (ba 13 2) HT_.out ?_
   refine pu 2 (some 27) (ba 13 6) HT_.out ?_
   refine pu 3 (some 28) (ba 13 14) HT_.out ?_
   refine pu 4 (some 29) (ba 13 30) HT_.out ?_
   refine pu 6 (some 31) (ba 13 94) HT_.out ?_
   refine pu 7 (some 32) (ba 13 222) HT_.out ?_
   refine pu 8 (some 33) (ba 13 478) HT_.out ?_
   refine pu 9 (some 34) (ba 13 990) HT_.out ?_
   refine tu 0 (some 25) (ba 13 991) HT_.out HW_.out hHeld ?_
   refine tu 5 (some 30) (ba 13 1023) HT_.out HW_.out hHeld ?_
   refine tu 10 (some 35) (ba 13 2047) HT_.out HW_.out hHeld ?_
   refine one_ (i := 11) (N := some 36) (ba 13 4095) rfl rfl (one_of HT_.out (by kernel_rfl)) (by decide) (fun K hK => ?_)
   refine goes_ Try.func63 (by kernel_rfl) rfl #[.agg #[.int .i64 a0_0, .slice A0_1 l0_1.length c0_1], .int .i64 ((rd_TTie l1 x6_2).f0), .int .i64 ((rd_TTie l1 x6_2).f1)] (by rfl) rfl rfl qm ?_
   with_reducible refine (spec_NetHas.calls k2 a0_0 _ _ l0_1 ((rd_TTie l1 x6_2).f0) ((rd_TTie l1 x6_2).f1) true _ ?side1 ?side2 A23.out).mono ?_
   (case side1 => exact qc (Kd.C_below HR0_1.out HB.out))
   (case side2 => exact HC0_1.out)
   rintro e w26 ⟨rfl, hb⟩
   refine ⟨_, rfl, ?_⟩
   replace BK107 := q0 (kb BK107.out hb)
   replace BK100 := q0 (kb BK100.out hb)
   replace HB := q0 (below_step (qb HB.out) hb)
   (try clear hb)
   (try clear hb2)
   (try clear hk)
   (try clear hi)
   refine hK.out _ _ ⟨(blk_cell BK107.out 0).trans rfl, (blk_cell BK107.out 1).trans rfl, ((HB.out.cell (World.block_lt_of_cell? w _ hw110_0)).trans hw110_0), ((HB.out.cell (World.block_lt_of_cell? w _ hw110_1)).trans hw110_1), ((HB.out.cell (World.block_lt_of_cell? w _ hw111_0)).trans hw111_0), ((HB.out.cell (World.block_lt_of_cell? w _ hw111_1)).trans hw111_1)⟩ (fun hHeld => ?_)
   clear hK K
   refine nu 36 ?_
   refine pu 12 (some 37) (ba 13 8191) HT_.out ?_
   refine done_ (done_of HT_.out (by kernel_rfl)) ?_
   try go_wp2
   go_roundg k2
   case measure => have := HJ2.out; have := HK2.out; omega
   case rel => exact ⟨(wrap64 (x6_2 + 1)), qs, H', ⟨by have := HJ2.out; have := HK2.out; omega⟩, ⟨qk BK107.out⟩, ⟨qk BK100.out⟩, ⟨qb HB.out⟩⟩
 rw [if_neg c21] at H
 have c21b0 : decide (x6_2 < (l1.length : Int)) = false := decide_eq_false c21
 clear c21
 replace H := Option.bind_eq_some_iff.mp H
 obtain ⟨t103, A112, H⟩ := H
 have A29 := Aside0.mk A112
 clear A112
 replace H := Option.bind_eq_some_iff.mp H
 obtain ⟨t104, A113, H⟩ := H
 have A30 := Aside0.mk A113
 clear A113
 by_cases c31 : t103 = t104
 rotate_left
 · rw [if_neg c31] at H
   have c31b0 : (t103 == t104) = false := beq_eq_false_iff_ne.mpr c31
   have c31b1 : (t103 != t104) = true := bne_iff_ne.mpr c31
   obtain rfl := Option.some.inj H
   try go_wp2
   replace BK107 := q0 (blk_drew BK107.out)
   replace BK100 := q0 (blk_drew BK100.out)
   replace HB := q0 (below_drew1 HB.out)
   refine start_ (n := 16) (S := fun w' => w'.cell? ⟨gb100, 0, none⟩ = some (.int .i64 a0_0) ∧ w'.cell? ⟨gb100, 1, none⟩ = some (.slice A1 l1.length c1) ∧ w'.cell? ⟨gb107, 0, none⟩ = some (.int .i64 a0_0) ∧ w'.cell? ⟨gb107, 1, none⟩ = some (.slice A0_1 l0_1.length c0_1)) (ds := []) (ba 16 0) (by kernel_rfl) rfl (by kernel_rfl) ⟨(blk_cell BK100.out 0).trans rfl, (blk_cell BK100.out 1).trans rfl, (blk_cell BK107.out 0).trans rfl, (blk_cell BK107.out 1).trans rfl⟩ (fun hHeld => ?_); refine with_tabW spec_TreeOk.tab9 spec_TreeOk.bits9 (fun HT_ HW_ => ?_)
   generalize wr.drew = w37 at BK107 BK100 HB hHeld ⊢
   refine tu 0 (some 38) (ba 16 1) HT_.out HW_.out hHeld ?_
   refine tu 2 (some 40) (ba 16 5) HT_.out HW_.out hHeld ?_
   refine one_ (i := 1) (N := some 39) (ba 16 7) rfl rfl (one_of HT_.out (by kernel_rfl)) (by decide) (fun K hK => ?_)
   refine goes_ Try.func64 (by kernel_rfl) rfl #[.agg #[.int .i64 a0_0, .slice A1 l1.length c1]] (by rfl) rfl rfl qm ?_
   with_reducible refine (spec_WayCount.calls k2 a0_0 _ _ l1 t103 _ ?side1 ?side2 A29.out).mono ?_
   (case side1 => exact qc (Kd.C_below HR1.out HB.out))
   (case side2 => exact HC1.out)
   rintro e w38 ⟨rfl, hb⟩
   refine ⟨_, rfl, ?_⟩
   replace BK107 := q0 (kb BK107.out hb)
   replace BK100 := q0 (kb BK100.out hb)
   replace HB := q0 (below_step (qb HB.out) hb)
   (try clear hb)
   (try clear hb2)
   (try clear hk)
   (try clear hi)
   refine hK.out _ _ ⟨(blk_cell BK100.out 0).trans rfl, (blk_cell BK100.out 1).trans rfl, (blk_cell BK107.out 0).trans rfl, (blk_cell BK107.out 1).trans rfl⟩ (fun hHeld => ?_)
   clear hK K
   refine nu 39 ?_
   refine one_ (i := 3) (N := some 41) (ba 16 15) rfl rfl (one_of HT_.out (by kernel_rfl)) (by decide) (fun K hK => ?_)
   refine goes_ Try.func64 (by kernel_rfl) rfl #[.agg #[.int .i64 a0_0, .slice A0_1 l0_1.length c0_1]] (by rfl) rfl rfl qm ?_
   with_reducible refine (spec_WayCount.calls k2 a0_0 _ _ l0_1 t104 _ ?side1 ?side2 A30.out).mono ?_
   (case side1 => exact qc (Kd.C_below HR0_1.out HB.out))
   (case side2 => exact HC0_1.out)
   rintro e w39 ⟨rfl, hb⟩
   refine ⟨_, rfl, ?_⟩
   replace BK107 := q0 (kb BK107.out hb)
   replace BK100 := q0 (kb BK100.out hb)
   replace HB := q0 (below_step (qb HB.out) hb)
   (try clear hb)
   (try clear hb2)
   (try clear hk)
   (try clear hi)
   refine hK.out _ _ ⟨(blk_cell BK100.out 0).trans rfl, (blk_cell BK100.out 1).trans rfl, (blk_cell BK107.out 0).trans rfl, (blk_cell BK107.out 1).trans rfl⟩ (fun hHeld => ?_)
   clear hK K
   refine nu 41 ?_
   refine pu 4 (some 42) (ba 16 31) HT_.out ?_
   refine pu 5 (some 43) (ba 16 63) HT_.out ?_
   refine pv 6 (some 44) (ba 16 127) HT_.out ?_
   refine pv 7 (some 45) (ba 16 255) HT_.out ?_
   refine pv 8 (some 46) (ba 16 511) HT_.out ?_
   refine pv 9 (some 47) (ba 16 1023) HT_.out ?_
   refine pv 10 (some 48) (ba 16 2047) HT_.out ?_
   refine pv 11 (some 49) (ba 16 4095) HT_.out ?_
   refine pv 12 (some 50) (ba 16 8191) HT_.out ?_
   refine pv 13 (some 51) (ba 16 16383) HT_.out ?_
   refine pu 14 (some 52) (ba 16 32767) HT_.out ?_
   refine pu 15 (some 4) (ba 16 65535) HT_.out ?_
   refine done_ (done_of HT_.out (by kernel_rfl)) ?_
   try go_wp2
   go_ret
   exact ⟨qe, qb HB.out⟩
 rw [if_pos c31] at H
 have c31b0 : (t103 == t104) = true := beq_iff_eq.mpr c31
 have c31b1 : (t103 != t104) = false := bne_eq_false_iff_eq.mpr c31
 clear c31
 replace H := Option.bind_eq_some_iff.mp H
 obtain ⟨t105, A114, H⟩ := H
 have A32 := Aside0.mk A114
 clear A114
 obtain rfl := Option.some.inj H
 try go_wp2
 replace BK107 := q0 (blk_drew BK107.out)
 replace BK100 := q0 (blk_drew BK100.out)
 replace HB := q0 (below_drew1 HB.out)
 refine start_ (n := 16) (S := fun w' => w'.cell? ⟨gb100, 0, none⟩ = some (.int .i64 a0_0) ∧ w'.cell? ⟨gb100, 1, none⟩ = some (.slice A1 l1.length c1) ∧ w'.cell? ⟨gb107, 0, none⟩ = some (.int .i64 a0_0) ∧ w'.cell? ⟨gb107, 1, none⟩ = some (.slice A0_1 l0_1.length c0_1)) (ds := []) (ba 16 0) (by kernel_rfl) rfl (by kernel_rfl) ⟨(blk_cell BK100.out 0).trans rfl, (blk_cell BK100.out 1).trans rfl, (blk_cell BK107.out 0).trans rfl, (blk_cell BK107.out 1).trans rfl⟩ (fun hHeld => ?_); refine with_tabW spec_TreeOk.tab9 spec_TreeOk.bits9 (fun HT_ HW_ => ?_)
 generalize wr.drew = w33 at BK107 BK100 HB hHeld ⊢
 refine tu 0 (some 38) (ba 16 1) HT_.out HW_.out hHeld ?_
 refine tu 2 (some 40) (ba 16 5) HT_.out HW_.out hHeld ?_
 refine one_ (i := 1) (N := some 39) (ba 16 7) rfl rfl (one_of HT_.out (by kernel_rfl)) (by decide) (fun K hK => ?_)
 refine goes_ Try.func64 (by kernel_rfl) rfl #[.agg #[.int .i64 a0_0, .slice A1 l1.length c1]] (by rfl) rfl rfl qm ?_
 with_reducible refine (spec_WayCount.calls k2 a0_0 _ _ l1 t103 _ ?side1 ?side2 A29.out).mono ?_
 (case side1 => exact qc (Kd.C_below HR1.out HB.out))
 (case side2 => exact HC1.out)
 rintro e w34 ⟨rfl, hb⟩
 refine ⟨_, rfl, ?_⟩
 replace BK107 := q0 (kb BK107.out hb)
 replace BK100 := q0 (kb BK100.out hb)
 replace HB := q0 (below_step (qb HB.out) hb)
 (try clear hb)
 (try clear hb2)
 (try clear hk)
 (try clear hi)
 refine hK.out _ _ ⟨(blk_cell BK100.out 0).trans rfl, (blk_cell BK100.out 1).trans rfl, (blk_cell BK107.out 0).trans rfl, (blk_cell BK107.out 1).trans rfl⟩ (fun hHeld => ?_)
 clear hK K
 refine nu 39 ?_
 refine one_ (i := 3) (N := some 41) (ba 16 15) rfl rfl (one_of HT_.out (by kernel_rfl)) (by decide) (fun K hK => ?_)
 refine goes_ Try.func64 (by kernel_rfl) rfl #[.agg #[.int .i64 a0_0, .slice A0_1 l0_1.length c0_1]] (by rfl) rfl rfl qm ?_
 with_reducible refine (spec_WayCount.calls k2 a0_0 _ _ l0_1 t104 _ ?side1 ?side2 A30.out).mono ?_
 (case side1 => exact qc (Kd.C_below HR0_1.out HB.out))
 (case side2 => exact HC0_1.out)
 rintro e w35 ⟨rfl, hb⟩
 refine ⟨_, rfl, ?_⟩
 replace BK107 := q0 (kb BK107.out hb)
 replace BK100 := q0 (kb BK100.out hb)
 replace HB := q0 (below_step (qb HB.out) hb)
 (try clear hb)
 (try clear hb2)
 (try clear hk)
 (try clear hi)
 refine hK.out _ _ ⟨(blk_cell BK100.out 0).trans rfl, (blk_cell BK100.out 1).trans rfl, (blk_cell BK107.out 0).trans rfl, (blk_cell BK107.out 1).trans rfl⟩ (fun hHeld => ?_)
 clear hK K
 refine nu 41 ?_
 refine pu 4 (some 42) (ba 16 31) HT_.out ?_
 refine pu 5 (some 43) (ba 16 63) HT_.out ?_
 refine pu 6 (some 44) (ba 16 127) HT_.out ?_
 refine pu 7 (some 45) (ba 16 255) HT_.out ?_
 refine pu 8 (some 46) (ba 16 511) HT_.out ?_
 refine tu 9 (some 47) (ba 16 1023) HT_.out HW_.out hHeld ?_
 refine tu 10 (some 48) (ba 16 2047) HT_.out HW_.out hHeld ?_
 refine one_ (i := 11) (N := some 49) (ba 16 4095) rfl rfl (one_of HT_.out (by kernel_rfl)) (by decide) (fun K hK => ?_)
 refine goes_ Try.func64 (by kernel_rfl) rfl #[.agg #[.int .i64 a0_0, .slice A0_1 l0_1.length c0_1]] (by rfl) rfl rfl qm ?_
 with_reducible refine (spec_WayCount.calls k2 a0_0 _ _ l0_1 t105 _ ?side1 ?side2 A32.out).mono ?_
 (case side1 => exact qc (Kd.C_below HR0_1.out HB.out))
 (case side2 => exact HC0_1.out)
 rintro e w36 ⟨rfl, hb⟩
 refine ⟨_, rfl, ?_⟩
 replace BK107 := q0 (kb BK107.out hb)
 replace BK100 := q0 (kb BK100.out hb)
 replace HB := q0 (below_step (qb HB.out) hb)
 (try clear hb)
 (try clear hb2)
 (try clear hk)
 (try clear hi)
 refine hK.out _ _ ⟨(blk_cell BK100.out 0).trans rfl, (blk_cell BK100.out 1).trans rfl, (blk_cell BK107.out 0).trans rfl, (blk_cell BK107.out 1).trans rfl⟩ (fun hHeld => ?_)
 clear hK K
 refine nu 49 ?_
 refine pu 12 (some 50) (ba 16 8191) HT_.out ?_
 refine pu 13 (some 51) (ba 16 16383) HT_.out ?_
 refine pu 14 (some 52) (ba 16 32767) HT_.out ?_
 refine pu 15 (some 4) (ba 16 65535) HT_.out ?_
 refine done_ (done_of HT_.out (by kernel_rfl)) ?_
 try go_wp2
 go_ret
 exact ⟨qe, qb HB.out⟩

attribute [local go_sem high] eqATie
set_option maxHeartbeats 8000000 in
set_option maxRecDepth 100000 in
theorem laws_loLess.calls (k : Nat) (A0 : Option Addr) (c0 : Nat) (l0 : List (STie)) (A1 : Option Addr) (c1 : Nat) (l1 : List (STie)) (r : Bool) (w : World) (hr0 : Kd.C kTie w A0 l0.length l0) (hc0 : l0.length ≤ c0) (hr1 : Kd.C kTie w A1 l1.length l1) (hc1 : l1.length ≤ c1) (h : laws_loLess.f k l0 l1 = some r) :
    Calls Try.prog 25 #[.slice A0 l0.length c0, .slice A1 l1.length c1] w fun e w' => e = .returned (.bool r) ∧ Drawn0 w w' := by
 have hu32 := Try.underlying32
 have HR0 := Aside0.mk hr0
 have HC0 := Aside0.mk hc0
 clear hr0 hc0
 have HR1 := Aside0.mk hr1
 have HC1 := Aside0.mk hc1
 clear hr1 hc1
 have H : (laws_loLess.l0 k l0 l1 0) = some r := h
 clear h
 have H' := Aside0.mk H
 clear H
 go_enter Try.func25, Try.ntmps25
 go_wp2
 repeat (go_quiet (fail); try go_wp2)
 go_loopg [5] k (fun kq v5 w' => ∃ (x5_1 : Int), v5 = .int .i64 x5_1 ∧ Aside0 (laws_loLess.l0 kq l0 l1 x5_1 = some r) ∧ Aside0 (kq ≤ k) ∧ Drawn0 w w')
 case atStart => exact ⟨(0), qs, H', ⟨Nat.le_refl _⟩, by repeat (first | exact Drawn0.refl _ | apply Drawn0.step)⟩
 clear H'
 try clear c1
 try clear c2
 try clear p2
 obtain ⟨x5_1, rfl, HA, HK1, ⟨m1, rfl⟩⟩ := hrel
 rcases gk with _ | k1
 · exact absurd HA.out (by simp [laws_loLess.l0])
 have H := HA.out
 clear HA
 simp only [laws_loLess.l0] at H
 have HC3 := Aside0.mk H
 clear H
 go_upto_region 2 with (fail)
 repeat (go_quiet (fail); go_upto_region 2 with (fail))
 go_cut [15] (fun v15 wc => ∃ (kq : Nat) (x15_2 : Bool), v15 = .bool x15_2 ∧ Aside0 (laws_loLess.j1 kq l0 l1 x5_1 x15_2 = some r) ∧ Aside0 (kq ≤ k1) ∧ Drawn0 w wc)
 case first =>
   have H := HC3.out
   clear HC3
   by_cases c4 : x5_1 < (l0.length : Int)
   · rw [if_pos c4] at H
     have c4b0 : decide (x5_1 < (l0.length : Int)) = true := decide_eq_true c4
     clear c4
     (first | rw [c4b0] | (simp only [i64_w, i32_w]; rw [c4b0]) | skip)
     have H' := Aside0.mk H
     clear H
     go_wp2
     repeat (go_quiet (fail); try go_wp2)
     go_meet
     case rel => exact ⟨_, (decide (x5_1 < (l1.length : Int))), qs, H', ⟨by have := HK1.out; first | omega | exact Nat.le_refl _⟩, by repeat (first | exact Drawn0.refl _ | apply Drawn0.step)⟩
   rw [if_neg c4] at H
   have c4b0 : decide (x5_1 < (l0.length : Int)) = false := decide_eq_false c4
   clear c4
   (first | rw [c4b0] | (simp only [i64_w, i32_w]; rw [c4b0]) | skip)
   have H' := Aside0.mk H
   clear H
   go_wp2
   repeat (go_quiet (fail); try go_wp2)
   go_meet
   case rel => exact ⟨_, (false), qs, H', ⟨by have := HK1.out; first | omega | exact Nat.le_refl _⟩, by repeat (first | exact Drawn0.refl _ | apply Drawn0.step)⟩
 clear HC3
 try clear c1
 try clear c2
 try clear p2
 try clear c4
 try clear c4b0
 try clear p2
 obtain ⟨kq, x15_2, rfl, HA, HJ2, ⟨mc2, rfl⟩⟩ := hcut
 rcases kq with _ | kj2
 · exact absurd HA.out (by simp [laws_loLess.j1])
 have H := HA.out
 clear HA
 simp only [laws_loLess.j1] at H
 by_cases c5 : x15_2 = true
 rotate_left
 · replace c5 := Bool.eq_false_iff.mpr c5
   subst c5
   rw [if_neg nf] at H
   obtain rfl := Option.some.inj H
   go_wp2
   repeat (go_quiet (fail); try go_wp2)
   go_ret
   exact ⟨by first | rfl | (simp; done) | (simp [*]; done), by repeat (first | exact Drawn0.refl _ | apply Drawn0.step)⟩
 subst c5
 rw [if_pos rfl] at H
 by_cases c6 : 0 ≤ x5_1
 rotate_left
 · rw [if_neg c6] at H
   exact absurd H (by simp)
 rw [if_pos c6] at H
 have c6b0 : decide (0 ≤ x5_1) = true := decide_eq_true c6
 clear c6
 by_cases c7 : x5_1 < (l0.length : Int)
 rotate_left
 · rw [if_neg c7] at H
   exact absurd H (by simp)
 rw [if_pos c7] at H
 have c7b0 : decide (x5_1 < (l0.length : Int)) = true := decide_eq_true c7
 clear c7
 by_cases c8 : x5_1 < (l1.length : Int)
 rotate_left
 · rw [if_neg c8] at H
   exact absurd H (by simp)
 rw [if_pos c8] at H
 have c8b0 : decide (x5_1 < (l1.length : Int)) = true := decide_eq_true c8
 clear c8
 by_cases c9 : (!(((rd_TTie l0 x5_1).f0) == ((rd_TTie l1 x5_1).f0)) || (!(((rd_TTie l0 x5_1).f1) == ((rd_TTie l1 x5_1).f1)))) = true
 rotate_left
 · rw [if_neg c9] at H
   have c9b0 : (!(((rd_TTie l0 x5_1).f0) == ((rd_TTie l1 x5_1).f0)) || (!(((rd_TTie l0 x5_1).f1) == ((rd_TTie l1 x5_1).f1)))) = false := by simpa using c9
   clear c9
   have H' := Aside0.mk H
   clear H
   have p100 : 0 ≤ (x5_1 : Int) := of_decide_eq_true qa
   have q100 : x5_1 < (l0.length : Int) := of_decide_eq_true qa
   obtain ⟨ad100, e100, hx100_0, hx100_1⟩ := at_TTie HR0.out x5_1 p100 q100
   cases e100
   replace p100 := eq_true p100
   replace q100 := eq_true q100
   have p101 : 0 ≤ (x5_1 : Int) := of_decide_eq_true qa
   have q101 : x5_1 < (l1.length : Int) := of_decide_eq_true qa
   obtain ⟨ad101, e101, hx101_0, hx101_1⟩ := at_TTie HR1.out x5_1 p101 q101
   cases e101
   replace p101 := eq_true p101
   replace q101 := eq_true q101
   go_wp2
   repeat (go_quiet (fail); try go_wp2)
   go_roundg kj2
   case measure => have := HK1.out; have := HJ2.out; omega
   case rel => exact ⟨(wrap64 (x5_1 + 1)), qs, H', ⟨by have := HK1.out; have := HJ2.out; omega⟩, by repeat (first | exact Drawn0.refl _ | apply Drawn0.step)⟩
 rw [if_pos c9] at H
 have c9b0 : (!(((rd_TTie l0 x5_1).f0) == ((rd_TTie l1 x5_1).f0)) || (!(((rd_TTie l0 x5_1).f1) == ((rd_TTie l1 x5_1).f1)))) = true := c9
 clear c9
 by_cases c10 : ((rd_TTie l0 x5_1).f0) < ((rd_TTie l1 x5_1).f0)
 · rw [if_pos c10] at H
   have c10b0 : decide (((rd_TTie l0 x5_1).f0) < ((rd_TTie l1 x5_1).f0)) = true := decide_eq_true c10
   clear c10
   obtain rfl := Option.some.inj H
   have p100 : 0 ≤ (x5_1 : Int) := of_decide_eq_true qa
   have q100 : x5_1 < (l0.length : Int) := of_decide_eq_true qa
   obtain ⟨ad100, e100, hx100_0, hx100_1⟩ := at_TTie HR0.out x5_1 p100 q100
   cases e100
   replace p100 := eq_true p100
   replace q100 := eq_true q100
   have p101 : 0 ≤ (x5_1 : Int) := of_decide_eq_true qa
   have q101 : x5_1 < (l1.length : Int) := of_decide_eq_true qa
   obtain ⟨ad101, e101, hx101_0, hx101_1⟩ := at_TTie HR1.out x5_1 p101 q101
   cases e101
   replace p101 := eq_true p101
   replace q101 := eq_true q101
   have p102 : 0 ≤ (x5_1 : Int) := of_decide_eq_true qa
   have q102 : x5_1 < (l0.length : Int) := of_decide_eq_true qa
   obtain ⟨ad102, e102, hx102_0, hx102_1⟩ := at_TTie HR0.out x5_1 p102 q102
   obtain rfl : ad100 = ad102 := (by injection e102)
   replace p102 := eq_true p102
   replace q102 := eq_true q102
   have p103 : 0 ≤ (x5_1 : Int) := of_decide_eq_true qa
   have q103 : x5_1 < (l1.length : Int) := of_decide_eq_true qa
   obtain ⟨ad103, e103, hx103_0, hx103_1⟩ := at_TTie HR1.out x5_1 p103 q103
   obtain rfl : ad101 = ad103 := (by injection e103)
   replace p103 := eq_true p103
   replace q103 := eq_true q103
   go_wp2
   repeat (go_quiet (fail); try go_wp2)
   go_ret
   exact ⟨by first | rfl | (simp; done) | (simp [*]; done), by repeat (first | exact Drawn0.refl _ | apply Drawn0.step)⟩
 rw [if_neg c10] at H
 have c10b0 : decide (((rd_TTie l0 x5_1).f0) < ((rd_TTie l1 x5_1).f0)) = false := decide_eq_false c10
 clear c10
 by_cases c11 : ((rd_TTie l0 x5_1).f0) = ((rd_TTie l1 x5_1).f0)
 rotate_left
 · rw [if_neg c11] at H
   have c11b0 : (((rd_TTie l0 x5_1).f0) == ((rd_TTie l1 x5_1).f0)) = false := beq_eq_false_iff_ne.mpr c11
   have c11b1 : (((rd_TTie l0 x5_1).f0) != ((rd_TTie l1 x5_1).f0)) = true := bne_iff_ne.mpr c11
   obtain rfl := Option.some.inj H
   have p100 : 0 ≤ (x5_1 : Int) := of_decide_eq_true qa
   have q100 : x5_1 < (l0.length : Int) := of_decide_eq_true qa
   obtain ⟨ad100, e100, hx100_0, hx100_1⟩ := at_TTie HR0.out x5_1 p100 q100
   cases e100
   replace p100 := eq_true p100
   replace q100 := eq_true q100
   have p101 : 0 ≤ (x5_1 : Int) := of_decide_eq_true qa
   have q101 : x5_1 < (l1.length : Int) := of_decide_eq_true qa
   obtain ⟨ad101, e101, hx101_0, hx101_1⟩ := at_TTie HR1.out x5_1 p101 q101
   cases e101
   replace p101 := eq_true p101
   replace q101 := eq_true q101
   have p102 : 0 ≤ (x5_1 : Int) := of_decide_eq_true qa
   have q102 : x5_1 < (l0.length : Int) := of_decide_eq_true qa
   obtain ⟨ad102, e102, hx102_0, hx102_1⟩ := at_TTie HR0.out x5_1 p102 q102
   obtain rfl : ad100 = ad102 := (by injection e102)
   replace p102 := eq_true p102
   replace q102 := eq_true q102
   have p103 : 0 ≤ (x5_1 : Int) := of_decide_eq_true qa
   have q103 : x5_1 < (l1.length : Int) := of_decide_eq_true qa
   obtain ⟨ad103, e103, hx103_0, hx103_1⟩ := at_TTie HR1.out x5_1 p103 q103
   obtain rfl : ad101 = ad103 := (by injection e103)
   replace p103 := eq_true p103
   replace q103 := eq_true q103
   have p104 : 0 ≤ (x5_1 : Int) := of_decide_eq_true qa
   have q104 : x5_1 < (l0.length : Int) := of_decide_eq_true qa
   obtain ⟨ad104, e104, hx104_0, hx104_1⟩ := at_TTie HR0.out x5_1 p104 q104
   obtain rfl : ad100 = ad104 := (by injection e104)
   replace p104 := eq_true p104
   replace q104 := eq_true q104
   have p105 : 0 ≤ (x5_1 : Int) := of_decide_eq_true qa
   have q105 : x5_1 < (l1.length : Int) := of_decide_eq_true qa
   obtain ⟨ad105, e105, hx105_0, hx105_1⟩ := at_TTie HR1.out x5_1 p105 q105
   obtain rfl : ad101 = ad105 := (by injection e105)
   replace p105 := eq_true p105
   replace q105 := eq_true q105
   go_wp2
   repeat (go_quiet (fail); try go_wp2)
   go_ret
   exact ⟨by first | rfl | (simp; done) | (simp [*]; done), by repeat (first | exact Drawn0.refl _ | apply Drawn0.step)⟩
 rw [if_pos c11] at H
 have c11b0 : (((rd_TTie l0 x5_1).f0) == ((rd_TTie l1 x5_1).f0)) = true := beq_iff_eq.mpr c11
 have c11b1 : (((rd_TTie l0 x5_1).f0) != ((rd_TTie l1 x5_1).f0)) = false := bne_eq_false_iff_eq.mpr c11
 have c9b1 : (((rd_TTie l0 x5_1).f1) == ((rd_TTie l1 x5_1).f1)) = false := by rw [c11b0] at c9b0; simpa using c9b0
 have c9b2 : (!(((rd_TTie l0 x5_1).f1) == ((rd_TTie l1 x5_1).f1))) = true := by rw [c9b1]; rfl
 clear c11
 obtain rfl := Option.some.inj H
 have p100 : 0 ≤ (x5_1 : Int) := of_decide_eq_true qa
 have q100 : x5_1 < (l0.length : Int) := of_decide_eq_true qa
 obtain ⟨ad100, e100, hx100_0, hx100_1⟩ := at_TTie HR0.out x5_1 p100 q100
 cases e100
 replace p100 := eq_true p100
 replace q100 := eq_true q100
 have p101 : 0 ≤ (x5_1 : Int) := of_decide_eq_true qa
 have q101 : x5_1 < (l1.length : Int) := of_decide_eq_true qa
 obtain ⟨ad101, e101, hx101_0, hx101_1⟩ := at_TTie HR1.out x5_1 p101 q101
 cases e101
 replace p101 := eq_true p101
 replace q101 := eq_true q101
 have p102 : 0 ≤ (x5_1 : Int) := of_decide_eq_true qa
 have q102 : x5_1 < (l0.length : Int) := of_decide_eq_true qa
 obtain ⟨ad102, e102, hx102_0, hx102_1⟩ := at_TTie HR0.out x5_1 p102 q102
 obtain rfl : ad100 = ad102 := (by injection e102)
 replace p102 := eq_true p102
 replace q102 := eq_true q102
 have p103 : 0 ≤ (x5_1 : Int) := of_decide_eq_true qa
 have q103 : x5_1 < (l1.length : Int) := of_decide_eq_true qa
 obtain ⟨ad103, e103, hx103_0, hx103_1⟩ := at_TTie HR1.out x5_1 p103 q103
 obtain rfl : ad101 = ad103 := (by injection e103)
 replace p103 := eq_true p103
 replace q103 := eq_true q103
 have p104 : 0 ≤ (x5_1 : Int) := of_decide_eq_true qa
 have q104 : x5_1 < (l0.length : Int) := of_decide_eq_true qa
 obtain ⟨ad104, e104, hx104_0, hx104_1⟩ := at_TTie HR0.out x5_1 p104 q104
 obtain rfl : ad100 = ad104 := (by injection e104)
 replace p104 := eq_true p104
 replace q104 := eq_true q104
 have p105 : 0 ≤ (x5_1 : Int) := of_decide_eq_true qa
 have q105 : x5_1 < (l1.length : Int) := of_decide_eq_true qa
 obtain ⟨ad105, e105, hx105_0, hx105_1⟩ := at_TTie HR1.out x5_1 p105 q105
 obtain rfl : ad101 = ad105 := (by injection e105)
 replace p105 := eq_true p105
 replace q105 := eq_true q105
 have p106 : 0 ≤ (x5_1 : Int) := of_decide_eq_true qa
 have q106 : x5_1 < (l0.length : Int) := of_decide_eq_true qa
 obtain ⟨ad106, e106, hx106_0, hx106_1⟩ := at_TTie HR0.out x5_1 p106 q106
 obtain rfl : ad100 = ad106 := (by injection e106)
 replace p106 := eq_true p106
 replace q106 := eq_true q106
 have p107 : 0 ≤ (x5_1 : Int) := of_decide_eq_true qa
 have q107 : x5_1 < (l1.length : Int) := of_decide_eq_true qa
 obtain ⟨ad107, e107, hx107_0, hx107_1⟩ := at_TTie HR1.out x5_1 p107 q107
 obtain rfl : ad101 = ad107 := (by injection e107)
 replace p107 := eq_true p107
 replace q107 := eq_true q107
 go_wp2
 repeat (go_quiet (fail); try go_wp2)
 go_ret
 exact ⟨by first | rfl | (simp; done) | (simp [*]; done), by repeat (first | exact Drawn0.refl _ | apply Drawn0.step)⟩

end Go.Proofs.Ytgoembpmhlmafaa.P
