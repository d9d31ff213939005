import Derived.Test.YthaihdfkjhammaaP0
import Derived.Test.YthaihdfkjhammaaP1
import Derived.Test.YthaihdfkjhammaaP2
import Derived.Test.YthaihdfkjhammaaP11
namespace Go.Proofs.Ythaihdfkjhammaa.P
open Go.RowKit Go.Proofs.YthaihdfkjhammaaW.PrintWords Go.Proofs.YthaihdfkjhammaaW.PrintLast Go.Proofs.YthaihdfkjhammaaW.PrintMore
attribute [local go_sem] max2_int min2_int max_two min_two max_three min_three max_four min_four
set_option linter.unusedVariables false
set_option linter.unusedSimpArgs false
attribute [local go_sem high] eqATie
set_option maxHeartbeats 8000000 in
set_option maxRecDepth 100000 in
theorem spec_WayParts.calls (k : Nat) (a0_0 : Int) (A0_1 : Option Addr) (c0_1 : Nat) (l0_1 : List (STie)) (r : List Int) (w : World) (hr0_1 : Kd.C kTie w A0_1 l0_1.length l0_1) (hc0_1 : l0_1.length ≤ c0_1) (h : spec_WayParts.f k a0_0 l0_1 = some r) :
    Calls Try.prog 65 #[.agg #[.int .i64 a0_0, .slice A0_1 l0_1.length c0_1]] w fun e w' => ∃ v0_ : Value, e = .returned (v0_) ∧ Kd.R (Kd.int .i64) 3 w' w.heap.size (fun _ => True) v0_ r ∧ Below w.heap.size w w' := by
 have hu30 := Try.underlying30
 have HR0_1 := Aside0.mk hr0_1
 have HC0_1 := Aside0.mk hc0_1
 clear hr0_1 hc0_1
 have HB := q0 (Below.refl w.heap.size w)
 have H : ((some (([] : List Int) : List Int)).bind fun y100 => ((spec_NetOk.f k a0_0 l0_1).bind fun t102 => (if t102 = true then (spec_WayParts.l0 k y100 0 a0_0 l0_1) else (some y100)))) = some r := h
 clear h
 obtain ⟨y100, hy100⟩ : ∃ y_ : List Int, y_ = (([] : List Int)) := ⟨_, rfl⟩
 replace H : ((spec_NetOk.f k a0_0 l0_1).bind fun t102 => (if t102 = true then (spec_WayParts.l0 k y100 0 a0_0 l0_1) else (some y100))) = some r := by first | (rw [hy100]; with_reducible exact H) | (have H2_ := (Option.bind_some _ _).symm.trans H; rw [hy100]; with_reducible exact H2_) | (have H2_ := (Option.bind_some _ _).symm.trans H; with_reducible exact H2_) | with_reducible exact H | (rw [hy100]; exact H) | exact H
 have Ny100 := Aside0.mk hy100
 clear hy100
 replace H := Option.bind_eq_some_iff.mp H
 obtain ⟨t102, A20, H⟩ := H
 replace H : (if t102 = true then (spec_WayParts.l0 k y100 0 a0_0 l0_1) else (some y100)) = some r := H
 have A2 := Aside0.mk A20
 clear A20
 by_cases c3 : t102 = true
 rotate_left
 · replace c3 := Bool.eq_false_iff.mpr c3
   subst c3
   have H1 : (some y100) = some r := by rw [if_neg (show ¬ (false = true) by decide)] at H; exact H
   clear H
   have H := H1
   clear H1
   obtain rfl := Option.some.inj H
   go_enter Try.func65, Try.ntmps65
   go_wp2_with (first | ((with_reducible refine gate_dst (N := 1) rfl ?_); refine be 1 #[.int .i64 a0_0, .slice A0_1 l0_1.length c0_1] 30 ?_; intro gb103 hg w22 hbox hb; have n0_ := q0 (below_step (qb HB.out) hb); have n1_ := q0 (hbox); have n2_ := q0 ((bs HB.out hg : w.heap.size ≤ gb103)); have n3_ := q0 ((bs HB.out hg : w.heap.size ≤ gb103)); clear HB; have HB := n0_; have BK103 := n1_; have GW103 := n2_; have GE103 := n3_; clear n0_ n1_ n2_ n3_ hb hbox hg) | ((with_reducible refine gate_dst (N := 7) rfl ?_); refine Kd.R_lit (Kd.int .i64) _ 3 ?hg (N := 7) ?hd (xs := ([] : List Int)) (inner := []) (ok := fun _ => True) (okp := fun _ => True) ?hr ?hp (fun _ hk => hk) trivial (Below.refl _ _) (Nat.le_refl _) (by simp) ?_; (case hd => rfl); (case hg => rfl); (case hr => first | (go_simp; done) | (go_simp; rfl)); (case hp => exact (Reps.none _ _)); intro v104 w23 ho24 hb hg_ hnew_; clear hg_ hnew_; (first | rw [← Ny100.out] at ho24 | (simp only [Int.reduceToNat] at ho24; rw [← Ny100.out] at ho24)); have n0_ := q0 (Kd.R_lower ho24 (below_size (qb HB.out))); have n1_ := q0 (kb BK103.out hb); have n2_ := q0 (below_step (qb HB.out) hb); clear BK103 HB; have HO105 := n0_; have BK103 := n1_; have HB := n2_; clear n0_ n1_ n2_ hb ho24; have hcz25_0 : w23.cell? ⟨gb103, 0, none⟩ = some (.int .i64 a0_0) := (blk_cell BK103.out 0).trans rfl; have hcz25_1 : w23.cell? ⟨gb103, 1, none⟩ = some (.slice A0_1 l0_1.length c0_1) := (blk_cell BK103.out 1).trans rfl; have hfz25_0 := blk_frozen BK103.out 0; have hfz25_1 := blk_frozen BK103.out 1) | ((with_reducible refine gate_callee (f := 15) rfl ?_); refine goesL_ (some 9) rfl rfl Try.func15 (by kernel_rfl) rfl #[.agg #[.int .i64 a0_0, .slice A0_1 l0_1.length c0_1]] rfl qm ?_; (with_reducible refine (spec_NetOk.calls k a0_0 _ _ l0_1 false _ ?side1 ?side2 A2.out).mono ?_); (case side1 => exact qc (Kd.C_below HR0_1.out HB.out)); (case side2 => exact HC0_1.out); rintro e w26 ⟨rfl, hb⟩; refine ⟨_, rfl, ?_⟩; have n0_ := q0 (Kd.R_below (qr HO105.out) hb); have n1_ := q0 (kb BK103.out hb); have n2_ := q0 (below_step (qb HB.out) hb); clear HO105 BK103 HB; have HO105 := n0_; have BK103 := n1_; have HB := n2_; clear n0_ n1_ n2_; (try clear hb); (try clear hb2); (try clear hk); (try clear hi)))
   go_ret
   exact ⟨_, qe, by (with_reducible repeat (first | apply Kd.R_alloc | apply Kd.R_drewN | apply Kd.R_drew)); exact HO105.out, qb HB.out⟩
 subst c3
 have H1 : (spec_WayParts.l0 k y100 0 a0_0 l0_1) = some r := by rw [if_pos rfl] at H; exact H
 clear H
 have H := H1
 clear H1
 have H' := Aside0.mk H
 clear H
 go_enter Try.func65, Try.ntmps65
 go_wp2_with (first | ((with_reducible refine gate_dst (N := 1) rfl ?_); refine be 1 #[.int .i64 a0_0, .slice A0_1 l0_1.length c0_1] 30 ?_; intro gb103 hg w4 hbox hb; have n0_ := q0 (below_step (qb HB.out) hb); have n1_ := q0 (hbox); have n2_ := q0 ((bs HB.out hg : w.heap.size ≤ gb103)); have n3_ := q0 ((bs HB.out hg : w.heap.size ≤ gb103)); clear HB; have HB := n0_; have BK103 := n1_; have GW103 := n2_; have GE103 := n3_; clear n0_ n1_ n2_ n3_ hb hbox hg) | ((with_reducible refine gate_dst (N := 7) rfl ?_); refine Kd.R_lit (Kd.int .i64) _ 3 ?hg (N := 7) ?hd (xs := ([] : List Int)) (inner := []) (ok := fun _ => True) (okp := fun _ => True) ?hr ?hp (fun _ hk => hk) trivial (Below.refl _ _) (Nat.le_refl _) (by simp) ?_; (case hd => rfl); (case hg => rfl); (case hr => first | (go_simp; done) | (go_simp; rfl)); (case hp => exact (Reps.none _ _)); intro v104 w5 ho6 hb hg_ hnew_; clear hg_ hnew_; (first | rw [← Ny100.out] at ho6 | (simp only [Int.reduceToNat] at ho6; rw [← Ny100.out] at ho6)); have n0_ := q0 (Kd.R_lower ho6 (below_size (qb HB.out))); have n1_ := q0 (kb BK103.out hb); have n2_ := q0 (below_step (qb HB.out) hb); clear BK103 HB; have HO105 := n0_; have BK103 := n1_; have HB := n2_; clear n0_ n1_ n2_ hb ho6; have hcz7_0 : w5.cell? ⟨gb103, 0, none⟩ = some (.int .i64 a0_0) := (blk_cell BK103.out 0).trans rfl; have hcz7_1 : w5.cell? ⟨gb103, 1, none⟩ = some (.slice A0_1 l0_1.length c0_1) := (blk_cell BK103.out 1).trans rfl; have hfz7_0 := blk_frozen BK103.out 0; have hfz7_1 := blk_frozen BK103.out 1) | ((with_reducible refine gate_callee (f := 15) rfl ?_); refine goesL_ (some 9) rfl rfl Try.func15 (by kernel_rfl) rfl #[.agg #[.int .i64 a0_0, .slice A0_1 l0_1.length c0_1]] rfl qm ?_; (with_reducible refine (spec_NetOk.calls k a0_0 _ _ l0_1 true _ ?side1 ?side2 A2.out).mono ?_); (case side1 => exact qc (Kd.C_below HR0_1.out HB.out)); (case side2 => exact HC0_1.out); rintro e w8 ⟨rfl, hb⟩; refine ⟨_, rfl, ?_⟩; have n0_ := q0 (Kd.R_below (qr HO105.out) hb); have n1_ := q0 (kb BK103.out hb); have n2_ := q0 (below_step (qb HB.out) hb); clear HO105 BK103 HB; have HO105 := n0_; have BK103 := n1_; have HB := n2_; clear n0_ n1_ n2_; (try clear hb); (try clear hb2); (try clear hk); (try clear hi)))
 go_loopg [3, 4] k (fun kq v3 v4 w' => ∃ (x3_1 : List Int) (x4_1 : Int), v4 = .int .i64 x4_1 ∧ Aside0 (spec_WayParts.l0 kq x3_1 x4_1 a0_0 l0_1 = some r) ∧ Aside0 (kq ≤ k) ∧ Aside0 (Kd.R (Kd.int .i64) 3 w' w.heap.size (fun _ => True) v3 x3_1) ∧ Aside0 (w'.heap[gb103]? = some (.cells #[.int .i64 a0_0, (.slice A0_1 l0_1.length c0_1)] 30 (0, 0))) ∧ Aside0 (Below w.heap.size w w'))
 case atStart => exact ⟨(y100), (0), qs, H', ⟨Nat.le_refl _⟩, ⟨qr HO105.out⟩, ⟨qk BK103.out⟩, ⟨qb HB.out⟩⟩
 clear H'
 try clear c1
 try clear p2
 try clear c3
 try clear c6
 try clear hcz7_0
 try clear hcz7_1
 try clear hfz7_0
 try clear hfz7_1
 obtain ⟨x3_1, x4_1, rfl, HA, HK1, HO_3, BK103, HB⟩ := hrel
 rcases gk with _ | k1
 · exact absurd HA.out (by simp [spec_WayParts.l0])
 have H := HA.out
 clear HA
 simp only [spec_WayParts.l0] at H
 by_cases c9 : x4_1 < a0_0
 rotate_left
 · rw [if_neg c9] at H
   have c9b0 : decide (x4_1 < a0_0) = false := decide_eq_false c9
   clear c9
   obtain rfl := Option.some.inj H
   have hcz21_0 : wr.cell? ⟨gb103, 0, none⟩ = some (.int .i64 a0_0) := (blk_cell BK103.out 0).trans rfl
   have hcz21_1 : wr.cell? ⟨gb103, 1, none⟩ = some (.slice A0_1 l0_1.length c0_1) := (blk_cell BK103.out 1).trans rfl
   have hfz21_0 := blk_frozen BK103.out 0
   have hfz21_1 := blk_frozen BK103.out 1
   go_wp2
   go_ret
   exact ⟨_, qe, by (with_reducible repeat (first | apply Kd.R_alloc | apply Kd.R_drewN | apply Kd.R_drew)); exact HO_3.out, qb HB.out⟩
 rw [if_pos c9] at H
 have c9b0 : decide (x4_1 < a0_0) = true := decide_eq_true c9
 clear c9
 replace H := Option.bind_eq_some_iff.mp H
 obtain ⟨t101, A106, H⟩ := H
 replace H : (spec_WayParts.l1 k1 x3_1 x4_1 t101 0 a0_0 l0_1) = some r := H
 have A10 := Aside0.mk A106
 clear A106
 have H' := Aside0.mk H
 clear H
 have hcz11_0 : wr.cell? ⟨gb103, 0, none⟩ = some (.int .i64 a0_0) := (blk_cell BK103.out 0).trans rfl
 have hcz11_1 : wr.cell? ⟨gb103, 1, none⟩ = some (.slice A0_1 l0_1.length c0_1) := (blk_cell BK103.out 1).trans rfl
 have hfz11_0 := blk_frozen BK103.out 0
 have hfz11_1 := blk_frozen BK103.out 1
 go_wp2_with (first | ((with_reducible refine gate_callee (f := 37) rfl ?_); refine goesL_ (some 20) rfl rfl Try.func37 (by kernel_rfl) rfl #[.agg #[.int .i64 a0_0, .slice A0_1 l0_1.length c0_1], .int .i64 x4_1] rfl qm ?_; (with_reducible refine (spec_WayReach.calls k1 a0_0 _ _ l0_1 x4_1 t101 _ ?side1 ?side2 A10.out).mono ?_); (case side1 => exact qc (Kd.C_below HR0_1.out HB.out)); (case side2 => exact HC0_1.out); rintro e w12 ⟨v107, rfl, ho0, hb⟩; refine ⟨_, rfl, ?_⟩; have n0_ := q0 (Kd.R_below (qr HO_3.out) hb); have n1_ := q0 (Kd.R_lower ho0 (below_size (qb HB.out))); have n2_ := q0 (kb BK103.out hb); have n3_ := q0 (below_step (qb HB.out) hb); clear HO_3 BK103 HB; have HO_3 := n0_; have HO108 := n1_; have BK103 := n2_; have HB := n3_; clear n0_ n1_ n2_ n3_; (try clear hb); (try clear hb2); (try clear hk); (try clear hi); (try clear ho0)))
 go_loopg [6] k1 (fun kq v6 w' => ∃ (x6_2 : Int), v6 = .int .i64 x6_2 ∧ Aside0 (spec_WayParts.l1 kq x3_1 x4_1 t101 x6_2 a0_0 l0_1 = some r) ∧ Aside0 (kq ≤ k1) ∧ Aside0 (Kd.R (Kd.int .i64) 3 w' w.heap.size (fun _ => True) u3 x3_1) ∧ Aside0 (Kd.R Kd.bool 4 w' w.heap.size (fun _ => True) v107 t101) ∧ Aside0 (w'.heap[gb103]? = some (.cells #[.int .i64 a0_0, (.slice A0_1 l0_1.length c0_1)] 30 (0, 0))) ∧ Aside0 (Below w.heap.size w w'))
 case atStart => exact ⟨(0), qs, H', ⟨Nat.le_refl _⟩, ⟨qr HO_3.out⟩, ⟨qr HO108.out⟩, ⟨qk BK103.out⟩, ⟨qb HB.out⟩⟩
 clear H'
 try clear c1
 try clear p2
 try clear c3
 try clear c6
 try clear c9
 try clear c9b0
 try clear hcz11_0
 try clear hcz11_1
 try clear hcz7_0
 try clear hcz7_1
 try clear hfz11_0
 try clear hfz11_1
 try clear hfz7_0
 try clear hfz7_1
 try clear p2
 obtain ⟨x6_2, rfl, HA, HK2, HO_3, HO_5, BK103, HB⟩ := hrel
 rcases gk with _ | k2
 · exact absurd HA.out (by simp [spec_WayParts.l1])
 have H := HA.out
 clear HA
 simp only [spec_WayParts.l1] at H
 by_cases c13 : 0 ≤ x6_2
 rotate_left
 · rw [if_neg c13] at H
   exact absurd H (by simp)
 rw [if_pos c13] at H
 have c13b0 : decide (0 ≤ x6_2) = true := decide_eq_true c13
 clear c13
 by_cases c14 : x6_2 < (t101.length : Int)
 rotate_left
 · rw [if_neg c14] at H
   exact absurd H (by simp)
 rw [if_pos c14] at H
 have c14b0 : decide (x6_2 < (t101.length : Int)) = true := decide_eq_true c14
 clear c14
 obtain ⟨bq15, hbq15⟩ : ∃ b_ : Bool, b_ = (rdOf false t101 x6_2) := ⟨_, rfl⟩
 replace H : (if bq15 = true then (if x3_1.length < 17592186044416 then (spec_WayParts.l0 k2 (x3_1 ++ [x6_2]) (wrap64 (x4_1 + 1)) a0_0 l0_1) else (none)) else (spec_WayParts.l1 k2 x3_1 x4_1 t101 (wrap64 (x6_2 + 1)) a0_0 l0_1)) = some r := by rw [← hbq15] at H; exact H
 have Nbq15 := Aside0.mk hbq15
 clear hbq15
 by_cases c16 : bq15 = true
 rotate_left
 · replace c16 := Bool.eq_false_iff.mpr c16
   subst c16
   have H1 : (spec_WayParts.l1 k2 x3_1 x4_1 t101 (wrap64 (x6_2 + 1)) a0_0 l0_1) = some r := by rw [if_neg (show ¬ (false = true) by decide)] at H; exact H
   clear H
   have H := H1
   clear H1
   have H' := Aside0.mk H
   clear H
   obtain ⟨Ao20, co20, eo20⟩ := Kd.R_slice HO_5.out
   subst eo20
   have p110 : 0 ≤ (x6_2 : Int) := of_decide_eq_true qa
   have q110 : x6_2 < (t101.length : Int) := of_decide_eq_true qa
   obtain ⟨ad110, e110, hx110_0⟩ := Kd.at_bool (Kd.R_reads' HO_5.out).2.2 x6_2 p110 q110
   (try rw [← Nbq15.out] at hx110_0)
   cases e110
   replace p110 := eq_true p110
   replace q110 := eq_true q110
   go_wp2
   go_roundg k2
   case measure => have := HK1.out; have := HK2.out; omega
   case rel => exact ⟨(wrap64 (x6_2 + 1)), qs, H', ⟨by have := HK1.out; have := HK2.out; omega⟩, ⟨qr HO_3.out⟩, ⟨qr HO_5.out⟩, ⟨qk BK103.out⟩, ⟨qb HB.out⟩⟩
 subst c16
 have H1 : (if x3_1.length < 17592186044416 then (spec_WayParts.l0 k2 (x3_1 ++ [x6_2]) (wrap64 (x4_1 + 1)) a0_0 l0_1) else (none)) = some r := by rw [if_pos rfl] at H; exact H
 clear H
 have H := H1
 clear H1
 by_cases c17 : x3_1.length < 17592186044416
 rotate_left
 · rw [if_neg c17] at H
   exact absurd H (by simp)
 rw [if_pos c17] at H
 have LMc17 := Aside0.mk c17
 clear c17
 obtain ⟨y109, hy109⟩ : ∃ y_ : List Int, y_ = (x3_1 ++ [x6_2]) := ⟨_, rfl⟩
 replace H : (spec_WayParts.l0 k2 y109 (wrap64 (x4_1 + 1)) a0_0 l0_1) = some r := by first | (rw [hy109]; with_reducible exact H) | (have H2_ := (Option.bind_some _ _).symm.trans H; rw [hy109]; with_reducible exact H2_) | (have H2_ := (Option.bind_some _ _).symm.trans H; with_reducible exact H2_) | with_reducible exact H | (rw [hy109]; exact H) | exact H
 have Ny109 := Aside0.mk hy109
 clear hy109
 have H' := Aside0.mk H
 clear H
 obtain ⟨Ao18, co18, eo18⟩ := Kd.R_slice HO_5.out
 subst eo18
 have p110 : 0 ≤ (x6_2 : Int) := of_decide_eq_true qa
 have q110 : x6_2 < (t101.length : Int) := of_decide_eq_true qa
 obtain ⟨ad110, e110, hx110_0⟩ := Kd.at_bool (Kd.R_reads' HO_5.out).2.2 x6_2 p110 q110
 (try rw [← Nbq15.out] at hx110_0)
 cases e110
 replace p110 := eq_true p110
 replace q110 := eq_true q110
 go_wp2_with (first | ((with_reducible refine gate_builtin (b := .append) (xs := #[.tmp 28, .tmp 30]) rfl ?_); at_builtin; refine Kd.R_append (Kd.int .i64) (w0 := w) w.heap.size rfl (.tmp 28) (.tmp 30) 39 3 (.int .i64 0) 8 rfl Try.underlying39 info3 rfl (by decide) (by omega) u3 x3_1 x6_2 [.int .i64 x6_2] (fun _ => True) (fun _ => False) rfl rfl ?aP (fun _ hk => hk.elim) ?aF ?aO ?aB ?aS ?aL ?_; (case aP => exact rfl); (case aB => exact (qb HB.out)); (case aF => exact (fun _ _ => trivial)); (case aO => exact (qr HO_3.out)); (case aS => exact (below_size (qb HB.out))); (case aL => have := LMc17.out; omega); intro v111 w19 ho hb hg hat; rw [← Ny109.out] at ho; have n0_ := q0 (Kd.R_over' (qr HO_5.out) (Kd.R_typed (qr HO_3.out)) (by decide) hg); have n1_ := q0 (blk_grown (g := gb103) (o := .cells #[.int .i64 a0_0, .slice A0_1 l0_1.length c0_1] 30 (0, 0)) (qk BK103.out) hg (Kd.R_ne HO_3.out BK103.out (by decide))); have n2_ := q0 (hb); have n3_ := q0 (ho); clear HO_5 BK103 HB HO_3; have HO_5 := n0_; have BK103 := n1_; have HB := n2_; have HO112 := n3_; clear n0_ n1_ n2_ n3_ ho hb hg hat))
 go_roundg k2
 case measure => have := HK1.out; have := HK2.out; omega
 case rel => exact ⟨(y109), (wrap64 (x4_1 + 1)), qs, H', ⟨by have := HK1.out; have := HK2.out; omega⟩, ⟨qr HO112.out⟩, ⟨qk BK103.out⟩, ⟨qb HB.out⟩⟩

set_option maxHeartbeats 8000000 in
set_option maxRecDepth 100000 in
theorem spec_WayCount.calls (k : Nat) (a0_0 : Int) (A0_1 : Option Addr) (c0_1 : Nat) (l0_1 : List (STie)) (r : Int) (w : World) (hr0_1 : Kd.C kTie w A0_1 l0_1.length l0_1) (hc0_1 : l0_1.length ≤ c0_1) (h : spec_WayCount.f k a0_0 l0_1 = some r) :
    Calls Try.prog 32 #[.agg #[.int .i64 a0_0, .slice A0_1 l0_1.length c0_1]] w fun e w' => e = .returned (.int .i64 r) ∧ Below w.heap.size w w' := by
 have hu30 := Try.underlying30
 have HR0_1 := Aside0.mk hr0_1
 have HC0_1 := Aside0.mk hc0_1
 clear hr0_1 hc0_1
 have HB := q0 (Below.refl w.heap.size w)
 have H : ((spec_NetOk.f k a0_0 l0_1).bind fun t100 => (if t100 = true then ((spec_WayParts.f k a0_0 l0_1).bind fun t101 => (spec_WayCount.l0 k t101 0 0)) else (some (-1)))) = some r := h
 clear h
 replace H := Option.bind_eq_some_iff.mp H
 obtain ⟨t100, A20, H⟩ := H
 replace H : (if t100 = true then ((spec_WayParts.f k a0_0 l0_1).bind fun t101 => (spec_WayCount.l0 k t101 0 0)) else (some (-1))) = some r := H
 have A2 := Aside0.mk A20
 clear A20
 by_cases c3 : t100 = true
 rotate_left
 · replace c3 := Bool.eq_false_iff.mpr c3
   subst c3
   have H1 : (some (-1)) = some r := by rw [if_neg (show ¬ (false = true) by decide)] at H; exact H
   clear H
   have H := H1
   clear H1
   obtain rfl := Option.some.inj H
   go_enter Try.func32, Try.ntmps32
   go_wp2_with (first | ((with_reducible refine gate_dst (N := 1) rfl ?_); refine be 1 #[.int .i64 a0_0, .slice A0_1 l0_1.length c0_1] 30 ?_; intro gb102 hg w16 hbox hb; have n0_ := q0 (below_step (qb HB.out) hb); have n1_ := q0 (hbox); have n2_ := q0 ((bs HB.out hg : w.heap.size ≤ gb102)); have n3_ := q0 ((bs HB.out hg : w.heap.size ≤ gb102)); clear HB; have HB := n0_; have BK102 := n1_; have GW102 := n2_; have GE102 := n3_; clear n0_ n1_ n2_ n3_ hb hbox hg; have hcz17_0 : w16.cell? ⟨gb102, 0, none⟩ = some (.int .i64 a0_0) := (blk_cell BK102.out 0).trans rfl; have hcz17_1 : w16.cell? ⟨gb102, 1, none⟩ = some (.slice A0_1 l0_1.length c0_1) := (blk_cell BK102.out 1).trans rfl; have hfz17_0 := blk_frozen BK102.out 0; have hfz17_1 := blk_frozen BK102.out 1) | ((with_reducible refine gate_callee (f := 15) rfl ?_); refine goesL_ (some 7) rfl rfl Try.func15 (by kernel_rfl) rfl #[.agg #[.int .i64 a0_0, .slice A0_1 l0_1.length c0_1]] rfl qm ?_; (with_reducible refine (spec_NetOk.calls k a0_0 _ _ l0_1 false _ ?side1 ?side2 A2.out).mono ?_); (case side1 => exact qc (Kd.C_below HR0_1.out HB.out)); (case side2 => exact HC0_1.out); rintro e w18 ⟨rfl, hb⟩; refine ⟨_, rfl, ?_⟩; have n0_ := q0 (kb BK102.out hb); have n1_ := q0 (below_step (qb HB.out) hb); clear BK102 HB; have BK102 := n0_; have HB := n1_; clear n0_ n1_; (try clear hb); (try clear hb2); (try clear hk); (try clear hi)))
   go_ret
   exact ⟨qe, qb HB.out⟩
 subst c3
 have H1 : ((spec_WayParts.f k a0_0 l0_1).bind fun t101 => (spec_WayCount.l0 k t101 0 0)) = some r := by rw [if_pos rfl] at H; exact H
 clear H
 have H := H1
 clear H1
 replace H := Option.bind_eq_some_iff.mp H
 obtain ⟨t101, A40, H⟩ := H
 replace H : (spec_WayCount.l0 k t101 0 0) = some r := H
 have A4 := Aside0.mk A40
 clear A40
 have H' := Aside0.mk H
 clear H
 go_enter Try.func32, Try.ntmps32
 go_wp2_with (first | ((with_reducible refine gate_dst (N := 1) rfl ?_); refine be 1 #[.int .i64 a0_0, .slice A0_1 l0_1.length c0_1] 30 ?_; intro gb102 hg w5 hbox hb; have n0_ := q0 (below_step (qb HB.out) hb); have n1_ := q0 (hbox); have n2_ := q0 ((bs HB.out hg : w.heap.size ≤ gb102)); have n3_ := q0 ((bs HB.out hg : w.heap.size ≤ gb102)); clear HB; have HB := n0_; have BK102 := n1_; have GW102 := n2_; have GE102 := n3_; clear n0_ n1_ n2_ n3_ hb hbox hg; have hcz6_0 : w5.cell? ⟨gb102, 0, none⟩ = some (.int .i64 a0_0) := (blk_cell BK102.out 0).trans rfl; have hcz6_1 : w5.cell? ⟨gb102, 1, none⟩ = some (.slice A0_1 l0_1.length c0_1) := (blk_cell BK102.out 1).trans rfl; have hfz6_0 := blk_frozen BK102.out 0; have hfz6_1 := blk_frozen BK102.out 1) | ((with_reducible refine gate_callee (f := 15) rfl ?_); refine goesL_ (some 7) rfl rfl Try.func15 (by kernel_rfl) rfl #[.agg #[.int .i64 a0_0, .slice A0_1 l0_1.length c0_1]] rfl qm ?_; (with_reducible refine (spec_NetOk.calls k a0_0 _ _ l0_1 true _ ?side1 ?side2 A2.out).mono ?_); (case side1 => exact qc (Kd.C_below HR0_1.out HB.out)); (case side2 => exact HC0_1.out); rintro e w7 ⟨rfl, hb⟩; refine ⟨_, rfl, ?_⟩; have n0_ := q0 (kb BK102.out hb); have n1_ := q0 (below_step (qb HB.out) hb); clear BK102 HB; have BK102 := n0_; have HB := n1_; clear n0_ n1_; (try clear hb); (try clear hb2); (try clear hk); (try clear hi); have hcz8_0 : w7.cell? ⟨gb102, 0, none⟩ = some (.int .i64 a0_0) := (blk_cell BK102.out 0).trans rfl; have hcz8_1 : w7.cell? ⟨gb102, 1, none⟩ = some (.slice A0_1 l0_1.length c0_1) := (blk_cell BK102.out 1).trans rfl; have hfz8_0 := blk_frozen BK102.out 0; have hfz8_1 := blk_frozen BK102.out 1) | ((with_reducible refine gate_callee (f := 65) rfl ?_); refine goesL_ (some 10) rfl rfl Try.func65 (by kernel_rfl) rfl #[.agg #[.int .i64 a0_0, .slice A0_1 l0_1.length c0_1]] rfl qm ?_; (with_reducible refine (spec_WayParts.calls k a0_0 _ _ l0_1 t101 _ ?side1 ?side2 A4.out).mono ?_); (case side1 => exact qc (Kd.C_below HR0_1.out HB.out)); (case side2 => exact HC0_1.out); rintro e w9 ⟨v103, rfl, ho0, hb⟩; refine ⟨_, rfl, ?_⟩; have n0_ := q0 (Kd.R_lower ho0 (below_size (qb HB.out))); have n1_ := q0 (kb BK102.out hb); have n2_ := q0 (below_step (qb HB.out) hb); clear BK102 HB; have HO104 := n0_; have BK102 := n1_; have HB := n2_; clear n0_ n1_ n2_; (try clear hb); (try clear hb2); (try clear hk); (try clear hi); (try clear ho0)))
 go_loopg [4, 5] k (fun kq v4 v5 w' => ∃ (x4_1 : Int) (x5_1 : Int), v4 = .int .i64 x4_1 ∧ v5 = .int .i64 x5_1 ∧ Aside0 (spec_WayCount.l0 kq t101 x4_1 x5_1 = some r) ∧ Aside0 (kq ≤ k) ∧ Aside0 (Kd.R (Kd.int .i64) 3 w' w.heap.size (fun _ => True) v103 t101) ∧ Aside0 (w'.heap[gb102]? = some (.cells #[.int .i64 a0_0, (.slice A0_1 l0_1.length c0_1)] 30 (0, 0))) ∧ Aside0 (Below w.heap.size w w'))
 case atStart => exact ⟨(0), (0), qs, qs, H', ⟨Nat.le_refl _⟩, ⟨qr HO104.out⟩, ⟨qk BK102.out⟩, ⟨qb HB.out⟩⟩
 clear H'
 try clear c1
 try clear p2
 try clear c3
 try clear c6
 try clear hcz6_0
 try clear hcz6_1
 try clear hcz8_0
 try clear hcz8_1
 try clear hfz6_0
 try clear hfz6_1
 try clear hfz8_0
 try clear hfz8_1
 obtain ⟨x4_1, x5_1, rfl, rfl, HA, HK1, HO_3, BK102, HB⟩ := hrel
 rcases gk with _ | k1
 · exact absurd HA.out (by simp [spec_WayCount.l0])
 have H := HA.out
 clear HA
 simp only [spec_WayCount.l0] at H
 by_cases c10 : x5_1 < (t101.length : Int)
 rotate_left
 · rw [if_neg c10] at H
   have c10b0 : decide (x5_1 < (t101.length : Int)) = false := decide_eq_false c10
   clear c10
   obtain rfl := Option.some.inj H
   obtain ⟨Ao15, co15, eo15⟩ := Kd.R_slice HO_3.out
   subst eo15
   go_wp2
   go_ret
   exact ⟨qe, qb HB.out⟩
 rw [if_pos c10] at H
 have c10b0 : decide (x5_1 < (t101.length : Int)) = true := decide_eq_true c10
 clear c10
 by_cases c11 : 0 ≤ x5_1
 rotate_left
 · rw [if_neg c11] at H
   exact absurd H (by simp)
 rw [if_pos c11] at H
 have c11b0 : decide (0 ≤ x5_1) = true := decide_eq_true c11
 clear c11
 by_cases c12 : (rd t101 x5_1) = x5_1
 rotate_left
 · rw [if_neg c12] at H
   have c12b0 : ((rd t101 x5_1) == x5_1) = false := beq_eq_false_iff_ne.mpr c12
   have c12b1 : ((rd t101 x5_1) != x5_1) = true := bne_iff_ne.mpr c12
   have H' := Aside0.mk H
   clear H
   obtain ⟨Ao14, co14, eo14⟩ := Kd.R_slice HO_3.out
   subst eo14
   have p105 : 0 ≤ (x5_1 : Int) := of_decide_eq_true qa
   have q105 : x5_1 < (t101.length : Int) := of_decide_eq_true qa
   obtain ⟨ad105, e105, hx105_0⟩ := Kd.at_int (Kd.R_reads' HO_3.out).2.2 x5_1 p105 q105
   cases e105
   replace p105 := eq_true p105
   replace q105 := eq_true q105
   go_wp2
   go_roundg k1
   case measure => have := HK1.out; omega
   case rel => exact ⟨(x4_1), (wrap64 (x5_1 + 1)), qs, qs, H', ⟨by have := HK1.out; omega⟩, ⟨qr HO_3.out⟩, ⟨qk BK102.out⟩, ⟨qb HB.out⟩⟩
 rw [if_pos c12] at H
 have c12b0 : ((rd t101 x5_1) == x5_1) = true := beq_iff_eq.mpr c12
 have c12b1 : ((rd t101 x5_1) != x5_1) = false := bne_eq_false_iff_eq.mpr c12
 clear c12
 have H' := Aside0.mk H
 clear H
 obtain ⟨Ao13, co13, eo13⟩ := Kd.R_slice HO_3.out
 subst eo13
 have p105 : 0 ≤ (x5_1 : Int) := of_decide_eq_true qa
 have q105 : x5_1 < (t101.length : Int) := of_decide_eq_true qa
 obtain ⟨ad105, e105, hx105_0⟩ := Kd.at_int (Kd.R_reads' HO_3.out).2.2 x5_1 p105 q105
 cases e105
 replace p105 := eq_true p105
 replace q105 := eq_true q105
 go_wp2
 go_roundg k1
 case measure => have := HK1.out; omega
 case rel => exact ⟨(wrap64 (x4_1 + 1)), (wrap64 (x5_1 + 1)), qs, qs, H', ⟨by have := HK1.out; omega⟩, ⟨qr HO_3.out⟩, ⟨qk BK102.out⟩, ⟨qb HB.out⟩⟩

set_option maxHeartbeats 8000000 in
set_option maxRecDepth 100000 in
theorem impl_Net_count.calls (k : Nat) (a0_0 : Int) (A0_1 : Option Addr) (c0_1 : Nat) (l0_1 : List (STie)) (r : Int) (w : World) (hr0_1 : Kd.C kTie w A0_1 l0_1.length l0_1) (hc0_1 : l0_1.length ≤ c0_1) (h : impl_Net_count.f k a0_0 l0_1 = some r) :
    Calls Try.prog 66 #[.agg #[.int .i64 a0_0, .slice A0_1 l0_1.length c0_1]] w fun e w' => e = .returned (.int .i64 r) ∧ Below w.heap.size w w' := by
 have hu30 := Try.underlying30
 have HR0_1 := Aside0.mk hr0_1
 have HC0_1 := Aside0.mk hc0_1
 clear hr0_1 hc0_1
 have HB := q0 (Below.refl w.heap.size w)
 have H : ((impl_Net_parts.f k a0_0 l0_1).bind fun t100 => (impl_Net_count.l0 k 0 t100 (t100.length : Int) 0)) = some r := h
 clear h
 replace H := Option.bind_eq_some_iff.mp H
 obtain ⟨t100, A20, H⟩ := H
 replace H : (impl_Net_count.l0 k 0 t100 (t100.length : Int) 0) = some r := H
 have A2 := Aside0.mk A20
 clear A20
 have H' := Aside0.mk H
 clear H
 go_enter Try.func66, Try.ntmps66
 go_wp2_with (first | ((with_reducible refine gate_dst (N := 1) rfl ?_); refine be 1 #[.int .i64 a0_0, .slice A0_1 l0_1.length c0_1] 30 ?_; intro gb101 hg w3 hbox hb; have n0_ := q0 (below_step (qb HB.out) hb); have n1_ := q0 (hbox); have n2_ := q0 ((bs HB.out hg : w.heap.size ≤ gb101)); have n3_ := q0 ((bs HB.out hg : w.heap.size ≤ gb101)); clear HB; have HB := n0_; have BK101 := n1_; have GW101 := n2_; have GE101 := n3_; clear n0_ n1_ n2_ n3_ hb hbox hg; have hcz4_0 : w3.cell? ⟨gb101, 0, none⟩ = some (.int .i64 a0_0) := (blk_cell BK101.out 0).trans rfl; have hcz4_1 : w3.cell? ⟨gb101, 1, none⟩ = some (.slice A0_1 l0_1.length c0_1) := (blk_cell BK101.out 1).trans rfl; have hfz4_0 := blk_frozen BK101.out 0; have hfz4_1 := blk_frozen BK101.out 1) | ((with_reducible refine gate_callee (f := 71) rfl ?_); refine goesL_ (some 7) rfl rfl Try.func71 (by kernel_rfl) rfl #[.agg #[.int .i64 a0_0, .slice A0_1 l0_1.length c0_1]] rfl qm ?_; (with_reducible refine (impl_Net_parts.calls k a0_0 _ _ l0_1 t100 _ ?side1 ?side2 A2.out).mono ?_); (case side1 => exact qc (Kd.C_below HR0_1.out HB.out)); (case side2 => exact HC0_1.out); rintro e w5 ⟨v102, rfl, ho0, hb⟩; refine ⟨_, rfl, ?_⟩; have n0_ := q0 (Kd.R_lower ho0 (below_size (qb HB.out))); have n1_ := q0 (kb BK101.out hb); have n2_ := q0 (below_step (qb HB.out) hb); clear BK101 HB; have HO103 := n0_; have BK101 := n1_; have HB := n2_; clear n0_ n1_ n2_; (try clear hb); (try clear hb2); (try clear hk); (try clear hi); (try clear ho0); obtain ⟨Ao6, co6, eo6⟩ := Kd.R_slice HO103.out; subst eo6))
 go_loopg [3, 9] k (fun kq v3 v9 w' => ∃ (x3_1 : Int) (x9_1 : Int), v3 = .int .i64 x3_1 ∧ v9 = .int .i64 x9_1 ∧ Aside0 (impl_Net_count.l0 kq x3_1 t100 (t100.length : Int) x9_1 = some r) ∧ Aside0 (kq ≤ k) ∧ Aside0 (Kd.R (Kd.int .i64) 3 w' w.heap.size (fun _ => True) (.slice Ao6 t100.length co6) t100) ∧ Aside0 (w'.heap[gb101]? = some (.cells #[.int .i64 a0_0, (.slice A0_1 l0_1.length c0_1)] 30 (0, 0))) ∧ Aside0 (Below w.heap.size w w'))
 case atStart => exact ⟨(0), (0), qs, qs, H', ⟨Nat.le_refl _⟩, ⟨qr HO103.out⟩, ⟨qk BK101.out⟩, ⟨qb HB.out⟩⟩
 clear H'
 try clear p2
 try clear c6
 try clear hcz4_0
 try clear hcz4_1
 try clear hfz4_0
 try clear hfz4_1
 obtain ⟨x3_1, x9_1, rfl, rfl, HA, HK1, HO_7, BK101, HB⟩ := hrel
 rcases gk with _ | k1
 · exact absurd HA.out (by simp [impl_Net_count.l0])
 have H := HA.out
 clear HA
 simp only [impl_Net_count.l0] at H
 by_cases c7 : x9_1 < (t100.length : Int)
 rotate_left
 · rw [if_neg c7] at H
   have c7b0 : decide (x9_1 < (t100.length : Int)) = false := decide_eq_false c7
   clear c7
   obtain rfl := Option.some.inj H
   go_wp2
   go_ret
   exact ⟨qe, qb HB.out⟩
 rw [if_pos c7] at H
 have c7b0 : decide (x9_1 < (t100.length : Int)) = true := decide_eq_true c7
 clear c7
 by_cases c8 : 0 ≤ x9_1
 rotate_left
 · rw [if_neg c8] at H
   exact absurd H (by simp)
 rw [if_pos c8] at H
 have c8b0 : decide (0 ≤ x9_1) = true := decide_eq_true c8
 clear c8
 by_cases c9 : x9_1 < (t100.length : Int)
 rotate_left
 · rw [if_neg c9] at H
   exact absurd H (by simp)
 rw [if_pos c9] at H
 have c9b0 : decide (x9_1 < (t100.length : Int)) = true := decide_eq_true c9
 clear c9
 by_cases c10 : x9_1 = (rd t100 x9_1)
 rotate_left
 · rw [if_neg c10] at H
   have c10b0 : (x9_1 == (rd t100 x9_1)) = false := beq_eq_false_iff_ne.mpr c10
   have c10b1 : (x9_1 != (rd t100 x9_1)) = true := bne_iff_ne.mpr c10
   have H' := Aside0.mk H
   clear H
   have p104 : 0 ≤ (x9_1 : Int) := of_decide_eq_true qa
   have q104 : x9_1 < (t100.length : Int) := of_decide_eq_true qa
   obtain ⟨ad104, e104, hx104_0⟩ := Kd.at_int (Kd.R_reads' HO_7.out).2.2 x9_1 p104 q104
   cases e104
   replace p104 := eq_true p104
   replace q104 := eq_true q104
   go_wp2
   go_roundg k1
   case measure => have := HK1.out; omega
   case rel => exact ⟨(x3_1), (wrap64 (x9_1 + 1)), qs, qs, H', ⟨by have := HK1.out; omega⟩, ⟨qr HO_7.out⟩, ⟨qk BK101.out⟩, ⟨qb HB.out⟩⟩
 rw [if_pos c10] at H
 have c10b0 : (x9_1 == (rd t100 x9_1)) = true := beq_iff_eq.mpr c10
 have c10b1 : (x9_1 != (rd t100 x9_1)) = false := bne_eq_false_iff_eq.mpr c10
 clear c10
 have H' := Aside0.mk H
 clear H
 have p104 : 0 ≤ (x9_1 : Int) := of_decide_eq_true qa
 have q104 : x9_1 < (t100.length : Int) := of_decide_eq_true qa
 obtain ⟨ad104, e104, hx104_0⟩ := Kd.at_int (Kd.R_reads' HO_7.out).2.2 x9_1 p104 q104
 cases e104
 replace p104 := eq_true p104
 replace q104 := eq_true q104
 go_wp2
 go_roundg k1
 case measure => have := HK1.out; omega
 case rel => exact ⟨(wrap64 (x3_1 + 1)), (wrap64 (x9_1 + 1)), qs, qs, H', ⟨by have := HK1.out; omega⟩, ⟨qr HO_7.out⟩, ⟨qk BK101.out⟩, ⟨qb HB.out⟩⟩

set_option maxHeartbeats 8000000 in
set_option maxRecDepth 100000 in
theorem impl_WayCount.calls (k : Nat) (a0_0 : Int) (A0_1 : Option Addr) (c0_1 : Nat) (l0_1 : List (STie)) (r : Int) (w : World) (hr0_1 : Kd.C kTie w A0_1 l0_1.length l0_1) (hc0_1 : l0_1.length ≤ c0_1) (h : impl_WayCount.f k a0_0 l0_1 = some r) :
    Calls Try.prog 33 #[.agg #[.int .i64 a0_0, .slice A0_1 l0_1.length c0_1]] w fun e w' => e = .returned (.int .i64 r) ∧ Below w.heap.size w w' := by
 have hu30 := Try.underlying30
 have HR0_1 := Aside0.mk hr0_1
 have HC0_1 := Aside0.mk hc0_1
 clear hr0_1 hc0_1
 have HB := q0 (Below.refl w.heap.size w)
 have H : ((impl_NetOk.f k a0_0 l0_1).bind fun t100 => (if t100 = true then ((impl_Net_count.f k a0_0 l0_1).bind fun t101 => (some t101)) else (some (-1)))) = some r := h
 clear h
 replace H := Option.bind_eq_some_iff.mp H
 obtain ⟨t100, A20, H⟩ := H
 replace H : (if t100 = true then ((impl_Net_count.f k a0_0 l0_1).bind fun t101 => (some t101)) else (some (-1))) = some r := H
 have A2 := Aside0.mk A20
 clear A20
 by_cases c3 : t100 = true
 rotate_left
 · replace c3 := Bool.eq_false_iff.mpr c3
   subst c3
   have H1 : (some (-1)) = some r := by rw [if_neg (show ¬ (false = true) by decide)] at H; exact H
   clear H
   have H := H1
   clear H1
   obtain rfl := Option.some.inj H
   go_enter Try.func33, Try.ntmps33
   go_wp2_with (first | ((with_reducible refine gate_dst (N := 1) rfl ?_); refine be 1 #[.int .i64 a0_0, .slice A0_1 l0_1.length c0_1] 30 ?_; intro gb102 hg w10 hbox hb; have n0_ := q0 (below_step (qb HB.out) hb); have n1_ := q0 (hbox); have n2_ := q0 ((bs HB.out hg : w.heap.size ≤ gb102)); have n3_ := q0 ((bs HB.out hg : w.heap.size ≤ gb102)); clear HB; have HB := n0_; have BK102 := n1_; have GW102 := n2_; have GE102 := n3_; clear n0_ n1_ n2_ n3_ hb hbox hg; have hcz11_0 : w10.cell? ⟨gb102, 0, none⟩ = some (.int .i64 a0_0) := (blk_cell BK102.out 0).trans rfl; have hcz11_1 : w10.cell? ⟨gb102, 1, none⟩ = some (.slice A0_1 l0_1.length c0_1) := (blk_cell BK102.out 1).trans rfl; have hfz11_0 := blk_frozen BK102.out 0; have hfz11_1 := blk_frozen BK102.out 1) | ((with_reducible refine gate_callee (f := 17) rfl ?_); refine goesL_ (some 4) rfl rfl Try.func17 (by kernel_rfl) rfl #[.agg #[.int .i64 a0_0, .slice A0_1 l0_1.length c0_1]] rfl qm ?_; (with_reducible refine (impl_NetOk.calls k a0_0 _ _ l0_1 false _ ?side1 ?side2 A2.out).mono ?_); (case side1 => exact qc (Kd.C_below HR0_1.out HB.out)); (case side2 => exact HC0_1.out); rintro e w12 ⟨rfl, hb⟩; refine ⟨_, rfl, ?_⟩; have n0_ := q0 (kb BK102.out hb); have n1_ := q0 (below_step (qb HB.out) hb); clear BK102 HB; have BK102 := n0_; have HB := n1_; clear n0_ n1_; (try clear hb); (try clear hb2); (try clear hk); (try clear hi)))
   go_ret
   exact ⟨qe, qb HB.out⟩
 subst c3
 have H1 : ((impl_Net_count.f k a0_0 l0_1).bind fun t101 => (some t101)) = some r := by rw [if_pos rfl] at H; exact H
 clear H
 have H := H1
 clear H1
 replace H := Option.bind_eq_some_iff.mp H
 obtain ⟨t101, A40, H⟩ := H
 replace H : (some t101) = some r := H
 have A4 := Aside0.mk A40
 clear A40
 obtain rfl := Option.some.inj H
 go_enter Try.func33, Try.ntmps33
 go_wp2_with (first | ((with_reducible refine gate_dst (N := 1) rfl ?_); refine be 1 #[.int .i64 a0_0, .slice A0_1 l0_1.length c0_1] 30 ?_; intro gb102 hg w5 hbox hb; have n0_ := q0 (below_step (qb HB.out) hb); have n1_ := q0 (hbox); have n2_ := q0 ((bs HB.out hg : w.heap.size ≤ gb102)); have n3_ := q0 ((bs HB.out hg : w.heap.size ≤ gb102)); clear HB; have HB := n0_; have BK102 := n1_; have GW102 := n2_; have GE102 := n3_; clear n0_ n1_ n2_ n3_ hb hbox hg; have hcz6_0 : w5.cell? ⟨gb102, 0, none⟩ = some (.int .i64 a0_0) := (blk_cell BK102.out 0).trans rfl; have hcz6_1 : w5.cell? ⟨gb102, 1, none⟩ = some (.slice A0_1 l0_1.length c0_1) := (blk_cell BK102.out 1).trans rfl; have hfz6_0 := blk_frozen BK102.out 0; have hfz6_1 := blk_frozen BK102.out 1) | ((with_reducible refine gate_callee (f := 17) rfl ?_); refine goesL_ (some 4) rfl rfl Try.func17 (by kernel_rfl) rfl #[.agg #[.int .i64 a0_0, .slice A0_1 l0_1.length c0_1]] rfl qm ?_; (with_reducible refine (impl_NetOk.calls k a0_0 _ _ l0_1 true _ ?side1 ?side2 A2.out).mono ?_); (case side1 => exact qc (Kd.C_below HR0_1.out HB.out)); (case side2 => exact HC0_1.out); rintro e w7 ⟨rfl, hb⟩; refine ⟨_, rfl, ?_⟩; have n0_ := q0 (kb BK102.out hb); have n1_ := q0 (below_step (qb HB.out) hb); clear BK102 HB; have BK102 := n0_; have HB := n1_; clear n0_ n1_; (try clear hb); (try clear hb2); (try clear hk); (try clear hi); have hcz8_0 : w7.cell? ⟨gb102, 0, none⟩ = some (.int .i64 a0_0) := (blk_cell BK102.out 0).trans rfl; have hcz8_1 : w7.cell? ⟨gb102, 1, none⟩ = some (.slice A0_1 l0_1.length c0_1) := (blk_cell BK102.out 1).trans rfl; have hfz8_0 := blk_frozen BK102.out 0; have hfz8_1 := blk_frozen BK102.out 1) | ((with_reducible refine gate_callee (f := 66) rfl ?_); refine goesL_ (some 7) rfl rfl Try.func66 (by kernel_rfl) rfl #[.agg #[.int .i64 a0_0, .slice A0_1 l0_1.length c0_1]] rfl qm ?_; (with_reducible refine (impl_Net_count.calls k a0_0 _ _ l0_1 t101 _ ?side1 ?side2 A4.out).mono ?_); (case side1 => exact qc (Kd.C_below HR0_1.out HB.out)); (case side2 => exact HC0_1.out); rintro e w9 ⟨rfl, hb⟩; refine ⟨_, rfl, ?_⟩; have n0_ := q0 (kb BK102.out hb); have n1_ := q0 (below_step (qb HB.out) hb); clear BK102 HB; have BK102 := n0_; have HB := n1_; clear n0_ n1_; (try clear hb); (try clear hb2); (try clear hk); (try clear hi)))
 go_ret
 exact ⟨qe, qb HB.out⟩

set_option maxHeartbeats 8000000 in
set_option maxRecDepth 100000 in
theorem laws_FnExactWayCount.calls (k : Nat) (a0_0 : Int) (A0_1 : Option Addr) (c0_1 : Nat) (l0_1 : List (SLTie)) (r : Bool) (w : World) (hr0_1 : Kd.C kLTie w A0_1 l0_1.length l0_1) (hc0_1 : l0_1.length ≤ c0_1) (h : laws_FnExactWayCount.f k a0_0 l0_1 = some r) :
    Calls Try.prog 10 #[.agg #[.int .i64 a0_0, .slice A0_1 l0_1.length c0_1]] w fun e w' => e = .returned (.bool r) ∧ Below w.heap.size w w' := by
 have hu25 := Try.underlying25
 have hu30 := Try.underlying30
 have HR0_1 := Aside0.mk hr0_1
 have HC0_1 := Aside0.mk hc0_1
 clear hr0_1 hc0_1
 have HB := q0 (Below.refl w.heap.size w)
 have H : ((laws_szNet.f a0_0 l0_1 1048576).bind fun t100 => (if t100 < 0 then (some true) else ((laws_toNet.f k a0_0 l0_1).bind fun bt101 => ((spec_WayCount.f k bt101.1 bt101.2).bind fun t102 => ((laws_toNet.f k a0_0 l0_1).bind fun bt103 => ((impl_WayCount.f k bt103.1 bt103.2).bind fun t104 => (if t104 = t102 then ((laws_toNet.f k a0_0 l0_1).bind fun bt105 => ((laws_eqNet.f k bt103.1 bt103.2 bt105.1 bt105.2).bind fun t106 => (if t106 = true then (some true) else (some false)))) else (some false)))))))) = some r := h
 clear h
 replace H := Option.bind_eq_some_iff.mp H
 obtain ⟨t100, A20, H⟩ := H
 replace H : (if t100 < 0 then (some true) else ((laws_toNet.f k a0_0 l0_1).bind fun bt101 => ((spec_WayCount.f k bt101.1 bt101.2).bind fun t102 => ((laws_toNet.f k a0_0 l0_1).bind fun bt103 => ((impl_WayCount.f k bt103.1 bt103.2).bind fun t104 => (if t104 = t102 then ((laws_toNet.f k a0_0 l0_1).bind fun bt105 => ((laws_eqNet.f k bt103.1 bt103.2 bt105.1 bt105.2).bind fun t106 => (if t106 = true then (some true) else (some false)))) else (some false))))))) = some r := H
 have A2 := Aside0.mk A20
 clear A20
 by_cases c3 : t100 < 0
 · rw [if_pos c3] at H
   have c3b0 : decide (t100 < 0) = true := decide_eq_true c3
   clear c3
   obtain rfl := Option.some.inj H
   go_enter Try.func10, Try.ntmps10
   go_wp2_with (first | ((with_reducible refine gate_dst (N := 1) rfl ?_); refine be 1 #[.int .i64 a0_0, .slice A0_1 l0_1.length c0_1] 25 ?_; intro gb107 hg w4 hbox hb; have n0_ := q0 (below_step (qb HB.out) hb); have n1_ := q0 (hbox); have n2_ := q0 ((bs HB.out hg : w.heap.size ≤ gb107)); have n3_ := q0 ((bs HB.out hg : w.heap.size ≤ gb107)); clear HB; have HB := n0_; have BK107 := n1_; have GW107 := n2_; have GE107 := n3_; clear n0_ n1_ n2_ n3_ hb hbox hg; have hcz5_0 : w4.cell? ⟨gb107, 0, none⟩ = some (.int .i64 a0_0) := (blk_cell BK107.out 0).trans rfl; have hcz5_1 : w4.cell? ⟨gb107, 1, none⟩ = some (.slice A0_1 l0_1.length c0_1) := (blk_cell BK107.out 1).trans rfl; have hfz5_0 := blk_frozen BK107.out 0; have hfz5_1 := blk_frozen BK107.out 1) | ((with_reducible refine gate_callee (f := 14) rfl ?_); refine goesL_ (some 9) rfl rfl Try.func14 (by kernel_rfl) rfl #[.agg #[.int .i64 a0_0, .slice A0_1 l0_1.length c0_1], .int .i64 1048576] rfl qm ?_; (with_reducible refine (laws_szNet.calls a0_0 _ _ l0_1 1048576 t100 _ ?side1 ?side2 A2.out).mono ?_); (case side1 => exact qc (Kd.C_below HR0_1.out HB.out)); (case side2 => exact HC0_1.out); rintro e w6 ⟨rfl, hb⟩; refine ⟨_, rfl, ?_⟩; have n0_ := q0 (kb BK107.out hb); have n1_ := q0 (below_step (qb HB.out) hb); clear BK107 HB; have BK107 := n0_; have HB := n1_; clear n0_ n1_; (try clear hb); (try clear hb2); (try clear hk); (try clear hi)))
   go_ret
   exact ⟨qe, qb HB.out⟩
 rw [if_neg c3] at H
 have c3b0 : decide (t100 < 0) = false := decide_eq_false c3
 clear c3
 replace H := Option.bind_eq_some_iff.mp H
 obtain ⟨⟨t101, t108⟩, A70, H⟩ := H
 replace H : ((spec_WayCount.f k t101 t108).bind fun t102 => ((laws_toNet.f k a0_0 l0_1).bind fun bt103 => ((impl_WayCount.f k bt103.1 bt103.2).bind fun t104 => (if t104 = t102 then ((laws_toNet.f k a0_0 l0_1).bind fun bt105 => ((laws_eqNet.f k bt103.1 bt103.2 bt105.1 bt105.2).bind fun t106 => (if t106 = true then (some true) else (some false)))) else (some false))))) = some r := H
 have A7 := Aside0.mk A70
 clear A70
 replace H := Option.bind_eq_some_iff.mp H
 obtain ⟨t102, A80, H⟩ := H
 replace H : ((laws_toNet.f k a0_0 l0_1).bind fun bt103 => ((impl_WayCount.f k bt103.1 bt103.2).bind fun t104 => (if t104 = t102 then ((laws_toNet.f k a0_0 l0_1).bind fun bt105 => ((laws_eqNet.f k bt103.1 bt103.2 bt105.1 bt105.2).bind fun t106 => (if t106 = true then (some true) else (some false)))) else (some false)))) = some r := H
 have A8 := Aside0.mk A80
 clear A80
 replace H := Option.bind_eq_some_iff.mp H
 obtain ⟨⟨t103, t109⟩, A90, H⟩ := H
 replace H : ((impl_WayCount.f k t103 t109).bind fun t104 => (if t104 = t102 then ((laws_toNet.f k a0_0 l0_1).bind fun bt105 => ((laws_eqNet.f k t103 t109 bt105.1 bt105.2).bind fun t106 => (if t106 = true then (some true) else (some false)))) else (some false))) = some r := H
 have A9 := Aside0.mk A90
 clear A90
 replace H := Option.bind_eq_some_iff.mp H
 obtain ⟨t104, A110, H⟩ := H
 replace H : (if t104 = t102 then ((laws_toNet.f k a0_0 l0_1).bind fun bt105 => ((laws_eqNet.f k t103 t109 bt105.1 bt105.2).bind fun t106 => (if t106 = true then (some true) else (some false)))) else (some false)) = some r := H
 have A10 := Aside0.mk A110
 clear A110
 by_cases c11 : t104 = t102
 rotate_left
 · rw [if_neg c11] at H
   have c11b0 : (t104 == t102) = false := beq_eq_false_iff_ne.mpr c11
   have c11b1 : (t104 != t102) = true := bne_iff_ne.mpr c11
   obtain rfl := Option.some.inj H
   go_enter Try.func10, Try.ntmps10
   go_wp2_with (first | ((with_reducible refine gate_dst (N := 1) rfl ?_); refine be 1 #[.int .i64 a0_0, .slice A0_1 l0_1.length c0_1] 25 ?_; intro gb107 hg w51 hbox hb; have n0_ := q0 (below_step (qb HB.out) hb); have n1_ := q0 (hbox); have n2_ := q0 ((bs HB.out hg : w.heap.size ≤ gb107)); have n3_ := q0 ((bs HB.out hg : w.heap.size ≤ gb107)); clear HB; have HB := n0_; have BK107 := n1_; have GW107 := n2_; have GE107 := n3_; clear n0_ n1_ n2_ n3_ hb hbox hg; have hcz52_0 : w51.cell? ⟨gb107, 0, none⟩ = some (.int .i64 a0_0) := (blk_cell BK107.out 0).trans rfl; have hcz52_1 : w51.cell? ⟨gb107, 1, none⟩ = some (.slice A0_1 l0_1.length c0_1) := (blk_cell BK107.out 1).trans rfl; have hfz52_0 := blk_frozen BK107.out 0; have hfz52_1 := blk_frozen BK107.out 1) | ((with_reducible refine gate_callee (f := 14) rfl ?_); refine goesL_ (some 9) rfl rfl Try.func14 (by kernel_rfl) rfl #[.agg #[.int .i64 a0_0, .slice A0_1 l0_1.length c0_1], .int .i64 1048576] rfl qm ?_; (with_reducible refine (laws_szNet.calls a0_0 _ _ l0_1 1048576 t100 _ ?side1 ?side2 A2.out).mono ?_); (case side1 => exact qc (Kd.C_below HR0_1.out HB.out)); (case side2 => exact HC0_1.out); rintro e w53 ⟨rfl, hb⟩; refine ⟨_, rfl, ?_⟩; have n0_ := q0 (kb BK107.out hb); have n1_ := q0 (below_step (qb HB.out) hb); clear BK107 HB; have BK107 := n0_; have HB := n1_; clear n0_ n1_; (try clear hb); (try clear hb2); (try clear hk); (try clear hi); have hcz54_0 : w53.cell? ⟨gb107, 0, none⟩ = some (.int .i64 a0_0) := (blk_cell BK107.out 0).trans rfl; have hcz54_1 : w53.cell? ⟨gb107, 1, none⟩ = some (.slice A0_1 l0_1.length c0_1) := (blk_cell BK107.out 1).trans rfl; have hfz54_0 := blk_frozen BK107.out 0; have hfz54_1 := blk_frozen BK107.out 1) | ((with_reducible refine gate_callee (f := 16) rfl ?_); refine goesL_ (some 13) rfl rfl Try.func16 (by kernel_rfl) rfl #[.agg #[.int .i64 a0_0, .slice A0_1 l0_1.length c0_1]] rfl qm ?_; (with_reducible refine (laws_toNet.calls k a0_0 _ _ l0_1 t101 t108 _ ?side1 ?side2 A7.out).mono ?_); (case side1 => exact qc (Kd.C_below HR0_1.out HB.out)); (case side2 => exact HC0_1.out); rintro e w55 ⟨v114, rfl, ho0, hb⟩; refine ⟨_, rfl, ?_⟩; have n0_ := q0 (Kd.R_lower ho0 (below_size (qb HB.out))); have n1_ := q0 (kb BK107.out hb); have n2_ := q0 (below_step (qb HB.out) hb); clear BK107 HB; have HO115 := n0_; have BK107 := n1_; have HB := n2_; clear n0_ n1_ n2_; (try clear hb); (try clear hb2); (try clear hk); (try clear hi); (try clear ho0); obtain ⟨Ao56, co56, eo56⟩ := Kd.R_slice HO115.out; subst eo56) | ((with_reducible refine gate_callee (f := 32) rfl ?_); refine goesL_ (some 14) rfl rfl Try.func32 (by kernel_rfl) rfl #[.agg #[.int .i64 t101, .slice Ao56 t108.length co56]] rfl qm ?_; (with_reducible refine (spec_WayCount.calls k t101 _ _ t108 t102 _ ?side1 ?side2 A8.out).mono ?_); (case side1 => exact qc (Kd.R_reads' HO115.out).2.2); (case side2 => exact (Kd.R_reads' HO115.out).2.1); rintro e w57 ⟨rfl, hb⟩; refine ⟨_, rfl, ?_⟩; have n0_ := q0 (Kd.R_below (qr HO115.out) hb); have n1_ := q0 (kb BK107.out hb); have n2_ := q0 (below_step (qb HB.out) hb); clear HO115 BK107 HB; have HO115 := n0_; have BK107 := n1_; have HB := n2_; clear n0_ n1_ n2_; (try clear hb); (try clear hb2); (try clear hk); (try clear hi); have hcz58_0 : w57.cell? ⟨gb107, 0, none⟩ = some (.int .i64 a0_0) := (blk_cell BK107.out 0).trans rfl; have hcz58_1 : w57.cell? ⟨gb107, 1, none⟩ = some (.slice A0_1 l0_1.length c0_1) := (blk_cell BK107.out 1).trans rfl; have hfz58_0 := blk_frozen BK107.out 0; have hfz58_1 := blk_frozen BK107.out 1) | ((with_reducible refine gate_callee (f := 16) rfl ?_); refine goesL_ (some 16) rfl rfl Try.func16 (by kernel_rfl) rfl #[.agg #[.int .i64 a0_0, .slice A0_1 l0_1.length c0_1]] rfl qm ?_; (with_reducible refine (laws_toNet.calls k a0_0 _ _ l0_1 t103 t109 _ ?side1 ?side2 A9.out).mono ?_); (case side1 => exact qc (Kd.C_below HR0_1.out HB.out)); (case side2 => exact HC0_1.out); rintro e w59 ⟨v116, rfl, ho0, hb⟩; refine ⟨_, rfl, ?_⟩; have n0_ := q0 (Kd.R_elder' (qr HO115.out) (Kd.R_base ho0) hb); have n1_ := q0 (Kd.R_lower (Kd.R_new' ho0 (Kd.R_lt (qr HO115.out))) (below_size (qb HB.out))); have n2_ := q0 (kb BK107.out hb); have n3_ := q0 (below_step (qb HB.out) hb); clear HO115 BK107 HB; have HO115 := n0_; have HO117 := n1_; have BK107 := n2_; have HB := n3_; clear n0_ n1_ n2_ n3_; (try clear hb); (try clear hb2); (try clear hk); (try clear hi); (try clear ho0)) | ((with_reducible refine gate_dst (N := 5) rfl ?_); refine be 5 #[.int .i64 0, .slice none 0 0] 30 ?_; intro gb118 hg w60 hbox hb; have n0_ := q0 (Kd.R_below (qr HO115.out) hb); have n1_ := q0 (Kd.R_below (qr HO117.out) hb); have n2_ := q0 (kb BK107.out hb); have n3_ := q0 (below_step (qb HB.out) hb); have n4_ := q0 (hbox); have n5_ := q0 ((bs HB.out hg : w.heap.size ≤ gb118)); have n6_ := q0 ((bs HB.out hg : w.heap.size ≤ gb118)); have n7_ := q0 ((bl BK107.out hg : gb107 ≠ gb118)); have n8_ := q0 ((bg BK107.out hg : gb118 ≠ gb107)); clear HO115 HO117 BK107 HB; have HO115 := n0_; have HO117 := n1_; have BK107 := n2_; have HB := n3_; have BK118 := n4_; have GW118 := n5_; have GE118 := n6_; have NB107_118 := n7_; have NB118_107 := n8_; clear n0_ n1_ n2_ n3_ n4_ n5_ n6_ n7_ n8_ hb hbox hg; have hnb61 := NB118_107.out; have hnc61 := NB107_118.out; have hcz62_0 : w60.cell? ⟨gb118, 0, none⟩ = some (.int .i64 0) := (blk_cell BK118.out 0).trans rfl; have hcz62_1 : w60.cell? ⟨gb118, 1, none⟩ = some (.slice none 0 0) := (blk_cell BK118.out 1).trans rfl; have hfz62_0 := blk_frozen BK118.out 0; have hfz62_1 := blk_frozen BK118.out 1; obtain ⟨Ao63, co63, eo63⟩ := Kd.R_slice HO117.out; subst eo63) | ((with_reducible refine gate_callee (f := 33) rfl ?_); refine goesL_ (some 18) rfl rfl Try.func33 (by kernel_rfl) rfl #[.agg #[.int .i64 t103, .slice Ao63 t109.length co63]] rfl qm ?_; (with_reducible refine (impl_WayCount.calls k t103 _ _ t109 t104 _ ?side1 ?side2 A10.out).mono ?_); (case side1 => refine (Kd.R_reads' (e := 54) (base := w.heap.size) (ok := fun k_ => (True ∧ some k_ ≠ (.slice Ao56 t108.length co56 : Value).ownBlock)) (n := t109.length) (c := co63) ?_).2.2; exact (by (with_reducible repeat (first | apply Kd.R_alloc | apply Kd.R_drewN | apply Kd.R_drew)); exact (Kd.R_mono (Kd.R_far (p := ⟨gb118, 1, none⟩) (Kd.R_far (p := ⟨gb118, 0, none⟩) (Kd.R_types HO117.out BK118.out (by decide)) (fun _ hk => hk.2) (.int .i64 t103)) (fun _ hk => hk.2) (.slice Ao63 t109.length co63)) (fun _ h_ => h_.1)))); (case side2 => exact (Kd.R_reads' HO117.out).2.1); rintro e w64 ⟨rfl, hb⟩; refine ⟨_, rfl, ?_⟩; have n0_ := q0 (Kd.R_below (by (with_reducible repeat (first | apply Kd.R_alloc | apply Kd.R_drewN | apply Kd.R_drew)); exact (Kd.R_mono (Kd.R_far (p := ⟨gb118, 1, none⟩) (Kd.R_far (p := ⟨gb118, 0, none⟩) (Kd.R_types HO115.out BK118.out (by decide)) (fun _ hk => hk.2) (.int .i64 t103)) (fun _ hk => hk.2) (.slice Ao63 t109.length co63)) (fun _ h_ => h_.1))) hb); have n1_ := q0 (Kd.R_below (by (with_reducible repeat (first | apply Kd.R_alloc | apply Kd.R_drewN | apply Kd.R_drew)); exact (Kd.R_mono (Kd.R_far (p := ⟨gb118, 1, none⟩) (Kd.R_far (p := ⟨gb118, 0, none⟩) (Kd.R_types HO117.out BK118.out (by decide)) (fun _ hk => hk.2) (.int .i64 t103)) (fun _ hk => hk.2) (.slice Ao63 t109.length co63)) (fun _ h_ => h_.1))) hb); have n2_ := q0 (blk_below (g := gb107) (o := .cells #[.int .i64 a0_0, .slice A0_1 l0_1.length c0_1] 25 (0, 0)) (qf BK107.out) hb); have n3_ := q0 (blk_below (g := gb118) (o := .cells #[.int .i64 t103, .slice Ao63 t109.length co63] 30 (0, 0)) (by (with_reducible repeat (first | refine blk_drewN ?_ _ | refine blk_drew ?_ | refine blk_alloc ?_ _)); refine blk_put (cs := #[.int .i64 t103, .slice none 0 0]) ?_ 1 _ rfl; (with_reducible repeat (first | refine blk_drewN ?_ _ | refine blk_drew ?_ | refine blk_alloc ?_ _)); refine blk_put (cs := #[.int .i64 0, .slice none 0 0]) ?_ 0 _ rfl; (with_reducible repeat (first | refine blk_drewN ?_ _ | refine blk_drew ?_ | refine blk_alloc ?_ _)); exact BK118.out) hb); have n4_ := q0 (below_step (qb HB.out) hb); clear HO115 HO117 BK107 BK118 HB; have HO115 := n0_; have HO117 := n1_; have BK107 := n2_; have BK118 := n3_; have HB := n4_; clear n0_ n1_ n2_ n3_ n4_; (try clear hb); (try clear hb2); (try clear hk); (try clear hi)))
   go_ret
   exact ⟨qe, qb HB.out⟩
 rw [if_pos c11] at H
 have c11b0 : (t104 == t102) = true := beq_iff_eq.mpr c11
 have c11b1 : (t104 != t102) = false := bne_eq_false_iff_eq.mpr c11
 clear c11
 replace H := Option.bind_eq_some_iff.mp H
 obtain ⟨⟨t105, t111⟩, A112, H⟩ := H
 replace H : ((laws_eqNet.f k t103 t109 t105 t111).bind fun t106 => (if t106 = true then (some true) else (some false))) = some r := H
 have A12 := Aside0.mk A112
 clear A112
 replace H := Option.bind_eq_some_iff.mp H
 obtain ⟨t106, A113, H⟩ := H
 replace H : (if t106 = true then (some true) else (some false)) = some r := H
 have A13 := Aside0.mk A113
 clear A113
 by_cases c14 : t106 = true
 · subst c14
   have H1 : (some true) = some r := by rw [if_pos rfl] at H; exact H
   clear H
   have H := H1
   clear H1
   obtain rfl := Option.some.inj H
   go_enter Try.func10, Try.ntmps10
   try go_wp2_with (first | ((with_reducible refine gate_dst (N := 1) rfl ?_); refine be 1 #[.int .i64 a0_0, .slice A0_1 l0_1.length c0_1] 25 ?_; intro gb107 hg w15 hbox hb; have n0_ := q0 (below_step (qb HB.out) hb); have n1_ := q0 (hbox); have n2_ := q0 ((bs HB.out hg : w.heap.size ≤ gb107)); have n3_ := q0 ((bs HB.out hg : w.heap.size ≤ gb107)); clear HB; have HB := n0_; have BK107 := n1_; have GW107 := n2_; have GE107 := n3_; clear n0_ n1_ n2_ n3_ hb hbox hg; have hcz16_0 : w15.cell? ⟨gb107, 0, none⟩ = some (.int .i64 a0_0) := (blk_cell BK107.out 0).trans rfl; have hcz16_1 : w15.cell? ⟨gb107, 1, none⟩ = some (.slice A0_1 l0_1.length c0_1) := (blk_cell BK107.out 1).trans rfl; have hfz16_0 := blk_frozen BK107.out 0; have hfz16_1 := blk_frozen BK107.out 1) | ((with_reducible refine gate_callee (f := 14) rfl ?_); refine goesL_ (some 9) rfl rfl Try.func14 (by kernel_rfl) rfl #[.agg #[.int .i64 a0_0, .slice A0_1 l0_1.length c0_1], .int .i64 1048576] rfl qm ?_; (with_reducible refine (laws_szNet.calls a0_0 _ _ l0_1 1048576 t100 _ ?side1 ?side2 A2.out).mono ?_); (case side1 => exact qc (Kd.C_below HR0_1.out HB.out)); (case side2 => exact HC0_1.out); rintro e w17 ⟨rfl, hb⟩; refine ⟨_, rfl, ?_⟩; have n0_ := q0 (kb BK107.out hb); have n1_ := q0 (below_step (qb HB.out) hb); clear BK107 HB; have BK107 := n0_; have HB := n1_; clear n0_ n1_; (try clear hb); (try clear hb2); (try clear hk); (try clear hi); have hcz18_0 : w17.cell? ⟨gb107, 0, none⟩ = some (.int .i64 a0_0) := (blk_cell BK107.out 0).trans rfl; have hcz18_1 : w17.cell? ⟨gb107, 1, none⟩ = some (.slice A0_1 l0_1.length c0_1) := (blk_cell BK107.out 1).trans rfl; have hfz18_0 := blk_frozen BK107.out 0; have hfz18_1 := blk_frozen BK107.out 1) | ((with_reducible refine gate_callee (f := 16) rfl ?_); refine goesL_ (some 13) rfl rfl Try.func16 (by kernel_rfl) rfl #[.agg #[.int .i64 a0_0, .slice A0_1 l0_1.length c0_1]] rfl qm ?_; (with_reducible refine (laws_toNet.calls k a0_0 _ _ l0_1 t101 t108 _ ?side1 ?side2 A7.out).mono ?_); (case side1 => exact qc (Kd.C_below HR0_1.out HB.out)); (case side2 => exact HC0_1.out); rintro e w19 ⟨v114, rfl, ho0, hb⟩; refine ⟨_, rfl, ?_⟩; have n0_ := q0 (Kd.R_lower ho0 (below_size (qb HB.out))); have n1_ := q0 (kb BK107.out hb); have n2_ := q0 (below_step (qb HB.out) hb); clear BK107 HB; have HO115 := n0_; have BK107 := n1_; have HB := n2_; clear n0_ n1_ n2_; (try clear hb); (try clear hb2); (try clear hk); (try clear hi); (try clear ho0); obtain ⟨Ao20, co20, eo20⟩ := Kd.R_slice HO115.out; subst eo20) | ((with_reducible refine gate_callee (f := 32) rfl ?_); refine goesL_ (some 14) rfl rfl Try.func32 (by kernel_rfl) rfl #[.agg #[.int .i64 t101, .slice Ao20 t108.length co20]] rfl qm ?_; (with_reducible refine (spec_WayCount.calls k t101 _ _ t108 t102 _ ?side1 ?side2 A8.out).mono ?_); (case side1 => exact qc (Kd.R_reads' HO115.out).2.2); (case side2 => exact (Kd.R_reads' HO115.out).2.1); rintro e w21 ⟨rfl, hb⟩; refine ⟨_, rfl, ?_⟩; have n0_ := q0 (Kd.R_below (qr HO115.out) hb); have n1_ := q0 (kb BK107.out hb); have n2_ := q0 (below_step (qb HB.out) hb); clear HO115 BK107 HB; have HO115 := n0_; have BK107 := n1_; have HB := n2_; clear n0_ n1_ n2_; (try clear hb); (try clear hb2); (try clear hk); (try clear hi); have hcz22_0 : w21.cell? ⟨gb107, 0, none⟩ = some (.int .i64 a0_0) := (blk_cell BK107.out 0).trans rfl; have hcz22_1 : w21.cell? ⟨gb107, 1, none⟩ = some (.slice A0_1 l0_1.length c0_1) := (blk_cell BK107.out 1).trans rfl; have hfz22_0 := blk_frozen BK107.out 0; have hfz22_1 := blk_frozen BK107.out 1) | ((with_reducible refine gate_callee (f := 16) rfl ?_); refine goesL_ (some 16) rfl rfl Try.func16 (by kernel_rfl) rfl #[.agg #[.int .i64 a0_0, .slice A0_1 l0_1.length c0_1]] rfl qm ?_; (with_reducible refine (laws_toNet.calls k a0_0 _ _ l0_1 t103 t109 _ ?side1 ?side2 A9.out).mono ?_); (case side1 => exact qc (Kd.C_below HR0_1.out HB.out)); (case side2 => exact HC0_1.out); rintro e w23 ⟨v116, rfl, ho0, hb⟩; refine ⟨_, rfl, ?_⟩; have n0_ := q0 (Kd.R_elder' (qr HO115.out) (Kd.R_base ho0) hb); have n1_ := q0 (Kd.R_lower (Kd.R_new' ho0 (Kd.R_lt (qr HO115.out))) (below_size (qb HB.out))); have n2_ := q0 (kb BK107.out hb); have n3_ := q0 (below_step (qb HB.out) hb); clear HO115 BK107 HB; have HO115 := n0_; have HO117 := n1_; have BK107 := n2_; have HB := n3_; clear n0_ n1_ n2_ n3_; (try clear hb); (try clear hb2); (try clear hk); (try clear hi); (try clear ho0)) | ((with_reducible refine gate_dst (N := 5) rfl ?_); refine be 5 #[.int .i64 0, .slice none 0 0] 30 ?_; intro gb118 hg w24 hbox hb; have n0_ := q0 (Kd.R_below (qr HO115.out) hb); have n1_ := q0 (Kd.R_below (qr HO117.out) hb); have n2_ := q0 (kb BK107.out hb); have n3_ := q0 (below_step (qb HB.out) hb); have n4_ := q0 (hbox); have n5_ := q0 ((bs HB.out hg : w.heap.size ≤ gb118)); have n6_ := q0 ((bs HB.out hg : w.heap.size ≤ gb118)); have n7_ := q0 ((bl BK107.out hg : gb107 ≠ gb118)); have n8_ := q0 ((bg BK107.out hg : gb118 ≠ gb107)); clear HO115 HO117 BK107 HB; have HO115 := n0_; have HO117 := n1_; have BK107 := n2_; have HB := n3_; have BK118 := n4_; have GW118 := n5_; have GE118 := n6_; have NB107_118 := n7_; have NB118_107 := n8_; clear n0_ n1_ n2_ n3_ n4_ n5_ n6_ n7_ n8_ hb hbox hg; have hnb25 := NB118_107.out; have hnc25 := NB107_118.out; have hcz26_0 : w24.cell? ⟨gb118, 0, none⟩ = some (.int .i64 0) := (blk_cell BK118.out 0).trans rfl; have hcz26_1 : w24.cell? ⟨gb118, 1, none⟩ = some (.slice none 0 0) := (blk_cell BK118.out 1).trans rfl; have hfz26_0 := blk_frozen BK118.out 0; have hfz26_1 := blk_frozen BK118.out 1; obtain ⟨Ao27, co27, eo27⟩ := Kd.R_slice HO117.out; subst eo27) | ((with_reducible refine gate_callee (f := 33) rfl ?_); refine goesL_ (some 18) rfl rfl Try.func33 (by kernel_rfl) rfl #[.agg #[.int .i64 t103, .slice Ao27 t109.length co27]] rfl qm ?_; (with_reducible refine (impl_WayCount.calls k t103 _ _ t109 t104 _ ?side1 ?side2 A10.out).mono ?_); (case side1 => refine (Kd.R_reads' (e := 54) (base := w.heap.size) (ok := fun k_ => (True ∧ some k_ ≠ (.slice Ao20 t108.length co20 : Value).ownBlock)) (n := t109.length) (c := co27) ?_).2.2; exact (by (with_reducible repeat (first | apply Kd.R_alloc | apply Kd.R_drewN | apply Kd.R_drew)); exact (Kd.R_mono (Kd.R_far (p := ⟨gb118, 1, none⟩) (Kd.R_far (p := ⟨gb118, 0, none⟩) (Kd.R_types HO117.out BK118.out (by decide)) (fun _ hk => hk.2) (.int .i64 t103)) (fun _ hk => hk.2) (.slice Ao27 t109.length co27)) (fun _ h_ => h_.1)))); (case side2 => exact (Kd.R_reads' HO117.out).2.1); rintro e w28 ⟨rfl, hb⟩; refine ⟨_, rfl, ?_⟩; have n0_ := q0 (Kd.R_below (by (with_reducible repeat (first | apply Kd.R_alloc | apply Kd.R_drewN | apply Kd.R_drew)); exact (Kd.R_mono (Kd.R_far (p := ⟨gb118, 1, none⟩) (Kd.R_far (p := ⟨gb118, 0, none⟩) (Kd.R_types HO115.out BK118.out (by decide)) (fun _ hk => hk.2) (.int .i64 t103)) (fun _ hk => hk.2) (.slice Ao27 t109.length co27)) (fun _ h_ => h_.1))) hb); have n1_ := q0 (Kd.R_below (by (with_reducible repeat (first | apply Kd.R_alloc | apply Kd.R_drewN | apply Kd.R_drew)); exact (Kd.R_mono (Kd.R_far (p := ⟨gb118, 1, none⟩) (Kd.R_far (p := ⟨gb118, 0, none⟩) (Kd.R_types HO117.out BK118.out (by decide)) (fun _ hk => hk.2) (.int .i64 t103)) (fun _ hk => hk.2) (.slice Ao27 t109.length co27)) (fun _ h_ => h_.1))) hb); have n2_ := q0 (blk_below (g := gb107) (o := .cells #[.int .i64 a0_0, .slice A0_1 l0_1.length c0_1] 25 (0, 0)) (qf BK107.out) hb); have n3_ := q0 (blk_below (g := gb118) (o := .cells #[.int .i64 t103, .slice Ao27 t109.length co27] 30 (0, 0)) (by (with_reducible repeat (first | refine blk_drewN ?_ _ | refine blk_drew ?_ | refine blk_alloc ?_ _)); refine blk_put (cs := #[.int .i64 t103, .slice none 0 0]) ?_ 1 _ rfl; (with_reducible repeat (first | refine blk_drewN ?_ _ | refine blk_drew ?_ | refine blk_alloc ?_ _)); refine blk_put (cs := #[.int .i64 0, .slice none 0 0]) ?_ 0 _ rfl; (with_reducible repeat (first | refine blk_drewN ?_ _ | refine blk_drew ?_ | refine blk_alloc ?_ _)); exact BK118.out) hb); have n4_ := q0 (below_step (qb HB.out) hb); clear HO115 HO117 BK107 BK118 HB; have HO115 := n0_; have HO117 := n1_; have BK107 := n2_; have BK118 := n3_; have HB := n4_; clear n0_ n1_ n2_ n3_ n4_; (try clear hb); (try clear hb2); (try clear hk); (try clear hi)))
   have n0_ := q0 (Kd.R_drew HO115.out)
   have n1_ := q0 (Kd.R_drew HO117.out)
   have n2_ := q0 (blk_drew BK107.out)
   have n3_ := q0 (blk_drew BK118.out)
   have n4_ := q0 (below_drew1 HB.out)
   clear HO115
   clear HO117
   clear BK107
   clear BK118
   clear HB
   have HO115 := n0_
   have HO117 := n1_
   have BK107 := n2_
   have BK118 := n3_
   have HB := n4_
   clear n0_ n1_ n2_ n3_ n4_
   refine start_ (n := 5) (S := fun w' => w'.cell? ⟨gb118, 0, none⟩ = some (.int .i64 t103) ∧ w'.cell? ⟨gb118, 1, none⟩ = some (.slice Ao27 t109.length co27) ∧ w'.cell? ⟨gb107, 0, none⟩ = some (.int .i64 a0_0) ∧ w'.cell? ⟨gb107, 1, none⟩ = some (.slice A0_1 l0_1.length c0_1)) (ds := []) (ba 5 0) (by kernel_rfl) rfl (by kernel_rfl) ⟨(blk_cell BK118.out 0).trans rfl, (blk_cell BK118.out 1).trans rfl, (blk_cell BK107.out 0).trans rfl, (blk_cell BK107.out 1).trans rfl⟩ (fun hHeld => ?_)
   generalize w28.drew = w29 at HO115 HO117 BK107 BK118 HB hHeld ⊢
   refine tw 0 (some 22) (ba 5 1) hHeld ?_
   refine tw 1 (some 23) (ba 5 3) hHeld ?_
   refine one_ (i := 2) (N := some 24) (ba 5 7) rfl rfl (by kernel_rfl) (by decide) (fun K hK => ?_)
   refine goes_ Try.func16 (by kernel_rfl) rfl #[.agg #[.int .i64 a0_0, .slice A0_1 l0_1.length c0_1]] (by rfl) rfl rfl qm ?_
   with_reducible refine (laws_toNet.calls k a0_0 _ _ l0_1 t105 t111 _ ?side1 ?side2 A12.out).mono ?_
   (case side1 => exact qc (Kd.C_below HR0_1.out HB.out))
   (case side2 => exact HC0_1.out)
   rintro e w30 ⟨v119, rfl, ho0, hb⟩
   refine ⟨_, rfl, ?_⟩
   have n0_ := q0 (Kd.R_elder' (qr HO115.out) (Kd.R_base ho0) hb)
   have n1_ := q0 (Kd.R_elder' (qr HO117.out) (Kd.R_base ho0) hb)
   have n2_ := q0 (Kd.R_lower (Kd.R_new' (Kd.R_new' ho0 (Kd.R_lt (qr HO115.out))) (Kd.R_lt (qr HO117.out))) (below_size (qb HB.out)))
   have n3_ := q0 (kb BK107.out hb)
   have n4_ := q0 (kb BK118.out hb)
   have n5_ := q0 (below_step (qb HB.out) hb)
   clear HO115
   clear HO117
   clear BK107
   clear BK118
   clear HB
   have HO115 := n0_
   have HO117 := n1_
   have HO120 := n2_
   have BK107 := n3_
   have BK118 := n4_
   have HB := n5_
   clear n0_ n1_ n2_ n3_ n4_ n5_
   (try clear hb)
   (try clear hb2)
   (try clear hk)
   (try clear hi)
   (try clear ho0)
   obtain ⟨Ao31, co31, eo31⟩ := Kd.R_slice HO120.out
   (first | subst eo31 | (injection eo31 with f1_ f2_ f3_; have f4_ := f1_.symm; have f5_ := f3_.symm; clear f1_ f2_ f3_; subst f4_; subst f5_))
   refine hK.out _ _ ⟨(blk_cell BK118.out 0).trans rfl, (blk_cell BK118.out 1).trans rfl, (blk_cell BK107.out 0).trans rfl, (blk_cell BK107.out 1).trans rfl⟩ (fun hHeld => ?_)
   clear hK K
   refine nu 24 ?_
   refine one_ (i := 3) (N := some 25) (ba 5 15) rfl rfl (by kernel_rfl) (by decide) (fun K hK => ?_)
   refine goes_ Try.func18 (by kernel_rfl) rfl #[.agg #[.int .i64 t103, .slice Ao27 t109.length co27], .agg #[.int .i64 t105, .slice Ao31 t111.length co31]] (by rfl) rfl rfl qm ?_
   with_reducible refine (laws_eqNet.calls k t103 _ _ t109 t105 _ _ t111 true _ ?side1 ?side2 ?side3 ?side4 A13.out).mono ?_
   (case side1 => exact qc (Kd.R_reads' HO117.out).2.2)
   (case side2 => exact (Kd.R_reads' HO117.out).2.1)
   (case side3 => exact qc (Kd.R_reads' HO120.out).2.2)
   (case side4 => exact (Kd.R_reads' HO120.out).2.1)
   rintro e w32 ⟨rfl, hb⟩
   refine ⟨_, rfl, ?_⟩
   have n0_ := q0 (Kd.R_below (qr HO115.out) hb)
   have n1_ := q0 (Kd.R_below (qr HO117.out) hb)
   have n2_ := q0 (Kd.R_below (qr HO120.out) hb)
   have n3_ := q0 (kb BK107.out hb)
   have n4_ := q0 (kb BK118.out hb)
   have n5_ := q0 (below_step (qb HB.out) hb)
   clear HO115
   clear HO117
   clear HO120
   clear BK107
   clear BK118
   clear HB
   have HO115 := n0_
   have HO117 := n1_
   have HO120 := n2_
   have BK107 := n3_
   have BK118 := n4_
   have HB := n5_
   clear n0_ n1_ n2_ n3_ n4_ n5_
   (try clear hb)
   (try clear hb2)
   (try clear hk)
   (try clear hi)
   refine hK.out _ _ ⟨(blk_cell BK118.out 0).trans rfl, (blk_cell BK118.out 1).trans rfl, (blk_cell BK107.out 0).trans rfl, (blk_cell BK107.out 1).trans rfl⟩ (fun hHeld => ?_)
   clear hK K
   refine nu 25 ?_
   refine pw 4 (some 26) (ba 5 31) ?_
   refine done_ (by kernel_rfl) ?_
   try go_wp2
   go_ret
   exact ⟨qe, qb HB.out⟩
 replace c14 := Bool.eq_false_iff.mpr c14
 subst c14
 have H1 : (some false) = some r := by rw [if_neg (show ¬ (false = true) by decide)] at H; exact H
 clear H
 have H := H1
 clear H1
 obtain rfl := Option.some.inj H
 go_enter Try.func10, Try.ntmps10
 try go_wp2_with (first | ((with_reducible refine gate_dst (N := 1) rfl ?_); refine be 1 #[.int .i64 a0_0, .slice A0_1 l0_1.length c0_1] 25 ?_; intro gb107 hg w33 hbox hb; have n0_ := q0 (below_step (qb HB.out) hb); have n1_ := q0 (hbox); have n2_ := q0 ((bs HB.out hg : w.heap.size ≤ gb107)); have n3_ := q0 ((bs HB.out hg : w.heap.size ≤ gb107)); clear HB; have HB := n0_; have BK107 := n1_; have GW107 := n2_; have GE107 := n3_; clear n0_ n1_ n2_ n3_ hb hbox hg; have hcz34_0 : w33.cell? ⟨gb107, 0, none⟩ = some (.int .i64 a0_0) := (blk_cell BK107.out 0).trans rfl; have hcz34_1 : w33.cell? ⟨gb107, 1, none⟩ = some (.slice A0_1 l0_1.length c0_1) := (blk_cell BK107.out 1).trans rfl; have hfz34_0 := blk_frozen BK107.out 0; have hfz34_1 := blk_frozen BK107.out 1) | ((with_reducible refine gate_callee (f := 14) rfl ?_); refine goesL_ (some 9) rfl rfl Try.func14 (by kernel_rfl) rfl #[.agg #[.int .i64 a0_0, .slice A0_1 l0_1.length c0_1], .int .i64 1048576] rfl qm ?_; (with_reducible refine (laws_szNet.calls a0_0 _ _ l0_1 1048576 t100 _ ?side1 ?side2 A2.out).mono ?_); (case side1 => exact qc (Kd.C_below HR0_1.out HB.out)); (case side2 => exact HC0_1.out); rintro e w35 ⟨rfl, hb⟩; refine ⟨_, rfl, ?_⟩; have n0_ := q0 (kb BK107.out hb); have n1_ := q0 (below_step (qb HB.out) hb); clear BK107 HB; have BK107 := n0_; have HB := n1_; clear n0_ n1_; (try clear hb); (try clear hb2); (try clear hk); (try clear hi); have hcz36_0 : w35.cell? ⟨gb107, 0, none⟩ = some (.int .i64 a0_0) := (blk_cell BK107.out 0).trans rfl; have hcz36_1 : w35.cell? ⟨gb107, 1, none⟩ = some (.slice A0_1 l0_1.length c0_1) := (blk_cell BK107.out 1).trans rfl; have hfz36_0 := blk_frozen BK107.out 0; have hfz36_1 := blk_frozen BK107.out 1) | ((with_reducible refine gate_callee (f := 16) rfl ?_); refine goesL_ (some 13) rfl rfl Try.func16 (by kernel_rfl) rfl #[.agg #[.int .i64 a0_0, .slice A0_1 l0_1.length c0_1]] rfl qm ?_; (with_reducible refine (laws_toNet.calls k a0_0 _ _ l0_1 t101 t108 _ ?side1 ?side2 A7.out).mono ?_); (case side1 => exact qc (Kd.C_below HR0_1.out HB.out)); (case side2 => exact HC0_1.out); rintro e w37 ⟨v114, rfl, ho0, hb⟩; refine ⟨_, rfl, ?_⟩; have n0_ := q0 (Kd.R_lower ho0 (below_size (qb HB.out))); have n1_ := q0 (kb BK107.out hb); have n2_ := q0 (below_step (qb HB.out) hb); clear BK107 HB; have HO115 := n0_; have BK107 := n1_; have HB := n2_; clear n0_ n1_ n2_; (try clear hb); (try clear hb2); (try clear hk); (try clear hi); (try clear ho0); obtain ⟨Ao38, co38, eo38⟩ := Kd.R_slice HO115.out; subst eo38) | ((with_reducible refine gate_callee (f := 32) rfl ?_); refine goesL_ (some 14) rfl rfl Try.func32 (by kernel_rfl) rfl #[.agg #[.int .i64 t101, .slice Ao38 t108.length co38]] rfl qm ?_; (with_reducible refine (spec_WayCount.calls k t101 _ _ t108 t102 _ ?side1 ?side2 A8.out).mono ?_); (case side1 => exact qc (Kd.R_reads' HO115.out).2.2); (case side2 => exact (Kd.R_reads' HO115.out).2.1); rintro e w39 ⟨rfl, hb⟩; refine ⟨_, rfl, ?_⟩; have n0_ := q0 (Kd.R_below (qr HO115.out) hb); have n1_ := q0 (kb BK107.out hb); have n2_ := q0 (below_step (qb HB.out) hb); clear HO115 BK107 HB; have HO115 := n0_; have BK107 := n1_; have HB := n2_; clear n0_ n1_ n2_; (try clear hb); (try clear hb2); (try clear hk); (try clear hi); have hcz40_0 : w39.cell? ⟨gb107, 0, none⟩ = some (.int .i64 a0_0) := (blk_cell BK107.out 0).trans rfl; have hcz40_1 : w39.cell? ⟨gb107, 1, none⟩ = some (.slice A0_1 l0_1.length c0_1) := (blk_cell BK107.out 1).trans rfl; have hfz40_0 := blk_frozen BK107.out 0; have hfz40_1 := blk_frozen BK107.out 1) | ((with_reducible refine gate_callee (f := 16) rfl ?_); refine goesL_ (some 16) rfl rfl Try.func16 (by kernel_rfl) rfl #[.agg #[.int .i64 a0_0, .slice A0_1 l0_1.length c0_1]] rfl qm ?_; (with_reducible refine (laws_toNet.calls k a0_0 _ _ l0_1 t103 t109 _ ?side1 ?side2 A9.out).mono ?_); (case side1 => exact qc (Kd.C_below HR0_1.out HB.out)); (case side2 => exact HC0_1.out); rintro e w41 ⟨v116, rfl, ho0, hb⟩; refine ⟨_, rfl, ?_⟩; have n0_ := q0 (Kd.R_elder' (qr HO115.out) (Kd.R_base ho0) hb); have n1_ := q0 (Kd.R_lower (Kd.R_new' ho0 (Kd.R_lt (qr HO115.out))) (below_size (qb HB.out))); have n2_ := q0 (kb BK107.out hb); have n3_ := q0 (below_step (qb HB.out) hb); clear HO115 BK107 HB; have HO115 := n0_; have HO117 := n1_; have BK107 := n2_; have HB := n3_; clear n0_ n1_ n2_ n3_; (try clear hb); (try clear hb2); (try clear hk); (try clear hi); (try clear ho0)) | ((with_reducible refine gate_dst (N := 5) rfl ?_); refine be 5 #[.int .i64 0, .slice none 0 0] 30 ?_; intro gb118 hg w42 hbox hb; have n0_ := q0 (Kd.R_below (qr HO115.out) hb); have n1_ := q0 (Kd.R_below (qr HO117.out) hb); have n2_ := q0 (kb BK107.out hb); have n3_ := q0 (below_step (qb HB.out) hb); have n4_ := q0 (hbox); have n5_ := q0 ((bs HB.out hg : w.heap.size ≤ gb118)); have n6_ := q0 ((bs HB.out hg : w.heap.size ≤ gb118)); have n7_ := q0 ((bl BK107.out hg : gb107 ≠ gb118)); have n8_ := q0 ((bg BK107.out hg : gb118 ≠ gb107)); clear HO115 HO117 BK107 HB; have HO115 := n0_; have HO117 := n1_; have BK107 := n2_; have HB := n3_; have BK118 := n4_; have GW118 := n5_; have GE118 := n6_; have NB107_118 := n7_; have NB118_107 := n8_; clear n0_ n1_ n2_ n3_ n4_ n5_ n6_ n7_ n8_ hb hbox hg; have hnb43 := NB118_107.out; have hnc43 := NB107_118.out; have hcz44_0 : w42.cell? ⟨gb118, 0, none⟩ = some (.int .i64 0) := (blk_cell BK118.out 0).trans rfl; have hcz44_1 : w42.cell? ⟨gb118, 1, none⟩ = some (.slice none 0 0) := (blk_cell BK118.out 1).trans rfl; have hfz44_0 := blk_frozen BK118.out 0; have hfz44_1 := blk_frozen BK118.out 1; obtain ⟨Ao45, co45, eo45⟩ := Kd.R_slice HO117.out; subst eo45) | ((with_reducible refine gate_callee (f := 33) rfl ?_); refine goesL_ (some 18) rfl rfl Try.func33 (by kernel_rfl) rfl #[.agg #[.int .i64 t103, .slice Ao45 t109.length co45]] rfl qm ?_; (with_reducible refine (impl_WayCount.calls k t103 _ _ t109 t104 _ ?side1 ?side2 A10.out).mono ?_); (case side1 => refine (Kd.R_reads' (e := 54) (base := w.heap.size) (ok := fun k_ => (True ∧ some k_ ≠ (.slice Ao38 t108.length co38 : Value).ownBlock)) (n := t109.length) (c := co45) ?_).2.2; exact (by (with_reducible repeat (first | apply Kd.R_alloc | apply Kd.R_drewN | apply Kd.R_drew)); exact (Kd.R_mono (Kd.R_far (p := ⟨gb118, 1, none⟩) (Kd.R_far (p := ⟨gb118, 0, none⟩) (Kd.R_types HO117.out BK118.out (by decide)) (fun _ hk => hk.2) (.int .i64 t103)) (fun _ hk => hk.2) (.slice Ao45 t109.length co45)) (fun _ h_ => h_.1)))); (case side2 => exact (Kd.R_reads' HO117.out).2.1); rintro e w46 ⟨rfl, hb⟩; refine ⟨_, rfl, ?_⟩; have n0_ := q0 (Kd.R_below (by (with_reducible repeat (first | apply Kd.R_alloc | apply Kd.R_drewN | apply Kd.R_drew)); exact (Kd.R_mono (Kd.R_far (p := ⟨gb118, 1, none⟩) (Kd.R_far (p := ⟨gb118, 0, none⟩) (Kd.R_types HO115.out BK118.out (by decide)) (fun _ hk => hk.2) (.int .i64 t103)) (fun _ hk => hk.2) (.slice Ao45 t109.length co45)) (fun _ h_ => h_.1))) hb); have n1_ := q0 (Kd.R_below (by (with_reducible repeat (first | apply Kd.R_alloc | apply Kd.R_drewN | apply Kd.R_drew)); exact (Kd.R_mono (Kd.R_far (p := ⟨gb118, 1, none⟩) (Kd.R_far (p := ⟨gb118, 0, none⟩) (Kd.R_types HO117.out BK118.out (by decide)) (fun _ hk => hk.2) (.int .i64 t103)) (fun _ hk => hk.2) (.slice Ao45 t109.length co45)) (fun _ h_ => h_.1))) hb); have n2_ := q0 (blk_below (g := gb107) (o := .cells #[.int .i64 a0_0, .slice A0_1 l0_1.length c0_1] 25 (0, 0)) (qf BK107.out) hb); have n3_ := q0 (blk_below (g := gb118) (o := .cells #[.int .i64 t103, .slice Ao45 t109.length co45] 30 (0, 0)) (by (with_reducible repeat (first | refine blk_drewN ?_ _ | refine blk_drew ?_ | refine blk_alloc ?_ _)); refine blk_put (cs := #[.int .i64 t103, .slice none 0 0]) ?_ 1 _ rfl; (with_reducible repeat (first | refine blk_drewN ?_ _ | refine blk_drew ?_ | refine blk_alloc ?_ _)); refine blk_put (cs := #[.int .i64 0, .slice none 0 0]) ?_ 0 _ rfl; (with_reducible repeat (first | refine blk_drewN ?_ _ | refine blk_drew ?_ | refine blk_alloc ?_ _)); exact BK118.out) hb); have n4_ := q0 (below_step (qb HB.out) hb); clear HO115 HO117 BK107 BK118 HB; have HO115 := n0_; have HO117 := n1_; have BK107 := n2_; have BK118 := n3_; have HB := n4_; clear n0_ n1_ n2_ n3_ n4_; (try clear hb); (try clear hb2); (try clear hk); (try clear hi)))
 have n0_ := q0 (Kd.R_drew HO115.out)
 have n1_ := q0 (Kd.R_drew HO117.out)
 have n2_ := q0 (blk_drew BK107.out)
 have n3_ := q0 (blk_drew BK118.out)
 have n4_ := q0 (below_drew1 HB.out)
 clear HO115
 clear HO117
 clear BK107
 clear BK118
 clear HB
 have HO115 := n0_
 have HO117 := n1_
 have BK107 := n2_
 have BK118 := n3_
 have HB := n4_
 clear n0_ n1_ n2_ n3_ n4_
 refine start_ (n := 5) (S := fun w' => w'.cell? ⟨gb118, 0, none⟩ = some (.int .i64 t103) ∧ w'.cell? ⟨gb118, 1, none⟩ = some (.slice Ao45 t109.length co45) ∧ w'.cell? ⟨gb107, 0, none⟩ = some (.int .i64 a0_0) ∧ w'.cell? ⟨gb107, 1, none⟩ = some (.slice A0_1 l0_1.length c0_1)) (ds := []) (ba 5 0) (by kernel_rfl) rfl (by kernel_rfl) ⟨(blk_cell BK118.out 0).trans rfl, (blk_cell BK118.out 1).trans rfl, (blk_cell BK107.out 0).trans rfl, (blk_cell BK107.out 1).trans rfl⟩ (fun hHeld => ?_)
 generalize w46.drew = w47 at HO115 HO117 BK107 BK118 HB hHeld ⊢
 refine tw 0 (some 22) (ba 5 1) hHeld ?_
 refine tw 1 (some 23) (ba 5 3) hHeld ?_
 refine one_ (i := 2) (N := some 24) (ba 5 7) rfl rfl (by kernel_rfl) (by decide) (fun K hK => ?_)
 refine goes_ Try.func16 (by kernel_rfl) rfl #[.agg #[.int .i64 a0_0, .slice A0_1 l0_1.length c0_1]] (by rfl) rfl rfl qm ?_
 with_reducible refine (laws_toNet.calls k a0_0 _ _ l0_1 t105 t111 _ ?side1 ?side2 A12.out).mono ?_
 (case side1 => exact qc (Kd.C_below HR0_1.out HB.out))
 (case side2 => exact HC0_1.out)
 rintro e w48 ⟨v119, rfl, ho0, hb⟩
 refine ⟨_, rfl, ?_⟩
 have n0_ := q0 (Kd.R_elder' (qr HO115.out) (Kd.R_base ho0) hb)
 have n1_ := q0 (Kd.R_elder' (qr HO117.out) (Kd.R_base ho0) hb)
 have n2_ := q0 (Kd.R_lower (Kd.R_new' (Kd.R_new' ho0 (Kd.R_lt (qr HO115.out))) (Kd.R_lt (qr HO117.out))) (below_size (qb HB.out)))
 have n3_ := q0 (kb BK107.out hb)
 have n4_ := q0 (kb BK118.out hb)
 have n5_ := q0 (below_step (qb HB.out) hb)
 clear HO115
 clear HO117
 clear BK107
 clear BK118
 clear HB
 have HO115 := n0_
 have HO117 := n1_
 have HO120 := n2_
 have BK107 := n3_
 have BK118 := n4_
 have HB := n5_
 clear n0_ n1_ n2_ n3_ n4_ n5_
 (try clear hb)
 (try clear hb2)
 (try clear hk)
 (try clear hi)
 (try clear ho0)
 obtain ⟨Ao49, co49, eo49⟩ := Kd.R_slice HO120.out
 (first | subst eo49 | (injection eo49 with f1_ f2_ f3_; have f4_ := f1_.symm; have f5_ := f3_.symm; clear f1_ f2_ f3_; subst f4_; subst f5_))
 refine hK.out _ _ ⟨(blk_cell BK118.out 0).trans rfl, (blk_cell BK118.out 1).trans rfl, (blk_cell BK107.out 0).trans rfl, (blk_cell BK107.out 1).trans rfl⟩ (fun hHeld => ?_)
 clear hK K
 refine nu 24 ?_
 refine one_ (i := 3) (N := some 25) (ba 5 15) rfl rfl (by kernel_rfl) (by decide) (fun K hK => ?_)
 refine goes_ Try.func18 (by kernel_rfl) rfl #[.agg #[.int .i64 t103, .slice Ao45 t109.length co45], .agg #[.int .i64 t105, .slice Ao49 t111.length co49]] (by rfl) rfl rfl qm ?_
 with_reducible refine (laws_eqNet.calls k t103 _ _ t109 t105 _ _ t111 false _ ?side1 ?side2 ?side3 ?side4 A13.out).mono ?_
 (case side1 => exact qc (Kd.R_reads' HO117.out).2.2)
 (case side2 => exact (Kd.R_reads' HO117.out).2.1)
 (case side3 => exact qc (Kd.R_reads' HO120.out).2.2)
 (case side4 => exact (Kd.R_reads' HO120.out).2.1)
 rintro e w50 ⟨rfl, hb⟩
 refine ⟨_, rfl, ?_⟩
 have n0_ := q0 (Kd.R_below (qr HO115.out) hb)
 have n1_ := q0 (Kd.R_below (qr HO117.out) hb)
 have n2_ := q0 (Kd.R_below (qr HO120.out) hb)
 have n3_ := q0 (kb BK107.out hb)
 have n4_ := q0 (kb BK118.out hb)
 have n5_ := q0 (below_step (qb HB.out) hb)
 clear HO115
 clear HO117
 clear HO120
 clear BK107
 clear BK118
 clear HB
 have HO115 := n0_
 have HO117 := n1_
 have HO120 := n2_
 have BK107 := n3_
 have BK118 := n4_
 have HB := n5_
 clear n0_ n1_ n2_ n3_ n4_ n5_
 (try clear hb)
 (try clear hb2)
 (try clear hk)
 (try clear hi)
 refine hK.out _ _ ⟨(blk_cell BK118.out 0).trans rfl, (blk_cell BK118.out 1).trans rfl, (blk_cell BK107.out 0).trans rfl, (blk_cell BK107.out 1).trans rfl⟩ (fun hHeld => ?_)
 clear hK K
 refine nu 25 ?_
 refine pw 4 (some 26) (ba 5 31) ?_
 refine done_ (by kernel_rfl) ?_
 try go_wp2
 go_ret
 exact ⟨qe, qb HB.out⟩

end Go.Proofs.Ythaihdfkjhammaa.P
