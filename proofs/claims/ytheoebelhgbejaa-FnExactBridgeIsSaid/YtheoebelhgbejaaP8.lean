import Derived.Test.YtheoebelhgbejaaP0
import Derived.Test.YtheoebelhgbejaaP1
import Derived.Test.YtheoebelhgbejaaP5
namespace Go.Proofs.Ytheoebelhgbejaa.P
open Go.RowKit Go.Proofs.YtheoebelhgbejaaW.PrintWords Go.Proofs.YtheoebelhgbejaaW.PrintLast Go.Proofs.YtheoebelhgbejaaW.PrintMore
attribute [local go_sem] max2_int min2_int max_two min_two max_three min_three max_four min_four
set_option linter.unusedVariables false
set_option linter.unusedSimpArgs false
attribute [local go_sem high] eqATie
set_option maxHeartbeats 8000000 in
set_option maxRecDepth 100000 in
theorem spec_WayParts.calls (k : Nat) (a0_0 : Int) (A0_1 : Option Addr) (c0_1 : Nat) (l0_1 : List (STie)) (r : List Int) (w : World) (hr0_1 : Kd.C kTie w A0_1 l0_1.length l0_1) (hc0_1 : l0_1.length ≤ c0_1) (h : spec_WayParts.f k a0_0 l0_1 = some r) :
    Calls Try.prog 14 #[.agg #[.int .i64 a0_0, .slice A0_1 l0_1.length c0_1]] w fun e w' => ∃ v0_ : Value, e = .returned (v0_) ∧ Kd.R (Kd.int .i64) 3 w' w.heap.size (fun _ => True) v0_ r ∧ Below w.heap.size w w' := by
 have hu30 := Try.underlying30
 have HR0_1 := Aside0.mk hr0_1
 have HC0_1 := Aside0.mk hc0_1
 clear hr0_1 hc0_1
 have HB := q0 (Below.refl w.heap.size w)
 have H : ((some (([] : List Int) : List Int)).bind fun y100 => ((spec_NetOk.f k a0_0 l0_1).bind fun t102 => (if t102 = true then (spec_WayParts.l0 k y100 0 a0_0 l0_1) else (some y100)))) = some r := h
 clear h
 obtain ⟨y100, hy100⟩ : ∃ y_ : List Int, y_ = (([] : List Int)) := ⟨_, rfl⟩
 replace H : ((spec_NetOk.f k a0_0 l0_1).bind fun t102 => (if t102 = true then (spec_WayParts.l0 k y100 0 a0_0 l0_1) else (some y100))) = some r := by first | (rw [hy100]; with_reducible exact H) | (have H2_ := (Option.bind_some _ _).symm.trans H; rw [hy100]; with_reducible exact H2_) | (have H2_ := (Option.bind_some _ _).symm.trans H; with_reducible exact H2_) | with_reducible exact H | (rw [hy100]; exact H) | exact H
 have Ny100 := Aside0.mk hy100
 clear hy100
 replace H := Option.bind_eq_some_iff.mp H
 obtain ⟨t102, A20, H⟩ := H
 replace H : (if t102 = true then (spec_WayParts.l0 k y100 0 a0_0 l0_1) else (some y100)) = some r := H
 have A2 := Aside0.mk A20
 clear A20
 by_cases c3 : t102 = true
 rotate_left
 · replace c3 := Bool.eq_false_iff.mpr c3
   subst c3
   have H1 : (some y100) = some r := by rw [if_neg (show ¬ (false = true) by decide)] at H; exact H
   clear H
   have H := H1
   clear H1
   obtain rfl := Option.some.inj H
   go_enter Try.func14, Try.ntmps14
   go_wp2_with (first | ((with_reducible refine gate_dst (N := 1) rfl ?_); refine be 1 #[.int .i64 a0_0, .slice A0_1 l0_1.length c0_1] 30 ?_; intro gb103 hg w22 hbox hb; have n0_ := q0 (below_step (qb HB.out) hb); have n1_ := q0 (hbox); have n2_ := q0 ((bs HB.out hg : w.heap.size ≤ gb103)); have n3_ := q0 ((bs HB.out hg : w.heap.size ≤ gb103)); clear HB; have HB := n0_; have BK103 := n1_; have GW103 := n2_; have GE103 := n3_; clear n0_ n1_ n2_ n3_ hb hbox hg) | ((with_reducible refine gate_dst (N := 7) rfl ?_); refine Kd.R_lit (Kd.int .i64) _ 3 ?hg (N := 7) ?hd (xs := ([] : List Int)) (inner := []) (ok := fun _ => True) (okp := fun _ => True) ?hr ?hp (fun _ hk => hk) trivial (Below.refl _ _) (Nat.le_refl _) (by simp) ?_; (case hd => rfl); (case hg => rfl); (case hr => first | (go_simp; done) | (go_simp; rfl)); (case hp => exact (Reps.none _ _)); intro v104 w23 ho24 hb hg_ hnew_; clear hg_ hnew_; (first | rw [← Ny100.out] at ho24 | (simp only [Int.reduceToNat] at ho24; rw [← Ny100.out] at ho24)); have n0_ := q0 (Kd.R_lower ho24 (below_size (qb HB.out))); have n1_ := q0 (kb BK103.out hb); have n2_ := q0 (below_step (qb HB.out) hb); clear BK103 HB; have HO105 := n0_; have BK103 := n1_; have HB := n2_; clear n0_ n1_ n2_ hb ho24; have hcz25_0 : w23.cell? ⟨gb103, 0, none⟩ = some (.int .i64 a0_0) := (blk_cell BK103.out 0).trans rfl; have hcz25_1 : w23.cell? ⟨gb103, 1, none⟩ = some (.slice A0_1 l0_1.length c0_1) := (blk_cell BK103.out 1).trans rfl; have hfz25_0 := blk_frozen BK103.out 0; have hfz25_1 := blk_frozen BK103.out 1) | ((with_reducible refine gate_callee (f := 49) rfl ?_); refine goesL_ (some 9) rfl rfl Try.func49 (by kernel_rfl) rfl #[.agg #[.int .i64 a0_0, .slice A0_1 l0_1.length c0_1]] rfl qm ?_; (with_reducible refine (spec_NetOk.calls k a0_0 _ _ l0_1 false _ ?side1 ?side2 A2.out).mono ?_); (case side1 => exact qc (Kd.C_below HR0_1.out HB.out)); (case side2 => exact HC0_1.out); rintro e w26 ⟨rfl, hb⟩; refine ⟨_, rfl, ?_⟩; have n0_ := q0 (Kd.R_below (qr HO105.out) hb); have n1_ := q0 (kb BK103.out hb); have n2_ := q0 (below_step (qb HB.out) hb); clear HO105 BK103 HB; have HO105 := n0_; have BK103 := n1_; have HB := n2_; clear n0_ n1_ n2_; (try clear hb); (try clear hb2); (try clear hk); (try clear hi)))
   go_ret
   exact ⟨_, qe, by (with_reducible repeat (first | apply Kd.R_alloc | apply Kd.R_drewN | apply Kd.R_drew)); exact HO105.out, qb HB.out⟩
 subst c3
 have H1 : (spec_WayParts.l0 k y100 0 a0_0 l0_1) = some r := by rw [if_pos rfl] at H; exact H
 clear H
 have H := H1
 clear H1
 have H' := Aside0.mk H
 clear H
 go_enter Try.func14, Try.ntmps14
 go_wp2_with (first | ((with_reducible refine gate_dst (N := 1) rfl ?_); refine be 1 #[.int .i64 a0_0, .slice A0_1 l0_1.length c0_1] 30 ?_; intro gb103 hg w4 hbox hb; have n0_ := q0 (below_step (qb HB.out) hb); have n1_ := q0 (hbox); have n2_ := q0 ((bs HB.out hg : w.heap.size ≤ gb103)); have n3_ := q0 ((bs HB.out hg : w.heap.size ≤ gb103)); clear HB; have HB := n0_; have BK103 := n1_; have GW103 := n2_; have GE103 := n3_; clear n0_ n1_ n2_ n3_ hb hbox hg) | ((with_reducible refine gate_dst (N := 7) rfl ?_); refine Kd.R_lit (Kd.int .i64) _ 3 ?hg (N := 7) ?hd (xs := ([] : List Int)) (inner := []) (ok := fun _ => True) (okp := fun _ => True) ?hr ?hp (fun _ hk => hk) trivial (Below.refl _ _) (Nat.le_refl _) (by simp) ?_; (case hd => rfl); (case hg => rfl); (case hr => first | (go_simp; done) | (go_simp; rfl)); (case hp => exact (Reps.none _ _)); intro v104 w5 ho6 hb hg_ hnew_; clear hg_ hnew_; (first | rw [← Ny100.out] at ho6 | (simp only [Int.reduceToNat] at ho6; rw [← Ny100.out] at ho6)); have n0_ := q0 (Kd.R_lower ho6 (below_size (qb HB.out))); have n1_ := q0 (kb BK103.out hb); have n2_ := q0 (below_step (qb HB.out) hb); clear BK103 HB; have HO105 := n0_; have BK103 := n1_; have HB := n2_; clear n0_ n1_ n2_ hb ho6; have hcz7_0 : w5.cell? ⟨gb103, 0, none⟩ = some (.int .i64 a0_0) := (blk_cell BK103.out 0).trans rfl; have hcz7_1 : w5.cell? ⟨gb103, 1, none⟩ = some (.slice A0_1 l0_1.length c0_1) := (blk_cell BK103.out 1).trans rfl; have hfz7_0 := blk_frozen BK103.out 0; have hfz7_1 := blk_frozen BK103.out 1) | ((with_reducible refine gate_callee (f := 49) rfl ?_); refine goesL_ (some 9) rfl rfl Try.func49 (by kernel_rfl) rfl #[.agg #[.int .i64 a0_0, .slice A0_1 l0_1.length c0_1]] rfl qm ?_; (with_reducible refine (spec_NetOk.calls k a0_0 _ _ l0_1 true _ ?side1 ?side2 A2.out).mono ?_); (case side1 => exact qc (Kd.C_below HR0_1.out HB.out)); (case side2 => exact HC0_1.out); rintro e w8 ⟨rfl, hb⟩; refine ⟨_, rfl, ?_⟩; have n0_ := q0 (Kd.R_below (qr HO105.out) hb); have n1_ := q0 (kb BK103.out hb); have n2_ := q0 (below_step (qb HB.out) hb); clear HO105 BK103 HB; have HO105 := n0_; have BK103 := n1_; have HB := n2_; clear n0_ n1_ n2_; (try clear hb); (try clear hb2); (try clear hk); (try clear hi)))
 go_loopg [3, 4] k (fun kq v3 v4 w' => ∃ (x3_1 : List Int) (x4_1 : Int), v4 = .int .i64 x4_1 ∧ Aside0 (spec_WayParts.l0 kq x3_1 x4_1 a0_0 l0_1 = some r) ∧ Aside0 (kq ≤ k) ∧ Aside0 (Kd.R (Kd.int .i64) 3 w' w.heap.size (fun _ => True) v3 x3_1) ∧ Aside0 (w'.heap[gb103]? = some (.cells #[.int .i64 a0_0, (.slice A0_1 l0_1.length c0_1)] 30 (0, 0))) ∧ Aside0 (Below w.heap.size w w'))
 case atStart => exact ⟨(y100), (0), qs, H', ⟨Nat.le_refl _⟩, ⟨qr HO105.out⟩, ⟨qk BK103.out⟩, ⟨qb HB.out⟩⟩
 clear H'
 try clear c1
 try clear p2
 try clear c3
 try clear c4
 try clear hcz7_0
 try clear hcz7_1
 try clear hfz7_0
 try clear hfz7_1
 obtain ⟨x3_1, x4_1, rfl, HA, HK1, HO_3, BK103, HB⟩ := hrel
 rcases gk with _ | k1
 · exact absurd HA.out (by simp [spec_WayParts.l0])
 have H := HA.out
 clear HA
 simp only [spec_WayParts.l0] at H
 by_cases c9 : x4_1 < a0_0
 rotate_left
 · rw [if_neg c9] at H
   have c9b0 : decide (x4_1 < a0_0) = false := decide_eq_false c9
   clear c9
   obtain rfl := Option.some.inj H
   have hcz21_0 : wr.cell? ⟨gb103, 0, none⟩ = some (.int .i64 a0_0) := (blk_cell BK103.out 0).trans rfl
   have hcz21_1 : wr.cell? ⟨gb103, 1, none⟩ = some (.slice A0_1 l0_1.length c0_1) := (blk_cell BK103.out 1).trans rfl
   have hfz21_0 := blk_frozen BK103.out 0
   have hfz21_1 := blk_frozen BK103.out 1
   go_wp2
   go_ret
   exact ⟨_, qe, by (with_reducible repeat (first | apply Kd.R_alloc | apply Kd.R_drewN | apply Kd.R_drew)); exact HO_3.out, qb HB.out⟩
 rw [if_pos c9] at H
 have c9b0 : decide (x4_1 < a0_0) = true := decide_eq_true c9
 clear c9
 replace H := Option.bind_eq_some_iff.mp H
 obtain ⟨t101, A106, H⟩ := H
 replace H : (spec_WayParts.l1 k1 x3_1 x4_1 t101 0 a0_0 l0_1) = some r := H
 have A10 := Aside0.mk A106
 clear A106
 have H' := Aside0.mk H
 clear H
 have hcz11_0 : wr.cell? ⟨gb103, 0, none⟩ = some (.int .i64 a0_0) := (blk_cell BK103.out 0).trans rfl
 have hcz11_1 : wr.cell? ⟨gb103, 1, none⟩ = some (.slice A0_1 l0_1.length c0_1) := (blk_cell BK103.out 1).trans rfl
 have hfz11_0 := blk_frozen BK103.out 0
 have hfz11_1 := blk_frozen BK103.out 1
 go_wp2_with (first | ((with_reducible refine gate_callee (f := 23) rfl ?_); refine goesL_ (some 20) rfl rfl Try.func23 (by kernel_rfl) rfl #[.agg #[.int .i64 a0_0, .slice A0_1 l0_1.length c0_1], .int .i64 x4_1] rfl qm ?_; (with_reducible refine (spec_WayReach.calls k1 a0_0 _ _ l0_1 x4_1 t101 _ ?side1 ?side2 A10.out).mono ?_); (case side1 => exact qc (Kd.C_below HR0_1.out HB.out)); (case side2 => exact HC0_1.out); rintro e w12 ⟨v107, rfl, ho0, hb⟩; refine ⟨_, rfl, ?_⟩; have n0_ := q0 (Kd.R_below (qr HO_3.out) hb); have n1_ := q0 (Kd.R_lower ho0 (below_size (qb HB.out))); have n2_ := q0 (kb BK103.out hb); have n3_ := q0 (below_step (qb HB.out) hb); clear HO_3 BK103 HB; have HO_3 := n0_; have HO108 := n1_; have BK103 := n2_; have HB := n3_; clear n0_ n1_ n2_ n3_; (try clear hb); (try clear hb2); (try clear hk); (try clear hi); (try clear ho0)))
 go_loopg [6] k1 (fun kq v6 w' => ∃ (x6_2 : Int), v6 = .int .i64 x6_2 ∧ Aside0 (spec_WayParts.l1 kq x3_1 x4_1 t101 x6_2 a0_0 l0_1 = some r) ∧ Aside0 (kq ≤ k1) ∧ Aside0 (Kd.R (Kd.int .i64) 3 w' w.heap.size (fun _ => True) u3 x3_1) ∧ Aside0 (Kd.R Kd.bool 4 w' w.heap.size (fun _ => True) v107 t101) ∧ Aside0 (w'.heap[gb103]? = some (.cells #[.int .i64 a0_0, (.slice A0_1 l0_1.length c0_1)] 30 (0, 0))) ∧ Aside0 (Below w.heap.size w w'))
 case atStart => exact ⟨(0), qs, H', ⟨Nat.le_refl _⟩, ⟨qr HO_3.out⟩, ⟨qr HO108.out⟩, ⟨qk BK103.out⟩, ⟨qb HB.out⟩⟩
 clear H'
 try clear c1
 try clear c2
 try clear p2
 try clear c3
 try clear c4
 try clear c9
 try clear c9b0
 try clear hcz11_0
 try clear hcz11_1
 try clear hcz7_0
 try clear hcz7_1
 try clear hfz11_0
 try clear hfz11_1
 try clear hfz7_0
 try clear hfz7_1
 try clear p2
 obtain ⟨x6_2, rfl, HA, HK2, HO_3, HO_5, BK103, HB⟩ := hrel
 rcases gk with _ | k2
 · exact absurd HA.out (by simp [spec_WayParts.l1])
 have H := HA.out
 clear HA
 simp only [spec_WayParts.l1] at H
 by_cases c13 : 0 ≤ x6_2
 rotate_left
 · rw [if_neg c13] at H
   exact absurd H (by simp)
 rw [if_pos c13] at H
 have c13b0 : decide (0 ≤ x6_2) = true := decide_eq_true c13
 clear c13
 by_cases c14 : x6_2 < (t101.length : Int)
 rotate_left
 · rw [if_neg c14] at H
   exact absurd H (by simp)
 rw [if_pos c14] at H
 have c14b0 : decide (x6_2 < (t101.length : Int)) = true := decide_eq_true c14
 clear c14
 obtain ⟨bq15, hbq15⟩ : ∃ b_ : Bool, b_ = (rdOf false t101 x6_2) := ⟨_, rfl⟩
 replace H : (if bq15 = true then (if x3_1.length < 17592186044416 then (spec_WayParts.l0 k2 (x3_1 ++ [x6_2]) (wrap64 (x4_1 + 1)) a0_0 l0_1) else (none)) else (spec_WayParts.l1 k2 x3_1 x4_1 t101 (wrap64 (x6_2 + 1)) a0_0 l0_1)) = some r := by rw [← hbq15] at H; exact H
 have Nbq15 := Aside0.mk hbq15
 clear hbq15
 by_cases c16 : bq15 = true
 rotate_left
 · replace c16 := Bool.eq_false_iff.mpr c16
   subst c16
   have H1 : (spec_WayParts.l1 k2 x3_1 x4_1 t101 (wrap64 (x6_2 + 1)) a0_0 l0_1) = some r := by rw [if_neg (show ¬ (false = true) by decide)] at H; exact H
   clear H
   have H := H1
   clear H1
   have H' := Aside0.mk H
   clear H
   obtain ⟨Ao20, co20, eo20⟩ := Kd.R_slice HO_5.out
   subst eo20
   have p110 : 0 ≤ (x6_2 : Int) := of_decide_eq_true qa
   have q110 : x6_2 < (t101.length : Int) := of_decide_eq_true qa
   obtain ⟨ad110, e110, hx110_0⟩ := Kd.at_bool (Kd.R_reads' HO_5.out).2.2 x6_2 p110 q110
   (try rw [← Nbq15.out] at hx110_0)
   cases e110
   replace p110 := eq_true p110
   replace q110 := eq_true q110
   go_wp2
   go_roundg k2
   case measure => have := HK1.out; have := HK2.out; omega
   case rel => exact ⟨(wrap64 (x6_2 + 1)), qs, H', ⟨by have := HK1.out; have := HK2.out; omega⟩, ⟨qr HO_3.out⟩, ⟨qr HO_5.out⟩, ⟨qk BK103.out⟩, ⟨qb HB.out⟩⟩
 subst c16
 have H1 : (if x3_1.length < 17592186044416 then (spec_WayParts.l0 k2 (x3_1 ++ [x6_2]) (wrap64 (x4_1 + 1)) a0_0 l0_1) else (none)) = some r := by rw [if_pos rfl] at H; exact H
 clear H
 have H := H1
 clear H1
 by_cases c17 : x3_1.length < 17592186044416
 rotate_left
 · rw [if_neg c17] at H
   exact absurd H (by simp)
 rw [if_pos c17] at H
 have LMc17 := Aside0.mk c17
 clear c17
 obtain ⟨y109, hy109⟩ : ∃ y_ : List Int, y_ = (x3_1 ++ [x6_2]) := ⟨_, rfl⟩
 replace H : (spec_WayParts.l0 k2 y109 (wrap64 (x4_1 + 1)) a0_0 l0_1) = some r := by first | (rw [hy109]; with_reducible exact H) | (have H2_ := (Option.bind_some _ _).symm.trans H; rw [hy109]; with_reducible exact H2_) | (have H2_ := (Option.bind_some _ _).symm.trans H; with_reducible exact H2_) | with_reducible exact H | (rw [hy109]; exact H) | exact H
 have Ny109 := Aside0.mk hy109
 clear hy109
 have H' := Aside0.mk H
 clear H
 obtain ⟨Ao18, co18, eo18⟩ := Kd.R_slice HO_5.out
 subst eo18
 have p110 : 0 ≤ (x6_2 : Int) := of_decide_eq_true qa
 have q110 : x6_2 < (t101.length : Int) := of_decide_eq_true qa
 obtain ⟨ad110, e110, hx110_0⟩ := Kd.at_bool (Kd.R_reads' HO_5.out).2.2 x6_2 p110 q110
 (try rw [← Nbq15.out] at hx110_0)
 cases e110
 replace p110 := eq_true p110
 replace q110 := eq_true q110
 go_wp2_with (first | ((with_reducible refine gate_builtin (b := .append) (xs := #[.tmp 28, .tmp 30]) rfl ?_); at_builtin; refine Kd.R_append (Kd.int .i64) (w0 := w) w.heap.size rfl (.tmp 28) (.tmp 30) 26 3 (.int .i64 0) 8 rfl Try.underlying26 info3 rfl (by decide) (by omega) u3 x3_1 x6_2 [.int .i64 x6_2] (fun _ => True) (fun _ => False) rfl rfl ?aP (fun _ hk => hk.elim) ?aF ?aO ?aB ?aS ?aL ?_; (case aP => exact rfl); (case aB => exact (qb HB.out)); (case aF => exact (fun _ _ => trivial)); (case aO => exact (qr HO_3.out)); (case aS => exact (below_size (qb HB.out))); (case aL => have := LMc17.out; omega); intro v111 w19 ho hb hg hat; rw [← Ny109.out] at ho; have n0_ := q0 (Kd.R_over' (qr HO_5.out) (Kd.R_typed (qr HO_3.out)) (by decide) hg); have n1_ := q0 (blk_grown (g := gb103) (o := .cells #[.int .i64 a0_0, .slice A0_1 l0_1.length c0_1] 30 (0, 0)) (qk BK103.out) hg (Kd.R_ne HO_3.out BK103.out (by decide))); have n2_ := q0 (hb); have n3_ := q0 (ho); clear HO_5 BK103 HB HO_3; have HO_5 := n0_; have BK103 := n1_; have HB := n2_; have HO112 := n3_; clear n0_ n1_ n2_ n3_ ho hb hg hat))
 go_roundg k2
 case measure => have := HK1.out; have := HK2.out; omega
 case rel => exact ⟨(y109), (wrap64 (x4_1 + 1)), qs, H', ⟨by have := HK1.out; have := HK2.out; omega⟩, ⟨qr HO112.out⟩, ⟨qk BK103.out⟩, ⟨qb HB.out⟩⟩

end Go.Proofs.Ytheoebelhgbejaa.P
