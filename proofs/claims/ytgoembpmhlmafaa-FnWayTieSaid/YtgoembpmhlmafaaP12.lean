import Derived.Test.YtgoembpmhlmafaaP0
import Derived.Test.YtgoembpmhlmafaaP1
import Derived.Test.YtgoembpmhlmafaaP3
import Derived.Test.YtgoembpmhlmafaaP7
namespace Go.Proofs.Ytgoembpmhlmafaa.P
open Go.RowKit Go.Proofs.YtgoembpmhlmafaaW.PrintWords Go.Proofs.YtgoembpmhlmafaaW.PrintLast Go.Proofs.YtgoembpmhlmafaaW.PrintMore
attribute [local go_sem] max2_int min2_int max_two min_two max_three min_three max_four min_four
set_option linter.unusedVariables false
set_option linter.unusedSimpArgs false
attribute [local go_sem high] eqATie
def impl_WayReach.T8 : Bool × List (List Nat × List Nat) := (true, [([], []), ([], []), ([], []), ([1, 2], [1, 2]), ([3], [3]), ([], []), ([], []), ([5, 6], [5, 6]), ([7], [7]), ([4, 8], [4, 8]), ([9], [9]), ([0, 10], [0, 10]), ([11, 11, 0, 1, 2, 3, 4, 5, 6, 7, 8, 9, 10, 11], [0, 11])])
def impl_WayReach.B8 : List Nat := [0, 0, 0, 6, 14, 0, 0, 96, 224, 510, 1022, 2047, 4095]
theorem impl_WayReach.tab8 : rtab .any (opsOf Try.f19 8) = impl_WayReach.T8 := by kernel_rfl
theorem impl_WayReach.bits8 : waitsOk impl_WayReach.T8.2 impl_WayReach.B8 = true := by kernel_rfl
set_option maxHeartbeats 8000000 in
set_option maxRecDepth 100000 in
theorem impl_WayReach.calls (k : Nat) (a0_0 : Int) (A0_1 : Option Addr) (c0_1 : Nat) (l0_1 : List (STie)) (a1 : Int) (r : List Bool) (w : World) (hr0_1 : Kd.C kTie w A0_1 l0_1.length l0_1) (hc0_1 : l0_1.length ≤ c0_1) (h : impl_WayReach.f k a0_0 l0_1 a1 = some r) :
    Calls Try.prog 19 #[.agg #[.int .i64 a0_0, .slice A0_1 l0_1.length c0_1], .int .i64 a1] w fun e w' => ∃ v0_ : Value, e = .returned (v0_) ∧ Kd.R Kd.bool 4 w' w.heap.size (fun _ => True) v0_ r ∧ Below w.heap.size w w' := by
 have hu25 := Try.underlying25
 have HR0_1 := Aside0.mk hr0_1
 have HC0_1 := Aside0.mk hc0_1
 clear hr0_1 hc0_1
 have HB := q0 (Below.refl w.heap.size w)
 have H : ((some (([] : List Bool) : List Bool)).bind fun y100 => ((impl_NetOk.f k a0_0 l0_1).bind fun t102 => (if t102 = true then ((impl_Net_knot.f a0_0 l0_1 a1).bind fun t103 => (impl_WayReach.j0 k a1 y100 (!t103) a0_0 l0_1)) else (impl_WayReach.j0 k a1 y100 true a0_0 l0_1)))) = some r := h
 clear h
 obtain ⟨y100, hy100⟩ : ∃ y_ : List Bool, y_ = (([] : List Bool)) := ⟨_, rfl⟩
 replace H : ((impl_NetOk.f k a0_0 l0_1).bind fun t102 => (if t102 = true then ((impl_Net_knot.f a0_0 l0_1 a1).bind fun t103 => (impl_WayReach.j0 k a1 y100 (!t103) a0_0 l0_1)) else (impl_WayReach.j0 k a1 y100 true a0_0 l0_1))) = some r := qy H hy100
 have Ny100 := Aside0.mk hy100
 clear hy100
 have HC3 := Aside0.mk H
 clear H
 go_enter Try.func19, Try.ntmps19
 go_upto_region 2 with (first | ((with_reducible refine gate_dst (N := 2) rfl ?_); refine be 2 #[.int .i64 a0_0, .slice A0_1 l0_1.length c0_1] 25 ?_; intro gb104 hg w4 hbox hb; have BK104 := q0 (hbox); have GW104 := q0 ((bs HB.out hg : w.heap.size ≤ gb104)); have GE104 := q0 ((bs HB.out hg : w.heap.size ≤ gb104)); replace HB := q0 (below_step (qb HB.out) hb); clear hb hbox hg) | ((with_reducible refine gate_dst (N := 8) rfl ?_); refine Kd.R_lit Kd.bool _ 4 ?hg (N := 8) ?hd (xs := ([] : List Bool)) (inner := []) (ok := fun _ => True) (okp := fun _ => True) ?hr ?hp (fun _ hk => hk) trivial (Below.refl _ _) (Nat.le_refl _) (by simp) ?_; (case hd => rfl); (case hg => rfl); (case hr => first | (go_simp; done) | (go_simp; rfl)); (case hp => exact (Reps.none _ _)); intro v105 w5 ho6 hb hg_ hnew_; clear hg_ hnew_; (first | rw [← Ny100.out] at ho6 | (simp only [Int.reduceToNat] at ho6; rw [← Ny100.out] at ho6)); have HO106 := q0 (Kd.R_lower ho6 (below_size (qb HB.out))); replace BK104 := q0 (kb BK104.out hb); replace HB := q0 (below_step (qb HB.out) hb); clear hb ho6))
 (try simp only [Act.put, List.setIfInBounds_toArray, List.set_cons_zero, List.set_cons_succ])
 go_cut [17] (fun v17 wc => ∃ (kq : Nat) (x17_2 : Bool), v17 = .bool x17_2 ∧ Aside0 (impl_WayReach.j0 kq a1 y100 x17_2 a0_0 l0_1 = some r) ∧ Aside0 (kq ≤ k) ∧ Aside0 (Kd.R Kd.bool 4 wc w.heap.size (fun _ => True) v105 y100) ∧ Aside0 (wc.heap[gb104]? = some (.cells #[.int .i64 a0_0, (.slice A0_1 l0_1.length c0_1)] 25 (0, 0))) ∧ Aside0 (Below w.heap.size w wc))
 case first =>
   have H := HC3.out
   clear HC3
   replace H := Option.bind_eq_some_iff.mp H
   obtain ⟨t102, A70, H⟩ := H
   have A7 := Aside0.mk A70
   clear A70
   by_cases c8 : t102 = true
   rotate_left
   · replace c8 := Bool.eq_false_iff.mpr c8
     subst c8
     rw [if_neg nf] at H
     have H' := Aside0.mk H
     clear H
     have hcz14_0 : w5.cell? ⟨gb104, 0, none⟩ = some (.int .i64 a0_0) := (blk_cell BK104.out 0).trans rfl
     have hcz14_1 : w5.cell? ⟨gb104, 1, none⟩ = some (.slice A0_1 l0_1.length c0_1) := (blk_cell BK104.out 1).trans rfl
     have hfz14_0 := blk_frozen BK104.out 0
     have hfz14_1 := blk_frozen BK104.out 1
     go_wp2_with (first | ((with_reducible refine gate_callee (f := 37) rfl ?_); refine gl 10 Try.func37 #[.agg #[.int .i64 a0_0, .slice A0_1 l0_1.length c0_1]] ?_; (with_reducible refine (impl_NetOk.calls k a0_0 _ _ l0_1 false _ ?side1 ?side2 A7.out).mono ?_); (case side1 => exact qc (Kd.C_below HR0_1.out HB.out)); (case side2 => exact HC0_1.out); rintro e w15 ⟨rfl, hb⟩; refine ⟨_, rfl, ?_⟩; replace HO106 := q0 (Kd.R_below (qr HO106.out) hb); replace BK104 := q0 (kb BK104.out hb); replace HB := q0 (below_step (qb HB.out) hb); (try clear hb); (try clear hb2); (try clear hk); (try clear hi)))
     go_meet
     case rel => exact ⟨_, (true), qs, H', ⟨by first | omega | exact Nat.le_refl _⟩, ⟨qr HO106.out⟩, ⟨qk BK104.out⟩, ⟨qb HB.out⟩⟩
   subst c8
   rw [if_pos rfl] at H
   replace H := Option.bind_eq_some_iff.mp H
   obtain ⟨t103, A90, H⟩ := H
   have A9 := Aside0.mk A90
   clear A90
   have H' := Aside0.mk H
   clear H
   have hcz10_0 : w5.cell? ⟨gb104, 0, none⟩ = some (.int .i64 a0_0) := (blk_cell BK104.out 0).trans rfl
   have hcz10_1 : w5.cell? ⟨gb104, 1, none⟩ = some (.slice A0_1 l0_1.length c0_1) := (blk_cell BK104.out 1).trans rfl
   have hfz10_0 := blk_frozen BK104.out 0
   have hfz10_1 := blk_frozen BK104.out 1
   go_wp2_with (first | ((with_reducible refine gate_callee (f := 37) rfl ?_); refine gl 10 Try.func37 #[.agg #[.int .i64 a0_0, .slice A0_1 l0_1.length c0_1]] ?_; (with_reducible refine (impl_NetOk.calls k a0_0 _ _ l0_1 true _ ?side1 ?side2 A7.out).mono ?_); (case side1 => exact qc (Kd.C_below HR0_1.out HB.out)); (case side2 => exact HC0_1.out); rintro e w11 ⟨rfl, hb⟩; refine ⟨_, rfl, ?_⟩; replace HO106 := q0 (Kd.R_below (qr HO106.out) hb); replace BK104 := q0 (kb BK104.out hb); replace HB := q0 (below_step (qb HB.out) hb); (try clear hb); (try clear hb2); (try clear hk); (try clear hi); have hcz12_0 : w11.cell? ⟨gb104, 0, none⟩ = some (.int .i64 a0_0) := (blk_cell BK104.out 0).trans rfl; have hcz12_1 : w11.cell? ⟨gb104, 1, none⟩ = some (.slice A0_1 l0_1.length c0_1) := (blk_cell BK104.out 1).trans rfl; have hfz12_0 := blk_frozen BK104.out 0; have hfz12_1 := blk_frozen BK104.out 1) | (go_at_call 57; (with_reducible refine (impl_Net_knot.calls a0_0 _ _ l0_1 a1 t103 _ ?side1 ?side2 A9.out).mono ?_); (case side1 => exact qc (Kd.C_below HR0_1.out HB.out)); (case side2 => exact HC0_1.out); rintro e w13 ⟨rfl, hb⟩; replace HO106 := q0 (Kd.R_below (qr HO106.out) hb); replace BK104 := q0 (kb BK104.out hb); replace HB := q0 (below_step (qb HB.out) hb); (try clear hb); (try clear hb2); (try clear hk); (try clear hi)))
   go_meet
   case rel => exact ⟨_, (!t103), qs, H', ⟨by first | omega | exact Nat.le_refl _⟩, ⟨qr HO106.out⟩, ⟨qk BK104.out⟩, ⟨qb HB.out⟩⟩
 clear HC3
 try clear c1
 try clear p2
 try clear c3
 try clear c8
 try clear hcz10_0
 try clear hcz10_1
 try clear hcz12_0
 try clear hcz12_1
 try clear hcz14_0
 try clear hcz14_1
 try clear hfz10_0
 try clear hfz10_1
 try clear hfz12_0
 try clear hfz12_1
 try clear hfz14_0
 try clear hfz14_1
 obtain ⟨kq, x17_2, rfl, HA, HJ2, HO_5, BK104, HB⟩ := hcut
 rcases kq with _ | kj2
 · exact absurd HA.out (by simp [impl_WayReach.j0])
 have H := HA.out
 clear HA
 simp only [impl_WayReach.j0] at H
 by_cases c16 : x17_2 = true
 · subst c16
   rw [if_pos rfl] at H
   obtain rfl := Option.some.inj H
   go_wp2
   go_ret
   exact ⟨_, qe, qr HO_5.out, qb HB.out⟩
 replace c16 := Bool.eq_false_iff.mpr c16
 subst c16
 rw [if_neg nf] at H
 replace H := Option.bind_eq_some_iff.mp H
 obtain ⟨t101, A107, H⟩ := H
 have A17 := Aside0.mk A107
 clear A107
 have H' := Aside0.mk H
 clear H
 have hcz18_0 : wc.cell? ⟨gb104, 0, none⟩ = some (.int .i64 a0_0) := (blk_cell BK104.out 0).trans rfl
 have hcz18_1 : wc.cell? ⟨gb104, 1, none⟩ = some (.slice A0_1 l0_1.length c0_1) := (blk_cell BK104.out 1).trans rfl
 have hfz18_0 := blk_frozen BK104.out 0
 have hfz18_1 := blk_frozen BK104.out 1
 go_wp2_with (first | ((with_reducible refine gate_callee (f := 58) rfl ?_); refine gl 20 Try.func58 #[.agg #[.int .i64 a0_0, .slice A0_1 l0_1.length c0_1]] ?_; (with_reducible refine (impl_Net_parts.calls kj2 a0_0 _ _ l0_1 t101 _ ?side1 ?side2 A17.out).mono ?_); (case side1 => exact qc (Kd.C_below HR0_1.out HB.out)); (case side2 => exact HC0_1.out); rintro e w19 ⟨v108, rfl, ho0, hb⟩; refine ⟨_, rfl, ?_⟩; replace HO_5 := q0 (Kd.R_below (qr HO_5.out) hb); have HO109 := q0 (Kd.R_lower ho0 (below_size (qb HB.out))); replace BK104 := q0 (kb BK104.out hb); replace HB := q0 (below_step (qb HB.out) hb); (try clear hb); (try clear hb2); (try clear hk); (try clear hi); (try clear ho0); obtain ⟨Ao20, co20, eo20⟩ := Kd.R_slice HO109.out; subst eo20))
 go_loopg [5, 23] kj2 (fun kq v5 v23 w' => ∃ (x5_2 : List Bool) (x23_2 : Int), v23 = .int .i64 x23_2 ∧ Aside0 (impl_WayReach.l0 kq a1 x5_2 t101 (t101.length : Int) x23_2 = some r) ∧ Aside0 (kq ≤ kj2) ∧ Aside0 (Kd.R Kd.bool 4 w' w.heap.size (fun _ => True) v5 x5_2) ∧ Aside0 (Kd.R (Kd.int .i64) 3 w' w.heap.size (fun _ => True) (.slice Ao20 t101.length co20) t101) ∧ Aside0 (w'.heap[gb104]? = some (.cells #[.int .i64 a0_0, (.slice A0_1 l0_1.length c0_1)] 25 (0, 0))) ∧ Aside0 (Below w.heap.size w w'))
 case atStart => exact ⟨(y100), (0), qs, H', ⟨Nat.le_refl _⟩, ⟨qr HO_5.out⟩, ⟨qr HO109.out⟩, ⟨qk BK104.out⟩, ⟨qb HB.out⟩⟩
 clear H'
 try clear c1
 try clear p2
 try clear c3
 try clear c5
 try clear c8
 try clear c16
 try clear c19
 try clear hcz10_0
 try clear hcz10_1
 try clear hcz12_0
 try clear hcz12_1
 try clear hcz14_0
 try clear hcz14_1
 try clear hcz18_0
 try clear hcz18_1
 try clear hfz10_0
 try clear hfz10_1
 try clear hfz12_0
 try clear hfz12_1
 try clear hfz14_0
 try clear hfz14_1
 try clear hfz18_0
 try clear hfz18_1
 try clear p2
 obtain ⟨x5_2, x23_2, rfl, HA, HK2, HO_5, HO_6, BK104, HB⟩ := hrel
 rcases gk with _ | k2
 · exact absurd HA.out (by simp [impl_WayReach.l0])
 have H := HA.out
 clear HA
 simp only [impl_WayReach.l0] at H
 by_cases c21 : x23_2 < (t101.length : Int)
 rotate_left
 · rw [if_neg c21] at H
   have c21b0 : decide (x23_2 < (t101.length : Int)) = false := decide_eq_false c21
   clear c21
   obtain rfl := Option.some.inj H
   go_wp2
   go_ret
   exact ⟨_, qe, qr HO_5.out, qb HB.out⟩
 rw [if_pos c21] at H
 have c21b0 : decide (x23_2 < (t101.length : Int)) = true := decide_eq_true c21
 clear c21
 by_cases c22 : 0 ≤ x23_2
 rotate_left
 · rw [if_neg c22] at H
   exact absurd H (by simp)
 rw [if_pos c22] at H
 have c22b0 : decide (0 ≤ x23_2) = true := decide_eq_true c22
 clear c22
 by_cases c23 : x23_2 < (t101.length : Int)
 rotate_left
 · rw [if_neg c23] at H
   exact absurd H (by simp)
 rw [if_pos c23] at H
 have c23b0 : decide (x23_2 < (t101.length : Int)) = true := decide_eq_true c23
 clear c23
 by_cases c24 : 0 ≤ a1
 rotate_left
 · rw [if_neg c24] at H
   exact absurd H (by simp)
 rw [if_pos c24] at H
 have c24b0 : decide (0 ≤ a1) = true := decide_eq_true c24
 clear c24
 by_cases c25 : a1 < (t101.length : Int)
 rotate_left
 · rw [if_neg c25] at H
   exact absurd H (by simp)
 rw [if_pos c25] at H
 have c25b0 : decide (a1 < (t101.length : Int)) = true := decide_eq_true c25
 clear c25
 by_cases c26 : x5_2.length < 140737488355328
 rotate_left
 · rw [if_neg c26] at H
   exact absurd H (by simp)
 rw [if_pos c26] at H
 have LMc26 := Aside0.mk c26
 clear c26
 obtain ⟨y110, hy110⟩ : ∃ y_ : List Bool, y_ = (x5_2 ++ [((rd t101 x23_2) == (rd t101 a1))]) := ⟨_, rfl⟩
 replace H : (impl_WayReach.l0 k2 a1 y110 t101 (t101.length : Int) (wrap64 (x23_2 + 1))) = some r := qy H hy110
 have Ny110 := Aside0.mk hy110
 clear hy110
 have H' := Aside0.mk H
 clear H
 try go_wp2
 replace HO_5 := q0 (Kd.R_drew HO_5.out)
 replace HO_6 := q0 (Kd.R_drew HO_6.out)
 replace BK104 := q0 (blk_drew BK104.out)
 replace HB := q0 (below_drew1 HB.out)
 have p111 : 0 ≤ (x23_2 : Int) := of_decide_eq_true qa
 have q111 : x23_2 < (t101.length : Int) := of_decide_eq_true qa
 obtain ⟨ad111, e111, hx111_0⟩ := Kd.at_int (Kd.R_reads' HO_6.out).2.2 x23_2 p111 q111
 cases e111
 replace p111 := eq_true p111
 replace q111 := eq_true q111
 have p112 : 0 ≤ (a1 : Int) := of_decide_eq_true qa
 have q112 : a1 < (t101.length : Int) := of_decide_eq_true qa
 obtain ⟨ad112, e112, hx112_0⟩ := Kd.at_int (Kd.R_reads' HO_6.out).2.2 a1 p112 q112
 obtain rfl : ad111 = ad112 := (by injection e112)
 replace p112 := eq_true p112
 replace q112 := eq_true q112
 refine start_ (n := 13) (S := fun w' => w'.cell? (ad111.add (x23_2).toNat) = some (.int .i64 (rd t101 x23_2)) ∧ w'.cell? (ad111.add (a1).toNat) = some (.int .i64 (rd t101 a1))) (ds := [10, 11]) (ba 13 0) (by kernel_rfl) rfl (by kernel_rfl) ⟨hx111_0, hx112_0⟩ (fun hHeld => ?_); refine with_tabW impl_WayReach.tab8 impl_WayReach.bits8 (fun HT_ HW_ => ?_)
 generalize wr.drew = w27 at HO_5 HO_6 BK104 HB hx111_0 hx112_0 hHeld ⊢
 refine pu 0 (some 26) (ba 13 1) HT_.out ?_
 refine pu 1 (some 27) (ba 13 3) HT_.out ?_
 refine pu 2 (some 28) (ba 13 7) HT_.out ?_
 refine pu 3 (some 29) (ba 13 15) HT_.out ?_
 refine pu 5 (some 31) (ba 13 47) HT_.out ?_
 refine pu 6 (some 32) (ba 13 111) HT_.out ?_
 refine pu 7 (some 33) (ba 13 239) HT_.out ?_
 refine tu 4 (some 30) (ba 13 255) HT_.out HW_.out hHeld ?_
 refine tu 8 (some 34) (ba 13 511) HT_.out HW_.out hHeld ?_
 refine pu 9 (some 35) (ba 13 1023) HT_.out ?_
 refine last_ (i := 10) (N := some 36) (ba 13 2047) rfl rfl (one_of HT_.out (by kernel_rfl)) (by decide) (fun K hK => ?_)
 refine value_ (w1 := ?_) (v := ?_) (by rfl) rfl ?_ ?_
 rotate_left 2
 · go_simp
   constructor
   · rfl
   · rfl
 refine hK.out _ _ ?_
 clear hK K
 refine nu 36 ?_
 refine last_ (i := 11) (N := some 37) (ba 13 4095) rfl rfl (one_of HT_.out (by kernel_rfl)) (by decide) (fun K hK => ?_)
 refine Kd.R_append_step Kd.bool (w0 := w) w.heap.size (by rfl) (.tmp 26) (.tmp 36) 34 4 (.bool false) 1 rfl Try.underlying34 info4 rfl (by decide) (by omega) u5 x5_2 ((rd t101 x23_2) == (rd t101 a1)) [.bool ((rd t101 x23_2) == (rd t101 a1))] (fun _ => True) (fun _ => False) rfl rfl ?aP (fun _ hk => hk.elim) ?aF ?aO ?aB ?aS ?aL ?_
 (case aP => exact rfl)
 (case aB => exact (qb HB.out))
 (case aF => exact (fun _ _ => trivial))
 (case aO => exact (qr HO_5.out))
 (case aS => exact (below_size (qb HB.out)))
 (case aL => have := LMc26.out; omega)
 intro v113 w28 ho hb hg hat
 rw [← Ny110.out] at ho
 replace HO_6 := q0 (Kd.R_over' (qr HO_6.out) (Kd.R_typed (qr HO_5.out)) (by decide) hg)
 replace BK104 := q0 (blk_grown (g := gb104) (o := .cells #[.int .i64 a0_0, .slice A0_1 l0_1.length c0_1] 25 (0, 0)) (qk BK104.out) hg (Kd.R_ne HO_5.out BK104.out (by decide)))
 replace HB := q0 (hb)
 have HO114 := q0 (ho)
 clear HO_5
 clear ho hb hg hat
 refine hK.out _ _ ?_
 clear hK K
 refine nu 37 ?_
 refine pu 12 (some 5) (ba 13 8191) HT_.out ?_
 refine done_ (done_of HT_.out (by kernel_rfl)) ?_
 try go_wp2
 go_roundg k2
 case measure => have := HJ2.out; have := HK2.out; omega
 case rel => exact ⟨(y110), (wrap64 (x23_2 + 1)), qs, H', ⟨by have := HJ2.out; have := HK2.out; omega⟩, ⟨qr HO114.out⟩, ⟨qr HO_6.out⟩, ⟨qk BK104.out⟩, ⟨qb HB.out⟩⟩

end Go.Proofs.Ytgoembpmhlmafaa.P
