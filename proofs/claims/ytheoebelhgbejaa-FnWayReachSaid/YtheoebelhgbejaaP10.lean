import Derived.Test.YtheoebelhgbejaaP0
import Derived.Test.YtheoebelhgbejaaP6
namespace Go.Proofs.Ytheoebelhgbejaa.P
open Go.RowKit Go.Proofs.YtheoebelhgbejaaW.PrintWords Go.Proofs.YtheoebelhgbejaaW.PrintLast Go.Proofs.YtheoebelhgbejaaW.PrintMore
attribute [local go_sem] max2_int min2_int max_two min_two max_three min_three max_four min_four
set_option linter.unusedVariables false
set_option linter.unusedSimpArgs false
attribute [local go_sem high] eqATie
def spec_l71Knot.T2 : Bool × List (List Nat × List Nat) := (true, [([], []), ([0], [0]), ([1], [1]), ([], []), ([3], [3]), ([2, 4], [2, 4]), ([5], [5]), ([6, 4, 0, 1, 2, 3, 4, 5, 6], [6])])
def spec_l71Knot.B2 : List Nat := [0, 1, 3, 0, 8, 31, 63, 127]
theorem spec_l71Knot.tab2 : rtab .any (opsOf Try.f78 2) = spec_l71Knot.T2 := by kernel_rfl
theorem spec_l71Knot.bits2 : waitsOk spec_l71Knot.T2.2 spec_l71Knot.B2 = true := by kernel_rfl
set_option maxHeartbeats 8000000 in
set_option maxRecDepth 100000 in
theorem spec_l71Knot.calls (k : Nat) (g : Nat) (s0_0 : List Int) (s0_1 : Int) (a1_0 : Int) (A1_1 : Option Addr) (c1_1 : Nat) (l1_1 : List (STie)) (r1 : Int) (r2 : Int) (w0 w : World) (hI : IsSRd w0 w g s0_0 s0_1) (hB : Below w0.heap.size w0 w) (hr1_1 : ∀ W_, KeepBut w W_ g none → Kd.C kTie W_ A1_1 l1_1.length l1_1) (hc1_1 : l1_1.length ≤ c1_1) (h : spec_l71Knot.f k s0_0 s0_1 a1_0 l1_1 = some (r1, r2)) :
    Calls Try.prog 78 #[.pointer (some ⟨g, 0, none⟩), .agg #[.int .i64 a1_0, .slice A1_1 l1_1.length c1_1]] w fun e w' => e = .returned (.int .i64 r1) ∧ IsSRd w0 w' g s0_0 r2 ∧ Below w0.heap.size w0 w' ∧ KeepBut w w' g none := by
 have hu30 := Try.underlying30
 have HR1_1 := Aside0.mk hr1_1
 have HC1_1 := Aside0.mk hc1_1
 clear hr1_1 hc1_1
 have HI0 := Aside0.mk hI
 have HK := q0 (KeepBut.refl w g none)
 have HL := Aside0.mk hB.size
 clear hI
 have HW0 := Aside0.mk hB.size
 have HB := Aside0.mk hB
 clear hB
 have H : (if a1_0 < 1 then (spec_l71Knot.j0 k true s0_0 s0_1 a1_0 l1_1) else ((spec_l6Rd_pick.f k s0_0 s0_1 24).bind fun bt102 => (spec_l71Knot.j0 k (bt102.1 == 0) s0_0 bt102.2 a1_0 l1_1))) = some (r1, r2) := h
 clear h
 have HC3 := Aside0.mk H
 clear H
 go_enter Try.func78, Try.ntmps78
 go_upto_region 1 with (first | ((with_reducible refine gate_dst (N := 3) rfl ?_); refine be 3 #[.int .i64 a1_0, .slice A1_1 l1_1.length c1_1] 30 ?_; intro gb106 hg w4 hbox hb; have n0_ := q0 (IsSRd.below (qi HI0.out) hb); have n1_ := q0 (KeepBut.trans (qh HK.out) (KeepBut.of_below hb g none) (.inl rfl)); have n2_ := q0 (below_step (qj HB.out HI0.out) hb); have n3_ := q0 (hbox); have n4_ := q0 ((by rw [hg]; exact (keep_size (w := w) (g := g) (row := none) (qh HK.out)) : w.heap.size ≤ gb106)); have n5_ := q0 ((Nat.le_trans HW0.out (by rw [hg]; exact (keep_size (w := w) (g := g) (row := none) (qh HK.out)) : w.heap.size ≤ gb106) : w0.heap.size ≤ gb106)); have n6_ := q0 ((by rw [hg]; exact Nat.ne_of_lt (IsSRd.lt (show IsSRd w0 _ g s0_0 s0_1 from qi HI0.out)) : g ≠ gb106)); have n7_ := q0 ((by rw [hg]; exact Nat.ne_of_gt (IsSRd.lt (show IsSRd w0 _ g s0_0 s0_1 from qi HI0.out)) : gb106 ≠ g)); clear HI0 HK HB; have HI0 := n0_; have HK := n1_; have HB := n2_; have BK106 := n3_; have GW106 := n4_; have GE106 := n5_; have NB0_106 := n6_; have NB106_0 := n7_; clear n0_ n1_ n2_ n3_ n4_ n5_ n6_ n7_ hb hbox hg))
 (try simp only [Act.put, List.setIfInBounds_toArray, List.set_cons_zero, List.set_cons_succ])
 go_cut [12] (fun v12 wc => ∃ (kq : Nat) (x12_2 : Bool) (x101_2 : Int), v12 = .bool x12_2 ∧ Aside0 (spec_l71Knot.j0 kq x12_2 s0_0 x101_2 a1_0 l1_1 = some (r1, r2)) ∧ Aside0 (kq ≤ k) ∧ Aside0 (wc.heap[gb106]? = some (.cells #[.int .i64 a1_0, (.slice A1_1 l1_1.length c1_1)] 30 (0, 0))) ∧ Aside0 (IsSRd w0 wc g s0_0 x101_2) ∧ Aside0 (KeepBut w wc g none) ∧ Aside0 (Below w0.heap.size w0 wc))
 case first =>
   have H := HC3.out
   clear HC3
   by_cases c5 : a1_0 < 1
   · rw [if_pos c5] at H
     have c5b0 : decide (a1_0 < 1) = true := decide_eq_true c5
     clear c5
     (first | rw [c5b0] | (simp only [i64_w, i32_w]; rw [c5b0]) | skip)
     have H' := Aside0.mk H
     clear H
     have hnb6 := NB106_0.out
     have hnc6 := NB0_106.out
     have hcz7_0 : w4.cell? ⟨gb106, 0, none⟩ = some (.int .i64 a1_0) := (blk_cell BK106.out 0).trans rfl
     have hcz7_1 : w4.cell? ⟨gb106, 1, none⟩ = some (.slice A1_1 l1_1.length c1_1) := (blk_cell BK106.out 1).trans rfl
     have hfz7_0 := blk_frozen BK106.out 0
     have hfz7_1 := blk_frozen BK106.out 1
     go_wp2
     go_meet
     case rel => exact ⟨_, (true), (s0_1), qs, H', ⟨by first | omega | exact Nat.le_refl _⟩, ⟨qk BK106.out⟩, ⟨qi HI0.out⟩, ⟨qh HK.out⟩, ⟨qj HB.out HI0.out⟩⟩
   rw [if_neg c5] at H
   have c5b0 : decide (a1_0 < 1) = false := decide_eq_false c5
   clear c5
   (first | rw [c5b0] | (simp only [i64_w, i32_w]; rw [c5b0]) | skip)
   replace H := Option.bind_eq_some_iff.mp H
   obtain ⟨⟨t102, t107⟩, A80, H⟩ := H
   replace H : (spec_l71Knot.j0 k (t102 == 0) s0_0 t107 a1_0 l1_1) = some (r1, r2) := H
   have A8 := Aside0.mk A80
   clear A80
   have H' := Aside0.mk H
   clear H
   have hnb9 := NB106_0.out
   have hnc9 := NB0_106.out
   have hcz10_0 : w4.cell? ⟨gb106, 0, none⟩ = some (.int .i64 a1_0) := (blk_cell BK106.out 0).trans rfl
   have hcz10_1 : w4.cell? ⟨gb106, 1, none⟩ = some (.slice A1_1 l1_1.length c1_1) := (blk_cell BK106.out 1).trans rfl
   have hfz10_0 := blk_frozen BK106.out 0
   have hfz10_1 := blk_frozen BK106.out 1
   go_wp2_with (first | (go_at_call 81; (with_reducible refine (spec_l6Rd_pick.calls k g s0_0 s0_1 24 t102 t107 w0 _ ?side1 ?side2 A8.out).mono ?_); (case side1 => repeat (first | (with_reducible first | exact HI0.out | apply IsSRd.alloc | apply IsSRd.drewN | apply IsSRd.drew | apply IsSRd.set_1 | refine IsSRd.far ?_ NB0_106.out _) | exact HI0.out)); (case side2 => repeat (first | (with_reducible first | exact HB.out | apply below_alloc | apply pw_below_drewN | apply below_drew1 | refine below_set ?_ (IsSRd.ge HI0.out) | refine below_set ?_ GE106.out) | exact HB.out)); rintro e w11 ⟨rfl, hi, hb, hk⟩; have n0_ := q0 (KeepBut.blk hk (g' := gb106) (o := .cells #[.int .i64 a1_0, .slice A1_1 l1_1.length c1_1] 30 (0, 0)) (qk BK106.out) NB106_0.out (by simp)); have n1_ := q0 (KeepBut.trans (qh HK.out) hk (.inl rfl)); have n2_ := q0 (hb); have n3_ := q0 (hi); clear BK106 HK HB HI0; have BK106 := n0_; have HK := n1_; have HB := n2_; have HI0 := n3_; clear n0_ n1_ n2_ n3_; (try clear hb); (try clear hb2); (try clear hk); (try clear hi)))
   go_meet
   case rel => exact ⟨_, ((t102 == 0)), (t107), qs, H', ⟨by first | omega | exact Nat.le_refl _⟩, ⟨qk BK106.out⟩, ⟨qi HI0.out⟩, ⟨qh HK.out⟩, ⟨qj HB.out HI0.out⟩⟩
 clear HC3
 try clear c1
 try clear p2
 try clear c5
 try clear c5b0
 try clear c6
 try clear c7
 try clear c9
 try clear hcz10_0
 try clear hcz10_1
 try clear hcz7_0
 try clear hcz7_1
 try clear hfz10_0
 try clear hfz10_1
 try clear hfz7_0
 try clear hfz7_1
 obtain ⟨kq, x12_2, x101_2, rfl, HA, HJ2, BK106, HI0, HK, HB⟩ := hcut
 rcases kq with _ | kj2
 · exact absurd HA.out (by simp [spec_l71Knot.j0])
 have H := HA.out
 clear HA
 simp only [spec_l71Knot.j0] at H
 by_cases c12 : x12_2 = true
 rotate_left
 · replace c12 := Bool.eq_false_iff.mpr c12
   subst c12
   have H1 : ((spec_l6Rd_pick.f kj2 s0_0 x101_2 a1_0).bind fun bt105 => (some (bt105.1, bt105.2))) = some (r1, r2) := by rw [if_neg (show ¬ (false = true) by decide)] at H; exact H
   clear H
   have H := H1
   clear H1
   replace H := Option.bind_eq_some_iff.mp H
   obtain ⟨⟨t105, t113⟩, A114, H⟩ := H
   replace H : (some (t105, t113)) = some (r1, r2) := H
   have A23 := Aside0.mk A114
   clear A114
   simp only [Option.some.injEq, Prod.mk.injEq] at H
   obtain ⟨rfl, rfl⟩ := H
   have hnb24 := NB106_0.out
   have hnc24 := NB0_106.out
   have hcz25_0 : wc.cell? ⟨gb106, 0, none⟩ = some (.int .i64 a1_0) := (blk_cell BK106.out 0).trans rfl
   have hcz25_1 : wc.cell? ⟨gb106, 1, none⟩ = some (.slice A1_1 l1_1.length c1_1) := (blk_cell BK106.out 1).trans rfl
   have hfz25_0 := blk_frozen BK106.out 0
   have hfz25_1 := blk_frozen BK106.out 1
   go_wp2_with (first | ((with_reducible refine gate_callee (f := 81) rfl ?_); refine goesL_ (some 23) rfl rfl Try.func81 (by kernel_rfl) rfl #[.pointer (some ⟨g, 0, none⟩), .int .i64 a1_0] rfl qm ?_; (with_reducible refine (spec_l6Rd_pick.calls kj2 g s0_0 x101_2 a1_0 t105 t113 w0 _ ?side1 ?side2 A23.out).mono ?_); (case side1 => repeat (first | (with_reducible first | exact HI0.out | apply IsSRd.alloc | apply IsSRd.drewN | apply IsSRd.drew | apply IsSRd.set_1 | refine IsSRd.far ?_ NB0_106.out _) | exact HI0.out)); (case side2 => repeat (first | (with_reducible first | exact HB.out | apply below_alloc | apply pw_below_drewN | apply below_drew1 | refine below_set ?_ (IsSRd.ge HI0.out) | refine below_set ?_ GE106.out) | exact HB.out)); rintro e w26 ⟨rfl, hi, hb, hk⟩; refine ⟨_, rfl, ?_⟩; have n0_ := q0 (KeepBut.blk hk (g' := gb106) (o := .cells #[.int .i64 a1_0, .slice A1_1 l1_1.length c1_1] 30 (0, 0)) (qk BK106.out) NB106_0.out (by simp)); have n1_ := q0 (KeepBut.trans (qh HK.out) hk (.inl rfl)); have n2_ := q0 (hb); have n3_ := q0 (hi); clear BK106 HK HB HI0; have BK106 := n0_; have HK := n1_; have HB := n2_; have HI0 := n3_; clear n0_ n1_ n2_ n3_; (try clear hb); (try clear hb2); (try clear hk); (try clear hi)))
   go_ret
   exact ⟨qe, by repeat (first | (with_reducible first | exact HI0.out | apply IsSRd.alloc | apply IsSRd.drewN | apply IsSRd.drew | apply IsSRd.set_1 | refine IsSRd.far ?_ NB0_106.out _) | exact HI0.out), by repeat (first | (with_reducible first | exact HB.out | apply below_alloc | apply pw_below_drewN | apply below_drew1 | refine below_set ?_ (IsSRd.ge HI0.out) | refine below_set ?_ GE106.out) | exact HB.out), by repeat (first | (with_reducible first | exact HK.out | apply KeepBut.set_ | apply keep_drewN | apply keep_drew | apply keep_alloc | refine keep_far ?_ GW106.out _) | exact HK.out)⟩
 subst c12
 have H1 : ((some (([(-1), a1_0, 3] : List Int) : List Int)).bind fun y103 => ((spec_l6Rd_pick.f kj2 s0_0 x101_2 3).bind fun bt104 => (if 0 ≤ bt104.1 then (if bt104.1 < (y103.length : Int) then (some (rd y103 bt104.1, bt104.2)) else (none)) else (none)))) = some (r1, r2) := by rw [if_pos rfl] at H; exact H
 clear H
 have H := H1
 clear H1
 obtain ⟨y103, hy103⟩ : ∃ y_ : List Int, y_ = (([(-1), a1_0, 3] : List Int)) := ⟨_, rfl⟩
 replace H : ((spec_l6Rd_pick.f kj2 s0_0 x101_2 3).bind fun bt104 => (if 0 ≤ bt104.1 then (if bt104.1 < (y103.length : Int) then (some (rd y103 bt104.1, bt104.2)) else (none)) else (none))) = some (r1, r2) := by first | (rw [hy103]; with_reducible exact H) | (have H2_ := (Option.bind_some _ _).symm.trans H; rw [hy103]; with_reducible exact H2_) | (have H2_ := (Option.bind_some _ _).symm.trans H; with_reducible exact H2_) | with_reducible exact H | (rw [hy103]; exact H) | exact H
 have Ny103 := Aside0.mk hy103
 clear hy103
 replace H := Option.bind_eq_some_iff.mp H
 obtain ⟨⟨t104, t108⟩, A109, H⟩ := H
 replace H : (if 0 ≤ t104 then (if t104 < (y103.length : Int) then (some (rd y103 t104, t108)) else (none)) else (none)) = some (r1, r2) := H
 have A13 := Aside0.mk A109
 clear A109
 by_cases c14 : 0 ≤ t104
 rotate_left
 · rw [if_neg c14] at H
   exact absurd H (by simp)
 rw [if_pos c14] at H
 have c14b0 : decide (0 ≤ t104) = true := decide_eq_true c14
 clear c14
 by_cases c15 : t104 < (y103.length : Int)
 rotate_left
 · rw [if_neg c15] at H
   exact absurd H (by simp)
 rw [if_pos c15] at H
 have c15b0 : decide (t104 < (y103.length : Int)) = true := decide_eq_true c15
 clear c15
 simp only [Option.some.injEq, Prod.mk.injEq] at H
 obtain ⟨rfl, rfl⟩ := H
 try go_wp2
 have pi110 : (0 ≤ (t104 : Int)) = True := eq_true (of_decide_eq_true qa)
 have qi110 : (t104 < (y103.length : Int)) = True := eq_true (of_decide_eq_true qa)
 have n0_ := q0 (blk_drew BK106.out)
 have n1_ := q0 (IsSRd.drew HI0.out)
 have n2_ := q0 (keep_drew HK.out)
 have n3_ := q0 (below_drew1 HB.out)
 clear BK106
 clear HI0
 clear HK
 clear HB
 have BK106 := n0_
 have HI0 := n1_
 have HK := n2_
 have HB := n3_
 clear n0_ n1_ n2_ n3_
 refine start_ (n := 8) (S := fun w' => True) (ds := []) (ba 8 0) (by kernel_rfl) rfl (by kernel_rfl) trivial (fun hHeld => ?_); refine with_tabW spec_l71Knot.tab2 spec_l71Knot.bits2 (fun HT_ HW_ => ?_)
 generalize wc.drew = w16 at BK106 HI0 HK HB hHeld ⊢
 refine pu 0 (some 13) (ba 8 1) HT_.out ?_
 refine pu 3 (some 16) (ba 8 9) HT_.out ?_
 refine inv_at [1, 2, 4, 5, 6, 7] (fun a0_ b a w' => ∃ (v111 : Value) (adz_v111 : Addr) (m5_ : Value), a = putSel a0_ b [(1, 14, .int .i64 a1_0), (2, 15, v111), (4, 17, .int .i64 t104), (5, 18, m5_), (6, 19, .int .i64 (rd y103 t104)), (7, 4, .int .i64 (rd y103 t104))] ∧ (w'.heap[gb106]? = some (.cells #[.int .i64 a1_0, .slice A1_1 l1_1.length c1_1] 30 (0, 0))) ∧ (b 4 = false → IsSRd w0 w' g s0_0 x101_2) ∧ (KeepBut w w' g none) ∧ (Below w0.heap.size w0 w') ∧ (b 2 = true → Kd.R (Kd.int .i64) 3 w' w.heap.size (fun _ => True) v111 y103) ∧ (b 2 = true → ∃ c_, (v111 : Value) = .slice (some adz_v111) y103.length c_) ∧ (b 4 = true → IsSRd w0 w' g s0_0 t108) ∧ (b 5 = true → (m5_ : Value) = .pointer (some (adz_v111.add (t104).toNat)))) HT_.out HW_.out (by kernel_rfl) (by kernel_rfl) ?_ ?_ ?_
 · exact ⟨.bool false, ⟨0, 0, none⟩, .bool false, by simp only [putSel, Bool.false_eq_true, if_false], BK106.out, fun _ => HI0.out, HK.out, HB.out, fun h_ => absurd h_ (by decide), fun h_ => absurd h_ (by decide), fun h_ => absurd h_ (by decide), fun h_ => absurd h_ (by decide)⟩
 · skip
   clear BK106 HB HI0 HK
   refine steps_cons ?_ ?_
   · rintro b a w' ⟨v111, adz_v111, m5_, ha, Q_BK106, Q_HI0, Q_HK, Q_HB, Q_HO112, Q_HA_HO112, Q_HI0_e4, Q_X5_⟩ hb_ hon hoff
     refine ⟨_, rfl, fun K hK => ?_⟩
     have e13 : a.tmps[13]? = some (.pointer (some ⟨gb106, 0, none⟩)) := by rw [ha]; exact (putSel_off rfl).trans rfl
     replace ha := Aside0.mk ha
     have BK106 := Aside0.mk Q_BK106
     have HK := Aside0.mk Q_HK
     have HB := Aside0.mk Q_HB
     have hc0_ : w'.cell? ⟨gb106, 0, none⟩ = some (.int .i64 a1_0) := (blk_cell BK106.out 0).trans rfl
     have hc1_ : w'.cell? ⟨gb106, 1, none⟩ = some (.slice A1_1 l1_1.length c1_1) := (blk_cell BK106.out 1).trans rfl
     refine value_ (w1 := w') (v := .int .i64 a1_0) (by rfl) rfl ?_ ?_
     · go_simp
       (try simp only [i64_w])
       try rfl
     refine hK.out _ _ ⟨v111, adz_v111, m5_, (by rw [ha.out]; exact putSel_upk 0 hb_ rfl rfl rfl), Q_BK106, Q_HI0, Q_HK, Q_HB, fun h0_ => absurd ((hoff 2 (by kernel_rfl)).symm.trans h0_) (by decide), fun h0_ => absurd ((hoff 2 (by kernel_rfl)).symm.trans h0_) (by decide), Q_HI0_e4, fun h0_ => absurd ((hoff 5 (by kernel_rfl)).symm.trans h0_) (by decide)⟩
   refine steps_cons ?_ ?_
   · rintro b a w' ⟨v111, adz_v111, m5_, ha, Q_BK106, Q_HI0, Q_HK, Q_HB, Q_HO112, Q_HA_HO112, Q_HI0_e4, Q_X5_⟩ hb_ hon hoff
     refine ⟨_, rfl, fun K hK => ?_⟩
     have e14 : a.tmps[14]? = some (.int .i64 a1_0) := by rw [ha]; exact putSel_on (e := (1, 14, .int .i64 a1_0)) 0 rfl rfl (hon 1 (by kernel_rfl)) rfl
     replace ha := Aside0.mk ha
     have BK106 := Aside0.mk Q_BK106
     have HK := Aside0.mk Q_HK
     have HB := Aside0.mk Q_HB
     refine Kd.R_lit_step (Kd.int .i64) _ 3 ?hg (N := 15) ?hd (xs := ([(-1), a1_0, 3] : List Int)) (inner := [.int .i64 (-1), .int .i64 a1_0, .int .i64 3]) (ok := fun _ => True) (okp := fun _ => True) ?hr ?hp (fun _ hk => hk) trivial (Below.refl _ _) (Nat.le_refl _) (by simp) ?_; (case hd => rfl); (case hg => rfl); (case hr => first | (go_simp; done) | (go_simp; rfl)); (case hp => exact (Reps.one (show Kd.M (Kd.int .i64) _ _ _ (-1) [.int .i64 (-1)] from rfl) (Reps.one (show Kd.M (Kd.int .i64) _ _ _ a1_0 [.int .i64 a1_0] from rfl) (Reps.one (show Kd.M (Kd.int .i64) _ _ _ 3 [.int .i64 3] from rfl) (Reps.none _ _)))))
     intro v111 w17 ho18 hb hg_ hnew_
     clear hg_ hnew_
     (first | rw [← Ny103.out] at ho18 | (simp only [Int.reduceToNat] at ho18; rw [← Ny103.out] at ho18))
     have n0_ := q0 (Kd.R_lower ho18 (keep_size (w := w) (g := g) (row := none) (qh HK.out)))
     have n1_ := q0 (kb BK106.out hb)
     have n3_ := q0 (KeepBut.trans (qh HK.out) (KeepBut.of_below hb g none) (.inl rfl))
     have n4_ := q0 (below_step (qb HB.out) hb)
     have z_HI0 := fun (h0_ : b 4 = false) => (show IsSRd w0 w17 g s0_0 x101_2 from by first | exact (IsSRd.below (by repeat (first | (with_reducible first | exact (Q_HI0 h0_) | apply IsSRd.alloc | apply IsSRd.drewN | apply IsSRd.drew | apply IsSRd.set_1 | refine IsSRd.far ?_ NB0_106.out _) | exact (Q_HI0 h0_))) hb))
     have z_HI0_e4 := fun (h0_ : b 4 = true) => (show IsSRd w0 w17 g s0_0 t108 from by first | exact (IsSRd.below (by repeat (first | (with_reducible first | exact (Q_HI0_e4 h0_) | apply IsSRd.alloc | apply IsSRd.drewN | apply IsSRd.drew | apply IsSRd.set_1 | refine IsSRd.far ?_ NB0_106.out _) | exact (Q_HI0_e4 h0_))) hb))
     clear BK106
     clear HK
     clear HB
     have HO112 := n0_
     have BK106 := n1_
     have HK := n3_
     have HB := n4_
     clear n0_ n1_ n3_ n4_
     clear hb ho18
     obtain ⟨Ao19, co19, eo19⟩ := Kd.R_slice HO112.out
     subst eo19
     obtain ⟨ado19, fo19, _⟩ := Kd.at_int (Kd.R_reads' HO112.out).2.2 0 (by decide) (by rw [Ny103.out]; simp)
     cases fo19
     refine hK.out _ _ ⟨.slice (some ado19) y103.length co19, ado19, m5_, (by rw [ha.out]; exact putSel_upk 1 hb_ rfl rfl rfl), (qk BK106.out), z_HI0, (qh HK.out), (qb HB.out), fun _ => (qr HO112.out), fun _ => ⟨_, rfl⟩, z_HI0_e4, fun h0_ => absurd ((hoff 5 (by kernel_rfl)).symm.trans h0_) (by decide)⟩
   refine steps_cons ?_ ?_
   · rintro b a w' ⟨v111, adz_v111, m5_, ha, Q_BK106, Q_HI0, Q_HK, Q_HB, Q_HO112, Q_HA_HO112, Q_HI0_e4, Q_X5_⟩ hb_ hon hoff
     refine ⟨_, rfl, fun K hK => ?_⟩
     have e16 : a.tmps[16]? = some (.pointer (some ⟨g, 0, none⟩)) := by rw [ha]; exact (putSel_off rfl).trans rfl
     replace ha := Aside0.mk ha
     have BK106 := Aside0.mk Q_BK106
     have HI0 := q0 (Q_HI0 hb_)
     have HK := Aside0.mk Q_HK
     have HB := Aside0.mk Q_HB
     refine goes_ Try.func81 (by kernel_rfl) rfl #[.pointer (some ⟨g, 0, none⟩), .int .i64 3] (by rfl) rfl rfl (by first | (simp only [List.map_toArray, List.map_cons, List.map_nil, Act.eval, Array.getD_eq_getD_getElem?, Option.getD_some, e16]; done) | (simp only [List.map_toArray, List.map_cons, List.map_nil, Act.eval, Array.getD_eq_getD_getElem?, Option.getD_some, e16]; rfl)) ?_
     with_reducible refine (spec_l6Rd_pick.calls kj2 g s0_0 x101_2 3 t104 t108 w0 _ ?side1 ?side2 A13.out).mono ?_
     (case side1 => repeat (first | (with_reducible first | exact HI0.out | apply IsSRd.alloc | apply IsSRd.drewN | apply IsSRd.drew | apply IsSRd.set_1 | refine IsSRd.far ?_ NB0_106.out _) | exact HI0.out))
     (case side2 => repeat (first | (with_reducible first | exact HB.out | apply below_alloc | apply pw_below_drewN | apply below_drew1 | refine below_set ?_ (IsSRd.ge HI0.out) | refine below_set ?_ GE106.out) | exact HB.out))
     rintro e w17 ⟨rfl, hi, hb, hk⟩
     refine ⟨_, rfl, ?_⟩
     have n0_ := q0 (KeepBut.blk hk (g' := gb106) (o := .cells #[.int .i64 a1_0, .slice A1_1 l1_1.length c1_1] 30 (0, 0)) (qk BK106.out) NB106_0.out (by simp))
     have n1_ := q0 (KeepBut.trans (qh HK.out) hk (.inl rfl))
     have n2_ := q0 (hb)
     have n3_ := q0 (hi)
     have z_HO112 := fun (h0_ : b 2 = true) => (show Kd.R (Kd.int .i64) 3 w17 w.heap.size (fun _ => True) v111 y103 from by first | exact (Kd.R_mono (Kd.R_keep (IsSRd.apart (show IsSRd w0 _ g s0_0 x101_2 from qi HI0.out) (by (with_reducible repeat (first | apply Kd.R_alloc | apply Kd.R_drewN | apply Kd.R_drew)); exact (Q_HO112 h0_)) (by decide)) hk (fun _ h => h.2)) (fun _ h => h.1)) | exact Kd.R_mono (Kd.R_mono (Kd.R_keep (IsSRd.apart (show IsSRd w0 _ g s0_0 x101_2 from qi HI0.out) (by (with_reducible repeat (first | apply Kd.R_alloc | apply Kd.R_drewN | apply Kd.R_drew)); exact (Q_HO112 h0_)) (by decide)) hk (fun _ h => h.2)) (fun _ h => h.1)) (fun _ h_ => by first | trivial | exact h_ | exact h_.1))
     clear BK106
     clear HK
     clear HB
     clear HI0
     have BK106 := n0_
     have HK := n1_
     have HB := n2_
     have HI0 := n3_
     clear n0_ n1_ n2_ n3_
     (try clear hb)
     (try clear hb2)
     (try clear hk)
     (try clear hi)
     refine hK.out _ _ ⟨v111, adz_v111, m5_, (by rw [ha.out]; exact putSel_upk 2 hb_ rfl rfl rfl), (qk BK106.out), fun h0_ => absurd ((up_self b 4).symm.trans h0_) (by decide), (qh HK.out), (qj HB.out HI0.out), z_HO112, Q_HA_HO112, fun _ => (qi HI0.out), fun h0_ => absurd ((hoff 5 (by kernel_rfl)).symm.trans h0_) (by decide)⟩
   refine steps_cons ?_ ?_
   · rintro b a w' ⟨v111, adz_v111, m5_, ha, Q_BK106, Q_HI0, Q_HK, Q_HB, Q_HO112, Q_HA_HO112, Q_HI0_e4, Q_X5_⟩ hb_ hon hoff
     refine ⟨_, rfl, fun K hK => ?_⟩
     have e15 : a.tmps[15]? = some (v111) := by rw [ha]; exact putSel_on (e := (2, 15, v111)) 1 rfl rfl (hon 2 (by kernel_rfl)) rfl
     have e17 : a.tmps[17]? = some (.int .i64 t104) := by rw [ha]; exact putSel_on (e := (4, 17, .int .i64 t104)) 2 rfl rfl (hon 4 (by kernel_rfl)) rfl
     replace ha := Aside0.mk ha
     have BK106 := Aside0.mk Q_BK106
     have HK := Aside0.mk Q_HK
     have HB := Aside0.mk Q_HB
     have HO112 := q0 (Q_HO112 (hon 2 (by kernel_rfl)))
     have HA_HO112 := q0 (Q_HA_HO112 (hon 2 (by kernel_rfl)))
     have HI0 := q0 (Q_HI0_e4 (hon 4 (by kernel_rfl)))
     obtain ⟨c_, hv_⟩ := HA_HO112.out
     rw [hv_] at e15
     refine value_ (w1 := w') (v := .pointer (some (adz_v111.add (t104).toNat))) (by rfl) rfl ?_ ?_
     · go_simp
       (try simp only [i64_w])
       try rfl
     refine hK.out _ _ ⟨v111, adz_v111, (.pointer (some (adz_v111.add (t104).toNat))), (by rw [ha.out]; exact putSel_upk 3 hb_ rfl rfl rfl), Q_BK106, fun h0_ => absurd ((hon 4 (by kernel_rfl)).symm.trans h0_) (by decide), Q_HK, Q_HB, Q_HO112, Q_HA_HO112, Q_HI0_e4, fun _ => rfl⟩
   refine steps_cons ?_ ?_
   · rintro b a w' ⟨v111, adz_v111, m5_, ha, Q_BK106, Q_HI0, Q_HK, Q_HB, Q_HO112, Q_HA_HO112, Q_HI0_e4, Q_X5_⟩ hb_ hon hoff
     refine ⟨_, rfl, fun K hK => ?_⟩
     have e18 : a.tmps[18]? = some (m5_) := by rw [ha]; exact putSel_on (e := (5, 18, m5_)) 3 rfl rfl (hon 5 (by kernel_rfl)) rfl
     rw [Q_X5_ (hon 5 (by kernel_rfl))] at e18
     replace ha := Aside0.mk ha
     have BK106 := Aside0.mk Q_BK106
     have HK := Aside0.mk Q_HK
     have HB := Aside0.mk Q_HB
     have HO112 := q0 (Q_HO112 (hon 2 (by kernel_rfl)))
     have HA_HO112 := q0 (Q_HA_HO112 (hon 2 (by kernel_rfl)))
     have HI0 := q0 (Q_HI0_e4 (hon 4 (by kernel_rfl)))
     obtain ⟨c_, hv_⟩ := HA_HO112.out
     have hF_ := HO112.out
     rw [hv_] at hF_
     obtain ⟨ad_, ea_, hx_⟩ := Kd.at_int (Kd.R_reads' hF_).2.2 t104 (of_eq_true pi110) (of_eq_true qi110)
     cases ea_
     refine value_ (w1 := w') (v := .int .i64 (rd y103 t104)) (by rfl) rfl ?_ ?_
     · go_simp
       (try simp only [i64_w])
       try rfl
     refine hK.out _ _ ⟨v111, adz_v111, m5_, (by rw [ha.out]; exact putSel_upk 4 hb_ rfl rfl rfl), Q_BK106, fun h0_ => absurd ((hon 4 (by kernel_rfl)).symm.trans h0_) (by decide), Q_HK, Q_HB, Q_HO112, Q_HA_HO112, Q_HI0_e4, Q_X5_⟩
   refine steps_cons ?_ ?_
   · rintro b a w' ⟨v111, adz_v111, m5_, ha, Q_BK106, Q_HI0, Q_HK, Q_HB, Q_HO112, Q_HA_HO112, Q_HI0_e4, Q_X5_⟩ hb_ hon hoff
     refine ⟨_, rfl, fun K hK => ?_⟩
     have e19 : a.tmps[19]? = some (.int .i64 (rd y103 t104)) := by rw [ha]; exact putSel_on (e := (6, 19, .int .i64 (rd y103 t104))) 4 rfl rfl (hon 6 (by kernel_rfl)) rfl
     replace ha := Aside0.mk ha
     have BK106 := Aside0.mk Q_BK106
     have HK := Aside0.mk Q_HK
     have HB := Aside0.mk Q_HB
     have HO112 := q0 (Q_HO112 (hon 2 (by kernel_rfl)))
     have HA_HO112 := q0 (Q_HA_HO112 (hon 2 (by kernel_rfl)))
     have HI0 := q0 (Q_HI0_e4 (hon 4 (by kernel_rfl)))
     refine value_ (w1 := w') (v := .int .i64 (rd y103 t104)) (by rfl) rfl ?_ ?_
     · go_simp
       (try simp only [i64_w])
       try rfl
     refine hK.out _ _ ⟨v111, adz_v111, m5_, (by rw [ha.out]; exact putSel_upk 5 hb_ rfl rfl rfl), Q_BK106, fun h0_ => absurd ((hon 4 (by kernel_rfl)).symm.trans h0_) (by decide), Q_HK, Q_HB, Q_HO112, Q_HA_HO112, Q_HI0_e4, Q_X5_⟩
   exact steps_nil
 rintro b a w21 hall ⟨v111, adz_v111, m5_, ha, Q_BK106, Q_HI0, Q_HK, Q_HB, Q_HO112, Q_HA_HO112, Q_HI0_e4, Q_X5_⟩
 clear BK106 HB HI0 HK
 have hb1_ := hall 1 (by kernel_rfl)
 have hb2_ := hall 2 (by kernel_rfl)
 have hb4_ := hall 4 (by kernel_rfl)
 have hb5_ := hall 5 (by kernel_rfl)
 have hb6_ := hall 6 (by kernel_rfl)
 have hb7_ := hall 7 (by kernel_rfl)
 subst ha
 obtain rfl := Q_X5_ hb5_
 simp only [putSel, hb1_, hb2_, hb4_, hb5_, hb6_, hb7_, if_true, Act.put, List.setIfInBounds_toArray, List.set_cons_zero, List.set_cons_succ]
 have BK106 := Aside0.mk Q_BK106
 clear Q_BK106
 clear Q_HI0
 have HK := Aside0.mk Q_HK
 clear Q_HK
 have HB := Aside0.mk Q_HB
 clear Q_HB
 have HO112 := q0 (Q_HO112 hb2_)
 clear Q_HO112
 have HA_HO112 := q0 (Q_HA_HO112 hb2_)
 clear Q_HA_HO112
 have HI0 := q0 (Q_HI0_e4 hb4_)
 clear Q_HI0_e4
 clear hall hb1_ hb2_ hb4_ hb5_ hb6_ hb7_
 obtain ⟨co22, eo22⟩ := HA_HO112.out
 clear HA_HO112
 subst eo22
 try go_wp2
 go_ret
 exact ⟨qe, by repeat (first | (with_reducible first | exact HI0.out | apply IsSRd.alloc | apply IsSRd.drewN | apply IsSRd.drew | apply IsSRd.set_1 | refine IsSRd.far ?_ NB0_106.out _) | exact HI0.out), by repeat (first | (with_reducible first | exact HB.out | apply below_alloc | apply pw_below_drewN | apply below_drew1 | refine below_set ?_ (IsSRd.ge HI0.out) | refine below_set ?_ GE106.out) | exact HB.out), by repeat (first | (with_reducible first | exact HK.out | apply KeepBut.set_ | apply keep_drewN | apply keep_drew | apply keep_alloc | refine keep_far ?_ GW106.out _) | exact HK.out)⟩

end Go.Proofs.Ytheoebelhgbejaa.P
