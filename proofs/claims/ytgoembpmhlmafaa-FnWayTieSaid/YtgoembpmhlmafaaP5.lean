import Derived.Test.YtgoembpmhlmafaaP0
import Derived.Test.YtgoembpmhlmafaaP2
namespace Go.Proofs.Ytgoembpmhlmafaa.P
open Go.RowKit Go.Proofs.YtgoembpmhlmafaaW.PrintWords Go.Proofs.YtgoembpmhlmafaaW.PrintLast Go.Proofs.YtgoembpmhlmafaaW.PrintMore
attribute [local go_sem] max2_int min2_int max_two min_two max_three min_three max_four min_four
set_option linter.unusedVariables false
set_option linter.unusedSimpArgs false
attribute [local go_sem high] eqATie
def spec_l71Knot.T2 : Bool × List (List Nat × List Nat) := (true, [([], []), ([0], [0]), ([1], [1]), ([], []), ([3], [3]), ([2, 4], [2, 4]), ([5], [5]), ([6, 4, 0, 1, 2, 3, 4, 5, 6], [6])])
def spec_l71Knot.B2 : List Nat := [0, 1, 3, 0, 8, 31, 63, 127]
theorem spec_l71Knot.tab2 : rtab .any (opsOf Try.f102 2) = spec_l71Knot.T2 := by kernel_rfl
theorem spec_l71Knot.bits2 : waitsOk spec_l71Knot.T2.2 spec_l71Knot.B2 = true := by kernel_rfl
set_option maxHeartbeats 8000000 in
set_option maxRecDepth 100000 in
theorem spec_l71Knot.calls (k : Nat) (g : Nat) (s0_0 : List Int) (s0_1 : Int) (a1_0 : Int) (A1_1 : Option Addr) (c1_1 : Nat) (l1_1 : List (STie)) (r1 : Int) (r2 : Int) (w0 w : World) (hI : IsSRd w0 w g s0_0 s0_1) (hB : Below w0.heap.size w0 w) (hr1_1 : ∀ W_, KeepBut w W_ g none → Kd.C kTie W_ A1_1 l1_1.length l1_1) (hc1_1 : l1_1.length ≤ c1_1) (h : spec_l71Knot.f k s0_0 s0_1 a1_0 l1_1 = some (r1, r2)) :
    Calls Try.prog 102 #[.pointer (some ⟨g, 0, none⟩), .agg #[.int .i64 a1_0, .slice A1_1 l1_1.length c1_1]] w fun e w' => e = .returned (.int .i64 r1) ∧ IsSRd w0 w' g s0_0 r2 ∧ Below w0.heap.size w0 w' ∧ KeepBut w w' g none := by
 have hu25 := Try.underlying25
 have HR1_1 := Aside0.mk hr1_1
 have HC1_1 := Aside0.mk hc1_1
 clear hr1_1 hc1_1
 have HI0 := Aside0.mk hI
 have HK := q0 (KeepBut.refl w g none)
 have HL := Aside0.mk hB.size
 clear hI
 have HW0 := Aside0.mk hB.size
 have HB := Aside0.mk hB
 clear hB
 have H : (if a1_0 < 1 then (spec_l71Knot.j0 k true s0_0 s0_1 a1_0 l1_1) else ((spec_l6Rd_pick.f k s0_0 s0_1 24).bind fun bt102 => (spec_l71Knot.j0 k (bt102.1 == 0) s0_0 bt102.2 a1_0 l1_1))) = some (r1, r2) := h
 clear h
 have HC3 := Aside0.mk H
 clear H
 go_enter Try.func102, Try.ntmps102
 go_upto_region 1 with (first | ((with_reducible refine gate_dst (N := 3) rfl ?_); refine be 3 #[.int .i64 a1_0, .slice A1_1 l1_1.length c1_1] 25 ?_; intro gb106 hg w4 hbox hb; replace HB := q0 (below_step (qj HB.out HI0.out) hb); have BK106 := q0 (hbox); have GW106 := q0 ((by rw [hg]; exact (keep_size (w := w) (g := g) (row := none) (qh HK.out)) : w.heap.size ≤ gb106)); have GE106 := q0 ((Nat.le_trans HW0.out (by rw [hg]; exact (keep_size (w := w) (g := g) (row := none) (qh HK.out)) : w.heap.size ≤ gb106) : w0.heap.size ≤ gb106)); replace HK := q0 (KeepBut.trans (qh HK.out) (KeepBut.of_below hb g none) (.inl rfl)); have NB0_106 := q0 ((by rw [hg]; exact Nat.ne_of_lt (IsSRd.lt (show IsSRd w0 _ g s0_0 s0_1 from qi HI0.out)) : g ≠ gb106)); have NB106_0 := q0 ((by rw [hg]; exact Nat.ne_of_gt (IsSRd.lt (show IsSRd w0 _ g s0_0 s0_1 from qi HI0.out)) : gb106 ≠ g)); replace HI0 := q0 (IsSRd.below (qi HI0.out) hb); clear hb hbox hg))
 (try simp only [Act.put, List.setIfInBounds_toArray, List.set_cons_zero, List.set_cons_succ])
 go_cut [12] (fun v12 wc => ∃ (kq : Nat) (x12_2 : Bool) (x101_2 : Int), v12 = .bool x12_2 ∧ Aside0 (spec_l71Knot.j0 kq x12_2 s0_0 x101_2 a1_0 l1_1 = some (r1, r2)) ∧ Aside0 (kq ≤ k) ∧ Aside0 (wc.heap[gb106]? = some (.cells #[.int .i64 a1_0, (.slice A1_1 l1_1.length c1_1)] 25 (0, 0))) ∧ Aside0 (IsSRd w0 wc g s0_0 x101_2) ∧ Aside0 (KeepBut w wc g none) ∧ Aside0 (Below w0.heap.size w0 wc))
 case first =>
   have H := HC3.out
   clear HC3
   by_cases c5 : a1_0 < 1
   · rw [if_pos c5] at H
     have c5b0 : decide (a1_0 < 1) = true := decide_eq_true c5
     clear c5
     (first | rw [c5b0] | (simp only [i64_w, i32_w]; rw [c5b0]) | skip)
     have H' := Aside0.mk H
     clear H
     have hnb6 := NB106_0.out
     have hnc6 := NB0_106.out
     have hcz7_0 : w4.cell? ⟨gb106, 0, none⟩ = some (.int .i64 a1_0) := (blk_cell BK106.out 0).trans rfl
     have hcz7_1 : w4.cell? ⟨gb106, 1, none⟩ = some (.slice A1_1 l1_1.length c1_1) := (blk_cell BK106.out 1).trans rfl
     have hfz7_0 := blk_frozen BK106.out 0
     have hfz7_1 := blk_frozen BK106.out 1
     go_wp2
     go_meet
     case rel => exact ⟨_, (true), (s0_1), qs, H', ⟨by first | omega | exact Nat.le_refl _⟩, ⟨qk BK106.out⟩, ⟨qi HI0.out⟩, ⟨qh HK.out⟩, ⟨qj HB.out HI0.out⟩⟩
   rw [if_neg c5] at H
   have c5b0 : decide (a1_0 < 1) = false := decide_eq_false c5
   clear c5
   (first | rw [c5b0] | (simp only [i64_w, i32_w]; rw [c5b0]) | skip)
   replace H := Option.bind_eq_some_iff.mp H
   obtain ⟨⟨t102, t107⟩, A80, H⟩ := H
   have A8 := Aside0.mk A80
   clear A80
   have H' := Aside0.mk H
   clear H
   have hnb9 := NB106_0.out
   have hnc9 := NB0_106.out
   have hcz10_0 : w4.cell? ⟨gb106, 0, none⟩ = some (.int .i64 a1_0) := (blk_cell BK106.out 0).trans rfl
   have hcz10_1 : w4.cell? ⟨gb106, 1, none⟩ = some (.slice A1_1 l1_1.length c1_1) := (blk_cell BK106.out 1).trans rfl
   have hfz10_0 := blk_frozen BK106.out 0
   have hfz10_1 := blk_frozen BK106.out 1
   go_wp2_with (first | (go_at_call 59; (with_reducible refine (spec_l6Rd_pick.calls k g s0_0 s0_1 24 t102 t107 w0 _ ?side1 ?side2 A8.out).mono ?_); (case side1 => exact qi HI0.out); (case side2 => exact qj HB.out HI0.out); rintro e w11 ⟨rfl, hi, hb, hk⟩; replace BK106 := q0 (kc hk BK106.out NB106_0.out); replace HK := q0 (KeepBut.trans (qh HK.out) hk (.inl rfl)); replace HB := q0 (hb); replace HI0 := q0 (hi); (try clear hb); (try clear hb2); (try clear hk); (try clear hi)))
   go_meet
   case rel => exact ⟨_, ((t102 == 0)), (t107), qs, H', ⟨by first | omega | exact Nat.le_refl _⟩, ⟨qk BK106.out⟩, ⟨qi HI0.out⟩, ⟨qh HK.out⟩, ⟨qj HB.out HI0.out⟩⟩
 clear HC3
 try clear c1
 try clear p2
 try clear c5
 try clear c5b0
 try clear c6
 try clear c9
 try clear c10
 try clear hcz10_0
 try clear hcz10_1
 try clear hcz7_0
 try clear hcz7_1
 try clear hfz10_0
 try clear hfz10_1
 try clear hfz7_0
 try clear hfz7_1
 obtain ⟨kq, x12_2, x101_2, rfl, HA, HJ2, BK106, HI0, HK, HB⟩ := hcut
 rcases kq with _ | kj2
 · exact absurd HA.out (by simp [spec_l71Knot.j0])
 have H := HA.out
 clear HA
 simp only [spec_l71Knot.j0] at H
 by_cases c12 : x12_2 = true
 rotate_left
 · replace c12 := Bool.eq_false_iff.mpr c12
   subst c12
   rw [if_neg nf] at H
   replace H := Option.bind_eq_some_iff.mp H
   obtain ⟨⟨t105, t113⟩, A114, H⟩ := H
   have A23 := Aside0.mk A114
   clear A114
   simp only [Option.some.injEq, Prod.mk.injEq] at H
   obtain ⟨rfl, rfl⟩ := H
   have hnb24 := NB106_0.out
   have hnc24 := NB0_106.out
   have hcz25_0 : wc.cell? ⟨gb106, 0, none⟩ = some (.int .i64 a1_0) := (blk_cell BK106.out 0).trans rfl
   have hcz25_1 : wc.cell? ⟨gb106, 1, none⟩ = some (.slice A1_1 l1_1.length c1_1) := (blk_cell BK106.out 1).trans rfl
   have hfz25_0 := blk_frozen BK106.out 0
   have hfz25_1 := blk_frozen BK106.out 1
   go_wp2_with (first | ((with_reducible refine gate_callee (f := 59) rfl ?_); refine gl 23 Try.func59 #[.pointer (some ⟨g, 0, none⟩), .int .i64 a1_0] ?_; (with_reducible refine (spec_l6Rd_pick.calls kj2 g s0_0 x101_2 a1_0 t105 t113 w0 _ ?side1 ?side2 A23.out).mono ?_); (case side1 => exact qi HI0.out); (case side2 => exact qj HB.out HI0.out); rintro e w26 ⟨rfl, hi, hb, hk⟩; refine ⟨_, rfl, ?_⟩; replace BK106 := q0 (kc hk BK106.out NB106_0.out); replace HK := q0 (KeepBut.trans (qh HK.out) hk (.inl rfl)); replace HB := q0 (hb); replace HI0 := q0 (hi); (try clear hb); (try clear hb2); (try clear hk); (try clear hi)))
   go_ret
   exact ⟨qe, qi HI0.out, qj HB.out HI0.out, by repeat (first | (with_reducible first | exact HK.out | apply KeepBut.set_ | apply keep_drewN | apply keep_drew | apply keep_alloc | refine keep_far ?_ GW106.out _) | exact HK.out)⟩
 subst c12
 rw [if_pos rfl] at H
 obtain ⟨y103, hy103⟩ : ∃ y_ : List Int, y_ = (([(-1), a1_0, 3] : List Int)) := ⟨_, rfl⟩
 replace H : ((spec_l6Rd_pick.f kj2 s0_0 x101_2 3).bind fun bt104 => (if 0 ≤ bt104.1 then (if bt104.1 < (y103.length : Int) then (some (rd y103 bt104.1, bt104.2)) else (none)) else (none))) = some (r1, r2) := qy H hy103
 have Ny103 := Aside0.mk hy103
 clear hy103
 replace H := Option.bind_eq_some_iff.mp H
 obtain ⟨⟨t104, t108⟩, A109, H⟩ := H
 have A13 := Aside0.mk A109
 clear A109
 by_cases c14 : 0 ≤ t104
 rotate_left
 · rw [if_neg c14] at H
   exact absurd H (by simp)
 rw [if_pos c14] at H
 have c14b0 : decide (0 ≤ t104) = true := decide_eq_true c14
 clear c14
 by_cases c15 : t104 < (y103.length : Int)
 rotate_left
 · rw [if_neg c15] at H
   exact absurd H (by simp)
 rw [if_pos c15] at H
 have c15b0 : decide (t104 < (y103.length : Int)) = true := decide_eq_true c15
 clear c15
 simp only [Option.some.injEq, Prod.mk.injEq] at H
 obtain ⟨rfl, rfl⟩ := H
 try go_wp2
 have pi110 : (0 ≤ (t104 : Int)) = True := eq_true (of_decide_eq_true qa)
 have qi110 : (t104 < (y103.length : Int)) = True := eq_true (of_decide_eq_true qa)
 replace BK106 := q0 (blk_drew BK106.out)
 replace HI0 := q0 (IsSRd.drew HI0.out)
 replace HK := q0 (keep_drew HK.out)
 replace HB := q0 (below_drew1 HB.out)
 refine start_ (n := 8) (S := fun w' => True) (ds := []) (ba 8 0) (by kernel_rfl) rfl (by kernel_rfl) trivial (fun hHeld => ?_); refine with_tabW spec_l71Knot.tab2 spec_l71Knot.bits2 (fun HT_ HW_ => ?_)
 generalize wc.drew = w16 at BK106 HI0 HK HB hHeld ⊢
 refine pu 0 (some 13) (ba 8 1) HT_.out ?_
 refine pu 3 (some 16) (ba 8 9) HT_.out ?_
 refine inv_at [1, 2, 4, 5, 6, 7] (fun a0_ b a w' => ∃ (v111 : Value) (adz_v111 : Addr) (m5_ : Value), a = putSel a0_ b [(1, 14, .int .i64 a1_0), (2, 15, v111), (4, 17, .int .i64 t104), (5, 18, m5_), (6, 19, .int .i64 (rd y103 t104)), (7, 4, .int .i64 (rd y103 t104))] ∧ (w'.heap[gb106]? = some (.cells #[.int .i64 a1_0, .slice A1_1 l1_1.length c1_1] 25 (0, 0))) ∧ (b 4 = false → IsSRd w0 w' g s0_0 x101_2) ∧ (KeepBut w w' g none) ∧ (Below w0.heap.size w0 w') ∧ (b 2 = true → Kd.R (Kd.int .i64) 3 w' w.heap.size (fun _ => True) v111 y103) ∧ (b 2 = true → ∃ c_, (v111 : Value) = .slice (some adz_v111) y103.length c_) ∧ (b 4 = true → IsSRd w0 w' g s0_0 t108) ∧ (b 5 = true → (m5_ : Value) = .pointer (some (adz_v111.add (t104).toNat)))) HT_.out HW_.out (by kernel_rfl) (by kernel_rfl) ?_ ?_ ?_
 · exact ⟨.bool false, ⟨0, 0, none⟩, .bool false, by simp only [putSel, Bool.false_eq_true, if_false], BK106.out, fun _ => HI0.out, HK.out, HB.out, fun h_ => absurd h_ (by decide), fun h_ => absurd h_ (by decide), fun h_ => absurd h_ (by decide), fun h_ => absurd h_ (by decide)⟩
 · skip
   clear BK106 HB HI0 HK
   refine steps_cons ?_ ?_
   · rintro b a w' ⟨v111, adz_v111, m5_, ha, Q_BK106, Q_HI0, Q_HK, Q_HB, Q_HO112, Q_HA_HO112, Q_HI0_e4, Q_X5_⟩ hb_ hon hoff
     refine ⟨_, rfl, fun K hK => ?_⟩
     have e13 : a.tmps[13]? = some (.pointer (some ⟨gb106, 0, none⟩)) := by rw [ha]; exact (putSel_off rfl).trans rfl
     replace ha := Aside0.mk ha
     have BK106 := Aside0.mk Q_BK106
     have HK := Aside0.mk Q_HK
     have HB := Aside0.mk Q_HB
     have hc0_ : w'.cell? ⟨gb106, 0, none⟩ = some (.int .i64 a1_0) := (blk_cell BK106.out 0).trans rfl
     have hc1_ : w'.cell? ⟨gb106, 1, none⟩ = some (.slice A1_1 l1_1.length c1_1) := (blk_cell BK106.out 1).trans rfl
     refine value_ (w1 := w') (v := .int .i64 a1_0) (by rfl) rfl ?_ ?_
     · go_simp
       (try simp only [i64_w])
       try rfl
     refine hK.out _ _ ⟨v111, adz_v111, m5_, (by rw [ha.out]; exact putSel_upk 0 hb_ rfl rfl rfl), Q_BK106, Q_HI0, Q_HK, Q_HB, fun h0_ => absurd ((hoff 2 (by kernel_rfl)).symm.trans h0_) (by decide), fun h0_ => absurd ((hoff 2 (by kernel_rfl)).symm.trans h0_) (by decide), Q_HI0_e4, fun h0_ => absurd ((hoff 5 (by kernel_rfl)).symm.trans h0_) (by decide)⟩
   refine steps_cons ?_ ?_
   · rintro b a w' ⟨v111, adz_v111, m5_, ha, Q_BK106, Q_HI0, Q_HK, Q_HB, Q_HO112, Q_HA_HO112, Q_HI0_e4, Q_X5_⟩ hb_ hon hoff
     refine ⟨_, rfl, fun K hK => ?_⟩
     have e14 : a.tmps[14]? = some (.int .i64 a1_0) := by rw [ha]; exact putSel_on (e := (1, 14, .int .i64 a1_0)) 0 rfl rfl (hon 1 (by kernel_rfl)) rfl
     replace ha := Aside0.mk ha
     have BK106 := Aside0.mk Q_BK106
     have HK := Aside0.mk Q_HK
     have HB := Aside0.mk Q_HB
     refine Kd.R_lit_step (Kd.int .i64) _ 3 ?hg (N := 15) ?hd (xs := ([(-1), a1_0, 3] : List Int)) (inner := [.int .i64 (-1), .int .i64 a1_0, .int .i64 3]) (ok := fun _ => True) (okp := fun _ => True) ?hr ?hp (fun _ hk => hk) trivial (Below.refl _ _) (Nat.le_refl _) (by simp) ?_; (case hd => rfl); (case hg => rfl); (case hr => first | (go_simp; done) | (go_simp; rfl)); (case hp => exact (Reps.one (show Kd.M (Kd.int .i64) _ _ _ (-1) [.int .i64 (-1)] from rfl) (Reps.one (show Kd.M (Kd.int .i64) _ _ _ a1_0 [.int .i64 a1_0] from rfl) (Reps.one (show Kd.M (Kd.int .i64) _ _ _ 3 [.int .i64 3] from rfl) (Reps.none _ _)))))
     intro v111 w17 ho18 hb hg_ hnew_
     clear hg_ hnew_
     (first | rw [← Ny103.out] at ho18 | (simp only [Int.reduceToNat] at ho18; rw [← Ny103.out] at ho18))
     have n0_ := q0 (Kd.R_lower ho18 (keep_size (w := w) (g := g) (row := none) (qh HK.out)))
     have n1_ := q0 (kb BK106.out hb)
     have n3_ := q0 (KeepBut.trans (qh HK.out) (KeepBut.of_below hb g none) (.inl rfl))
     have n4_ := q0 (below_step (qb HB.out) hb)
     have z_HI0 := fun (h0_ : b 4 = false) => (show IsSRd w0 w17 g s0_0 x101_2 from by first | exact (IsSRd.below (by repeat (first | (with_reducible first | exact (Q_HI0 h0_) | apply IsSRd.alloc | apply IsSRd.drewN | apply IsSRd.drew | apply IsSRd.set_1 | refine IsSRd.far ?_ NB0_106.out _) | exact (Q_HI0 h0_))) hb))
     have z_HI0_e4 := fun (h0_ : b 4 = true) => (show IsSRd w0 w17 g s0_0 t108 from by first | exact (IsSRd.below (by repeat (first | (with_reducible first | exact (Q_HI0_e4 h0_) | apply IsSRd.alloc | apply IsSRd.drewN | apply IsSRd.drew | apply IsSRd.set_1 | refine IsSRd.far ?_ NB0_106.out _) | exact (Q_HI0_e4 h0_))) hb))
     clear BK106
     clear HK
     clear HB
     have HO112 := n0_
     have BK106 := n1_
     have HK := n3_
     have HB := n4_
     clear n0_ n1_ n3_ n4_
     clear hb ho18
     obtain ⟨Ao19, co19, eo19⟩ := Kd.R_slice HO112.out
     subst eo19
     obtain ⟨ado19, fo19, _⟩ := Kd.at_int (Kd.R_reads' HO112.out).2.2 0 (by decide) (by rw [Ny103.out]; simp)
     cases fo19
     refine hK.out _ _ ⟨.slice (some ado19) y103.length co19, ado19, m5_, (by rw [ha.out]; exact putSel_upk 1 hb_ rfl rfl rfl), (qk BK106.out), z_HI0, (qh HK.out), (qb HB.out), fun _ => (qr HO112.out), fun _ => ⟨_, rfl⟩, z_HI0_e4, fun h0_ => absurd ((hoff 5 (by kernel_rfl)).symm.trans h0_) (by decide)⟩
   refine steps_cons ?_ ?_
   · rintro b a w' ⟨v111, adz_v111, m5_, ha, Q_BK106, Q_HI0, Q_HK, Q_HB, Q_HO112, Q_HA_HO112, Q_HI0_e4, Q_X5_⟩ hb_ hon hoff
     refine ⟨_, rfl, fun K hK => ?_⟩
     have e16 : a.tmps[16]? = some (.pointer (some ⟨g, 0, none⟩)) := by rw [ha]; exact (putSel_off rfl).trans rfl
     replace ha := Aside0.mk ha
     have BK106 := Aside0.mk Q_BK106
     have HI0 := q0 (Q_HI0 hb_)
     have HK := Aside0.mk Q_HK
     have HB := Aside0.mk Q_HB
     refine goes_ Try.func59 (by kernel_rfl) rfl #[.pointer (some ⟨g, 0, none⟩), .int .i64 3] (by rfl) rfl rfl (by first | (simp only [List.map_toArray, List.map_cons, List.map_nil, Act.eval, Array.getD_eq_getD_getElem?, Option.getD_some, e16]; done) | (simp only [List.map_toArray, List.map_cons, List.map_nil, Act.eval, Array.getD_eq_getD_getElem?, Option.getD_some, e16]; rfl)) ?_
     with_reducible refine (spec_l6Rd_pick.calls kj2 g s0_0 x101_2 3 t104 t108 w0 _ ?side1 ?side2 A13.out).mono ?_
     (case side1 => exact qi HI0.out)
     (case side2 => exact qj HB.out HI0.out)
     rintro e w17 ⟨rfl, hi, hb, hk⟩
     refine ⟨_, rfl, ?_⟩
     have n0_ := q0 (kc hk BK106.out NB106_0.out)
     have n1_ := q0 (KeepBut.trans (qh HK.out) hk (.inl rfl))
     have n2_ := q0 (hb)
     have n3_ := q0 (hi)
     have z_HO112 := fun (h0_ : b 2 = true) => (show Kd.R (Kd.int .i64) 3 w17 w.heap.size (fun _ => True) v111 y103 from by first | exact (Kd.R_mono (Kd.R_keep (IsSRd.apart (show IsSRd w0 _ g s0_0 x101_2 from qi HI0.out) (by (with_reducible repeat (first | apply Kd.R_alloc | apply Kd.R_drewN | apply Kd.R_drew)); exact (Q_HO112 h0_)) (by decide)) hk (fun _ h => h.2)) (fun _ h => h.1)) | exact Kd.R_mono (Kd.R_mono (Kd.R_keep (IsSRd.apart (show IsSRd w0 _ g s0_0 x101_2 from qi HI0.out) (by (with_reducible repeat (first | apply Kd.R_alloc | apply Kd.R_drewN | apply Kd.R_drew)); exact (Q_HO112 h0_)) (by decide)) hk (fun _ h => h.2)) (fun _ h => h.1)) (fun _ h_ => by first | trivial | exact h_ | exact h_.1))
     clear BK106
     clear HK
     clear HB
     clear HI0
     have BK106 := n0_
     have HK := n1_
     have HB := n2_
     have HI0 := n3_
     clear n0_ n1_ n2_ n3_
     (try clear hb)
     (try clear hb2)
     (try clear hk)
     (try clear hi)
     refine hK.out _ _ ⟨v111, adz_v111, m5_, (by rw [ha.out]; exact putSel_upk 2 hb_ rfl rfl rfl), (qk BK106.out), fun h0_ => absurd ((up_self b 4).symm.trans h0_) (by decide), (qh HK.out), (qj HB.out HI0.out), z_HO112, Q_HA_HO112, fun _ => (qi HI0.out), fun h0_ => absurd ((hoff 5 (by kernel_rfl)).symm.trans h0_) (by decide)⟩
   refine steps_cons ?_ ?_
   · rintro b a w' ⟨v111, adz_v111, m5_, ha, Q_BK106, Q_HI0, Q_HK, Q_HB, Q_HO112, Q_HA_HO112, Q_HI0_e4, Q_X5_⟩ hb_ hon hoff
     refine ⟨_, rfl, fun K hK => ?_⟩
     have e15 : a.tmps[15]? = some (v111) := by rw [ha]; exact putSel_on (e := (2, 15, v111)) 1 rfl rfl (hon 2 (by kernel_rfl)) rfl
     have e17 : a.tmps[17]? = some (.int .i64 t104) := by rw [ha]; exact putSel_on (e := (4, 17, .int .i64 t104)) 2 rfl rfl (hon 4 (by kernel_rfl)) rfl
     replace ha := Aside0.mk ha
     have BK106 := Aside0.mk Q_BK106
     have HK := Aside0.mk Q_HK
     have HB := Aside0.mk Q_HB
     have HO112 := q0 (Q_HO112 (hon 2 (by kernel_rfl)))
     have HA_HO112 := q0 (Q_HA_HO112 (hon 2 (by kernel_rfl)))
     have HI0 := q0 (Q_HI0_e4 (hon 4 (by kernel_rfl)))
     obtain ⟨c_, hv_⟩ := HA_HO112.out
     rw [hv_] at e15
     refine value_ (w1 := w') (v := .pointer (some (adz_v111.add (t104).toNat))) (by rfl) rfl ?_ ?_
     · go_simp
       (try simp only [i64_w])
       try rfl
     refine hK.out _ _ ⟨v111, adz_v111, (.pointer (some (adz_v111.add (t104).toNat))), (by rw [ha.out]; exact putSel_upk 3 hb_ rfl rfl rfl), Q_BK106, fun h0_ => absurd ((hon 4 (by kernel_rfl)).symm.trans h0_) (by decide), Q_HK, Q_HB, Q_HO112, Q_HA_HO112, Q_HI0_e4, fun _ => rfl⟩
   refine steps_cons ?_ ?_
   · rintro b a w' ⟨v111, adz_v111, m5_, ha, Q_BK106, Q_HI0, Q_HK, Q_HB, Q_HO112, Q_HA_HO112, Q_HI0_e4, Q_X5_⟩ hb_ hon hoff
     refine ⟨_, rfl, fun K hK => ?_⟩
     have e18 : a.tmps[18]? = some (m5_) := by rw [ha]; exact putSel_on (e := (5, 18, m5_)) 3 rfl rfl (hon 5 (by kernel_rfl)) rfl
     rw [Q_X5_ (hon 5 (by kernel_rfl))] at e18
     replace ha := Aside0.mk ha
     have BK106 := Aside0.mk Q_BK106
     have HK := Aside0.mk Q_HK
     have HB := Aside0.mk Q_HB
     have HO112 := q0 (Q_HO112 (hon 2 (by kernel_rfl)))
     have HA_HO112 := q0 (Q_HA_HO112 (hon 2 (by kernel_rfl)))
     have HI0 := q0 (Q_HI0_e4 (hon 4 (by kernel_rfl)))
     obtain ⟨c_, hv_⟩ := HA_HO112.out
     have hF_ := HO112.out
     rw [hv_] at hF_
     obtain ⟨ad_, ea_, hx_⟩ := Kd.at_int (Kd.R_reads' hF_).2.2 t104 (of_eq_true pi110) (of_eq_true qi110)
     cases ea_
     refine value_ (w1 := w') (v := .int .i64 (rd y103 t104)) (by rfl) rfl ?_ ?_
     · go_simp
       (try simp only [i64_w])
       try rfl
     refine hK.out _ _ ⟨v111, adz_v111, m5_, (by rw [ha.out]; exact putSel_upk 4 hb_ rfl rfl rfl), Q_BK106, fun h0_ => absurd ((hon 4 (by kernel_rfl)).symm.trans h0_) (by decide), Q_HK, Q_HB, Q_HO112, Q_HA_HO112, Q_HI0_e4, Q_X5_⟩
   refine steps_cons ?_ ?_
   · rintro b a w' ⟨v111, adz_v111, m5_, ha, Q_BK106, Q_HI0, Q_HK, Q_HB, Q_HO112, Q_HA_HO112, Q_HI0_e4, Q_X5_⟩ hb_ hon hoff
     refine ⟨_, rfl, fun K hK => ?_⟩
     have e19 : a.tmps[19]? = some (.int .i64 (rd y103 t104)) := by rw [ha]; exact putSel_on (e := (6, 19, .int .i64 (rd y103 t104))) 4 rfl rfl (hon 6 (by kernel_rfl)) rfl
     replace ha := Aside0.mk ha
     have BK106 := Aside0.mk Q_BK106
     have HK := Aside0.mk Q_HK
     have HB := Aside0.mk Q_HB
     have HO112 := q0 (Q_HO112 (hon 2 (by kernel_rfl)))
     have HA_HO112 := q0 (Q_HA_HO112 (hon 2 (by kernel_rfl)))
     have HI0 := q0 (Q_HI0_e4 (hon 4 (by kernel_rfl)))
     refine value_ (w1 := w') (v := .int .i64 (rd y103 t104)) (by rfl) rfl ?_ ?_
     · go_simp
       (try simp only [i64_w])
       try rfl
     refine hK.out _ _ ⟨v111, adz_v111, m5_, (by rw [ha.out]; exact putSel_upk 5 hb_ rfl rfl rfl), Q_BK106, fun h0_ => absurd ((hon 4 (by kernel_rfl)).symm.trans h0_) (by decide), Q_HK, Q_HB, Q_HO112, Q_HA_HO112, Q_HI0_e4, Q_X5_⟩
   exact steps_nil
 rintro b a w21 hall ⟨v111, adz_v111, m5_, ha, Q_BK106, Q_HI0, Q_HK, Q_HB, Q_HO112, Q_HA_HO112, Q_HI0_e4, Q_X5_⟩
 clear BK106 HB HI0 HK
 have hb1_ := hall 1 (by kernel_rfl)
 have hb2_ := hall 2 (by kernel_rfl)
 have hb4_ := hall 4 (by kernel_rfl)
 have hb5_ := hall 5 (by kernel_rfl)
 have hb6_ := hall 6 (by kernel_rfl)
 have hb7_ := hall 7 (by kernel_rfl)
 subst ha
 obtain rfl := Q_X5_ hb5_
 simp only [putSel, hb1_, hb2_, hb4_, hb5_, hb6_, hb7_, if_true, Act.put, List.setIfInBounds_toArray, List.set_cons_zero, List.set_cons_succ]
 have BK106 := Aside0.mk Q_BK106
 clear Q_BK106
 clear Q_HI0
 have HK := Aside0.mk Q_HK
 clear Q_HK
 have HB := Aside0.mk Q_HB
 clear Q_HB
 have HO112 := q0 (Q_HO112 hb2_)
 clear Q_HO112
 have HA_HO112 := q0 (Q_HA_HO112 hb2_)
 clear Q_HA_HO112
 have HI0 := q0 (Q_HI0_e4 hb4_)
 clear Q_HI0_e4
 clear hall hb1_ hb2_ hb4_ hb5_ hb6_ hb7_
 obtain ⟨co22, eo22⟩ := HA_HO112.out
 clear HA_HO112
 subst eo22
 try go_wp2
 go_ret
 exact ⟨qe, qi HI0.out, qj HB.out HI0.out, by repeat (first | (with_reducible first | exact HK.out | apply KeepBut.set_ | apply keep_drewN | apply keep_drew | apply keep_alloc | refine keep_far ?_ GW106.out _) | exact HK.out)⟩

set_option maxHeartbeats 8000000 in
set_option maxRecDepth 100000 in
theorem spec_l71Pair.calls (k : Nat) (g : Nat) (s0_0 : List Int) (s0_1 : Int) (r1 : Int) (r2 : List (STie)) (r3 : Int) (r4 : Int) (r5 : Int) (w0 w : World) (hI : IsSRd w0 w g s0_0 s0_1) (hB : Below w0.heap.size w0 w) (h : spec_l71Pair.f k s0_0 s0_1 = some (r1, r2, r3, r4, r5)) :
    Calls Try.prog 77 #[.pointer (some ⟨g, 0, none⟩)] w fun e w' => ∃ v1_ : Value, e = .returned (.tuple #[.agg #[.int .i64 r1, v1_], .int .i64 r3, .int .i64 r4]) ∧ Kd.R kTie 32 w' w.heap.size (fun _ => True) v1_ r2 ∧ IsSRd w0 w' g s0_0 r5 ∧ Below w0.heap.size w0 w' ∧ KeepBut w w' g none := by
 have hu25 := Try.underlying25
 have HI0 := Aside0.mk hI
 have HK := q0 (KeepBut.refl w g none)
 have HL := Aside0.mk hB.size
 clear hI
 have HW0 := Aside0.mk hB.size
 have HB := Aside0.mk hB
 clear hB
 have H : ((spec_l71Any.f k s0_0 s0_1).bind fun bt100 => ((spec_l71Knot.f k s0_0 bt100.2.2 bt100.1 bt100.2.1).bind fun bt101 => ((spec_l71Knot.f k s0_0 bt101.2 bt100.1 bt100.2.1).bind fun bt102 => (if bt101.1 = bt102.1 then (if bt100.1 > 1 then ((spec_l6Rd_pick.f k s0_0 bt102.2 8).bind fun bt103 => (if bt103.1 > 0 then (if bt100.1 = 0 then (none) else (some (bt100.1, bt100.2.1, bt101.1, Int.tmod (wrap64 (bt101.1 + 1)) bt100.1, bt103.2))) else (some (bt100.1, bt100.2.1, bt101.1, bt102.1, bt103.2)))) else (some (bt100.1, bt100.2.1, bt101.1, bt102.1, bt102.2))) else (some (bt100.1, bt100.2.1, bt101.1, bt102.1, bt102.2)))))) = some (r1, r2, r3, r4, r5) := h
 clear h
 replace H := Option.bind_eq_some_iff.mp H
 obtain ⟨⟨t100, t104, t105⟩, A20, H⟩ := H
 have A2 := Aside0.mk A20
 clear A20
 replace H := Option.bind_eq_some_iff.mp H
 obtain ⟨⟨t101, t106⟩, A30, H⟩ := H
 have A3 := Aside0.mk A30
 clear A30
 replace H := Option.bind_eq_some_iff.mp H
 obtain ⟨⟨t102, t107⟩, A40, H⟩ := H
 have A4 := Aside0.mk A40
 clear A40
 by_cases c5 : t101 = t102
 rotate_left
 · rw [if_neg c5] at H
   have c5b0 : (t101 == t102) = false := beq_eq_false_iff_ne.mpr c5
   have c5b1 : (t101 != t102) = true := bne_iff_ne.mpr c5
   simp only [Option.some.injEq, Prod.mk.injEq] at H
   obtain ⟨rfl, rfl, rfl, rfl, rfl⟩ := H
   go_enter Try.func77, Try.ntmps77
   go_wp2_with (first | ((with_reducible refine gate_dst (N := 2) rfl ?_); refine be 2 #[.int .i64 0, .slice none 0 0] 25 ?_; intro gb109 hg w53 hbox hb; replace HB := q0 (below_step (qj HB.out HI0.out) hb); have BK109 := q0 (hbox); have GW109 := q0 ((by rw [hg]; exact (keep_size (w := w) (g := g) (row := none) (qh HK.out)) : w.heap.size ≤ gb109)); have GE109 := q0 ((Nat.le_trans HW0.out (by rw [hg]; exact (keep_size (w := w) (g := g) (row := none) (qh HK.out)) : w.heap.size ≤ gb109) : w0.heap.size ≤ gb109)); replace HK := q0 (KeepBut.trans (qh HK.out) (KeepBut.of_below hb g none) (.inl rfl)); have NB0_109 := q0 ((by rw [hg]; exact Nat.ne_of_lt (IsSRd.lt (show IsSRd w0 _ g s0_0 s0_1 from qi HI0.out)) : g ≠ gb109)); have NB109_0 := q0 ((by rw [hg]; exact Nat.ne_of_gt (IsSRd.lt (show IsSRd w0 _ g s0_0 s0_1 from qi HI0.out)) : gb109 ≠ g)); replace HI0 := q0 (IsSRd.below (qi HI0.out) hb); clear hb hbox hg) | ((with_reducible refine gate_callee (f := 51) rfl ?_); refine gl 9 Try.func51 #[.pointer (some ⟨g, 0, none⟩)] ?_; (with_reducible refine (spec_l71Any.calls k g s0_0 s0_1 t100 t104 t105 w0 _ ?side1 ?side2 A2.out).mono ?_); (case side1 => exact qi HI0.out); (case side2 => exact qj HB.out HI0.out); rintro e w54 ⟨v110, rfl, ho0, hi, hb, hk⟩; refine ⟨_, rfl, ?_⟩; replace BK109 := q0 (kc hk BK109.out NB109_0.out); have HO111 := q0 (Kd.R_lower ho0 (keep_size (w := w) (g := g) (row := none) (qh HK.out))); replace HK := q0 (KeepBut.trans (qh HK.out) hk (.inl rfl)); replace HB := q0 (hb); replace HI0 := q0 (hi); (try clear hb); (try clear hb2); (try clear hk); (try clear hi); (try clear ho0)) | ((with_reducible refine gate_dst (N := 5) rfl ?_); refine be 5 #[.int .i64 0, .slice none 0 0] 25 ?_; intro gb112 hg w55 hbox hb; replace HO111 := q0 (Kd.R_below (qr HO111.out) hb); replace HB := q0 (below_step (qj HB.out HI0.out) hb); have BK112 := q0 (hbox); have GW112 := q0 ((by rw [hg]; exact (keep_size (w := w) (g := g) (row := none) (qh HK.out)) : w.heap.size ≤ gb112)); have GE112 := q0 ((Nat.le_trans HW0.out (by rw [hg]; exact (keep_size (w := w) (g := g) (row := none) (qh HK.out)) : w.heap.size ≤ gb112) : w0.heap.size ≤ gb112)); replace HK := q0 (KeepBut.trans (qh HK.out) (KeepBut.of_below hb g none) (.inl rfl)); have NB109_112 := q0 ((bl BK109.out hg : gb109 ≠ gb112)); have NB112_109 := q0 ((bg BK109.out hg : gb112 ≠ gb109)); replace BK109 := q0 (kb BK109.out hb); have NB0_112 := q0 ((by rw [hg]; exact Nat.ne_of_lt (IsSRd.lt (show IsSRd w0 _ g s0_0 t105 from qi HI0.out)) : g ≠ gb112)); have NB112_0 := q0 ((by rw [hg]; exact Nat.ne_of_gt (IsSRd.lt (show IsSRd w0 _ g s0_0 t105 from qi HI0.out)) : gb112 ≠ g)); replace HI0 := q0 (IsSRd.below (qi HI0.out) hb); clear hb hbox hg; have hnb56 := NB112_109.out; have hnc56 := NB109_112.out; have hnb57 := NB112_0.out; have hnc57 := NB0_112.out; have hcz58_0 : w55.cell? ⟨gb112, 0, none⟩ = some (.int .i64 0) := (blk_cell BK112.out 0).trans rfl; have hcz58_1 : w55.cell? ⟨gb112, 1, none⟩ = some (.slice none 0 0) := (blk_cell BK112.out 1).trans rfl; have hfz58_0 := blk_frozen BK112.out 0; have hfz58_1 := blk_frozen BK112.out 1; obtain ⟨Ao59, co59, eo59⟩ := Kd.R_slice HO111.out; subst eo59) | ((with_reducible refine gate_callee (f := 102) rfl ?_); refine gl 12 Try.func102 #[.pointer (some ⟨g, 0, none⟩), .agg #[.int .i64 t100, .slice Ao59 t104.length co59]] ?_; (with_reducible refine (spec_l71Knot.calls k g s0_0 t105 t100 _ _ t104 t101 t106 w0 _ ?side1 ?side2 ?side3 ?side4 A3.out).mono ?_); (case side1 => exact qi HI0.out); (case side2 => exact qj HB.out HI0.out); (case side3 => exact Kd.C_foot_own (IsSRd.apart (show IsSRd w0 _ g s0_0 t105 from qi HI0.out) (by (with_reducible repeat (first | apply Kd.R_alloc | apply Kd.R_drewN | apply Kd.R_drew)); exact (rf2 HO111.out BK112.out (fun _ h_ => h_.1))) (by decide)) (fun _ h_ => h_.2)); (case side4 => exact (Kd.R_reads' HO111.out).2.1); rintro e w60 ⟨rfl, hi, hb, hk⟩; refine ⟨_, rfl, ?_⟩; replace BK109 := q0 (kc hk BK109.out NB109_0.out); replace HO111 := q0 (Kd.R_mono (Kd.R_keep (IsSRd.apart (show IsSRd w0 _ g s0_0 t105 from qi HI0.out) (by (with_reducible repeat (first | apply Kd.R_alloc | apply Kd.R_drewN | apply Kd.R_drew)); exact (rf2 HO111.out BK112.out (fun _ h_ => h_.1))) (by decide)) hk (fun _ h => h.2)) (fun _ h => h.1)); replace BK112 := q0 (KeepBut.blk hk (g' := gb112) (o := .cells #[.int .i64 t100, .slice Ao59 t104.length co59] 25 (0, 0)) (by (with_reducible repeat (first | refine blk_drewN ?_ _ | refine blk_drew ?_ | refine blk_alloc ?_ _)); refine blk_put (cs := #[.int .i64 t100, .slice none 0 0]) ?_ 1 _ rfl; (with_reducible repeat (first | refine blk_drewN ?_ _ | refine blk_drew ?_ | refine blk_alloc ?_ _)); refine blk_put (cs := #[.int .i64 0, .slice none 0 0]) ?_ 0 _ rfl; (with_reducible repeat (first | refine blk_drewN ?_ _ | refine blk_drew ?_ | refine blk_alloc ?_ _)); exact BK112.out) NB112_0.out (by simp)); replace HK := q0 (KeepBut.trans (qh HK.out) hk (.inl rfl)); replace HB := q0 (hb); replace HI0 := q0 (hi); (try clear hb); (try clear hb2); (try clear hk); (try clear hi); have hcz61_0 : w60.cell? ⟨gb112, 0, none⟩ = some (.int .i64 t100) := (blk_cell BK112.out 0).trans rfl; have hcz61_1 : w60.cell? ⟨gb112, 1, none⟩ = some (.slice Ao59 t104.length co59) := (blk_cell BK112.out 1).trans rfl; have hfz61_0 := blk_frozen BK112.out 0; have hfz61_1 := blk_frozen BK112.out 1) | ((with_reducible refine gate_callee (f := 102) rfl ?_); refine gl 15 Try.func102 #[.pointer (some ⟨g, 0, none⟩), .agg #[.int .i64 t100, .slice Ao59 t104.length co59]] ?_; (with_reducible refine (spec_l71Knot.calls k g s0_0 t106 t100 _ _ t104 t102 t107 w0 _ ?side1 ?side2 ?side3 ?side4 A4.out).mono ?_); (case side1 => exact qi HI0.out); (case side2 => exact qj HB.out HI0.out); (case side3 => exact Kd.C_foot_own (IsSRd.apart (show IsSRd w0 _ g s0_0 t106 from qi HI0.out) (qr HO111.out) (by decide)) (fun _ h_ => h_.2)); (case side4 => exact (Kd.R_reads' HO111.out).2.1); rintro e w62 ⟨rfl, hi, hb, hk⟩; refine ⟨_, rfl, ?_⟩; replace BK109 := q0 (kc hk BK109.out NB109_0.out); replace HO111 := q0 (Kd.R_mono (Kd.R_keep (IsSRd.apart (show IsSRd w0 _ g s0_0 t106 from qi HI0.out) (qr HO111.out) (by decide)) hk (fun _ h => h.2)) (fun _ h => h.1)); replace BK112 := q0 (kc hk BK112.out NB112_0.out); replace HK := q0 (KeepBut.trans (qh HK.out) hk (.inl rfl)); replace HB := q0 (hb); replace HI0 := q0 (hi); (try clear hb); (try clear hb2); (try clear hk); (try clear hi); have hcz63_0 : w62.cell? ⟨gb112, 0, none⟩ = some (.int .i64 t100) := (blk_cell BK112.out 0).trans rfl; have hcz63_1 : w62.cell? ⟨gb112, 1, none⟩ = some (.slice Ao59 t104.length co59) := (blk_cell BK112.out 1).trans rfl; have hfz63_0 := blk_frozen BK112.out 0; have hfz63_1 := blk_frozen BK112.out 1; have hnb64 := NB109_0.out; have hnc64 := NB0_109.out; have hcz65_0 : w62.cell? ⟨gb109, 0, none⟩ = some (.int .i64 0) := (blk_cell BK109.out 0).trans rfl; have hcz65_1 : w62.cell? ⟨gb109, 1, none⟩ = some (.slice none 0 0) := (blk_cell BK109.out 1).trans rfl; have hfz65_0 := blk_frozen BK109.out 0; have hfz65_1 := blk_frozen BK109.out 1))
   refine bodyPost_ret (results_ctt rfl _ _ gb109 25 #[.int .i64 t100, .slice Ao59 t104.length co59] (0, 0) _ rfl (by (with_reducible repeat (first | refine blk_drewN ?_ _ | refine blk_drew ?_ | refine blk_alloc ?_ _)); refine blk_put (cs := #[.int .i64 t100, .slice none 0 0]) ?_ 1 _ rfl; (with_reducible repeat (first | refine blk_drewN ?_ _ | refine blk_drew ?_ | refine blk_alloc ?_ _)); refine blk_put (cs := #[.int .i64 0, .slice none 0 0]) ?_ 0 _ rfl; (with_reducible repeat (first | refine blk_drewN ?_ _ | refine blk_drew ?_ | refine blk_alloc ?_ _)); exact BK109.out) Try.underlying25 rfl (by kernel_rfl)) rfl ?_
   exact ⟨_, qe, by (with_reducible repeat (first | apply Kd.R_alloc | apply Kd.R_drewN | apply Kd.R_drew)); exact rf2 HO111.out BK109.out (fun _ hk => trivial), qi HI0.out, qj HB.out HI0.out, by repeat (first | (with_reducible first | exact HK.out | apply KeepBut.set_ | apply keep_drewN | apply keep_drew | apply keep_alloc | refine keep_far ?_ GW109.out _ | refine keep_far ?_ GW112.out _) | exact HK.out)⟩
 rw [if_pos c5] at H
 have c5b0 : (t101 == t102) = true := beq_iff_eq.mpr c5
 have c5b1 : (t101 != t102) = false := bne_eq_false_iff_eq.mpr c5
 clear c5
 by_cases c6 : t100 > 1
 rotate_left
 · rw [if_neg c6] at H
   have c6b0 : decide (1 < t100) = false := decide_eq_false c6
   clear c6
   simp only [Option.some.injEq, Prod.mk.injEq] at H
   obtain ⟨rfl, rfl, rfl, rfl, rfl⟩ := H
   go_enter Try.func77, Try.ntmps77
   go_wp2_with (first | ((with_reducible refine gate_dst (N := 2) rfl ?_); refine be 2 #[.int .i64 0, .slice none 0 0] 25 ?_; intro gb109 hg w40 hbox hb; replace HB := q0 (below_step (qj HB.out HI0.out) hb); have BK109 := q0 (hbox); have GW109 := q0 ((by rw [hg]; exact (keep_size (w := w) (g := g) (row := none) (qh HK.out)) : w.heap.size ≤ gb109)); have GE109 := q0 ((Nat.le_trans HW0.out (by rw [hg]; exact (keep_size (w := w) (g := g) (row := none) (qh HK.out)) : w.heap.size ≤ gb109) : w0.heap.size ≤ gb109)); replace HK := q0 (KeepBut.trans (qh HK.out) (KeepBut.of_below hb g none) (.inl rfl)); have NB0_109 := q0 ((by rw [hg]; exact Nat.ne_of_lt (IsSRd.lt (show IsSRd w0 _ g s0_0 s0_1 from qi HI0.out)) : g ≠ gb109)); have NB109_0 := q0 ((by rw [hg]; exact Nat.ne_of_gt (IsSRd.lt (show IsSRd w0 _ g s0_0 s0_1 from qi HI0.out)) : gb109 ≠ g)); replace HI0 := q0 (IsSRd.below (qi HI0.out) hb); clear hb hbox hg) | ((with_reducible refine gate_callee (f := 51) rfl ?_); refine gl 9 Try.func51 #[.pointer (some ⟨g, 0, none⟩)] ?_; (with_reducible refine (spec_l71Any.calls k g s0_0 s0_1 t100 t104 t105 w0 _ ?side1 ?side2 A2.out).mono ?_); (case side1 => exact qi HI0.out); (case side2 => exact qj HB.out HI0.out); rintro e w41 ⟨v110, rfl, ho0, hi, hb, hk⟩; refine ⟨_, rfl, ?_⟩; replace BK109 := q0 (kc hk BK109.out NB109_0.out); have HO111 := q0 (Kd.R_lower ho0 (keep_size (w := w) (g := g) (row := none) (qh HK.out))); replace HK := q0 (KeepBut.trans (qh HK.out) hk (.inl rfl)); replace HB := q0 (hb); replace HI0 := q0 (hi); (try clear hb); (try clear hb2); (try clear hk); (try clear hi); (try clear ho0)) | ((with_reducible refine gate_dst (N := 5) rfl ?_); refine be 5 #[.int .i64 0, .slice none 0 0] 25 ?_; intro gb112 hg w42 hbox hb; replace HO111 := q0 (Kd.R_below (qr HO111.out) hb); replace HB := q0 (below_step (qj HB.out HI0.out) hb); have BK112 := q0 (hbox); have GW112 := q0 ((by rw [hg]; exact (keep_size (w := w) (g := g) (row := none) (qh HK.out)) : w.heap.size ≤ gb112)); have GE112 := q0 ((Nat.le_trans HW0.out (by rw [hg]; exact (keep_size (w := w) (g := g) (row := none) (qh HK.out)) : w.heap.size ≤ gb112) : w0.heap.size ≤ gb112)); replace HK := q0 (KeepBut.trans (qh HK.out) (KeepBut.of_below hb g none) (.inl rfl)); have NB109_112 := q0 ((bl BK109.out hg : gb109 ≠ gb112)); have NB112_109 := q0 ((bg BK109.out hg : gb112 ≠ gb109)); replace BK109 := q0 (kb BK109.out hb); have NB0_112 := q0 ((by rw [hg]; exact Nat.ne_of_lt (IsSRd.lt (show IsSRd w0 _ g s0_0 t105 from qi HI0.out)) : g ≠ gb112)); have NB112_0 := q0 ((by rw [hg]; exact Nat.ne_of_gt (IsSRd.lt (show IsSRd w0 _ g s0_0 t105 from qi HI0.out)) : gb112 ≠ g)); replace HI0 := q0 (IsSRd.below (qi HI0.out) hb); clear hb hbox hg; have hnb43 := NB112_109.out; have hnc43 := NB109_112.out; have hnb44 := NB112_0.out; have hnc44 := NB0_112.out; have hcz45_0 : w42.cell? ⟨gb112, 0, none⟩ = some (.int .i64 0) := (blk_cell BK112.out 0).trans rfl; have hcz45_1 : w42.cell? ⟨gb112, 1, none⟩ = some (.slice none 0 0) := (blk_cell BK112.out 1).trans rfl; have hfz45_0 := blk_frozen BK112.out 0; have hfz45_1 := blk_frozen BK112.out 1; obtain ⟨Ao46, co46, eo46⟩ := Kd.R_slice HO111.out; subst eo46) | ((with_reducible refine gate_callee (f := 102) rfl ?_); refine gl 12 Try.func102 #[.pointer (some ⟨g, 0, none⟩), .agg #[.int .i64 t100, .slice Ao46 t104.length co46]] ?_; (with_reducible refine (spec_l71Knot.calls k g s0_0 t105 t100 _ _ t104 t101 t106 w0 _ ?side1 ?side2 ?side3 ?side4 A3.out).mono ?_); (case side1 => exact qi HI0.out); (case side2 => exact qj HB.out HI0.out); (case side3 => exact Kd.C_foot_own (IsSRd.apart (show IsSRd w0 _ g s0_0 t105 from qi HI0.out) (by (with_reducible repeat (first | apply Kd.R_alloc | apply Kd.R_drewN | apply Kd.R_drew)); exact (rf2 HO111.out BK112.out (fun _ h_ => h_.1))) (by decide)) (fun _ h_ => h_.2)); (case side4 => exact (Kd.R_reads' HO111.out).2.1); rintro e w47 ⟨rfl, hi, hb, hk⟩; refine ⟨_, rfl, ?_⟩; replace BK109 := q0 (kc hk BK109.out NB109_0.out); replace HO111 := q0 (Kd.R_mono (Kd.R_keep (IsSRd.apart (show IsSRd w0 _ g s0_0 t105 from qi HI0.out) (by (with_reducible repeat (first | apply Kd.R_alloc | apply Kd.R_drewN | apply Kd.R_drew)); exact (rf2 HO111.out BK112.out (fun _ h_ => h_.1))) (by decide)) hk (fun _ h => h.2)) (fun _ h => h.1)); replace BK112 := q0 (KeepBut.blk hk (g' := gb112) (o := .cells #[.int .i64 t100, .slice Ao46 t104.length co46] 25 (0, 0)) (by (with_reducible repeat (first | refine blk_drewN ?_ _ | refine blk_drew ?_ | refine blk_alloc ?_ _)); refine blk_put (cs := #[.int .i64 t100, .slice none 0 0]) ?_ 1 _ rfl; (with_reducible repeat (first | refine blk_drewN ?_ _ | refine blk_drew ?_ | refine blk_alloc ?_ _)); refine blk_put (cs := #[.int .i64 0, .slice none 0 0]) ?_ 0 _ rfl; (with_reducible repeat (first | refine blk_drewN ?_ _ | refine blk_drew ?_ | refine blk_alloc ?_ _)); exact BK112.out) NB112_0.out (by simp)); replace HK := q0 (KeepBut.trans (qh HK.out) hk (.inl rfl)); replace HB := q0 (hb); replace HI0 := q0 (hi); (try clear hb); (try clear hb2); (try clear hk); (try clear hi); have hcz48_0 : w47.cell? ⟨gb112, 0, none⟩ = some (.int .i64 t100) := (blk_cell BK112.out 0).trans rfl; have hcz48_1 : w47.cell? ⟨gb112, 1, none⟩ = some (.slice Ao46 t104.length co46) := (blk_cell BK112.out 1).trans rfl; have hfz48_0 := blk_frozen BK112.out 0; have hfz48_1 := blk_frozen BK112.out 1) | ((with_reducible refine gate_callee (f := 102) rfl ?_); refine gl 15 Try.func102 #[.pointer (some ⟨g, 0, none⟩), .agg #[.int .i64 t100, .slice Ao46 t104.length co46]] ?_; (with_reducible refine (spec_l71Knot.calls k g s0_0 t106 t100 _ _ t104 t102 t107 w0 _ ?side1 ?side2 ?side3 ?side4 A4.out).mono ?_); (case side1 => exact qi HI0.out); (case side2 => exact qj HB.out HI0.out); (case side3 => exact Kd.C_foot_own (IsSRd.apart (show IsSRd w0 _ g s0_0 t106 from qi HI0.out) (qr HO111.out) (by decide)) (fun _ h_ => h_.2)); (case side4 => exact (Kd.R_reads' HO111.out).2.1); rintro e w49 ⟨rfl, hi, hb, hk⟩; refine ⟨_, rfl, ?_⟩; replace BK109 := q0 (kc hk BK109.out NB109_0.out); replace HO111 := q0 (Kd.R_mono (Kd.R_keep (IsSRd.apart (show IsSRd w0 _ g s0_0 t106 from qi HI0.out) (qr HO111.out) (by decide)) hk (fun _ h => h.2)) (fun _ h => h.1)); replace BK112 := q0 (kc hk BK112.out NB112_0.out); replace HK := q0 (KeepBut.trans (qh HK.out) hk (.inl rfl)); replace HB := q0 (hb); replace HI0 := q0 (hi); (try clear hb); (try clear hb2); (try clear hk); (try clear hi); have hcz50_0 : w49.cell? ⟨gb112, 0, none⟩ = some (.int .i64 t100) := (blk_cell BK112.out 0).trans rfl; have hcz50_1 : w49.cell? ⟨gb112, 1, none⟩ = some (.slice Ao46 t104.length co46) := (blk_cell BK112.out 1).trans rfl; have hfz50_0 := blk_frozen BK112.out 0; have hfz50_1 := blk_frozen BK112.out 1; have hnb51 := NB109_0.out; have hnc51 := NB0_109.out; have hcz52_0 : w49.cell? ⟨gb109, 0, none⟩ = some (.int .i64 0) := (blk_cell BK109.out 0).trans rfl; have hcz52_1 : w49.cell? ⟨gb109, 1, none⟩ = some (.slice none 0 0) := (blk_cell BK109.out 1).trans rfl; have hfz52_0 := blk_frozen BK109.out 0; have hfz52_1 := blk_frozen BK109.out 1))
   refine bodyPost_ret (results_ctt rfl _ _ gb109 25 #[.int .i64 t100, .slice Ao46 t104.length co46] (0, 0) _ rfl (by (with_reducible repeat (first | refine blk_drewN ?_ _ | refine blk_drew ?_ | refine blk_alloc ?_ _)); refine blk_put (cs := #[.int .i64 t100, .slice none 0 0]) ?_ 1 _ rfl; (with_reducible repeat (first | refine blk_drewN ?_ _ | refine blk_drew ?_ | refine blk_alloc ?_ _)); refine blk_put (cs := #[.int .i64 0, .slice none 0 0]) ?_ 0 _ rfl; (with_reducible repeat (first | refine blk_drewN ?_ _ | refine blk_drew ?_ | refine blk_alloc ?_ _)); exact BK109.out) Try.underlying25 rfl (by kernel_rfl)) rfl ?_
   exact ⟨_, qe, by (with_reducible repeat (first | apply Kd.R_alloc | apply Kd.R_drewN | apply Kd.R_drew)); exact rf2 HO111.out BK109.out (fun _ hk => trivial), qi HI0.out, qj HB.out HI0.out, by repeat (first | (with_reducible first | exact HK.out | apply KeepBut.set_ | apply keep_drewN | apply keep_drew | apply keep_alloc | refine keep_far ?_ GW109.out _ | refine keep_far ?_ GW112.out _) | exact HK.out)⟩
 rw [if_pos c6] at H
 have c6b0 : decide (1 < t100) = true := decide_eq_true c6
 clear c6
 replace H := Option.bind_eq_some_iff.mp H
 obtain ⟨⟨t103, t108⟩, A70, H⟩ := H
 have A7 := Aside0.mk A70
 clear A70
 by_cases c8 : t103 > 0
 rotate_left
 · rw [if_neg c8] at H
   have c8b0 : decide (0 < t103) = false := decide_eq_false c8
   clear c8
   simp only [Option.some.injEq, Prod.mk.injEq] at H
   obtain ⟨rfl, rfl, rfl, rfl, rfl⟩ := H
   go_enter Try.func77, Try.ntmps77
   go_wp2_with (first | ((with_reducible refine gate_dst (N := 2) rfl ?_); refine be 2 #[.int .i64 0, .slice none 0 0] 25 ?_; intro gb109 hg w25 hbox hb; replace HB := q0 (below_step (qj HB.out HI0.out) hb); have BK109 := q0 (hbox); have GW109 := q0 ((by rw [hg]; exact (keep_size (w := w) (g := g) (row := none) (qh HK.out)) : w.heap.size ≤ gb109)); have GE109 := q0 ((Nat.le_trans HW0.out (by rw [hg]; exact (keep_size (w := w) (g := g) (row := none) (qh HK.out)) : w.heap.size ≤ gb109) : w0.heap.size ≤ gb109)); replace HK := q0 (KeepBut.trans (qh HK.out) (KeepBut.of_below hb g none) (.inl rfl)); have NB0_109 := q0 ((by rw [hg]; exact Nat.ne_of_lt (IsSRd.lt (show IsSRd w0 _ g s0_0 s0_1 from qi HI0.out)) : g ≠ gb109)); have NB109_0 := q0 ((by rw [hg]; exact Nat.ne_of_gt (IsSRd.lt (show IsSRd w0 _ g s0_0 s0_1 from qi HI0.out)) : gb109 ≠ g)); replace HI0 := q0 (IsSRd.below (qi HI0.out) hb); clear hb hbox hg) | ((with_reducible refine gate_callee (f := 51) rfl ?_); refine gl 9 Try.func51 #[.pointer (some ⟨g, 0, none⟩)] ?_; (with_reducible refine (spec_l71Any.calls k g s0_0 s0_1 t100 t104 t105 w0 _ ?side1 ?side2 A2.out).mono ?_); (case side1 => exact qi HI0.out); (case side2 => exact qj HB.out HI0.out); rintro e w26 ⟨v110, rfl, ho0, hi, hb, hk⟩; refine ⟨_, rfl, ?_⟩; replace BK109 := q0 (kc hk BK109.out NB109_0.out); have HO111 := q0 (Kd.R_lower ho0 (keep_size (w := w) (g := g) (row := none) (qh HK.out))); replace HK := q0 (KeepBut.trans (qh HK.out) hk (.inl rfl)); replace HB := q0 (hb); replace HI0 := q0 (hi); (try clear hb); (try clear hb2); (try clear hk); (try clear hi); (try clear ho0)) | ((with_reducible refine gate_dst (N := 5) rfl ?_); refine be 5 #[.int .i64 0, .slice none 0 0] 25 ?_; intro gb112 hg w27 hbox hb; replace HO111 := q0 (Kd.R_below (qr HO111.out) hb); replace HB := q0 (below_step (qj HB.out HI0.out) hb); have BK112 := q0 (hbox); have GW112 := q0 ((by rw [hg]; exact (keep_size (w := w) (g := g) (row := none) (qh HK.out)) : w.heap.size ≤ gb112)); have GE112 := q0 ((Nat.le_trans HW0.out (by rw [hg]; exact (keep_size (w := w) (g := g) (row := none) (qh HK.out)) : w.heap.size ≤ gb112) : w0.heap.size ≤ gb112)); replace HK := q0 (KeepBut.trans (qh HK.out) (KeepBut.of_below hb g none) (.inl rfl)); have NB109_112 := q0 ((bl BK109.out hg : gb109 ≠ gb112)); have NB112_109 := q0 ((bg BK109.out hg : gb112 ≠ gb109)); replace BK109 := q0 (kb BK109.out hb); have NB0_112 := q0 ((by rw [hg]; exact Nat.ne_of_lt (IsSRd.lt (show IsSRd w0 _ g s0_0 t105 from qi HI0.out)) : g ≠ gb112)); have NB112_0 := q0 ((by rw [hg]; exact Nat.ne_of_gt (IsSRd.lt (show IsSRd w0 _ g s0_0 t105 from qi HI0.out)) : gb112 ≠ g)); replace HI0 := q0 (IsSRd.below (qi HI0.out) hb); clear hb hbox hg; have hnb28 := NB112_109.out; have hnc28 := NB109_112.out; have hnb29 := NB112_0.out; have hnc29 := NB0_112.out; have hcz30_0 : w27.cell? ⟨gb112, 0, none⟩ = some (.int .i64 0) := (blk_cell BK112.out 0).trans rfl; have hcz30_1 : w27.cell? ⟨gb112, 1, none⟩ = some (.slice none 0 0) := (blk_cell BK112.out 1).trans rfl; have hfz30_0 := blk_frozen BK112.out 0; have hfz30_1 := blk_frozen BK112.out 1; obtain ⟨Ao31, co31, eo31⟩ := Kd.R_slice HO111.out; subst eo31) | ((with_reducible refine gate_callee (f := 102) rfl ?_); refine gl 12 Try.func102 #[.pointer (some ⟨g, 0, none⟩), .agg #[.int .i64 t100, .slice Ao31 t104.length co31]] ?_; (with_reducible refine (spec_l71Knot.calls k g s0_0 t105 t100 _ _ t104 t101 t106 w0 _ ?side1 ?side2 ?side3 ?side4 A3.out).mono ?_); (case side1 => exact qi HI0.out); (case side2 => exact qj HB.out HI0.out); (case side3 => exact Kd.C_foot_own (IsSRd.apart (show IsSRd w0 _ g s0_0 t105 from qi HI0.out) (by (with_reducible repeat (first | apply Kd.R_alloc | apply Kd.R_drewN | apply Kd.R_drew)); exact (rf2 HO111.out BK112.out (fun _ h_ => h_.1))) (by decide)) (fun _ h_ => h_.2)); (case side4 => exact (Kd.R_reads' HO111.out).2.1); rintro e w32 ⟨rfl, hi, hb, hk⟩; refine ⟨_, rfl, ?_⟩; replace BK109 := q0 (kc hk BK109.out NB109_0.out); replace HO111 := q0 (Kd.R_mono (Kd.R_keep (IsSRd.apart (show IsSRd w0 _ g s0_0 t105 from qi HI0.out) (by (with_reducible repeat (first | apply Kd.R_alloc | apply Kd.R_drewN | apply Kd.R_drew)); exact (rf2 HO111.out BK112.out (fun _ h_ => h_.1))) (by decide)) hk (fun _ h => h.2)) (fun _ h => h.1)); replace BK112 := q0 (KeepBut.blk hk (g' := gb112) (o := .cells #[.int .i64 t100, .slice Ao31 t104.length co31] 25 (0, 0)) (by (with_reducible repeat (first | refine blk_drewN ?_ _ | refine blk_drew ?_ | refine blk_alloc ?_ _)); refine blk_put (cs := #[.int .i64 t100, .slice none 0 0]) ?_ 1 _ rfl; (with_reducible repeat (first | refine blk_drewN ?_ _ | refine blk_drew ?_ | refine blk_alloc ?_ _)); refine blk_put (cs := #[.int .i64 0, .slice none 0 0]) ?_ 0 _ rfl; (with_reducible repeat (first | refine blk_drewN ?_ _ | refine blk_drew ?_ | refine blk_alloc ?_ _)); exact BK112.out) NB112_0.out (by simp)); replace HK := q0 (KeepBut.trans (qh HK.out) hk (.inl rfl)); replace HB := q0 (hb); replace HI0 := q0 (hi); (try clear hb); (try clear hb2); (try clear hk); (try clear hi); have hcz33_0 : w32.cell? ⟨gb112, 0, none⟩ = some (.int .i64 t100) := (blk_cell BK112.out 0).trans rfl; have hcz33_1 : w32.cell? ⟨gb112, 1, none⟩ = some (.slice Ao31 t104.length co31) := (blk_cell BK112.out 1).trans rfl; have hfz33_0 := blk_frozen BK112.out 0; have hfz33_1 := blk_frozen BK112.out 1) | ((with_reducible refine gate_callee (f := 102) rfl ?_); refine gl 15 Try.func102 #[.pointer (some ⟨g, 0, none⟩), .agg #[.int .i64 t100, .slice Ao31 t104.length co31]] ?_; (with_reducible refine (spec_l71Knot.calls k g s0_0 t106 t100 _ _ t104 t102 t107 w0 _ ?side1 ?side2 ?side3 ?side4 A4.out).mono ?_); (case side1 => exact qi HI0.out); (case side2 => exact qj HB.out HI0.out); (case side3 => exact Kd.C_foot_own (IsSRd.apart (show IsSRd w0 _ g s0_0 t106 from qi HI0.out) (qr HO111.out) (by decide)) (fun _ h_ => h_.2)); (case side4 => exact (Kd.R_reads' HO111.out).2.1); rintro e w34 ⟨rfl, hi, hb, hk⟩; refine ⟨_, rfl, ?_⟩; replace BK109 := q0 (kc hk BK109.out NB109_0.out); replace HO111 := q0 (Kd.R_mono (Kd.R_keep (IsSRd.apart (show IsSRd w0 _ g s0_0 t106 from qi HI0.out) (qr HO111.out) (by decide)) hk (fun _ h => h.2)) (fun _ h => h.1)); replace BK112 := q0 (kc hk BK112.out NB112_0.out); replace HK := q0 (KeepBut.trans (qh HK.out) hk (.inl rfl)); replace HB := q0 (hb); replace HI0 := q0 (hi); (try clear hb); (try clear hb2); (try clear hk); (try clear hi); have hcz35_0 : w34.cell? ⟨gb112, 0, none⟩ = some (.int .i64 t100) := (blk_cell BK112.out 0).trans rfl; have hcz35_1 : w34.cell? ⟨gb112, 1, none⟩ = some (.slice Ao31 t104.length co31) := (blk_cell BK112.out 1).trans rfl; have hfz35_0 := blk_frozen BK112.out 0; have hfz35_1 := blk_frozen BK112.out 1) | (go_at_call 59; (with_reducible refine (spec_l6Rd_pick.calls k g s0_0 t107 8 t103 t108 w0 _ ?side1 ?side2 A7.out).mono ?_); (case side1 => exact qi HI0.out); (case side2 => exact qj HB.out HI0.out); rintro e w36 ⟨rfl, hi, hb, hk⟩; replace BK109 := q0 (kc hk BK109.out NB109_0.out); replace HO111 := q0 (Kd.R_mono (Kd.R_keep (IsSRd.apart (show IsSRd w0 _ g s0_0 t107 from qi HI0.out) (qr HO111.out) (by decide)) hk (fun _ h => h.2)) (fun _ h => h.1)); replace BK112 := q0 (kc hk BK112.out NB112_0.out); replace HK := q0 (KeepBut.trans (qh HK.out) hk (.inl rfl)); replace HB := q0 (hb); replace HI0 := q0 (hi); (try clear hb); (try clear hb2); (try clear hk); (try clear hi); have hcz37_0 : w36.cell? ⟨gb112, 0, none⟩ = some (.int .i64 t100) := (blk_cell BK112.out 0).trans rfl; have hcz37_1 : w36.cell? ⟨gb112, 1, none⟩ = some (.slice Ao31 t104.length co31) := (blk_cell BK112.out 1).trans rfl; have hfz37_0 := blk_frozen BK112.out 0; have hfz37_1 := blk_frozen BK112.out 1; have hnb38 := NB109_0.out; have hnc38 := NB0_109.out; have hcz39_0 : w36.cell? ⟨gb109, 0, none⟩ = some (.int .i64 0) := (blk_cell BK109.out 0).trans rfl; have hcz39_1 : w36.cell? ⟨gb109, 1, none⟩ = some (.slice none 0 0) := (blk_cell BK109.out 1).trans rfl; have hfz39_0 := blk_frozen BK109.out 0; have hfz39_1 := blk_frozen BK109.out 1))
   refine bodyPost_ret (results_ctt rfl _ _ gb109 25 #[.int .i64 t100, .slice Ao31 t104.length co31] (0, 0) _ rfl (by (with_reducible repeat (first | refine blk_drewN ?_ _ | refine blk_drew ?_ | refine blk_alloc ?_ _)); refine blk_put (cs := #[.int .i64 t100, .slice none 0 0]) ?_ 1 _ rfl; (with_reducible repeat (first | refine blk_drewN ?_ _ | refine blk_drew ?_ | refine blk_alloc ?_ _)); refine blk_put (cs := #[.int .i64 0, .slice none 0 0]) ?_ 0 _ rfl; (with_reducible repeat (first | refine blk_drewN ?_ _ | refine blk_drew ?_ | refine blk_alloc ?_ _)); exact BK109.out) Try.underlying25 rfl (by kernel_rfl)) rfl ?_
   exact ⟨_, qe, by (with_reducible repeat (first | apply Kd.R_alloc | apply Kd.R_drewN | apply Kd.R_drew)); exact rf2 HO111.out BK109.out (fun _ hk => trivial), qi HI0.out, qj HB.out HI0.out, by repeat (first | (with_reducible first | exact HK.out | apply KeepBut.set_ | apply keep_drewN | apply keep_drew | apply keep_alloc | refine keep_far ?_ GW109.out _ | refine keep_far ?_ GW112.out _) | exact HK.out)⟩
 rw [if_pos c8] at H
 have c8b0 : decide (0 < t103) = true := decide_eq_true c8
 clear c8
 by_cases c9 : t100 = 0
 · rw [if_pos c9] at H
   exact absurd H (by simp)
 rw [if_neg c9] at H
 have c9b0 : (t100 == 0) = false := beq_eq_false_iff_ne.mpr c9
 have c9b1 : (t100 != 0) = true := bne_iff_ne.mpr c9
 simp only [Option.some.injEq, Prod.mk.injEq] at H
 obtain ⟨rfl, rfl, rfl, rfl, rfl⟩ := H
 go_enter Try.func77, Try.ntmps77
 go_wp2_with (first | ((with_reducible refine gate_dst (N := 2) rfl ?_); refine be 2 #[.int .i64 0, .slice none 0 0] 25 ?_; intro gb109 hg w10 hbox hb; replace HB := q0 (below_step (qj HB.out HI0.out) hb); have BK109 := q0 (hbox); have GW109 := q0 ((by rw [hg]; exact (keep_size (w := w) (g := g) (row := none) (qh HK.out)) : w.heap.size ≤ gb109)); have GE109 := q0 ((Nat.le_trans HW0.out (by rw [hg]; exact (keep_size (w := w) (g := g) (row := none) (qh HK.out)) : w.heap.size ≤ gb109) : w0.heap.size ≤ gb109)); replace HK := q0 (KeepBut.trans (qh HK.out) (KeepBut.of_below hb g none) (.inl rfl)); have NB0_109 := q0 ((by rw [hg]; exact Nat.ne_of_lt (IsSRd.lt (show IsSRd w0 _ g s0_0 s0_1 from qi HI0.out)) : g ≠ gb109)); have NB109_0 := q0 ((by rw [hg]; exact Nat.ne_of_gt (IsSRd.lt (show IsSRd w0 _ g s0_0 s0_1 from qi HI0.out)) : gb109 ≠ g)); replace HI0 := q0 (IsSRd.below (qi HI0.out) hb); clear hb hbox hg) | ((with_reducible refine gate_callee (f := 51) rfl ?_); refine gl 9 Try.func51 #[.pointer (some ⟨g, 0, none⟩)] ?_; (with_reducible refine (spec_l71Any.calls k g s0_0 s0_1 t100 t104 t105 w0 _ ?side1 ?side2 A2.out).mono ?_); (case side1 => exact qi HI0.out); (case side2 => exact qj HB.out HI0.out); rintro e w11 ⟨v110, rfl, ho0, hi, hb, hk⟩; refine ⟨_, rfl, ?_⟩; replace BK109 := q0 (kc hk BK109.out NB109_0.out); have HO111 := q0 (Kd.R_lower ho0 (keep_size (w := w) (g := g) (row := none) (qh HK.out))); replace HK := q0 (KeepBut.trans (qh HK.out) hk (.inl rfl)); replace HB := q0 (hb); replace HI0 := q0 (hi); (try clear hb); (try clear hb2); (try clear hk); (try clear hi); (try clear ho0)) | ((with_reducible refine gate_dst (N := 5) rfl ?_); refine be 5 #[.int .i64 0, .slice none 0 0] 25 ?_; intro gb112 hg w12 hbox hb; replace HO111 := q0 (Kd.R_below (qr HO111.out) hb); replace HB := q0 (below_step (qj HB.out HI0.out) hb); have BK112 := q0 (hbox); have GW112 := q0 ((by rw [hg]; exact (keep_size (w := w) (g := g) (row := none) (qh HK.out)) : w.heap.size ≤ gb112)); have GE112 := q0 ((Nat.le_trans HW0.out (by rw [hg]; exact (keep_size (w := w) (g := g) (row := none) (qh HK.out)) : w.heap.size ≤ gb112) : w0.heap.size ≤ gb112)); replace HK := q0 (KeepBut.trans (qh HK.out) (KeepBut.of_below hb g none) (.inl rfl)); have NB109_112 := q0 ((bl BK109.out hg : gb109 ≠ gb112)); have NB112_109 := q0 ((bg BK109.out hg : gb112 ≠ gb109)); replace BK109 := q0 (kb BK109.out hb); have NB0_112 := q0 ((by rw [hg]; exact Nat.ne_of_lt (IsSRd.lt (show IsSRd w0 _ g s0_0 t105 from qi HI0.out)) : g ≠ gb112)); have NB112_0 := q0 ((by rw [hg]; exact Nat.ne_of_gt (IsSRd.lt (show IsSRd w0 _ g s0_0 t105 from qi HI0.out)) : gb112 ≠ g)); replace HI0 := q0 (IsSRd.below (qi HI0.out) hb); clear hb hbox hg; have hnb13 := NB112_109.out; have hnc13 := NB109_112.out; have hnb14 := NB112_0.out; have hnc14 := NB0_112.out; have hcz15_0 : w12.cell? ⟨gb112, 0, none⟩ = some (.int .i64 0) := (blk_cell BK112.out 0).trans rfl; have hcz15_1 : w12.cell? ⟨gb112, 1, none⟩ = some (.slice none 0 0) := (blk_cell BK112.out 1).trans rfl; have hfz15_0 := blk_frozen BK112.out 0; have hfz15_1 := blk_frozen BK112.out 1; obtain ⟨Ao16, co16, eo16⟩ := Kd.R_slice HO111.out; subst eo16) | ((with_reducible refine gate_callee (f := 102) rfl ?_); refine gl 12 Try.func102 #[.pointer (some ⟨g, 0, none⟩), .agg #[.int .i64 t100, .slice Ao16 t104.length co16]] ?_; (with_reducible refine (spec_l71Knot.calls k g s0_0 t105 t100 _ _ t104 t101 t106 w0 _ ?side1 ?side2 ?side3 ?side4 A3.out).mono ?_); (case side1 => exact qi HI0.out); (case side2 => exact qj HB.out HI0.out); (case side3 => exact Kd.C_foot_own (IsSRd.apart (show IsSRd w0 _ g s0_0 t105 from qi HI0.out) (by (with_reducible repeat (first | apply Kd.R_alloc | apply Kd.R_drewN | apply Kd.R_drew)); exact (rf2 HO111.out BK112.out (fun _ h_ => h_.1))) (by decide)) (fun _ h_ => h_.2)); (case side4 => exact (Kd.R_reads' HO111.out).2.1); rintro e w17 ⟨rfl, hi, hb, hk⟩; refine ⟨_, rfl, ?_⟩; replace BK109 := q0 (kc hk BK109.out NB109_0.out); replace HO111 := q0 (Kd.R_mono (Kd.R_keep (IsSRd.apart (show IsSRd w0 _ g s0_0 t105 from qi HI0.out) (by (with_reducible repeat (first | apply Kd.R_alloc | apply Kd.R_drewN | apply Kd.R_drew)); exact (rf2 HO111.out BK112.out (fun _ h_ => h_.1))) (by decide)) hk (fun _ h => h.2)) (fun _ h => h.1)); replace BK112 := q0 (KeepBut.blk hk (g' := gb112) (o := .cells #[.int .i64 t100, .slice Ao16 t104.length co16] 25 (0, 0)) (by (with_reducible repeat (first | refine blk_drewN ?_ _ | refine blk_drew ?_ | refine blk_alloc ?_ _)); refine blk_put (cs := #[.int .i64 t100, .slice none 0 0]) ?_ 1 _ rfl; (with_reducible repeat (first | refine blk_drewN ?_ _ | refine blk_drew ?_ | refine blk_alloc ?_ _)); refine blk_put (cs := #[.int .i64 0, .slice none 0 0]) ?_ 0 _ rfl; (with_reducible repeat (first | refine blk_drewN ?_ _ | refine blk_drew ?_ | refine blk_alloc ?_ _)); exact BK112.out) NB112_0.out (by simp)); replace HK := q0 (KeepBut.trans (qh HK.out) hk (.inl rfl)); replace HB := q0 (hb); replace HI0 := q0 (hi); (try clear hb); (try clear hb2); (try clear hk); (try clear hi); have hcz18_0 : w17.cell? ⟨gb112, 0, none⟩ = some (.int .i64 t100) := (blk_cell BK112.out 0).trans rfl; have hcz18_1 : w17.cell? ⟨gb112, 1, none⟩ = some (.slice Ao16 t104.length co16) := (blk_cell BK112.out 1).trans rfl; have hfz18_0 := blk_frozen BK112.out 0; have hfz18_1 := blk_frozen BK112.out 1) | ((with_reducible refine gate_callee (f := 102) rfl ?_); refine gl 15 Try.func102 #[.pointer (some ⟨g, 0, none⟩), .agg #[.int .i64 t100, .slice Ao16 t104.length co16]] ?_; (with_reducible refine (spec_l71Knot.calls k g s0_0 t106 t100 _ _ t104 t102 t107 w0 _ ?side1 ?side2 ?side3 ?side4 A4.out).mono ?_); (case side1 => exact qi HI0.out); (case side2 => exact qj HB.out HI0.out); (case side3 => exact Kd.C_foot_own (IsSRd.apart (show IsSRd w0 _ g s0_0 t106 from qi HI0.out) (qr HO111.out) (by decide)) (fun _ h_ => h_.2)); (case side4 => exact (Kd.R_reads' HO111.out).2.1); rintro e w19 ⟨rfl, hi, hb, hk⟩; refine ⟨_, rfl, ?_⟩; replace BK109 := q0 (kc hk BK109.out NB109_0.out); replace HO111 := q0 (Kd.R_mono (Kd.R_keep (IsSRd.apart (show IsSRd w0 _ g s0_0 t106 from qi HI0.out) (qr HO111.out) (by decide)) hk (fun _ h => h.2)) (fun _ h => h.1)); replace BK112 := q0 (kc hk BK112.out NB112_0.out); replace HK := q0 (KeepBut.trans (qh HK.out) hk (.inl rfl)); replace HB := q0 (hb); replace HI0 := q0 (hi); (try clear hb); (try clear hb2); (try clear hk); (try clear hi); have hcz20_0 : w19.cell? ⟨gb112, 0, none⟩ = some (.int .i64 t100) := (blk_cell BK112.out 0).trans rfl; have hcz20_1 : w19.cell? ⟨gb112, 1, none⟩ = some (.slice Ao16 t104.length co16) := (blk_cell BK112.out 1).trans rfl; have hfz20_0 := blk_frozen BK112.out 0; have hfz20_1 := blk_frozen BK112.out 1) | (go_at_call 59; (with_reducible refine (spec_l6Rd_pick.calls k g s0_0 t107 8 t103 t108 w0 _ ?side1 ?side2 A7.out).mono ?_); (case side1 => exact qi HI0.out); (case side2 => exact qj HB.out HI0.out); rintro e w21 ⟨rfl, hi, hb, hk⟩; replace BK109 := q0 (kc hk BK109.out NB109_0.out); replace HO111 := q0 (Kd.R_mono (Kd.R_keep (IsSRd.apart (show IsSRd w0 _ g s0_0 t107 from qi HI0.out) (qr HO111.out) (by decide)) hk (fun _ h => h.2)) (fun _ h => h.1)); replace BK112 := q0 (kc hk BK112.out NB112_0.out); replace HK := q0 (KeepBut.trans (qh HK.out) hk (.inl rfl)); replace HB := q0 (hb); replace HI0 := q0 (hi); (try clear hb); (try clear hb2); (try clear hk); (try clear hi); have hcz22_0 : w21.cell? ⟨gb112, 0, none⟩ = some (.int .i64 t100) := (blk_cell BK112.out 0).trans rfl; have hcz22_1 : w21.cell? ⟨gb112, 1, none⟩ = some (.slice Ao16 t104.length co16) := (blk_cell BK112.out 1).trans rfl; have hfz22_0 := blk_frozen BK112.out 0; have hfz22_1 := blk_frozen BK112.out 1; have hnb23 := NB109_0.out; have hnc23 := NB0_109.out; have hcz24_0 : w21.cell? ⟨gb109, 0, none⟩ = some (.int .i64 0) := (blk_cell BK109.out 0).trans rfl; have hcz24_1 : w21.cell? ⟨gb109, 1, none⟩ = some (.slice none 0 0) := (blk_cell BK109.out 1).trans rfl; have hfz24_0 := blk_frozen BK109.out 0; have hfz24_1 := blk_frozen BK109.out 1))
 refine bodyPost_ret (results_ctt rfl _ _ gb109 25 #[.int .i64 t100, .slice Ao16 t104.length co16] (0, 0) _ rfl (by (with_reducible repeat (first | refine blk_drewN ?_ _ | refine blk_drew ?_ | refine blk_alloc ?_ _)); refine blk_put (cs := #[.int .i64 t100, .slice none 0 0]) ?_ 1 _ rfl; (with_reducible repeat (first | refine blk_drewN ?_ _ | refine blk_drew ?_ | refine blk_alloc ?_ _)); refine blk_put (cs := #[.int .i64 0, .slice none 0 0]) ?_ 0 _ rfl; (with_reducible repeat (first | refine blk_drewN ?_ _ | refine blk_drew ?_ | refine blk_alloc ?_ _)); exact BK109.out) Try.underlying25 rfl (by kernel_rfl)) rfl ?_
 exact ⟨_, qe, by (with_reducible repeat (first | apply Kd.R_alloc | apply Kd.R_drewN | apply Kd.R_drew)); exact rf2 HO111.out BK109.out (fun _ hk => trivial), qi HI0.out, qj HB.out HI0.out, by repeat (first | (with_reducible first | exact HK.out | apply KeepBut.set_ | apply keep_drewN | apply keep_drew | apply keep_alloc | refine keep_far ?_ GW109.out _ | refine keep_far ?_ GW112.out _) | exact HK.out)⟩

set_option maxHeartbeats 8000000 in
set_option maxRecDepth 100000 in
theorem laws_loNet.calls (k : Nat) (a0_0 : Int) (A0_1 : Option Addr) (c0_1 : Nat) (l0_1 : List (STie)) (a1_0 : Int) (A1_1 : Option Addr) (c1_1 : Nat) (l1_1 : List (STie)) (r : Bool) (w : World) (hr0_1 : Kd.C kTie w A0_1 l0_1.length l0_1) (hc0_1 : l0_1.length ≤ c0_1) (hr1_1 : Kd.C kTie w A1_1 l1_1.length l1_1) (hc1_1 : l1_1.length ≤ c1_1) (h : laws_loNet.f k a0_0 l0_1 a1_0 l1_1 = some r) :
    Calls Try.prog 34 #[.agg #[.int .i64 a0_0, .slice A0_1 l0_1.length c0_1], .agg #[.int .i64 a1_0, .slice A1_1 l1_1.length c1_1]] w fun e w' => e = .returned (.bool r) ∧ Below w.heap.size w w' := by
 have hu25 := Try.underlying25
 have HR0_1 := Aside0.mk hr0_1
 have HC0_1 := Aside0.mk hc0_1
 clear hr0_1 hc0_1
 have HR1_1 := Aside0.mk hr1_1
 have HC1_1 := Aside0.mk hc1_1
 clear hr1_1 hc1_1
 have HB := q0 (Below.refl w.heap.size w)
 have H : (if a0_0 = a1_0 then ((laws_loTies.f k l0_1 l1_1).bind fun t100 => (some t100)) else (some false)) = some r := h
 clear h
 by_cases c3 : a0_0 = a1_0
 rotate_left
 · rw [if_neg c3] at H
   have c3b0 : (a0_0 == a1_0) = false := beq_eq_false_iff_ne.mpr c3
   have c3b1 : (a0_0 != a1_0) = true := bne_iff_ne.mpr c3
   obtain rfl := Option.some.inj H
   go_enter Try.func34, Try.ntmps34
   go_wp2_with (first | ((with_reducible refine gate_dst (N := 2) rfl ?_); refine be 2 #[.int .i64 a0_0, .slice A0_1 l0_1.length c0_1] 25 ?_; intro gb101 hg w10 hbox hb; have BK101 := q0 (hbox); have GW101 := q0 ((bs HB.out hg : w.heap.size ≤ gb101)); have GE101 := q0 ((bs HB.out hg : w.heap.size ≤ gb101)); replace HB := q0 (below_step (qb HB.out) hb); clear hb hbox hg) | ((with_reducible refine gate_dst (N := 3) rfl ?_); refine be 3 #[.int .i64 a1_0, .slice A1_1 l1_1.length c1_1] 25 ?_; intro gb102 hg w11 hbox hb; have BK102 := q0 (hbox); have GW102 := q0 ((bs HB.out hg : w.heap.size ≤ gb102)); have GE102 := q0 ((bs HB.out hg : w.heap.size ≤ gb102)); replace HB := q0 (below_step (qb HB.out) hb); have NB101_102 := q0 ((bl BK101.out hg : gb101 ≠ gb102)); have NB102_101 := q0 ((bg BK101.out hg : gb102 ≠ gb101)); replace BK101 := q0 (kb BK101.out hb); clear hb hbox hg; have hnb12 := NB101_102.out; have hnc12 := NB102_101.out; have hcz13_0 : w11.cell? ⟨gb101, 0, none⟩ = some (.int .i64 a0_0) := (blk_cell BK101.out 0).trans rfl; have hcz13_1 : w11.cell? ⟨gb101, 1, none⟩ = some (.slice A0_1 l0_1.length c0_1) := (blk_cell BK101.out 1).trans rfl; have hfz13_0 := blk_frozen BK101.out 0; have hfz13_1 := blk_frozen BK101.out 1; have hcz14_0 : w11.cell? ⟨gb102, 0, none⟩ = some (.int .i64 a1_0) := (blk_cell BK102.out 0).trans rfl; have hcz14_1 : w11.cell? ⟨gb102, 1, none⟩ = some (.slice A1_1 l1_1.length c1_1) := (blk_cell BK102.out 1).trans rfl; have hfz14_0 := blk_frozen BK102.out 0; have hfz14_1 := blk_frozen BK102.out 1))
   go_ret
   exact ⟨qe, qb HB.out⟩
 rw [if_pos c3] at H
 have c3b0 : (a0_0 == a1_0) = true := beq_iff_eq.mpr c3
 have c3b1 : (a0_0 != a1_0) = false := bne_eq_false_iff_eq.mpr c3
 clear c3
 replace H := Option.bind_eq_some_iff.mp H
 obtain ⟨t100, A40, H⟩ := H
 have A4 := Aside0.mk A40
 clear A40
 obtain rfl := Option.some.inj H
 go_enter Try.func34, Try.ntmps34
 go_wp2_with (first | ((with_reducible refine gate_dst (N := 2) rfl ?_); refine be 2 #[.int .i64 a0_0, .slice A0_1 l0_1.length c0_1] 25 ?_; intro gb101 hg w5 hbox hb; have BK101 := q0 (hbox); have GW101 := q0 ((bs HB.out hg : w.heap.size ≤ gb101)); have GE101 := q0 ((bs HB.out hg : w.heap.size ≤ gb101)); replace HB := q0 (below_step (qb HB.out) hb); clear hb hbox hg) | ((with_reducible refine gate_dst (N := 3) rfl ?_); refine be 3 #[.int .i64 a1_0, .slice A1_1 l1_1.length c1_1] 25 ?_; intro gb102 hg w6 hbox hb; have BK102 := q0 (hbox); have GW102 := q0 ((bs HB.out hg : w.heap.size ≤ gb102)); have GE102 := q0 ((bs HB.out hg : w.heap.size ≤ gb102)); replace HB := q0 (below_step (qb HB.out) hb); have NB101_102 := q0 ((bl BK101.out hg : gb101 ≠ gb102)); have NB102_101 := q0 ((bg BK101.out hg : gb102 ≠ gb101)); replace BK101 := q0 (kb BK101.out hb); clear hb hbox hg; have hnb7 := NB101_102.out; have hnc7 := NB102_101.out; have hcz8_0 : w6.cell? ⟨gb101, 0, none⟩ = some (.int .i64 a0_0) := (blk_cell BK101.out 0).trans rfl; have hcz8_1 : w6.cell? ⟨gb101, 1, none⟩ = some (.slice A0_1 l0_1.length c0_1) := (blk_cell BK101.out 1).trans rfl; have hfz8_0 := blk_frozen BK101.out 0; have hfz8_1 := blk_frozen BK101.out 1; have hcz9_0 : w6.cell? ⟨gb102, 0, none⟩ = some (.int .i64 a1_0) := (blk_cell BK102.out 0).trans rfl; have hcz9_1 : w6.cell? ⟨gb102, 1, none⟩ = some (.slice A1_1 l1_1.length c1_1) := (blk_cell BK102.out 1).trans rfl; have hfz9_0 := blk_frozen BK102.out 0; have hfz9_1 := blk_frozen BK102.out 1) | (go_at_call 16; (with_reducible refine (laws_loTies.calls k _ _ l0_1 _ _ l1_1 t100 _ ?side1 ?side2 ?side3 ?side4 A4.out).mono ?_); (case side1 => exact qc (Kd.C_below HR0_1.out HB.out)); (case side2 => exact HC0_1.out); (case side3 => exact qc (Kd.C_below HR1_1.out HB.out)); (case side4 => exact HC1_1.out); rintro e w' ⟨rfl, ⟨nd, rfl⟩⟩))
 go_ret
 exact ⟨qe, qb HB.out⟩

end Go.Proofs.Ytgoembpmhlmafaa.P
