import Derived.Test.YthaihdfkjhammaaP0
import Derived.Test.YthaihdfkjhammaaP1
import Derived.Test.YthaihdfkjhammaaP13
import Derived.Test.YthaihdfkjhammaaP15
namespace Go.Proofs.Ythaihdfkjhammaa.P
open Go.RowKit Go.Proofs.YthaihdfkjhammaaW.PrintWords Go.Proofs.YthaihdfkjhammaaW.PrintLast Go.Proofs.YthaihdfkjhammaaW.PrintMore
attribute [local go_sem] max2_int min2_int max_two min_two max_three min_three max_four min_four
set_option linter.unusedVariables false
set_option linter.unusedSimpArgs false
attribute [local go_sem high] eqATie
set_option maxHeartbeats 8000000 in
set_option maxRecDepth 100000 in
theorem spec_DrawNetWithout.calls (k : Nat) (A0 : Option Addr) (c0 : Nat) (l0 : List Int) (r1 : Int) (r2 : List (STie)) (r3 : Int) (w : World) (hr0 : Kd.C (Kd.int .u8) w A0 l0.length l0) (hc0 : l0.length ≤ c0) (h : spec_DrawNetWithout.f k l0 = some (r1, r2, r3)) :
    Calls Try.prog 34 #[.slice A0 l0.length c0] w fun e w' => ∃ v1_ : Value, e = .returned (.tuple #[.agg #[.int .i64 r1, v1_], .int .i64 r3]) ∧ Kd.R kTie 54 w' w.heap.size (fun _ => True) v1_ r2 ∧ Below w.heap.size w w' := by
 have hu30 := Try.underlying30
 have HR0 := Aside0.mk hr0
 have HC0 := Aside0.mk hc0
 clear hr0 hc0
 have HB := q0 (Below.refl w.heap.size w)
 have H : ((spec_l6Open.f l0).bind fun bt100 => ((spec_l71Any.f k bt100.1 bt100.2).bind fun bt101 => ((spec_l71Knot.f k bt100.1 bt101.2.2 bt101.1 bt101.2.1).bind fun bt102 => (some (bt101.1, bt101.2.1, bt102.1))))) = some (r1, r2, r3) := h
 clear h
 replace H := Option.bind_eq_some_iff.mp H
 obtain ⟨⟨t100, t103⟩, A20, H⟩ := H
 replace H : ((spec_l71Any.f k t100 t103).bind fun bt101 => ((spec_l71Knot.f k t100 bt101.2.2 bt101.1 bt101.2.1).bind fun bt102 => (some (bt101.1, bt101.2.1, bt102.1)))) = some (r1, r2, r3) := H
 have A2 := Aside0.mk A20
 clear A20
 replace H := Option.bind_eq_some_iff.mp H
 obtain ⟨⟨t101, t104, t105⟩, A30, H⟩ := H
 replace H : ((spec_l71Knot.f k t100 t105 t101 t104).bind fun bt102 => (some (t101, t104, bt102.1))) = some (r1, r2, r3) := H
 have A3 := Aside0.mk A30
 clear A30
 replace H := Option.bind_eq_some_iff.mp H
 obtain ⟨⟨t102, t106⟩, A40, H⟩ := H
 replace H : (some (t101, t104, t102)) = some (r1, r2, r3) := H
 have A4 := Aside0.mk A40
 clear A40
 simp only [Option.some.injEq, Prod.mk.injEq] at H
 obtain ⟨rfl, rfl, rfl⟩ := H
 go_enter Try.func34, Try.ntmps34
 try go_wp2_with (first | ((with_reducible refine gate_dst (N := 2) rfl ?_); refine be 2 #[.int .i64 0, .slice none 0 0] 30 ?_; intro gb107 hg w5 hbox hb; have n0_ := q0 (below_step (qb HB.out) hb); have n1_ := q0 (hbox); have n2_ := q0 ((bs HB.out hg : w.heap.size ≤ gb107)); have n3_ := q0 ((bs HB.out hg : w.heap.size ≤ gb107)); clear HB; have HB := n0_; have BK107 := n1_; have GW107 := n2_; have GE107 := n3_; clear n0_ n1_ n2_ n3_ hb hbox hg) | ((with_reducible refine gate_callee (f := 64) rfl ?_); refine goesL_ (some 7) rfl rfl Try.func64 (by kernel_rfl) rfl #[.slice A0 l0.length c0] rfl qm ?_; (with_reducible refine (spec_l6Open.calls _ _ l0 t100 t103 w _ ?side1 ?side2 ?side3 A2.out).mono ?_); (case side1 => exact qb HB.out); (case side2 => exact HR0.out); (case side3 => exact HC0.out); rintro e w6 ⟨g108, rfl, hi, hb, hb2⟩; refine ⟨_, rfl, ?_⟩; have n0_ := q0 (kb BK107.out hb2); have n1_ := q0 (hb); have n2_ := q0 (hi); have n3_ := q0 (IsSRd.ne_blk hi (kb BK107.out hb2) (by decide)); have n4_ := q0 (Ne.symm (IsSRd.ne_blk hi (kb BK107.out hb2) (by decide))); clear BK107 HB; have BK107 := n0_; have HB := n1_; have HI108 := n2_; have NB108_107 := n3_; have NB107_108 := n4_; clear n0_ n1_ n2_ n3_ n4_; (try clear hb); (try clear hb2); (try clear hk); (try clear hi)) | ((with_reducible refine gate_callee (f := 67) rfl ?_); refine goesL_ (some 9) rfl rfl Try.func67 (by kernel_rfl) rfl #[.pointer (some ⟨g108, 0, none⟩)] rfl qm ?_; (with_reducible refine (spec_l71Any.calls k g108 t100 t103 t101 t104 t105 w _ ?side1 ?side2 A3.out).mono ?_); (case side1 => repeat (first | (with_reducible first | exact HI108.out | apply IsSRd.alloc | apply IsSRd.drewN | apply IsSRd.drew | apply IsSRd.set_1 | refine IsSRd.far ?_ NB108_107.out _) | exact HI108.out)); (case side2 => repeat (first | (with_reducible first | exact HB.out | apply below_alloc | apply pw_below_drewN | apply below_drew1 | refine below_set ?_ (IsSRd.ge HI108.out) | refine below_set ?_ GE107.out) | exact HB.out)); rintro e w7 ⟨v109, rfl, ho0, hi, hb, hk⟩; refine ⟨_, rfl, ?_⟩; have n0_ := q0 (KeepBut.blk hk (g' := gb107) (o := .cells #[.int .i64 0, .slice none 0 0] 30 (0, 0)) (qk BK107.out) NB107_108.out (by simp)); have n1_ := q0 (Kd.R_lower ho0 (below_size (qj HB.out HI108.out))); have n2_ := q0 (hb); have n3_ := q0 (hi); clear BK107 HB HI108; have BK107 := n0_; have HO110 := n1_; have HB := n2_; have HI108 := n3_; clear n0_ n1_ n2_ n3_; (try clear hb); (try clear hb2); (try clear hk); (try clear hi); (try clear ho0)) | ((with_reducible refine gate_dst (N := 5) rfl ?_); refine be 5 #[.int .i64 0, .slice none 0 0] 30 ?_; intro gb111 hg w8 hbox hb; have n0_ := q0 (Kd.R_below (qr HO110.out) hb); have n1_ := q0 (kb BK107.out hb); have n2_ := q0 (IsSRd.below (qi HI108.out) hb); have n3_ := q0 (below_step (qj HB.out HI108.out) hb); have n4_ := q0 (hbox); have n5_ := q0 ((by rw [hg]; exact (below_size (qj HB.out HI108.out)) : w.heap.size ≤ gb111)); have n6_ := q0 ((by rw [hg]; exact (below_size (qj HB.out HI108.out)) : w.heap.size ≤ gb111)); have n7_ := q0 ((bl BK107.out hg : gb107 ≠ gb111)); have n8_ := q0 ((bg BK107.out hg : gb111 ≠ gb107)); have n9_ := q0 ((by rw [hg]; exact Nat.ne_of_lt (IsSRd.lt (show IsSRd w _ g108 t100 t105 from qi HI108.out)) : g108 ≠ gb111)); have n10_ := q0 ((by rw [hg]; exact Nat.ne_of_gt (IsSRd.lt (show IsSRd w _ g108 t100 t105 from qi HI108.out)) : gb111 ≠ g108)); clear HO110 BK107 HI108 HB; have HO110 := n0_; have BK107 := n1_; have HI108 := n2_; have HB := n3_; have BK111 := n4_; have GW111 := n5_; have GE111 := n6_; have NB107_111 := n7_; have NB111_107 := n8_; have NB108_111 := n9_; have NB111_108 := n10_; clear n0_ n1_ n2_ n3_ n4_ n5_ n6_ n7_ n8_ n9_ n10_ hb hbox hg; have hnb9 := NB111_107.out; have hnc9 := NB107_111.out; have hnb10 := NB111_108.out; have hnc10 := NB108_111.out; have hcz11_0 : w8.cell? ⟨gb111, 0, none⟩ = some (.int .i64 0) := (blk_cell BK111.out 0).trans rfl; have hcz11_1 : w8.cell? ⟨gb111, 1, none⟩ = some (.slice none 0 0) := (blk_cell BK111.out 1).trans rfl; have hfz11_0 := blk_frozen BK111.out 0; have hfz11_1 := blk_frozen BK111.out 1; obtain ⟨Ao12, co12, eo12⟩ := Kd.R_slice HO110.out; subst eo12))
 have n0_ : Aside0 (Kd.R kTie 54 ((w8.setCell ⟨gb111, 0, none⟩ (.int .i64 t101)).setCell ⟨gb111, 1, none⟩ (.slice Ao12 t104.length co12)) w.heap.size (fun _ => True) (.slice Ao12 t104.length co12) t104) := ⟨by (with_reducible repeat (first | apply Kd.R_alloc | apply Kd.R_drewN | apply Kd.R_drew)); exact Kd.R_mono (Kd.R_far (p := ⟨gb111, 1, none⟩) (Kd.R_far (p := ⟨gb111, 0, none⟩) (Kd.R_types HO110.out BK111.out (by decide)) (fun _ hk => hk.2) (.int .i64 t101)) (fun _ hk => hk.2) (.slice Ao12 t104.length co12)) (fun _ hk => trivial)⟩
 have n1_ : Aside0 (((w8.setCell ⟨gb111, 0, none⟩ (.int .i64 t101)).setCell ⟨gb111, 1, none⟩ (.slice Ao12 t104.length co12)).heap[gb107]? = some (.cells #[.int .i64 0, .slice none 0 0] 30 (0, 0))) := ⟨qf BK107.out⟩
 have n2_ : Aside0 (((w8.setCell ⟨gb111, 0, none⟩ (.int .i64 t101)).setCell ⟨gb111, 1, none⟩ (.slice Ao12 t104.length co12)).heap[gb111]? = some (.cells #[.int .i64 t101, .slice Ao12 t104.length co12] 30 (0, 0))) := ⟨by (with_reducible repeat (first | refine blk_drewN ?_ _ | refine blk_drew ?_ | refine blk_alloc ?_ _)); refine blk_put (cs := #[.int .i64 t101, .slice none 0 0]) ?_ 1 _ rfl; (with_reducible repeat (first | refine blk_drewN ?_ _ | refine blk_drew ?_ | refine blk_alloc ?_ _)); refine blk_put (cs := #[.int .i64 0, .slice none 0 0]) ?_ 0 _ rfl; (with_reducible repeat (first | refine blk_drewN ?_ _ | refine blk_drew ?_ | refine blk_alloc ?_ _)); exact BK111.out⟩
 have n3_ : Aside0 (IsSRd w ((w8.setCell ⟨gb111, 0, none⟩ (.int .i64 t101)).setCell ⟨gb111, 1, none⟩ (.slice Ao12 t104.length co12)) g108 t100 t105) := ⟨qi HI108.out⟩
 have n4_ : Aside0 (Below w.heap.size w ((w8.setCell ⟨gb111, 0, none⟩ (.int .i64 t101)).setCell ⟨gb111, 1, none⟩ (.slice Ao12 t104.length co12))) := ⟨qj HB.out HI108.out⟩
 (try clear HO110)
 (try clear BK107)
 (try clear BK111)
 (try clear HI108)
 (try clear HB)
 generalize ((w8.setCell ⟨gb111, 0, none⟩ (.int .i64 t101)).setCell ⟨gb111, 1, none⟩ (.slice Ao12 t104.length co12)) = w13 at n0_ n1_ n2_ n3_ n4_ ⊢
 have HO110 := n0_
 have BK107 := n1_
 have BK111 := n2_
 have HI108 := n3_
 have HB := n4_
 clear n0_ n1_ n2_ n3_ n4_
 have n0_ := q0 (Kd.R_drew HO110.out)
 have n1_ := q0 (blk_drew BK107.out)
 have n2_ := q0 (blk_drew BK111.out)
 have n3_ := q0 (IsSRd.drew HI108.out)
 have n4_ := q0 (below_drew1 HB.out)
 clear HO110
 clear BK107
 clear BK111
 clear HI108
 clear HB
 have HO110 := n0_
 have BK107 := n1_
 have BK111 := n2_
 have HI108 := n3_
 have HB := n4_
 clear n0_ n1_ n2_ n3_ n4_
 refine start_ (n := 6) (S := fun w' => w'.cell? ⟨gb111, 0, none⟩ = some (.int .i64 t101) ∧ w'.cell? ⟨gb111, 1, none⟩ = some (.slice Ao12 t104.length co12)) (ds := []) (ba 6 0) (by kernel_rfl) rfl (by kernel_rfl) ⟨(blk_cell BK111.out 0).trans rfl, (blk_cell BK111.out 1).trans rfl⟩ (fun hHeld => ?_)
 generalize w13.drew = w14 at HO110 BK107 BK111 HI108 HB hHeld ⊢
 refine pw 1 (some 11) (ba 6 2) ?_
 refine tw 0 (some 10) (ba 6 3) hHeld ?_
 refine tw 2 (some 12) (ba 6 7) hHeld ?_
 refine one_ (i := 3) (N := some 13) (ba 6 15) rfl rfl (by kernel_rfl) (by decide) (fun K hK => ?_)
 refine goes_ Try.func68 (by kernel_rfl) rfl #[.pointer (some ⟨g108, 0, none⟩), .agg #[.int .i64 t101, .slice Ao12 t104.length co12]] (by rfl) rfl rfl qm ?_
 with_reducible refine (spec_l71Knot.calls k g108 t100 t105 t101 _ _ t104 t102 t106 w _ ?side1 ?side2 ?side3 ?side4 A4.out).mono ?_
 (case side1 => repeat (first | (with_reducible first | exact HI108.out | apply IsSRd.alloc | apply IsSRd.drewN | apply IsSRd.drew | apply IsSRd.set_1 | refine IsSRd.far ?_ NB108_107.out _ | refine IsSRd.far ?_ NB108_111.out _) | exact HI108.out))
 (case side2 => repeat (first | (with_reducible first | exact HB.out | apply below_alloc | apply pw_below_drewN | apply below_drew1 | refine below_set ?_ (IsSRd.ge HI108.out) | refine below_set ?_ GE107.out | refine below_set ?_ GE111.out) | exact HB.out))
 (case side3 => exact Kd.C_foot_own (IsSRd.apart (show IsSRd w _ g108 t100 t105 from qi HI108.out) (qr HO110.out) (by decide)) (fun _ h_ => h_.2))
 (case side4 => exact (Kd.R_reads' HO110.out).2.1)
 rintro e w15 ⟨rfl, hi, hb, hk⟩
 refine ⟨_, rfl, ?_⟩
 have n0_ := q0 (KeepBut.blk hk (g' := gb107) (o := .cells #[.int .i64 0, .slice none 0 0] 30 (0, 0)) (qk BK107.out) NB107_108.out (by simp))
 have n1_ := q0 (Kd.R_mono (Kd.R_keep (IsSRd.apart (show IsSRd w _ g108 t100 t105 from qi HI108.out) (qr HO110.out) (by decide)) hk (fun _ h => h.2)) (fun _ h => h.1))
 have n2_ := q0 (KeepBut.blk hk (g' := gb111) (o := .cells #[.int .i64 t101, .slice Ao12 t104.length co12] 30 (0, 0)) (qk BK111.out) NB111_108.out (by simp))
 have n3_ := q0 (hb)
 have n4_ := q0 (hi)
 clear BK107
 clear HO110
 clear BK111
 clear HB
 clear HI108
 have BK107 := n0_
 have HO110 := n1_
 have BK111 := n2_
 have HB := n3_
 have HI108 := n4_
 clear n0_ n1_ n2_ n3_ n4_
 (try clear hb)
 (try clear hb2)
 (try clear hk)
 (try clear hi)
 refine hK.out _ _ ⟨(blk_cell BK111.out 0).trans rfl, (blk_cell BK111.out 1).trans rfl⟩ (fun hHeld => ?_)
 clear hK K
 refine nu 13 ?_
 refine one_ (i := 4) (N := none) (ba 6 31) rfl rfl (by kernel_rfl) (by decide) (fun K hK => ?_)
 have hs16 : w15.cell? ⟨gb107, 0, none⟩ = some (.int .i64 0) := (blk_cell BK107.out 0).trans rfl
 have hfs16 := blk_frozen BK107.out 0
 have hns16_1 := NB111_107.out
 have hms16_1 := NB107_111.out
 have hs17 : w15.cell? ⟨gb107, 1, none⟩ = some (.slice none 0 0) := (blk_cell BK107.out 1).trans rfl
 have hfs17 := blk_frozen BK107.out 1
 have hns17_1 := NB111_107.out
 have hms17_1 := NB107_111.out
 refine skip_ (w1 := ?_) (by rfl) rfl ?_ ?_
 rotate_left
 · go_simp
   rfl
 refine hK.out _ _ ⟨((cell_far (p := ⟨gb107, _, none⟩) NB111_107.out _).trans (((cell_far (p := ⟨gb107, _, none⟩) NB111_107.out _).trans (hHeld.1)))), ((cell_far (p := ⟨gb107, _, none⟩) NB111_107.out _).trans (((cell_far (p := ⟨gb107, _, none⟩) NB111_107.out _).trans (hHeld.2))))⟩ (fun hHeld => ?_)
 clear hK K
 refine pw 5 (some 3) (ba 6 63) ?_
 refine done_ (by kernel_rfl) ?_
 try go_wp2
 refine bodyPost_ret (results_ct rfl _ _ gb107 30 #[.int .i64 t101, .slice Ao12 t104.length co12] (0, 0) _ rfl (by (with_reducible repeat (first | refine blk_drewN ?_ _ | refine blk_drew ?_ | refine blk_alloc ?_ _)); refine blk_put (cs := #[.int .i64 t101, .slice none 0 0]) ?_ 1 _ rfl; (with_reducible repeat (first | refine blk_drewN ?_ _ | refine blk_drew ?_ | refine blk_alloc ?_ _)); refine blk_put (cs := #[.int .i64 0, .slice none 0 0]) ?_ 0 _ rfl; (with_reducible repeat (first | refine blk_drewN ?_ _ | refine blk_drew ?_ | refine blk_alloc ?_ _)); exact BK107.out) Try.underlying30 rfl (by kernel_rfl)) rfl ?_
 exact ⟨_, qe, by (with_reducible repeat (first | apply Kd.R_alloc | apply Kd.R_drewN | apply Kd.R_drew)); exact Kd.R_mono (Kd.R_far (p := ⟨gb107, 1, none⟩) (Kd.R_far (p := ⟨gb107, 0, none⟩) (Kd.R_types HO110.out BK107.out (by decide)) (fun _ hk => hk.2) (.int .i64 t101)) (fun _ hk => hk.2) (.slice Ao12 t104.length co12)) (fun _ hk => trivial), qj HB.out HI108.out⟩

attribute [local go_sem high] eqATie
set_option maxHeartbeats 8000000 in
set_option maxRecDepth 100000 in
theorem laws_loTies.calls (k : Nat) (A0 : Option Addr) (c0 : Nat) (l0 : List (STie)) (A1 : Option Addr) (c1 : Nat) (l1 : List (STie)) (r : Bool) (w : World) (hr0 : Kd.C kTie w A0 l0.length l0) (hc0 : l0.length ≤ c0) (hr1 : Kd.C kTie w A1 l1.length l1) (hc1 : l1.length ≤ c1) (h : laws_loTies.f k l0 l1 = some r) :
    Calls Try.prog 69 #[.slice A0 l0.length c0, .slice A1 l1.length c1] w fun e w' => e = .returned (.bool r) ∧ Drawn0 w w' := by
 have hu54 := Try.underlying54
 have HR0 := Aside0.mk hr0
 have HC0 := Aside0.mk hc0
 clear hr0 hc0
 have HR1 := Aside0.mk hr1
 have HC1 := Aside0.mk hc1
 clear hr1 hc1
 have H : (if (l0.length : Int) = (l1.length : Int) then (laws_loTies.l0 k l0 l1 0) else (some false)) = some r := h
 clear h
 by_cases c3 : (l0.length : Int) = (l1.length : Int)
 rotate_left
 · rw [if_neg c3] at H
   have c3b0 : ((l0.length : Int) == (l1.length : Int)) = false := beq_eq_false_iff_ne.mpr c3
   have c3b1 : ((l0.length : Int) != (l1.length : Int)) = true := bne_iff_ne.mpr c3
   have c3b2 : (l0.length == l1.length) = false := by first | simpa using c3 | (simp at c3 ⊢; omega)
   obtain rfl := Option.some.inj H
   go_enter Try.func69, Try.ntmps69
   go_wp2
   repeat (go_quiet (fail); try go_wp2)
   go_ret
   exact ⟨by first | rfl | (simp; done) | (simp [*]; done), by repeat (first | exact Drawn0.refl _ | apply Drawn0.step)⟩
 rw [if_pos c3] at H
 have c3b0 : ((l0.length : Int) == (l1.length : Int)) = true := beq_iff_eq.mpr c3
 have c3b1 : ((l0.length : Int) != (l1.length : Int)) = false := bne_eq_false_iff_eq.mpr c3
 have c3b2 : (l0.length == l1.length) = true := by first | simpa using c3 | (simp at c3 ⊢; omega)
 clear c3
 have H' := Aside0.mk H
 clear H
 go_enter Try.func69, Try.ntmps69
 go_wp2
 repeat (go_quiet (fail); try go_wp2)
 go_loopg [5] k (fun kq v5 w' => ∃ (x5_1 : Int), v5 = .int .i64 x5_1 ∧ Aside0 (laws_loTies.l0 kq l0 l1 x5_1 = some r) ∧ Aside0 (kq ≤ k) ∧ Drawn0 w w')
 case atStart => exact ⟨(0), qs, H', ⟨Nat.le_refl _⟩, by repeat (first | exact Drawn0.refl _ | apply Drawn0.step)⟩
 clear H'
 try clear c1
 try clear p2
 try clear c3
 try clear c3b0
 try clear c3b1
 try clear c3b2
 obtain ⟨x5_1, rfl, HA, HK1, ⟨m1, rfl⟩⟩ := hrel
 rcases gk with _ | k1
 · exact absurd HA.out (by simp [laws_loTies.l0])
 have H := HA.out
 clear HA
 simp only [laws_loTies.l0] at H
 by_cases c4 : x5_1 < (l0.length : Int)
 rotate_left
 · rw [if_neg c4] at H
   have c4b0 : decide (x5_1 < (l0.length : Int)) = false := decide_eq_false c4
   clear c4
   obtain rfl := Option.some.inj H
   go_wp2
   repeat (go_quiet (fail); try go_wp2)
   go_ret
   exact ⟨by first | rfl | (simp; done) | (simp [*]; done), by repeat (first | exact Drawn0.refl _ | apply Drawn0.step)⟩
 rw [if_pos c4] at H
 have c4b0 : decide (x5_1 < (l0.length : Int)) = true := decide_eq_true c4
 clear c4
 by_cases c5 : 0 ≤ x5_1
 rotate_left
 · rw [if_neg c5] at H
   exact absurd H (by simp)
 rw [if_pos c5] at H
 have c5b0 : decide (0 ≤ x5_1) = true := decide_eq_true c5
 clear c5
 by_cases c6 : x5_1 < (l1.length : Int)
 rotate_left
 · rw [if_neg c6] at H
   exact absurd H (by simp)
 rw [if_pos c6] at H
 have c6b0 : decide (x5_1 < (l1.length : Int)) = true := decide_eq_true c6
 clear c6
 by_cases c7 : (!(((rd_TTie l0 x5_1).f0) == ((rd_TTie l1 x5_1).f0)) || (!(((rd_TTie l0 x5_1).f1) == ((rd_TTie l1 x5_1).f1)))) = true
 · rw [if_pos c7] at H
   have c7b0 : (!(((rd_TTie l0 x5_1).f0) == ((rd_TTie l1 x5_1).f0)) || (!(((rd_TTie l0 x5_1).f1) == ((rd_TTie l1 x5_1).f1)))) = true := c7
   clear c7
   obtain rfl := Option.some.inj H
   have p100 : 0 ≤ (x5_1 : Int) := of_decide_eq_true qa
   have q100 : x5_1 < (l0.length : Int) := of_decide_eq_true qa
   obtain ⟨ad100, e100, hx100_0, hx100_1⟩ := at_TTie HR0.out x5_1 p100 q100
   cases e100
   replace p100 := eq_true p100
   replace q100 := eq_true q100
   have p101 : 0 ≤ (x5_1 : Int) := of_decide_eq_true qa
   have q101 : x5_1 < (l1.length : Int) := of_decide_eq_true qa
   obtain ⟨ad101, e101, hx101_0, hx101_1⟩ := at_TTie HR1.out x5_1 p101 q101
   cases e101
   replace p101 := eq_true p101
   replace q101 := eq_true q101
   go_wp2
   repeat (go_quiet (fail); try go_wp2)
   go_ret
   exact ⟨by first | rfl | (simp; done) | (simp [*]; done), by repeat (first | exact Drawn0.refl _ | apply Drawn0.step)⟩
 rw [if_neg c7] at H
 have c7b0 : (!(((rd_TTie l0 x5_1).f0) == ((rd_TTie l1 x5_1).f0)) || (!(((rd_TTie l0 x5_1).f1) == ((rd_TTie l1 x5_1).f1)))) = false := by simpa using c7
 clear c7
 have H' := Aside0.mk H
 clear H
 have p100 : 0 ≤ (x5_1 : Int) := of_decide_eq_true qa
 have q100 : x5_1 < (l0.length : Int) := of_decide_eq_true qa
 obtain ⟨ad100, e100, hx100_0, hx100_1⟩ := at_TTie HR0.out x5_1 p100 q100
 cases e100
 replace p100 := eq_true p100
 replace q100 := eq_true q100
 have p101 : 0 ≤ (x5_1 : Int) := of_decide_eq_true qa
 have q101 : x5_1 < (l1.length : Int) := of_decide_eq_true qa
 obtain ⟨ad101, e101, hx101_0, hx101_1⟩ := at_TTie HR1.out x5_1 p101 q101
 cases e101
 replace p101 := eq_true p101
 replace q101 := eq_true q101
 go_wp2
 repeat (go_quiet (fail); try go_wp2)
 go_roundg k1
 case measure => have := HK1.out; omega
 case rel => exact ⟨(wrap64 (x5_1 + 1)), qs, H', ⟨by have := HK1.out; omega⟩, by repeat (first | exact Drawn0.refl _ | apply Drawn0.step)⟩

set_option maxHeartbeats 8000000 in
set_option maxRecDepth 100000 in
theorem laws_loNet.calls (k : Nat) (a0_0 : Int) (A0_1 : Option Addr) (c0_1 : Nat) (l0_1 : List (STie)) (a1_0 : Int) (A1_1 : Option Addr) (c1_1 : Nat) (l1_1 : List (STie)) (r : Bool) (w : World) (hr0_1 : Kd.C kTie w A0_1 l0_1.length l0_1) (hc0_1 : l0_1.length ≤ c0_1) (hr1_1 : Kd.C kTie w A1_1 l1_1.length l1_1) (hc1_1 : l1_1.length ≤ c1_1) (h : laws_loNet.f k a0_0 l0_1 a1_0 l1_1 = some r) :
    Calls Try.prog 35 #[.agg #[.int .i64 a0_0, .slice A0_1 l0_1.length c0_1], .agg #[.int .i64 a1_0, .slice A1_1 l1_1.length c1_1]] w fun e w' => e = .returned (.bool r) ∧ Below w.heap.size w w' := by
 have hu30 := Try.underlying30
 have HR0_1 := Aside0.mk hr0_1
 have HC0_1 := Aside0.mk hc0_1
 clear hr0_1 hc0_1
 have HR1_1 := Aside0.mk hr1_1
 have HC1_1 := Aside0.mk hc1_1
 clear hr1_1 hc1_1
 have HB := q0 (Below.refl w.heap.size w)
 have H : (if a0_0 = a1_0 then ((laws_loTies.f k l0_1 l1_1).bind fun t100 => (some t100)) else (some false)) = some r := h
 clear h
 by_cases c3 : a0_0 = a1_0
 rotate_left
 · rw [if_neg c3] at H
   have c3b0 : (a0_0 == a1_0) = false := beq_eq_false_iff_ne.mpr c3
   have c3b1 : (a0_0 != a1_0) = true := bne_iff_ne.mpr c3
   obtain rfl := Option.some.inj H
   go_enter Try.func35, Try.ntmps35
   go_wp2_with (first | ((with_reducible refine gate_dst (N := 2) rfl ?_); refine be 2 #[.int .i64 a0_0, .slice A0_1 l0_1.length c0_1] 30 ?_; intro gb101 hg w10 hbox hb; have n0_ := q0 (below_step (qb HB.out) hb); have n1_ := q0 (hbox); have n2_ := q0 ((bs HB.out hg : w.heap.size ≤ gb101)); have n3_ := q0 ((bs HB.out hg : w.heap.size ≤ gb101)); clear HB; have HB := n0_; have BK101 := n1_; have GW101 := n2_; have GE101 := n3_; clear n0_ n1_ n2_ n3_ hb hbox hg) | ((with_reducible refine gate_dst (N := 3) rfl ?_); refine be 3 #[.int .i64 a1_0, .slice A1_1 l1_1.length c1_1] 30 ?_; intro gb102 hg w11 hbox hb; have n0_ := q0 (kb BK101.out hb); have n1_ := q0 (below_step (qb HB.out) hb); have n2_ := q0 (hbox); have n3_ := q0 ((bs HB.out hg : w.heap.size ≤ gb102)); have n4_ := q0 ((bs HB.out hg : w.heap.size ≤ gb102)); have n5_ := q0 ((bl BK101.out hg : gb101 ≠ gb102)); have n6_ := q0 ((bg BK101.out hg : gb102 ≠ gb101)); clear BK101 HB; have BK101 := n0_; have HB := n1_; have BK102 := n2_; have GW102 := n3_; have GE102 := n4_; have NB101_102 := n5_; have NB102_101 := n6_; clear n0_ n1_ n2_ n3_ n4_ n5_ n6_ hb hbox hg; have hnb12 := NB101_102.out; have hnc12 := NB102_101.out; have hcz13_0 : w11.cell? ⟨gb101, 0, none⟩ = some (.int .i64 a0_0) := (blk_cell BK101.out 0).trans rfl; have hcz13_1 : w11.cell? ⟨gb101, 1, none⟩ = some (.slice A0_1 l0_1.length c0_1) := (blk_cell BK101.out 1).trans rfl; have hfz13_0 := blk_frozen BK101.out 0; have hfz13_1 := blk_frozen BK101.out 1; have hcz14_0 : w11.cell? ⟨gb102, 0, none⟩ = some (.int .i64 a1_0) := (blk_cell BK102.out 0).trans rfl; have hcz14_1 : w11.cell? ⟨gb102, 1, none⟩ = some (.slice A1_1 l1_1.length c1_1) := (blk_cell BK102.out 1).trans rfl; have hfz14_0 := blk_frozen BK102.out 0; have hfz14_1 := blk_frozen BK102.out 1))
   go_ret
   exact ⟨qe, qb HB.out⟩
 rw [if_pos c3] at H
 have c3b0 : (a0_0 == a1_0) = true := beq_iff_eq.mpr c3
 have c3b1 : (a0_0 != a1_0) = false := bne_eq_false_iff_eq.mpr c3
 clear c3
 replace H := Option.bind_eq_some_iff.mp H
 obtain ⟨t100, A40, H⟩ := H
 replace H : (some t100) = some r := H
 have A4 := Aside0.mk A40
 clear A40
 obtain rfl := Option.some.inj H
 go_enter Try.func35, Try.ntmps35
 go_wp2_with (first | ((with_reducible refine gate_dst (N := 2) rfl ?_); refine be 2 #[.int .i64 a0_0, .slice A0_1 l0_1.length c0_1] 30 ?_; intro gb101 hg w5 hbox hb; have n0_ := q0 (below_step (qb HB.out) hb); have n1_ := q0 (hbox); have n2_ := q0 ((bs HB.out hg : w.heap.size ≤ gb101)); have n3_ := q0 ((bs HB.out hg : w.heap.size ≤ gb101)); clear HB; have HB := n0_; have BK101 := n1_; have GW101 := n2_; have GE101 := n3_; clear n0_ n1_ n2_ n3_ hb hbox hg) | ((with_reducible refine gate_dst (N := 3) rfl ?_); refine be 3 #[.int .i64 a1_0, .slice A1_1 l1_1.length c1_1] 30 ?_; intro gb102 hg w6 hbox hb; have n0_ := q0 (kb BK101.out hb); have n1_ := q0 (below_step (qb HB.out) hb); have n2_ := q0 (hbox); have n3_ := q0 ((bs HB.out hg : w.heap.size ≤ gb102)); have n4_ := q0 ((bs HB.out hg : w.heap.size ≤ gb102)); have n5_ := q0 ((bl BK101.out hg : gb101 ≠ gb102)); have n6_ := q0 ((bg BK101.out hg : gb102 ≠ gb101)); clear BK101 HB; have BK101 := n0_; have HB := n1_; have BK102 := n2_; have GW102 := n3_; have GE102 := n4_; have NB101_102 := n5_; have NB102_101 := n6_; clear n0_ n1_ n2_ n3_ n4_ n5_ n6_ hb hbox hg; have hnb7 := NB101_102.out; have hnc7 := NB102_101.out; have hcz8_0 : w6.cell? ⟨gb101, 0, none⟩ = some (.int .i64 a0_0) := (blk_cell BK101.out 0).trans rfl; have hcz8_1 : w6.cell? ⟨gb101, 1, none⟩ = some (.slice A0_1 l0_1.length c0_1) := (blk_cell BK101.out 1).trans rfl; have hfz8_0 := blk_frozen BK101.out 0; have hfz8_1 := blk_frozen BK101.out 1; have hcz9_0 : w6.cell? ⟨gb102, 0, none⟩ = some (.int .i64 a1_0) := (blk_cell BK102.out 0).trans rfl; have hcz9_1 : w6.cell? ⟨gb102, 1, none⟩ = some (.slice A1_1 l1_1.length c1_1) := (blk_cell BK102.out 1).trans rfl; have hfz9_0 := blk_frozen BK102.out 0; have hfz9_1 := blk_frozen BK102.out 1) | (go_at_call 69; (with_reducible refine (laws_loTies.calls k _ _ l0_1 _ _ l1_1 t100 _ ?side1 ?side2 ?side3 ?side4 A4.out).mono ?_); (case side1 => exact qc (Kd.C_below HR0_1.out HB.out)); (case side2 => exact HC0_1.out); (case side3 => exact qc (Kd.C_below HR1_1.out HB.out)); (case side4 => exact HC1_1.out); rintro e w' ⟨rfl, ⟨nd, rfl⟩⟩))
 go_ret
 exact ⟨qe, qb HB.out⟩

attribute [local go_sem high] eqATie
set_option maxHeartbeats 8000000 in
set_option maxRecDepth 100000 in
theorem laws_loHas.calls (k : Nat) (A0 : Option Addr) (c0 : Nat) (l0 : List (STie)) (a1_0 : Int) (a1_1 : Int) (r : Bool) (w : World) (hr0 : Kd.C kTie w A0 l0.length l0) (hc0 : l0.length ≤ c0) (h : laws_loHas.f k l0 a1_0 a1_1 = some r) :
    Calls Try.prog 36 #[.slice A0 l0.length c0, .agg #[.int .i64 a1_0, .int .i64 a1_1]] w fun e w' => e = .returned (.bool r) ∧ Below w.heap.size w w' := by
 have hu54 := Try.underlying54
 have HR0 := Aside0.mk hr0
 have HC0 := Aside0.mk hc0
 clear hr0 hc0
 have HB := q0 (Below.refl w.heap.size w)
 have H : (laws_loHas.l0 k l0 0 a1_0 a1_1) = some r := h
 clear h
 have H' := Aside0.mk H
 clear H
 go_enter Try.func36, Try.ntmps36
 go_wp2_with (first | ((with_reducible refine gate_dst (N := 3) rfl ?_); refine be 3 #[.int .i64 a1_0, .int .i64 a1_1] 54 ?_; intro gb101 hg w3 hbox hb; have n0_ := q0 (below_step (qb HB.out) hb); have n1_ := q0 (hbox); have n2_ := q0 ((bs HB.out hg : w.heap.size ≤ gb101)); have n3_ := q0 ((bs HB.out hg : w.heap.size ≤ gb101)); clear HB; have HB := n0_; have BK101 := n1_; have GW101 := n2_; have GE101 := n3_; clear n0_ n1_ n2_ n3_ hb hbox hg))
 repeat (go_quiet (first | ((with_reducible refine gate_dst (N := 3) rfl ?_); refine be 3 #[.int .i64 a1_0, .int .i64 a1_1] 54 ?_; intro gb101 hg w3 hbox hb; have n0_ := q0 (below_step (qb HB.out) hb); have n1_ := q0 (hbox); have n2_ := q0 ((bs HB.out hg : w.heap.size ≤ gb101)); have n3_ := q0 ((bs HB.out hg : w.heap.size ≤ gb101)); clear HB; have HB := n0_; have BK101 := n1_; have GW101 := n2_; have GE101 := n3_; clear n0_ n1_ n2_ n3_ hb hbox hg)); try go_wp2_with (first | ((with_reducible refine gate_dst (N := 3) rfl ?_); refine be 3 #[.int .i64 a1_0, .int .i64 a1_1] 54 ?_; intro gb101 hg w3 hbox hb; have n0_ := q0 (below_step (qb HB.out) hb); have n1_ := q0 (hbox); have n2_ := q0 ((bs HB.out hg : w.heap.size ≤ gb101)); have n3_ := q0 ((bs HB.out hg : w.heap.size ≤ gb101)); clear HB; have HB := n0_; have BK101 := n1_; have GW101 := n2_; have GE101 := n3_; clear n0_ n1_ n2_ n3_ hb hbox hg)))
 go_loopg [5] k (fun kq v5 w' => ∃ (x5_1 : Int), v5 = .int .i64 x5_1 ∧ Aside0 (laws_loHas.l0 kq l0 x5_1 a1_0 a1_1 = some r) ∧ Aside0 (kq ≤ k) ∧ Aside0 (w'.heap[gb101]? = some (.cells #[.int .i64 a1_0, .int .i64 a1_1] 54 (0, 0))) ∧ Aside0 (Below w.heap.size w w'))
 case atStart => exact ⟨(0), qs, H', ⟨Nat.le_refl _⟩, ⟨qk BK101.out⟩, ⟨qb HB.out⟩⟩
 clear H'
 try clear p2
 try clear c3
 obtain ⟨x5_1, rfl, HA, HK1, BK101, HB⟩ := hrel
 rcases gk with _ | k1
 · exact absurd HA.out (by simp [laws_loHas.l0])
 have H := HA.out
 clear HA
 simp only [laws_loHas.l0] at H
 by_cases c4 : x5_1 < (l0.length : Int)
 rotate_left
 · rw [if_neg c4] at H
   have c4b0 : decide (x5_1 < (l0.length : Int)) = false := decide_eq_false c4
   clear c4
   obtain rfl := Option.some.inj H
   go_wp2
   repeat (go_quiet (fail); try go_wp2)
   go_ret
   exact ⟨qe, qb HB.out⟩
 rw [if_pos c4] at H
 have c4b0 : decide (x5_1 < (l0.length : Int)) = true := decide_eq_true c4
 clear c4
 by_cases c5 : 0 ≤ x5_1
 rotate_left
 · rw [if_neg c5] at H
   exact absurd H (by simp)
 rw [if_pos c5] at H
 have c5b0 : decide (0 ≤ x5_1) = true := decide_eq_true c5
 clear c5
 by_cases c6 : (((rd_TTie l0 x5_1).f0) == a1_0 && (((rd_TTie l0 x5_1).f1) == a1_1)) = true
 · rw [if_pos c6] at H
   have c6b0 : (((rd_TTie l0 x5_1).f0) == a1_0 && (((rd_TTie l0 x5_1).f1) == a1_1)) = true := c6
   (try (have c6b1 : decide (((rd_TTie l0 x5_1).f0) = a1_0 && (((rd_TTie l0 x5_1).f1) == a1_1)) = true := by simpa using c6))
   (try (have c6b2 : (((rd_TTie l0 x5_1).f0) == a1_0 && (((rd_TTie l0 x5_1).f1) == a1_1)) = true := by simpa using c6))
   clear c6
   obtain rfl := Option.some.inj H
   have p100 : 0 ≤ (x5_1 : Int) := of_decide_eq_true qa
   have q100 : x5_1 < (l0.length : Int) := of_decide_eq_true qa
   obtain ⟨ad100, e100, hx100_0, hx100_1⟩ := at_TTie HR0.out x5_1 p100 q100
   cases e100
   replace hx100_0 := (HB.out.cell (World.block_lt_of_cell? w _ hx100_0)).trans hx100_0
   replace hx100_1 := (HB.out.cell (World.block_lt_of_cell? w _ hx100_1)).trans hx100_1
   replace p100 := eq_true p100
   replace q100 := eq_true q100
   have hcz7_0 : wr.cell? ⟨gb101, 0, none⟩ = some (.int .i64 a1_0) := (blk_cell BK101.out 0).trans rfl
   have hcz7_1 : wr.cell? ⟨gb101, 1, none⟩ = some (.int .i64 a1_1) := (blk_cell BK101.out 1).trans rfl
   have hfz7_0 := blk_frozen BK101.out 0
   have hfz7_1 := blk_frozen BK101.out 1
   go_wp2
   repeat (go_quiet (fail); try go_wp2)
   go_ret
   exact ⟨qe, qb HB.out⟩
 rw [if_neg c6] at H
 have c6b0 : (((rd_TTie l0 x5_1).f0) == a1_0 && (((rd_TTie l0 x5_1).f1) == a1_1)) = false := by simpa using c6
 (try (have c6b1 : decide (((rd_TTie l0 x5_1).f0) = a1_0 && (((rd_TTie l0 x5_1).f1) == a1_1)) = false := by simpa using c6))
 (try (have c6b2 : (((rd_TTie l0 x5_1).f0) == a1_0 && (((rd_TTie l0 x5_1).f1) == a1_1)) = false := by simpa using c6))
 (try (have c6b3 : ¬ (((rd_TTie l0 x5_1).f0) = a1_0 && (((rd_TTie l0 x5_1).f1) == a1_1)) := by simpa using c6))
 clear c6
 have H' := Aside0.mk H
 clear H
 have p100 : 0 ≤ (x5_1 : Int) := of_decide_eq_true qa
 have q100 : x5_1 < (l0.length : Int) := of_decide_eq_true qa
 obtain ⟨ad100, e100, hx100_0, hx100_1⟩ := at_TTie HR0.out x5_1 p100 q100
 cases e100
 replace hx100_0 := (HB.out.cell (World.block_lt_of_cell? w _ hx100_0)).trans hx100_0
 replace hx100_1 := (HB.out.cell (World.block_lt_of_cell? w _ hx100_1)).trans hx100_1
 replace p100 := eq_true p100
 replace q100 := eq_true q100
 have hcz8_0 : wr.cell? ⟨gb101, 0, none⟩ = some (.int .i64 a1_0) := (blk_cell BK101.out 0).trans rfl
 have hcz8_1 : wr.cell? ⟨gb101, 1, none⟩ = some (.int .i64 a1_1) := (blk_cell BK101.out 1).trans rfl
 have hfz8_0 := blk_frozen BK101.out 0
 have hfz8_1 := blk_frozen BK101.out 1
 go_wp2
 repeat (go_quiet (fail); try go_wp2)
 go_roundg k1
 case measure => have := HK1.out; omega
 case rel => exact ⟨(wrap64 (x5_1 + 1)), qs, H', ⟨by have := HK1.out; omega⟩, ⟨qk BK101.out⟩, ⟨qb HB.out⟩⟩

def laws_FnNetWithout.T5 : Bool × List (List Nat × List Nat) := (true, [([], []), ([], []), ([], []), ([1, 2], [1, 2]), ([0, 3, 3], [0, 3]), ([4], [4]), ([5, 4], [5]), ([6], [6]), ([7, 6], [6, 7]), ([8, 6], [6, 8]), ([6, 9], [6, 9])])
def laws_FnNetWithout.B5 : List Nat := [0, 0, 0, 6, 15, 31, 63, 127, 255, 511, 1023]
theorem laws_FnNetWithout.tab5 : rtab .any (opsOf Try.f11 5) = laws_FnNetWithout.T5 := by kernel_rfl
theorem laws_FnNetWithout.bits5 : waitsOk laws_FnNetWithout.T5.2 laws_FnNetWithout.B5 = true := by kernel_rfl
def laws_FnNetWithout.T11 : Bool × List (List Nat × List Nat) := (true, [([], []), ([0], [0]), ([], []), ([2], [2]), ([], []), ([3, 4], [3, 4]), ([5], [5]), ([1, 6], [1, 6]), ([], []), ([7, 8], [7, 8])])
def laws_FnNetWithout.B11 : List Nat := [0, 1, 0, 4, 0, 28, 60, 127, 0, 511]
theorem laws_FnNetWithout.tab11 : rtab .any (opsOf Try.f11 11) = laws_FnNetWithout.T11 := by kernel_rfl
theorem laws_FnNetWithout.bits11 : waitsOk laws_FnNetWithout.T11.2 laws_FnNetWithout.B11 = true := by kernel_rfl
set_option maxHeartbeats 8000000 in
set_option maxRecDepth 100000 in
theorem laws_FnNetWithout.calls (k : Nat) (A0 : Option Addr) (c0 : Nat) (l0 : List Int) (r : Bool) (w : World) (hr0 : Kd.C (Kd.int .u8) w A0 l0.length l0) (hc0 : l0.length ≤ c0) (h : laws_FnNetWithout.f k l0 = some r) :
    Calls Try.prog 11 #[.slice A0 l0.length c0] w fun e w' => e = .returned (.bool r) ∧ Below w.heap.size w w' := by
 have hu30 := Try.underlying30
 have hu54 := Try.underlying54
 have HR0 := Aside0.mk hr0
 have HC0 := Aside0.mk hc0
 clear hr0 hc0
 have HB := q0 (Below.refl w.heap.size w)
 have H : (if (l0.length : Int) > 1048576 then (some true) else ((spec_DrawNetWithout.f k l0).bind fun bt107 => ((impl_NetWithout.f k bt107.1 bt107.2.1 bt107.2.2).bind fun bt100 => ((spec_NetWithout.f k bt107.1 bt107.2.1 bt107.2.2).bind fun bt101 => ((laws_loNet.f k bt100.1 bt100.2 bt101.1 bt101.2).bind fun t108 => (if t108 = true then (laws_FnNetWithout.j0 k bt107.2.2 (bt100.1 == 0) bt107.1 bt107.2.1 bt100.1 bt100.2) else (laws_FnNetWithout.j0 k bt107.2.2 true bt107.1 bt107.2.1 bt100.1 bt100.2))))))) = some r := h
 clear h
 by_cases c2 : (l0.length : Int) > 1048576
 · rw [if_pos c2] at H
   have c2b0 : decide (1048576 < (l0.length : Int)) = true := decide_eq_true c2
   have c2b1 : decide (1048576 < l0.length) = true := decide_eq_true (by omega)
   clear c2
   obtain rfl := Option.some.inj H
   go_enter Try.func11, Try.ntmps11
   go_wp2
   go_ret
   exact ⟨qe, qb HB.out⟩
 rw [if_neg c2] at H
 have c2b0 : decide (1048576 < (l0.length : Int)) = false := decide_eq_false c2
 have c2b1 : decide (1048576 < l0.length) = false := decide_eq_false (by omega)
 clear c2
 replace H := Option.bind_eq_some_iff.mp H
 obtain ⟨⟨t107, t109, t110⟩, A30, H⟩ := H
 replace H : ((impl_NetWithout.f k t107 t109 t110).bind fun bt100 => ((spec_NetWithout.f k t107 t109 t110).bind fun bt101 => ((laws_loNet.f k bt100.1 bt100.2 bt101.1 bt101.2).bind fun t108 => (if t108 = true then (laws_FnNetWithout.j0 k t110 (bt100.1 == 0) t107 t109 bt100.1 bt100.2) else (laws_FnNetWithout.j0 k t110 true t107 t109 bt100.1 bt100.2))))) = some r := H
 have A3 := Aside0.mk A30
 clear A30
 replace H := Option.bind_eq_some_iff.mp H
 obtain ⟨⟨t100, t111⟩, A40, H⟩ := H
 replace H : ((spec_NetWithout.f k t107 t109 t110).bind fun bt101 => ((laws_loNet.f k t100 t111 bt101.1 bt101.2).bind fun t108 => (if t108 = true then (laws_FnNetWithout.j0 k t110 (t100 == 0) t107 t109 t100 t111) else (laws_FnNetWithout.j0 k t110 true t107 t109 t100 t111)))) = some r := H
 have A4 := Aside0.mk A40
 clear A40
 have HC5 := Aside0.mk H
 clear H
 go_enter Try.func11, Try.ntmps11
 go_upto_region 5 with (first | ((with_reducible refine gate_callee (f := 34) rfl ?_); refine goesL_ (some 13) rfl rfl Try.func34 (by kernel_rfl) rfl #[.slice A0 l0.length c0] rfl qm ?_; (with_reducible refine (spec_DrawNetWithout.calls k _ _ l0 t107 t109 t110 _ ?side1 ?side2 A3.out).mono ?_); (case side1 => repeat (first | exact HR0.out | (with_reducible refine Kd.C_alloc ?_ _) | (with_reducible refine Kd.C_drewN ?_ _) | (with_reducible refine Kd.C_drew ?_))); (case side2 => exact HC0.out); rintro e w6 ⟨v112, rfl, ho0, hb⟩; refine ⟨_, rfl, ?_⟩; have n0_ := q0 (Kd.R_lower ho0 (below_size (qb HB.out))); have n1_ := q0 (below_step (qb HB.out) hb); clear HB; have HO113 := n0_; have HB := n1_; clear n0_ n1_; (try clear hb); (try clear hb2); (try clear hk); (try clear hi); (try clear ho0)) | ((with_reducible refine gate_dst (N := 3) rfl ?_); (try (refine gate_guard (by rfl) ?_; dsimp only)); refine be 3 #[.int .i64 0, .slice none 0 0] 30 ?_; intro gb114 hg w7 hbox hb; have n0_ := q0 (Kd.R_below (qr HO113.out) hb); have n1_ := q0 (below_step (qb HB.out) hb); have n2_ := q0 (hbox); have n3_ := q0 ((bs HB.out hg : w.heap.size ≤ gb114)); have n4_ := q0 ((bs HB.out hg : w.heap.size ≤ gb114)); clear HO113 HB; have HO113 := n0_; have HB := n1_; have BK114 := n2_; have GW114 := n3_; have GE114 := n4_; clear n0_ n1_ n2_ n3_ n4_ hb hbox hg; have hcz8_0 : w7.cell? ⟨gb114, 0, none⟩ = some (.int .i64 0) := (blk_cell BK114.out 0).trans rfl; have hcz8_1 : w7.cell? ⟨gb114, 1, none⟩ = some (.slice none 0 0) := (blk_cell BK114.out 1).trans rfl; have hfz8_0 := blk_frozen BK114.out 0; have hfz8_1 := blk_frozen BK114.out 1; obtain ⟨Ao9, co9, eo9⟩ := Kd.R_slice HO113.out; subst eo9) | ((with_reducible refine gate_callee (f := 22) rfl ?_); refine goesL_ (some 18) rfl rfl Try.func22 (by kernel_rfl) rfl #[.agg #[.int .i64 t107, .slice Ao9 t109.length co9], .int .i64 t110] rfl qm ?_; (with_reducible refine (impl_NetWithout.calls k t107 _ _ t109 t110 t100 t111 _ ?side1 ?side2 A4.out).mono ?_); (case side1 => refine (Kd.R_reads' (e := 54) (base := w.heap.size) (ok := fun k_ => True) (n := t109.length) (c := co9) ?_).2.2; exact (by (with_reducible repeat (first | apply Kd.R_alloc | apply Kd.R_drewN | apply Kd.R_drew)); exact (Kd.R_mono (Kd.R_far (p := ⟨gb114, 1, none⟩) (Kd.R_far (p := ⟨gb114, 0, none⟩) (Kd.R_types HO113.out BK114.out (by decide)) (fun _ hk => hk.2) (.int .i64 t107)) (fun _ hk => hk.2) (.slice Ao9 t109.length co9)) (fun _ h_ => h_.1)))); (case side2 => exact (Kd.R_reads' HO113.out).2.1); rintro e w10 ⟨v115, rfl, ho0, hb⟩; refine ⟨_, rfl, ?_⟩; have n0_ := q0 (Kd.R_elder' (by (with_reducible repeat (first | apply Kd.R_alloc | apply Kd.R_drewN | apply Kd.R_drew)); exact (Kd.R_mono (Kd.R_far (p := ⟨gb114, 1, none⟩) (Kd.R_far (p := ⟨gb114, 0, none⟩) (Kd.R_types HO113.out BK114.out (by decide)) (fun _ hk => hk.2) (.int .i64 t107)) (fun _ hk => hk.2) (.slice Ao9 t109.length co9)) (fun _ h_ => h_.1))) (Kd.R_base ho0) hb); have n1_ := q0 (Kd.R_lower (Kd.R_new' ho0 (Kd.R_lt (by (with_reducible repeat (first | apply Kd.R_alloc | apply Kd.R_drewN | apply Kd.R_drew)); exact (Kd.R_mono (Kd.R_far (p := ⟨gb114, 1, none⟩) (Kd.R_far (p := ⟨gb114, 0, none⟩) (Kd.R_types HO113.out BK114.out (by decide)) (fun _ hk => hk.2) (.int .i64 t107)) (fun _ hk => hk.2) (.slice Ao9 t109.length co9)) (fun _ h_ => h_.1))))) (below_size (qb HB.out))); have n2_ := q0 (blk_below (g := gb114) (o := .cells #[.int .i64 t107, .slice Ao9 t109.length co9] 30 (0, 0)) (by (with_reducible repeat (first | refine blk_drewN ?_ _ | refine blk_drew ?_ | refine blk_alloc ?_ _)); refine blk_put (cs := #[.int .i64 t107, .slice none 0 0]) ?_ 1 _ rfl; (with_reducible repeat (first | refine blk_drewN ?_ _ | refine blk_drew ?_ | refine blk_alloc ?_ _)); refine blk_put (cs := #[.int .i64 0, .slice none 0 0]) ?_ 0 _ rfl; (with_reducible repeat (first | refine blk_drewN ?_ _ | refine blk_drew ?_ | refine blk_alloc ?_ _)); exact BK114.out) hb); have n3_ := q0 (below_step (qb HB.out) hb); clear HO113 BK114 HB; have HO113 := n0_; have HO116 := n1_; have BK114 := n2_; have HB := n3_; clear n0_ n1_ n2_ n3_; (try clear hb); (try clear hb2); (try clear hk); (try clear hi); (try clear ho0)) | ((with_reducible refine gate_dst (N := 5) rfl ?_); (try (refine gate_guard (by rfl) ?_; dsimp only)); refine be 5 #[.int .i64 0, .slice none 0 0] 30 ?_; intro gb117 hg w11 hbox hb; have n0_ := q0 (Kd.R_below (qr HO113.out) hb); have n1_ := q0 (Kd.R_below (qr HO116.out) hb); have n2_ := q0 (kb BK114.out hb); have n3_ := q0 (below_step (qb HB.out) hb); have n4_ := q0 (hbox); have n5_ := q0 ((bs HB.out hg : w.heap.size ≤ gb117)); have n6_ := q0 ((bs HB.out hg : w.heap.size ≤ gb117)); have n7_ := q0 ((bl BK114.out hg : gb114 ≠ gb117)); have n8_ := q0 ((bg BK114.out hg : gb117 ≠ gb114)); clear HO113 HO116 BK114 HB; have HO113 := n0_; have HO116 := n1_; have BK114 := n2_; have HB := n3_; have BK117 := n4_; have GW117 := n5_; have GE117 := n6_; have NB114_117 := n7_; have NB117_114 := n8_; clear n0_ n1_ n2_ n3_ n4_ n5_ n6_ n7_ n8_ hb hbox hg; have hnb12 := NB117_114.out; have hnc12 := NB114_117.out; have hcz13_0 : w11.cell? ⟨gb117, 0, none⟩ = some (.int .i64 0) := (blk_cell BK117.out 0).trans rfl; have hcz13_1 : w11.cell? ⟨gb117, 1, none⟩ = some (.slice none 0 0) := (blk_cell BK117.out 1).trans rfl; have hfz13_0 := blk_frozen BK117.out 0; have hfz13_1 := blk_frozen BK117.out 1; obtain ⟨Ao14, co14, eo14⟩ := Kd.R_slice HO116.out; subst eo14))
 (try simp only [Act.put, List.setIfInBounds_toArray, List.set_cons_zero, List.set_cons_succ])
 go_cut [29] (fun v29 wc => ∃ (kq : Nat) (x29_4 : Bool), v29 = .bool x29_4 ∧ Aside0 (laws_FnNetWithout.j0 kq t110 x29_4 t107 t109 t100 t111 = some r) ∧ Aside0 (kq ≤ k) ∧ Aside0 (Kd.R kTie 54 wc w.heap.size (fun k_ => some k_ ≠ ((.slice Ao14 t111.length co14) : Value).ownBlock) (.slice Ao9 t109.length co9) t109) ∧ Aside0 (Kd.R kTie 54 wc w.heap.size (fun k_ => some k_ ≠ ((.slice Ao9 t109.length co9) : Value).ownBlock) (.slice Ao14 t111.length co14) t111) ∧ Aside0 (wc.heap[gb114]? = some (.cells #[.int .i64 t107, (.slice Ao9 t109.length co9)] 30 (0, 0))) ∧ Aside0 (wc.heap[gb117]? = some (.cells #[.int .i64 t100, (.slice Ao14 t111.length co14)] 30 (0, 0))) ∧ Aside0 (Below w.heap.size w wc))
 case first =>
   have H := HC5.out
   clear HC5
   replace H := Option.bind_eq_some_iff.mp H
   obtain ⟨⟨t101, t118⟩, A119, H⟩ := H
   replace H : ((laws_loNet.f k t100 t111 t101 t118).bind fun t108 => (if t108 = true then (laws_FnNetWithout.j0 k t110 (t100 == 0) t107 t109 t100 t111) else (laws_FnNetWithout.j0 k t110 true t107 t109 t100 t111))) = some r := H
   have A15 := Aside0.mk A119
   clear A119
   replace H := Option.bind_eq_some_iff.mp H
   obtain ⟨t108, A120, H⟩ := H
   replace H : (if t108 = true then (laws_FnNetWithout.j0 k t110 (t100 == 0) t107 t109 t100 t111) else (laws_FnNetWithout.j0 k t110 true t107 t109 t100 t111)) = some r := H
   have A16 := Aside0.mk A120
   clear A120
   by_cases c17 : t108 = true
   rotate_left
   · replace c17 := Bool.eq_false_iff.mpr c17
     subst c17
     have H1 : (laws_FnNetWithout.j0 k t110 true t107 t109 t100 t111) = some r := by rw [if_neg (show ¬ (false = true) by decide)] at H; exact H
     clear H
     have H := H1
     clear H1
     have H' := Aside0.mk H
     clear H
     try go_wp2
     have n0_ : Aside0 (Kd.R kTie 54 ((w11.setCell ⟨gb117, 0, none⟩ (.int .i64 t100)).setCell ⟨gb117, 1, none⟩ (.slice Ao14 t111.length co14)) w.heap.size (fun k_ => some k_ ≠ (.slice Ao14 t111.length co14 : Value).ownBlock) (.slice Ao9 t109.length co9) t109) := ⟨by (with_reducible repeat (first | apply Kd.R_alloc | apply Kd.R_drewN | apply Kd.R_drew)); exact Kd.R_mono (Kd.R_far (p := ⟨gb117, 1, none⟩) (Kd.R_far (p := ⟨gb117, 0, none⟩) (Kd.R_types HO113.out BK117.out (by decide)) (fun _ hk => hk.2) (.int .i64 t100)) (fun _ hk => hk.2) (.slice Ao14 t111.length co14)) (fun _ hk => hk.1.2)⟩
     have n1_ : Aside0 (Kd.R kTie 54 ((w11.setCell ⟨gb117, 0, none⟩ (.int .i64 t100)).setCell ⟨gb117, 1, none⟩ (.slice Ao14 t111.length co14)) w.heap.size (fun k_ => some k_ ≠ (.slice Ao9 t109.length co9 : Value).ownBlock) (.slice Ao14 t111.length co14) t111) := ⟨by (with_reducible repeat (first | apply Kd.R_alloc | apply Kd.R_drewN | apply Kd.R_drew)); exact Kd.R_mono (Kd.R_far (p := ⟨gb117, 1, none⟩) (Kd.R_far (p := ⟨gb117, 0, none⟩) (Kd.R_types HO116.out BK117.out (by decide)) (fun _ hk => hk.2) (.int .i64 t100)) (fun _ hk => hk.2) (.slice Ao14 t111.length co14)) (fun _ hk => hk.1.2)⟩
     have n2_ : Aside0 (((w11.setCell ⟨gb117, 0, none⟩ (.int .i64 t100)).setCell ⟨gb117, 1, none⟩ (.slice Ao14 t111.length co14)).heap[gb114]? = some (.cells #[.int .i64 t107, .slice Ao9 t109.length co9] 30 (0, 0))) := ⟨qf BK114.out⟩
     have n3_ : Aside0 (((w11.setCell ⟨gb117, 0, none⟩ (.int .i64 t100)).setCell ⟨gb117, 1, none⟩ (.slice Ao14 t111.length co14)).heap[gb117]? = some (.cells #[.int .i64 t100, .slice Ao14 t111.length co14] 30 (0, 0))) := ⟨by (with_reducible repeat (first | refine blk_drewN ?_ _ | refine blk_drew ?_ | refine blk_alloc ?_ _)); refine blk_put (cs := #[.int .i64 t100, .slice none 0 0]) ?_ 1 _ rfl; (with_reducible repeat (first | refine blk_drewN ?_ _ | refine blk_drew ?_ | refine blk_alloc ?_ _)); refine blk_put (cs := #[.int .i64 0, .slice none 0 0]) ?_ 0 _ rfl; (with_reducible repeat (first | refine blk_drewN ?_ _ | refine blk_drew ?_ | refine blk_alloc ?_ _)); exact BK117.out⟩
     have n4_ : Aside0 (Below w.heap.size w ((w11.setCell ⟨gb117, 0, none⟩ (.int .i64 t100)).setCell ⟨gb117, 1, none⟩ (.slice Ao14 t111.length co14))) := ⟨qb HB.out⟩
     (try clear HO113)
     (try clear HO116)
     (try clear BK114)
     (try clear BK117)
     (try clear HB)
     generalize ((w11.setCell ⟨gb117, 0, none⟩ (.int .i64 t100)).setCell ⟨gb117, 1, none⟩ (.slice Ao14 t111.length co14)) = w23 at n0_ n1_ n2_ n3_ n4_ ⊢
     have HO113 := n0_
     have HO116 := n1_
     have BK114 := n2_
     have BK117 := n3_
     have HB := n4_
     clear n0_ n1_ n2_ n3_ n4_
     have n0_ := q0 (Kd.R_drew HO113.out)
     have n1_ := q0 (Kd.R_drew HO116.out)
     have n2_ := q0 (blk_drew BK114.out)
     have n3_ := q0 (blk_drew BK117.out)
     have n4_ := q0 (below_drew1 HB.out)
     clear HO113
     clear HO116
     clear BK114
     clear BK117
     clear HB
     have HO113 := n0_
     have HO116 := n1_
     have BK114 := n2_
     have BK117 := n3_
     have HB := n4_
     clear n0_ n1_ n2_ n3_ n4_
     refine start_ (n := 11) (S := fun w' => w'.cell? ⟨gb117, 0, none⟩ = some (.int .i64 t100) ∧ w'.cell? ⟨gb117, 1, none⟩ = some (.slice Ao14 t111.length co14) ∧ w'.cell? ⟨gb114, 0, none⟩ = some (.int .i64 t107) ∧ w'.cell? ⟨gb114, 1, none⟩ = some (.slice Ao9 t109.length co9)) (ds := []) (ba 11 0) (by kernel_rfl) rfl (by kernel_rfl) ⟨(blk_cell BK117.out 0).trans rfl, (blk_cell BK117.out 1).trans rfl, (blk_cell BK114.out 0).trans rfl, (blk_cell BK114.out 1).trans rfl⟩ (fun hHeld => ?_); refine with_tabW laws_FnNetWithout.tab5 laws_FnNetWithout.bits5 (fun HT_ HW_ => ?_)
     generalize w23.drew = w24 at HO113 HO116 BK114 BK117 HB hHeld ⊢
     refine pu 2 (some 21) (ba 11 4) HT_.out ?_
     refine tu 0 (some 19) (ba 11 5) HT_.out HW_.out hHeld ?_
     refine tu 1 (some 20) (ba 11 7) HT_.out HW_.out hHeld ?_
     refine one_ (i := 3) (N := some 22) (ba 11 15) rfl rfl (one_of HT_.out (by kernel_rfl)) (by decide) (fun K hK => ?_)
     refine goes_ Try.func21 (by kernel_rfl) rfl #[.agg #[.int .i64 t107, .slice Ao9 t109.length co9], .int .i64 t110] (by rfl) rfl rfl qm ?_
     with_reducible refine (spec_NetWithout.calls k t107 _ _ t109 t110 t101 t118 _ ?side1 ?side2 A15.out).mono ?_
     (case side1 => exact qc (Kd.R_reads' HO113.out).2.2)
     (case side2 => exact (Kd.R_reads' HO113.out).2.1)
     rintro e w25 ⟨v121, rfl, ho0, hb⟩
     refine ⟨_, rfl, ?_⟩
     have n0_ := q0 (Kd.R_elder' (qr HO113.out) (Kd.R_base ho0) hb)
     have n1_ := q0 (Kd.R_elder' (qr HO116.out) (Kd.R_base ho0) hb)
     have n2_ := q0 (Kd.R_lower (Kd.R_new' (Kd.R_new' ho0 (Kd.R_lt (qr HO113.out))) (Kd.R_lt (qr HO116.out))) (below_size (qb HB.out)))
     have n3_ := q0 (kb BK114.out hb)
     have n4_ := q0 (kb BK117.out hb)
     have n5_ := q0 (below_step (qb HB.out) hb)
     clear HO113
     clear HO116
     clear BK114
     clear BK117
     clear HB
     have HO113 := n0_
     have HO116 := n1_
     have HO122 := n2_
     have BK114 := n3_
     have BK117 := n4_
     have HB := n5_
     clear n0_ n1_ n2_ n3_ n4_ n5_
     (try clear hb)
     (try clear hb2)
     (try clear hk)
     (try clear hi)
     (try clear ho0)
     obtain ⟨Ao26, co26, eo26⟩ := Kd.R_slice HO122.out
     (first | subst eo26 | (injection eo26 with f1_ f2_ f3_; have f4_ := f1_.symm; have f5_ := f3_.symm; clear f1_ f2_ f3_; subst f4_; subst f5_))
     refine hK.out _ _ ⟨(blk_cell BK117.out 0).trans rfl, (blk_cell BK117.out 1).trans rfl, (blk_cell BK114.out 0).trans rfl, (blk_cell BK114.out 1).trans rfl⟩ (fun hHeld => ?_)
     clear hK K
     refine nu 22 ?_
     refine one_ (i := 4) (N := some 23) (ba 11 31) rfl rfl (one_of HT_.out (by kernel_rfl)) (by decide) (fun K hK => ?_)
     refine goes_ Try.func35 (by kernel_rfl) rfl #[.agg #[.int .i64 t100, .slice Ao14 t111.length co14], .agg #[.int .i64 t101, .slice Ao26 t118.length co26]] (by rfl) rfl rfl qm ?_
     with_reducible refine (laws_loNet.calls k t100 _ _ t111 t101 _ _ t118 false _ ?side1 ?side2 ?side3 ?side4 A16.out).mono ?_
     (case side1 => exact qc (Kd.R_reads' HO116.out).2.2)
     (case side2 => exact (Kd.R_reads' HO116.out).2.1)
     (case side3 => exact qc (Kd.R_reads' HO122.out).2.2)
     (case side4 => exact (Kd.R_reads' HO122.out).2.1)
     rintro e w27 ⟨rfl, hb⟩
     refine ⟨_, rfl, ?_⟩
     have n0_ := q0 (Kd.R_below (qr HO113.out) hb)
     have n1_ := q0 (Kd.R_below (qr HO116.out) hb)
     have n2_ := q0 (Kd.R_below (qr HO122.out) hb)
     have n3_ := q0 (kb BK114.out hb)
     have n4_ := q0 (kb BK117.out hb)
     have n5_ := q0 (below_step (qb HB.out) hb)
     clear HO113
     clear HO116
     clear HO122
     clear BK114
     clear BK117
     clear HB
     have HO113 := n0_
     have HO116 := n1_
     have HO122 := n2_
     have BK114 := n3_
     have BK117 := n4_
     have HB := n5_
     clear n0_ n1_ n2_ n3_ n4_ n5_
     (try clear hb)
     (try clear hb2)
     (try clear hk)
     (try clear hi)
     refine hK.out _ _ ⟨(blk_cell BK117.out 0).trans rfl, (blk_cell BK117.out 1).trans rfl, (blk_cell BK114.out 0).trans rfl, (blk_cell BK114.out 1).trans rfl⟩ (fun hHeld => ?_)
     clear hK K
     refine nu 23 ?_
     refine pu 5 (some 24) (ba 11 63) HT_.out ?_
     refine pu 6 (some 25) (ba 11 127) HT_.out ?_
     refine pv 7 (some 26) (ba 11 255) HT_.out ?_
     refine pv 8 (some 27) (ba 11 511) HT_.out ?_
     refine pv 9 (some 28) (ba 11 1023) HT_.out ?_
     refine pu 10 (some 29) (ba 11 2047) HT_.out ?_
     refine done_ (done_of HT_.out (by kernel_rfl)) ?_
     try go_wp2
     go_meet
     case rel => exact ⟨_, (true), qs, H', ⟨by first | omega | exact Nat.le_refl _⟩, ⟨by (with_reducible repeat (first | apply Kd.R_alloc | apply Kd.R_drewN | apply Kd.R_drew)); exact Kd.R_mono HO113.out (fun _ hk => hk.1)⟩, ⟨by (with_reducible repeat (first | apply Kd.R_alloc | apply Kd.R_drewN | apply Kd.R_drew)); exact Kd.R_mono HO116.out (fun _ hk => hk.1)⟩, ⟨qk BK114.out⟩, ⟨qk BK117.out⟩, ⟨qb HB.out⟩⟩
   subst c17
   have H1 : (laws_FnNetWithout.j0 k t110 (t100 == 0) t107 t109 t100 t111) = some r := by rw [if_pos rfl] at H; exact H
   clear H
   have H := H1
   clear H1
   have H' := Aside0.mk H
   clear H
   try go_wp2
   have n0_ : Aside0 (Kd.R kTie 54 ((w11.setCell ⟨gb117, 0, none⟩ (.int .i64 t100)).setCell ⟨gb117, 1, none⟩ (.slice Ao14 t111.length co14)) w.heap.size (fun k_ => some k_ ≠ (.slice Ao14 t111.length co14 : Value).ownBlock) (.slice Ao9 t109.length co9) t109) := ⟨by (with_reducible repeat (first | apply Kd.R_alloc | apply Kd.R_drewN | apply Kd.R_drew)); exact Kd.R_mono (Kd.R_far (p := ⟨gb117, 1, none⟩) (Kd.R_far (p := ⟨gb117, 0, none⟩) (Kd.R_types HO113.out BK117.out (by decide)) (fun _ hk => hk.2) (.int .i64 t100)) (fun _ hk => hk.2) (.slice Ao14 t111.length co14)) (fun _ hk => hk.1.2)⟩
   have n1_ : Aside0 (Kd.R kTie 54 ((w11.setCell ⟨gb117, 0, none⟩ (.int .i64 t100)).setCell ⟨gb117, 1, none⟩ (.slice Ao14 t111.length co14)) w.heap.size (fun k_ => some k_ ≠ (.slice Ao9 t109.length co9 : Value).ownBlock) (.slice Ao14 t111.length co14) t111) := ⟨by (with_reducible repeat (first | apply Kd.R_alloc | apply Kd.R_drewN | apply Kd.R_drew)); exact Kd.R_mono (Kd.R_far (p := ⟨gb117, 1, none⟩) (Kd.R_far (p := ⟨gb117, 0, none⟩) (Kd.R_types HO116.out BK117.out (by decide)) (fun _ hk => hk.2) (.int .i64 t100)) (fun _ hk => hk.2) (.slice Ao14 t111.length co14)) (fun _ hk => hk.1.2)⟩
   have n2_ : Aside0 (((w11.setCell ⟨gb117, 0, none⟩ (.int .i64 t100)).setCell ⟨gb117, 1, none⟩ (.slice Ao14 t111.length co14)).heap[gb114]? = some (.cells #[.int .i64 t107, .slice Ao9 t109.length co9] 30 (0, 0))) := ⟨qf BK114.out⟩
   have n3_ : Aside0 (((w11.setCell ⟨gb117, 0, none⟩ (.int .i64 t100)).setCell ⟨gb117, 1, none⟩ (.slice Ao14 t111.length co14)).heap[gb117]? = some (.cells #[.int .i64 t100, .slice Ao14 t111.length co14] 30 (0, 0))) := ⟨by (with_reducible repeat (first | refine blk_drewN ?_ _ | refine blk_drew ?_ | refine blk_alloc ?_ _)); refine blk_put (cs := #[.int .i64 t100, .slice none 0 0]) ?_ 1 _ rfl; (with_reducible repeat (first | refine blk_drewN ?_ _ | refine blk_drew ?_ | refine blk_alloc ?_ _)); refine blk_put (cs := #[.int .i64 0, .slice none 0 0]) ?_ 0 _ rfl; (with_reducible repeat (first | refine blk_drewN ?_ _ | refine blk_drew ?_ | refine blk_alloc ?_ _)); exact BK117.out⟩
   have n4_ : Aside0 (Below w.heap.size w ((w11.setCell ⟨gb117, 0, none⟩ (.int .i64 t100)).setCell ⟨gb117, 1, none⟩ (.slice Ao14 t111.length co14))) := ⟨qb HB.out⟩
   (try clear HO113)
   (try clear HO116)
   (try clear BK114)
   (try clear BK117)
   (try clear HB)
   generalize ((w11.setCell ⟨gb117, 0, none⟩ (.int .i64 t100)).setCell ⟨gb117, 1, none⟩ (.slice Ao14 t111.length co14)) = w18 at n0_ n1_ n2_ n3_ n4_ ⊢
   have HO113 := n0_
   have HO116 := n1_
   have BK114 := n2_
   have BK117 := n3_
   have HB := n4_
   clear n0_ n1_ n2_ n3_ n4_
   have n0_ := q0 (Kd.R_drew HO113.out)
   have n1_ := q0 (Kd.R_drew HO116.out)
   have n2_ := q0 (blk_drew BK114.out)
   have n3_ := q0 (blk_drew BK117.out)
   have n4_ := q0 (below_drew1 HB.out)
   clear HO113
   clear HO116
   clear BK114
   clear BK117
   clear HB
   have HO113 := n0_
   have HO116 := n1_
   have BK114 := n2_
   have BK117 := n3_
   have HB := n4_
   clear n0_ n1_ n2_ n3_ n4_
   refine start_ (n := 11) (S := fun w' => w'.cell? ⟨gb117, 0, none⟩ = some (.int .i64 t100) ∧ w'.cell? ⟨gb117, 1, none⟩ = some (.slice Ao14 t111.length co14) ∧ w'.cell? ⟨gb114, 0, none⟩ = some (.int .i64 t107) ∧ w'.cell? ⟨gb114, 1, none⟩ = some (.slice Ao9 t109.length co9)) (ds := []) (ba 11 0) (by kernel_rfl) rfl (by kernel_rfl) ⟨(blk_cell BK117.out 0).trans rfl, (blk_cell BK117.out 1).trans rfl, (blk_cell BK114.out 0).trans rfl, (blk_cell BK114.out 1).trans rfl⟩ (fun hHeld => ?_); refine with_tabW laws_FnNetWithout.tab5 laws_FnNetWithout.bits5 (fun HT_ HW_ => ?_)
   generalize w18.drew = w19 at HO113 HO116 BK114 BK117 HB hHeld ⊢
   refine pu 2 (some 21) (ba 11 4) HT_.out ?_
   refine tu 0 (some 19) (ba 11 5) HT_.out HW_.out hHeld ?_
   refine tu 1 (some 20) (ba 11 7) HT_.out HW_.out hHeld ?_
   refine one_ (i := 3) (N := some 22) (ba 11 15) rfl rfl (one_of HT_.out (by kernel_rfl)) (by decide) (fun K hK => ?_)
   refine goes_ Try.func21 (by kernel_rfl) rfl #[.agg #[.int .i64 t107, .slice Ao9 t109.length co9], .int .i64 t110] (by rfl) rfl rfl qm ?_
   with_reducible refine (spec_NetWithout.calls k t107 _ _ t109 t110 t101 t118 _ ?side1 ?side2 A15.out).mono ?_
   (case side1 => exact qc (Kd.R_reads' HO113.out).2.2)
   (case side2 => exact (Kd.R_reads' HO113.out).2.1)
   rintro e w20 ⟨v121, rfl, ho0, hb⟩
   refine ⟨_, rfl, ?_⟩
   have n0_ := q0 (Kd.R_elder' (qr HO113.out) (Kd.R_base ho0) hb)
   have n1_ := q0 (Kd.R_elder' (qr HO116.out) (Kd.R_base ho0) hb)
   have n2_ := q0 (Kd.R_lower (Kd.R_new' (Kd.R_new' ho0 (Kd.R_lt (qr HO113.out))) (Kd.R_lt (qr HO116.out))) (below_size (qb HB.out)))
   have n3_ := q0 (kb BK114.out hb)
   have n4_ := q0 (kb BK117.out hb)
   have n5_ := q0 (below_step (qb HB.out) hb)
   clear HO113
   clear HO116
   clear BK114
   clear BK117
   clear HB
   have HO113 := n0_
   have HO116 := n1_
   have HO122 := n2_
   have BK114 := n3_
   have BK117 := n4_
   have HB := n5_
   clear n0_ n1_ n2_ n3_ n4_ n5_
   (try clear hb)
   (try clear hb2)
   (try clear hk)
   (try clear hi)
   (try clear ho0)
   obtain ⟨Ao21, co21, eo21⟩ := Kd.R_slice HO122.out
   (first | subst eo21 | (injection eo21 with f1_ f2_ f3_; have f4_ := f1_.symm; have f5_ := f3_.symm; clear f1_ f2_ f3_; subst f4_; subst f5_))
   refine hK.out _ _ ⟨(blk_cell BK117.out 0).trans rfl, (blk_cell BK117.out 1).trans rfl, (blk_cell BK114.out 0).trans rfl, (blk_cell BK114.out 1).trans rfl⟩ (fun hHeld => ?_)
   clear hK K
   refine nu 22 ?_
   refine one_ (i := 4) (N := some 23) (ba 11 31) rfl rfl (one_of HT_.out (by kernel_rfl)) (by decide) (fun K hK => ?_)
   refine goes_ Try.func35 (by kernel_rfl) rfl #[.agg #[.int .i64 t100, .slice Ao14 t111.length co14], .agg #[.int .i64 t101, .slice Ao21 t118.length co21]] (by rfl) rfl rfl qm ?_
   with_reducible refine (laws_loNet.calls k t100 _ _ t111 t101 _ _ t118 true _ ?side1 ?side2 ?side3 ?side4 A16.out).mono ?_
   (case side1 => exact qc (Kd.R_reads' HO116.out).2.2)
   (case side2 => exact (Kd.R_reads' HO116.out).2.1)
   (case side3 => exact qc (Kd.R_reads' HO122.out).2.2)
   (case side4 => exact (Kd.R_reads' HO122.out).2.1)
   rintro e w22 ⟨rfl, hb⟩
   refine ⟨_, rfl, ?_⟩
   have n0_ := q0 (Kd.R_below (qr HO113.out) hb)
   have n1_ := q0 (Kd.R_below (qr HO116.out) hb)
   have n2_ := q0 (Kd.R_below (qr HO122.out) hb)
   have n3_ := q0 (kb BK114.out hb)
   have n4_ := q0 (kb BK117.out hb)
   have n5_ := q0 (below_step (qb HB.out) hb)
   clear HO113
   clear HO116
   clear HO122
   clear BK114
   clear BK117
   clear HB
   have HO113 := n0_
   have HO116 := n1_
   have HO122 := n2_
   have BK114 := n3_
   have BK117 := n4_
   have HB := n5_
   clear n0_ n1_ n2_ n3_ n4_ n5_
   (try clear hb)
   (try clear hb2)
   (try clear hk)
   (try clear hi)
   refine hK.out _ _ ⟨(blk_cell BK117.out 0).trans rfl, (blk_cell BK117.out 1).trans rfl, (blk_cell BK114.out 0).trans rfl, (blk_cell BK114.out 1).trans rfl⟩ (fun hHeld => ?_)
   clear hK K
   refine nu 23 ?_
   refine pu 5 (some 24) (ba 11 63) HT_.out ?_
   refine pu 6 (some 25) (ba 11 127) HT_.out ?_
   refine pu 7 (some 26) (ba 11 255) HT_.out ?_
   refine tu 8 (some 27) (ba 11 511) HT_.out HW_.out hHeld ?_
   refine pu 9 (some 28) (ba 11 1023) HT_.out ?_
   refine pu 10 (some 29) (ba 11 2047) HT_.out ?_
   refine done_ (done_of HT_.out (by kernel_rfl)) ?_
   try go_wp2
   go_meet
   case rel => exact ⟨_, ((t100 == 0)), qs, H', ⟨by first | omega | exact Nat.le_refl _⟩, ⟨by (with_reducible repeat (first | apply Kd.R_alloc | apply Kd.R_drewN | apply Kd.R_drew)); exact Kd.R_mono HO113.out (fun _ hk => hk.1)⟩, ⟨by (with_reducible repeat (first | apply Kd.R_alloc | apply Kd.R_drewN | apply Kd.R_drew)); exact Kd.R_mono HO116.out (fun _ hk => hk.1)⟩, ⟨qk BK114.out⟩, ⟨qk BK117.out⟩, ⟨qb HB.out⟩⟩
 clear HC5
 try clear c1
 try clear c2
 try clear c2b0
 try clear c2b1
 try clear p2
 try clear c3
 try clear c11
 try clear c12
 try clear c17
 try clear c21
 try clear c22
 try clear hcz13_0
 try clear hcz13_1
 try clear hcz8_0
 try clear hcz8_1
 try clear hfz13_0
 try clear hfz13_1
 try clear hfz8_0
 try clear hfz8_1
 obtain ⟨kq, x29_4, rfl, HA, HJ4, HO_100001, HO_101001, BK114, BK117, HB⟩ := hcut
 rcases kq with _ | kj4
 · exact absurd HA.out (by simp [laws_FnNetWithout.j0])
 have H := HA.out
 clear HA
 simp only [laws_FnNetWithout.j0] at H
 by_cases c28 : x29_4 = true
 · subst c28
   have H1 : ((spec_NetWithout.f kj4 t107 t109 t110).bind fun bt102 => ((laws_loNet.f kj4 t100 t111 bt102.1 bt102.2).bind fun t103 => (some t103))) = some r := by rw [if_pos rfl] at H; exact H
   clear H
   have H := H1
   clear H1
   replace H := Option.bind_eq_some_iff.mp H
   obtain ⟨⟨t102, t123⟩, A124, H⟩ := H
   replace H : ((laws_loNet.f kj4 t100 t111 t102 t123).bind fun t103 => (some t103)) = some r := H
   have A29 := Aside0.mk A124
   clear A124
   replace H := Option.bind_eq_some_iff.mp H
   obtain ⟨t103, A125, H⟩ := H
   replace H : (some t103) = some r := H
   have A30 := Aside0.mk A125
   clear A125
   obtain rfl := Option.some.inj H
   try go_wp2
   have n0_ := q0 (Kd.R_drew HO_100001.out)
   have n1_ := q0 (Kd.R_drew HO_101001.out)
   have n2_ := q0 (blk_drew BK114.out)
   have n3_ := q0 (blk_drew BK117.out)
   have n4_ := q0 (below_drew1 HB.out)
   clear HO_100001
   clear HO_101001
   clear BK114
   clear BK117
   clear HB
   have HO_100001 := n0_
   have HO_101001 := n1_
   have BK114 := n2_
   have BK117 := n3_
   have HB := n4_
   clear n0_ n1_ n2_ n3_ n4_
   refine start_ (n := 6) (S := fun w' => w'.cell? ⟨gb117, 0, none⟩ = some (.int .i64 t100) ∧ w'.cell? ⟨gb117, 1, none⟩ = some (.slice Ao14 t111.length co14) ∧ w'.cell? ⟨gb114, 0, none⟩ = some (.int .i64 t107) ∧ w'.cell? ⟨gb114, 1, none⟩ = some (.slice Ao9 t109.length co9)) (ds := []) (ba 6 0) (by kernel_rfl) rfl (by kernel_rfl) ⟨(blk_cell BK117.out 0).trans rfl, (blk_cell BK117.out 1).trans rfl, (blk_cell BK114.out 0).trans rfl, (blk_cell BK114.out 1).trans rfl⟩ (fun hHeld => ?_)
   generalize wc.drew = w31 at HO_100001 HO_101001 BK114 BK117 HB hHeld ⊢
   refine pw 2 (some 32) (ba 6 4) ?_
   refine tw 0 (some 30) (ba 6 5) hHeld ?_
   refine tw 1 (some 31) (ba 6 7) hHeld ?_
   refine one_ (i := 3) (N := some 33) (ba 6 15) rfl rfl (by kernel_rfl) (by decide) (fun K hK => ?_)
   refine goes_ Try.func21 (by kernel_rfl) rfl #[.agg #[.int .i64 t107, .slice Ao9 t109.length co9], .int .i64 t110] (by rfl) rfl rfl qm ?_
   with_reducible refine (spec_NetWithout.calls kj4 t107 _ _ t109 t110 t102 t123 _ ?side1 ?side2 A29.out).mono ?_
   (case side1 => exact qc (Kd.R_reads' HO_100001.out).2.2)
   (case side2 => exact (Kd.R_reads' HO_100001.out).2.1)
   rintro e w32 ⟨v126, rfl, ho0, hb⟩
   refine ⟨_, rfl, ?_⟩
   have n0_ := q0 (Kd.R_elder' (qr HO_100001.out) (Kd.R_base ho0) hb)
   have n1_ := q0 (Kd.R_elder' (qr HO_101001.out) (Kd.R_base ho0) hb)
   have n2_ := q0 (Kd.R_lower (Kd.R_new' (Kd.R_new' ho0 (Kd.R_lt (qr HO_100001.out))) (Kd.R_lt (qr HO_101001.out))) (below_size (qb HB.out)))
   have n3_ := q0 (kb BK114.out hb)
   have n4_ := q0 (kb BK117.out hb)
   have n5_ := q0 (below_step (qb HB.out) hb)
   clear HO_100001
   clear HO_101001
   clear BK114
   clear BK117
   clear HB
   have HO_100001 := n0_
   have HO_101001 := n1_
   have HO127 := n2_
   have BK114 := n3_
   have BK117 := n4_
   have HB := n5_
   clear n0_ n1_ n2_ n3_ n4_ n5_
   (try clear hb)
   (try clear hb2)
   (try clear hk)
   (try clear hi)
   (try clear ho0)
   obtain ⟨Ao33, co33, eo33⟩ := Kd.R_slice HO127.out
   (first | subst eo33 | (injection eo33 with f1_ f2_ f3_; have f4_ := f1_.symm; have f5_ := f3_.symm; clear f1_ f2_ f3_; subst f4_; subst f5_))
   refine hK.out _ _ ⟨(blk_cell BK117.out 0).trans rfl, (blk_cell BK117.out 1).trans rfl, (blk_cell BK114.out 0).trans rfl, (blk_cell BK114.out 1).trans rfl⟩ (fun hHeld => ?_)
   clear hK K
   refine nu 33 ?_
   refine one_ (i := 4) (N := some 34) (ba 6 31) rfl rfl (by kernel_rfl) (by decide) (fun K hK => ?_)
   refine goes_ Try.func35 (by kernel_rfl) rfl #[.agg #[.int .i64 t100, .slice Ao14 t111.length co14], .agg #[.int .i64 t102, .slice Ao33 t123.length co33]] (by rfl) rfl rfl qm ?_
   with_reducible refine (laws_loNet.calls kj4 t100 _ _ t111 t102 _ _ t123 t103 _ ?side1 ?side2 ?side3 ?side4 A30.out).mono ?_
   (case side1 => exact qc (Kd.R_reads' HO_101001.out).2.2)
   (case side2 => exact (Kd.R_reads' HO_101001.out).2.1)
   (case side3 => exact qc (Kd.R_reads' HO127.out).2.2)
   (case side4 => exact (Kd.R_reads' HO127.out).2.1)
   rintro e w34 ⟨rfl, hb⟩
   refine ⟨_, rfl, ?_⟩
   have n0_ := q0 (Kd.R_below (qr HO_100001.out) hb)
   have n1_ := q0 (Kd.R_below (qr HO_101001.out) hb)
   have n2_ := q0 (Kd.R_below (qr HO127.out) hb)
   have n3_ := q0 (kb BK114.out hb)
   have n4_ := q0 (kb BK117.out hb)
   have n5_ := q0 (below_step (qb HB.out) hb)
   clear HO_100001
   clear HO_101001
   clear HO127
   clear BK114
   clear BK117
   clear HB
   have HO_100001 := n0_
   have HO_101001 := n1_
   have HO127 := n2_
   have BK114 := n3_
   have BK117 := n4_
   have HB := n5_
   clear n0_ n1_ n2_ n3_ n4_ n5_
   (try clear hb)
   (try clear hb2)
   (try clear hk)
   (try clear hi)
   refine hK.out _ _ ⟨(blk_cell BK117.out 0).trans rfl, (blk_cell BK117.out 1).trans rfl, (blk_cell BK114.out 0).trans rfl, (blk_cell BK114.out 1).trans rfl⟩ (fun hHeld => ?_)
   clear hK K
   refine nu 34 ?_
   refine pw 5 (some 2) (ba 6 63) ?_
   refine done_ (by kernel_rfl) ?_
   try go_wp2
   go_ret
   exact ⟨qe, qb HB.out⟩
 replace c28 := Bool.eq_false_iff.mpr c28
 subst c28
 have H1 : (laws_FnNetWithout.l0 kj4 t110 0 t107 t109 t100 t111) = some r := by rw [if_neg (show ¬ (false = true) by decide)] at H; exact H
 clear H
 have H := H1
 clear H1
 have H' := Aside0.mk H
 clear H
 go_wp2
 go_loopg [6] kj4 (fun kq v6 w' => ∃ (x6_2 : Int), v6 = .int .i64 x6_2 ∧ Aside0 (laws_FnNetWithout.l0 kq t110 x6_2 t107 t109 t100 t111 = some r) ∧ Aside0 (kq ≤ kj4) ∧ Aside0 (Kd.R kTie 54 w' w.heap.size (fun k_ => some k_ ≠ ((.slice Ao14 t111.length co14) : Value).ownBlock) (.slice Ao9 t109.length co9) t109) ∧ Aside0 (Kd.R kTie 54 w' w.heap.size (fun k_ => some k_ ≠ ((.slice Ao9 t109.length co9) : Value).ownBlock) (.slice Ao14 t111.length co14) t111) ∧ Aside0 (w'.heap[gb114]? = some (.cells #[.int .i64 t107, (.slice Ao9 t109.length co9)] 30 (0, 0))) ∧ Aside0 (w'.heap[gb117]? = some (.cells #[.int .i64 t100, (.slice Ao14 t111.length co14)] 30 (0, 0))) ∧ Aside0 (Below w.heap.size w w'))
 case atStart => exact ⟨(0), qs, H', ⟨Nat.le_refl _⟩, ⟨qr HO_100001.out⟩, ⟨qr HO_101001.out⟩, ⟨qk BK114.out⟩, ⟨qk BK117.out⟩, ⟨qb HB.out⟩⟩
 clear H'
 try clear c1
 try clear c2
 try clear c2b0
 try clear c2b1
 try clear p2
 try clear c3
 try clear c11
 try clear c12
 try clear c17
 try clear c21
 try clear c22
 try clear c28
 try clear c34
 try clear hcz13_0
 try clear hcz13_1
 try clear hcz8_0
 try clear hcz8_1
 try clear hfz13_0
 try clear hfz13_1
 try clear hfz8_0
 try clear hfz8_1
 try clear p2
 obtain ⟨x6_2, rfl, HA, HK2, HO_100001, HO_101001, BK114, BK117, HB⟩ := hrel
 rcases gk with _ | k2
 · exact absurd HA.out (by simp [laws_FnNetWithout.l0])
 have H := HA.out
 clear HA
 simp only [laws_FnNetWithout.l0] at H
 by_cases c35 : x6_2 < (t109.length : Int)
 rotate_left
 · rw [if_neg c35] at H
   have c35b0 : decide (x6_2 < (t109.length : Int)) = false := decide_eq_false c35
   clear c35
   replace H := Option.bind_eq_some_iff.mp H
   obtain ⟨t106, A134, H⟩ := H
   replace H : (if t106 = true then (if t100 = t107 then (some (decide ((t111.length : Int) ≤ (t109.length : Int)))) else (some false)) else (some false)) = some r := H
   have A58 := Aside0.mk A134
   clear A134
   by_cases c59 : t106 = true
   rotate_left
   · replace c59 := Bool.eq_false_iff.mpr c59
     subst c59
     have H1 : (some false) = some r := by rw [if_neg (show ¬ (false = true) by decide)] at H; exact H
     clear H
     have H := H1
     clear H1
     obtain rfl := Option.some.inj H
     have hnb73 := NB114_117.out
     have hnc73 := NB117_114.out
     have hcz74_0 : wr.cell? ⟨gb114, 0, none⟩ = some (.int .i64 t107) := (blk_cell BK114.out 0).trans rfl
     have hcz74_1 : wr.cell? ⟨gb114, 1, none⟩ = some (.slice Ao9 t109.length co9) := (blk_cell BK114.out 1).trans rfl
     have hfz74_0 := blk_frozen BK114.out 0
     have hfz74_1 := blk_frozen BK114.out 1
     have hcz75_0 : wr.cell? ⟨gb117, 0, none⟩ = some (.int .i64 t100) := (blk_cell BK117.out 0).trans rfl
     have hcz75_1 : wr.cell? ⟨gb117, 1, none⟩ = some (.slice Ao14 t111.length co14) := (blk_cell BK117.out 1).trans rfl
     have hfz75_0 := blk_frozen BK117.out 0
     have hfz75_1 := blk_frozen BK117.out 1
     go_wp2_with (first | ((with_reducible refine gate_callee (f := 17) rfl ?_); refine goesL_ (some 71) rfl rfl Try.func17 (by kernel_rfl) rfl #[.agg #[.int .i64 t100, .slice Ao14 t111.length co14]] rfl qm ?_; (with_reducible refine (impl_NetOk.calls k2 t100 _ _ t111 false _ ?side1 ?side2 A58.out).mono ?_); (case side1 => exact qc (Kd.R_reads' HO_101001.out).2.2); (case side2 => exact (Kd.R_reads' HO_101001.out).2.1); rintro e w76 ⟨rfl, hb⟩; refine ⟨_, rfl, ?_⟩; have n0_ := q0 (Kd.R_below (qr HO_100001.out) hb); have n1_ := q0 (Kd.R_below (qr HO_101001.out) hb); have n2_ := q0 (kb BK114.out hb); have n3_ := q0 (kb BK117.out hb); have n4_ := q0 (below_step (qb HB.out) hb); clear HO_100001 HO_101001 BK114 BK117 HB; have HO_100001 := n0_; have HO_101001 := n1_; have BK114 := n2_; have BK117 := n3_; have HB := n4_; clear n0_ n1_ n2_ n3_ n4_; (try clear hb); (try clear hb2); (try clear hk); (try clear hi)))
     go_ret
     exact ⟨qe, qb HB.out⟩
   subst c59
   have H1 : (if t100 = t107 then (some (decide ((t111.length : Int) ≤ (t109.length : Int)))) else (some false)) = some r := by rw [if_pos rfl] at H; exact H
   clear H
   have H := H1
   clear H1
   by_cases c60 : t100 = t107
   rotate_left
   · rw [if_neg c60] at H
     have c60b0 : (t100 == t107) = false := beq_eq_false_iff_ne.mpr c60
     have c60b1 : (t100 != t107) = true := bne_iff_ne.mpr c60
     obtain rfl := Option.some.inj H
     have hnb67 := NB114_117.out
     have hnc67 := NB117_114.out
     have hcz68_0 : wr.cell? ⟨gb114, 0, none⟩ = some (.int .i64 t107) := (blk_cell BK114.out 0).trans rfl
     have hcz68_1 : wr.cell? ⟨gb114, 1, none⟩ = some (.slice Ao9 t109.length co9) := (blk_cell BK114.out 1).trans rfl
     have hfz68_0 := blk_frozen BK114.out 0
     have hfz68_1 := blk_frozen BK114.out 1
     have hcz69_0 : wr.cell? ⟨gb117, 0, none⟩ = some (.int .i64 t100) := (blk_cell BK117.out 0).trans rfl
     have hcz69_1 : wr.cell? ⟨gb117, 1, none⟩ = some (.slice Ao14 t111.length co14) := (blk_cell BK117.out 1).trans rfl
     have hfz69_0 := blk_frozen BK117.out 0
     have hfz69_1 := blk_frozen BK117.out 1
     go_wp2_with (first | ((with_reducible refine gate_callee (f := 17) rfl ?_); refine goesL_ (some 71) rfl rfl Try.func17 (by kernel_rfl) rfl #[.agg #[.int .i64 t100, .slice Ao14 t111.length co14]] rfl qm ?_; (with_reducible refine (impl_NetOk.calls k2 t100 _ _ t111 true _ ?side1 ?side2 A58.out).mono ?_); (case side1 => exact qc (Kd.R_reads' HO_101001.out).2.2); (case side2 => exact (Kd.R_reads' HO_101001.out).2.1); rintro e w70 ⟨rfl, hb⟩; refine ⟨_, rfl, ?_⟩; have n0_ := q0 (Kd.R_below (qr HO_100001.out) hb); have n1_ := q0 (Kd.R_below (qr HO_101001.out) hb); have n2_ := q0 (kb BK114.out hb); have n3_ := q0 (kb BK117.out hb); have n4_ := q0 (below_step (qb HB.out) hb); clear HO_100001 HO_101001 BK114 BK117 HB; have HO_100001 := n0_; have HO_101001 := n1_; have BK114 := n2_; have BK117 := n3_; have HB := n4_; clear n0_ n1_ n2_ n3_ n4_; (try clear hb); (try clear hb2); (try clear hk); (try clear hi); have hcz71_0 : w70.cell? ⟨gb117, 0, none⟩ = some (.int .i64 t100) := (blk_cell BK117.out 0).trans rfl; have hcz71_1 : w70.cell? ⟨gb117, 1, none⟩ = some (.slice Ao14 t111.length co14) := (blk_cell BK117.out 1).trans rfl; have hfz71_0 := blk_frozen BK117.out 0; have hfz71_1 := blk_frozen BK117.out 1; have hcz72_0 : w70.cell? ⟨gb114, 0, none⟩ = some (.int .i64 t107) := (blk_cell BK114.out 0).trans rfl; have hcz72_1 : w70.cell? ⟨gb114, 1, none⟩ = some (.slice Ao9 t109.length co9) := (blk_cell BK114.out 1).trans rfl; have hfz72_0 := blk_frozen BK114.out 0; have hfz72_1 := blk_frozen BK114.out 1))
     go_ret
     exact ⟨qe, qb HB.out⟩
   rw [if_pos c60] at H
   have c60b0 : (t100 == t107) = true := beq_iff_eq.mpr c60
   have c60b1 : (t100 != t107) = false := bne_eq_false_iff_eq.mpr c60
   clear c60
   obtain rfl := Option.some.inj H
   have hnb61 := NB114_117.out
   have hnc61 := NB117_114.out
   have hcz62_0 : wr.cell? ⟨gb114, 0, none⟩ = some (.int .i64 t107) := (blk_cell BK114.out 0).trans rfl
   have hcz62_1 : wr.cell? ⟨gb114, 1, none⟩ = some (.slice Ao9 t109.length co9) := (blk_cell BK114.out 1).trans rfl
   have hfz62_0 := blk_frozen BK114.out 0
   have hfz62_1 := blk_frozen BK114.out 1
   have hcz63_0 : wr.cell? ⟨gb117, 0, none⟩ = some (.int .i64 t100) := (blk_cell BK117.out 0).trans rfl
   have hcz63_1 : wr.cell? ⟨gb117, 1, none⟩ = some (.slice Ao14 t111.length co14) := (blk_cell BK117.out 1).trans rfl
   have hfz63_0 := blk_frozen BK117.out 0
   have hfz63_1 := blk_frozen BK117.out 1
   go_wp2_with (first | ((with_reducible refine gate_callee (f := 17) rfl ?_); refine goesL_ (some 71) rfl rfl Try.func17 (by kernel_rfl) rfl #[.agg #[.int .i64 t100, .slice Ao14 t111.length co14]] rfl qm ?_; (with_reducible refine (impl_NetOk.calls k2 t100 _ _ t111 true _ ?side1 ?side2 A58.out).mono ?_); (case side1 => exact qc (Kd.R_reads' HO_101001.out).2.2); (case side2 => exact (Kd.R_reads' HO_101001.out).2.1); rintro e w64 ⟨rfl, hb⟩; refine ⟨_, rfl, ?_⟩; have n0_ := q0 (Kd.R_below (qr HO_100001.out) hb); have n1_ := q0 (Kd.R_below (qr HO_101001.out) hb); have n2_ := q0 (kb BK114.out hb); have n3_ := q0 (kb BK117.out hb); have n4_ := q0 (below_step (qb HB.out) hb); clear HO_100001 HO_101001 BK114 BK117 HB; have HO_100001 := n0_; have HO_101001 := n1_; have BK114 := n2_; have BK117 := n3_; have HB := n4_; clear n0_ n1_ n2_ n3_ n4_; (try clear hb); (try clear hb2); (try clear hk); (try clear hi); have hcz65_0 : w64.cell? ⟨gb117, 0, none⟩ = some (.int .i64 t100) := (blk_cell BK117.out 0).trans rfl; have hcz65_1 : w64.cell? ⟨gb117, 1, none⟩ = some (.slice Ao14 t111.length co14) := (blk_cell BK117.out 1).trans rfl; have hfz65_0 := blk_frozen BK117.out 0; have hfz65_1 := blk_frozen BK117.out 1; have hcz66_0 : w64.cell? ⟨gb114, 0, none⟩ = some (.int .i64 t107) := (blk_cell BK114.out 0).trans rfl; have hcz66_1 : w64.cell? ⟨gb114, 1, none⟩ = some (.slice Ao9 t109.length co9) := (blk_cell BK114.out 1).trans rfl; have hfz66_0 := blk_frozen BK114.out 0; have hfz66_1 := blk_frozen BK114.out 1))
   go_ret
   exact ⟨qe, qb HB.out⟩
 rw [if_pos c35] at H
 have c35b0 : decide (x6_2 < (t109.length : Int)) = true := decide_eq_true c35
 clear c35
 by_cases c36 : 0 ≤ x6_2
 rotate_left
 · rw [if_neg c36] at H
   exact absurd H (by simp)
 rw [if_pos c36] at H
 have c36b0 : decide (0 ≤ x6_2) = true := decide_eq_true c36
 clear c36
 by_cases c37 : ((rd_TTie t109 x6_2).f0) = t110
 · rw [if_pos c37] at H
   have c37b0 : (((rd_TTie t109 x6_2).f0) == t110) = true := beq_iff_eq.mpr c37
   have c37b1 : (((rd_TTie t109 x6_2).f0) != t110) = false := bne_eq_false_iff_eq.mpr c37
   clear c37
   replace H := Option.bind_eq_some_iff.mp H
   obtain ⟨t104, A128, H⟩ := H
   replace H : (if (t104 == true) = true then (some false) else (laws_FnNetWithout.l0 k2 t110 (wrap64 (x6_2 + 1)) t107 t109 t100 t111)) = some r := H
   have A38 := Aside0.mk A128
   clear A128
   by_cases c39 : (t104 == true) = true
   · rw [if_pos c39] at H
     have c39b0 : (t104 == true) = true := c39
     (try (have c39b1 : decide (t104 = true) = true := by simpa using c39))
     (try (have c39b2 : (t104 == true) = true := by simpa using c39))
     clear c39
     obtain rfl := Option.some.inj H
     have hnb40 := NB114_117.out
     have hnc40 := NB117_114.out
     have hcz41_0 : wr.cell? ⟨gb114, 0, none⟩ = some (.int .i64 t107) := (blk_cell BK114.out 0).trans rfl
     have hcz41_1 : wr.cell? ⟨gb114, 1, none⟩ = some (.slice Ao9 t109.length co9) := (blk_cell BK114.out 1).trans rfl
     have hfz41_0 := blk_frozen BK114.out 0
     have hfz41_1 := blk_frozen BK114.out 1
     have p129 : 0 ≤ (x6_2 : Int) := of_decide_eq_true qa
     have q129 : x6_2 < (t109.length : Int) := of_decide_eq_true qa
     obtain ⟨ad129, e129, hx129_0, hx129_1⟩ := at_TTie (Kd.R_reads' HO_100001.out).2.2 x6_2 p129 q129
     cases e129
     replace p129 := eq_true p129
     replace q129 := eq_true q129
     try go_wp2
     have n0_ := q0 (Kd.R_drew HO_100001.out)
     have n1_ := q0 (Kd.R_drew HO_101001.out)
     have n2_ := q0 (blk_drew BK114.out)
     have n3_ := q0 (blk_drew BK117.out)
     have n4_ := q0 (below_drew1 HB.out)
     clear HO_100001
     clear HO_101001
     clear BK114
     clear BK117
     clear HB
     have HO_100001 := n0_
     have HO_101001 := n1_
     have BK114 := n2_
     have BK117 := n3_
     have HB := n4_
     clear n0_ n1_ n2_ n3_ n4_
     have p130 : 0 ≤ (x6_2 : Int) := of_decide_eq_true qa
     have q130 : x6_2 < (t109.length : Int) := of_decide_eq_true qa
     obtain ⟨ad130, e130, hx130_0, hx130_1⟩ := at_TTie (Kd.R_reads' HO_100001.out).2.2 x6_2 p130 q130
     obtain rfl : ad129 = ad130 := (by injection e130)
     replace p130 := eq_true p130
     replace q130 := eq_true q130
     refine start_ (n := 10) (S := fun w' => w'.cell? ⟨gb117, 0, none⟩ = some (.int .i64 t100) ∧ w'.cell? ⟨gb117, 1, none⟩ = some (.slice Ao14 t111.length co14) ∧ w'.cell? ⟨gb114, 0, none⟩ = some (.int .i64 t107) ∧ w'.cell? ⟨gb114, 1, none⟩ = some (.slice (some ad129) t109.length co9) ∧ w'.cell? (ad129.add ((x6_2).toNat * 2)) = some (.int .i64 ((rd_TTie t109 x6_2).f0)) ∧ w'.cell? ⟨(ad129.add ((x6_2).toNat * 2)).block, (ad129.add ((x6_2).toNat * 2)).off + 1, none⟩ = some (.int .i64 ((rd_TTie t109 x6_2).f1))) (ds := []) (ba 10 0) (by kernel_rfl) rfl (by kernel_rfl) ⟨(blk_cell BK117.out 0).trans rfl, (blk_cell BK117.out 1).trans rfl, (blk_cell BK114.out 0).trans rfl, (blk_cell BK114.out 1).trans rfl, hx130_0, hx130_1⟩ (fun hHeld => ?_); refine with_tabW laws_FnNetWithout.tab11 laws_FnNetWithout.bits11 (fun HT_ HW_ => ?_)
     generalize wr.drew = w42 at HO_100001 HO_101001 BK114 BK117 HB hx130_0 hx130_1 hHeld ⊢
     refine pu 0 (some 60) (ba 10 1) HT_.out ?_
     refine pu 2 (some 62) (ba 10 5) HT_.out ?_
     refine pu 4 (some 64) (ba 10 21) HT_.out ?_
     refine pu 8 (some 68) (ba 10 277) HT_.out ?_
     refine tu 1 (some 61) (ba 10 279) HT_.out HW_.out hHeld ?_
     refine tu 3 (some 63) (ba 10 287) HT_.out HW_.out hHeld ?_
     refine pu 5 (some 65) (ba 10 319) HT_.out ?_
     refine tu 6 (some 66) (ba 10 383) HT_.out HW_.out hHeld ?_
     refine one_ (i := 7) (N := some 67) (ba 10 511) rfl rfl (one_of HT_.out (by kernel_rfl)) (by decide) (fun K hK => ?_)
     refine goes_ Try.func36 (by kernel_rfl) rfl #[.slice Ao14 t111.length co14, .agg #[.int .i64 ((rd_TTie t109 x6_2).f0), .int .i64 ((rd_TTie t109 x6_2).f1)]] (by rfl) rfl rfl qm ?_
     with_reducible refine (laws_loHas.calls k2 _ _ t111 ((rd_TTie t109 x6_2).f0) ((rd_TTie t109 x6_2).f1) t104 _ ?side1 ?side2 A38.out).mono ?_
     (case side1 => exact qc (Kd.R_reads' HO_101001.out).2.2)
     (case side2 => exact (Kd.R_reads' HO_101001.out).2.1)
     rintro e w43 ⟨rfl, hb⟩
     have HS4_ := (hb.cell (World.block_lt_of_cell? _ _ (hHeld.2.2.2.2.1))).trans (hHeld.2.2.2.2.1)
     have HS5_ := (hb.cell (World.block_lt_of_cell? _ _ (hHeld.2.2.2.2.2))).trans (hHeld.2.2.2.2.2)
     refine ⟨_, rfl, ?_⟩
     have n0_ := q0 (Kd.R_below (qr HO_100001.out) hb)
     have n1_ := q0 (Kd.R_below (qr HO_101001.out) hb)
     have n2_ := q0 (kb BK114.out hb)
     have n3_ := q0 (kb BK117.out hb)
     have n4_ := q0 (below_step (qb HB.out) hb)
     clear HO_100001
     clear HO_101001
     clear BK114
     clear BK117
     clear HB
     have HO_100001 := n0_
     have HO_101001 := n1_
     have BK114 := n2_
     have BK117 := n3_
     have HB := n4_
     clear n0_ n1_ n2_ n3_ n4_
     (try clear hb)
     (try clear hb2)
     (try clear hk)
     (try clear hi)
     refine hK.out _ _ ⟨(blk_cell BK117.out 0).trans rfl, (blk_cell BK117.out 1).trans rfl, (blk_cell BK114.out 0).trans rfl, (blk_cell BK114.out 1).trans rfl, HS4_, HS5_⟩ (fun hHeld => ?_)
     clear hK K
     refine nu 67 ?_
     refine pu 9 (some 69) (ba 10 1023) HT_.out ?_
     refine done_ (done_of HT_.out (by kernel_rfl)) ?_
     try go_wp2
     go_ret
     exact ⟨qe, qb HB.out⟩
   rw [if_neg c39] at H
   have c39b0 : (t104 == true) = false := by simpa using c39
   (try (have c39b1 : decide (t104 = true) = false := by simpa using c39))
   (try (have c39b2 : (t104 == true) = false := by simpa using c39))
   (try (have c39b3 : ¬ (t104 = true) := by simpa using c39))
   clear c39
   have H' := Aside0.mk H
   clear H
   have hnb44 := NB114_117.out
   have hnc44 := NB117_114.out
   have hcz45_0 : wr.cell? ⟨gb114, 0, none⟩ = some (.int .i64 t107) := (blk_cell BK114.out 0).trans rfl
   have hcz45_1 : wr.cell? ⟨gb114, 1, none⟩ = some (.slice Ao9 t109.length co9) := (blk_cell BK114.out 1).trans rfl
   have hfz45_0 := blk_frozen BK114.out 0
   have hfz45_1 := blk_frozen BK114.out 1
   have p129 : 0 ≤ (x6_2 : Int) := of_decide_eq_true qa
   have q129 : x6_2 < (t109.length : Int) := of_decide_eq_true qa
   obtain ⟨ad129, e129, hx129_0, hx129_1⟩ := at_TTie (Kd.R_reads' HO_100001.out).2.2 x6_2 p129 q129
   cases e129
   replace p129 := eq_true p129
   replace q129 := eq_true q129
   try go_wp2
   have n0_ := q0 (Kd.R_drew HO_100001.out)
   have n1_ := q0 (Kd.R_drew HO_101001.out)
   have n2_ := q0 (blk_drew BK114.out)
   have n3_ := q0 (blk_drew BK117.out)
   have n4_ := q0 (below_drew1 HB.out)
   clear HO_100001
   clear HO_101001
   clear BK114
   clear BK117
   clear HB
   have HO_100001 := n0_
   have HO_101001 := n1_
   have BK114 := n2_
   have BK117 := n3_
   have HB := n4_
   clear n0_ n1_ n2_ n3_ n4_
   have p130 : 0 ≤ (x6_2 : Int) := of_decide_eq_true qa
   have q130 : x6_2 < (t109.length : Int) := of_decide_eq_true qa
   obtain ⟨ad130, e130, hx130_0, hx130_1⟩ := at_TTie (Kd.R_reads' HO_100001.out).2.2 x6_2 p130 q130
   obtain rfl : ad129 = ad130 := (by injection e130)
   replace p130 := eq_true p130
   replace q130 := eq_true q130
   refine start_ (n := 10) (S := fun w' => w'.cell? ⟨gb117, 0, none⟩ = some (.int .i64 t100) ∧ w'.cell? ⟨gb117, 1, none⟩ = some (.slice Ao14 t111.length co14) ∧ w'.cell? ⟨gb114, 0, none⟩ = some (.int .i64 t107) ∧ w'.cell? ⟨gb114, 1, none⟩ = some (.slice (some ad129) t109.length co9) ∧ w'.cell? (ad129.add ((x6_2).toNat * 2)) = some (.int .i64 ((rd_TTie t109 x6_2).f0)) ∧ w'.cell? ⟨(ad129.add ((x6_2).toNat * 2)).block, (ad129.add ((x6_2).toNat * 2)).off + 1, none⟩ = some (.int .i64 ((rd_TTie t109 x6_2).f1))) (ds := []) (ba 10 0) (by kernel_rfl) rfl (by kernel_rfl) ⟨(blk_cell BK117.out 0).trans rfl, (blk_cell BK117.out 1).trans rfl, (blk_cell BK114.out 0).trans rfl, (blk_cell BK114.out 1).trans rfl, hx130_0, hx130_1⟩ (fun hHeld => ?_); refine with_tabW laws_FnNetWithout.tab11 laws_FnNetWithout.bits11 (fun HT_ HW_ => ?_)
   generalize wr.drew = w46 at HO_100001 HO_101001 BK114 BK117 HB hx130_0 hx130_1 hHeld ⊢
   refine pu 0 (some 60) (ba 10 1) HT_.out ?_
   refine pu 2 (some 62) (ba 10 5) HT_.out ?_
   refine pu 4 (some 64) (ba 10 21) HT_.out ?_
   refine pu 8 (some 68) (ba 10 277) HT_.out ?_
   refine tu 1 (some 61) (ba 10 279) HT_.out HW_.out hHeld ?_
   refine tu 3 (some 63) (ba 10 287) HT_.out HW_.out hHeld ?_
   refine pu 5 (some 65) (ba 10 319) HT_.out ?_
   refine tu 6 (some 66) (ba 10 383) HT_.out HW_.out hHeld ?_
   refine one_ (i := 7) (N := some 67) (ba 10 511) rfl rfl (one_of HT_.out (by kernel_rfl)) (by decide) (fun K hK => ?_)
   refine goes_ Try.func36 (by kernel_rfl) rfl #[.slice Ao14 t111.length co14, .agg #[.int .i64 ((rd_TTie t109 x6_2).f0), .int .i64 ((rd_TTie t109 x6_2).f1)]] (by rfl) rfl rfl qm ?_
   with_reducible refine (laws_loHas.calls k2 _ _ t111 ((rd_TTie t109 x6_2).f0) ((rd_TTie t109 x6_2).f1) t104 _ ?side1 ?side2 A38.out).mono ?_
   (case side1 => exact qc (Kd.R_reads' HO_101001.out).2.2)
   (case side2 => exact (Kd.R_reads' HO_101001.out).2.1)
   rintro e w47 ⟨rfl, hb⟩
   have HS4_ := (hb.cell (World.block_lt_of_cell? _ _ (hHeld.2.2.2.2.1))).trans (hHeld.2.2.2.2.1)
   have HS5_ := (hb.cell (World.block_lt_of_cell? _ _ (hHeld.2.2.2.2.2))).trans (hHeld.2.2.2.2.2)
   refine ⟨_, rfl, ?_⟩
   have n0_ := q0 (Kd.R_below (qr HO_100001.out) hb)
   have n1_ := q0 (Kd.R_below (qr HO_101001.out) hb)
   have n2_ := q0 (kb BK114.out hb)
   have n3_ := q0 (kb BK117.out hb)
   have n4_ := q0 (below_step (qb HB.out) hb)
   clear HO_100001
   clear HO_101001
   clear BK114
   clear BK117
   clear HB
   have HO_100001 := n0_
   have HO_101001 := n1_
   have BK114 := n2_
   have BK117 := n3_
   have HB := n4_
   clear n0_ n1_ n2_ n3_ n4_
   (try clear hb)
   (try clear hb2)
   (try clear hk)
   (try clear hi)
   refine hK.out _ _ ⟨(blk_cell BK117.out 0).trans rfl, (blk_cell BK117.out 1).trans rfl, (blk_cell BK114.out 0).trans rfl, (blk_cell BK114.out 1).trans rfl, HS4_, HS5_⟩ (fun hHeld => ?_)
   clear hK K
   refine nu 67 ?_
   refine pu 9 (some 69) (ba 10 1023) HT_.out ?_
   refine done_ (done_of HT_.out (by kernel_rfl)) ?_
   try go_wp2
   go_roundg k2
   case measure => have := HJ4.out; have := HK2.out; omega
   case rel => exact ⟨(wrap64 (x6_2 + 1)), qs, H', ⟨by have := HJ4.out; have := HK2.out; omega⟩, ⟨qr HO_100001.out⟩, ⟨qr HO_101001.out⟩, ⟨qk BK114.out⟩, ⟨qk BK117.out⟩, ⟨qb HB.out⟩⟩
 rw [if_neg c37] at H
 have c37b0 : (((rd_TTie t109 x6_2).f0) == t110) = false := beq_eq_false_iff_ne.mpr c37
 have c37b1 : (((rd_TTie t109 x6_2).f0) != t110) = true := bne_iff_ne.mpr c37
 replace H := Option.bind_eq_some_iff.mp H
 obtain ⟨t105, A131, H⟩ := H
 replace H : (if (t105 == (((rd_TTie t109 x6_2).f1) == t110)) = true then (some false) else (laws_FnNetWithout.l0 k2 t110 (wrap64 (x6_2 + 1)) t107 t109 t100 t111)) = some r := H
 have A48 := Aside0.mk A131
 clear A131
 by_cases c49 : (t105 == (((rd_TTie t109 x6_2).f1) == t110)) = true
 · rw [if_pos c49] at H
   have c49b0 : (t105 == (((rd_TTie t109 x6_2).f1) == t110)) = true := c49
   (try (have c49b1 : decide (t105 = (((rd_TTie t109 x6_2).f1) == t110)) = true := by simpa using c49))
   (try (have c49b2 : (t105 == (((rd_TTie t109 x6_2).f1) == t110)) = true := by simpa using c49))
   clear c49
   obtain rfl := Option.some.inj H
   have hnb50 := NB114_117.out
   have hnc50 := NB117_114.out
   have hcz51_0 : wr.cell? ⟨gb114, 0, none⟩ = some (.int .i64 t107) := (blk_cell BK114.out 0).trans rfl
   have hcz51_1 : wr.cell? ⟨gb114, 1, none⟩ = some (.slice Ao9 t109.length co9) := (blk_cell BK114.out 1).trans rfl
   have hfz51_0 := blk_frozen BK114.out 0
   have hfz51_1 := blk_frozen BK114.out 1
   have p129 : 0 ≤ (x6_2 : Int) := of_decide_eq_true qa
   have q129 : x6_2 < (t109.length : Int) := of_decide_eq_true qa
   obtain ⟨ad129, e129, hx129_0, hx129_1⟩ := at_TTie (Kd.R_reads' HO_100001.out).2.2 x6_2 p129 q129
   cases e129
   replace p129 := eq_true p129
   replace q129 := eq_true q129
   have p132 : 0 ≤ (x6_2 : Int) := of_decide_eq_true qa
   have q132 : x6_2 < (t109.length : Int) := of_decide_eq_true qa
   obtain ⟨ad132, e132, hx132_0, hx132_1⟩ := at_TTie (Kd.R_reads' HO_100001.out).2.2 x6_2 p132 q132
   obtain rfl : ad129 = ad132 := (by injection e132)
   replace p132 := eq_true p132
   replace q132 := eq_true q132
   try go_wp2
   have n0_ := q0 (Kd.R_drew HO_100001.out)
   have n1_ := q0 (Kd.R_drew HO_101001.out)
   have n2_ := q0 (blk_drew BK114.out)
   have n3_ := q0 (blk_drew BK117.out)
   have n4_ := q0 (below_drew1 HB.out)
   clear HO_100001
   clear HO_101001
   clear BK114
   clear BK117
   clear HB
   have HO_100001 := n0_
   have HO_101001 := n1_
   have BK114 := n2_
   have BK117 := n3_
   have HB := n4_
   clear n0_ n1_ n2_ n3_ n4_
   have p133 : 0 ≤ (x6_2 : Int) := of_decide_eq_true qa
   have q133 : x6_2 < (t109.length : Int) := of_decide_eq_true qa
   obtain ⟨ad133, e133, hx133_0, hx133_1⟩ := at_TTie (Kd.R_reads' HO_100001.out).2.2 x6_2 p133 q133
   obtain rfl : ad129 = ad133 := (by injection e133)
   replace p133 := eq_true p133
   replace q133 := eq_true q133
   refine start_ (n := 10) (S := fun w' => w'.cell? ⟨gb117, 0, none⟩ = some (.int .i64 t100) ∧ w'.cell? ⟨gb117, 1, none⟩ = some (.slice Ao14 t111.length co14) ∧ w'.cell? ⟨gb114, 0, none⟩ = some (.int .i64 t107) ∧ w'.cell? ⟨gb114, 1, none⟩ = some (.slice (some ad129) t109.length co9) ∧ w'.cell? (ad129.add ((x6_2).toNat * 2)) = some (.int .i64 ((rd_TTie t109 x6_2).f0)) ∧ w'.cell? ⟨(ad129.add ((x6_2).toNat * 2)).block, (ad129.add ((x6_2).toNat * 2)).off + 1, none⟩ = some (.int .i64 ((rd_TTie t109 x6_2).f1))) (ds := []) (ba 10 0) (by kernel_rfl) rfl (by kernel_rfl) ⟨(blk_cell BK117.out 0).trans rfl, (blk_cell BK117.out 1).trans rfl, (blk_cell BK114.out 0).trans rfl, (blk_cell BK114.out 1).trans rfl, hx133_0, hx133_1⟩ (fun hHeld => ?_); refine with_tabW laws_FnNetWithout.tab11 laws_FnNetWithout.bits11 (fun HT_ HW_ => ?_)
   generalize wr.drew = w52 at HO_100001 HO_101001 BK114 BK117 HB hx133_0 hx133_1 hHeld ⊢
   refine pu 0 (some 60) (ba 10 1) HT_.out ?_
   refine pu 2 (some 62) (ba 10 5) HT_.out ?_
   refine pu 4 (some 64) (ba 10 21) HT_.out ?_
   refine pu 8 (some 68) (ba 10 277) HT_.out ?_
   refine tu 1 (some 61) (ba 10 279) HT_.out HW_.out hHeld ?_
   refine tu 3 (some 63) (ba 10 287) HT_.out HW_.out hHeld ?_
   refine pu 5 (some 65) (ba 10 319) HT_.out ?_
   refine tu 6 (some 66) (ba 10 383) HT_.out HW_.out hHeld ?_
   refine one_ (i := 7) (N := some 67) (ba 10 511) rfl rfl (one_of HT_.out (by kernel_rfl)) (by decide) (fun K hK => ?_)
   refine goes_ Try.func36 (by kernel_rfl) rfl #[.slice Ao14 t111.length co14, .agg #[.int .i64 ((rd_TTie t109 x6_2).f0), .int .i64 ((rd_TTie t109 x6_2).f1)]] (by rfl) rfl rfl qm ?_
   with_reducible refine (laws_loHas.calls k2 _ _ t111 ((rd_TTie t109 x6_2).f0) ((rd_TTie t109 x6_2).f1) t105 _ ?side1 ?side2 A48.out).mono ?_
   (case side1 => exact qc (Kd.R_reads' HO_101001.out).2.2)
   (case side2 => exact (Kd.R_reads' HO_101001.out).2.1)
   rintro e w53 ⟨rfl, hb⟩
   have HS4_ := (hb.cell (World.block_lt_of_cell? _ _ (hHeld.2.2.2.2.1))).trans (hHeld.2.2.2.2.1)
   have HS5_ := (hb.cell (World.block_lt_of_cell? _ _ (hHeld.2.2.2.2.2))).trans (hHeld.2.2.2.2.2)
   refine ⟨_, rfl, ?_⟩
   have n0_ := q0 (Kd.R_below (qr HO_100001.out) hb)
   have n1_ := q0 (Kd.R_below (qr HO_101001.out) hb)
   have n2_ := q0 (kb BK114.out hb)
   have n3_ := q0 (kb BK117.out hb)
   have n4_ := q0 (below_step (qb HB.out) hb)
   clear HO_100001
   clear HO_101001
   clear BK114
   clear BK117
   clear HB
   have HO_100001 := n0_
   have HO_101001 := n1_
   have BK114 := n2_
   have BK117 := n3_
   have HB := n4_
   clear n0_ n1_ n2_ n3_ n4_
   (try clear hb)
   (try clear hb2)
   (try clear hk)
   (try clear hi)
   refine hK.out _ _ ⟨(blk_cell BK117.out 0).trans rfl, (blk_cell BK117.out 1).trans rfl, (blk_cell BK114.out 0).trans rfl, (blk_cell BK114.out 1).trans rfl, HS4_, HS5_⟩ (fun hHeld => ?_)
   clear hK K
   refine nu 67 ?_
   refine pu 9 (some 69) (ba 10 1023) HT_.out ?_
   refine done_ (done_of HT_.out (by kernel_rfl)) ?_
   try go_wp2
   go_ret
   exact ⟨qe, qb HB.out⟩
 rw [if_neg c49] at H
 have c49b0 : (t105 == (((rd_TTie t109 x6_2).f1) == t110)) = false := by simpa using c49
 (try (have c49b1 : decide (t105 = (((rd_TTie t109 x6_2).f1) == t110)) = false := by simpa using c49))
 (try (have c49b2 : (t105 == (((rd_TTie t109 x6_2).f1) == t110)) = false := by simpa using c49))
 (try (have c49b3 : ¬ (t105 = (((rd_TTie t109 x6_2).f1) == t110)) := by simpa using c49))
 clear c49
 have H' := Aside0.mk H
 clear H
 have hnb54 := NB114_117.out
 have hnc54 := NB117_114.out
 have hcz55_0 : wr.cell? ⟨gb114, 0, none⟩ = some (.int .i64 t107) := (blk_cell BK114.out 0).trans rfl
 have hcz55_1 : wr.cell? ⟨gb114, 1, none⟩ = some (.slice Ao9 t109.length co9) := (blk_cell BK114.out 1).trans rfl
 have hfz55_0 := blk_frozen BK114.out 0
 have hfz55_1 := blk_frozen BK114.out 1
 have p129 : 0 ≤ (x6_2 : Int) := of_decide_eq_true qa
 have q129 : x6_2 < (t109.length : Int) := of_decide_eq_true qa
 obtain ⟨ad129, e129, hx129_0, hx129_1⟩ := at_TTie (Kd.R_reads' HO_100001.out).2.2 x6_2 p129 q129
 cases e129
 replace p129 := eq_true p129
 replace q129 := eq_true q129
 have p132 : 0 ≤ (x6_2 : Int) := of_decide_eq_true qa
 have q132 : x6_2 < (t109.length : Int) := of_decide_eq_true qa
 obtain ⟨ad132, e132, hx132_0, hx132_1⟩ := at_TTie (Kd.R_reads' HO_100001.out).2.2 x6_2 p132 q132
 obtain rfl : ad129 = ad132 := (by injection e132)
 replace p132 := eq_true p132
 replace q132 := eq_true q132
 try go_wp2
 have n0_ := q0 (Kd.R_drew HO_100001.out)
 have n1_ := q0 (Kd.R_drew HO_101001.out)
 have n2_ := q0 (blk_drew BK114.out)
 have n3_ := q0 (blk_drew BK117.out)
 have n4_ := q0 (below_drew1 HB.out)
 clear HO_100001
 clear HO_101001
 clear BK114
 clear BK117
 clear HB
 have HO_100001 := n0_
 have HO_101001 := n1_
 have BK114 := n2_
 have BK117 := n3_
 have HB := n4_
 clear n0_ n1_ n2_ n3_ n4_
 have p133 : 0 ≤ (x6_2 : Int) := of_decide_eq_true qa
 have q133 : x6_2 < (t109.length : Int) := of_decide_eq_true qa
 obtain ⟨ad133, e133, hx133_0, hx133_1⟩ := at_TTie (Kd.R_reads' HO_100001.out).2.2 x6_2 p133 q133
 obtain rfl : ad129 = ad133 := (by injection e133)
 replace p133 := eq_true p133
 replace q133 := eq_true q133
 refine start_ (n := 10) (S := fun w' => w'.cell? ⟨gb117, 0, none⟩ = some (.int .i64 t100) ∧ w'.cell? ⟨gb117, 1, none⟩ = some (.slice Ao14 t111.length co14) ∧ w'.cell? ⟨gb114, 0, none⟩ = some (.int .i64 t107) ∧ w'.cell? ⟨gb114, 1, none⟩ = some (.slice (some ad129) t109.length co9) ∧ w'.cell? (ad129.add ((x6_2).toNat * 2)) = some (.int .i64 ((rd_TTie t109 x6_2).f0)) ∧ w'.cell? ⟨(ad129.add ((x6_2).toNat * 2)).block, (ad129.add ((x6_2).toNat * 2)).off + 1, none⟩ = some (.int .i64 ((rd_TTie t109 x6_2).f1))) (ds := []) (ba 10 0) (by kernel_rfl) rfl (by kernel_rfl) ⟨(blk_cell BK117.out 0).trans rfl, (blk_cell BK117.out 1).trans rfl, (blk_cell BK114.out 0).trans rfl, (blk_cell BK114.out 1).trans rfl, hx133_0, hx133_1⟩ (fun hHeld => ?_); refine with_tabW laws_FnNetWithout.tab11 laws_FnNetWithout.bits11 (fun HT_ HW_ => ?_)
 generalize wr.drew = w56 at HO_100001 HO_101001 BK114 BK117 HB hx133_0 hx133_1 hHeld ⊢
 refine pu 0 (some 60) (ba 10 1) HT_.out ?_
 refine pu 2 (some 62) (ba 10 5) HT_.out ?_
 refine pu 4 (some 64) (ba 10 21) HT_.out ?_
 refine pu 8 (some 68) (ba 10 277) HT_.out ?_
 refine tu 1 (some 61) (ba 10 279) HT_.out HW_.out hHeld ?_
 refine tu 3 (some 63) (ba 10 287) HT_.out HW_.out hHeld ?_
 refine pu 5 (some 65) (ba 10 319) HT_.out ?_
 refine tu 6 (some 66) (ba 10 383) HT_.out HW_.out hHeld ?_
 refine one_ (i := 7) (N := some 67) (ba 10 511) rfl rfl (one_of HT_.out (by kernel_rfl)) (by decide) (fun K hK => ?_)
 refine goes_ Try.func36 (by kernel_rfl) rfl #[.slice Ao14 t111.length co14, .agg #[.int .i64 ((rd_TTie t109 x6_2).f0), .int .i64 ((rd_TTie t109 x6_2).f1)]] (by rfl) rfl rfl qm ?_
 with_reducible refine (laws_loHas.calls k2 _ _ t111 ((rd_TTie t109 x6_2).f0) ((rd_TTie t109 x6_2).f1) t105 _ ?side1 ?side2 A48.out).mono ?_
 (case side1 => exact qc (Kd.R_reads' HO_101001.out).2.2)
 (case side2 => exact (Kd.R_reads' HO_101001.out).2.1)
 rintro e w57 ⟨rfl, hb⟩
 have HS4_ := (hb.cell (World.block_lt_of_cell? _ _ (hHeld.2.2.2.2.1))).trans (hHeld.2.2.2.2.1)
 have HS5_ := (hb.cell (World.block_lt_of_cell? _ _ (hHeld.2.2.2.2.2))).trans (hHeld.2.2.2.2.2)
 refine ⟨_, rfl, ?_⟩
 have n0_ := q0 (Kd.R_below (qr HO_100001.out) hb)
 have n1_ := q0 (Kd.R_below (qr HO_101001.out) hb)
 have n2_ := q0 (kb BK114.out hb)
 have n3_ := q0 (kb BK117.out hb)
 have n4_ := q0 (below_step (qb HB.out) hb)
 clear HO_100001
 clear HO_101001
 clear BK114
 clear BK117
 clear HB
 have HO_100001 := n0_
 have HO_101001 := n1_
 have BK114 := n2_
 have BK117 := n3_
 have HB := n4_
 clear n0_ n1_ n2_ n3_ n4_
 (try clear hb)
 (try clear hb2)
 (try clear hk)
 (try clear hi)
 refine hK.out _ _ ⟨(blk_cell BK117.out 0).trans rfl, (blk_cell BK117.out 1).trans rfl, (blk_cell BK114.out 0).trans rfl, (blk_cell BK114.out 1).trans rfl, HS4_, HS5_⟩ (fun hHeld => ?_)
 clear hK K
 refine nu 67 ?_
 refine pu 9 (some 69) (ba 10 1023) HT_.out ?_
 refine done_ (done_of HT_.out (by kernel_rfl)) ?_
 try go_wp2
 go_roundg k2
 case measure => have := HJ4.out; have := HK2.out; omega
 case rel => exact ⟨(wrap64 (x6_2 + 1)), qs, H', ⟨by have := HJ4.out; have := HK2.out; omega⟩, ⟨qr HO_100001.out⟩, ⟨qr HO_101001.out⟩, ⟨qk BK114.out⟩, ⟨qk BK117.out⟩, ⟨qb HB.out⟩⟩

theorem laws_FnNetWithout.walk (P : laws_FnNetWithout.Pure) (a0 : Option Addr) (len0 cap0 : Nat) (z0 : List Int) (w : World) (w0 : (a0 = none ∧ len0 = 0 ∧ cap0 = 0 ∧ z0 = []) ∨ ∃ x, a0 = some x ∧ len0 ≤ cap0 ∧ cap0 ≤ maxLen ∧ z0.length = cap0 ∧ (∀ i, i < z0.length → w.cell? (x.add i) = some (.int .u8 (z0.getD i 0))) ∧ ∀ n ∈ z0, (Lit.int .u8 n).wf = true) (y0 : len0 * 1 ≤ 140737488351232) :
    Calls Try.prog 11 #[.slice a0 len0 cap0] w fun e w' => e = .returned (.bool true) ∧ Below w.heap.size w w' := by
  obtain ⟨l0, rfl, hr0, hm0, hw0, hc0⟩ := ReadsInt.ofRowC w0
  obtain ⟨k, h⟩ := P l0 hm0 y0 hw0
  refine (laws_FnNetWithout.calls k _ _ l0 true w (Kd.C_of_reads (d := (0 : Int)) (h1 := fun _ => rfl) hr0) hc0 h).mono ?_
  rintro e w' ⟨rfl, hd⟩
  exact ⟨rfl, hd⟩
end Go.Proofs.Ythaihdfkjhammaa.P
