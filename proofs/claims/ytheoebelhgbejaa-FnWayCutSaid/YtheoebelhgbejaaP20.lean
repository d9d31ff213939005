import Derived.Test.YtheoebelhgbejaaP0
import Derived.Test.YtheoebelhgbejaaP6
import Derived.Test.YtheoebelhgbejaaP7
import Derived.Test.YtheoebelhgbejaaP10
import Derived.Test.YtheoebelhgbejaaP13
import Derived.Test.YtheoebelhgbejaaP18
namespace Go.Proofs.Ytheoebelhgbejaa.P
open Go.RowKit Go.Proofs.YtheoebelhgbejaaW.PrintWords Go.Proofs.YtheoebelhgbejaaW.PrintLast Go.Proofs.YtheoebelhgbejaaW.PrintMore
attribute [local go_sem] max2_int min2_int max_two min_two max_three min_three max_four min_four
set_option linter.unusedVariables false
set_option linter.unusedSimpArgs false
attribute [local go_sem high] eqATie
set_option maxHeartbeats 8000000 in
set_option maxRecDepth 100000 in
theorem spec_l71Pair.calls (k : Nat) (g : Nat) (s0_0 : List Int) (s0_1 : Int) (r1 : Int) (r2 : List (STie)) (r3 : Int) (r4 : Int) (r5 : Int) (w0 w : World) (hI : IsSRd w0 w g s0_0 s0_1) (hB : Below w0.heap.size w0 w) (h : spec_l71Pair.f k s0_0 s0_1 = some (r1, r2, r3, r4, r5)) :
    Calls Try.prog 83 #[.pointer (some ⟨g, 0, none⟩)] w fun e w' => ∃ v1_ : Value, e = .returned (.tuple #[.agg #[.int .i64 r1, v1_], .int .i64 r3, .int .i64 r4]) ∧ Kd.R kTie 44 w' w.heap.size (fun _ => True) v1_ r2 ∧ IsSRd w0 w' g s0_0 r5 ∧ Below w0.heap.size w0 w' ∧ KeepBut w w' g none := by
 have hu30 := Try.underlying30
 have HI0 := Aside0.mk hI
 have HK := q0 (KeepBut.refl w g none)
 have HL := Aside0.mk hB.size
 clear hI
 have HW0 := Aside0.mk hB.size
 have HB := Aside0.mk hB
 clear hB
 have H : ((spec_l71Any.f k s0_0 s0_1).bind fun bt100 => ((spec_l71Knot.f k s0_0 bt100.2.2 bt100.1 bt100.2.1).bind fun bt101 => ((spec_l71Knot.f k s0_0 bt101.2 bt100.1 bt100.2.1).bind fun bt102 => (if bt101.1 = bt102.1 then (if bt100.1 > 1 then ((spec_l6Rd_pick.f k s0_0 bt102.2 8).bind fun bt103 => (if bt103.1 > 0 then (if bt100.1 = 0 then (none) else (some (bt100.1, bt100.2.1, bt101.1, Int.tmod (wrap64 (bt101.1 + 1)) bt100.1, bt103.2))) else (some (bt100.1, bt100.2.1, bt101.1, bt102.1, bt103.2)))) else (some (bt100.1, bt100.2.1, bt101.1, bt102.1, bt102.2))) else (some (bt100.1, bt100.2.1, bt101.1, bt102.1, bt102.2)))))) = some (r1, r2, r3, r4, r5) := h
 clear h
 replace H := Option.bind_eq_some_iff.mp H
 obtain ⟨⟨t100, t104, t105⟩, A20, H⟩ := H
 replace H : ((spec_l71Knot.f k s0_0 t105 t100 t104).bind fun bt101 => ((spec_l71Knot.f k s0_0 bt101.2 t100 t104).bind fun bt102 => (if bt101.1 = bt102.1 then (if t100 > 1 then ((spec_l6Rd_pick.f k s0_0 bt102.2 8).bind fun bt103 => (if bt103.1 > 0 then (if t100 = 0 then (none) else (some (t100, t104, bt101.1, Int.tmod (wrap64 (bt101.1 + 1)) t100, bt103.2))) else (some (t100, t104, bt101.1, bt102.1, bt103.2)))) else (some (t100, t104, bt101.1, bt102.1, bt102.2))) else (some (t100, t104, bt101.1, bt102.1, bt102.2))))) = some (r1, r2, r3, r4, r5) := H
 have A2 := Aside0.mk A20
 clear A20
 replace H := Option.bind_eq_some_iff.mp H
 obtain ⟨⟨t101, t106⟩, A30, H⟩ := H
 replace H : ((spec_l71Knot.f k s0_0 t106 t100 t104).bind fun bt102 => (if t101 = bt102.1 then (if t100 > 1 then ((spec_l6Rd_pick.f k s0_0 bt102.2 8).bind fun bt103 => (if bt103.1 > 0 then (if t100 = 0 then (none) else (some (t100, t104, t101, Int.tmod (wrap64 (t101 + 1)) t100, bt103.2))) else (some (t100, t104, t101, bt102.1, bt103.2)))) else (some (t100, t104, t101, bt102.1, bt102.2))) else (some (t100, t104, t101, bt102.1, bt102.2)))) = some (r1, r2, r3, r4, r5) := H
 have A3 := Aside0.mk A30
 clear A30
 replace H := Option.bind_eq_some_iff.mp H
 obtain ⟨⟨t102, t107⟩, A40, H⟩ := H
 replace H : (if t101 = t102 then (if t100 > 1 then ((spec_l6Rd_pick.f k s0_0 t107 8).bind fun bt103 => (if bt103.1 > 0 then (if t100 = 0 then (none) else (some (t100, t104, t101, Int.tmod (wrap64 (t101 + 1)) t100, bt103.2))) else (some (t100, t104, t101, t102, bt103.2)))) else (some (t100, t104, t101, t102, t107))) else (some (t100, t104, t101, t102, t107))) = some (r1, r2, r3, r4, r5) := H
 have A4 := Aside0.mk A40
 clear A40
 by_cases c5 : t101 = t102
 rotate_left
 · rw [if_neg c5] at H
   have c5b0 : (t101 == t102) = false := beq_eq_false_iff_ne.mpr c5
   have c5b1 : (t101 != t102) = true := bne_iff_ne.mpr c5
   simp only [Option.some.injEq, Prod.mk.injEq] at H
   obtain ⟨rfl, rfl, rfl, rfl, rfl⟩ := H
   go_enter Try.func83, Try.ntmps83
   go_wp2_with (first | ((with_reducible refine gate_dst (N := 2) rfl ?_); refine be 2 #[.int .i64 0, .slice none 0 0] 30 ?_; intro gb109 hg w53 hbox hb; have n0_ := q0 (IsSRd.below (qi HI0.out) hb); have n1_ := q0 (KeepBut.trans (qh HK.out) (KeepBut.of_below hb g none) (.inl rfl)); have n2_ := q0 (below_step (qj HB.out HI0.out) hb); have n3_ := q0 (hbox); have n4_ := q0 ((by rw [hg]; exact (keep_size (w := w) (g := g) (row := none) (qh HK.out)) : w.heap.size ≤ gb109)); have n5_ := q0 ((Nat.le_trans HW0.out (by rw [hg]; exact (keep_size (w := w) (g := g) (row := none) (qh HK.out)) : w.heap.size ≤ gb109) : w0.heap.size ≤ gb109)); have n6_ := q0 ((by rw [hg]; exact Nat.ne_of_lt (IsSRd.lt (show IsSRd w0 _ g s0_0 s0_1 from qi HI0.out)) : g ≠ gb109)); have n7_ := q0 ((by rw [hg]; exact Nat.ne_of_gt (IsSRd.lt (show IsSRd w0 _ g s0_0 s0_1 from qi HI0.out)) : gb109 ≠ g)); clear HI0 HK HB; have HI0 := n0_; have HK := n1_; have HB := n2_; have BK109 := n3_; have GW109 := n4_; have GE109 := n5_; have NB0_109 := n6_; have NB109_0 := n7_; clear n0_ n1_ n2_ n3_ n4_ n5_ n6_ n7_ hb hbox hg) | ((with_reducible refine gate_callee (f := 61) rfl ?_); refine goesL_ (some 9) rfl rfl Try.func61 (by kernel_rfl) rfl #[.pointer (some ⟨g, 0, none⟩)] rfl qm ?_; (with_reducible refine (spec_l71Any.calls k g s0_0 s0_1 t100 t104 t105 w0 _ ?side1 ?side2 A2.out).mono ?_); (case side1 => repeat (first | (with_reducible first | exact HI0.out | apply IsSRd.alloc | apply IsSRd.drewN | apply IsSRd.drew | apply IsSRd.set_1 | refine IsSRd.far ?_ NB0_109.out _) | exact HI0.out)); (case side2 => repeat (first | (with_reducible first | exact HB.out | apply below_alloc | apply pw_below_drewN | apply below_drew1 | refine below_set ?_ (IsSRd.ge HI0.out) | refine below_set ?_ GE109.out) | exact HB.out)); rintro e w54 ⟨v110, rfl, ho0, hi, hb, hk⟩; refine ⟨_, rfl, ?_⟩; have n0_ := q0 (KeepBut.blk hk (g' := gb109) (o := .cells #[.int .i64 0, .slice none 0 0] 30 (0, 0)) (qk BK109.out) NB109_0.out (by simp)); have n1_ := q0 (Kd.R_lower ho0 (keep_size (w := w) (g := g) (row := none) (qh HK.out))); have n2_ := q0 (KeepBut.trans (qh HK.out) hk (.inl rfl)); have n3_ := q0 (hb); have n4_ := q0 (hi); clear BK109 HK HB HI0; have BK109 := n0_; have HO111 := n1_; have HK := n2_; have HB := n3_; have HI0 := n4_; clear n0_ n1_ n2_ n3_ n4_; (try clear hb); (try clear hb2); (try clear hk); (try clear hi); (try clear ho0)) | ((with_reducible refine gate_dst (N := 5) rfl ?_); refine be 5 #[.int .i64 0, .slice none 0 0] 30 ?_; intro gb112 hg w55 hbox hb; have n0_ := q0 (Kd.R_below (qr HO111.out) hb); have n1_ := q0 (IsSRd.below (qi HI0.out) hb); have n2_ := q0 (kb BK109.out hb); have n3_ := q0 (KeepBut.trans (qh HK.out) (KeepBut.of_below hb g none) (.inl rfl)); have n4_ := q0 (below_step (qj HB.out HI0.out) hb); have n5_ := q0 (hbox); have n6_ := q0 ((by rw [hg]; exact (keep_size (w := w) (g := g) (row := none) (qh HK.out)) : w.heap.size ≤ gb112)); have n7_ := q0 ((Nat.le_trans HW0.out (by rw [hg]; exact (keep_size (w := w) (g := g) (row := none) (qh HK.out)) : w.heap.size ≤ gb112) : w0.heap.size ≤ gb112)); have n8_ := q0 ((bl BK109.out hg : gb109 ≠ gb112)); have n9_ := q0 ((bg BK109.out hg : gb112 ≠ gb109)); have n10_ := q0 ((by rw [hg]; exact Nat.ne_of_lt (IsSRd.lt (show IsSRd w0 _ g s0_0 t105 from qi HI0.out)) : g ≠ gb112)); have n11_ := q0 ((by rw [hg]; exact Nat.ne_of_gt (IsSRd.lt (show IsSRd w0 _ g s0_0 t105 from qi HI0.out)) : gb112 ≠ g)); clear HO111 HI0 BK109 HK HB; have HO111 := n0_; have HI0 := n1_; have BK109 := n2_; have HK := n3_; have HB := n4_; have BK112 := n5_; have GW112 := n6_; have GE112 := n7_; have NB109_112 := n8_; have NB112_109 := n9_; have NB0_112 := n10_; have NB112_0 := n11_; clear n0_ n1_ n2_ n3_ n4_ n5_ n6_ n7_ n8_ n9_ n10_ n11_ hb hbox hg; have hnb56 := NB112_109.out; have hnc56 := NB109_112.out; have hnb57 := NB112_0.out; have hnc57 := NB0_112.out; have hcz58_0 : w55.cell? ⟨gb112, 0, none⟩ = some (.int .i64 0) := (blk_cell BK112.out 0).trans rfl; have hcz58_1 : w55.cell? ⟨gb112, 1, none⟩ = some (.slice none 0 0) := (blk_cell BK112.out 1).trans rfl; have hfz58_0 := blk_frozen BK112.out 0; have hfz58_1 := blk_frozen BK112.out 1; obtain ⟨Ao59, co59, eo59⟩ := Kd.R_slice HO111.out; subst eo59) | ((with_reducible refine gate_callee (f := 78) rfl ?_); refine goesL_ (some 12) rfl rfl Try.func78 (by kernel_rfl) rfl #[.pointer (some ⟨g, 0, none⟩), .agg #[.int .i64 t100, .slice Ao59 t104.length co59]] rfl qm ?_; (with_reducible refine (spec_l71Knot.calls k g s0_0 t105 t100 _ _ t104 t101 t106 w0 _ ?side1 ?side2 ?side3 ?side4 A3.out).mono ?_); (case side1 => repeat (first | (with_reducible first | exact HI0.out | apply IsSRd.alloc | apply IsSRd.drewN | apply IsSRd.drew | apply IsSRd.set_1 | refine IsSRd.far ?_ NB0_109.out _ | refine IsSRd.far ?_ NB0_112.out _) | exact HI0.out)); (case side2 => repeat (first | (with_reducible first | exact HB.out | apply below_alloc | apply pw_below_drewN | apply below_drew1 | refine below_set ?_ (IsSRd.ge HI0.out) | refine below_set ?_ GE109.out | refine below_set ?_ GE112.out) | exact HB.out)); (case side3 => exact Kd.C_foot_own (IsSRd.apart (show IsSRd w0 _ g s0_0 t105 from qi HI0.out) (by (with_reducible repeat (first | apply Kd.R_alloc | apply Kd.R_drewN | apply Kd.R_drew)); exact (Kd.R_mono (Kd.R_far (p := ⟨gb112, 1, none⟩) (Kd.R_far (p := ⟨gb112, 0, none⟩) (Kd.R_types HO111.out BK112.out (by decide)) (fun _ hk => hk.2) (.int .i64 t100)) (fun _ hk => hk.2) (.slice Ao59 t104.length co59)) (fun _ h_ => h_.1))) (by decide)) (fun _ h_ => h_.2)); (case side4 => exact (Kd.R_reads' HO111.out).2.1); rintro e w60 ⟨rfl, hi, hb, hk⟩; refine ⟨_, rfl, ?_⟩; have n0_ := q0 (KeepBut.blk hk (g' := gb109) (o := .cells #[.int .i64 0, .slice none 0 0] 30 (0, 0)) (qf BK109.out) NB109_0.out (by simp)); have n1_ := q0 (Kd.R_mono (Kd.R_keep (IsSRd.apart (show IsSRd w0 _ g s0_0 t105 from qi HI0.out) (by (with_reducible repeat (first | apply Kd.R_alloc | apply Kd.R_drewN | apply Kd.R_drew)); exact (Kd.R_mono (Kd.R_far (p := ⟨gb112, 1, none⟩) (Kd.R_far (p := ⟨gb112, 0, none⟩) (Kd.R_types HO111.out BK112.out (by decide)) (fun _ hk => hk.2) (.int .i64 t100)) (fun _ hk => hk.2) (.slice Ao59 t104.length co59)) (fun _ h_ => h_.1))) (by decide)) hk (fun _ h => h.2)) (fun _ h => h.1)); have n2_ := q0 (KeepBut.blk hk (g' := gb112) (o := .cells #[.int .i64 t100, .slice Ao59 t104.length co59] 30 (0, 0)) (by (with_reducible repeat (first | refine blk_drewN ?_ _ | refine blk_drew ?_ | refine blk_alloc ?_ _)); refine blk_put (cs := #[.int .i64 t100, .slice none 0 0]) ?_ 1 _ rfl; (with_reducible repeat (first | refine blk_drewN ?_ _ | refine blk_drew ?_ | refine blk_alloc ?_ _)); refine blk_put (cs := #[.int .i64 0, .slice none 0 0]) ?_ 0 _ rfl; (with_reducible repeat (first | refine blk_drewN ?_ _ | refine blk_drew ?_ | refine blk_alloc ?_ _)); exact BK112.out) NB112_0.out (by simp)); have n3_ := q0 (KeepBut.trans (qh HK.out) hk (.inl rfl)); have n4_ := q0 (hb); have n5_ := q0 (hi); clear BK109 HO111 BK112 HK HB HI0; have BK109 := n0_; have HO111 := n1_; have BK112 := n2_; have HK := n3_; have HB := n4_; have HI0 := n5_; clear n0_ n1_ n2_ n3_ n4_ n5_; (try clear hb); (try clear hb2); (try clear hk); (try clear hi); have hcz61_0 : w60.cell? ⟨gb112, 0, none⟩ = some (.int .i64 t100) := (blk_cell BK112.out 0).trans rfl; have hcz61_1 : w60.cell? ⟨gb112, 1, none⟩ = some (.slice Ao59 t104.length co59) := (blk_cell BK112.out 1).trans rfl; have hfz61_0 := blk_frozen BK112.out 0; have hfz61_1 := blk_frozen BK112.out 1) | ((with_reducible refine gate_callee (f := 78) rfl ?_); refine goesL_ (some 15) rfl rfl Try.func78 (by kernel_rfl) rfl #[.pointer (some ⟨g, 0, none⟩), .agg #[.int .i64 t100, .slice Ao59 t104.length co59]] rfl qm ?_; (with_reducible refine (spec_l71Knot.calls k g s0_0 t106 t100 _ _ t104 t102 t107 w0 _ ?side1 ?side2 ?side3 ?side4 A4.out).mono ?_); (case side1 => repeat (first | (with_reducible first | exact HI0.out | apply IsSRd.alloc | apply IsSRd.drewN | apply IsSRd.drew | apply IsSRd.set_1 | refine IsSRd.far ?_ NB0_109.out _ | refine IsSRd.far ?_ NB0_112.out _) | exact HI0.out)); (case side2 => repeat (first | (with_reducible first | exact HB.out | apply below_alloc | apply pw_below_drewN | apply below_drew1 | refine below_set ?_ (IsSRd.ge HI0.out) | refine below_set ?_ GE109.out | refine below_set ?_ GE112.out) | exact HB.out)); (case side3 => exact Kd.C_foot_own (IsSRd.apart (show IsSRd w0 _ g s0_0 t106 from qi HI0.out) (qr HO111.out) (by decide)) (fun _ h_ => h_.2)); (case side4 => exact (Kd.R_reads' HO111.out).2.1); rintro e w62 ⟨rfl, hi, hb, hk⟩; refine ⟨_, rfl, ?_⟩; have n0_ := q0 (KeepBut.blk hk (g' := gb109) (o := .cells #[.int .i64 0, .slice none 0 0] 30 (0, 0)) (qk BK109.out) NB109_0.out (by simp)); have n1_ := q0 (Kd.R_mono (Kd.R_keep (IsSRd.apart (show IsSRd w0 _ g s0_0 t106 from qi HI0.out) (qr HO111.out) (by decide)) hk (fun _ h => h.2)) (fun _ h => h.1)); have n2_ := q0 (KeepBut.blk hk (g' := gb112) (o := .cells #[.int .i64 t100, .slice Ao59 t104.length co59] 30 (0, 0)) (qk BK112.out) NB112_0.out (by simp)); have n3_ := q0 (KeepBut.trans (qh HK.out) hk (.inl rfl)); have n4_ := q0 (hb); have n5_ := q0 (hi); clear BK109 HO111 BK112 HK HB HI0; have BK109 := n0_; have HO111 := n1_; have BK112 := n2_; have HK := n3_; have HB := n4_; have HI0 := n5_; clear n0_ n1_ n2_ n3_ n4_ n5_; (try clear hb); (try clear hb2); (try clear hk); (try clear hi); have hcz63_0 : w62.cell? ⟨gb112, 0, none⟩ = some (.int .i64 t100) := (blk_cell BK112.out 0).trans rfl; have hcz63_1 : w62.cell? ⟨gb112, 1, none⟩ = some (.slice Ao59 t104.length co59) := (blk_cell BK112.out 1).trans rfl; have hfz63_0 := blk_frozen BK112.out 0; have hfz63_1 := blk_frozen BK112.out 1; have hnb64 := NB109_0.out; have hnc64 := NB0_109.out; have hcz65_0 : w62.cell? ⟨gb109, 0, none⟩ = some (.int .i64 0) := (blk_cell BK109.out 0).trans rfl; have hcz65_1 : w62.cell? ⟨gb109, 1, none⟩ = some (.slice none 0 0) := (blk_cell BK109.out 1).trans rfl; have hfz65_0 := blk_frozen BK109.out 0; have hfz65_1 := blk_frozen BK109.out 1))
   refine bodyPost_ret (results_ctt rfl _ _ gb109 30 #[.int .i64 t100, .slice Ao59 t104.length co59] (0, 0) _ rfl (by (with_reducible repeat (first | refine blk_drewN ?_ _ | refine blk_drew ?_ | refine blk_alloc ?_ _)); refine blk_put (cs := #[.int .i64 t100, .slice none 0 0]) ?_ 1 _ rfl; (with_reducible repeat (first | refine blk_drewN ?_ _ | refine blk_drew ?_ | refine blk_alloc ?_ _)); refine blk_put (cs := #[.int .i64 0, .slice none 0 0]) ?_ 0 _ rfl; (with_reducible repeat (first | refine blk_drewN ?_ _ | refine blk_drew ?_ | refine blk_alloc ?_ _)); exact BK109.out) Try.underlying30 rfl (by kernel_rfl)) rfl ?_
   exact ⟨_, qe, by (with_reducible repeat (first | apply Kd.R_alloc | apply Kd.R_drewN | apply Kd.R_drew)); exact Kd.R_mono (Kd.R_far (p := ⟨gb109, 1, none⟩) (Kd.R_far (p := ⟨gb109, 0, none⟩) (Kd.R_types HO111.out BK109.out (by decide)) (fun _ hk => hk.2) (.int .i64 t100)) (fun _ hk => hk.2) (.slice Ao59 t104.length co59)) (fun _ hk => trivial), by repeat (first | (with_reducible first | exact HI0.out | apply IsSRd.alloc | apply IsSRd.drewN | apply IsSRd.drew | apply IsSRd.set_1 | refine IsSRd.far ?_ NB0_109.out _ | refine IsSRd.far ?_ NB0_112.out _) | exact HI0.out), by repeat (first | (with_reducible first | exact HB.out | apply below_alloc | apply pw_below_drewN | apply below_drew1 | refine below_set ?_ (IsSRd.ge HI0.out) | refine below_set ?_ GE109.out | refine below_set ?_ GE112.out) | exact HB.out), by repeat (first | (with_reducible first | exact HK.out | apply KeepBut.set_ | apply keep_drewN | apply keep_drew | apply keep_alloc | refine keep_far ?_ GW109.out _ | refine keep_far ?_ GW112.out _) | exact HK.out)⟩
 rw [if_pos c5] at H
 have c5b0 : (t101 == t102) = true := beq_iff_eq.mpr c5
 have c5b1 : (t101 != t102) = false := bne_eq_false_iff_eq.mpr c5
 clear c5
 by_cases c6 : t100 > 1
 rotate_left
 · rw [if_neg c6] at H
   have c6b0 : decide (1 < t100) = false := decide_eq_false c6
   clear c6
   simp only [Option.some.injEq, Prod.mk.injEq] at H
   obtain ⟨rfl, rfl, rfl, rfl, rfl⟩ := H
   go_enter Try.func83, Try.ntmps83
   go_wp2_with (first | ((with_reducible refine gate_dst (N := 2) rfl ?_); refine be 2 #[.int .i64 0, .slice none 0 0] 30 ?_; intro gb109 hg w40 hbox hb; have n0_ := q0 (IsSRd.below (qi HI0.out) hb); have n1_ := q0 (KeepBut.trans (qh HK.out) (KeepBut.of_below hb g none) (.inl rfl)); have n2_ := q0 (below_step (qj HB.out HI0.out) hb); have n3_ := q0 (hbox); have n4_ := q0 ((by rw [hg]; exact (keep_size (w := w) (g := g) (row := none) (qh HK.out)) : w.heap.size ≤ gb109)); have n5_ := q0 ((Nat.le_trans HW0.out (by rw [hg]; exact (keep_size (w := w) (g := g) (row := none) (qh HK.out)) : w.heap.size ≤ gb109) : w0.heap.size ≤ gb109)); have n6_ := q0 ((by rw [hg]; exact Nat.ne_of_lt (IsSRd.lt (show IsSRd w0 _ g s0_0 s0_1 from qi HI0.out)) : g ≠ gb109)); have n7_ := q0 ((by rw [hg]; exact Nat.ne_of_gt (IsSRd.lt (show IsSRd w0 _ g s0_0 s0_1 from qi HI0.out)) : gb109 ≠ g)); clear HI0 HK HB; have HI0 := n0_; have HK := n1_; have HB := n2_; have BK109 := n3_; have GW109 := n4_; have GE109 := n5_; have NB0_109 := n6_; have NB109_0 := n7_; clear n0_ n1_ n2_ n3_ n4_ n5_ n6_ n7_ hb hbox hg) | ((with_reducible refine gate_callee (f := 61) rfl ?_); refine goesL_ (some 9) rfl rfl Try.func61 (by kernel_rfl) rfl #[.pointer (some ⟨g, 0, none⟩)] rfl qm ?_; (with_reducible refine (spec_l71Any.calls k g s0_0 s0_1 t100 t104 t105 w0 _ ?side1 ?side2 A2.out).mono ?_); (case side1 => repeat (first | (with_reducible first | exact HI0.out | apply IsSRd.alloc | apply IsSRd.drewN | apply IsSRd.drew | apply IsSRd.set_1 | refine IsSRd.far ?_ NB0_109.out _) | exact HI0.out)); (case side2 => repeat (first | (with_reducible first | exact HB.out | apply below_alloc | apply pw_below_drewN | apply below_drew1 | refine below_set ?_ (IsSRd.ge HI0.out) | refine below_set ?_ GE109.out) | exact HB.out)); rintro e w41 ⟨v110, rfl, ho0, hi, hb, hk⟩; refine ⟨_, rfl, ?_⟩; have n0_ := q0 (KeepBut.blk hk (g' := gb109) (o := .cells #[.int .i64 0, .slice none 0 0] 30 (0, 0)) (qk BK109.out) NB109_0.out (by simp)); have n1_ := q0 (Kd.R_lower ho0 (keep_size (w := w) (g := g) (row := none) (qh HK.out))); have n2_ := q0 (KeepBut.trans (qh HK.out) hk (.inl rfl)); have n3_ := q0 (hb); have n4_ := q0 (hi); clear BK109 HK HB HI0; have BK109 := n0_; have HO111 := n1_; have HK := n2_; have HB := n3_; have HI0 := n4_; clear n0_ n1_ n2_ n3_ n4_; (try clear hb); (try clear hb2); (try clear hk); (try clear hi); (try clear ho0)) | ((with_reducible refine gate_dst (N := 5) rfl ?_); refine be 5 #[.int .i64 0, .slice none 0 0] 30 ?_; intro gb112 hg w42 hbox hb; have n0_ := q0 (Kd.R_below (qr HO111.out) hb); have n1_ := q0 (IsSRd.below (qi HI0.out) hb); have n2_ := q0 (kb BK109.out hb); have n3_ := q0 (KeepBut.trans (qh HK.out) (KeepBut.of_below hb g none) (.inl rfl)); have n4_ := q0 (below_step (qj HB.out HI0.out) hb); have n5_ := q0 (hbox); have n6_ := q0 ((by rw [hg]; exact (keep_size (w := w) (g := g) (row := none) (qh HK.out)) : w.heap.size ≤ gb112)); have n7_ := q0 ((Nat.le_trans HW0.out (by rw [hg]; exact (keep_size (w := w) (g := g) (row := none) (qh HK.out)) : w.heap.size ≤ gb112) : w0.heap.size ≤ gb112)); have n8_ := q0 ((bl BK109.out hg : gb109 ≠ gb112)); have n9_ := q0 ((bg BK109.out hg : gb112 ≠ gb109)); have n10_ := q0 ((by rw [hg]; exact Nat.ne_of_lt (IsSRd.lt (show IsSRd w0 _ g s0_0 t105 from qi HI0.out)) : g ≠ gb112)); have n11_ := q0 ((by rw [hg]; exact Nat.ne_of_gt (IsSRd.lt (show IsSRd w0 _ g s0_0 t105 from qi HI0.out)) : gb112 ≠ g)); clear HO111 HI0 BK109 HK HB; have HO111 := n0_; have HI0 := n1_; have BK109 := n2_; have HK := n3_; have HB := n4_; have BK112 := n5_; have GW112 := n6_; have GE112 := n7_; have NB109_112 := n8_; have NB112_109 := n9_; have NB0_112 := n10_; have NB112_0 := n11_; clear n0_ n1_ n2_ n3_ n4_ n5_ n6_ n7_ n8_ n9_ n10_ n11_ hb hbox hg; have hnb43 := NB112_109.out; have hnc43 := NB109_112.out; have hnb44 := NB112_0.out; have hnc44 := NB0_112.out; have hcz45_0 : w42.cell? ⟨gb112, 0, none⟩ = some (.int .i64 0) := (blk_cell BK112.out 0).trans rfl; have hcz45_1 : w42.cell? ⟨gb112, 1, none⟩ = some (.slice none 0 0) := (blk_cell BK112.out 1).trans rfl; have hfz45_0 := blk_frozen BK112.out 0; have hfz45_1 := blk_frozen BK112.out 1; obtain ⟨Ao46, co46, eo46⟩ := Kd.R_slice HO111.out; subst eo46) | ((with_reducible refine gate_callee (f := 78) rfl ?_); refine goesL_ (some 12) rfl rfl Try.func78 (by kernel_rfl) rfl #[.pointer (some ⟨g, 0, none⟩), .agg #[.int .i64 t100, .slice Ao46 t104.length co46]] rfl qm ?_; (with_reducible refine (spec_l71Knot.calls k g s0_0 t105 t100 _ _ t104 t101 t106 w0 _ ?side1 ?side2 ?side3 ?side4 A3.out).mono ?_); (case side1 => repeat (first | (with_reducible first | exact HI0.out | apply IsSRd.alloc | apply IsSRd.drewN | apply IsSRd.drew | apply IsSRd.set_1 | refine IsSRd.far ?_ NB0_109.out _ | refine IsSRd.far ?_ NB0_112.out _) | exact HI0.out)); (case side2 => repeat (first | (with_reducible first | exact HB.out | apply below_alloc | apply pw_below_drewN | apply below_drew1 | refine below_set ?_ (IsSRd.ge HI0.out) | refine below_set ?_ GE109.out | refine below_set ?_ GE112.out) | exact HB.out)); (case side3 => exact Kd.C_foot_own (IsSRd.apart (show IsSRd w0 _ g s0_0 t105 from qi HI0.out) (by (with_reducible repeat (first | apply Kd.R_alloc | apply Kd.R_drewN | apply Kd.R_drew)); exact (Kd.R_mono (Kd.R_far (p := ⟨gb112, 1, none⟩) (Kd.R_far (p := ⟨gb112, 0, none⟩) (Kd.R_types HO111.out BK112.out (by decide)) (fun _ hk => hk.2) (.int .i64 t100)) (fun _ hk => hk.2) (.slice Ao46 t104.length co46)) (fun _ h_ => h_.1))) (by decide)) (fun _ h_ => h_.2)); (case side4 => exact (Kd.R_reads' HO111.out).2.1); rintro e w47 ⟨rfl, hi, hb, hk⟩; refine ⟨_, rfl, ?_⟩; have n0_ := q0 (KeepBut.blk hk (g' := gb109) (o := .cells #[.int .i64 0, .slice none 0 0] 30 (0, 0)) (qf BK109.out) NB109_0.out (by simp)); have n1_ := q0 (Kd.R_mono (Kd.R_keep (IsSRd.apart (show IsSRd w0 _ g s0_0 t105 from qi HI0.out) (by (with_reducible repeat (first | apply Kd.R_alloc | apply Kd.R_drewN | apply Kd.R_drew)); exact (Kd.R_mono (Kd.R_far (p := ⟨gb112, 1, none⟩) (Kd.R_far (p := ⟨gb112, 0, none⟩) (Kd.R_types HO111.out BK112.out (by decide)) (fun _ hk => hk.2) (.int .i64 t100)) (fun _ hk => hk.2) (.slice Ao46 t104.length co46)) (fun _ h_ => h_.1))) (by decide)) hk (fun _ h => h.2)) (fun _ h => h.1)); have n2_ := q0 (KeepBut.blk hk (g' := gb112) (o := .cells #[.int .i64 t100, .slice Ao46 t104.length co46] 30 (0, 0)) (by (with_reducible repeat (first | refine blk_drewN ?_ _ | refine blk_drew ?_ | refine blk_alloc ?_ _)); refine blk_put (cs := #[.int .i64 t100, .slice none 0 0]) ?_ 1 _ rfl; (with_reducible repeat (first | refine blk_drewN ?_ _ | refine blk_drew ?_ | refine blk_alloc ?_ _)); refine blk_put (cs := #[.int .i64 0, .slice none 0 0]) ?_ 0 _ rfl; (with_reducible repeat (first | refine blk_drewN ?_ _ | refine blk_drew ?_ | refine blk_alloc ?_ _)); exact BK112.out) NB112_0.out (by simp)); have n3_ := q0 (KeepBut.trans (qh HK.out) hk (.inl rfl)); have n4_ := q0 (hb); have n5_ := q0 (hi); clear BK109 HO111 BK112 HK HB HI0; have BK109 := n0_; have HO111 := n1_; have BK112 := n2_; have HK := n3_; have HB := n4_; have HI0 := n5_; clear n0_ n1_ n2_ n3_ n4_ n5_; (try clear hb); (try clear hb2); (try clear hk); (try clear hi); have hcz48_0 : w47.cell? ⟨gb112, 0, none⟩ = some (.int .i64 t100) := (blk_cell BK112.out 0).trans rfl; have hcz48_1 : w47.cell? ⟨gb112, 1, none⟩ = some (.slice Ao46 t104.length co46) := (blk_cell BK112.out 1).trans rfl; have hfz48_0 := blk_frozen BK112.out 0; have hfz48_1 := blk_frozen BK112.out 1) | ((with_reducible refine gate_callee (f := 78) rfl ?_); refine goesL_ (some 15) rfl rfl Try.func78 (by kernel_rfl) rfl #[.pointer (some ⟨g, 0, none⟩), .agg #[.int .i64 t100, .slice Ao46 t104.length co46]] rfl qm ?_; (with_reducible refine (spec_l71Knot.calls k g s0_0 t106 t100 _ _ t104 t102 t107 w0 _ ?side1 ?side2 ?side3 ?side4 A4.out).mono ?_); (case side1 => repeat (first | (with_reducible first | exact HI0.out | apply IsSRd.alloc | apply IsSRd.drewN | apply IsSRd.drew | apply IsSRd.set_1 | refine IsSRd.far ?_ NB0_109.out _ | refine IsSRd.far ?_ NB0_112.out _) | exact HI0.out)); (case side2 => repeat (first | (with_reducible first | exact HB.out | apply below_alloc | apply pw_below_drewN | apply below_drew1 | refine below_set ?_ (IsSRd.ge HI0.out) | refine below_set ?_ GE109.out | refine below_set ?_ GE112.out) | exact HB.out)); (case side3 => exact Kd.C_foot_own (IsSRd.apart (show IsSRd w0 _ g s0_0 t106 from qi HI0.out) (qr HO111.out) (by decide)) (fun _ h_ => h_.2)); (case side4 => exact (Kd.R_reads' HO111.out).2.1); rintro e w49 ⟨rfl, hi, hb, hk⟩; refine ⟨_, rfl, ?_⟩; have n0_ := q0 (KeepBut.blk hk (g' := gb109) (o := .cells #[.int .i64 0, .slice none 0 0] 30 (0, 0)) (qk BK109.out) NB109_0.out (by simp)); have n1_ := q0 (Kd.R_mono (Kd.R_keep (IsSRd.apart (show IsSRd w0 _ g s0_0 t106 from qi HI0.out) (qr HO111.out) (by decide)) hk (fun _ h => h.2)) (fun _ h => h.1)); have n2_ := q0 (KeepBut.blk hk (g' := gb112) (o := .cells #[.int .i64 t100, .slice Ao46 t104.length co46] 30 (0, 0)) (qk BK112.out) NB112_0.out (by simp)); have n3_ := q0 (KeepBut.trans (qh HK.out) hk (.inl rfl)); have n4_ := q0 (hb); have n5_ := q0 (hi); clear BK109 HO111 BK112 HK HB HI0; have BK109 := n0_; have HO111 := n1_; have BK112 := n2_; have HK := n3_; have HB := n4_; have HI0 := n5_; clear n0_ n1_ n2_ n3_ n4_ n5_; (try clear hb); (try clear hb2); (try clear hk); (try clear hi); have hcz50_0 : w49.cell? ⟨gb112, 0, none⟩ = some (.int .i64 t100) := (blk_cell BK112.out 0).trans rfl; have hcz50_1 : w49.cell? ⟨gb112, 1, none⟩ = some (.slice Ao46 t104.length co46) := (blk_cell BK112.out 1).trans rfl; have hfz50_0 := blk_frozen BK112.out 0; have hfz50_1 := blk_frozen BK112.out 1; have hnb51 := NB109_0.out; have hnc51 := NB0_109.out; have hcz52_0 : w49.cell? ⟨gb109, 0, none⟩ = some (.int .i64 0) := (blk_cell BK109.out 0).trans rfl; have hcz52_1 : w49.cell? ⟨gb109, 1, none⟩ = some (.slice none 0 0) := (blk_cell BK109.out 1).trans rfl; have hfz52_0 := blk_frozen BK109.out 0; have hfz52_1 := blk_frozen BK109.out 1))
   refine bodyPost_ret (results_ctt rfl _ _ gb109 30 #[.int .i64 t100, .slice Ao46 t104.length co46] (0, 0) _ rfl (by (with_reducible repeat (first | refine blk_drewN ?_ _ | refine blk_drew ?_ | refine blk_alloc ?_ _)); refine blk_put (cs := #[.int .i64 t100, .slice none 0 0]) ?_ 1 _ rfl; (with_reducible repeat (first | refine blk_drewN ?_ _ | refine blk_drew ?_ | refine blk_alloc ?_ _)); refine blk_put (cs := #[.int .i64 0, .slice none 0 0]) ?_ 0 _ rfl; (with_reducible repeat (first | refine blk_drewN ?_ _ | refine blk_drew ?_ | refine blk_alloc ?_ _)); exact BK109.out) Try.underlying30 rfl (by kernel_rfl)) rfl ?_
   exact ⟨_, qe, by (with_reducible repeat (first | apply Kd.R_alloc | apply Kd.R_drewN | apply Kd.R_drew)); exact Kd.R_mono (Kd.R_far (p := ⟨gb109, 1, none⟩) (Kd.R_far (p := ⟨gb109, 0, none⟩) (Kd.R_types HO111.out BK109.out (by decide)) (fun _ hk => hk.2) (.int .i64 t100)) (fun _ hk => hk.2) (.slice Ao46 t104.length co46)) (fun _ hk => trivial), by repeat (first | (with_reducible first | exact HI0.out | apply IsSRd.alloc | apply IsSRd.drewN | apply IsSRd.drew | apply IsSRd.set_1 | refine IsSRd.far ?_ NB0_109.out _ | refine IsSRd.far ?_ NB0_112.out _) | exact HI0.out), by repeat (first | (with_reducible first | exact HB.out | apply below_alloc | apply pw_below_drewN | apply below_drew1 | refine below_set ?_ (IsSRd.ge HI0.out) | refine below_set ?_ GE109.out | refine below_set ?_ GE112.out) | exact HB.out), by repeat (first | (with_reducible first | exact HK.out | apply KeepBut.set_ | apply keep_drewN | apply keep_drew | apply keep_alloc | refine keep_far ?_ GW109.out _ | refine keep_far ?_ GW112.out _) | exact HK.out)⟩
 rw [if_pos c6] at H
 have c6b0 : decide (1 < t100) = true := decide_eq_true c6
 clear c6
 replace H := Option.bind_eq_some_iff.mp H
 obtain ⟨⟨t103, t108⟩, A70, H⟩ := H
 replace H : (if t103 > 0 then (if t100 = 0 then (none) else (some (t100, t104, t101, Int.tmod (wrap64 (t101 + 1)) t100, t108))) else (some (t100, t104, t101, t102, t108))) = some (r1, r2, r3, r4, r5) := H
 have A7 := Aside0.mk A70
 clear A70
 by_cases c8 : t103 > 0
 rotate_left
 · rw [if_neg c8] at H
   have c8b0 : decide (0 < t103) = false := decide_eq_false c8
   clear c8
   simp only [Option.some.injEq, Prod.mk.injEq] at H
   obtain ⟨rfl, rfl, rfl, rfl, rfl⟩ := H
   go_enter Try.func83, Try.ntmps83
   go_wp2_with (first | ((with_reducible refine gate_dst (N := 2) rfl ?_); refine be 2 #[.int .i64 0, .slice none 0 0] 30 ?_; intro gb109 hg w25 hbox hb; have n0_ := q0 (IsSRd.below (qi HI0.out) hb); have n1_ := q0 (KeepBut.trans (qh HK.out) (KeepBut.of_below hb g none) (.inl rfl)); have n2_ := q0 (below_step (qj HB.out HI0.out) hb); have n3_ := q0 (hbox); have n4_ := q0 ((by rw [hg]; exact (keep_size (w := w) (g := g) (row := none) (qh HK.out)) : w.heap.size ≤ gb109)); have n5_ := q0 ((Nat.le_trans HW0.out (by rw [hg]; exact (keep_size (w := w) (g := g) (row := none) (qh HK.out)) : w.heap.size ≤ gb109) : w0.heap.size ≤ gb109)); have n6_ := q0 ((by rw [hg]; exact Nat.ne_of_lt (IsSRd.lt (show IsSRd w0 _ g s0_0 s0_1 from qi HI0.out)) : g ≠ gb109)); have n7_ := q0 ((by rw [hg]; exact Nat.ne_of_gt (IsSRd.lt (show IsSRd w0 _ g s0_0 s0_1 from qi HI0.out)) : gb109 ≠ g)); clear HI0 HK HB; have HI0 := n0_; have HK := n1_; have HB := n2_; have BK109 := n3_; have GW109 := n4_; have GE109 := n5_; have NB0_109 := n6_; have NB109_0 := n7_; clear n0_ n1_ n2_ n3_ n4_ n5_ n6_ n7_ hb hbox hg) | ((with_reducible refine gate_callee (f := 61) rfl ?_); refine goesL_ (some 9) rfl rfl Try.func61 (by kernel_rfl) rfl #[.pointer (some ⟨g, 0, none⟩)] rfl qm ?_; (with_reducible refine (spec_l71Any.calls k g s0_0 s0_1 t100 t104 t105 w0 _ ?side1 ?side2 A2.out).mono ?_); (case side1 => repeat (first | (with_reducible first | exact HI0.out | apply IsSRd.alloc | apply IsSRd.drewN | apply IsSRd.drew | apply IsSRd.set_1 | refine IsSRd.far ?_ NB0_109.out _) | exact HI0.out)); (case side2 => repeat (first | (with_reducible first | exact HB.out | apply below_alloc | apply pw_below_drewN | apply below_drew1 | refine below_set ?_ (IsSRd.ge HI0.out) | refine below_set ?_ GE109.out) | exact HB.out)); rintro e w26 ⟨v110, rfl, ho0, hi, hb, hk⟩; refine ⟨_, rfl, ?_⟩; have n0_ := q0 (KeepBut.blk hk (g' := gb109) (o := .cells #[.int .i64 0, .slice none 0 0] 30 (0, 0)) (qk BK109.out) NB109_0.out (by simp)); have n1_ := q0 (Kd.R_lower ho0 (keep_size (w := w) (g := g) (row := none) (qh HK.out))); have n2_ := q0 (KeepBut.trans (qh HK.out) hk (.inl rfl)); have n3_ := q0 (hb); have n4_ := q0 (hi); clear BK109 HK HB HI0; have BK109 := n0_; have HO111 := n1_; have HK := n2_; have HB := n3_; have HI0 := n4_; clear n0_ n1_ n2_ n3_ n4_; (try clear hb); (try clear hb2); (try clear hk); (try clear hi); (try clear ho0)) | ((with_reducible refine gate_dst (N := 5) rfl ?_); refine be 5 #[.int .i64 0, .slice none 0 0] 30 ?_; intro gb112 hg w27 hbox hb; have n0_ := q0 (Kd.R_below (qr HO111.out) hb); have n1_ := q0 (IsSRd.below (qi HI0.out) hb); have n2_ := q0 (kb BK109.out hb); have n3_ := q0 (KeepBut.trans (qh HK.out) (KeepBut.of_below hb g none) (.inl rfl)); have n4_ := q0 (below_step (qj HB.out HI0.out) hb); have n5_ := q0 (hbox); have n6_ := q0 ((by rw [hg]; exact (keep_size (w := w) (g := g) (row := none) (qh HK.out)) : w.heap.size ≤ gb112)); have n7_ := q0 ((Nat.le_trans HW0.out (by rw [hg]; exact (keep_size (w := w) (g := g) (row := none) (qh HK.out)) : w.heap.size ≤ gb112) : w0.heap.size ≤ gb112)); have n8_ := q0 ((bl BK109.out hg : gb109 ≠ gb112)); have n9_ := q0 ((bg BK109.out hg : gb112 ≠ gb109)); have n10_ := q0 ((by rw [hg]; exact Nat.ne_of_lt (IsSRd.lt (show IsSRd w0 _ g s0_0 t105 from qi HI0.out)) : g ≠ gb112)); have n11_ := q0 ((by rw [hg]; exact Nat.ne_of_gt (IsSRd.lt (show IsSRd w0 _ g s0_0 t105 from qi HI0.out)) : gb112 ≠ g)); clear HO111 HI0 BK109 HK HB; have HO111 := n0_; have HI0 := n1_; have BK109 := n2_; have HK := n3_; have HB := n4_; have BK112 := n5_; have GW112 := n6_; have GE112 := n7_; have NB109_112 := n8_; have NB112_109 := n9_; have NB0_112 := n10_; have NB112_0 := n11_; clear n0_ n1_ n2_ n3_ n4_ n5_ n6_ n7_ n8_ n9_ n10_ n11_ hb hbox hg; have hnb28 := NB112_109.out; have hnc28 := NB109_112.out; have hnb29 := NB112_0.out; have hnc29 := NB0_112.out; have hcz30_0 : w27.cell? ⟨gb112, 0, none⟩ = some (.int .i64 0) := (blk_cell BK112.out 0).trans rfl; have hcz30_1 : w27.cell? ⟨gb112, 1, none⟩ = some (.slice none 0 0) := (blk_cell BK112.out 1).trans rfl; have hfz30_0 := blk_frozen BK112.out 0; have hfz30_1 := blk_frozen BK112.out 1; obtain ⟨Ao31, co31, eo31⟩ := Kd.R_slice HO111.out; subst eo31) | ((with_reducible refine gate_callee (f := 78) rfl ?_); refine goesL_ (some 12) rfl rfl Try.func78 (by kernel_rfl) rfl #[.pointer (some ⟨g, 0, none⟩), .agg #[.int .i64 t100, .slice Ao31 t104.length co31]] rfl qm ?_; (with_reducible refine (spec_l71Knot.calls k g s0_0 t105 t100 _ _ t104 t101 t106 w0 _ ?side1 ?side2 ?side3 ?side4 A3.out).mono ?_); (case side1 => repeat (first | (with_reducible first | exact HI0.out | apply IsSRd.alloc | apply IsSRd.drewN | apply IsSRd.drew | apply IsSRd.set_1 | refine IsSRd.far ?_ NB0_109.out _ | refine IsSRd.far ?_ NB0_112.out _) | exact HI0.out)); (case side2 => repeat (first | (with_reducible first | exact HB.out | apply below_alloc | apply pw_below_drewN | apply below_drew1 | refine below_set ?_ (IsSRd.ge HI0.out) | refine below_set ?_ GE109.out | refine below_set ?_ GE112.out) | exact HB.out)); (case side3 => exact Kd.C_foot_own (IsSRd.apart (show IsSRd w0 _ g s0_0 t105 from qi HI0.out) (by (with_reducible repeat (first | apply Kd.R_alloc | apply Kd.R_drewN | apply Kd.R_drew)); exact (Kd.R_mono (Kd.R_far (p := ⟨gb112, 1, none⟩) (Kd.R_far (p := ⟨gb112, 0, none⟩) (Kd.R_types HO111.out BK112.out (by decide)) (fun _ hk => hk.2) (.int .i64 t100)) (fun _ hk => hk.2) (.slice Ao31 t104.length co31)) (fun _ h_ => h_.1))) (by decide)) (fun _ h_ => h_.2)); (case side4 => exact (Kd.R_reads' HO111.out).2.1); rintro e w32 ⟨rfl, hi, hb, hk⟩; refine ⟨_, rfl, ?_⟩; have n0_ := q0 (KeepBut.blk hk (g' := gb109) (o := .cells #[.int .i64 0, .slice none 0 0] 30 (0, 0)) (qf BK109.out) NB109_0.out (by simp)); have n1_ := q0 (Kd.R_mono (Kd.R_keep (IsSRd.apart (show IsSRd w0 _ g s0_0 t105 from qi HI0.out) (by (with_reducible repeat (first | apply Kd.R_alloc | apply Kd.R_drewN | apply Kd.R_drew)); exact (Kd.R_mono (Kd.R_far (p := ⟨gb112, 1, none⟩) (Kd.R_far (p := ⟨gb112, 0, none⟩) (Kd.R_types HO111.out BK112.out (by decide)) (fun _ hk => hk.2) (.int .i64 t100)) (fun _ hk => hk.2) (.slice Ao31 t104.length co31)) (fun _ h_ => h_.1))) (by decide)) hk (fun _ h => h.2)) (fun _ h => h.1)); have n2_ := q0 (KeepBut.blk hk (g' := gb112) (o := .cells #[.int .i64 t100, .slice Ao31 t104.length co31] 30 (0, 0)) (by (with_reducible repeat (first | refine blk_drewN ?_ _ | refine blk_drew ?_ | refine blk_alloc ?_ _)); refine blk_put (cs := #[.int .i64 t100, .slice none 0 0]) ?_ 1 _ rfl; (with_reducible repeat (first | refine blk_drewN ?_ _ | refine blk_drew ?_ | refine blk_alloc ?_ _)); refine blk_put (cs := #[.int .i64 0, .slice none 0 0]) ?_ 0 _ rfl; (with_reducible repeat (first | refine blk_drewN ?_ _ | refine blk_drew ?_ | refine blk_alloc ?_ _)); exact BK112.out) NB112_0.out (by simp)); have n3_ := q0 (KeepBut.trans (qh HK.out) hk (.inl rfl)); have n4_ := q0 (hb); have n5_ := q0 (hi); clear BK109 HO111 BK112 HK HB HI0; have BK109 := n0_; have HO111 := n1_; have BK112 := n2_; have HK := n3_; have HB := n4_; have HI0 := n5_; clear n0_ n1_ n2_ n3_ n4_ n5_; (try clear hb); (try clear hb2); (try clear hk); (try clear hi); have hcz33_0 : w32.cell? ⟨gb112, 0, none⟩ = some (.int .i64 t100) := (blk_cell BK112.out 0).trans rfl; have hcz33_1 : w32.cell? ⟨gb112, 1, none⟩ = some (.slice Ao31 t104.length co31) := (blk_cell BK112.out 1).trans rfl; have hfz33_0 := blk_frozen BK112.out 0; have hfz33_1 := blk_frozen BK112.out 1) | ((with_reducible refine gate_callee (f := 78) rfl ?_); refine goesL_ (some 15) rfl rfl Try.func78 (by kernel_rfl) rfl #[.pointer (some ⟨g, 0, none⟩), .agg #[.int .i64 t100, .slice Ao31 t104.length co31]] rfl qm ?_; (with_reducible refine (spec_l71Knot.calls k g s0_0 t106 t100 _ _ t104 t102 t107 w0 _ ?side1 ?side2 ?side3 ?side4 A4.out).mono ?_); (case side1 => repeat (first | (with_reducible first | exact HI0.out | apply IsSRd.alloc | apply IsSRd.drewN | apply IsSRd.drew | apply IsSRd.set_1 | refine IsSRd.far ?_ NB0_109.out _ | refine IsSRd.far ?_ NB0_112.out _) | exact HI0.out)); (case side2 => repeat (first | (with_reducible first | exact HB.out | apply below_alloc | apply pw_below_drewN | apply below_drew1 | refine below_set ?_ (IsSRd.ge HI0.out) | refine below_set ?_ GE109.out | refine below_set ?_ GE112.out) | exact HB.out)); (case side3 => exact Kd.C_foot_own (IsSRd.apart (show IsSRd w0 _ g s0_0 t106 from qi HI0.out) (qr HO111.out) (by decide)) (fun _ h_ => h_.2)); (case side4 => exact (Kd.R_reads' HO111.out).2.1); rintro e w34 ⟨rfl, hi, hb, hk⟩; refine ⟨_, rfl, ?_⟩; have n0_ := q0 (KeepBut.blk hk (g' := gb109) (o := .cells #[.int .i64 0, .slice none 0 0] 30 (0, 0)) (qk BK109.out) NB109_0.out (by simp)); have n1_ := q0 (Kd.R_mono (Kd.R_keep (IsSRd.apart (show IsSRd w0 _ g s0_0 t106 from qi HI0.out) (qr HO111.out) (by decide)) hk (fun _ h => h.2)) (fun _ h => h.1)); have n2_ := q0 (KeepBut.blk hk (g' := gb112) (o := .cells #[.int .i64 t100, .slice Ao31 t104.length co31] 30 (0, 0)) (qk BK112.out) NB112_0.out (by simp)); have n3_ := q0 (KeepBut.trans (qh HK.out) hk (.inl rfl)); have n4_ := q0 (hb); have n5_ := q0 (hi); clear BK109 HO111 BK112 HK HB HI0; have BK109 := n0_; have HO111 := n1_; have BK112 := n2_; have HK := n3_; have HB := n4_; have HI0 := n5_; clear n0_ n1_ n2_ n3_ n4_ n5_; (try clear hb); (try clear hb2); (try clear hk); (try clear hi); have hcz35_0 : w34.cell? ⟨gb112, 0, none⟩ = some (.int .i64 t100) := (blk_cell BK112.out 0).trans rfl; have hcz35_1 : w34.cell? ⟨gb112, 1, none⟩ = some (.slice Ao31 t104.length co31) := (blk_cell BK112.out 1).trans rfl; have hfz35_0 := blk_frozen BK112.out 0; have hfz35_1 := blk_frozen BK112.out 1) | (go_at_call 81; (with_reducible refine (spec_l6Rd_pick.calls k g s0_0 t107 8 t103 t108 w0 _ ?side1 ?side2 A7.out).mono ?_); (case side1 => repeat (first | (with_reducible first | exact HI0.out | apply IsSRd.alloc | apply IsSRd.drewN | apply IsSRd.drew | apply IsSRd.set_1 | refine IsSRd.far ?_ NB0_109.out _ | refine IsSRd.far ?_ NB0_112.out _) | exact HI0.out)); (case side2 => repeat (first | (with_reducible first | exact HB.out | apply below_alloc | apply pw_below_drewN | apply below_drew1 | refine below_set ?_ (IsSRd.ge HI0.out) | refine below_set ?_ GE109.out | refine below_set ?_ GE112.out) | exact HB.out)); rintro e w36 ⟨rfl, hi, hb, hk⟩; have n0_ := q0 (KeepBut.blk hk (g' := gb109) (o := .cells #[.int .i64 0, .slice none 0 0] 30 (0, 0)) (qk BK109.out) NB109_0.out (by simp)); have n1_ := q0 (Kd.R_mono (Kd.R_keep (IsSRd.apart (show IsSRd w0 _ g s0_0 t107 from qi HI0.out) (qr HO111.out) (by decide)) hk (fun _ h => h.2)) (fun _ h => h.1)); have n2_ := q0 (KeepBut.blk hk (g' := gb112) (o := .cells #[.int .i64 t100, .slice Ao31 t104.length co31] 30 (0, 0)) (qk BK112.out) NB112_0.out (by simp)); have n3_ := q0 (KeepBut.trans (qh HK.out) hk (.inl rfl)); have n4_ := q0 (hb); have n5_ := q0 (hi); clear BK109 HO111 BK112 HK HB HI0; have BK109 := n0_; have HO111 := n1_; have BK112 := n2_; have HK := n3_; have HB := n4_; have HI0 := n5_; clear n0_ n1_ n2_ n3_ n4_ n5_; (try clear hb); (try clear hb2); (try clear hk); (try clear hi); have hcz37_0 : w36.cell? ⟨gb112, 0, none⟩ = some (.int .i64 t100) := (blk_cell BK112.out 0).trans rfl; have hcz37_1 : w36.cell? ⟨gb112, 1, none⟩ = some (.slice Ao31 t104.length co31) := (blk_cell BK112.out 1).trans rfl; have hfz37_0 := blk_frozen BK112.out 0; have hfz37_1 := blk_frozen BK112.out 1; have hnb38 := NB109_0.out; have hnc38 := NB0_109.out; have hcz39_0 : w36.cell? ⟨gb109, 0, none⟩ = some (.int .i64 0) := (blk_cell BK109.out 0).trans rfl; have hcz39_1 : w36.cell? ⟨gb109, 1, none⟩ = some (.slice none 0 0) := (blk_cell BK109.out 1).trans rfl; have hfz39_0 := blk_frozen BK109.out 0; have hfz39_1 := blk_frozen BK109.out 1))
   refine bodyPost_ret (results_ctt rfl _ _ gb109 30 #[.int .i64 t100, .slice Ao31 t104.length co31] (0, 0) _ rfl (by (with_reducible repeat (first | refine blk_drewN ?_ _ | refine blk_drew ?_ | refine blk_alloc ?_ _)); refine blk_put (cs := #[.int .i64 t100, .slice none 0 0]) ?_ 1 _ rfl; (with_reducible repeat (first | refine blk_drewN ?_ _ | refine blk_drew ?_ | refine blk_alloc ?_ _)); refine blk_put (cs := #[.int .i64 0, .slice none 0 0]) ?_ 0 _ rfl; (with_reducible repeat (first | refine blk_drewN ?_ _ | refine blk_drew ?_ | refine blk_alloc ?_ _)); exact BK109.out) Try.underlying30 rfl (by kernel_rfl)) rfl ?_
   exact ⟨_, qe, by (with_reducible repeat (first | apply Kd.R_alloc | apply Kd.R_drewN | apply Kd.R_drew)); exact Kd.R_mono (Kd.R_far (p := ⟨gb109, 1, none⟩) (Kd.R_far (p := ⟨gb109, 0, none⟩) (Kd.R_types HO111.out BK109.out (by decide)) (fun _ hk => hk.2) (.int .i64 t100)) (fun _ hk => hk.2) (.slice Ao31 t104.length co31)) (fun _ hk => trivial), by repeat (first | (with_reducible first | exact HI0.out | apply IsSRd.alloc | apply IsSRd.drewN | apply IsSRd.drew | apply IsSRd.set_1 | refine IsSRd.far ?_ NB0_109.out _ | refine IsSRd.far ?_ NB0_112.out _) | exact HI0.out), by repeat (first | (with_reducible first | exact HB.out | apply below_alloc | apply pw_below_drewN | apply below_drew1 | refine below_set ?_ (IsSRd.ge HI0.out) | refine below_set ?_ GE109.out | refine below_set ?_ GE112.out) | exact HB.out), by repeat (first | (with_reducible first | exact HK.out | apply KeepBut.set_ | apply keep_drewN | apply keep_drew | apply keep_alloc | refine keep_far ?_ GW109.out _ | refine keep_far ?_ GW112.out _) | exact HK.out)⟩
 rw [if_pos c8] at H
 have c8b0 : decide (0 < t103) = true := decide_eq_true c8
 clear c8
 by_cases c9 : t100 = 0
 · rw [if_pos c9] at H
   exact absurd H (by simp)
 rw [if_neg c9] at H
 have c9b0 : (t100 == 0) = false := beq_eq_false_iff_ne.mpr c9
 have c9b1 : (t100 != 0) = true := bne_iff_ne.mpr c9
 simp only [Option.some.injEq, Prod.mk.injEq] at H
 obtain ⟨rfl, rfl, rfl, rfl, rfl⟩ := H
 go_enter Try.func83, Try.ntmps83
 go_wp2_with (first | ((with_reducible refine gate_dst (N := 2) rfl ?_); refine be 2 #[.int .i64 0, .slice none 0 0] 30 ?_; intro gb109 hg w10 hbox hb; have n0_ := q0 (IsSRd.below (qi HI0.out) hb); have n1_ := q0 (KeepBut.trans (qh HK.out) (KeepBut.of_below hb g none) (.inl rfl)); have n2_ := q0 (below_step (qj HB.out HI0.out) hb); have n3_ := q0 (hbox); have n4_ := q0 ((by rw [hg]; exact (keep_size (w := w) (g := g) (row := none) (qh HK.out)) : w.heap.size ≤ gb109)); have n5_ := q0 ((Nat.le_trans HW0.out (by rw [hg]; exact (keep_size (w := w) (g := g) (row := none) (qh HK.out)) : w.heap.size ≤ gb109) : w0.heap.size ≤ gb109)); have n6_ := q0 ((by rw [hg]; exact Nat.ne_of_lt (IsSRd.lt (show IsSRd w0 _ g s0_0 s0_1 from qi HI0.out)) : g ≠ gb109)); have n7_ := q0 ((by rw [hg]; exact Nat.ne_of_gt (IsSRd.lt (show IsSRd w0 _ g s0_0 s0_1 from qi HI0.out)) : gb109 ≠ g)); clear HI0 HK HB; have HI0 := n0_; have HK := n1_; have HB := n2_; have BK109 := n3_; have GW109 := n4_; have GE109 := n5_; have NB0_109 := n6_; have NB109_0 := n7_; clear n0_ n1_ n2_ n3_ n4_ n5_ n6_ n7_ hb hbox hg) | ((with_reducible refine gate_callee (f := 61) rfl ?_); refine goesL_ (some 9) rfl rfl Try.func61 (by kernel_rfl) rfl #[.pointer (some ⟨g, 0, none⟩)] rfl qm ?_; (with_reducible refine (spec_l71Any.calls k g s0_0 s0_1 t100 t104 t105 w0 _ ?side1 ?side2 A2.out).mono ?_); (case side1 => repeat (first | (with_reducible first | exact HI0.out | apply IsSRd.alloc | apply IsSRd.drewN | apply IsSRd.drew | apply IsSRd.set_1 | refine IsSRd.far ?_ NB0_109.out _) | exact HI0.out)); (case side2 => repeat (first | (with_reducible first | exact HB.out | apply below_alloc | apply pw_below_drewN | apply below_drew1 | refine below_set ?_ (IsSRd.ge HI0.out) | refine below_set ?_ GE109.out) | exact HB.out)); rintro e w11 ⟨v110, rfl, ho0, hi, hb, hk⟩; refine ⟨_, rfl, ?_⟩; have n0_ := q0 (KeepBut.blk hk (g' := gb109) (o := .cells #[.int .i64 0, .slice none 0 0] 30 (0, 0)) (qk BK109.out) NB109_0.out (by simp)); have n1_ := q0 (Kd.R_lower ho0 (keep_size (w := w) (g := g) (row := none) (qh HK.out))); have n2_ := q0 (KeepBut.trans (qh HK.out) hk (.inl rfl)); have n3_ := q0 (hb); have n4_ := q0 (hi); clear BK109 HK HB HI0; have BK109 := n0_; have HO111 := n1_; have HK := n2_; have HB := n3_; have HI0 := n4_; clear n0_ n1_ n2_ n3_ n4_; (try clear hb); (try clear hb2); (try clear hk); (try clear hi); (try clear ho0)) | ((with_reducible refine gate_dst (N := 5) rfl ?_); refine be 5 #[.int .i64 0, .slice none 0 0] 30 ?_; intro gb112 hg w12 hbox hb; have n0_ := q0 (Kd.R_below (qr HO111.out) hb); have n1_ := q0 (IsSRd.below (qi HI0.out) hb); have n2_ := q0 (kb BK109.out hb); have n3_ := q0 (KeepBut.trans (qh HK.out) (KeepBut.of_below hb g none) (.inl rfl)); have n4_ := q0 (below_step (qj HB.out HI0.out) hb); have n5_ := q0 (hbox); have n6_ := q0 ((by rw [hg]; exact (keep_size (w := w) (g := g) (row := none) (qh HK.out)) : w.heap.size ≤ gb112)); have n7_ := q0 ((Nat.le_trans HW0.out (by rw [hg]; exact (keep_size (w := w) (g := g) (row := none) (qh HK.out)) : w.heap.size ≤ gb112) : w0.heap.size ≤ gb112)); have n8_ := q0 ((bl BK109.out hg : gb109 ≠ gb112)); have n9_ := q0 ((bg BK109.out hg : gb112 ≠ gb109)); have n10_ := q0 ((by rw [hg]; exact Nat.ne_of_lt (IsSRd.lt (show IsSRd w0 _ g s0_0 t105 from qi HI0.out)) : g ≠ gb112)); have n11_ := q0 ((by rw [hg]; exact Nat.ne_of_gt (IsSRd.lt (show IsSRd w0 _ g s0_0 t105 from qi HI0.out)) : gb112 ≠ g)); clear HO111 HI0 BK109 HK HB; have HO111 := n0_; have HI0 := n1_; have BK109 := n2_; have HK := n3_; have HB := n4_; have BK112 := n5_; have GW112 := n6_; have GE112 := n7_; have NB109_112 := n8_; have NB112_109 := n9_; have NB0_112 := n10_; have NB112_0 := n11_; clear n0_ n1_ n2_ n3_ n4_ n5_ n6_ n7_ n8_ n9_ n10_ n11_ hb hbox hg; have hnb13 := NB112_109.out; have hnc13 := NB109_112.out; have hnb14 := NB112_0.out; have hnc14 := NB0_112.out; have hcz15_0 : w12.cell? ⟨gb112, 0, none⟩ = some (.int .i64 0) := (blk_cell BK112.out 0).trans rfl; have hcz15_1 : w12.cell? ⟨gb112, 1, none⟩ = some (.slice none 0 0) := (blk_cell BK112.out 1).trans rfl; have hfz15_0 := blk_frozen BK112.out 0; have hfz15_1 := blk_frozen BK112.out 1; obtain ⟨Ao16, co16, eo16⟩ := Kd.R_slice HO111.out; subst eo16) | ((with_reducible refine gate_callee (f := 78) rfl ?_); refine goesL_ (some 12) rfl rfl Try.func78 (by kernel_rfl) rfl #[.pointer (some ⟨g, 0, none⟩), .agg #[.int .i64 t100, .slice Ao16 t104.length co16]] rfl qm ?_; (with_reducible refine (spec_l71Knot.calls k g s0_0 t105 t100 _ _ t104 t101 t106 w0 _ ?side1 ?side2 ?side3 ?side4 A3.out).mono ?_); (case side1 => repeat (first | (with_reducible first | exact HI0.out | apply IsSRd.alloc | apply IsSRd.drewN | apply IsSRd.drew | apply IsSRd.set_1 | refine IsSRd.far ?_ NB0_109.out _ | refine IsSRd.far ?_ NB0_112.out _) | exact HI0.out)); (case side2 => repeat (first | (with_reducible first | exact HB.out | apply below_alloc | apply pw_below_drewN | apply below_drew1 | refine below_set ?_ (IsSRd.ge HI0.out) | refine below_set ?_ GE109.out | refine below_set ?_ GE112.out) | exact HB.out)); (case side3 => exact Kd.C_foot_own (IsSRd.apart (show IsSRd w0 _ g s0_0 t105 from qi HI0.out) (by (with_reducible repeat (first | apply Kd.R_alloc | apply Kd.R_drewN | apply Kd.R_drew)); exact (Kd.R_mono (Kd.R_far (p := ⟨gb112, 1, none⟩) (Kd.R_far (p := ⟨gb112, 0, none⟩) (Kd.R_types HO111.out BK112.out (by decide)) (fun _ hk => hk.2) (.int .i64 t100)) (fun _ hk => hk.2) (.slice Ao16 t104.length co16)) (fun _ h_ => h_.1))) (by decide)) (fun _ h_ => h_.2)); (case side4 => exact (Kd.R_reads' HO111.out).2.1); rintro e w17 ⟨rfl, hi, hb, hk⟩; refine ⟨_, rfl, ?_⟩; have n0_ := q0 (KeepBut.blk hk (g' := gb109) (o := .cells #[.int .i64 0, .slice none 0 0] 30 (0, 0)) (qf BK109.out) NB109_0.out (by simp)); have n1_ := q0 (Kd.R_mono (Kd.R_keep (IsSRd.apart (show IsSRd w0 _ g s0_0 t105 from qi HI0.out) (by (with_reducible repeat (first | apply Kd.R_alloc | apply Kd.R_drewN | apply Kd.R_drew)); exact (Kd.R_mono (Kd.R_far (p := ⟨gb112, 1, none⟩) (Kd.R_far (p := ⟨gb112, 0, none⟩) (Kd.R_types HO111.out BK112.out (by decide)) (fun _ hk => hk.2) (.int .i64 t100)) (fun _ hk => hk.2) (.slice Ao16 t104.length co16)) (fun _ h_ => h_.1))) (by decide)) hk (fun _ h => h.2)) (fun _ h => h.1)); have n2_ := q0 (KeepBut.blk hk (g' := gb112) (o := .cells #[.int .i64 t100, .slice Ao16 t104.length co16] 30 (0, 0)) (by (with_reducible repeat (first | refine blk_drewN ?_ _ | refine blk_drew ?_ | refine blk_alloc ?_ _)); refine blk_put (cs := #[.int .i64 t100, .slice none 0 0]) ?_ 1 _ rfl; (with_reducible repeat (first | refine blk_drewN ?_ _ | refine blk_drew ?_ | refine blk_alloc ?_ _)); refine blk_put (cs := #[.int .i64 0, .slice none 0 0]) ?_ 0 _ rfl; (with_reducible repeat (first | refine blk_drewN ?_ _ | refine blk_drew ?_ | refine blk_alloc ?_ _)); exact BK112.out) NB112_0.out (by simp)); have n3_ := q0 (KeepBut.trans (qh HK.out) hk (.inl rfl)); have n4_ := q0 (hb); have n5_ := q0 (hi); clear BK109 HO111 BK112 HK HB HI0; have BK109 := n0_; have HO111 := n1_; have BK112 := n2_; have HK := n3_; have HB := n4_; have HI0 := n5_; clear n0_ n1_ n2_ n3_ n4_ n5_; (try clear hb); (try clear hb2); (try clear hk); (try clear hi); have hcz18_0 : w17.cell? ⟨gb112, 0, none⟩ = some (.int .i64 t100) := (blk_cell BK112.out 0).trans rfl; have hcz18_1 : w17.cell? ⟨gb112, 1, none⟩ = some (.slice Ao16 t104.length co16) := (blk_cell BK112.out 1).trans rfl; have hfz18_0 := blk_frozen BK112.out 0; have hfz18_1 := blk_frozen BK112.out 1) | ((with_reducible refine gate_callee (f := 78) rfl ?_); refine goesL_ (some 15) rfl rfl Try.func78 (by kernel_rfl) rfl #[.pointer (some ⟨g, 0, none⟩), .agg #[.int .i64 t100, .slice Ao16 t104.length co16]] rfl qm ?_; (with_reducible refine (spec_l71Knot.calls k g s0_0 t106 t100 _ _ t104 t102 t107 w0 _ ?side1 ?side2 ?side3 ?side4 A4.out).mono ?_); (case side1 => repeat (first | (with_reducible first | exact HI0.out | apply IsSRd.alloc | apply IsSRd.drewN | apply IsSRd.drew | apply IsSRd.set_1 | refine IsSRd.far ?_ NB0_109.out _ | refine IsSRd.far ?_ NB0_112.out _) | exact HI0.out)); (case side2 => repeat (first | (with_reducible first | exact HB.out | apply below_alloc | apply pw_below_drewN | apply below_drew1 | refine below_set ?_ (IsSRd.ge HI0.out) | refine below_set ?_ GE109.out | refine below_set ?_ GE112.out) | exact HB.out)); (case side3 => exact Kd.C_foot_own (IsSRd.apart (show IsSRd w0 _ g s0_0 t106 from qi HI0.out) (qr HO111.out) (by decide)) (fun _ h_ => h_.2)); (case side4 => exact (Kd.R_reads' HO111.out).2.1); rintro e w19 ⟨rfl, hi, hb, hk⟩; refine ⟨_, rfl, ?_⟩; have n0_ := q0 (KeepBut.blk hk (g' := gb109) (o := .cells #[.int .i64 0, .slice none 0 0] 30 (0, 0)) (qk BK109.out) NB109_0.out (by simp)); have n1_ := q0 (Kd.R_mono (Kd.R_keep (IsSRd.apart (show IsSRd w0 _ g s0_0 t106 from qi HI0.out) (qr HO111.out) (by decide)) hk (fun _ h => h.2)) (fun _ h => h.1)); have n2_ := q0 (KeepBut.blk hk (g' := gb112) (o := .cells #[.int .i64 t100, .slice Ao16 t104.length co16] 30 (0, 0)) (qk BK112.out) NB112_0.out (by simp)); have n3_ := q0 (KeepBut.trans (qh HK.out) hk (.inl rfl)); have n4_ := q0 (hb); have n5_ := q0 (hi); clear BK109 HO111 BK112 HK HB HI0; have BK109 := n0_; have HO111 := n1_; have BK112 := n2_; have HK := n3_; have HB := n4_; have HI0 := n5_; clear n0_ n1_ n2_ n3_ n4_ n5_; (try clear hb); (try clear hb2); (try clear hk); (try clear hi); have hcz20_0 : w19.cell? ⟨gb112, 0, none⟩ = some (.int .i64 t100) := (blk_cell BK112.out 0).trans rfl; have hcz20_1 : w19.cell? ⟨gb112, 1, none⟩ = some (.slice Ao16 t104.length co16) := (blk_cell BK112.out 1).trans rfl; have hfz20_0 := blk_frozen BK112.out 0; have hfz20_1 := blk_frozen BK112.out 1) | (go_at_call 81; (with_reducible refine (spec_l6Rd_pick.calls k g s0_0 t107 8 t103 t108 w0 _ ?side1 ?side2 A7.out).mono ?_); (case side1 => repeat (first | (with_reducible first | exact HI0.out | apply IsSRd.alloc | apply IsSRd.drewN | apply IsSRd.drew | apply IsSRd.set_1 | refine IsSRd.far ?_ NB0_109.out _ | refine IsSRd.far ?_ NB0_112.out _) | exact HI0.out)); (case side2 => repeat (first | (with_reducible first | exact HB.out | apply below_alloc | apply pw_below_drewN | apply below_drew1 | refine below_set ?_ (IsSRd.ge HI0.out) | refine below_set ?_ GE109.out | refine below_set ?_ GE112.out) | exact HB.out)); rintro e w21 ⟨rfl, hi, hb, hk⟩; have n0_ := q0 (KeepBut.blk hk (g' := gb109) (o := .cells #[.int .i64 0, .slice none 0 0] 30 (0, 0)) (qk BK109.out) NB109_0.out (by simp)); have n1_ := q0 (Kd.R_mono (Kd.R_keep (IsSRd.apart (show IsSRd w0 _ g s0_0 t107 from qi HI0.out) (qr HO111.out) (by decide)) hk (fun _ h => h.2)) (fun _ h => h.1)); have n2_ := q0 (KeepBut.blk hk (g' := gb112) (o := .cells #[.int .i64 t100, .slice Ao16 t104.length co16] 30 (0, 0)) (qk BK112.out) NB112_0.out (by simp)); have n3_ := q0 (KeepBut.trans (qh HK.out) hk (.inl rfl)); have n4_ := q0 (hb); have n5_ := q0 (hi); clear BK109 HO111 BK112 HK HB HI0; have BK109 := n0_; have HO111 := n1_; have BK112 := n2_; have HK := n3_; have HB := n4_; have HI0 := n5_; clear n0_ n1_ n2_ n3_ n4_ n5_; (try clear hb); (try clear hb2); (try clear hk); (try clear hi); have hcz22_0 : w21.cell? ⟨gb112, 0, none⟩ = some (.int .i64 t100) := (blk_cell BK112.out 0).trans rfl; have hcz22_1 : w21.cell? ⟨gb112, 1, none⟩ = some (.slice Ao16 t104.length co16) := (blk_cell BK112.out 1).trans rfl; have hfz22_0 := blk_frozen BK112.out 0; have hfz22_1 := blk_frozen BK112.out 1; have hnb23 := NB109_0.out; have hnc23 := NB0_109.out; have hcz24_0 : w21.cell? ⟨gb109, 0, none⟩ = some (.int .i64 0) := (blk_cell BK109.out 0).trans rfl; have hcz24_1 : w21.cell? ⟨gb109, 1, none⟩ = some (.slice none 0 0) := (blk_cell BK109.out 1).trans rfl; have hfz24_0 := blk_frozen BK109.out 0; have hfz24_1 := blk_frozen BK109.out 1))
 refine bodyPost_ret (results_ctt rfl _ _ gb109 30 #[.int .i64 t100, .slice Ao16 t104.length co16] (0, 0) _ rfl (by (with_reducible repeat (first | refine blk_drewN ?_ _ | refine blk_drew ?_ | refine blk_alloc ?_ _)); refine blk_put (cs := #[.int .i64 t100, .slice none 0 0]) ?_ 1 _ rfl; (with_reducible repeat (first | refine blk_drewN ?_ _ | refine blk_drew ?_ | refine blk_alloc ?_ _)); refine blk_put (cs := #[.int .i64 0, .slice none 0 0]) ?_ 0 _ rfl; (with_reducible repeat (first | refine blk_drewN ?_ _ | refine blk_drew ?_ | refine blk_alloc ?_ _)); exact BK109.out) Try.underlying30 rfl (by kernel_rfl)) rfl ?_
 exact ⟨_, qe, by (with_reducible repeat (first | apply Kd.R_alloc | apply Kd.R_drewN | apply Kd.R_drew)); exact Kd.R_mono (Kd.R_far (p := ⟨gb109, 1, none⟩) (Kd.R_far (p := ⟨gb109, 0, none⟩) (Kd.R_types HO111.out BK109.out (by decide)) (fun _ hk => hk.2) (.int .i64 t100)) (fun _ hk => hk.2) (.slice Ao16 t104.length co16)) (fun _ hk => trivial), by repeat (first | (with_reducible first | exact HI0.out | apply IsSRd.alloc | apply IsSRd.drewN | apply IsSRd.drew | apply IsSRd.set_1 | refine IsSRd.far ?_ NB0_109.out _ | refine IsSRd.far ?_ NB0_112.out _) | exact HI0.out), by repeat (first | (with_reducible first | exact HB.out | apply below_alloc | apply pw_below_drewN | apply below_drew1 | refine below_set ?_ (IsSRd.ge HI0.out) | refine below_set ?_ GE109.out | refine below_set ?_ GE112.out) | exact HB.out), by repeat (first | (with_reducible first | exact HK.out | apply KeepBut.set_ | apply keep_drewN | apply keep_drew | apply keep_alloc | refine keep_far ?_ GW109.out _ | refine keep_far ?_ GW112.out _) | exact HK.out)⟩

def spec_l71Tied.T3 : Bool × List (List Nat × List Nat) := (true, [([], []), ([0], [0]), ([], []), ([], []), ([3], [3]), ([4], [4]), ([2, 5], [2, 5]), ([1, 6], [1, 6]), ([7], [7]), ([], []), ([9, 8, 6, 0, 1, 2, 3, 4, 5, 6, 7, 8, 9], [8, 9])])
def spec_l71Tied.B3 : List Nat := [0, 1, 0, 0, 8, 24, 60, 127, 255, 0, 1023]
theorem spec_l71Tied.tab3 : rtab .any (opsOf Try.f63 3) = spec_l71Tied.T3 := by kernel_rfl
theorem spec_l71Tied.bits3 : waitsOk spec_l71Tied.T3.2 spec_l71Tied.B3 = true := by kernel_rfl
def spec_l71Tied.T5 : Bool × List (List Nat × List Nat) := (true, [([], []), ([], []), ([1], [1]), ([], []), ([3], [3]), ([0, 0], [0]), ([2, 5, 0, 1, 2, 5], [2]), ([4, 6, 0, 1, 2, 3, 4, 5, 6], [4])])
def spec_l71Tied.B5 : List Nat := [0, 0, 2, 0, 8, 1, 39, 127]
theorem spec_l71Tied.tab5 : rtab .any (opsOf Try.f63 5) = spec_l71Tied.T5 := by kernel_rfl
theorem spec_l71Tied.bits5 : waitsOk spec_l71Tied.T5.2 spec_l71Tied.B5 = true := by kernel_rfl
def spec_l71Tied.T6 : Bool × List (List Nat × List Nat) := (true, [([], []), ([], []), ([1], [1]), ([], []), ([3], [3]), ([0, 0], [0]), ([2, 5, 0, 1, 2, 5], [2]), ([4, 6, 0, 1, 2, 3, 4, 5, 6], [4])])
def spec_l71Tied.B6 : List Nat := [0, 0, 2, 0, 8, 1, 39, 127]
theorem spec_l71Tied.tab6 : rtab .any (opsOf Try.f63 6) = spec_l71Tied.T6 := by kernel_rfl
theorem spec_l71Tied.bits6 : waitsOk spec_l71Tied.T6.2 spec_l71Tied.B6 = true := by kernel_rfl
set_option maxHeartbeats 8000000 in
set_option maxRecDepth 100000 in
theorem spec_l71Tied.calls (k : Nat) (g : Nat) (s0_0 : List Int) (s0_1 : Int) (r1 : Int) (r2 : List (STie)) (r3 : Int) (r4 : Int) (r5 : Int) (w0 w : World) (hI : IsSRd w0 w g s0_0 s0_1) (hB : Below w0.heap.size w0 w) (h : spec_l71Tied.f k s0_0 s0_1 = some (r1, r2, r3, r4, r5)) :
    Calls Try.prog 63 #[.pointer (some ⟨g, 0, none⟩)] w fun e w' => ∃ v1_ : Value, e = .returned (.tuple #[.agg #[.int .i64 r1, v1_], .int .i64 r3, .int .i64 r4]) ∧ Kd.R kTie 44 w' w.heap.size (fun _ => True) v1_ r2 ∧ IsSRd w0 w' g s0_0 r5 ∧ Below w0.heap.size w0 w' ∧ KeepBut w w' g none := by
 have hu30 := Try.underlying30
 have hu44 := Try.underlying44
 have HI0 := Aside0.mk hI
 have HK := q0 (KeepBut.refl w g none)
 have HL := Aside0.mk hB.size
 clear hI
 have HW0 := Aside0.mk hB.size
 have HB := Aside0.mk hB
 clear hB
 have H : ((spec_l71Pair.f k s0_0 s0_1).bind fun bt105 => (if (bt105.2.1.length : Int) > 0 then ((spec_l6Rd_pick.f k s0_0 bt105.2.2.2.2 4).bind fun bt102 => (spec_l71Tied.j0 k bt105.2.2.1 bt105.2.2.2.1 (decide (bt102.1 > 0)) s0_0 bt102.2 bt105.1 bt105.2.1)) else (spec_l71Tied.j0 k bt105.2.2.1 bt105.2.2.2.1 false s0_0 bt105.2.2.2.2 bt105.1 bt105.2.1))) = some (r1, r2, r3, r4, r5) := h
 clear h
 replace H := Option.bind_eq_some_iff.mp H
 obtain ⟨⟨t105, t106, t107, t108, t109⟩, A20, H⟩ := H
 replace H : (if (t106.length : Int) > 0 then ((spec_l6Rd_pick.f k s0_0 t109 4).bind fun bt102 => (spec_l71Tied.j0 k t107 t108 (decide (bt102.1 > 0)) s0_0 bt102.2 t105 t106)) else (spec_l71Tied.j0 k t107 t108 false s0_0 t109 t105 t106)) = some (r1, r2, r3, r4, r5) := H
 have A2 := Aside0.mk A20
 clear A20
 have HC3 := Aside0.mk H
 clear H
 go_enter Try.func63, Try.ntmps63
 go_upto_region 2 with (first | ((with_reducible refine gate_dst (N := 2) rfl ?_); refine be 2 #[.int .i64 0, .slice none 0 0] 30 ?_; intro gb110 hg w4 hbox hb; have n0_ := q0 (IsSRd.below (qi HI0.out) hb); have n1_ := q0 (KeepBut.trans (qh HK.out) (KeepBut.of_below hb g none) (.inl rfl)); have n2_ := q0 (below_step (qj HB.out HI0.out) hb); have n3_ := q0 (hbox); have n4_ := q0 ((by rw [hg]; exact (keep_size (w := w) (g := g) (row := none) (qh HK.out)) : w.heap.size ≤ gb110)); have n5_ := q0 ((Nat.le_trans HW0.out (by rw [hg]; exact (keep_size (w := w) (g := g) (row := none) (qh HK.out)) : w.heap.size ≤ gb110) : w0.heap.size ≤ gb110)); have n6_ := q0 ((by rw [hg]; exact Nat.ne_of_lt (IsSRd.lt (show IsSRd w0 _ g s0_0 s0_1 from qi HI0.out)) : g ≠ gb110)); have n7_ := q0 ((by rw [hg]; exact Nat.ne_of_gt (IsSRd.lt (show IsSRd w0 _ g s0_0 s0_1 from qi HI0.out)) : gb110 ≠ g)); clear HI0 HK HB; have HI0 := n0_; have HK := n1_; have HB := n2_; have BK110 := n3_; have GW110 := n4_; have GE110 := n5_; have NB0_110 := n6_; have NB110_0 := n7_; clear n0_ n1_ n2_ n3_ n4_ n5_ n6_ n7_ hb hbox hg) | ((with_reducible refine gate_callee (f := 83) rfl ?_); refine goesL_ (some 11) rfl rfl Try.func83 (by kernel_rfl) rfl #[.pointer (some ⟨g, 0, none⟩)] rfl qm ?_; (with_reducible refine (spec_l71Pair.calls k g s0_0 s0_1 t105 t106 t107 t108 t109 w0 _ ?side1 ?side2 A2.out).mono ?_); (case side1 => repeat (first | (with_reducible first | exact HI0.out | apply IsSRd.alloc | apply IsSRd.drewN | apply IsSRd.drew | apply IsSRd.set_1 | refine IsSRd.far ?_ NB0_110.out _) | exact HI0.out)); (case side2 => repeat (first | (with_reducible first | exact HB.out | apply below_alloc | apply pw_below_drewN | apply below_drew1 | refine below_set ?_ (IsSRd.ge HI0.out) | refine below_set ?_ GE110.out) | exact HB.out)); rintro e w5 ⟨v111, rfl, ho0, hi, hb, hk⟩; refine ⟨_, rfl, ?_⟩; have n0_ := q0 (KeepBut.blk hk (g' := gb110) (o := .cells #[.int .i64 0, .slice none 0 0] 30 (0, 0)) (qk BK110.out) NB110_0.out (by simp)); have n1_ := q0 (Kd.R_lower ho0 (keep_size (w := w) (g := g) (row := none) (qh HK.out))); have n2_ := q0 (KeepBut.trans (qh HK.out) hk (.inl rfl)); have n3_ := q0 (hb); have n4_ := q0 (hi); clear BK110 HK HB HI0; have BK110 := n0_; have HO112 := n1_; have HK := n2_; have HB := n3_; have HI0 := n4_; clear n0_ n1_ n2_ n3_ n4_; (try clear hb); (try clear hb2); (try clear hk); (try clear hi); (try clear ho0)) | ((with_reducible refine gate_dst (N := 5) rfl ?_); refine be 5 #[.int .i64 0, .slice none 0 0] 30 ?_; intro gb113 hg w6 hbox hb; have n0_ := q0 (Kd.R_below (qr HO112.out) hb); have n1_ := q0 (IsSRd.below (qi HI0.out) hb); have n2_ := q0 (kb BK110.out hb); have n3_ := q0 (KeepBut.trans (qh HK.out) (KeepBut.of_below hb g none) (.inl rfl)); have n4_ := q0 (below_step (qj HB.out HI0.out) hb); have n5_ := q0 (hbox); have n6_ := q0 ((by rw [hg]; exact (keep_size (w := w) (g := g) (row := none) (qh HK.out)) : w.heap.size ≤ gb113)); have n7_ := q0 ((Nat.le_trans HW0.out (by rw [hg]; exact (keep_size (w := w) (g := g) (row := none) (qh HK.out)) : w.heap.size ≤ gb113) : w0.heap.size ≤ gb113)); have n8_ := q0 ((bl BK110.out hg : gb110 ≠ gb113)); have n9_ := q0 ((bg BK110.out hg : gb113 ≠ gb110)); have n10_ := q0 ((by rw [hg]; exact Nat.ne_of_lt (IsSRd.lt (show IsSRd w0 _ g s0_0 t109 from qi HI0.out)) : g ≠ gb113)); have n11_ := q0 ((by rw [hg]; exact Nat.ne_of_gt (IsSRd.lt (show IsSRd w0 _ g s0_0 t109 from qi HI0.out)) : gb113 ≠ g)); clear HO112 HI0 BK110 HK HB; have HO112 := n0_; have HI0 := n1_; have BK110 := n2_; have HK := n3_; have HB := n4_; have BK113 := n5_; have GW113 := n6_; have GE113 := n7_; have NB110_113 := n8_; have NB113_110 := n9_; have NB0_113 := n10_; have NB113_0 := n11_; clear n0_ n1_ n2_ n3_ n4_ n5_ n6_ n7_ n8_ n9_ n10_ n11_ hb hbox hg; have hnb7 := NB113_110.out; have hnc7 := NB110_113.out; have hnb8 := NB113_0.out; have hnc8 := NB0_113.out; have hcz9_0 : w6.cell? ⟨gb113, 0, none⟩ = some (.int .i64 0) := (blk_cell BK113.out 0).trans rfl; have hcz9_1 : w6.cell? ⟨gb113, 1, none⟩ = some (.slice none 0 0) := (blk_cell BK113.out 1).trans rfl; have hfz9_0 := blk_frozen BK113.out 0; have hfz9_1 := blk_frozen BK113.out 1; obtain ⟨Ao10, co10, eo10⟩ := Kd.R_slice HO112.out; subst eo10))
 (try simp only [Act.put, List.setIfInBounds_toArray, List.set_cons_zero, List.set_cons_succ])
 go_cut [23] (fun v23 wc => ∃ (kq : Nat) (x23_2 : Bool) (x101_2 : Int), v23 = .bool x23_2 ∧ Aside0 (spec_l71Tied.j0 kq t107 t108 x23_2 s0_0 x101_2 t105 t106 = some (r1, r2, r3, r4, r5)) ∧ Aside0 (kq ≤ k) ∧ Aside0 (Kd.R kTie 44 wc w.heap.size (fun _ => True) (.slice Ao10 t106.length co10) t106) ∧ Aside0 (wc.heap[gb110]? = some (.cells #[.int .i64 0, (.slice none 0 0)] 30 (0, 0))) ∧ Aside0 (wc.heap[gb113]? = some (.cells #[.int .i64 t105, (.slice Ao10 t106.length co10)] 30 (0, 0))) ∧ Aside0 (IsSRd w0 wc g s0_0 x101_2) ∧ Aside0 (KeepBut w wc g none) ∧ Aside0 (Below w0.heap.size w0 wc))
 case first =>
   have H := HC3.out
   clear HC3
   by_cases c11 : (t106.length : Int) > 0
   rotate_left
   · rw [if_neg c11] at H
     have c11b0 : decide (0 < (t106.length : Int)) = false := decide_eq_false c11
     have c11b1 : decide (0 < t106.length) = false := decide_eq_false (by omega)
     clear c11
     (first | rw [c11b0] | (simp only [i64_w, i32_w]; rw [c11b0]) | skip)
     have H' := Aside0.mk H
     clear H
     have hnb17 := NB113_110.out
     have hnc17 := NB110_113.out
     have hnb18 := NB113_0.out
     have hnc18 := NB0_113.out
     have hcz19_0 : w6.cell? ⟨gb113, 0, none⟩ = some (.int .i64 0) := (blk_cell BK113.out 0).trans rfl
     have hcz19_1 : w6.cell? ⟨gb113, 1, none⟩ = some (.slice none 0 0) := (blk_cell BK113.out 1).trans rfl
     have hfz19_0 := blk_frozen BK113.out 0
     have hfz19_1 := blk_frozen BK113.out 1
     go_wp2
     go_meet
     case rel => exact ⟨_, (false), (t109), qs, H', ⟨by first | omega | exact Nat.le_refl _⟩, ⟨by (with_reducible repeat (first | apply Kd.R_alloc | apply Kd.R_drewN | apply Kd.R_drew)); exact Kd.R_mono (Kd.R_far (p := ⟨gb113, 1, none⟩) (Kd.R_far (p := ⟨gb113, 0, none⟩) (Kd.R_types HO112.out BK113.out (by decide)) (fun _ hk => hk.2) (.int .i64 t105)) (fun _ hk => hk.2) (.slice Ao10 t106.length co10)) (fun _ hk => trivial)⟩, ⟨qf BK110.out⟩, ⟨by (with_reducible repeat (first | refine blk_drewN ?_ _ | refine blk_drew ?_ | refine blk_alloc ?_ _)); refine blk_put (cs := #[.int .i64 t105, .slice none 0 0]) ?_ 1 _ rfl; (with_reducible repeat (first | refine blk_drewN ?_ _ | refine blk_drew ?_ | refine blk_alloc ?_ _)); refine blk_put (cs := #[.int .i64 0, .slice none 0 0]) ?_ 0 _ rfl; (with_reducible repeat (first | refine blk_drewN ?_ _ | refine blk_drew ?_ | refine blk_alloc ?_ _)); exact BK113.out⟩, ⟨qi HI0.out⟩, ⟨qh HK.out⟩, ⟨qj HB.out HI0.out⟩⟩
   rw [if_pos c11] at H
   have c11b0 : decide (0 < (t106.length : Int)) = true := decide_eq_true c11
   have c11b1 : decide (0 < t106.length) = true := decide_eq_true (by omega)
   clear c11
   (first | rw [c11b0] | (simp only [i64_w, i32_w]; rw [c11b0]) | skip)
   replace H := Option.bind_eq_some_iff.mp H
   obtain ⟨⟨t102, t114⟩, A115, H⟩ := H
   replace H : (spec_l71Tied.j0 k t107 t108 (decide (t102 > 0)) s0_0 t114 t105 t106) = some (r1, r2, r3, r4, r5) := H
   have A12 := Aside0.mk A115
   clear A115
   have H' := Aside0.mk H
   clear H
   have hnb13 := NB113_110.out
   have hnc13 := NB110_113.out
   have hnb14 := NB113_0.out
   have hnc14 := NB0_113.out
   have hcz15_0 : w6.cell? ⟨gb113, 0, none⟩ = some (.int .i64 0) := (blk_cell BK113.out 0).trans rfl
   have hcz15_1 : w6.cell? ⟨gb113, 1, none⟩ = some (.slice none 0 0) := (blk_cell BK113.out 1).trans rfl
   have hfz15_0 := blk_frozen BK113.out 0
   have hfz15_1 := blk_frozen BK113.out 1
   go_wp2_with (first | (go_at_call 81; (with_reducible refine (spec_l6Rd_pick.calls k g s0_0 t109 4 t102 t114 w0 _ ?side1 ?side2 A12.out).mono ?_); (case side1 => repeat (first | (with_reducible first | exact HI0.out | apply IsSRd.alloc | apply IsSRd.drewN | apply IsSRd.drew | apply IsSRd.set_1 | refine IsSRd.far ?_ NB0_110.out _ | refine IsSRd.far ?_ NB0_113.out _) | exact HI0.out)); (case side2 => repeat (first | (with_reducible first | exact HB.out | apply below_alloc | apply pw_below_drewN | apply below_drew1 | refine below_set ?_ (IsSRd.ge HI0.out) | refine below_set ?_ GE110.out | refine below_set ?_ GE113.out) | exact HB.out)); rintro e w16 ⟨rfl, hi, hb, hk⟩; have n0_ := q0 (KeepBut.blk hk (g' := gb110) (o := .cells #[.int .i64 0, .slice none 0 0] 30 (0, 0)) (qf BK110.out) NB110_0.out (by simp)); have n1_ := q0 (Kd.R_mono (Kd.R_keep (IsSRd.apart (show IsSRd w0 _ g s0_0 t109 from qi HI0.out) (by (with_reducible repeat (first | apply Kd.R_alloc | apply Kd.R_drewN | apply Kd.R_drew)); exact (Kd.R_mono (Kd.R_far (p := ⟨gb113, 1, none⟩) (Kd.R_far (p := ⟨gb113, 0, none⟩) (Kd.R_types HO112.out BK113.out (by decide)) (fun _ hk => hk.2) (.int .i64 t105)) (fun _ hk => hk.2) (.slice Ao10 t106.length co10)) (fun _ h_ => h_.1))) (by decide)) hk (fun _ h => h.2)) (fun _ h => h.1)); have n2_ := q0 (KeepBut.blk hk (g' := gb113) (o := .cells #[.int .i64 t105, .slice Ao10 t106.length co10] 30 (0, 0)) (by (with_reducible repeat (first | refine blk_drewN ?_ _ | refine blk_drew ?_ | refine blk_alloc ?_ _)); refine blk_put (cs := #[.int .i64 t105, .slice none 0 0]) ?_ 1 _ rfl; (with_reducible repeat (first | refine blk_drewN ?_ _ | refine blk_drew ?_ | refine blk_alloc ?_ _)); refine blk_put (cs := #[.int .i64 0, .slice none 0 0]) ?_ 0 _ rfl; (with_reducible repeat (first | refine blk_drewN ?_ _ | refine blk_drew ?_ | refine blk_alloc ?_ _)); exact BK113.out) NB113_0.out (by simp)); have n3_ := q0 (KeepBut.trans (qh HK.out) hk (.inl rfl)); have n4_ := q0 (hb); have n5_ := q0 (hi); clear BK110 HO112 BK113 HK HB HI0; have BK110 := n0_; have HO112 := n1_; have BK113 := n2_; have HK := n3_; have HB := n4_; have HI0 := n5_; clear n0_ n1_ n2_ n3_ n4_ n5_; (try clear hb); (try clear hb2); (try clear hk); (try clear hi)))
   go_meet
   case rel => exact ⟨_, (decide (t102 > 0)), (t114), qs, H', ⟨by first | omega | exact Nat.le_refl _⟩, ⟨qr HO112.out⟩, ⟨qk BK110.out⟩, ⟨qk BK113.out⟩, ⟨qi HI0.out⟩, ⟨qh HK.out⟩, ⟨qj HB.out HI0.out⟩⟩
 clear HC3
 try clear c1
 try clear p2
 try clear c6
 try clear c7
 try clear c8
 try clear c11
 try clear c11b0
 try clear c11b1
 try clear c13
 try clear c14
 try clear c17
 try clear c18
 try clear hcz15_0
 try clear hcz15_1
 try clear hcz19_0
 try clear hcz19_1
 try clear hcz9_0
 try clear hcz9_1
 try clear hfz15_0
 try clear hfz15_1
 try clear hfz19_0
 try clear hfz19_1
 try clear hfz9_0
 try clear hfz9_1
 obtain ⟨kq, x23_2, x101_2, rfl, HA, HJ2, HO_102001, BK110, BK113, HI0, HK, HB⟩ := hcut
 rcases kq with _ | kj2
 · exact absurd HA.out (by simp [spec_l71Tied.j0])
 have H := HA.out
 clear HA
 simp only [spec_l71Tied.j0] at H
 by_cases c20 : x23_2 = true
 rotate_left
 · replace c20 := Bool.eq_false_iff.mpr c20
   subst c20
   have H1 : (some (t105, t106, t107, t108, x101_2)) = some (r1, r2, r3, r4, r5) := by rw [if_neg (show ¬ (false = true) by decide)] at H; exact H
   clear H
   have H := H1
   clear H1
   simp only [Option.some.injEq, Prod.mk.injEq] at H
   obtain ⟨rfl, rfl, rfl, rfl, rfl⟩ := H
   have hnb46 := NB113_110.out
   have hnc46 := NB110_113.out
   have hnb47 := NB113_0.out
   have hnc47 := NB0_113.out
   have hcz48_0 : wc.cell? ⟨gb113, 0, none⟩ = some (.int .i64 t105) := (blk_cell BK113.out 0).trans rfl
   have hcz48_1 : wc.cell? ⟨gb113, 1, none⟩ = some (.slice Ao10 t106.length co10) := (blk_cell BK113.out 1).trans rfl
   have hfz48_0 := blk_frozen BK113.out 0
   have hfz48_1 := blk_frozen BK113.out 1
   have hnb49 := NB110_0.out
   have hnc49 := NB0_110.out
   have hcz50_0 : wc.cell? ⟨gb110, 0, none⟩ = some (.int .i64 0) := (blk_cell BK110.out 0).trans rfl
   have hcz50_1 : wc.cell? ⟨gb110, 1, none⟩ = some (.slice none 0 0) := (blk_cell BK110.out 1).trans rfl
   have hfz50_0 := blk_frozen BK110.out 0
   have hfz50_1 := blk_frozen BK110.out 1
   go_wp2
   refine bodyPost_ret (results_ctt rfl _ _ gb110 30 #[.int .i64 t105, .slice Ao10 t106.length co10] (0, 0) _ rfl (by (with_reducible repeat (first | refine blk_drewN ?_ _ | refine blk_drew ?_ | refine blk_alloc ?_ _)); refine blk_put (cs := #[.int .i64 t105, .slice none 0 0]) ?_ 1 _ rfl; (with_reducible repeat (first | refine blk_drewN ?_ _ | refine blk_drew ?_ | refine blk_alloc ?_ _)); refine blk_put (cs := #[.int .i64 0, .slice none 0 0]) ?_ 0 _ rfl; (with_reducible repeat (first | refine blk_drewN ?_ _ | refine blk_drew ?_ | refine blk_alloc ?_ _)); exact BK110.out) Try.underlying30 rfl (by kernel_rfl)) rfl ?_
   exact ⟨_, qe, by (with_reducible repeat (first | apply Kd.R_alloc | apply Kd.R_drewN | apply Kd.R_drew)); exact Kd.R_mono (Kd.R_far (p := ⟨gb110, 1, none⟩) (Kd.R_far (p := ⟨gb110, 0, none⟩) (Kd.R_types HO_102001.out BK110.out (by decide)) (fun _ hk => hk.2) (.int .i64 t105)) (fun _ hk => hk.2) (.slice Ao10 t106.length co10)) (fun _ hk => trivial), by repeat (first | (with_reducible first | exact HI0.out | apply IsSRd.alloc | apply IsSRd.drewN | apply IsSRd.drew | apply IsSRd.set_1 | refine IsSRd.far ?_ NB0_110.out _ | refine IsSRd.far ?_ NB0_113.out _) | exact HI0.out), by repeat (first | (with_reducible first | exact HB.out | apply below_alloc | apply pw_below_drewN | apply below_drew1 | refine below_set ?_ (IsSRd.ge HI0.out) | refine below_set ?_ GE110.out | refine below_set ?_ GE113.out) | exact HB.out), by repeat (first | (with_reducible first | exact HK.out | apply KeepBut.set_ | apply keep_drewN | apply keep_drew | apply keep_alloc | refine keep_far ?_ GW110.out _ | refine keep_far ?_ GW113.out _) | exact HK.out)⟩
 subst c20
 have H1 : ((spec_l6Rd_pick.f kj2 s0_0 x101_2 (t106.length : Int)).bind fun bt103 => (if 0 ≤ bt103.1 then (if bt103.1 < (t106.length : Int) then ((spec_l6Rd_pick.f kj2 s0_0 bt103.2 2).bind fun bt104 => (if bt104.1 = 0 then (some (t105, t106, (rd_TTie t106 bt103.1).f1, (rd_TTie t106 bt103.1).f0, bt104.2)) else (some (t105, t106, (rd_TTie t106 bt103.1).f0, (rd_TTie t106 bt103.1).f1, bt104.2)))) else (none)) else (none))) = some (r1, r2, r3, r4, r5) := by rw [if_pos rfl] at H; exact H
 clear H
 have H := H1
 clear H1
 replace H := Option.bind_eq_some_iff.mp H
 obtain ⟨⟨t103, t116⟩, A117, H⟩ := H
 replace H : (if 0 ≤ t103 then (if t103 < (t106.length : Int) then ((spec_l6Rd_pick.f kj2 s0_0 t116 2).bind fun bt104 => (if bt104.1 = 0 then (some (t105, t106, (rd_TTie t106 t103).f1, (rd_TTie t106 t103).f0, bt104.2)) else (some (t105, t106, (rd_TTie t106 t103).f0, (rd_TTie t106 t103).f1, bt104.2)))) else (none)) else (none)) = some (r1, r2, r3, r4, r5) := H
 have A21 := Aside0.mk A117
 clear A117
 by_cases c22 : 0 ≤ t103
 rotate_left
 · rw [if_neg c22] at H
   exact absurd H (by simp)
 rw [if_pos c22] at H
 have c22b0 : decide (0 ≤ t103) = true := decide_eq_true c22
 clear c22
 by_cases c23 : t103 < (t106.length : Int)
 rotate_left
 · rw [if_neg c23] at H
   exact absurd H (by simp)
 rw [if_pos c23] at H
 have c23b0 : decide (t103 < (t106.length : Int)) = true := decide_eq_true c23
 clear c23
 replace H := Option.bind_eq_some_iff.mp H
 obtain ⟨⟨t104, t118⟩, A119, H⟩ := H
 replace H : (if t104 = 0 then (some (t105, t106, (rd_TTie t106 t103).f1, (rd_TTie t106 t103).f0, t118)) else (some (t105, t106, (rd_TTie t106 t103).f0, (rd_TTie t106 t103).f1, t118))) = some (r1, r2, r3, r4, r5) := H
 have A24 := Aside0.mk A119
 clear A119
 by_cases c25 : t104 = 0
 rotate_left
 · rw [if_neg c25] at H
   have c25b0 : (t104 == 0) = false := beq_eq_false_iff_ne.mpr c25
   have c25b1 : (t104 != 0) = true := bne_iff_ne.mpr c25
   simp only [Option.some.injEq, Prod.mk.injEq] at H
   obtain ⟨rfl, rfl, rfl, rfl, rfl⟩ := H
   try go_wp2
   have n0_ := q0 (Kd.R_drew HO_102001.out)
   have n1_ := q0 (blk_drew BK110.out)
   have n2_ := q0 (blk_drew BK113.out)
   have n3_ := q0 (IsSRd.drew HI0.out)
   have n4_ := q0 (keep_drew HK.out)
   have n5_ := q0 (below_drew1 HB.out)
   clear HO_102001
   clear BK110
   clear BK113
   clear HI0
   clear HK
   clear HB
   have HO_102001 := n0_
   have BK110 := n1_
   have BK113 := n2_
   have HI0 := n3_
   have HK := n4_
   have HB := n5_
   clear n0_ n1_ n2_ n3_ n4_ n5_
   have p120 : 0 ≤ (t103 : Int) := of_decide_eq_true qa
   have q120 : t103 < (t106.length : Int) := of_decide_eq_true qa
   obtain ⟨ad120, e120, hx120_0, hx120_1⟩ := at_TTie (Kd.R_reads' HO_102001.out).2.2 t103 p120 q120
   cases e120
   replace p120 := eq_true p120
   replace q120 := eq_true q120
   refine start_ (n := 11) (S := fun w' => w'.cell? ⟨gb113, 0, none⟩ = some (.int .i64 t105) ∧ w'.cell? ⟨gb113, 1, none⟩ = some (.slice (some ad120) t106.length co10) ∧ w'.cell? (ad120.add ((t103).toNat * 2)) = some (.int .i64 ((rd_TTie t106 t103).f0)) ∧ w'.cell? ⟨(ad120.add ((t103).toNat * 2)).block, (ad120.add ((t103).toNat * 2)).off + 1, none⟩ = some (.int .i64 ((rd_TTie t106 t103).f1))) (ds := []) (ba 11 0) (by kernel_rfl) rfl (by kernel_rfl) ⟨(blk_cell BK113.out 0).trans rfl, (blk_cell BK113.out 1).trans rfl, hx120_0, hx120_1⟩ (fun hHeld => ?_); refine with_tabW spec_l71Tied.tab3 spec_l71Tied.bits3 (fun HT_ HW_ => ?_)
   generalize wc.drew = w36 at HO_102001 BK110 BK113 HI0 HK HB hx120_0 hx120_1 hHeld ⊢
   refine pu 0 (some 24) (ba 11 1) HT_.out ?_
   refine pu 2 (some 26) (ba 11 5) HT_.out ?_
   refine pu 3 (some 27) (ba 11 13) HT_.out ?_
   refine tu 1 (some 25) (ba 11 15) HT_.out HW_.out hHeld ?_
   refine tu 4 (some 28) (ba 11 31) HT_.out HW_.out hHeld ?_
   refine pu 5 (some 29) (ba 11 63) HT_.out ?_
   refine join_ (σ := Nat) 1 (ba 11 1023) (fun s_ => [(30, .int .i64 t103), (8, .pointer (some ⟨s_, 0, none⟩)), (31, .pointer (some (ad120.add ((t103).toNat * 2)))), (32, .agg #[.int .i64 ((rd_TTie t106 t103).f0), .int .i64 ((rd_TTie t106 t103).f1)])]) (fun s_ w' => (w'.cell? ⟨gb113, 0, none⟩ = some (.int .i64 t105) ∧ w'.cell? ⟨gb113, 1, none⟩ = some (.slice (some ad120) t106.length co10) ∧ w'.cell? (ad120.add ((t103).toNat * 2)) = some (.int .i64 ((rd_TTie t106 t103).f0)) ∧ w'.cell? ⟨(ad120.add ((t103).toNat * 2)).block, (ad120.add ((t103).toNat * 2)).off + 1, none⟩ = some (.int .i64 ((rd_TTie t106 t103).f1))) ∧ (Kd.R kTie 44 w' w.heap.size (fun k_ => k_ ≠ s_) (.slice (some ad120) t106.length co10) t106) ∧ (w'.heap[gb110]? = some (.cells #[.int .i64 0, .slice none 0 0] 30 (0, 0))) ∧ (w'.heap[gb113]? = some (.cells #[.int .i64 t105, .slice (some ad120) t106.length co10] 30 (0, 0))) ∧ (w'.heap[s_]? = some (.cells #[.int .i64 0, .int .i64 0] 44 (0, 0))) ∧ (w.heap.size ≤ s_) ∧ (w0.heap.size ≤ s_) ∧ (g ≠ s_) ∧ (s_ ≠ g) ∧ (gb110 ≠ s_) ∧ (s_ ≠ gb110) ∧ (gb113 ≠ s_) ∧ (s_ ≠ gb113) ∧ (IsSRd w0 w' g s0_0 t116) ∧ (KeepBut w w' g none) ∧ (Below w0.heap.size w0 w')) ?_ ?_
   rotate_left
   · intro hCont
     refine two_ (i := 6) (j := 9) (Ni := some 30) (Nj := some 8) (ba 11 127) (ba 11 575) rfl rfl rfl rfl (two_of HT_.out (by kernel_rfl)) (by decide) (by decide) (fun K hK => ?_) (fun K hK => ?_)
     · skip
       refine goes_ Try.func81 (by kernel_rfl) rfl #[.pointer (some ⟨g, 0, none⟩), .int .i64 (t106.length : Int)] (by rfl) rfl rfl qm ?_
       with_reducible refine (spec_l6Rd_pick.calls kj2 g s0_0 x101_2 (t106.length : Int) t103 t116 w0 _ ?side1 ?side2 A21.out).mono ?_
       (case side1 => repeat (first | (with_reducible first | exact HI0.out | apply IsSRd.alloc | apply IsSRd.drewN | apply IsSRd.drew | apply IsSRd.set_1 | refine IsSRd.far ?_ NB0_110.out _ | refine IsSRd.far ?_ NB0_113.out _) | exact HI0.out))
       (case side2 => repeat (first | (with_reducible first | exact HB.out | apply below_alloc | apply pw_below_drewN | apply below_drew1 | refine below_set ?_ (IsSRd.ge HI0.out) | refine below_set ?_ GE110.out | refine below_set ?_ GE113.out) | exact HB.out))
       rintro e w37 ⟨rfl, hi, hb, hk⟩
       have HS2_ := keep_cell hk (hHeld.2.2.1) (by first | (rw [add_block]; exact Kd.own_blk (IsSRd.own_ne HI0.out HO_102001.out (by decide))) | (show (Addr.add _ _).block ≠ _; rw [add_block]; exact Kd.own_blk (IsSRd.own_ne HI0.out HO_102001.out (by decide))) | exact Kd.own_blk (IsSRd.own_ne HI0.out HO_102001.out (by decide)))
       have HS3_ := keep_cell hk (hHeld.2.2.2) (by first | (rw [add_block]; exact Kd.own_blk (IsSRd.own_ne HI0.out HO_102001.out (by decide))) | (show (Addr.add _ _).block ≠ _; rw [add_block]; exact Kd.own_blk (IsSRd.own_ne HI0.out HO_102001.out (by decide))) | exact Kd.own_blk (IsSRd.own_ne HI0.out HO_102001.out (by decide)))
       refine ⟨_, rfl, ?_⟩
       have n0_ := q0 (Kd.R_mono (Kd.R_keep (IsSRd.apart (show IsSRd w0 _ g s0_0 x101_2 from qi HI0.out) (qr HO_102001.out) (by decide)) hk (fun _ h => h.2)) (fun _ h => h.1))
       have n1_ := q0 (KeepBut.blk hk (g' := gb110) (o := .cells #[.int .i64 0, .slice none 0 0] 30 (0, 0)) (qk BK110.out) NB110_0.out (by simp))
       have n2_ := q0 (KeepBut.blk hk (g' := gb113) (o := .cells #[.int .i64 t105, .slice (some ad120) t106.length co10] 30 (0, 0)) (qk BK113.out) NB113_0.out (by simp))
       have n3_ := q0 (KeepBut.trans (qh HK.out) hk (.inl rfl))
       have n4_ := q0 (hb)
       have n5_ := q0 (hi)
       clear HO_102001
       clear BK110
       clear BK113
       clear HK
       clear HB
       clear HI0
       have HO_102001 := n0_
       have BK110 := n1_
       have BK113 := n2_
       have HK := n3_
       have HB := n4_
       have HI0 := n5_
       clear n0_ n1_ n2_ n3_ n4_ n5_
       (try clear hb)
       (try clear hb2)
       (try clear hk)
       (try clear hi)
       refine hK.out _ _ ⟨(blk_cell BK113.out 0).trans rfl, (blk_cell BK113.out 1).trans rfl, HS2_, HS3_⟩ (fun hHeld => ?_)
       clear hK K
       refine nu 30 ?_
       refine pu 7 (some 31) (ba 11 255) HT_.out ?_
       refine tu 8 (some 32) (ba 11 511) HT_.out HW_.out hHeld ?_
       refine one_ (i := 9) (N := some 8) (ba 11 1023) rfl rfl (one_of HT_.out (by kernel_rfl)) (by decide) (fun K hK => ?_)
       refine box_step ?hg (N := 8) ?hd (cs := #[.int .i64 0, .int .i64 0]) (t := 44) ?hr ?_; (case hd => rfl); (case hg => rfl); (case hr => first | (go_simp; done) | (go_simp; rfl))
       intro gb121 hg w38 hbox hb
       have HS2_ := (hb.cell (World.block_lt_of_cell? _ _ (hHeld.2.2.1))).trans (hHeld.2.2.1)
       have HS3_ := (hb.cell (World.block_lt_of_cell? _ _ (hHeld.2.2.2))).trans (hHeld.2.2.2)
       have n0_ := q0 (Kd.R_below (Kd.R_elderB (qr HO_102001.out) gb121 (Nat.le_of_eq hg.symm)) hb)
       have n1_ := q0 (kb BK110.out hb)
       have n2_ := q0 (kb BK113.out hb)
       have n3_ := q0 (IsSRd.below (qi HI0.out) hb)
       have n4_ := q0 (KeepBut.trans (qh HK.out) (KeepBut.of_below hb g none) (.inl rfl))
       have n5_ := q0 (below_step (qj HB.out HI0.out) hb)
       have n6_ := q0 (hbox)
       have n7_ := q0 ((by rw [hg]; exact (keep_size (w := w) (g := g) (row := none) (qh HK.out)) : w.heap.size ≤ gb121))
       have n8_ := q0 ((Nat.le_trans HW0.out (by rw [hg]; exact (keep_size (w := w) (g := g) (row := none) (qh HK.out)) : w.heap.size ≤ gb121) : w0.heap.size ≤ gb121))
       have n9_ := q0 ((bl BK110.out hg : gb110 ≠ gb121))
       have n10_ := q0 ((bg BK110.out hg : gb121 ≠ gb110))
       have n11_ := q0 ((bl BK113.out hg : gb113 ≠ gb121))
       have n12_ := q0 ((bg BK113.out hg : gb121 ≠ gb113))
       have n13_ := q0 ((by rw [hg]; exact Nat.ne_of_lt (IsSRd.lt (show IsSRd w0 _ g s0_0 t116 from qi HI0.out)) : g ≠ gb121))
       have n14_ := q0 ((by rw [hg]; exact Nat.ne_of_gt (IsSRd.lt (show IsSRd w0 _ g s0_0 t116 from qi HI0.out)) : gb121 ≠ g))
       clear HO_102001
       clear BK110
       clear BK113
       clear HI0
       clear HK
       clear HB
       have HO_102001 := n0_
       have BK110 := n1_
       have BK113 := n2_
       have HI0 := n3_
       have HK := n4_
       have HB := n5_
       have BK121 := n6_
       have GW121 := n7_
       have GE121 := n8_
       have NB110_121 := n9_
       have NB121_110 := n10_
       have NB113_121 := n11_
       have NB121_113 := n12_
       have NB0_121 := n13_
       have NB121_0 := n14_
       clear n0_ n1_ n2_ n3_ n4_ n5_ n6_ n7_ n8_ n9_ n10_ n11_ n12_ n13_ n14_
       clear hb hbox hg
       refine hK.out _ _ ⟨(blk_cell BK113.out 0).trans rfl, (blk_cell BK113.out 1).trans rfl, HS2_, HS3_⟩ (fun hHeld => ?_)
       clear hK K
       refine nu 8 ?_
       exact norm_ (by simp only [putAll, Act.put, List.setIfInBounds_toArray, List.set_cons_zero, List.set_cons_succ]) (hCont (gb121) _ ⟨hHeld, (by (with_reducible repeat (first | apply Kd.R_alloc | apply Kd.R_drewN | apply Kd.R_drew)); exact Kd.R_mono HO_102001.out (fun _ hk => hk.2)), (qk BK110.out), (qk BK113.out), (qk BK121.out), GW121.out, GE121.out, NB0_121.out, NB121_0.out, NB110_121.out, NB121_110.out, NB113_121.out, NB121_113.out, (qi HI0.out), (qh HK.out), (qj HB.out HI0.out)⟩)
     · skip
       refine box_step ?hg (N := 8) ?hd (cs := #[.int .i64 0, .int .i64 0]) (t := 44) ?hr ?_; (case hd => rfl); (case hg => rfl); (case hr => first | (go_simp; done) | (go_simp; rfl))
       intro gb121 hg w37 hbox hb
       have HS2_ := (hb.cell (World.block_lt_of_cell? _ _ (hHeld.2.2.1))).trans (hHeld.2.2.1)
       have HS3_ := (hb.cell (World.block_lt_of_cell? _ _ (hHeld.2.2.2))).trans (hHeld.2.2.2)
       have n0_ := q0 (Kd.R_below (Kd.R_elderB (qr HO_102001.out) gb121 (Nat.le_of_eq hg.symm)) hb)
       have n1_ := q0 (kb BK110.out hb)
       have n2_ := q0 (kb BK113.out hb)
       have n3_ := q0 (IsSRd.below (qi HI0.out) hb)
       have n4_ := q0 (KeepBut.trans (qh HK.out) (KeepBut.of_below hb g none) (.inl rfl))
       have n5_ := q0 (below_step (qj HB.out HI0.out) hb)
       have n6_ := q0 (hbox)
       have n7_ := q0 ((by rw [hg]; exact (keep_size (w := w) (g := g) (row := none) (qh HK.out)) : w.heap.size ≤ gb121))
       have n8_ := q0 ((Nat.le_trans HW0.out (by rw [hg]; exact (keep_size (w := w) (g := g) (row := none) (qh HK.out)) : w.heap.size ≤ gb121) : w0.heap.size ≤ gb121))
       have n9_ := q0 ((bl BK110.out hg : gb110 ≠ gb121))
       have n10_ := q0 ((bg BK110.out hg : gb121 ≠ gb110))
       have n11_ := q0 ((bl BK113.out hg : gb113 ≠ gb121))
       have n12_ := q0 ((bg BK113.out hg : gb121 ≠ gb113))
       have n13_ := q0 ((by rw [hg]; exact Nat.ne_of_lt (IsSRd.lt (show IsSRd w0 _ g s0_0 x101_2 from qi HI0.out)) : g ≠ gb121))
       have n14_ := q0 ((by rw [hg]; exact Nat.ne_of_gt (IsSRd.lt (show IsSRd w0 _ g s0_0 x101_2 from qi HI0.out)) : gb121 ≠ g))
       clear HO_102001
       clear BK110
       clear BK113
       clear HI0
       clear HK
       clear HB
       have HO_102001 := n0_
       have BK110 := n1_
       have BK113 := n2_
       have HI0 := n3_
       have HK := n4_
       have HB := n5_
       have BK121 := n6_
       have GW121 := n7_
       have GE121 := n8_
       have NB110_121 := n9_
       have NB121_110 := n10_
       have NB113_121 := n11_
       have NB121_113 := n12_
       have NB0_121 := n13_
       have NB121_0 := n14_
       clear n0_ n1_ n2_ n3_ n4_ n5_ n6_ n7_ n8_ n9_ n10_ n11_ n12_ n13_ n14_
       clear hb hbox hg
       refine hK.out _ _ ⟨(blk_cell BK113.out 0).trans rfl, (blk_cell BK113.out 1).trans rfl, HS2_, HS3_⟩ (fun hHeld => ?_)
       clear hK K
       refine nu 8 ?_
       refine one_ (i := 6) (N := some 30) (ba 11 639) rfl rfl (one_of HT_.out (by kernel_rfl)) (by decide) (fun K hK => ?_)
       refine goes_ Try.func81 (by kernel_rfl) rfl #[.pointer (some ⟨g, 0, none⟩), .int .i64 (t106.length : Int)] (by rfl) rfl rfl qm ?_
       with_reducible refine (spec_l6Rd_pick.calls kj2 g s0_0 x101_2 (t106.length : Int) t103 t116 w0 _ ?side1 ?side2 A21.out).mono ?_
       (case side1 => repeat (first | (with_reducible first | exact HI0.out | apply IsSRd.alloc | apply IsSRd.drewN | apply IsSRd.drew | apply IsSRd.set_1 | refine IsSRd.far ?_ NB0_110.out _ | refine IsSRd.far ?_ NB0_113.out _ | refine IsSRd.far ?_ NB0_121.out _) | exact HI0.out))
       (case side2 => repeat (first | (with_reducible first | exact HB.out | apply below_alloc | apply pw_below_drewN | apply below_drew1 | refine below_set ?_ (IsSRd.ge HI0.out) | refine below_set ?_ GE110.out | refine below_set ?_ GE113.out | refine below_set ?_ GE121.out) | exact HB.out))
       rintro e w38 ⟨rfl, hi, hb, hk⟩
       have HS2_ := keep_cell hk (hHeld.2.2.1) (by first | (rw [add_block]; exact Kd.own_blk (IsSRd.own_ne HI0.out HO_102001.out (by decide))) | (show (Addr.add _ _).block ≠ _; rw [add_block]; exact Kd.own_blk (IsSRd.own_ne HI0.out HO_102001.out (by decide))) | exact Kd.own_blk (IsSRd.own_ne HI0.out HO_102001.out (by decide)))
       have HS3_ := keep_cell hk (hHeld.2.2.2) (by first | (rw [add_block]; exact Kd.own_blk (IsSRd.own_ne HI0.out HO_102001.out (by decide))) | (show (Addr.add _ _).block ≠ _; rw [add_block]; exact Kd.own_blk (IsSRd.own_ne HI0.out HO_102001.out (by decide))) | exact Kd.own_blk (IsSRd.own_ne HI0.out HO_102001.out (by decide)))
       refine ⟨_, rfl, ?_⟩
       have n0_ := q0 (Kd.R_mono (Kd.R_keep (IsSRd.apart (show IsSRd w0 _ g s0_0 x101_2 from qi HI0.out) (qr HO_102001.out) (by decide)) hk (fun _ h => h.2)) (fun _ h => h.1))
       have n1_ := q0 (KeepBut.blk hk (g' := gb110) (o := .cells #[.int .i64 0, .slice none 0 0] 30 (0, 0)) (qk BK110.out) NB110_0.out (by simp))
       have n2_ := q0 (KeepBut.blk hk (g' := gb113) (o := .cells #[.int .i64 t105, .slice (some ad120) t106.length co10] 30 (0, 0)) (qk BK113.out) NB113_0.out (by simp))
       have n3_ := q0 (KeepBut.blk hk (g' := gb121) (o := .cells #[.int .i64 0, .int .i64 0] 44 (0, 0)) (qk BK121.out) NB121_0.out (by simp))
       have n4_ := q0 (KeepBut.trans (qh HK.out) hk (.inl rfl))
       have n5_ := q0 (hb)
       have n6_ := q0 (hi)
       clear HO_102001
       clear BK110
       clear BK113
       clear BK121
       clear HK
       clear HB
       clear HI0
       have HO_102001 := n0_
       have BK110 := n1_
       have BK113 := n2_
       have BK121 := n3_
       have HK := n4_
       have HB := n5_
       have HI0 := n6_
       clear n0_ n1_ n2_ n3_ n4_ n5_ n6_
       (try clear hb)
       (try clear hb2)
       (try clear hk)
       (try clear hi)
       refine hK.out _ _ ⟨(blk_cell BK113.out 0).trans rfl, (blk_cell BK113.out 1).trans rfl, HS2_, HS3_⟩ (fun hHeld => ?_)
       clear hK K
       refine nu 30 ?_
       refine pu 7 (some 31) (ba 11 767) HT_.out ?_
       refine tu 8 (some 32) (ba 11 1023) HT_.out HW_.out hHeld ?_
       exact norm_ (by simp only [putAll, Act.put, List.setIfInBounds_toArray, List.set_cons_zero, List.set_cons_succ]) (hCont (gb121) _ ⟨hHeld, (by (with_reducible repeat (first | apply Kd.R_alloc | apply Kd.R_drewN | apply Kd.R_drew)); exact Kd.R_mono HO_102001.out (fun _ hk => hk.2)), (qk BK110.out), (qk BK113.out), (qk BK121.out), GW121.out, GE121.out, NB0_121.out, NB121_0.out, NB110_121.out, NB121_110.out, NB113_121.out, NB121_113.out, (qi HI0.out), (qh HK.out), (qj HB.out HI0.out)⟩)
   rintro gb121 w39 ⟨hS_, h0_, h1_, h2_, h3_, h4_, h5_, h6_, h7_, h8_, h9_, h10_, h11_, h12_, h13_, h14_⟩
   have n0_ : Aside0 (Kd.R kTie 44 w39 w.heap.size (fun k_ => k_ ≠ gb121) (.slice (some ad120) t106.length co10) t106) := ⟨h0_⟩
   have n1_ : Aside0 (w39.heap[gb110]? = some (.cells #[.int .i64 0, .slice none 0 0] 30 (0, 0))) := ⟨h1_⟩
   have n2_ : Aside0 (w39.heap[gb113]? = some (.cells #[.int .i64 t105, .slice (some ad120) t106.length co10] 30 (0, 0))) := ⟨h2_⟩
   have n3_ : Aside0 (w39.heap[gb121]? = some (.cells #[.int .i64 0, .int .i64 0] 44 (0, 0))) := ⟨h3_⟩
   have n4_ : Aside0 (w.heap.size ≤ gb121) := ⟨h4_⟩
   have n5_ : Aside0 (w0.heap.size ≤ gb121) := ⟨h5_⟩
   have n6_ : Aside0 (g ≠ gb121) := ⟨h6_⟩
   have n7_ : Aside0 (gb121 ≠ g) := ⟨h7_⟩
   have n8_ : Aside0 (gb110 ≠ gb121) := ⟨h8_⟩
   have n9_ : Aside0 (gb121 ≠ gb110) := ⟨h9_⟩
   have n10_ : Aside0 (gb113 ≠ gb121) := ⟨h10_⟩
   have n11_ : Aside0 (gb121 ≠ gb113) := ⟨h11_⟩
   have n12_ : Aside0 (IsSRd w0 w39 g s0_0 t116) := ⟨h12_⟩
   have n13_ : Aside0 (KeepBut w w39 g none) := ⟨h13_⟩
   have n14_ : Aside0 (Below w0.heap.size w0 w39) := ⟨h14_⟩
   clear HO_102001
   clear BK110
   clear BK113
   clear HI0
   clear HK
   clear HB
   clear h0_ h1_ h2_ h3_ h4_ h5_ h6_ h7_ h8_ h9_ h10_ h11_ h12_ h13_ h14_
   have HO_102001 := n0_
   have BK110 := n1_
   have BK113 := n2_
   have BK121 := n3_
   have GW121 := n4_
   have GE121 := n5_
   have NB0_121 := n6_
   have NB121_0 := n7_
   have NB110_121 := n8_
   have NB121_110 := n9_
   have NB113_121 := n10_
   have NB121_113 := n11_
   have HI0 := n12_
   have HK := n13_
   have HB := n14_
   clear n0_ n1_ n2_ n3_ n4_ n5_ n6_ n7_ n8_ n9_ n10_ n11_ n12_ n13_ n14_
   have hHeld : w39.cell? ⟨gb113, 0, none⟩ = some (.int .i64 t105) ∧ w39.cell? ⟨gb113, 1, none⟩ = some (.slice (some ad120) t106.length co10) ∧ w39.cell? (ad120.add ((t103).toNat * 2)) = some (.int .i64 ((rd_TTie t106 t103).f0)) ∧ w39.cell? ⟨(ad120.add ((t103).toNat * 2)).block, (ad120.add ((t103).toNat * 2)).off + 1, none⟩ = some (.int .i64 ((rd_TTie t106 t103).f1)) := hS_
   refine norm_ (a' := ?_) ?_ ?_
   rotate_left
   · simp only [putAll, Act.put, List.setIfInBounds_toArray, List.set_cons_zero, List.set_cons_succ]
     rfl
   refine one_ (i := 10) (N := none) (ba 11 2047) rfl rfl (one_of HT_.out (by kernel_rfl)) (by decide) (fun K hK => ?_)
   have hs40 : w39.cell? ⟨gb121, 0, none⟩ = some (.int .i64 0) := (blk_cell BK121.out 0).trans rfl
   have hfs40 := blk_frozen BK121.out 0
   have hns40_0 := NB110_121.out
   have hns40_1 := NB113_121.out
   have hms40_0 := NB121_110.out
   have hms40_1 := NB121_113.out
   have hs41 : w39.cell? ⟨gb121, 1, none⟩ = some (.int .i64 0) := (blk_cell BK121.out 1).trans rfl
   have hfs41 := blk_frozen BK121.out 1
   have hns41_0 := NB110_121.out
   have hns41_1 := NB113_121.out
   have hms41_0 := NB121_110.out
   have hms41_1 := NB121_113.out
   refine skip_ (w1 := ?_) (by rfl) rfl ?_ ?_
   rotate_left
   · go_simp
     rfl
   refine hK.out _ _ ⟨((cell_far (p := ⟨gb121, _, none⟩) NB113_121.out _).trans (((cell_far (p := ⟨gb121, _, none⟩) NB113_121.out _).trans (hHeld.1)))), ((cell_far (p := ⟨gb121, _, none⟩) NB113_121.out _).trans (((cell_far (p := ⟨gb121, _, none⟩) NB113_121.out _).trans (hHeld.2.1)))), ((cell_far (p := ⟨gb121, _, none⟩) (by first | exact Kd.own_blk (Kd.R_away HO_102001.out (fun _ hk => hk)) | (rw [add_block]; exact Kd.own_blk (Kd.R_away HO_102001.out (fun _ hk => hk))) | (show (Addr.add _ _).block ≠ _; rw [add_block]; exact Kd.own_blk (Kd.R_away HO_102001.out (fun _ hk => hk))) | (dsimp only; exact Kd.own_blk (Kd.R_away HO_102001.out (fun _ hk => hk)))) _).trans (((cell_far (p := ⟨gb121, _, none⟩) (by first | exact Kd.own_blk (Kd.R_away HO_102001.out (fun _ hk => hk)) | (rw [add_block]; exact Kd.own_blk (Kd.R_away HO_102001.out (fun _ hk => hk))) | (show (Addr.add _ _).block ≠ _; rw [add_block]; exact Kd.own_blk (Kd.R_away HO_102001.out (fun _ hk => hk))) | (dsimp only; exact Kd.own_blk (Kd.R_away HO_102001.out (fun _ hk => hk)))) _).trans (hHeld.2.2.1)))), ((cell_far (p := ⟨gb121, _, none⟩) (by first | exact Kd.own_blk (Kd.R_away HO_102001.out (fun _ hk => hk)) | (rw [add_block]; exact Kd.own_blk (Kd.R_away HO_102001.out (fun _ hk => hk))) | (show (Addr.add _ _).block ≠ _; rw [add_block]; exact Kd.own_blk (Kd.R_away HO_102001.out (fun _ hk => hk))) | (dsimp only; exact Kd.own_blk (Kd.R_away HO_102001.out (fun _ hk => hk)))) _).trans (((cell_far (p := ⟨gb121, _, none⟩) (by first | exact Kd.own_blk (Kd.R_away HO_102001.out (fun _ hk => hk)) | (rw [add_block]; exact Kd.own_blk (Kd.R_away HO_102001.out (fun _ hk => hk))) | (show (Addr.add _ _).block ≠ _; rw [add_block]; exact Kd.own_blk (Kd.R_away HO_102001.out (fun _ hk => hk))) | (dsimp only; exact Kd.own_blk (Kd.R_away HO_102001.out (fun _ hk => hk)))) _).trans (hHeld.2.2.2))))⟩ (fun hHeld => ?_)
   clear hK K
   refine done_ (done_of HT_.out (by kernel_rfl)) ?_
   try go_wp2_with (first | ((with_reducible refine gate_callee (f := 81) rfl ?_); refine goesL_ (some 34) rfl rfl Try.func81 (by kernel_rfl) rfl #[.pointer (some ⟨g, 0, none⟩), .int .i64 2] rfl qm ?_; (with_reducible refine (spec_l6Rd_pick.calls kj2 g s0_0 t116 2 t104 t118 w0 _ ?side1 ?side2 A24.out).mono ?_); (case side1 => repeat (first | (with_reducible first | exact HI0.out | apply IsSRd.alloc | apply IsSRd.drewN | apply IsSRd.drew | apply IsSRd.set_1 | refine IsSRd.far ?_ NB0_110.out _ | refine IsSRd.far ?_ NB0_113.out _ | refine IsSRd.far ?_ NB0_121.out _) | exact HI0.out)); (case side2 => repeat (first | (with_reducible first | exact HB.out | apply below_alloc | apply pw_below_drewN | apply below_drew1 | refine below_set ?_ (IsSRd.ge HI0.out) | refine below_set ?_ GE110.out | refine below_set ?_ GE113.out | refine below_set ?_ GE121.out) | exact HB.out)); rintro e w42 ⟨rfl, hi, hb, hk⟩; refine ⟨_, rfl, ?_⟩; have n0_ := q0 (Kd.R_mono (Kd.R_keep (IsSRd.apart (show IsSRd w0 _ g s0_0 t116 from qi HI0.out) (by (with_reducible repeat (first | apply Kd.R_alloc | apply Kd.R_drewN | apply Kd.R_drew)); exact (Kd.R_mono (Kd.R_far (p := ⟨gb121, 1, none⟩) (Kd.R_far (p := ⟨gb121, 0, none⟩) (Kd.R_mono HO_102001.out (fun k_ hk => (⟨hk, hk⟩ : _ ∧ k_ ≠ gb121))) (fun _ hk => hk.2) (.int .i64 ((rd_TTie t106 t103).f0))) (fun _ hk => hk.2) (.int .i64 ((rd_TTie t106 t103).f1))) (fun _ h_ => h_.1))) (by decide)) hk (fun _ h => h.2)) (fun _ h => h.1)); have n1_ := q0 (KeepBut.blk hk (g' := gb110) (o := .cells #[.int .i64 0, .slice none 0 0] 30 (0, 0)) (qf BK110.out) NB110_0.out (by simp)); have n2_ := q0 (KeepBut.blk hk (g' := gb113) (o := .cells #[.int .i64 t105, .slice (some ad120) t106.length co10] 30 (0, 0)) (qf BK113.out) NB113_0.out (by simp)); have n3_ := q0 (KeepBut.blk hk (g' := gb121) (o := .cells #[.int .i64 ((rd_TTie t106 t103).f0), .int .i64 ((rd_TTie t106 t103).f1)] 44 (0, 0)) (by (with_reducible repeat (first | refine blk_drewN ?_ _ | refine blk_drew ?_ | refine blk_alloc ?_ _)); refine blk_put (cs := #[.int .i64 ((rd_TTie t106 t103).f0), .int .i64 0]) ?_ 1 _ rfl; (with_reducible repeat (first | refine blk_drewN ?_ _ | refine blk_drew ?_ | refine blk_alloc ?_ _)); refine blk_put (cs := #[.int .i64 0, .int .i64 0]) ?_ 0 _ rfl; (with_reducible repeat (first | refine blk_drewN ?_ _ | refine blk_drew ?_ | refine blk_alloc ?_ _)); exact BK121.out) NB121_0.out (by simp)); have n4_ := q0 (KeepBut.trans (qh HK.out) hk (.inl rfl)); have n5_ := q0 (hb); have n6_ := q0 (hi); clear HO_102001 BK110 BK113 BK121 HK HB HI0; have HO_102001 := n0_; have BK110 := n1_; have BK113 := n2_; have BK121 := n3_; have HK := n4_; have HB := n5_; have HI0 := n6_; clear n0_ n1_ n2_ n3_ n4_ n5_ n6_; (try clear hb); (try clear hb2); (try clear hk); (try clear hi)))
   have n0_ := q0 (Kd.R_drew HO_102001.out)
   have n1_ := q0 (blk_drew BK110.out)
   have n2_ := q0 (blk_drew BK113.out)
   have n3_ := q0 (blk_drew BK121.out)
   have n4_ := q0 (IsSRd.drew HI0.out)
   have n5_ := q0 (keep_drew HK.out)
   have n6_ := q0 (below_drew1 HB.out)
   clear HO_102001
   clear BK110
   clear BK113
   clear BK121
   clear HI0
   clear HK
   clear HB
   have HO_102001 := n0_
   have BK110 := n1_
   have BK113 := n2_
   have BK121 := n3_
   have HI0 := n4_
   have HK := n5_
   have HB := n6_
   clear n0_ n1_ n2_ n3_ n4_ n5_ n6_
   refine start_ (n := 8) (S := fun w' => w'.cell? ⟨gb113, 0, none⟩ = some (.int .i64 t105) ∧ w'.cell? ⟨gb113, 1, none⟩ = some (.slice (some ad120) t106.length co10) ∧ w'.cell? ⟨gb121, 0, none⟩ = some (.int .i64 ((rd_TTie t106 t103).f0)) ∧ w'.cell? ⟨gb121, 1, none⟩ = some (.int .i64 ((rd_TTie t106 t103).f1))) (ds := []) (ba 8 0) (by kernel_rfl) rfl (by kernel_rfl) ⟨(blk_cell BK113.out 0).trans rfl, (blk_cell BK113.out 1).trans rfl, (blk_cell BK121.out 0).trans rfl, (blk_cell BK121.out 1).trans rfl⟩ (fun hHeld => ?_); refine with_tabW spec_l71Tied.tab6 spec_l71Tied.bits6 (fun HT_ HW_ => ?_)
   generalize w42.drew = w43 at HO_102001 BK110 BK113 BK121 HI0 HK HB hHeld ⊢
   refine pu 1 (some 42) (ba 8 2) HT_.out ?_
   refine pu 3 (some 44) (ba 8 10) HT_.out ?_
   refine tu 0 (some 41) (ba 8 11) HT_.out HW_.out hHeld ?_
   refine tu 2 (some 43) (ba 8 15) HT_.out HW_.out hHeld ?_
   refine tu 4 (some 45) (ba 8 31) HT_.out HW_.out hHeld ?_
   refine one_ (i := 5) (N := none) (ba 8 63) rfl rfl (one_of HT_.out (by kernel_rfl)) (by decide) (fun K hK => ?_)
   have hs44 : w43.cell? ⟨gb110, 0, none⟩ = some (.int .i64 0) := (blk_cell BK110.out 0).trans rfl
   have hfs44 := blk_frozen BK110.out 0
   have hns44_1 := NB113_110.out
   have hns44_2 := NB121_110.out
   have hms44_1 := NB110_113.out
   have hms44_2 := NB110_121.out
   have hs45 : w43.cell? ⟨gb110, 1, none⟩ = some (.slice none 0 0) := (blk_cell BK110.out 1).trans rfl
   have hfs45 := blk_frozen BK110.out 1
   have hns45_1 := NB113_110.out
   have hns45_2 := NB121_110.out
   have hms45_1 := NB110_113.out
   have hms45_2 := NB110_121.out
   refine skip_ (w1 := ?_) (by rfl) rfl ?_ ?_
   rotate_left
   · go_simp
     rfl
   refine hK.out _ _ ⟨((cell_far (p := ⟨gb110, _, none⟩) NB113_110.out _).trans (((cell_far (p := ⟨gb110, _, none⟩) NB113_110.out _).trans (hHeld.1)))), ((cell_far (p := ⟨gb110, _, none⟩) NB113_110.out _).trans (((cell_far (p := ⟨gb110, _, none⟩) NB113_110.out _).trans (hHeld.2.1)))), ((cell_far (p := ⟨gb110, _, none⟩) NB121_110.out _).trans (((cell_far (p := ⟨gb110, _, none⟩) NB121_110.out _).trans (hHeld.2.2.1)))), ((cell_far (p := ⟨gb110, _, none⟩) NB121_110.out _).trans (((cell_far (p := ⟨gb110, _, none⟩) NB121_110.out _).trans (hHeld.2.2.2))))⟩ (fun hHeld => ?_)
   clear hK K
   refine pu 6 (some 3) (ba 8 127) HT_.out ?_
   refine pu 7 (some 4) (ba 8 255) HT_.out ?_
   refine done_ (done_of HT_.out (by kernel_rfl)) ?_
   try go_wp2
   refine bodyPost_ret (results_ctt rfl _ _ gb110 30 #[.int .i64 t105, .slice (some ad120) t106.length co10] (0, 0) _ rfl (by (with_reducible repeat (first | refine blk_drewN ?_ _ | refine blk_drew ?_ | refine blk_alloc ?_ _)); refine blk_put (cs := #[.int .i64 t105, .slice none 0 0]) ?_ 1 _ rfl; (with_reducible repeat (first | refine blk_drewN ?_ _ | refine blk_drew ?_ | refine blk_alloc ?_ _)); refine blk_put (cs := #[.int .i64 0, .slice none 0 0]) ?_ 0 _ rfl; (with_reducible repeat (first | refine blk_drewN ?_ _ | refine blk_drew ?_ | refine blk_alloc ?_ _)); exact BK110.out) Try.underlying30 rfl (by kernel_rfl)) rfl ?_
   exact ⟨_, qe, by (with_reducible repeat (first | apply Kd.R_alloc | apply Kd.R_drewN | apply Kd.R_drew)); exact Kd.R_mono (Kd.R_far (p := ⟨gb110, 1, none⟩) (Kd.R_far (p := ⟨gb110, 0, none⟩) (Kd.R_types HO_102001.out BK110.out (by decide)) (fun _ hk => hk.2) (.int .i64 t105)) (fun _ hk => hk.2) (.slice (some ad120) t106.length co10)) (fun _ hk => trivial), by repeat (first | (with_reducible first | exact HI0.out | apply IsSRd.alloc | apply IsSRd.drewN | apply IsSRd.drew | apply IsSRd.set_1 | refine IsSRd.far ?_ NB0_110.out _ | refine IsSRd.far ?_ NB0_113.out _ | refine IsSRd.far ?_ NB0_121.out _) | exact HI0.out), by repeat (first | (with_reducible first | exact HB.out | apply below_alloc | apply pw_below_drewN | apply below_drew1 | refine below_set ?_ (IsSRd.ge HI0.out) | refine below_set ?_ GE110.out | refine below_set ?_ GE113.out | refine below_set ?_ GE121.out) | exact HB.out), by repeat (first | (with_reducible first | exact HK.out | apply KeepBut.set_ | apply keep_drewN | apply keep_drew | apply keep_alloc | refine keep_far ?_ GW110.out _ | refine keep_far ?_ GW113.out _ | refine keep_far ?_ GW121.out _) | exact HK.out)⟩
 rw [if_pos c25] at H
 have c25b0 : (t104 == 0) = true := beq_iff_eq.mpr c25
 have c25b1 : (t104 != 0) = false := bne_eq_false_iff_eq.mpr c25
 clear c25
 simp only [Option.some.injEq, Prod.mk.injEq] at H
 obtain ⟨rfl, rfl, rfl, rfl, rfl⟩ := H
 try go_wp2
 have n0_ := q0 (Kd.R_drew HO_102001.out)
 have n1_ := q0 (blk_drew BK110.out)
 have n2_ := q0 (blk_drew BK113.out)
 have n3_ := q0 (IsSRd.drew HI0.out)
 have n4_ := q0 (keep_drew HK.out)
 have n5_ := q0 (below_drew1 HB.out)
 clear HO_102001
 clear BK110
 clear BK113
 clear HI0
 clear HK
 clear HB
 have HO_102001 := n0_
 have BK110 := n1_
 have BK113 := n2_
 have HI0 := n3_
 have HK := n4_
 have HB := n5_
 clear n0_ n1_ n2_ n3_ n4_ n5_
 have p120 : 0 ≤ (t103 : Int) := of_decide_eq_true qa
 have q120 : t103 < (t106.length : Int) := of_decide_eq_true qa
 obtain ⟨ad120, e120, hx120_0, hx120_1⟩ := at_TTie (Kd.R_reads' HO_102001.out).2.2 t103 p120 q120
 cases e120
 replace p120 := eq_true p120
 replace q120 := eq_true q120
 refine start_ (n := 11) (S := fun w' => w'.cell? ⟨gb113, 0, none⟩ = some (.int .i64 t105) ∧ w'.cell? ⟨gb113, 1, none⟩ = some (.slice (some ad120) t106.length co10) ∧ w'.cell? (ad120.add ((t103).toNat * 2)) = some (.int .i64 ((rd_TTie t106 t103).f0)) ∧ w'.cell? ⟨(ad120.add ((t103).toNat * 2)).block, (ad120.add ((t103).toNat * 2)).off + 1, none⟩ = some (.int .i64 ((rd_TTie t106 t103).f1))) (ds := []) (ba 11 0) (by kernel_rfl) rfl (by kernel_rfl) ⟨(blk_cell BK113.out 0).trans rfl, (blk_cell BK113.out 1).trans rfl, hx120_0, hx120_1⟩ (fun hHeld => ?_); refine with_tabW spec_l71Tied.tab3 spec_l71Tied.bits3 (fun HT_ HW_ => ?_)
 generalize wc.drew = w26 at HO_102001 BK110 BK113 HI0 HK HB hx120_0 hx120_1 hHeld ⊢
 refine pu 0 (some 24) (ba 11 1) HT_.out ?_
 refine pu 2 (some 26) (ba 11 5) HT_.out ?_
 refine pu 3 (some 27) (ba 11 13) HT_.out ?_
 refine tu 1 (some 25) (ba 11 15) HT_.out HW_.out hHeld ?_
 refine tu 4 (some 28) (ba 11 31) HT_.out HW_.out hHeld ?_
 refine pu 5 (some 29) (ba 11 63) HT_.out ?_
 refine join_ (σ := Nat) 1 (ba 11 1023) (fun s_ => [(30, .int .i64 t103), (8, .pointer (some ⟨s_, 0, none⟩)), (31, .pointer (some (ad120.add ((t103).toNat * 2)))), (32, .agg #[.int .i64 ((rd_TTie t106 t103).f0), .int .i64 ((rd_TTie t106 t103).f1)])]) (fun s_ w' => (w'.cell? ⟨gb113, 0, none⟩ = some (.int .i64 t105) ∧ w'.cell? ⟨gb113, 1, none⟩ = some (.slice (some ad120) t106.length co10) ∧ w'.cell? (ad120.add ((t103).toNat * 2)) = some (.int .i64 ((rd_TTie t106 t103).f0)) ∧ w'.cell? ⟨(ad120.add ((t103).toNat * 2)).block, (ad120.add ((t103).toNat * 2)).off + 1, none⟩ = some (.int .i64 ((rd_TTie t106 t103).f1))) ∧ (Kd.R kTie 44 w' w.heap.size (fun k_ => k_ ≠ s_) (.slice (some ad120) t106.length co10) t106) ∧ (w'.heap[gb110]? = some (.cells #[.int .i64 0, .slice none 0 0] 30 (0, 0))) ∧ (w'.heap[gb113]? = some (.cells #[.int .i64 t105, .slice (some ad120) t106.length co10] 30 (0, 0))) ∧ (w'.heap[s_]? = some (.cells #[.int .i64 0, .int .i64 0] 44 (0, 0))) ∧ (w.heap.size ≤ s_) ∧ (w0.heap.size ≤ s_) ∧ (g ≠ s_) ∧ (s_ ≠ g) ∧ (gb110 ≠ s_) ∧ (s_ ≠ gb110) ∧ (gb113 ≠ s_) ∧ (s_ ≠ gb113) ∧ (IsSRd w0 w' g s0_0 t116) ∧ (KeepBut w w' g none) ∧ (Below w0.heap.size w0 w')) ?_ ?_
 rotate_left
 · intro hCont
   refine two_ (i := 6) (j := 9) (Ni := some 30) (Nj := some 8) (ba 11 127) (ba 11 575) rfl rfl rfl rfl (two_of HT_.out (by kernel_rfl)) (by decide) (by decide) (fun K hK => ?_) (fun K hK => ?_)
   · skip
     refine goes_ Try.func81 (by kernel_rfl) rfl #[.pointer (some ⟨g, 0, none⟩), .int .i64 (t106.length : Int)] (by rfl) rfl rfl qm ?_
     with_reducible refine (spec_l6Rd_pick.calls kj2 g s0_0 x101_2 (t106.length : Int) t103 t116 w0 _ ?side1 ?side2 A21.out).mono ?_
     (case side1 => repeat (first | (with_reducible first | exact HI0.out | apply IsSRd.alloc | apply IsSRd.drewN | apply IsSRd.drew | apply IsSRd.set_1 | refine IsSRd.far ?_ NB0_110.out _ | refine IsSRd.far ?_ NB0_113.out _) | exact HI0.out))
     (case side2 => repeat (first | (with_reducible first | exact HB.out | apply below_alloc | apply pw_below_drewN | apply below_drew1 | refine below_set ?_ (IsSRd.ge HI0.out) | refine below_set ?_ GE110.out | refine below_set ?_ GE113.out) | exact HB.out))
     rintro e w27 ⟨rfl, hi, hb, hk⟩
     have HS2_ := keep_cell hk (hHeld.2.2.1) (by first | (rw [add_block]; exact Kd.own_blk (IsSRd.own_ne HI0.out HO_102001.out (by decide))) | (show (Addr.add _ _).block ≠ _; rw [add_block]; exact Kd.own_blk (IsSRd.own_ne HI0.out HO_102001.out (by decide))) | exact Kd.own_blk (IsSRd.own_ne HI0.out HO_102001.out (by decide)))
     have HS3_ := keep_cell hk (hHeld.2.2.2) (by first | (rw [add_block]; exact Kd.own_blk (IsSRd.own_ne HI0.out HO_102001.out (by decide))) | (show (Addr.add _ _).block ≠ _; rw [add_block]; exact Kd.own_blk (IsSRd.own_ne HI0.out HO_102001.out (by decide))) | exact Kd.own_blk (IsSRd.own_ne HI0.out HO_102001.out (by decide)))
     refine ⟨_, rfl, ?_⟩
     have n0_ := q0 (Kd.R_mono (Kd.R_keep (IsSRd.apart (show IsSRd w0 _ g s0_0 x101_2 from qi HI0.out) (qr HO_102001.out) (by decide)) hk (fun _ h => h.2)) (fun _ h => h.1))
     have n1_ := q0 (KeepBut.blk hk (g' := gb110) (o := .cells #[.int .i64 0, .slice none 0 0] 30 (0, 0)) (qk BK110.out) NB110_0.out (by simp))
     have n2_ := q0 (KeepBut.blk hk (g' := gb113) (o := .cells #[.int .i64 t105, .slice (some ad120) t106.length co10] 30 (0, 0)) (qk BK113.out) NB113_0.out (by simp))
     have n3_ := q0 (KeepBut.trans (qh HK.out) hk (.inl rfl))
     have n4_ := q0 (hb)
     have n5_ := q0 (hi)
     clear HO_102001
     clear BK110
     clear BK113
     clear HK
     clear HB
     clear HI0
     have HO_102001 := n0_
     have BK110 := n1_
     have BK113 := n2_
     have HK := n3_
     have HB := n4_
     have HI0 := n5_
     clear n0_ n1_ n2_ n3_ n4_ n5_
     (try clear hb)
     (try clear hb2)
     (try clear hk)
     (try clear hi)
     refine hK.out _ _ ⟨(blk_cell BK113.out 0).trans rfl, (blk_cell BK113.out 1).trans rfl, HS2_, HS3_⟩ (fun hHeld => ?_)
     clear hK K
     refine nu 30 ?_
     refine pu 7 (some 31) (ba 11 255) HT_.out ?_
     refine tu 8 (some 32) (ba 11 511) HT_.out HW_.out hHeld ?_
     refine one_ (i := 9) (N := some 8) (ba 11 1023) rfl rfl (one_of HT_.out (by kernel_rfl)) (by decide) (fun K hK => ?_)
     refine box_step ?hg (N := 8) ?hd (cs := #[.int .i64 0, .int .i64 0]) (t := 44) ?hr ?_; (case hd => rfl); (case hg => rfl); (case hr => first | (go_simp; done) | (go_simp; rfl))
     intro gb121 hg w28 hbox hb
     have HS2_ := (hb.cell (World.block_lt_of_cell? _ _ (hHeld.2.2.1))).trans (hHeld.2.2.1)
     have HS3_ := (hb.cell (World.block_lt_of_cell? _ _ (hHeld.2.2.2))).trans (hHeld.2.2.2)
     have n0_ := q0 (Kd.R_below (Kd.R_elderB (qr HO_102001.out) gb121 (Nat.le_of_eq hg.symm)) hb)
     have n1_ := q0 (kb BK110.out hb)
     have n2_ := q0 (kb BK113.out hb)
     have n3_ := q0 (IsSRd.below (qi HI0.out) hb)
     have n4_ := q0 (KeepBut.trans (qh HK.out) (KeepBut.of_below hb g none) (.inl rfl))
     have n5_ := q0 (below_step (qj HB.out HI0.out) hb)
     have n6_ := q0 (hbox)
     have n7_ := q0 ((by rw [hg]; exact (keep_size (w := w) (g := g) (row := none) (qh HK.out)) : w.heap.size ≤ gb121))
     have n8_ := q0 ((Nat.le_trans HW0.out (by rw [hg]; exact (keep_size (w := w) (g := g) (row := none) (qh HK.out)) : w.heap.size ≤ gb121) : w0.heap.size ≤ gb121))
     have n9_ := q0 ((bl BK110.out hg : gb110 ≠ gb121))
     have n10_ := q0 ((bg BK110.out hg : gb121 ≠ gb110))
     have n11_ := q0 ((bl BK113.out hg : gb113 ≠ gb121))
     have n12_ := q0 ((bg BK113.out hg : gb121 ≠ gb113))
     have n13_ := q0 ((by rw [hg]; exact Nat.ne_of_lt (IsSRd.lt (show IsSRd w0 _ g s0_0 t116 from qi HI0.out)) : g ≠ gb121))
     have n14_ := q0 ((by rw [hg]; exact Nat.ne_of_gt (IsSRd.lt (show IsSRd w0 _ g s0_0 t116 from qi HI0.out)) : gb121 ≠ g))
     clear HO_102001
     clear BK110
     clear BK113
     clear HI0
     clear HK
     clear HB
     have HO_102001 := n0_
     have BK110 := n1_
     have BK113 := n2_
     have HI0 := n3_
     have HK := n4_
     have HB := n5_
     have BK121 := n6_
     have GW121 := n7_
     have GE121 := n8_
     have NB110_121 := n9_
     have NB121_110 := n10_
     have NB113_121 := n11_
     have NB121_113 := n12_
     have NB0_121 := n13_
     have NB121_0 := n14_
     clear n0_ n1_ n2_ n3_ n4_ n5_ n6_ n7_ n8_ n9_ n10_ n11_ n12_ n13_ n14_
     clear hb hbox hg
     refine hK.out _ _ ⟨(blk_cell BK113.out 0).trans rfl, (blk_cell BK113.out 1).trans rfl, HS2_, HS3_⟩ (fun hHeld => ?_)
     clear hK K
     refine nu 8 ?_
     exact norm_ (by simp only [putAll, Act.put, List.setIfInBounds_toArray, List.set_cons_zero, List.set_cons_succ]) (hCont (gb121) _ ⟨hHeld, (by (with_reducible repeat (first | apply Kd.R_alloc | apply Kd.R_drewN | apply Kd.R_drew)); exact Kd.R_mono HO_102001.out (fun _ hk => hk.2)), (qk BK110.out), (qk BK113.out), (qk BK121.out), GW121.out, GE121.out, NB0_121.out, NB121_0.out, NB110_121.out, NB121_110.out, NB113_121.out, NB121_113.out, (qi HI0.out), (qh HK.out), (qj HB.out HI0.out)⟩)
   · skip
     refine box_step ?hg (N := 8) ?hd (cs := #[.int .i64 0, .int .i64 0]) (t := 44) ?hr ?_; (case hd => rfl); (case hg => rfl); (case hr => first | (go_simp; done) | (go_simp; rfl))
     intro gb121 hg w27 hbox hb
     have HS2_ := (hb.cell (World.block_lt_of_cell? _ _ (hHeld.2.2.1))).trans (hHeld.2.2.1)
     have HS3_ := (hb.cell (World.block_lt_of_cell? _ _ (hHeld.2.2.2))).trans (hHeld.2.2.2)
     have n0_ := q0 (Kd.R_below (Kd.R_elderB (qr HO_102001.out) gb121 (Nat.le_of_eq hg.symm)) hb)
     have n1_ := q0 (kb BK110.out hb)
     have n2_ := q0 (kb BK113.out hb)
     have n3_ := q0 (IsSRd.below (qi HI0.out) hb)
     have n4_ := q0 (KeepBut.trans (qh HK.out) (KeepBut.of_below hb g none) (.inl rfl))
     have n5_ := q0 (below_step (qj HB.out HI0.out) hb)
     have n6_ := q0 (hbox)
     have n7_ := q0 ((by rw [hg]; exact (keep_size (w := w) (g := g) (row := none) (qh HK.out)) : w.heap.size ≤ gb121))
     have n8_ := q0 ((Nat.le_trans HW0.out (by rw [hg]; exact (keep_size (w := w) (g := g) (row := none) (qh HK.out)) : w.heap.size ≤ gb121) : w0.heap.size ≤ gb121))
     have n9_ := q0 ((bl BK110.out hg : gb110 ≠ gb121))
     have n10_ := q0 ((bg BK110.out hg : gb121 ≠ gb110))
     have n11_ := q0 ((bl BK113.out hg : gb113 ≠ gb121))
     have n12_ := q0 ((bg BK113.out hg : gb121 ≠ gb113))
     have n13_ := q0 ((by rw [hg]; exact Nat.ne_of_lt (IsSRd.lt (show IsSRd w0 _ g s0_0 x101_2 from qi HI0.out)) : g ≠ gb121))
     have n14_ := q0 ((by rw [hg]; exact Nat.ne_of_gt (IsSRd.lt (show IsSRd w0 _ g s0_0 x101_2 from qi HI0.out)) : gb121 ≠ g))
     clear HO_102001
     clear BK110
     clear BK113
     clear HI0
     clear HK
     clear HB
     have HO_102001 := n0_
     have BK110 := n1_
     have BK113 := n2_
     have HI0 := n3_
     have HK := n4_
     have HB := n5_
     have BK121 := n6_
     have GW121 := n7_
     have GE121 := n8_
     have NB110_121 := n9_
     have NB121_110 := n10_
     have NB113_121 := n11_
     have NB121_113 := n12_
     have NB0_121 := n13_
     have NB121_0 := n14_
     clear n0_ n1_ n2_ n3_ n4_ n5_ n6_ n7_ n8_ n9_ n10_ n11_ n12_ n13_ n14_
     clear hb hbox hg
     refine hK.out _ _ ⟨(blk_cell BK113.out 0).trans rfl, (blk_cell BK113.out 1).trans rfl, HS2_, HS3_⟩ (fun hHeld => ?_)
     clear hK K
     refine nu 8 ?_
     refine one_ (i := 6) (N := some 30) (ba 11 639) rfl rfl (one_of HT_.out (by kernel_rfl)) (by decide) (fun K hK => ?_)
     refine goes_ Try.func81 (by kernel_rfl) rfl #[.pointer (some ⟨g, 0, none⟩), .int .i64 (t106.length : Int)] (by rfl) rfl rfl qm ?_
     with_reducible refine (spec_l6Rd_pick.calls kj2 g s0_0 x101_2 (t106.length : Int) t103 t116 w0 _ ?side1 ?side2 A21.out).mono ?_
     (case side1 => repeat (first | (with_reducible first | exact HI0.out | apply IsSRd.alloc | apply IsSRd.drewN | apply IsSRd.drew | apply IsSRd.set_1 | refine IsSRd.far ?_ NB0_110.out _ | refine IsSRd.far ?_ NB0_113.out _ | refine IsSRd.far ?_ NB0_121.out _) | exact HI0.out))
     (case side2 => repeat (first | (with_reducible first | exact HB.out | apply below_alloc | apply pw_below_drewN | apply below_drew1 | refine below_set ?_ (IsSRd.ge HI0.out) | refine below_set ?_ GE110.out | refine below_set ?_ GE113.out | refine below_set ?_ GE121.out) | exact HB.out))
     rintro e w28 ⟨rfl, hi, hb, hk⟩
     have HS2_ := keep_cell hk (hHeld.2.2.1) (by first | (rw [add_block]; exact Kd.own_blk (IsSRd.own_ne HI0.out HO_102001.out (by decide))) | (show (Addr.add _ _).block ≠ _; rw [add_block]; exact Kd.own_blk (IsSRd.own_ne HI0.out HO_102001.out (by decide))) | exact Kd.own_blk (IsSRd.own_ne HI0.out HO_102001.out (by decide)))
     have HS3_ := keep_cell hk (hHeld.2.2.2) (by first | (rw [add_block]; exact Kd.own_blk (IsSRd.own_ne HI0.out HO_102001.out (by decide))) | (show (Addr.add _ _).block ≠ _; rw [add_block]; exact Kd.own_blk (IsSRd.own_ne HI0.out HO_102001.out (by decide))) | exact Kd.own_blk (IsSRd.own_ne HI0.out HO_102001.out (by decide)))
     refine ⟨_, rfl, ?_⟩
     have n0_ := q0 (Kd.R_mono (Kd.R_keep (IsSRd.apart (show IsSRd w0 _ g s0_0 x101_2 from qi HI0.out) (qr HO_102001.out) (by decide)) hk (fun _ h => h.2)) (fun _ h => h.1))
     have n1_ := q0 (KeepBut.blk hk (g' := gb110) (o := .cells #[.int .i64 0, .slice none 0 0] 30 (0, 0)) (qk BK110.out) NB110_0.out (by simp))
     have n2_ := q0 (KeepBut.blk hk (g' := gb113) (o := .cells #[.int .i64 t105, .slice (some ad120) t106.length co10] 30 (0, 0)) (qk BK113.out) NB113_0.out (by simp))
     have n3_ := q0 (KeepBut.blk hk (g' := gb121) (o := .cells #[.int .i64 0, .int .i64 0] 44 (0, 0)) (qk BK121.out) NB121_0.out (by simp))
     have n4_ := q0 (KeepBut.trans (qh HK.out) hk (.inl rfl))
     have n5_ := q0 (hb)
     have n6_ := q0 (hi)
     clear HO_102001
     clear BK110
     clear BK113
     clear BK121
     clear HK
     clear HB
     clear HI0
     have HO_102001 := n0_
     have BK110 := n1_
     have BK113 := n2_
     have BK121 := n3_
     have HK := n4_
     have HB := n5_
     have HI0 := n6_
     clear n0_ n1_ n2_ n3_ n4_ n5_ n6_
     (try clear hb)
     (try clear hb2)
     (try clear hk)
     (try clear hi)
     refine hK.out _ _ ⟨(blk_cell BK113.out 0).trans rfl, (blk_cell BK113.out 1).trans rfl, HS2_, HS3_⟩ (fun hHeld => ?_)
     clear hK K
     refine nu 30 ?_
     refine pu 7 (some 31) (ba 11 767) HT_.out ?_
     refine tu 8 (some 32) (ba 11 1023) HT_.out HW_.out hHeld ?_
     exact norm_ (by simp only [putAll, Act.put, List.setIfInBounds_toArray, List.set_cons_zero, List.set_cons_succ]) (hCont (gb121) _ ⟨hHeld, (by (with_reducible repeat (first | apply Kd.R_alloc | apply Kd.R_drewN | apply Kd.R_drew)); exact Kd.R_mono HO_102001.out (fun _ hk => hk.2)), (qk BK110.out), (qk BK113.out), (qk BK121.out), GW121.out, GE121.out, NB0_121.out, NB121_0.out, NB110_121.out, NB121_110.out, NB113_121.out, NB121_113.out, (qi HI0.out), (qh HK.out), (qj HB.out HI0.out)⟩)
 rintro gb121 w29 ⟨hS_, h0_, h1_, h2_, h3_, h4_, h5_, h6_, h7_, h8_, h9_, h10_, h11_, h12_, h13_, h14_⟩
 have n0_ : Aside0 (Kd.R kTie 44 w29 w.heap.size (fun k_ => k_ ≠ gb121) (.slice (some ad120) t106.length co10) t106) := ⟨h0_⟩
 have n1_ : Aside0 (w29.heap[gb110]? = some (.cells #[.int .i64 0, .slice none 0 0] 30 (0, 0))) := ⟨h1_⟩
 have n2_ : Aside0 (w29.heap[gb113]? = some (.cells #[.int .i64 t105, .slice (some ad120) t106.length co10] 30 (0, 0))) := ⟨h2_⟩
 have n3_ : Aside0 (w29.heap[gb121]? = some (.cells #[.int .i64 0, .int .i64 0] 44 (0, 0))) := ⟨h3_⟩
 have n4_ : Aside0 (w.heap.size ≤ gb121) := ⟨h4_⟩
 have n5_ : Aside0 (w0.heap.size ≤ gb121) := ⟨h5_⟩
 have n6_ : Aside0 (g ≠ gb121) := ⟨h6_⟩
 have n7_ : Aside0 (gb121 ≠ g) := ⟨h7_⟩
 have n8_ : Aside0 (gb110 ≠ gb121) := ⟨h8_⟩
 have n9_ : Aside0 (gb121 ≠ gb110) := ⟨h9_⟩
 have n10_ : Aside0 (gb113 ≠ gb121) := ⟨h10_⟩
 have n11_ : Aside0 (gb121 ≠ gb113) := ⟨h11_⟩
 have n12_ : Aside0 (IsSRd w0 w29 g s0_0 t116) := ⟨h12_⟩
 have n13_ : Aside0 (KeepBut w w29 g none) := ⟨h13_⟩
 have n14_ : Aside0 (Below w0.heap.size w0 w29) := ⟨h14_⟩
 clear HO_102001
 clear BK110
 clear BK113
 clear HI0
 clear HK
 clear HB
 clear h0_ h1_ h2_ h3_ h4_ h5_ h6_ h7_ h8_ h9_ h10_ h11_ h12_ h13_ h14_
 have HO_102001 := n0_
 have BK110 := n1_
 have BK113 := n2_
 have BK121 := n3_
 have GW121 := n4_
 have GE121 := n5_
 have NB0_121 := n6_
 have NB121_0 := n7_
 have NB110_121 := n8_
 have NB121_110 := n9_
 have NB113_121 := n10_
 have NB121_113 := n11_
 have HI0 := n12_
 have HK := n13_
 have HB := n14_
 clear n0_ n1_ n2_ n3_ n4_ n5_ n6_ n7_ n8_ n9_ n10_ n11_ n12_ n13_ n14_
 have hHeld : w29.cell? ⟨gb113, 0, none⟩ = some (.int .i64 t105) ∧ w29.cell? ⟨gb113, 1, none⟩ = some (.slice (some ad120) t106.length co10) ∧ w29.cell? (ad120.add ((t103).toNat * 2)) = some (.int .i64 ((rd_TTie t106 t103).f0)) ∧ w29.cell? ⟨(ad120.add ((t103).toNat * 2)).block, (ad120.add ((t103).toNat * 2)).off + 1, none⟩ = some (.int .i64 ((rd_TTie t106 t103).f1)) := hS_
 refine norm_ (a' := ?_) ?_ ?_
 rotate_left
 · simp only [putAll, Act.put, List.setIfInBounds_toArray, List.set_cons_zero, List.set_cons_succ]
   rfl
 refine one_ (i := 10) (N := none) (ba 11 2047) rfl rfl (one_of HT_.out (by kernel_rfl)) (by decide) (fun K hK => ?_)
 have hs30 : w29.cell? ⟨gb121, 0, none⟩ = some (.int .i64 0) := (blk_cell BK121.out 0).trans rfl
 have hfs30 := blk_frozen BK121.out 0
 have hns30_0 := NB110_121.out
 have hns30_1 := NB113_121.out
 have hms30_0 := NB121_110.out
 have hms30_1 := NB121_113.out
 have hs31 : w29.cell? ⟨gb121, 1, none⟩ = some (.int .i64 0) := (blk_cell BK121.out 1).trans rfl
 have hfs31 := blk_frozen BK121.out 1
 have hns31_0 := NB110_121.out
 have hns31_1 := NB113_121.out
 have hms31_0 := NB121_110.out
 have hms31_1 := NB121_113.out
 refine skip_ (w1 := ?_) (by rfl) rfl ?_ ?_
 rotate_left
 · go_simp
   rfl
 refine hK.out _ _ ⟨((cell_far (p := ⟨gb121, _, none⟩) NB113_121.out _).trans (((cell_far (p := ⟨gb121, _, none⟩) NB113_121.out _).trans (hHeld.1)))), ((cell_far (p := ⟨gb121, _, none⟩) NB113_121.out _).trans (((cell_far (p := ⟨gb121, _, none⟩) NB113_121.out _).trans (hHeld.2.1)))), ((cell_far (p := ⟨gb121, _, none⟩) (by first | exact Kd.own_blk (Kd.R_away HO_102001.out (fun _ hk => hk)) | (rw [add_block]; exact Kd.own_blk (Kd.R_away HO_102001.out (fun _ hk => hk))) | (show (Addr.add _ _).block ≠ _; rw [add_block]; exact Kd.own_blk (Kd.R_away HO_102001.out (fun _ hk => hk))) | (dsimp only; exact Kd.own_blk (Kd.R_away HO_102001.out (fun _ hk => hk)))) _).trans (((cell_far (p := ⟨gb121, _, none⟩) (by first | exact Kd.own_blk (Kd.R_away HO_102001.out (fun _ hk => hk)) | (rw [add_block]; exact Kd.own_blk (Kd.R_away HO_102001.out (fun _ hk => hk))) | (show (Addr.add _ _).block ≠ _; rw [add_block]; exact Kd.own_blk (Kd.R_away HO_102001.out (fun _ hk => hk))) | (dsimp only; exact Kd.own_blk (Kd.R_away HO_102001.out (fun _ hk => hk)))) _).trans (hHeld.2.2.1)))), ((cell_far (p := ⟨gb121, _, none⟩) (by first | exact Kd.own_blk (Kd.R_away HO_102001.out (fun _ hk => hk)) | (rw [add_block]; exact Kd.own_blk (Kd.R_away HO_102001.out (fun _ hk => hk))) | (show (Addr.add _ _).block ≠ _; rw [add_block]; exact Kd.own_blk (Kd.R_away HO_102001.out (fun _ hk => hk))) | (dsimp only; exact Kd.own_blk (Kd.R_away HO_102001.out (fun _ hk => hk)))) _).trans (((cell_far (p := ⟨gb121, _, none⟩) (by first | exact Kd.own_blk (Kd.R_away HO_102001.out (fun _ hk => hk)) | (rw [add_block]; exact Kd.own_blk (Kd.R_away HO_102001.out (fun _ hk => hk))) | (show (Addr.add _ _).block ≠ _; rw [add_block]; exact Kd.own_blk (Kd.R_away HO_102001.out (fun _ hk => hk))) | (dsimp only; exact Kd.own_blk (Kd.R_away HO_102001.out (fun _ hk => hk)))) _).trans (hHeld.2.2.2))))⟩ (fun hHeld => ?_)
 clear hK K
 refine done_ (done_of HT_.out (by kernel_rfl)) ?_
 try go_wp2_with (first | ((with_reducible refine gate_callee (f := 81) rfl ?_); refine goesL_ (some 34) rfl rfl Try.func81 (by kernel_rfl) rfl #[.pointer (some ⟨g, 0, none⟩), .int .i64 2] rfl qm ?_; (with_reducible refine (spec_l6Rd_pick.calls kj2 g s0_0 t116 2 t104 t118 w0 _ ?side1 ?side2 A24.out).mono ?_); (case side1 => repeat (first | (with_reducible first | exact HI0.out | apply IsSRd.alloc | apply IsSRd.drewN | apply IsSRd.drew | apply IsSRd.set_1 | refine IsSRd.far ?_ NB0_110.out _ | refine IsSRd.far ?_ NB0_113.out _ | refine IsSRd.far ?_ NB0_121.out _) | exact HI0.out)); (case side2 => repeat (first | (with_reducible first | exact HB.out | apply below_alloc | apply pw_below_drewN | apply below_drew1 | refine below_set ?_ (IsSRd.ge HI0.out) | refine below_set ?_ GE110.out | refine below_set ?_ GE113.out | refine below_set ?_ GE121.out) | exact HB.out)); rintro e w32 ⟨rfl, hi, hb, hk⟩; refine ⟨_, rfl, ?_⟩; have n0_ := q0 (Kd.R_mono (Kd.R_keep (IsSRd.apart (show IsSRd w0 _ g s0_0 t116 from qi HI0.out) (by (with_reducible repeat (first | apply Kd.R_alloc | apply Kd.R_drewN | apply Kd.R_drew)); exact (Kd.R_mono (Kd.R_far (p := ⟨gb121, 1, none⟩) (Kd.R_far (p := ⟨gb121, 0, none⟩) (Kd.R_mono HO_102001.out (fun k_ hk => (⟨hk, hk⟩ : _ ∧ k_ ≠ gb121))) (fun _ hk => hk.2) (.int .i64 ((rd_TTie t106 t103).f0))) (fun _ hk => hk.2) (.int .i64 ((rd_TTie t106 t103).f1))) (fun _ h_ => h_.1))) (by decide)) hk (fun _ h => h.2)) (fun _ h => h.1)); have n1_ := q0 (KeepBut.blk hk (g' := gb110) (o := .cells #[.int .i64 0, .slice none 0 0] 30 (0, 0)) (qf BK110.out) NB110_0.out (by simp)); have n2_ := q0 (KeepBut.blk hk (g' := gb113) (o := .cells #[.int .i64 t105, .slice (some ad120) t106.length co10] 30 (0, 0)) (qf BK113.out) NB113_0.out (by simp)); have n3_ := q0 (KeepBut.blk hk (g' := gb121) (o := .cells #[.int .i64 ((rd_TTie t106 t103).f0), .int .i64 ((rd_TTie t106 t103).f1)] 44 (0, 0)) (by (with_reducible repeat (first | refine blk_drewN ?_ _ | refine blk_drew ?_ | refine blk_alloc ?_ _)); refine blk_put (cs := #[.int .i64 ((rd_TTie t106 t103).f0), .int .i64 0]) ?_ 1 _ rfl; (with_reducible repeat (first | refine blk_drewN ?_ _ | refine blk_drew ?_ | refine blk_alloc ?_ _)); refine blk_put (cs := #[.int .i64 0, .int .i64 0]) ?_ 0 _ rfl; (with_reducible repeat (first | refine blk_drewN ?_ _ | refine blk_drew ?_ | refine blk_alloc ?_ _)); exact BK121.out) NB121_0.out (by simp)); have n4_ := q0 (KeepBut.trans (qh HK.out) hk (.inl rfl)); have n5_ := q0 (hb); have n6_ := q0 (hi); clear HO_102001 BK110 BK113 BK121 HK HB HI0; have HO_102001 := n0_; have BK110 := n1_; have BK113 := n2_; have BK121 := n3_; have HK := n4_; have HB := n5_; have HI0 := n6_; clear n0_ n1_ n2_ n3_ n4_ n5_ n6_; (try clear hb); (try clear hb2); (try clear hk); (try clear hi)))
 have n0_ := q0 (Kd.R_drew HO_102001.out)
 have n1_ := q0 (blk_drew BK110.out)
 have n2_ := q0 (blk_drew BK113.out)
 have n3_ := q0 (blk_drew BK121.out)
 have n4_ := q0 (IsSRd.drew HI0.out)
 have n5_ := q0 (keep_drew HK.out)
 have n6_ := q0 (below_drew1 HB.out)
 clear HO_102001
 clear BK110
 clear BK113
 clear BK121
 clear HI0
 clear HK
 clear HB
 have HO_102001 := n0_
 have BK110 := n1_
 have BK113 := n2_
 have BK121 := n3_
 have HI0 := n4_
 have HK := n5_
 have HB := n6_
 clear n0_ n1_ n2_ n3_ n4_ n5_ n6_
 refine start_ (n := 8) (S := fun w' => w'.cell? ⟨gb113, 0, none⟩ = some (.int .i64 t105) ∧ w'.cell? ⟨gb113, 1, none⟩ = some (.slice (some ad120) t106.length co10) ∧ w'.cell? ⟨gb121, 0, none⟩ = some (.int .i64 ((rd_TTie t106 t103).f0)) ∧ w'.cell? ⟨gb121, 1, none⟩ = some (.int .i64 ((rd_TTie t106 t103).f1))) (ds := []) (ba 8 0) (by kernel_rfl) rfl (by kernel_rfl) ⟨(blk_cell BK113.out 0).trans rfl, (blk_cell BK113.out 1).trans rfl, (blk_cell BK121.out 0).trans rfl, (blk_cell BK121.out 1).trans rfl⟩ (fun hHeld => ?_); refine with_tabW spec_l71Tied.tab5 spec_l71Tied.bits5 (fun HT_ HW_ => ?_)
 generalize w32.drew = w33 at HO_102001 BK110 BK113 BK121 HI0 HK HB hHeld ⊢
 refine pu 1 (some 37) (ba 8 2) HT_.out ?_
 refine pu 3 (some 39) (ba 8 10) HT_.out ?_
 refine tu 0 (some 36) (ba 8 11) HT_.out HW_.out hHeld ?_
 refine tu 2 (some 38) (ba 8 15) HT_.out HW_.out hHeld ?_
 refine tu 4 (some 40) (ba 8 31) HT_.out HW_.out hHeld ?_
 refine one_ (i := 5) (N := none) (ba 8 63) rfl rfl (one_of HT_.out (by kernel_rfl)) (by decide) (fun K hK => ?_)
 have hs34 : w33.cell? ⟨gb110, 0, none⟩ = some (.int .i64 0) := (blk_cell BK110.out 0).trans rfl
 have hfs34 := blk_frozen BK110.out 0
 have hns34_1 := NB113_110.out
 have hns34_2 := NB121_110.out
 have hms34_1 := NB110_113.out
 have hms34_2 := NB110_121.out
 have hs35 : w33.cell? ⟨gb110, 1, none⟩ = some (.slice none 0 0) := (blk_cell BK110.out 1).trans rfl
 have hfs35 := blk_frozen BK110.out 1
 have hns35_1 := NB113_110.out
 have hns35_2 := NB121_110.out
 have hms35_1 := NB110_113.out
 have hms35_2 := NB110_121.out
 refine skip_ (w1 := ?_) (by rfl) rfl ?_ ?_
 rotate_left
 · go_simp
   rfl
 refine hK.out _ _ ⟨((cell_far (p := ⟨gb110, _, none⟩) NB113_110.out _).trans (((cell_far (p := ⟨gb110, _, none⟩) NB113_110.out _).trans (hHeld.1)))), ((cell_far (p := ⟨gb110, _, none⟩) NB113_110.out _).trans (((cell_far (p := ⟨gb110, _, none⟩) NB113_110.out _).trans (hHeld.2.1)))), ((cell_far (p := ⟨gb110, _, none⟩) NB121_110.out _).trans (((cell_far (p := ⟨gb110, _, none⟩) NB121_110.out _).trans (hHeld.2.2.1)))), ((cell_far (p := ⟨gb110, _, none⟩) NB121_110.out _).trans (((cell_far (p := ⟨gb110, _, none⟩) NB121_110.out _).trans (hHeld.2.2.2))))⟩ (fun hHeld => ?_)
 clear hK K
 refine pu 6 (some 3) (ba 8 127) HT_.out ?_
 refine pu 7 (some 4) (ba 8 255) HT_.out ?_
 refine done_ (done_of HT_.out (by kernel_rfl)) ?_
 try go_wp2
 refine bodyPost_ret (results_ctt rfl _ _ gb110 30 #[.int .i64 t105, .slice (some ad120) t106.length co10] (0, 0) _ rfl (by (with_reducible repeat (first | refine blk_drewN ?_ _ | refine blk_drew ?_ | refine blk_alloc ?_ _)); refine blk_put (cs := #[.int .i64 t105, .slice none 0 0]) ?_ 1 _ rfl; (with_reducible repeat (first | refine blk_drewN ?_ _ | refine blk_drew ?_ | refine blk_alloc ?_ _)); refine blk_put (cs := #[.int .i64 0, .slice none 0 0]) ?_ 0 _ rfl; (with_reducible repeat (first | refine blk_drewN ?_ _ | refine blk_drew ?_ | refine blk_alloc ?_ _)); exact BK110.out) Try.underlying30 rfl (by kernel_rfl)) rfl ?_
 exact ⟨_, qe, by (with_reducible repeat (first | apply Kd.R_alloc | apply Kd.R_drewN | apply Kd.R_drew)); exact Kd.R_mono (Kd.R_far (p := ⟨gb110, 1, none⟩) (Kd.R_far (p := ⟨gb110, 0, none⟩) (Kd.R_types HO_102001.out BK110.out (by decide)) (fun _ hk => hk.2) (.int .i64 t105)) (fun _ hk => hk.2) (.slice (some ad120) t106.length co10)) (fun _ hk => trivial), by repeat (first | (with_reducible first | exact HI0.out | apply IsSRd.alloc | apply IsSRd.drewN | apply IsSRd.drew | apply IsSRd.set_1 | refine IsSRd.far ?_ NB0_110.out _ | refine IsSRd.far ?_ NB0_113.out _ | refine IsSRd.far ?_ NB0_121.out _) | exact HI0.out), by repeat (first | (with_reducible first | exact HB.out | apply below_alloc | apply pw_below_drewN | apply below_drew1 | refine below_set ?_ (IsSRd.ge HI0.out) | refine below_set ?_ GE110.out | refine below_set ?_ GE113.out | refine below_set ?_ GE121.out) | exact HB.out), by repeat (first | (with_reducible first | exact HK.out | apply KeepBut.set_ | apply keep_drewN | apply keep_drew | apply keep_alloc | refine keep_far ?_ GW110.out _ | refine keep_far ?_ GW113.out _ | refine keep_far ?_ GW121.out _) | exact HK.out)⟩

set_option maxHeartbeats 8000000 in
set_option maxRecDepth 100000 in
theorem spec_DrawNetCut.calls (k : Nat) (A0 : Option Addr) (c0 : Nat) (l0 : List Int) (r1 : Int) (r2 : List (STie)) (r3 : Int) (r4 : Int) (w : World) (hr0 : Kd.C (Kd.int .u8) w A0 l0.length l0) (hc0 : l0.length ≤ c0) (h : spec_DrawNetCut.f k l0 = some (r1, r2, r3, r4)) :
    Calls Try.prog 33 #[.slice A0 l0.length c0] w fun e w' => ∃ v1_ : Value, e = .returned (.tuple #[.agg #[.int .i64 r1, v1_], .int .i64 r3, .int .i64 r4]) ∧ Kd.R kTie 44 w' w.heap.size (fun _ => True) v1_ r2 ∧ Below w.heap.size w w' := by
 have hu30 := Try.underlying30
 have HR0 := Aside0.mk hr0
 have HC0 := Aside0.mk hc0
 clear hr0 hc0
 have HB := q0 (Below.refl w.heap.size w)
 have H : ((spec_l6Open.f l0).bind fun bt100 => ((spec_l71Tied.f k bt100.1 bt100.2).bind fun bt101 => (some (bt101.1, bt101.2.1, bt101.2.2.1, bt101.2.2.2.1)))) = some (r1, r2, r3, r4) := h
 clear h
 replace H := Option.bind_eq_some_iff.mp H
 obtain ⟨⟨t100, t102⟩, A20, H⟩ := H
 replace H : ((spec_l71Tied.f k t100 t102).bind fun bt101 => (some (bt101.1, bt101.2.1, bt101.2.2.1, bt101.2.2.2.1))) = some (r1, r2, r3, r4) := H
 have A2 := Aside0.mk A20
 clear A20
 replace H := Option.bind_eq_some_iff.mp H
 obtain ⟨⟨t101, t103, t104, t105, t106⟩, A30, H⟩ := H
 replace H : (some (t101, t103, t104, t105)) = some (r1, r2, r3, r4) := H
 have A3 := Aside0.mk A30
 clear A30
 simp only [Option.some.injEq, Prod.mk.injEq] at H
 obtain ⟨rfl, rfl, rfl, rfl⟩ := H
 go_enter Try.func33, Try.ntmps33
 go_wp2_with (first | ((with_reducible refine gate_dst (N := 2) rfl ?_); refine be 2 #[.int .i64 0, .slice none 0 0] 30 ?_; intro gb107 hg w4 hbox hb; have n0_ := q0 (below_step (qb HB.out) hb); have n1_ := q0 (hbox); have n2_ := q0 ((bs HB.out hg : w.heap.size ≤ gb107)); have n3_ := q0 ((bs HB.out hg : w.heap.size ≤ gb107)); clear HB; have HB := n0_; have BK107 := n1_; have GW107 := n2_; have GE107 := n3_; clear n0_ n1_ n2_ n3_ hb hbox hg) | ((with_reducible refine gate_callee (f := 62) rfl ?_); refine goesL_ (some 6) rfl rfl Try.func62 (by kernel_rfl) rfl #[.slice A0 l0.length c0] rfl qm ?_; (with_reducible refine (spec_l6Open.calls _ _ l0 t100 t102 w _ ?side1 ?side2 ?side3 A2.out).mono ?_); (case side1 => exact qb HB.out); (case side2 => exact HR0.out); (case side3 => exact HC0.out); rintro e w5 ⟨g108, rfl, hi, hb, hb2⟩; refine ⟨_, rfl, ?_⟩; have n0_ := q0 (kb BK107.out hb2); have n1_ := q0 (hb); have n2_ := q0 (hi); have n3_ := q0 (IsSRd.ne_blk hi (kb BK107.out hb2) (by decide)); have n4_ := q0 (Ne.symm (IsSRd.ne_blk hi (kb BK107.out hb2) (by decide))); clear BK107 HB; have BK107 := n0_; have HB := n1_; have HI108 := n2_; have NB108_107 := n3_; have NB107_108 := n4_; clear n0_ n1_ n2_ n3_ n4_; (try clear hb); (try clear hb2); (try clear hk); (try clear hi)) | ((with_reducible refine gate_callee (f := 63) rfl ?_); refine goesL_ (some 7) rfl rfl Try.func63 (by kernel_rfl) rfl #[.pointer (some ⟨g108, 0, none⟩)] rfl qm ?_; (with_reducible refine (spec_l71Tied.calls k g108 t100 t102 t101 t103 t104 t105 t106 w _ ?side1 ?side2 A3.out).mono ?_); (case side1 => repeat (first | (with_reducible first | exact HI108.out | apply IsSRd.alloc | apply IsSRd.drewN | apply IsSRd.drew | apply IsSRd.set_1 | refine IsSRd.far ?_ NB108_107.out _) | exact HI108.out)); (case side2 => repeat (first | (with_reducible first | exact HB.out | apply below_alloc | apply pw_below_drewN | apply below_drew1 | refine below_set ?_ (IsSRd.ge HI108.out) | refine below_set ?_ GE107.out) | exact HB.out)); rintro e w6 ⟨v109, rfl, ho0, hi, hb, hk⟩; refine ⟨_, rfl, ?_⟩; have n0_ := q0 (KeepBut.blk hk (g' := gb107) (o := .cells #[.int .i64 0, .slice none 0 0] 30 (0, 0)) (qk BK107.out) NB107_108.out (by simp)); have n1_ := q0 (Kd.R_lower ho0 (below_size (qj HB.out HI108.out))); have n2_ := q0 (hb); have n3_ := q0 (hi); clear BK107 HB HI108; have BK107 := n0_; have HO110 := n1_; have HB := n2_; have HI108 := n3_; clear n0_ n1_ n2_ n3_; (try clear hb); (try clear hb2); (try clear hk); (try clear hi); (try clear ho0); have hnb7 := NB107_108.out; have hnc7 := NB108_107.out; have hcz8_0 : w6.cell? ⟨gb107, 0, none⟩ = some (.int .i64 0) := (blk_cell BK107.out 0).trans rfl; have hcz8_1 : w6.cell? ⟨gb107, 1, none⟩ = some (.slice none 0 0) := (blk_cell BK107.out 1).trans rfl; have hfz8_0 := blk_frozen BK107.out 0; have hfz8_1 := blk_frozen BK107.out 1; obtain ⟨Ao9, co9, eo9⟩ := Kd.R_slice HO110.out; subst eo9))
 refine bodyPost_ret (results_ctt rfl _ _ gb107 30 #[.int .i64 t101, .slice Ao9 t103.length co9] (0, 0) _ rfl (by (with_reducible repeat (first | refine blk_drewN ?_ _ | refine blk_drew ?_ | refine blk_alloc ?_ _)); refine blk_put (cs := #[.int .i64 t101, .slice none 0 0]) ?_ 1 _ rfl; (with_reducible repeat (first | refine blk_drewN ?_ _ | refine blk_drew ?_ | refine blk_alloc ?_ _)); refine blk_put (cs := #[.int .i64 0, .slice none 0 0]) ?_ 0 _ rfl; (with_reducible repeat (first | refine blk_drewN ?_ _ | refine blk_drew ?_ | refine blk_alloc ?_ _)); exact BK107.out) Try.underlying30 rfl (by kernel_rfl)) rfl ?_
 exact ⟨_, qe, by (with_reducible repeat (first | apply Kd.R_alloc | apply Kd.R_drewN | apply Kd.R_drew)); exact Kd.R_mono (Kd.R_far (p := ⟨gb107, 1, none⟩) (Kd.R_far (p := ⟨gb107, 0, none⟩) (Kd.R_types HO110.out BK107.out (by decide)) (fun _ hk => hk.2) (.int .i64 t101)) (fun _ hk => hk.2) (.slice Ao9 t103.length co9)) (fun _ hk => trivial), qj HB.out HI108.out⟩

def impl_NetCut.T3 : Bool × List (List Nat × List Nat) := (true, [([], []), ([], []), ([], []), ([1, 2], [1, 2]), ([3], [3]), ([0, 4, 3], [0, 4]), ([5, 5, 0, 1, 2, 3, 4, 5], [5]), ([6, 0, 1, 2, 3, 4, 5, 6], [])])
def impl_NetCut.B3 : List Nat := [0, 0, 0, 6, 14, 31, 63, 127]
theorem impl_NetCut.tab3 : rtab .any (opsOf Try.f35 3) = impl_NetCut.T3 := by kernel_rfl
theorem impl_NetCut.bits3 : waitsOk impl_NetCut.T3.2 impl_NetCut.B3 = true := by kernel_rfl
set_option maxHeartbeats 8000000 in
set_option maxRecDepth 100000 in
theorem impl_NetCut.calls (k : Nat) (a0_0 : Int) (A0_1 : Option Addr) (c0_1 : Nat) (l0_1 : List (STie)) (a1 : Int) (a2 : Int) (r1 : Int) (r2 : List (STie)) (r3 : Bool) (w : World) (hr0_1 : Kd.C kTie w A0_1 l0_1.length l0_1) (hc0_1 : l0_1.length ≤ c0_1) (h : impl_NetCut.f k a0_0 l0_1 a1 a2 = some (r1, r2, r3)) :
    Calls Try.prog 35 #[.agg #[.int .i64 a0_0, .slice A0_1 l0_1.length c0_1], .int .i64 a1, .int .i64 a2] w fun e w' => ∃ v1_ : Value, e = .returned (.tuple #[.agg #[.int .i64 r1, v1_], .bool r3]) ∧ Kd.R kTie 44 w' w.heap.size (fun _ => True) v1_ r2 ∧ Below w.heap.size w w' := by
 have hu30 := Try.underlying30
 have HR0_1 := Aside0.mk hr0_1
 have HC0_1 := Aside0.mk hc0_1
 clear hr0_1 hc0_1
 have HB := q0 (Below.refl w.heap.size w)
 have H : ((impl_NetHas.f k a0_0 l0_1 a1 a2).bind fun t100 => (if t100 = true then ((impl_tie.f a1 a2).bind fun bt101 => ((impl_Net_less.f k a0_0 l0_1 (([(⟨bt101.1, bt101.2⟩ : STie)] : List (STie)))).bind fun bt102 => (some (bt102.1, bt102.2, true)))) else (some (0, ([] : List (STie)), false)))) = some (r1, r2, r3) := h
 clear h
 replace H := Option.bind_eq_some_iff.mp H
 obtain ⟨t100, A40, H⟩ := H
 replace H : (if t100 = true then ((impl_tie.f a1 a2).bind fun bt101 => ((impl_Net_less.f k a0_0 l0_1 (([(⟨bt101.1, bt101.2⟩ : STie)] : List (STie)))).bind fun bt102 => (some (bt102.1, bt102.2, true)))) else (some (0, ([] : List (STie)), false))) = some (r1, r2, r3) := H
 have A4 := Aside0.mk A40
 clear A40
 by_cases c5 : t100 = true
 rotate_left
 · replace c5 := Bool.eq_false_iff.mpr c5
   subst c5
   have H1 : (some (0, ([] : List (STie)), false)) = some (r1, r2, r3) := by rw [if_neg (show ¬ (false = true) by decide)] at H; exact H
   clear H
   have H := H1
   clear H1
   simp only [Option.some.injEq, Prod.mk.injEq] at H
   obtain ⟨rfl, rfl, rfl⟩ := H
   go_enter Try.func35, Try.ntmps35
   go_wp2_with (first | ((with_reducible refine gate_dst (N := 3) rfl ?_); refine be 3 #[.int .i64 a0_0, .slice A0_1 l0_1.length c0_1] 30 ?_; intro gb106 hg w22 hbox hb; have n0_ := q0 (below_step (qb HB.out) hb); have n1_ := q0 (hbox); have n2_ := q0 ((bs HB.out hg : w.heap.size ≤ gb106)); have n3_ := q0 ((bs HB.out hg : w.heap.size ≤ gb106)); clear HB; have HB := n0_; have BK106 := n1_; have GW106 := n2_; have GE106 := n3_; clear n0_ n1_ n2_ n3_ hb hbox hg) | ((with_reducible refine gate_dst (N := 6) rfl ?_); refine be 6 #[.int .i64 0, .slice none 0 0] 30 ?_; intro gb107 hg w23 hbox hb; have n0_ := q0 (kb BK106.out hb); have n1_ := q0 (below_step (qb HB.out) hb); have n2_ := q0 (hbox); have n3_ := q0 ((bs HB.out hg : w.heap.size ≤ gb107)); have n4_ := q0 ((bs HB.out hg : w.heap.size ≤ gb107)); have n5_ := q0 ((bl BK106.out hg : gb106 ≠ gb107)); have n6_ := q0 ((bg BK106.out hg : gb107 ≠ gb106)); clear BK106 HB; have BK106 := n0_; have HB := n1_; have BK107 := n2_; have GW107 := n3_; have GE107 := n4_; have NB106_107 := n5_; have NB107_106 := n6_; clear n0_ n1_ n2_ n3_ n4_ n5_ n6_ hb hbox hg; have hnb24 := NB106_107.out; have hnc24 := NB107_106.out; have hcz25_0 : w23.cell? ⟨gb106, 0, none⟩ = some (.int .i64 a0_0) := (blk_cell BK106.out 0).trans rfl; have hcz25_1 : w23.cell? ⟨gb106, 1, none⟩ = some (.slice A0_1 l0_1.length c0_1) := (blk_cell BK106.out 1).trans rfl; have hfz25_0 := blk_frozen BK106.out 0; have hfz25_1 := blk_frozen BK106.out 1) | ((with_reducible refine gate_callee (f := 39) rfl ?_); refine goesL_ (some 11) rfl rfl Try.func39 (by kernel_rfl) rfl #[.agg #[.int .i64 a0_0, .slice A0_1 l0_1.length c0_1], .int .i64 a1, .int .i64 a2] rfl qm ?_; (with_reducible refine (impl_NetHas.calls k a0_0 _ _ l0_1 a1 a2 false _ ?side1 ?side2 A4.out).mono ?_); (case side1 => exact qc (Kd.C_below HR0_1.out HB.out)); (case side2 => exact HC0_1.out); rintro e w26 ⟨rfl, hb⟩; refine ⟨_, rfl, ?_⟩; have n0_ := q0 (kb BK106.out hb); have n1_ := q0 (kb BK107.out hb); have n2_ := q0 (below_step (qb HB.out) hb); clear BK106 BK107 HB; have BK106 := n0_; have BK107 := n1_; have HB := n2_; clear n0_ n1_ n2_; (try clear hb); (try clear hb2); (try clear hk); (try clear hi); have hcz27_0 : w26.cell? ⟨gb107, 0, none⟩ = some (.int .i64 0) := (blk_cell BK107.out 0).trans rfl; have hcz27_1 : w26.cell? ⟨gb107, 1, none⟩ = some (.slice none 0 0) := (blk_cell BK107.out 1).trans rfl; have hfz27_0 := blk_frozen BK107.out 0; have hfz27_1 := blk_frozen BK107.out 1))
   refine bodyPost_ret (results_ct rfl _ _ gb107 30 #[.int .i64 0, .slice none 0 0] (0, 0) _ rfl (by (with_reducible repeat (first | refine blk_drewN ?_ _ | refine blk_drew ?_ | refine blk_alloc ?_ _)); refine blk_put (cs := #[.int .i64 0, .slice none 0 0]) ?_ 1 _ rfl; (with_reducible repeat (first | refine blk_drewN ?_ _ | refine blk_drew ?_ | refine blk_alloc ?_ _)); refine blk_put (cs := #[.int .i64 0, .slice none 0 0]) ?_ 0 _ rfl; (with_reducible repeat (first | refine blk_drewN ?_ _ | refine blk_drew ?_ | refine blk_alloc ?_ _)); exact BK107.out) Try.underlying30 rfl (by kernel_rfl)) rfl ?_
   exact ⟨_, qe, by first | exact Kd.R_nil _ _ _ _ _ | exact Kd.N_nil _ _ _ _ _ | exact Kd.V_nil _ _ _ _ _ | exact Kd.Q_nil _ _ _ _ _ | exact Kd.S_nil _ _ _ _ _, qb HB.out⟩
 subst c5
 have H1 : ((impl_tie.f a1 a2).bind fun bt101 => ((impl_Net_less.f k a0_0 l0_1 (([(⟨bt101.1, bt101.2⟩ : STie)] : List (STie)))).bind fun bt102 => (some (bt102.1, bt102.2, true)))) = some (r1, r2, r3) := by rw [if_pos rfl] at H; exact H
 clear H
 have H := H1
 clear H1
 replace H := Option.bind_eq_some_iff.mp H
 obtain ⟨⟨t101, t103⟩, A60, H⟩ := H
 replace H : ((impl_Net_less.f k a0_0 l0_1 (([(⟨t101, t103⟩ : STie)] : List (STie)))).bind fun bt102 => (some (bt102.1, bt102.2, true))) = some (r1, r2, r3) := H
 have A6 := Aside0.mk A60
 clear A60
 obtain ⟨y104, hy104⟩ : ∃ y_ : List (STie), y_ = (([(⟨t101, t103⟩ : STie)] : List (STie))) := ⟨_, rfl⟩
 replace H : ((impl_Net_less.f k a0_0 l0_1 y104).bind fun bt102 => (some (bt102.1, bt102.2, true))) = some (r1, r2, r3) := by first | (rw [hy104]; with_reducible exact H) | (have H2_ := (Option.bind_some _ _).symm.trans H; rw [hy104]; with_reducible exact H2_) | (have H2_ := (Option.bind_some _ _).symm.trans H; with_reducible exact H2_) | with_reducible exact H | (rw [hy104]; exact H) | exact H
 have Ny104 := Aside0.mk hy104
 clear hy104
 replace H := Option.bind_eq_some_iff.mp H
 obtain ⟨⟨t102, t105⟩, A70, H⟩ := H
 replace H : (some (t102, t105, true)) = some (r1, r2, r3) := H
 have A7 := Aside0.mk A70
 clear A70
 simp only [Option.some.injEq, Prod.mk.injEq] at H
 obtain ⟨rfl, rfl, rfl⟩ := H
 go_enter Try.func35, Try.ntmps35
 try go_wp2_with (first | ((with_reducible refine gate_dst (N := 3) rfl ?_); refine be 3 #[.int .i64 a0_0, .slice A0_1 l0_1.length c0_1] 30 ?_; intro gb106 hg w8 hbox hb; have n0_ := q0 (below_step (qb HB.out) hb); have n1_ := q0 (hbox); have n2_ := q0 ((bs HB.out hg : w.heap.size ≤ gb106)); have n3_ := q0 ((bs HB.out hg : w.heap.size ≤ gb106)); clear HB; have HB := n0_; have BK106 := n1_; have GW106 := n2_; have GE106 := n3_; clear n0_ n1_ n2_ n3_ hb hbox hg) | ((with_reducible refine gate_dst (N := 6) rfl ?_); refine be 6 #[.int .i64 0, .slice none 0 0] 30 ?_; intro gb107 hg w9 hbox hb; have n0_ := q0 (kb BK106.out hb); have n1_ := q0 (below_step (qb HB.out) hb); have n2_ := q0 (hbox); have n3_ := q0 ((bs HB.out hg : w.heap.size ≤ gb107)); have n4_ := q0 ((bs HB.out hg : w.heap.size ≤ gb107)); have n5_ := q0 ((bl BK106.out hg : gb106 ≠ gb107)); have n6_ := q0 ((bg BK106.out hg : gb107 ≠ gb106)); clear BK106 HB; have BK106 := n0_; have HB := n1_; have BK107 := n2_; have GW107 := n3_; have GE107 := n4_; have NB106_107 := n5_; have NB107_106 := n6_; clear n0_ n1_ n2_ n3_ n4_ n5_ n6_ hb hbox hg; have hnb10 := NB106_107.out; have hnc10 := NB107_106.out; have hcz11_0 : w9.cell? ⟨gb106, 0, none⟩ = some (.int .i64 a0_0) := (blk_cell BK106.out 0).trans rfl; have hcz11_1 : w9.cell? ⟨gb106, 1, none⟩ = some (.slice A0_1 l0_1.length c0_1) := (blk_cell BK106.out 1).trans rfl; have hfz11_0 := blk_frozen BK106.out 0; have hfz11_1 := blk_frozen BK106.out 1) | ((with_reducible refine gate_callee (f := 39) rfl ?_); refine goesL_ (some 11) rfl rfl Try.func39 (by kernel_rfl) rfl #[.agg #[.int .i64 a0_0, .slice A0_1 l0_1.length c0_1], .int .i64 a1, .int .i64 a2] rfl qm ?_; (with_reducible refine (impl_NetHas.calls k a0_0 _ _ l0_1 a1 a2 true _ ?side1 ?side2 A4.out).mono ?_); (case side1 => exact qc (Kd.C_below HR0_1.out HB.out)); (case side2 => exact HC0_1.out); rintro e w12 ⟨rfl, hb⟩; refine ⟨_, rfl, ?_⟩; have n0_ := q0 (kb BK106.out hb); have n1_ := q0 (kb BK107.out hb); have n2_ := q0 (below_step (qb HB.out) hb); clear BK106 BK107 HB; have BK106 := n0_; have BK107 := n1_; have HB := n2_; clear n0_ n1_ n2_; (try clear hb); (try clear hb2); (try clear hk); (try clear hi)))
 have n0_ := q0 (blk_drew BK106.out)
 have n1_ := q0 (blk_drew BK107.out)
 have n2_ := q0 (below_drew1 HB.out)
 clear BK106
 clear BK107
 clear HB
 have BK106 := n0_
 have BK107 := n1_
 have HB := n2_
 clear n0_ n1_ n2_
 refine start_ (n := 8) (S := fun w' => w'.cell? ⟨gb106, 0, none⟩ = some (.int .i64 a0_0) ∧ w'.cell? ⟨gb106, 1, none⟩ = some (.slice A0_1 l0_1.length c0_1)) (ds := []) (ba 8 0) (by kernel_rfl) rfl (by kernel_rfl) ⟨(blk_cell BK106.out 0).trans rfl, (blk_cell BK106.out 1).trans rfl⟩ (fun hHeld => ?_); refine with_tabW impl_NetCut.tab3 impl_NetCut.bits3 (fun HT_ HW_ => ?_)
 generalize w12.drew = w13 at BK106 BK107 HB hHeld ⊢
 refine pu 1 (some 15) (ba 8 2) HT_.out ?_
 refine pu 2 (some 16) (ba 8 6) HT_.out ?_
 refine tu 0 (some 14) (ba 8 7) HT_.out HW_.out hHeld ?_
 refine one_ (i := 3) (N := some 17) (ba 8 15) rfl rfl (one_of HT_.out (by kernel_rfl)) (by decide) (fun K hK => ?_)
 refine goes_ Try.func66 (by kernel_rfl) rfl #[.int .i64 a1, .int .i64 a2] (by rfl) rfl rfl qm ?_
 with_reducible refine (impl_tie.calls a1 a2 t101 t103 _ A6.out).mono ?_
 rintro e w14 ⟨rfl, hb⟩
 refine ⟨_, rfl, ?_⟩
 have n0_ := q0 (kb BK106.out hb)
 have n1_ := q0 (kb BK107.out hb)
 have n2_ := q0 (below_step (qb HB.out) hb)
 clear BK106
 clear BK107
 clear HB
 have BK106 := n0_
 have BK107 := n1_
 have HB := n2_
 clear n0_ n1_ n2_
 (try clear hb)
 (try clear hb2)
 (try clear hk)
 (try clear hi)
 refine hK.out _ _ ⟨(blk_cell BK106.out 0).trans rfl, (blk_cell BK106.out 1).trans rfl⟩ (fun hHeld => ?_)
 clear hK K
 refine nu 17 ?_
 refine one_ (i := 4) (N := some 18) (ba 8 31) rfl rfl (one_of HT_.out (by kernel_rfl)) (by decide) (fun K hK => ?_)
 refine Kd.R_lit_step kTie _ 44 ?hg (N := 18) ?hd (xs := ([(⟨t101, t103⟩ : STie)] : List (STie))) (inner := [.int .i64 t101, .int .i64 t103]) (ok := fun _ => True) (okp := fun _ => True) ?hr ?hp (fun _ hk => hk) trivial (Below.refl _ _) (Nat.le_refl _) (by simp) ?_; (case hd => rfl); (case hg => rfl); (case hr => first | (go_simp; done) | (go_simp; rfl)); (case hp => exact (Reps.c2 (show Kd.M kTie _ _ _ (⟨t101, t103⟩ : STie) [.int .i64 t101, .int .i64 t103] from (kTie_mkM _ _ _ (⟨t101, t103⟩ : STie) )) (Reps.none _ _)))
 intro v108 w15 ho16 hb hg_ hnew_
 clear hg_ hnew_
 (first | rw [← Ny104.out] at ho16 | (simp only [Int.reduceToNat] at ho16; rw [← Ny104.out] at ho16))
 have n0_ := q0 (Kd.R_lower ho16 (below_size (qb HB.out)))
 have n1_ := q0 (kb BK106.out hb)
 have n2_ := q0 (kb BK107.out hb)
 have n3_ := q0 (below_step (qb HB.out) hb)
 clear BK106
 clear BK107
 clear HB
 have HO109 := n0_
 have BK106 := n1_
 have BK107 := n2_
 have HB := n3_
 clear n0_ n1_ n2_ n3_
 clear hb ho16
 obtain ⟨Ao17, co17, eo17⟩ := Kd.R_slice HO109.out
 (first | subst eo17 | (injection eo17 with f1_ f2_ f3_; have f4_ := f1_.symm; have f5_ := f3_.symm; clear f1_ f2_ f3_; subst f4_; subst f5_))
 refine hK.out _ _ ⟨(blk_cell BK106.out 0).trans rfl, (blk_cell BK106.out 1).trans rfl⟩ (fun hHeld => ?_)
 clear hK K
 refine nu 18 ?_
 refine one_ (i := 5) (N := some 19) (ba 8 63) rfl rfl (one_of HT_.out (by kernel_rfl)) (by decide) (fun K hK => ?_)
 refine goes_ Try.func65 (by kernel_rfl) rfl #[.agg #[.int .i64 a0_0, .slice A0_1 l0_1.length c0_1], .slice Ao17 y104.length co17] (by rfl) rfl rfl qm ?_
 with_reducible refine (impl_Net_less.calls k a0_0 _ _ l0_1 _ _ y104 t102 t105 _ ?side1 ?side2 ?side3 ?side4 A7.out).mono ?_
 (case side1 => exact qc (Kd.C_below HR0_1.out HB.out))
 (case side2 => exact HC0_1.out)
 (case side3 => exact qc (Kd.R_reads' HO109.out).2.2)
 (case side4 => exact (Kd.R_reads' HO109.out).2.1)
 rintro e w18 ⟨v110, rfl, ho0, hb⟩
 refine ⟨_, rfl, ?_⟩
 have n0_ := q0 (Kd.R_elder' (qr HO109.out) (Kd.R_base ho0) hb)
 have n1_ := q0 (Kd.R_lower (Kd.R_new' ho0 (Kd.R_lt (qr HO109.out))) (below_size (qb HB.out)))
 have n2_ := q0 (kb BK106.out hb)
 have n3_ := q0 (kb BK107.out hb)
 have n4_ := q0 (below_step (qb HB.out) hb)
 clear HO109
 clear BK106
 clear BK107
 clear HB
 have HO109 := n0_
 have HO111 := n1_
 have BK106 := n2_
 have BK107 := n3_
 have HB := n4_
 clear n0_ n1_ n2_ n3_ n4_
 (try clear hb)
 (try clear hb2)
 (try clear hk)
 (try clear hi)
 (try clear ho0)
 obtain ⟨Ao20, co20, eo20⟩ := Kd.R_slice HO111.out
 (first | subst eo20 | (injection eo20 with f1_ f2_ f3_; have f4_ := f1_.symm; have f5_ := f3_.symm; clear f1_ f2_ f3_; subst f4_; subst f5_))
 refine hK.out _ _ ⟨(blk_cell BK106.out 0).trans rfl, (blk_cell BK106.out 1).trans rfl⟩ (fun hHeld => ?_)
 clear hK K
 refine nu 19 ?_
 refine one_ (i := 6) (N := none) (ba 8 127) rfl rfl (one_of HT_.out (by kernel_rfl)) (by decide) (fun K hK => ?_)
 have hs19 : w18.cell? ⟨gb107, 0, none⟩ = some (.int .i64 0) := (blk_cell BK107.out 0).trans rfl
 have hfs19 := blk_frozen BK107.out 0
 have hns19_0 := NB106_107.out
 have hms19_0 := NB107_106.out
 have hs21 : w18.cell? ⟨gb107, 1, none⟩ = some (.slice none 0 0) := (blk_cell BK107.out 1).trans rfl
 have hfs21 := blk_frozen BK107.out 1
 have hns21_0 := NB106_107.out
 have hms21_0 := NB107_106.out
 refine skip_ (w1 := ?_) (by rfl) rfl ?_ ?_
 rotate_left
 · go_simp
   rfl
 refine hK.out _ _ ⟨((cell_far (p := ⟨gb107, _, none⟩) NB106_107.out _).trans (((cell_far (p := ⟨gb107, _, none⟩) NB106_107.out _).trans (hHeld.1)))), ((cell_far (p := ⟨gb107, _, none⟩) NB106_107.out _).trans (((cell_far (p := ⟨gb107, _, none⟩) NB106_107.out _).trans (hHeld.2))))⟩ (fun hHeld => ?_)
 clear hK K
 refine pu 7 (some 7) (ba 8 255) HT_.out ?_
 refine done_ (done_of HT_.out (by kernel_rfl)) ?_
 try go_wp2
 refine bodyPost_ret (results_ct rfl _ _ gb107 30 #[.int .i64 t102, .slice Ao20 t105.length co20] (0, 0) _ rfl (by (with_reducible repeat (first | refine blk_drewN ?_ _ | refine blk_drew ?_ | refine blk_alloc ?_ _)); refine blk_put (cs := #[.int .i64 t102, .slice none 0 0]) ?_ 1 _ rfl; (with_reducible repeat (first | refine blk_drewN ?_ _ | refine blk_drew ?_ | refine blk_alloc ?_ _)); refine blk_put (cs := #[.int .i64 0, .slice none 0 0]) ?_ 0 _ rfl; (with_reducible repeat (first | refine blk_drewN ?_ _ | refine blk_drew ?_ | refine blk_alloc ?_ _)); exact BK107.out) Try.underlying30 rfl (by kernel_rfl)) rfl ?_
 exact ⟨_, qe, by (with_reducible repeat (first | apply Kd.R_alloc | apply Kd.R_drewN | apply Kd.R_drew)); exact Kd.R_mono (Kd.R_far (p := ⟨gb107, 1, none⟩) (Kd.R_far (p := ⟨gb107, 0, none⟩) (Kd.R_types HO111.out BK107.out (by decide)) (fun _ hk => hk.2) (.int .i64 t102)) (fun _ hk => hk.2) (.slice Ao20 t105.length co20)) (fun _ hk => trivial), qb HB.out⟩

attribute [local go_sem high] eqATie
set_option maxHeartbeats 8000000 in
set_option maxRecDepth 100000 in
theorem laws_loTies.calls (k : Nat) (A0 : Option Addr) (c0 : Nat) (l0 : List (STie)) (A1 : Option Addr) (c1 : Nat) (l1 : List (STie)) (r : Bool) (w : World) (hr0 : Kd.C kTie w A0 l0.length l0) (hc0 : l0.length ≤ c0) (hr1 : Kd.C kTie w A1 l1.length l1) (hc1 : l1.length ≤ c1) (h : laws_loTies.f k l0 l1 = some r) :
    Calls Try.prog 67 #[.slice A0 l0.length c0, .slice A1 l1.length c1] w fun e w' => e = .returned (.bool r) ∧ Drawn0 w w' := by
 have hu44 := Try.underlying44
 have HR0 := Aside0.mk hr0
 have HC0 := Aside0.mk hc0
 clear hr0 hc0
 have HR1 := Aside0.mk hr1
 have HC1 := Aside0.mk hc1
 clear hr1 hc1
 have H : (if (l0.length : Int) = (l1.length : Int) then (laws_loTies.l0 k l0 l1 0) else (some false)) = some r := h
 clear h
 by_cases c3 : (l0.length : Int) = (l1.length : Int)
 rotate_left
 · rw [if_neg c3] at H
   have c3b0 : ((l0.length : Int) == (l1.length : Int)) = false := beq_eq_false_iff_ne.mpr c3
   have c3b1 : ((l0.length : Int) != (l1.length : Int)) = true := bne_iff_ne.mpr c3
   have c3b2 : (l0.length == l1.length) = false := by first | simpa using c3 | (simp at c3 ⊢; omega)
   obtain rfl := Option.some.inj H
   go_enter Try.func67, Try.ntmps67
   go_wp2
   repeat (go_quiet (fail); try go_wp2)
   go_ret
   exact ⟨by first | rfl | (simp; done) | (simp [*]; done), by repeat (first | exact Drawn0.refl _ | apply Drawn0.step)⟩
 rw [if_pos c3] at H
 have c3b0 : ((l0.length : Int) == (l1.length : Int)) = true := beq_iff_eq.mpr c3
 have c3b1 : ((l0.length : Int) != (l1.length : Int)) = false := bne_eq_false_iff_eq.mpr c3
 have c3b2 : (l0.length == l1.length) = true := by first | simpa using c3 | (simp at c3 ⊢; omega)
 clear c3
 have H' := Aside0.mk H
 clear H
 go_enter Try.func67, Try.ntmps67
 go_wp2
 repeat (go_quiet (fail); try go_wp2)
 go_loopg [5] k (fun kq v5 w' => ∃ (x5_1 : Int), v5 = .int .i64 x5_1 ∧ Aside0 (laws_loTies.l0 kq l0 l1 x5_1 = some r) ∧ Aside0 (kq ≤ k) ∧ Drawn0 w w')
 case atStart => exact ⟨(0), qs, H', ⟨Nat.le_refl _⟩, by repeat (first | exact Drawn0.refl _ | apply Drawn0.step)⟩
 clear H'
 try clear c1
 try clear p2
 try clear c3
 try clear c3b0
 try clear c3b1
 try clear c3b2
 obtain ⟨x5_1, rfl, HA, HK1, ⟨m1, rfl⟩⟩ := hrel
 rcases gk with _ | k1
 · exact absurd HA.out (by simp [laws_loTies.l0])
 have H := HA.out
 clear HA
 simp only [laws_loTies.l0] at H
 by_cases c4 : x5_1 < (l0.length : Int)
 rotate_left
 · rw [if_neg c4] at H
   have c4b0 : decide (x5_1 < (l0.length : Int)) = false := decide_eq_false c4
   clear c4
   obtain rfl := Option.some.inj H
   go_wp2
   repeat (go_quiet (fail); try go_wp2)
   go_ret
   exact ⟨by first | rfl | (simp; done) | (simp [*]; done), by repeat (first | exact Drawn0.refl _ | apply Drawn0.step)⟩
 rw [if_pos c4] at H
 have c4b0 : decide (x5_1 < (l0.length : Int)) = true := decide_eq_true c4
 clear c4
 by_cases c5 : 0 ≤ x5_1
 rotate_left
 · rw [if_neg c5] at H
   exact absurd H (by simp)
 rw [if_pos c5] at H
 have c5b0 : decide (0 ≤ x5_1) = true := decide_eq_true c5
 clear c5
 by_cases c6 : x5_1 < (l1.length : Int)
 rotate_left
 · rw [if_neg c6] at H
   exact absurd H (by simp)
 rw [if_pos c6] at H
 have c6b0 : decide (x5_1 < (l1.length : Int)) = true := decide_eq_true c6
 clear c6
 by_cases c7 : (!(((rd_TTie l0 x5_1).f0) == ((rd_TTie l1 x5_1).f0)) || (!(((rd_TTie l0 x5_1).f1) == ((rd_TTie l1 x5_1).f1)))) = true
 · rw [if_pos c7] at H
   have c7b0 : (!(((rd_TTie l0 x5_1).f0) == ((rd_TTie l1 x5_1).f0)) || (!(((rd_TTie l0 x5_1).f1) == ((rd_TTie l1 x5_1).f1)))) = true := c7
   clear c7
   obtain rfl := Option.some.inj H
   have p100 : 0 ≤ (x5_1 : Int) := of_decide_eq_true qa
   have q100 : x5_1 < (l0.length : Int) := of_decide_eq_true qa
   obtain ⟨ad100, e100, hx100_0, hx100_1⟩ := at_TTie HR0.out x5_1 p100 q100
   cases e100
   replace p100 := eq_true p100
   replace q100 := eq_true q100
   have p101 : 0 ≤ (x5_1 : Int) := of_decide_eq_true qa
   have q101 : x5_1 < (l1.length : Int) := of_decide_eq_true qa
   obtain ⟨ad101, e101, hx101_0, hx101_1⟩ := at_TTie HR1.out x5_1 p101 q101
   cases e101
   replace p101 := eq_true p101
   replace q101 := eq_true q101
   go_wp2
   repeat (go_quiet (fail); try go_wp2)
   go_ret
   exact ⟨by first | rfl | (simp; done) | (simp [*]; done), by repeat (first | exact Drawn0.refl _ | apply Drawn0.step)⟩
 rw [if_neg c7] at H
 have c7b0 : (!(((rd_TTie l0 x5_1).f0) == ((rd_TTie l1 x5_1).f0)) || (!(((rd_TTie l0 x5_1).f1) == ((rd_TTie l1 x5_1).f1)))) = false := by simpa using c7
 clear c7
 have H' := Aside0.mk H
 clear H
 have p100 : 0 ≤ (x5_1 : Int) := of_decide_eq_true qa
 have q100 : x5_1 < (l0.length : Int) := of_decide_eq_true qa
 obtain ⟨ad100, e100, hx100_0, hx100_1⟩ := at_TTie HR0.out x5_1 p100 q100
 cases e100
 replace p100 := eq_true p100
 replace q100 := eq_true q100
 have p101 : 0 ≤ (x5_1 : Int) := of_decide_eq_true qa
 have q101 : x5_1 < (l1.length : Int) := of_decide_eq_true qa
 obtain ⟨ad101, e101, hx101_0, hx101_1⟩ := at_TTie HR1.out x5_1 p101 q101
 cases e101
 replace p101 := eq_true p101
 replace q101 := eq_true q101
 go_wp2
 repeat (go_quiet (fail); try go_wp2)
 go_roundg k1
 case measure => have := HK1.out; omega
 case rel => exact ⟨(wrap64 (x5_1 + 1)), qs, H', ⟨by have := HK1.out; omega⟩, by repeat (first | exact Drawn0.refl _ | apply Drawn0.step)⟩

set_option maxHeartbeats 8000000 in
set_option maxRecDepth 100000 in
theorem laws_loNet.calls (k : Nat) (a0_0 : Int) (A0_1 : Option Addr) (c0_1 : Nat) (l0_1 : List (STie)) (a1_0 : Int) (A1_1 : Option Addr) (c1_1 : Nat) (l1_1 : List (STie)) (r : Bool) (w : World) (hr0_1 : Kd.C kTie w A0_1 l0_1.length l0_1) (hc0_1 : l0_1.length ≤ c0_1) (hr1_1 : Kd.C kTie w A1_1 l1_1.length l1_1) (hc1_1 : l1_1.length ≤ c1_1) (h : laws_loNet.f k a0_0 l0_1 a1_0 l1_1 = some r) :
    Calls Try.prog 36 #[.agg #[.int .i64 a0_0, .slice A0_1 l0_1.length c0_1], .agg #[.int .i64 a1_0, .slice A1_1 l1_1.length c1_1]] w fun e w' => e = .returned (.bool r) ∧ Below w.heap.size w w' := by
 have hu30 := Try.underlying30
 have HR0_1 := Aside0.mk hr0_1
 have HC0_1 := Aside0.mk hc0_1
 clear hr0_1 hc0_1
 have HR1_1 := Aside0.mk hr1_1
 have HC1_1 := Aside0.mk hc1_1
 clear hr1_1 hc1_1
 have HB := q0 (Below.refl w.heap.size w)
 have H : (if a0_0 = a1_0 then ((laws_loTies.f k l0_1 l1_1).bind fun t100 => (some t100)) else (some false)) = some r := h
 clear h
 by_cases c3 : a0_0 = a1_0
 rotate_left
 · rw [if_neg c3] at H
   have c3b0 : (a0_0 == a1_0) = false := beq_eq_false_iff_ne.mpr c3
   have c3b1 : (a0_0 != a1_0) = true := bne_iff_ne.mpr c3
   obtain rfl := Option.some.inj H
   go_enter Try.func36, Try.ntmps36
   go_wp2_with (first | ((with_reducible refine gate_dst (N := 2) rfl ?_); refine be 2 #[.int .i64 a0_0, .slice A0_1 l0_1.length c0_1] 30 ?_; intro gb101 hg w10 hbox hb; have n0_ := q0 (below_step (qb HB.out) hb); have n1_ := q0 (hbox); have n2_ := q0 ((bs HB.out hg : w.heap.size ≤ gb101)); have n3_ := q0 ((bs HB.out hg : w.heap.size ≤ gb101)); clear HB; have HB := n0_; have BK101 := n1_; have GW101 := n2_; have GE101 := n3_; clear n0_ n1_ n2_ n3_ hb hbox hg) | ((with_reducible refine gate_dst (N := 3) rfl ?_); refine be 3 #[.int .i64 a1_0, .slice A1_1 l1_1.length c1_1] 30 ?_; intro gb102 hg w11 hbox hb; have n0_ := q0 (kb BK101.out hb); have n1_ := q0 (below_step (qb HB.out) hb); have n2_ := q0 (hbox); have n3_ := q0 ((bs HB.out hg : w.heap.size ≤ gb102)); have n4_ := q0 ((bs HB.out hg : w.heap.size ≤ gb102)); have n5_ := q0 ((bl BK101.out hg : gb101 ≠ gb102)); have n6_ := q0 ((bg BK101.out hg : gb102 ≠ gb101)); clear BK101 HB; have BK101 := n0_; have HB := n1_; have BK102 := n2_; have GW102 := n3_; have GE102 := n4_; have NB101_102 := n5_; have NB102_101 := n6_; clear n0_ n1_ n2_ n3_ n4_ n5_ n6_ hb hbox hg; have hnb12 := NB101_102.out; have hnc12 := NB102_101.out; have hcz13_0 : w11.cell? ⟨gb101, 0, none⟩ = some (.int .i64 a0_0) := (blk_cell BK101.out 0).trans rfl; have hcz13_1 : w11.cell? ⟨gb101, 1, none⟩ = some (.slice A0_1 l0_1.length c0_1) := (blk_cell BK101.out 1).trans rfl; have hfz13_0 := blk_frozen BK101.out 0; have hfz13_1 := blk_frozen BK101.out 1; have hcz14_0 : w11.cell? ⟨gb102, 0, none⟩ = some (.int .i64 a1_0) := (blk_cell BK102.out 0).trans rfl; have hcz14_1 : w11.cell? ⟨gb102, 1, none⟩ = some (.slice A1_1 l1_1.length c1_1) := (blk_cell BK102.out 1).trans rfl; have hfz14_0 := blk_frozen BK102.out 0; have hfz14_1 := blk_frozen BK102.out 1))
   go_ret
   exact ⟨qe, qb HB.out⟩
 rw [if_pos c3] at H
 have c3b0 : (a0_0 == a1_0) = true := beq_iff_eq.mpr c3
 have c3b1 : (a0_0 != a1_0) = false := bne_eq_false_iff_eq.mpr c3
 clear c3
 replace H := Option.bind_eq_some_iff.mp H
 obtain ⟨t100, A40, H⟩ := H
 replace H : (some t100) = some r := H
 have A4 := Aside0.mk A40
 clear A40
 obtain rfl := Option.some.inj H
 go_enter Try.func36, Try.ntmps36
 go_wp2_with (first | ((with_reducible refine gate_dst (N := 2) rfl ?_); refine be 2 #[.int .i64 a0_0, .slice A0_1 l0_1.length c0_1] 30 ?_; intro gb101 hg w5 hbox hb; have n0_ := q0 (below_step (qb HB.out) hb); have n1_ := q0 (hbox); have n2_ := q0 ((bs HB.out hg : w.heap.size ≤ gb101)); have n3_ := q0 ((bs HB.out hg : w.heap.size ≤ gb101)); clear HB; have HB := n0_; have BK101 := n1_; have GW101 := n2_; have GE101 := n3_; clear n0_ n1_ n2_ n3_ hb hbox hg) | ((with_reducible refine gate_dst (N := 3) rfl ?_); refine be 3 #[.int .i64 a1_0, .slice A1_1 l1_1.length c1_1] 30 ?_; intro gb102 hg w6 hbox hb; have n0_ := q0 (kb BK101.out hb); have n1_ := q0 (below_step (qb HB.out) hb); have n2_ := q0 (hbox); have n3_ := q0 ((bs HB.out hg : w.heap.size ≤ gb102)); have n4_ := q0 ((bs HB.out hg : w.heap.size ≤ gb102)); have n5_ := q0 ((bl BK101.out hg : gb101 ≠ gb102)); have n6_ := q0 ((bg BK101.out hg : gb102 ≠ gb101)); clear BK101 HB; have BK101 := n0_; have HB := n1_; have BK102 := n2_; have GW102 := n3_; have GE102 := n4_; have NB101_102 := n5_; have NB102_101 := n6_; clear n0_ n1_ n2_ n3_ n4_ n5_ n6_ hb hbox hg; have hnb7 := NB101_102.out; have hnc7 := NB102_101.out; have hcz8_0 : w6.cell? ⟨gb101, 0, none⟩ = some (.int .i64 a0_0) := (blk_cell BK101.out 0).trans rfl; have hcz8_1 : w6.cell? ⟨gb101, 1, none⟩ = some (.slice A0_1 l0_1.length c0_1) := (blk_cell BK101.out 1).trans rfl; have hfz8_0 := blk_frozen BK101.out 0; have hfz8_1 := blk_frozen BK101.out 1; have hcz9_0 : w6.cell? ⟨gb102, 0, none⟩ = some (.int .i64 a1_0) := (blk_cell BK102.out 0).trans rfl; have hcz9_1 : w6.cell? ⟨gb102, 1, none⟩ = some (.slice A1_1 l1_1.length c1_1) := (blk_cell BK102.out 1).trans rfl; have hfz9_0 := blk_frozen BK102.out 0; have hfz9_1 := blk_frozen BK102.out 1) | (go_at_call 67; (with_reducible refine (laws_loTies.calls k _ _ l0_1 _ _ l1_1 t100 _ ?side1 ?side2 ?side3 ?side4 A4.out).mono ?_); (case side1 => exact qc (Kd.C_below HR0_1.out HB.out)); (case side2 => exact HC0_1.out); (case side3 => exact qc (Kd.C_below HR1_1.out HB.out)); (case side4 => exact HC1_1.out); rintro e w' ⟨rfl, ⟨nd, rfl⟩⟩))
 go_ret
 exact ⟨qe, qb HB.out⟩

end Go.Proofs.Ytheoebelhgbejaa.P
