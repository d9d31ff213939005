import Derived.Test.YtmfmeenfhdohcaaP0
import Derived.Test.YtmfmeenfhdohcaaP2
import Derived.Test.YtmfmeenfhdohcaaP3
import Derived.Test.YtmfmeenfhdohcaaP5
import Derived.Test.YtmfmeenfhdohcaaP6
import Derived.Test.YtmfmeenfhdohcaaP7
import Derived.Test.YtmfmeenfhdohcaaS
namespace Go.Proofs.Ytmfmeenfhdohcaa.P
open Go.RowKit Go.Proofs.YtmfmeenfhdohcaaW.PrintWords Go.Proofs.YtmfmeenfhdohcaaW.PrintLast Go.Proofs.YtmfmeenfhdohcaaW.PrintMore
attribute [local go_sem] max2_int min2_int max_two min_two max_three min_three max_four min_four
set_option linter.unusedVariables false
set_option linter.unusedSimpArgs false
attribute [local go_sem high] eqATie
set_option maxHeartbeats 8000000 in
set_option maxRecDepth 100000 in
theorem spec_DrawNetAdd.calls (k : Nat) (A0 : Option Addr) (c0 : Nat) (l0 : List Int) (r1 : Int) (r2 : List (STie)) (r3 : Int) (r4 : Int) (w : World) (hr0 : Kd.C (Kd.int .u8) w A0 l0.length l0) (hc0 : l0.length ≤ c0) (h : spec_DrawNetAdd.f k l0 = some (r1, r2, r3, r4)) :
    Calls Try.prog 36 #[.slice A0 l0.length c0] w fun e w' => ∃ v1_ : Value, e = .returned (.tuple #[.agg #[.int .i64 r1, v1_], .int .i64 r3, .int .i64 r4]) ∧ Kd.R kTie 74 w' w.heap.size (fun _ => True) v1_ r2 ∧ Below w.heap.size w w' := by
 have hu31 := Try.underlying31
 have HR0 := Aside0.mk hr0
 have HC0 := Aside0.mk hc0
 clear hr0 hc0
 have HB := q0 (Below.refl w.heap.size w)
 have H : ((spec_l6Open.f l0).bind fun bt100 => ((spec_l71Pair.f k bt100.1 bt100.2).bind fun bt101 => (some (bt101.1, bt101.2.1, bt101.2.2.1, bt101.2.2.2.1)))) = some (r1, r2, r3, r4) := h
 clear h
 replace H := Option.bind_eq_some_iff.mp H
 obtain ⟨⟨t100, t102⟩, A20, H⟩ := H
 have A2 := Aside0.mk A20
 clear A20
 replace H := Option.bind_eq_some_iff.mp H
 obtain ⟨⟨t101, t103, t104, t105, t106⟩, A30, H⟩ := H
 have A3 := Aside0.mk A30
 clear A30
 simp only [Option.some.injEq, Prod.mk.injEq] at H
 obtain ⟨rfl, rfl, rfl, rfl⟩ := H
 go_enter Try.func36, Try.ntmps36
 go_wp2_with (first | ((with_reducible refine gate_dst (N := 2) rfl ?_); refine be 2 #[.int .i64 0, .slice none 0 0] 31 ?_; intro gb107 hg w4 hbox hb; have BK107 := q0 (hbox); have GW107 := q0 ((bs HB.out hg : w.heap.size ≤ gb107)); have GE107 := q0 ((bs HB.out hg : w.heap.size ≤ gb107)); replace HB := q0 (below_step (qb HB.out) hb); clear hb hbox hg) | ((with_reducible refine gate_callee (f := 51) rfl ?_); refine gl 6 Try.func51 #[.slice A0 l0.length c0] ?_; (with_reducible refine (spec_l6Open.calls _ _ l0 t100 t102 w _ ?side1 ?side2 ?side3 A2.out).mono ?_); (case side1 => exact qb HB.out); (case side2 => exact HR0.out); (case side3 => exact HC0.out); rintro e w5 ⟨g108, rfl, hi, hb, hb2⟩; refine ⟨_, rfl, ?_⟩; replace HB := q0 (hb); have HI108 := q0 (hi); have NB108_107 := q0 (IsSRd.ne_blk hi (kb BK107.out hb2) (by decide)); have NB107_108 := q0 (Ne.symm (IsSRd.ne_blk hi (kb BK107.out hb2) (by decide))); replace BK107 := q0 (kb BK107.out hb2); (try clear hb); (try clear hb2); (try clear hk); (try clear hi)) | ((with_reducible refine gate_callee (f := 50) rfl ?_); refine gl 7 Try.func50 #[.pointer (some ⟨g108, 0, none⟩)] ?_; (with_reducible refine (spec_l71Pair.calls k g108 t100 t102 t101 t103 t104 t105 t106 w _ ?side1 ?side2 A3.out).mono ?_); (case side1 => exact qi HI108.out); (case side2 => exact qj HB.out HI108.out); rintro e w6 ⟨v109, rfl, ho0, hi, hb, hk⟩; refine ⟨_, rfl, ?_⟩; replace BK107 := q0 (kc hk BK107.out NB107_108.out); have HO110 := q0 (Kd.R_lower ho0 (below_size (qj HB.out HI108.out))); replace HB := q0 (hb); replace HI108 := q0 (hi); (try clear hb); (try clear hb2); (try clear hk); (try clear hi); (try clear ho0); have hnb7 := NB107_108.out; have hnc7 := NB108_107.out; have hcz8_0 : w6.cell? ⟨gb107, 0, none⟩ = some (.int .i64 0) := (blk_cell BK107.out 0).trans rfl; have hcz8_1 : w6.cell? ⟨gb107, 1, none⟩ = some (.slice none 0 0) := (blk_cell BK107.out 1).trans rfl; have hfz8_0 := blk_frozen BK107.out 0; have hfz8_1 := blk_frozen BK107.out 1; obtain ⟨Ao9, co9, eo9⟩ := Kd.R_slice HO110.out; subst eo9))
 refine bodyPost_ret (results_ctt rfl _ _ gb107 31 #[.int .i64 t101, .slice Ao9 t103.length co9] (0, 0) _ rfl (by (with_reducible repeat (first | refine blk_drewN ?_ _ | refine blk_drew ?_ | refine blk_alloc ?_ _)); refine blk_put (cs := #[.int .i64 t101, .slice none 0 0]) ?_ 1 _ rfl; (with_reducible repeat (first | refine blk_drewN ?_ _ | refine blk_drew ?_ | refine blk_alloc ?_ _)); refine blk_put (cs := #[.int .i64 0, .slice none 0 0]) ?_ 0 _ rfl; (with_reducible repeat (first | refine blk_drewN ?_ _ | refine blk_drew ?_ | refine blk_alloc ?_ _)); exact BK107.out) Try.underlying31 rfl (by kernel_rfl)) rfl ?_
 exact ⟨_, qe, by (with_reducible repeat (first | apply Kd.R_alloc | apply Kd.R_drewN | apply Kd.R_drew)); exact rf2 HO110.out BK107.out (fun _ hk => trivial), qj HB.out HI108.out⟩


def impl_NetAdd.T3 : Bool × List (List Nat × List Nat) := (true, [([], []), ([0], [0]), ([], []), ([], []), ([3], [3]), ([2, 4], [2, 4]), ([], []), ([], []), ([6, 7, 5], [6, 7]), ([8], [8]), ([5, 9, 8], [5, 9]), ([1, 10], [1, 10]), ([], []), ([12, 11, 10, 0, 1, 2, 3, 4, 5, 6, 7, 8, 9, 10, 11, 12], [11, 12])])
def impl_NetAdd.B3 : List Nat := [0, 1, 0, 0, 8, 28, 0, 0, 252, 508, 1020, 2047, 0, 8191]
theorem impl_NetAdd.tab3 : rtab .any (opsOf Try.f37 3) = impl_NetAdd.T3 := by kernel_rfl
theorem impl_NetAdd.bits3 : waitsOk impl_NetAdd.T3.2 impl_NetAdd.B3 = true := by kernel_rfl
set_option maxHeartbeats 8000000 in
set_option maxRecDepth 100000 in
theorem impl_NetAdd.calls (k : Nat) (a0_0 : Int) (A0_1 : Option Addr) (c0_1 : Nat) (l0_1 : List (STie)) (a1 : Int) (a2 : Int) (r1 : Int) (r2 : List (STie)) (r3 : Bool) (w : World) (hr0_1 : Kd.C kTie w A0_1 l0_1.length l0_1) (hc0_1 : l0_1.length ≤ c0_1) (h : impl_NetAdd.f k a0_0 l0_1 a1 a2 = some (r1, r2, r3)) :
    Calls Try.prog 37 #[.agg #[.int .i64 a0_0, .slice A0_1 l0_1.length c0_1], .int .i64 a1, .int .i64 a2] w fun e w' => ∃ v1_ : Value, e = .returned (.tuple #[.agg #[.int .i64 r1, v1_], .bool r3]) ∧ Kd.R kTie 74 w' w.heap.size (fun _ => True) v1_ r2 ∧ Below w.heap.size w w' := by
 have hu31 := Try.underlying31
 have HR0_1 := Aside0.mk hr0_1
 have HC0_1 := Aside0.mk hc0_1
 clear hr0_1 hc0_1
 have HB := q0 (Below.refl w.heap.size w)
 have H : ((impl_NetOk.f k a0_0 l0_1).bind fun t106 => (if t106 = true then ((impl_Net_knot.f a0_0 l0_1 a1).bind fun t107 => (if t107 = true then ((impl_Net_knot.f a0_0 l0_1 a2).bind fun t108 => (if t108 = true then (if a1 = a2 then (impl_NetAdd.j0 k a1 a2 true a0_0 l0_1) else ((impl_Net_has.f k a0_0 l0_1 a1 a2).bind fun t109 => (impl_NetAdd.j0 k a1 a2 t109 a0_0 l0_1))) else (impl_NetAdd.j0 k a1 a2 true a0_0 l0_1))) else (impl_NetAdd.j0 k a1 a2 true a0_0 l0_1))) else (impl_NetAdd.j0 k a1 a2 true a0_0 l0_1))) = some (r1, r2, r3) := h
 clear h
 have HC4 := Aside0.mk H
 clear H
 go_enter Try.func37, Try.ntmps37
 go_upto_region 1 with (first | ((with_reducible refine gate_dst (N := 3) rfl ?_); refine be 3 #[.int .i64 a0_0, .slice A0_1 l0_1.length c0_1] 31 ?_; intro gb110 hg w5 hbox hb; have BK110 := q0 (hbox); have GW110 := q0 ((bs HB.out hg : w.heap.size ≤ gb110)); have GE110 := q0 ((bs HB.out hg : w.heap.size ≤ gb110)); replace HB := q0 (below_step (qb HB.out) hb); clear hb hbox hg) | ((with_reducible refine gate_dst (N := 6) rfl ?_); refine be 6 #[.int .i64 0, .slice none 0 0] 31 ?_; intro gb100 hg w6 hbox hb; have BK100 := q0 (hbox); have GW100 := q0 ((bs HB.out hg : w.heap.size ≤ gb100)); have GE100 := q0 ((bs HB.out hg : w.heap.size ≤ gb100)); replace HB := q0 (below_step (qb HB.out) hb); have NB110_100 := q0 ((bl BK110.out hg : gb110 ≠ gb100)); have NB100_110 := q0 ((bg BK110.out hg : gb100 ≠ gb110)); replace BK110 := q0 (kb BK110.out hb); clear hb hbox hg))
 (try simp only [Act.put, List.setIfInBounds_toArray, List.set_cons_zero, List.set_cons_succ])
 go_cut [34] (fun v34 wc => ∃ (kq : Nat) (x34_3 : Bool), v34 = .bool x34_3 ∧ Aside0 (impl_NetAdd.j0 kq a1 a2 x34_3 a0_0 l0_1 = some (r1, r2, r3)) ∧ Aside0 (kq ≤ k) ∧ Aside0 (wc.heap[gb110]? = some (.cells #[.int .i64 a0_0, (.slice A0_1 l0_1.length c0_1)] 31 (0, 0))) ∧ Aside0 (wc.heap[gb100]? = some (.cells #[.int .i64 0, (.slice none 0 0)] 31 (0, 0))) ∧ Aside0 (Below w.heap.size w wc))
 case first =>
   have H := HC4.out
   clear HC4
   replace H := Option.bind_eq_some_iff.mp H
   obtain ⟨t106, A70, H⟩ := H
   have A7 := Aside0.mk A70
   clear A70
   by_cases c8 : t106 = true
   rotate_left
   · replace c8 := Bool.eq_false_iff.mpr c8
     subst c8
     rw [if_neg nf] at H
     have H' := Aside0.mk H
     clear H
     have hnb43 := NB110_100.out
     have hnc43 := NB100_110.out
     have hcz44_0 : w6.cell? ⟨gb110, 0, none⟩ = some (.int .i64 a0_0) := (blk_cell BK110.out 0).trans rfl
     have hcz44_1 : w6.cell? ⟨gb110, 1, none⟩ = some (.slice A0_1 l0_1.length c0_1) := (blk_cell BK110.out 1).trans rfl
     have hfz44_0 := blk_frozen BK110.out 0
     have hfz44_1 := blk_frozen BK110.out 1
     go_wp2_with (first | ((with_reducible refine gate_callee (f := 47) rfl ?_); refine gl 10 Try.func47 #[.agg #[.int .i64 a0_0, .slice A0_1 l0_1.length c0_1]] ?_; (with_reducible refine (impl_NetOk.calls k a0_0 _ _ l0_1 false _ ?side1 ?side2 A7.out).mono ?_); (case side1 => exact qc (Kd.C_below HR0_1.out HB.out)); (case side2 => exact HC0_1.out); rintro e w45 ⟨rfl, hb⟩; refine ⟨_, rfl, ?_⟩; replace BK110 := q0 (kb BK110.out hb); replace BK100 := q0 (kb BK100.out hb); replace HB := q0 (below_step (qb HB.out) hb); (try clear hb); (try clear hb2); (try clear hk); (try clear hi)))
     go_meet
     case rel => exact ⟨_, (true), qs, H', ⟨by first | omega | exact Nat.le_refl _⟩, ⟨qk BK110.out⟩, ⟨qk BK100.out⟩, ⟨qb HB.out⟩⟩
   subst c8
   rw [if_pos rfl] at H
   replace H := Option.bind_eq_some_iff.mp H
   obtain ⟨t107, A90, H⟩ := H
   have A9 := Aside0.mk A90
   clear A90
   by_cases c10 : t107 = true
   rotate_left
   · replace c10 := Bool.eq_false_iff.mpr c10
     subst c10
     rw [if_neg nf] at H
     have H' := Aside0.mk H
     clear H
     have hnb38 := NB110_100.out
     have hnc38 := NB100_110.out
     have hcz39_0 : w6.cell? ⟨gb110, 0, none⟩ = some (.int .i64 a0_0) := (blk_cell BK110.out 0).trans rfl
     have hcz39_1 : w6.cell? ⟨gb110, 1, none⟩ = some (.slice A0_1 l0_1.length c0_1) := (blk_cell BK110.out 1).trans rfl
     have hfz39_0 := blk_frozen BK110.out 0
     have hfz39_1 := blk_frozen BK110.out 1
     go_wp2_with (first | ((with_reducible refine gate_callee (f := 47) rfl ?_); refine gl 10 Try.func47 #[.agg #[.int .i64 a0_0, .slice A0_1 l0_1.length c0_1]] ?_; (with_reducible refine (impl_NetOk.calls k a0_0 _ _ l0_1 true _ ?side1 ?side2 A7.out).mono ?_); (case side1 => exact qc (Kd.C_below HR0_1.out HB.out)); (case side2 => exact HC0_1.out); rintro e w40 ⟨rfl, hb⟩; refine ⟨_, rfl, ?_⟩; replace BK110 := q0 (kb BK110.out hb); replace BK100 := q0 (kb BK100.out hb); replace HB := q0 (below_step (qb HB.out) hb); (try clear hb); (try clear hb2); (try clear hk); (try clear hi); have hcz41_0 : w40.cell? ⟨gb110, 0, none⟩ = some (.int .i64 a0_0) := (blk_cell BK110.out 0).trans rfl; have hcz41_1 : w40.cell? ⟨gb110, 1, none⟩ = some (.slice A0_1 l0_1.length c0_1) := (blk_cell BK110.out 1).trans rfl; have hfz41_0 := blk_frozen BK110.out 0; have hfz41_1 := blk_frozen BK110.out 1) | (go_at_call 48; (with_reducible refine (impl_Net_knot.calls a0_0 _ _ l0_1 a1 false _ ?side1 ?side2 A9.out).mono ?_); (case side1 => exact qc (Kd.C_below HR0_1.out HB.out)); (case side2 => exact HC0_1.out); rintro e w42 ⟨rfl, hb⟩; replace BK110 := q0 (kb BK110.out hb); replace BK100 := q0 (kb BK100.out hb); replace HB := q0 (below_step (qb HB.out) hb); (try clear hb); (try clear hb2); (try clear hk); (try clear hi)))
     go_meet
     case rel => exact ⟨_, (true), qs, H', ⟨by first | omega | exact Nat.le_refl _⟩, ⟨qk BK110.out⟩, ⟨qk BK100.out⟩, ⟨qb HB.out⟩⟩
   subst c10
   rw [if_pos rfl] at H
   replace H := Option.bind_eq_some_iff.mp H
   obtain ⟨t108, A111, H⟩ := H
   have A11 := Aside0.mk A111
   clear A111
   by_cases c12 : t108 = true
   rotate_left
   · replace c12 := Bool.eq_false_iff.mpr c12
     subst c12
     rw [if_neg nf] at H
     have H' := Aside0.mk H
     clear H
     have hnb31 := NB110_100.out
     have hnc31 := NB100_110.out
     have hcz32_0 : w6.cell? ⟨gb110, 0, none⟩ = some (.int .i64 a0_0) := (blk_cell BK110.out 0).trans rfl
     have hcz32_1 : w6.cell? ⟨gb110, 1, none⟩ = some (.slice A0_1 l0_1.length c0_1) := (blk_cell BK110.out 1).trans rfl
     have hfz32_0 := blk_frozen BK110.out 0
     have hfz32_1 := blk_frozen BK110.out 1
     go_wp2_with (first | ((with_reducible refine gate_callee (f := 47) rfl ?_); refine gl 10 Try.func47 #[.agg #[.int .i64 a0_0, .slice A0_1 l0_1.length c0_1]] ?_; (with_reducible refine (impl_NetOk.calls k a0_0 _ _ l0_1 true _ ?side1 ?side2 A7.out).mono ?_); (case side1 => exact qc (Kd.C_below HR0_1.out HB.out)); (case side2 => exact HC0_1.out); rintro e w33 ⟨rfl, hb⟩; refine ⟨_, rfl, ?_⟩; replace BK110 := q0 (kb BK110.out hb); replace BK100 := q0 (kb BK100.out hb); replace HB := q0 (below_step (qb HB.out) hb); (try clear hb); (try clear hb2); (try clear hk); (try clear hi); have hcz34_0 : w33.cell? ⟨gb110, 0, none⟩ = some (.int .i64 a0_0) := (blk_cell BK110.out 0).trans rfl; have hcz34_1 : w33.cell? ⟨gb110, 1, none⟩ = some (.slice A0_1 l0_1.length c0_1) := (blk_cell BK110.out 1).trans rfl; have hfz34_0 := blk_frozen BK110.out 0; have hfz34_1 := blk_frozen BK110.out 1) | (go_at_call 48; (with_reducible refine (impl_Net_knot.calls a0_0 _ _ l0_1 a1 true _ ?side1 ?side2 A9.out).mono ?_); (case side1 => exact qc (Kd.C_below HR0_1.out HB.out)); (case side2 => exact HC0_1.out); rintro e w35 ⟨rfl, hb⟩; replace BK110 := q0 (kb BK110.out hb); replace BK100 := q0 (kb BK100.out hb); replace HB := q0 (below_step (qb HB.out) hb); (try clear hb); (try clear hb2); (try clear hk); (try clear hi); have hcz36_0 : w35.cell? ⟨gb110, 0, none⟩ = some (.int .i64 a0_0) := (blk_cell BK110.out 0).trans rfl; have hcz36_1 : w35.cell? ⟨gb110, 1, none⟩ = some (.slice A0_1 l0_1.length c0_1) := (blk_cell BK110.out 1).trans rfl; have hfz36_0 := blk_frozen BK110.out 0; have hfz36_1 := blk_frozen BK110.out 1) | (go_at_call 48; (with_reducible refine (impl_Net_knot.calls a0_0 _ _ l0_1 a2 false _ ?side1 ?side2 A11.out).mono ?_); (case side1 => exact qc (Kd.C_below HR0_1.out HB.out)); (case side2 => exact HC0_1.out); rintro e w37 ⟨rfl, hb⟩; replace BK110 := q0 (kb BK110.out hb); replace BK100 := q0 (kb BK100.out hb); replace HB := q0 (below_step (qb HB.out) hb); (try clear hb); (try clear hb2); (try clear hk); (try clear hi)))
     go_meet
     case rel => exact ⟨_, (true), qs, H', ⟨by first | omega | exact Nat.le_refl _⟩, ⟨qk BK110.out⟩, ⟨qk BK100.out⟩, ⟨qb HB.out⟩⟩
   subst c12
   rw [if_pos rfl] at H
   by_cases c13 : a1 = a2
   · rw [if_pos c13] at H
     have c13b0 : (a1 == a2) = true := beq_iff_eq.mpr c13
     have c13b1 : (a1 != a2) = false := bne_eq_false_iff_eq.mpr c13
     clear c13
     (first | rw [c13b0] | (simp only [i64_w, i32_w]; rw [c13b0]) | skip)
     have H' := Aside0.mk H
     clear H
     have hnb14 := NB110_100.out
     have hnc14 := NB100_110.out
     have hcz15_0 : w6.cell? ⟨gb110, 0, none⟩ = some (.int .i64 a0_0) := (blk_cell BK110.out 0).trans rfl
     have hcz15_1 : w6.cell? ⟨gb110, 1, none⟩ = some (.slice A0_1 l0_1.length c0_1) := (blk_cell BK110.out 1).trans rfl
     have hfz15_0 := blk_frozen BK110.out 0
     have hfz15_1 := blk_frozen BK110.out 1
     go_wp2_with (first | ((with_reducible refine gate_callee (f := 47) rfl ?_); refine gl 10 Try.func47 #[.agg #[.int .i64 a0_0, .slice A0_1 l0_1.length c0_1]] ?_; (with_reducible refine (impl_NetOk.calls k a0_0 _ _ l0_1 true _ ?side1 ?side2 A7.out).mono ?_); (case side1 => exact qc (Kd.C_below HR0_1.out HB.out)); (case side2 => exact HC0_1.out); rintro e w16 ⟨rfl, hb⟩; refine ⟨_, rfl, ?_⟩; replace BK110 := q0 (kb BK110.out hb); replace BK100 := q0 (kb BK100.out hb); replace HB := q0 (below_step (qb HB.out) hb); (try clear hb); (try clear hb2); (try clear hk); (try clear hi); have hcz17_0 : w16.cell? ⟨gb110, 0, none⟩ = some (.int .i64 a0_0) := (blk_cell BK110.out 0).trans rfl; have hcz17_1 : w16.cell? ⟨gb110, 1, none⟩ = some (.slice A0_1 l0_1.length c0_1) := (blk_cell BK110.out 1).trans rfl; have hfz17_0 := blk_frozen BK110.out 0; have hfz17_1 := blk_frozen BK110.out 1) | (go_at_call 48; (with_reducible refine (impl_Net_knot.calls a0_0 _ _ l0_1 a1 true _ ?side1 ?side2 A9.out).mono ?_); (case side1 => exact qc (Kd.C_below HR0_1.out HB.out)); (case side2 => exact HC0_1.out); rintro e w18 ⟨rfl, hb⟩; replace BK110 := q0 (kb BK110.out hb); replace BK100 := q0 (kb BK100.out hb); replace HB := q0 (below_step (qb HB.out) hb); (try clear hb); (try clear hb2); (try clear hk); (try clear hi); have hcz19_0 : w18.cell? ⟨gb110, 0, none⟩ = some (.int .i64 a0_0) := (blk_cell BK110.out 0).trans rfl; have hcz19_1 : w18.cell? ⟨gb110, 1, none⟩ = some (.slice A0_1 l0_1.length c0_1) := (blk_cell BK110.out 1).trans rfl; have hfz19_0 := blk_frozen BK110.out 0; have hfz19_1 := blk_frozen BK110.out 1) | (go_at_call 48; (with_reducible refine (impl_Net_knot.calls a0_0 _ _ l0_1 a2 true _ ?side1 ?side2 A11.out).mono ?_); (case side1 => exact qc (Kd.C_below HR0_1.out HB.out)); (case side2 => exact HC0_1.out); rintro e w20 ⟨rfl, hb⟩; replace BK110 := q0 (kb BK110.out hb); replace BK100 := q0 (kb BK100.out hb); replace HB := q0 (below_step (qb HB.out) hb); (try clear hb); (try clear hb2); (try clear hk); (try clear hi)))
     go_meet
     case rel => exact ⟨_, (true), qs, H', ⟨by first | omega | exact Nat.le_refl _⟩, ⟨qk BK110.out⟩, ⟨qk BK100.out⟩, ⟨qb HB.out⟩⟩
   rw [if_neg c13] at H
   have c13b0 : (a1 == a2) = false := beq_eq_false_iff_ne.mpr c13
   have c13b1 : (a1 != a2) = true := bne_iff_ne.mpr c13
   (first | rw [c13b0] | (simp only [i64_w, i32_w]; rw [c13b0]) | skip)
   replace H := Option.bind_eq_some_iff.mp H
   obtain ⟨t109, A112, H⟩ := H
   have A21 := Aside0.mk A112
   clear A112
   have H' := Aside0.mk H
   clear H
   have hnb22 := NB110_100.out
   have hnc22 := NB100_110.out
   have hcz23_0 : w6.cell? ⟨gb110, 0, none⟩ = some (.int .i64 a0_0) := (blk_cell BK110.out 0).trans rfl
   have hcz23_1 : w6.cell? ⟨gb110, 1, none⟩ = some (.slice A0_1 l0_1.length c0_1) := (blk_cell BK110.out 1).trans rfl
   have hfz23_0 := blk_frozen BK110.out 0
   have hfz23_1 := blk_frozen BK110.out 1
   go_wp2_with (first | ((with_reducible refine gate_callee (f := 47) rfl ?_); refine gl 10 Try.func47 #[.agg #[.int .i64 a0_0, .slice A0_1 l0_1.length c0_1]] ?_; (with_reducible refine (impl_NetOk.calls k a0_0 _ _ l0_1 true _ ?side1 ?side2 A7.out).mono ?_); (case side1 => exact qc (Kd.C_below HR0_1.out HB.out)); (case side2 => exact HC0_1.out); rintro e w24 ⟨rfl, hb⟩; refine ⟨_, rfl, ?_⟩; replace BK110 := q0 (kb BK110.out hb); replace BK100 := q0 (kb BK100.out hb); replace HB := q0 (below_step (qb HB.out) hb); (try clear hb); (try clear hb2); (try clear hk); (try clear hi); have hcz25_0 : w24.cell? ⟨gb110, 0, none⟩ = some (.int .i64 a0_0) := (blk_cell BK110.out 0).trans rfl; have hcz25_1 : w24.cell? ⟨gb110, 1, none⟩ = some (.slice A0_1 l0_1.length c0_1) := (blk_cell BK110.out 1).trans rfl; have hfz25_0 := blk_frozen BK110.out 0; have hfz25_1 := blk_frozen BK110.out 1) | (go_at_call 48; (with_reducible refine (impl_Net_knot.calls a0_0 _ _ l0_1 a1 true _ ?side1 ?side2 A9.out).mono ?_); (case side1 => exact qc (Kd.C_below HR0_1.out HB.out)); (case side2 => exact HC0_1.out); rintro e w26 ⟨rfl, hb⟩; replace BK110 := q0 (kb BK110.out hb); replace BK100 := q0 (kb BK100.out hb); replace HB := q0 (below_step (qb HB.out) hb); (try clear hb); (try clear hb2); (try clear hk); (try clear hi); have hcz27_0 : w26.cell? ⟨gb110, 0, none⟩ = some (.int .i64 a0_0) := (blk_cell BK110.out 0).trans rfl; have hcz27_1 : w26.cell? ⟨gb110, 1, none⟩ = some (.slice A0_1 l0_1.length c0_1) := (blk_cell BK110.out 1).trans rfl; have hfz27_0 := blk_frozen BK110.out 0; have hfz27_1 := blk_frozen BK110.out 1) | (go_at_call 48; (with_reducible refine (impl_Net_knot.calls a0_0 _ _ l0_1 a2 true _ ?side1 ?side2 A11.out).mono ?_); (case side1 => exact qc (Kd.C_below HR0_1.out HB.out)); (case side2 => exact HC0_1.out); rintro e w28 ⟨rfl, hb⟩; replace BK110 := q0 (kb BK110.out hb); replace BK100 := q0 (kb BK100.out hb); replace HB := q0 (below_step (qb HB.out) hb); (try clear hb); (try clear hb2); (try clear hk); (try clear hi); have hcz29_0 : w28.cell? ⟨gb110, 0, none⟩ = some (.int .i64 a0_0) := (blk_cell BK110.out 0).trans rfl; have hcz29_1 : w28.cell? ⟨gb110, 1, none⟩ = some (.slice A0_1 l0_1.length c0_1) := (blk_cell BK110.out 1).trans rfl; have hfz29_0 := blk_frozen BK110.out 0; have hfz29_1 := blk_frozen BK110.out 1) | (go_at_call 52; (with_reducible refine (impl_Net_has.calls k a0_0 _ _ l0_1 a1 a2 t109 _ ?side1 ?side2 A21.out).mono ?_); (case side1 => exact qc (Kd.C_below HR0_1.out HB.out)); (case side2 => exact HC0_1.out); rintro e w30 ⟨rfl, hb⟩; replace BK110 := q0 (kb BK110.out hb); replace BK100 := q0 (kb BK100.out hb); replace HB := q0 (below_step (qb HB.out) hb); (try clear hb); (try clear hb2); (try clear hk); (try clear hi)))
   go_meet
   case rel => exact ⟨_, (t109), qs, H', ⟨by first | omega | exact Nat.le_refl _⟩, ⟨qk BK110.out⟩, ⟨qk BK100.out⟩, ⟨qb HB.out⟩⟩
 clear HC4
 try clear c1
 try clear c2
 try clear p2
 try clear c3
 try clear c4
 try clear c8
 try clear c10
 try clear c12
 try clear c13
 try clear c13b0
 try clear c13b1
 try clear c14
 try clear c22
 try clear c31
 try clear c37
 try clear c38
 try clear c43
 try clear hcz15_0
 try clear hcz15_1
 try clear hcz17_0
 try clear hcz17_1
 try clear hcz19_0
 try clear hcz19_1
 try clear hcz23_0
 try clear hcz23_1
 try clear hcz25_0
 try clear hcz25_1
 try clear hcz27_0
 try clear hcz27_1
 try clear hcz29_0
 try clear hcz29_1
 try clear hcz32_0
 try clear hcz32_1
 try clear hcz34_0
 try clear hcz34_1
 try clear hcz36_0
 try clear hcz36_1
 try clear hcz39_0
 try clear hcz39_1
 try clear hcz41_0
 try clear hcz41_1
 try clear hcz44_0
 try clear hcz44_1
 try clear hfz15_0
 try clear hfz15_1
 try clear hfz17_0
 try clear hfz17_1
 try clear hfz19_0
 try clear hfz19_1
 try clear hfz23_0
 try clear hfz23_1
 try clear hfz25_0
 try clear hfz25_1
 try clear hfz27_0
 try clear hfz27_1
 try clear hfz29_0
 try clear hfz29_1
 try clear hfz32_0
 try clear hfz32_1
 try clear hfz34_0
 try clear hfz34_1
 try clear hfz36_0
 try clear hfz36_1
 try clear hfz39_0
 try clear hfz39_1
 try clear hfz41_0
 try clear hfz41_1
 try clear hfz44_0
 try clear hfz44_1
 obtain ⟨kq, x34_3, rfl, HA, HJ3, BK110, BK100, HB⟩ := hcut
 rcases kq with _ | kj3
 · exact absurd HA.out (by simp [impl_NetAdd.j0])
 have H := HA.out
 clear HA
 simp only [impl_NetAdd.j0] at H
 by_cases c46 : x34_3 = true
 · subst c46
   rw [if_pos rfl] at H
   simp only [Option.some.injEq, Prod.mk.injEq] at H
   obtain ⟨rfl, rfl, rfl⟩ := H
   have hnb47 := NB100_110.out
   have hnc47 := NB110_100.out
   have hcz48_0 : wc.cell? ⟨gb100, 0, none⟩ = some (.int .i64 0) := (blk_cell BK100.out 0).trans rfl
   have hcz48_1 : wc.cell? ⟨gb100, 1, none⟩ = some (.slice none 0 0) := (blk_cell BK100.out 1).trans rfl
   have hfz48_0 := blk_frozen BK100.out 0
   have hfz48_1 := blk_frozen BK100.out 1
   go_wp2
   refine bodyPost_ret (results_ct rfl _ _ gb100 31 #[.int .i64 0, .slice none 0 0] (0, 0) _ rfl (by (with_reducible repeat (first | refine blk_drewN ?_ _ | refine blk_drew ?_ | refine blk_alloc ?_ _)); refine blk_put (cs := #[.int .i64 0, .slice none 0 0]) ?_ 1 _ rfl; (with_reducible repeat (first | refine blk_drewN ?_ _ | refine blk_drew ?_ | refine blk_alloc ?_ _)); refine blk_put (cs := #[.int .i64 0, .slice none 0 0]) ?_ 0 _ rfl; (with_reducible repeat (first | refine blk_drewN ?_ _ | refine blk_drew ?_ | refine blk_alloc ?_ _)); exact BK100.out) Try.underlying31 rfl (by kernel_rfl)) rfl ?_
   exact ⟨_, qe, by first | exact Kd.R_nil _ _ _ _ _ | exact Kd.N_nil _ _ _ _ _ | exact Kd.V_nil _ _ _ _ _ | exact Kd.Q_nil _ _ _ _ _ | exact Kd.S_nil _ _ _ _ _, qb HB.out⟩
 replace c46 := Bool.eq_false_iff.mpr c46
 subst c46
 rw [if_neg nf] at H
 obtain ⟨y101, hy101⟩ : ∃ y_ : List (STie), y_ = (([] : List (STie))) := ⟨_, rfl⟩
 replace H : (if y101.length + l0_1.length < 8796093022208 then ((some (y101 ++ l0_1 : List (STie))).bind fun y102 => ((impl_tie.f a1 a2).bind fun bt103 => ((some (([(⟨bt103.1, bt103.2⟩ : STie)] : List (STie)) : List (STie))).bind fun y104 => (if y102.length + y104.length < 8796093022208 then ((slices_SortFunc_Tie.f kj3 (y102 ++ y104)).bind fun t105 => (some (a0_0, t105, true))) else (none))))) else (none)) = some (r1, r2, r3) := qy H hy101
 have Ny101 := Aside0.mk hy101
 clear hy101
 by_cases c49 : y101.length + l0_1.length < 8796093022208
 rotate_left
 · rw [if_neg c49] at H
   exact absurd H (by simp)
 rw [if_pos c49] at H
 have LMc49 := Aside0.mk c49
 clear c49
 obtain ⟨y102, hy102⟩ : ∃ y_ : List (STie), y_ = (y101 ++ l0_1) := ⟨_, rfl⟩
 replace H : ((impl_tie.f a1 a2).bind fun bt103 => ((some (([(⟨bt103.1, bt103.2⟩ : STie)] : List (STie)) : List (STie))).bind fun y104 => (if y102.length + y104.length < 8796093022208 then ((slices_SortFunc_Tie.f kj3 (y102 ++ y104)).bind fun t105 => (some (a0_0, t105, true))) else (none)))) = some (r1, r2, r3) := qy H hy102
 have Ny102 := Aside0.mk hy102
 clear hy102
 replace H := Option.bind_eq_some_iff.mp H
 obtain ⟨⟨t103, t113⟩, A114, H⟩ := H
 have A50 := Aside0.mk A114
 clear A114
 obtain ⟨y104, hy104⟩ : ∃ y_ : List (STie), y_ = (([(⟨t103, t113⟩ : STie)] : List (STie))) := ⟨_, rfl⟩
 replace H : (if y102.length + y104.length < 8796093022208 then ((slices_SortFunc_Tie.f kj3 (y102 ++ y104)).bind fun t105 => (some (a0_0, t105, true))) else (none)) = some (r1, r2, r3) := qy H hy104
 have Ny104 := Aside0.mk hy104
 clear hy104
 by_cases c51 : y102.length + y104.length < 8796093022208
 rotate_left
 · rw [if_neg c51] at H
   exact absurd H (by simp)
 rw [if_pos c51] at H
 have LMc51 := Aside0.mk c51
 clear c51
 obtain ⟨y115, hy115⟩ : ∃ y_ : List (STie), y_ = (y102 ++ y104) := ⟨_, rfl⟩
 replace H : ((slices_SortFunc_Tie.f kj3 y115).bind fun t105 => (some (a0_0, t105, true))) = some (r1, r2, r3) := qy H hy115
 have Ny115 := Aside0.mk hy115
 clear hy115
 replace H := Option.bind_eq_some_iff.mp H
 obtain ⟨t105, A116, H⟩ := H
 have A52 := Aside0.mk A116
 clear A116
 simp only [Option.some.injEq, Prod.mk.injEq] at H
 obtain ⟨rfl, rfl, rfl⟩ := H
 try go_wp2
 replace BK110 := q0 (blk_drew BK110.out)
 replace BK100 := q0 (blk_drew BK100.out)
 replace HB := q0 (below_drew1 HB.out)
 refine start_ (n := 14) (S := fun w' => w'.cell? ⟨gb110, 0, none⟩ = some (.int .i64 a0_0) ∧ w'.cell? ⟨gb110, 1, none⟩ = some (.slice A0_1 l0_1.length c0_1)) (ds := []) (ba 14 0) (by kernel_rfl) rfl (by kernel_rfl) ⟨(blk_cell BK110.out 0).trans rfl, (blk_cell BK110.out 1).trans rfl⟩ (fun hHeld => ?_); refine with_tabW impl_NetAdd.tab3 impl_NetAdd.bits3 (fun HT_ HW_ => ?_)
 generalize wc.drew = w53 at BK110 BK100 HB hHeld ⊢
 refine pu 0 (some 36) (ba 14 1) HT_.out ?_
 refine pu 3 (some 39) (ba 14 9) HT_.out ?_
 refine pu 6 (some 42) (ba 14 73) HT_.out ?_
 refine pu 7 (some 43) (ba 14 201) HT_.out ?_
 refine tu 1 (some 37) (ba 14 203) HT_.out HW_.out hHeld ?_
 refine tu 4 (some 40) (ba 14 219) HT_.out HW_.out hHeld ?_
 refine join_ (σ := Value × Value × Value × Value × Nat) 1 (ba 14 8191) (fun s_ => [(38, s_.1), (41, s_.2.1), (44, .agg #[.int .i64 t103, .int .i64 t113]), (45, s_.2.2.1), (46, s_.2.2.2.1), (8, .pointer (some ⟨s_.2.2.2.2, 0, none⟩)), (47, .agg #[.int .i64 a0_0, s_.2.2.2.1])]) (fun s_ w' => (w'.cell? ⟨gb110, 0, none⟩ = some (.int .i64 a0_0) ∧ w'.cell? ⟨gb110, 1, none⟩ = some (.slice A0_1 l0_1.length c0_1)) ∧ (Kd.R kTie 74 w' w.heap.size (fun k_ => some k_ ≠ (s_.2.2.2.1 : Value).ownBlock) s_.2.2.1 y104) ∧ (Kd.R kTie 74 w' w.heap.size (fun k_ => some k_ ≠ (s_.2.2.1 : Value).ownBlock) s_.2.2.2.1 y115) ∧ (w'.heap[gb110]? = some (.cells #[.int .i64 a0_0, .slice A0_1 l0_1.length c0_1] 31 (0, 0))) ∧ (w'.heap[gb100]? = some (.cells #[.int .i64 0, .slice none 0 0] 31 (0, 0))) ∧ (w'.heap[s_.2.2.2.2]? = some (.cells #[.int .i64 0, .slice none 0 0] 31 (0, 0))) ∧ (w.heap.size ≤ s_.2.2.2.2) ∧ (w.heap.size ≤ s_.2.2.2.2) ∧ (gb110 ≠ s_.2.2.2.2) ∧ (s_.2.2.2.2 ≠ gb110) ∧ (gb100 ≠ s_.2.2.2.2) ∧ (s_.2.2.2.2 ≠ gb100) ∧ (Below w.heap.size w w')) ?_ ?_
 rotate_left
 · intro hJ2_5_8_9_10_12
   refine join_ (σ := Value × Value × Value × Value) 2 (ba 14 4095) (fun s_ => [(38, s_.1), (41, s_.2.1), (44, .agg #[.int .i64 t103, .int .i64 t113]), (45, s_.2.2.1), (46, s_.2.2.2), (47, .agg #[.int .i64 a0_0, s_.2.2.2])]) (fun s_ w' => (w'.cell? ⟨gb110, 0, none⟩ = some (.int .i64 a0_0) ∧ w'.cell? ⟨gb110, 1, none⟩ = some (.slice A0_1 l0_1.length c0_1)) ∧ (Kd.R kTie 74 w' w.heap.size (fun k_ => some k_ ≠ (s_.2.2.2 : Value).ownBlock) s_.2.2.1 y104) ∧ (Kd.R kTie 74 w' w.heap.size (fun k_ => some k_ ≠ (s_.2.2.1 : Value).ownBlock) s_.2.2.2 y115) ∧ (w'.heap[gb110]? = some (.cells #[.int .i64 a0_0, .slice A0_1 l0_1.length c0_1] 31 (0, 0))) ∧ (w'.heap[gb100]? = some (.cells #[.int .i64 0, .slice none 0 0] 31 (0, 0))) ∧ (Below w.heap.size w w')) ?_ ?_
   rotate_left
   · intro hJ2_5_8_9_10
     refine join_ (σ := Value × Value × Value × Nat) 3 (ba 14 5119) (fun s_ => [(38, s_.1), (41, s_.2.1), (44, .agg #[.int .i64 t103, .int .i64 t113]), (45, s_.2.2.1), (8, .pointer (some ⟨s_.2.2.2, 0, none⟩))]) (fun s_ w' => (w'.cell? ⟨gb110, 0, none⟩ = some (.int .i64 a0_0) ∧ w'.cell? ⟨gb110, 1, none⟩ = some (.slice A0_1 l0_1.length c0_1)) ∧ (Kd.R kTie 74 w' w.heap.size (fun k_ => some k_ ≠ (s_.2.2.1 : Value).ownBlock) s_.2.1 y102) ∧ (Kd.R kTie 74 w' w.heap.size (fun k_ => some k_ ≠ (s_.2.1 : Value).ownBlock) s_.2.2.1 y104) ∧ (w'.heap[gb110]? = some (.cells #[.int .i64 a0_0, .slice A0_1 l0_1.length c0_1] 31 (0, 0))) ∧ (w'.heap[gb100]? = some (.cells #[.int .i64 0, .slice none 0 0] 31 (0, 0))) ∧ (w'.heap[s_.2.2.2]? = some (.cells #[.int .i64 0, .slice none 0 0] 31 (0, 0))) ∧ (w.heap.size ≤ s_.2.2.2) ∧ (w.heap.size ≤ s_.2.2.2) ∧ (gb110 ≠ s_.2.2.2) ∧ (s_.2.2.2 ≠ gb110) ∧ (gb100 ≠ s_.2.2.2) ∧ (s_.2.2.2 ≠ gb100) ∧ (Below w.heap.size w w')) ?_ ?_
     rotate_left
     · intro hJ2_5_8_9_12
       refine join_ (σ := Value × Value × Value) 4 (ba 14 1023) (fun s_ => [(38, s_.1), (41, s_.2.1), (44, .agg #[.int .i64 t103, .int .i64 t113]), (45, s_.2.2)]) (fun s_ w' => (w'.cell? ⟨gb110, 0, none⟩ = some (.int .i64 a0_0) ∧ w'.cell? ⟨gb110, 1, none⟩ = some (.slice A0_1 l0_1.length c0_1)) ∧ (Kd.R kTie 74 w' w.heap.size (fun k_ => some k_ ≠ (s_.2.2 : Value).ownBlock) s_.2.1 y102) ∧ (Kd.R kTie 74 w' w.heap.size (fun k_ => some k_ ≠ (s_.2.1 : Value).ownBlock) s_.2.2 y104) ∧ (w'.heap[gb110]? = some (.cells #[.int .i64 a0_0, .slice A0_1 l0_1.length c0_1] 31 (0, 0))) ∧ (w'.heap[gb100]? = some (.cells #[.int .i64 0, .slice none 0 0] 31 (0, 0))) ∧ (Below w.heap.size w w')) ?_ ?_
       rotate_left
       · intro hJ2_5_8_9
         refine join_ (σ := Value × Value × Nat) 4 (ba 14 4607) (fun s_ => [(38, s_.1), (41, s_.2.1), (44, .agg #[.int .i64 t103, .int .i64 t113]), (8, .pointer (some ⟨s_.2.2, 0, none⟩))]) (fun s_ w' => (w'.cell? ⟨gb110, 0, none⟩ = some (.int .i64 a0_0) ∧ w'.cell? ⟨gb110, 1, none⟩ = some (.slice A0_1 l0_1.length c0_1)) ∧ (Kd.R kTie 74 w' w.heap.size (fun _ => True) s_.2.1 y102) ∧ (w'.heap[gb110]? = some (.cells #[.int .i64 a0_0, .slice A0_1 l0_1.length c0_1] 31 (0, 0))) ∧ (w'.heap[gb100]? = some (.cells #[.int .i64 0, .slice none 0 0] 31 (0, 0))) ∧ (w'.heap[s_.2.2]? = some (.cells #[.int .i64 0, .slice none 0 0] 31 (0, 0))) ∧ (w.heap.size ≤ s_.2.2) ∧ (w.heap.size ≤ s_.2.2) ∧ (gb110 ≠ s_.2.2) ∧ (s_.2.2 ≠ gb110) ∧ (gb100 ≠ s_.2.2) ∧ (s_.2.2 ≠ gb100) ∧ (Below w.heap.size w w')) ?_ ?_
         rotate_left
         · intro hJ2_5_8_12
           refine join_ (σ := Value × Value) 5 (ba 14 511) (fun s_ => [(38, s_.1), (41, s_.2), (44, .agg #[.int .i64 t103, .int .i64 t113])]) (fun s_ w' => (w'.cell? ⟨gb110, 0, none⟩ = some (.int .i64 a0_0) ∧ w'.cell? ⟨gb110, 1, none⟩ = some (.slice A0_1 l0_1.length c0_1)) ∧ (Kd.R kTie 74 w' w.heap.size (fun _ => True) s_.2 y102) ∧ (w'.heap[gb110]? = some (.cells #[.int .i64 a0_0, .slice A0_1 l0_1.length c0_1] 31 (0, 0))) ∧ (w'.heap[gb100]? = some (.cells #[.int .i64 0, .slice none 0 0] 31 (0, 0))) ∧ (Below w.heap.size w w')) ?_ ?_
           rotate_left
           · intro hJ2_5_8
             refine join_ (σ := Value × Value × Nat) 5 (ba 14 4351) (fun s_ => [(38, s_.1), (41, s_.2.1), (8, .pointer (some ⟨s_.2.2, 0, none⟩))]) (fun s_ w' => (w'.cell? ⟨gb110, 0, none⟩ = some (.int .i64 a0_0) ∧ w'.cell? ⟨gb110, 1, none⟩ = some (.slice A0_1 l0_1.length c0_1)) ∧ (Kd.R kTie 74 w' w.heap.size (fun _ => True) s_.2.1 y102) ∧ (w'.heap[gb110]? = some (.cells #[.int .i64 a0_0, .slice A0_1 l0_1.length c0_1] 31 (0, 0))) ∧ (w'.heap[gb100]? = some (.cells #[.int .i64 0, .slice none 0 0] 31 (0, 0))) ∧ (w'.heap[s_.2.2]? = some (.cells #[.int .i64 0, .slice none 0 0] 31 (0, 0))) ∧ (w.heap.size ≤ s_.2.2) ∧ (w.heap.size ≤ s_.2.2) ∧ (gb110 ≠ s_.2.2) ∧ (s_.2.2 ≠ gb110) ∧ (gb100 ≠ s_.2.2) ∧ (s_.2.2 ≠ gb100) ∧ (Below w.heap.size w w')) ?_ ?_
             rotate_left
             · intro hJ2_5_12
               refine join_ (σ := Value × Value) 6 (ba 14 255) (fun s_ => [(38, s_.1), (41, s_.2)]) (fun s_ w' => (w'.cell? ⟨gb110, 0, none⟩ = some (.int .i64 a0_0) ∧ w'.cell? ⟨gb110, 1, none⟩ = some (.slice A0_1 l0_1.length c0_1)) ∧ (Kd.R kTie 74 w' w.heap.size (fun _ => True) s_.2 y102) ∧ (w'.heap[gb110]? = some (.cells #[.int .i64 a0_0, .slice A0_1 l0_1.length c0_1] 31 (0, 0))) ∧ (w'.heap[gb100]? = some (.cells #[.int .i64 0, .slice none 0 0] 31 (0, 0))) ∧ (Below w.heap.size w w')) ?_ ?_
               rotate_left
               · intro hJ2_5
                 refine join_ (σ := Value × Nat) 6 (ba 14 4319) (fun s_ => [(38, s_.1), (8, .pointer (some ⟨s_.2, 0, none⟩))]) (fun s_ w' => (w'.cell? ⟨gb110, 0, none⟩ = some (.int .i64 a0_0) ∧ w'.cell? ⟨gb110, 1, none⟩ = some (.slice A0_1 l0_1.length c0_1)) ∧ (Kd.R kTie 74 w' w.heap.size (fun _ => True) s_.1 y101) ∧ (w'.heap[gb110]? = some (.cells #[.int .i64 a0_0, .slice A0_1 l0_1.length c0_1] 31 (0, 0))) ∧ (w'.heap[gb100]? = some (.cells #[.int .i64 0, .slice none 0 0] 31 (0, 0))) ∧ (w'.heap[s_.2]? = some (.cells #[.int .i64 0, .slice none 0 0] 31 (0, 0))) ∧ (w.heap.size ≤ s_.2) ∧ (w.heap.size ≤ s_.2) ∧ (gb110 ≠ s_.2) ∧ (s_.2 ≠ gb110) ∧ (gb100 ≠ s_.2) ∧ (s_.2 ≠ gb100) ∧ (Below w.heap.size w w')) ?_ ?_
                 rotate_left
                 · intro hJ2_12
                   refine join_ (σ := Value) 7 (ba 14 223) (fun s_ => [(38, s_)]) (fun s_ w' => (w'.cell? ⟨gb110, 0, none⟩ = some (.int .i64 a0_0) ∧ w'.cell? ⟨gb110, 1, none⟩ = some (.slice A0_1 l0_1.length c0_1)) ∧ (Kd.R kTie 74 w' w.heap.size (fun _ => True) s_ y101) ∧ (w'.heap[gb110]? = some (.cells #[.int .i64 a0_0, .slice A0_1 l0_1.length c0_1] 31 (0, 0))) ∧ (w'.heap[gb100]? = some (.cells #[.int .i64 0, .slice none 0 0] 31 (0, 0))) ∧ (Below w.heap.size w w')) ?_ ?_
                   rotate_left
                   · intro hJ2
                     refine join_ (σ := Nat) 7 (ba 14 4315) (fun s_ => [(8, .pointer (some ⟨s_, 0, none⟩))]) (fun s_ w' => (w'.cell? ⟨gb110, 0, none⟩ = some (.int .i64 a0_0) ∧ w'.cell? ⟨gb110, 1, none⟩ = some (.slice A0_1 l0_1.length c0_1)) ∧ (w'.heap[gb110]? = some (.cells #[.int .i64 a0_0, .slice A0_1 l0_1.length c0_1] 31 (0, 0))) ∧ (w'.heap[gb100]? = some (.cells #[.int .i64 0, .slice none 0 0] 31 (0, 0))) ∧ (w'.heap[s_]? = some (.cells #[.int .i64 0, .slice none 0 0] 31 (0, 0))) ∧ (w.heap.size ≤ s_) ∧ (w.heap.size ≤ s_) ∧ (gb110 ≠ s_) ∧ (s_ ≠ gb110) ∧ (gb100 ≠ s_) ∧ (s_ ≠ gb100) ∧ (Below w.heap.size w w')) ?_ ?_
                     rotate_left
                     · intro hJ12
                       refine two_ (i := 2) (j := 12) (Ni := some 38) (Nj := some 8) (ba 14 223) (ba 14 4315) rfl rfl rfl rfl (two_of HT_.out (by kernel_rfl)) (by decide) (by decide) (fun K hK => ?_) (fun K hK => ?_)
                       · skip
                         refine Kd.R_lit_step kTie _ 74 ?hg (N := 38) ?hd (xs := ([] : List (STie))) (inner := []) (ok := fun _ => True) (okp := fun _ => True) ?hr ?hp (fun _ hk => hk) trivial (Below.refl _ _) (Nat.le_refl _) (by simp) ?_; (case hd => rfl); (case hg => rfl); (case hr => first | (go_simp; done) | (go_simp; rfl)); (case hp => exact (Reps.none _ _))
                         intro v117 w54 ho55 hb hg_ hnew_
                         clear hg_ hnew_
                         (first | rw [← Ny101.out] at ho55 | (simp only [Int.reduceToNat] at ho55; rw [← Ny101.out] at ho55))
                         have HO118 := q0 (Kd.R_lower ho55 (below_size (qb HB.out)))
                         replace BK110 := q0 (kb BK110.out hb)
                         replace BK100 := q0 (kb BK100.out hb)
                         replace HB := q0 (below_step (qb HB.out) hb)
                         clear hb ho55
                         refine hK.out _ _ ⟨(blk_cell BK110.out 0).trans rfl, (blk_cell BK110.out 1).trans rfl⟩ (fun hHeld => ?_)
                         clear hK K
                         refine nu 38 ?_
                         exact norm_ (by first | (simp only [putAll, Act.put, List.setIfInBounds_toArray, List.set_cons_zero, List.set_cons_succ]; done) | (simp only [putAll, Act.put, List.setIfInBounds_toArray, List.set_cons_zero, List.set_cons_succ]; rfl)) (hJ2 (v117) _ ⟨hHeld, (qr HO118.out), (qk BK110.out), (qk BK100.out), (qb HB.out)⟩)
                       · skip
                         refine box_step ?hg (N := 8) ?hd (cs := #[.int .i64 0, .slice none 0 0]) (t := 31) ?hr ?_; (case hd => rfl); (case hg => rfl); (case hr => first | (go_simp; done) | (go_simp; rfl))
                         intro gb119 hg w54 hbox hb
                         have BK119 := q0 (hbox)
                         have GW119 := q0 ((bs HB.out hg : w.heap.size ≤ gb119))
                         have GE119 := q0 ((bs HB.out hg : w.heap.size ≤ gb119))
                         replace HB := q0 (below_step (qb HB.out) hb)
                         have NB110_119 := q0 ((bl BK110.out hg : gb110 ≠ gb119))
                         have NB119_110 := q0 ((bg BK110.out hg : gb119 ≠ gb110))
                         replace BK110 := q0 (kb BK110.out hb)
                         have NB100_119 := q0 ((bl BK100.out hg : gb100 ≠ gb119))
                         have NB119_100 := q0 ((bg BK100.out hg : gb119 ≠ gb100))
                         replace BK100 := q0 (kb BK100.out hb)
                         clear hb hbox hg
                         refine hK.out _ _ ⟨(blk_cell BK110.out 0).trans rfl, (blk_cell BK110.out 1).trans rfl⟩ (fun hHeld => ?_)
                         clear hK K
                         refine nu 8 ?_
                         exact norm_ (by first | (simp only [putAll, Act.put, List.setIfInBounds_toArray, List.set_cons_zero, List.set_cons_succ]; done) | (simp only [putAll, Act.put, List.setIfInBounds_toArray, List.set_cons_zero, List.set_cons_succ]; rfl)) (hJ12 (gb119) _ ⟨hHeld, (qk BK110.out), (qk BK100.out), (qk BK119.out), GW119.out, GE119.out, NB110_119.out, NB119_110.out, NB100_119.out, NB119_100.out, (qb HB.out)⟩)
                     · skip
                       rintro gb119 w55 ⟨hS_, h0_, h1_, h2_, h3_, h4_, h5_, h6_, h7_, h8_, h9_⟩
                       have n0_ : Aside0 (w55.heap[gb110]? = some (.cells #[.int .i64 a0_0, .slice A0_1 l0_1.length c0_1] 31 (0, 0))) := ⟨h0_⟩
                       have n1_ : Aside0 (w55.heap[gb100]? = some (.cells #[.int .i64 0, .slice none 0 0] 31 (0, 0))) := ⟨h1_⟩
                       have n2_ : Aside0 (w55.heap[gb119]? = some (.cells #[.int .i64 0, .slice none 0 0] 31 (0, 0))) := ⟨h2_⟩
                       have n3_ : Aside0 (w.heap.size ≤ gb119) := ⟨h3_⟩
                       have n4_ : Aside0 (w.heap.size ≤ gb119) := ⟨h4_⟩
                       have n5_ : Aside0 (gb110 ≠ gb119) := ⟨h5_⟩
                       have n6_ : Aside0 (gb119 ≠ gb110) := ⟨h6_⟩
                       have n7_ : Aside0 (gb100 ≠ gb119) := ⟨h7_⟩
                       have n8_ : Aside0 (gb119 ≠ gb100) := ⟨h8_⟩
                       have n9_ : Aside0 (Below w.heap.size w w55) := ⟨h9_⟩
                       clear BK110
                       clear BK100
                       clear HB
                       clear h0_ h1_ h2_ h3_ h4_ h5_ h6_ h7_ h8_ h9_
                       have BK110 := n0_
                       have BK100 := n1_
                       have BK119 := n2_
                       have GW119 := n3_
                       have GE119 := n4_
                       have NB110_119 := n5_
                       have NB119_110 := n6_
                       have NB100_119 := n7_
                       have NB119_100 := n8_
                       have HB := n9_
                       clear n0_ n1_ n2_ n3_ n4_ n5_ n6_ n7_ n8_ n9_
                       have hHeld : w55.cell? ⟨gb110, 0, none⟩ = some (.int .i64 a0_0) ∧ w55.cell? ⟨gb110, 1, none⟩ = some (.slice A0_1 l0_1.length c0_1) := hS_
                       refine norm_ (a' := ?_) ?_ ?_
                       rotate_left
                       · simp only [putAll, Act.put, List.setIfInBounds_toArray, List.set_cons_zero, List.set_cons_succ]
                         rfl
                       refine one_ (i := 2) (N := some 38) (ba 14 4319) rfl rfl (one_of HT_.out (by kernel_rfl)) (by decide) (fun K hK => ?_)
                       refine Kd.R_lit_step kTie _ 74 ?hg (N := 38) ?hd (xs := ([] : List (STie))) (inner := []) (ok := fun _ => True) (okp := fun _ => True) ?hr ?hp (fun _ hk => hk) trivial (Below.refl _ _) (Nat.le_refl _) (by simp) ?_; (case hd => rfl); (case hg => rfl); (case hr => first | (go_simp; done) | (go_simp; rfl)); (case hp => exact (Reps.none _ _))
                       intro v117 w56 ho57 hb hg_ hnew_
                       clear hg_ hnew_
                       (first | rw [← Ny101.out] at ho57 | (simp only [Int.reduceToNat] at ho57; rw [← Ny101.out] at ho57))
                       have HO118 := q0 (Kd.R_lower ho57 (below_size (qb HB.out)))
                       replace BK110 := q0 (kb BK110.out hb)
                       replace BK100 := q0 (kb BK100.out hb)
                       replace BK119 := q0 (kb BK119.out hb)
                       replace HB := q0 (below_step (qb HB.out) hb)
                       clear hb ho57
                       refine hK.out _ _ ⟨(blk_cell BK110.out 0).trans rfl, (blk_cell BK110.out 1).trans rfl⟩ (fun hHeld => ?_)
                       clear hK K
                       refine nu 38 ?_
                       exact norm_ (by first | (simp only [putAll, Act.put, List.setIfInBounds_toArray, List.set_cons_zero, List.set_cons_succ]; done) | (simp only [putAll, Act.put, List.setIfInBounds_toArray, List.set_cons_zero, List.set_cons_succ]; rfl)) (hJ2_12 (v117, gb119) _ ⟨hHeld, (qr HO118.out), (qk BK110.out), (qk BK100.out), (qk BK119.out), GW119.out, GE119.out, NB110_119.out, NB119_110.out, NB100_119.out, NB119_100.out, (qb HB.out)⟩)
                   · skip
                     rintro v117 w56 ⟨hS_, h0_, h1_, h2_, h3_⟩
                     have n0_ : Aside0 (Kd.R kTie 74 w56 w.heap.size (fun _ => True) v117 y101) := ⟨h0_⟩
                     have n1_ : Aside0 (w56.heap[gb110]? = some (.cells #[.int .i64 a0_0, .slice A0_1 l0_1.length c0_1] 31 (0, 0))) := ⟨h1_⟩
                     have n2_ : Aside0 (w56.heap[gb100]? = some (.cells #[.int .i64 0, .slice none 0 0] 31 (0, 0))) := ⟨h2_⟩
                     have n3_ : Aside0 (Below w.heap.size w w56) := ⟨h3_⟩
                     clear BK110
                     clear BK100
                     clear HB
                     clear h0_ h1_ h2_ h3_
                     have HO118 := n0_
                     have BK110 := n1_
                     have BK100 := n2_
                     have HB := n3_
                     clear n0_ n1_ n2_ n3_
                     have hHeld : w56.cell? ⟨gb110, 0, none⟩ = some (.int .i64 a0_0) ∧ w56.cell? ⟨gb110, 1, none⟩ = some (.slice A0_1 l0_1.length c0_1) := hS_
                     refine norm_ (a' := ?_) ?_ ?_
                     rotate_left
                     · simp only [putAll, Act.put, List.setIfInBounds_toArray, List.set_cons_zero, List.set_cons_succ]
                       rfl
                     refine two_ (i := 5) (j := 12) (Ni := some 41) (Nj := some 8) (ba 14 255) (ba 14 4319) rfl rfl rfl rfl (two_of HT_.out (by kernel_rfl)) (by decide) (by decide) (fun K hK => ?_) (fun K hK => ?_)
                     · skip
                       refine Kd.R_append_rows_step kTie (w0 := w) w.heap.size (by rfl) (.tmp 38) (.tmp 40) 29 74 (.agg #[(.int .i64 0), (.int .i64 0)]) 16 rfl Try.underlying29 info74 rfl (by decide) (by omega) v117 y101 l0_1 _ _ _ (fun _ => True) (fun _ => False) rfl rfl ?aO ?aR (fun _ _ h => h) (fun _ h => h.elim) ?aF ?aB ?aS ?aL ?_
                       (case aR => repeat (first | exact (Kd.C_below HR0_1.out HB.out) | (with_reducible refine Kd.C_alloc ?_ _) | (with_reducible refine Kd.C_drewN ?_ _) | (with_reducible refine Kd.C_drew ?_)))
                       (case aB => exact (qb HB.out))
                       (case aF => exact (fun _ _ => trivial))
                       (case aO => exact (qr HO118.out))
                       (case aS => exact (below_size (qb HB.out)))
                       (case aL => have := LMc49.out; omega)
                       intro v120 w57 ho hb hg hat
                       rw [← Ny102.out] at ho
                       replace BK110 := q0 (blk_grown (g := gb110) (o := .cells #[.int .i64 a0_0, .slice A0_1 l0_1.length c0_1] 31 (0, 0)) (qk BK110.out) hg (Kd.R_ne HO118.out BK110.out (by decide)))
                       replace BK100 := q0 (blk_grown (g := gb100) (o := .cells #[.int .i64 0, .slice none 0 0] 31 (0, 0)) (qk BK100.out) hg (Kd.R_ne HO118.out BK100.out (by decide)))
                       replace HB := q0 (hb)
                       have HO121 := q0 (ho)
                       clear HO118
                       clear ho hb hg hat
                       refine hK.out _ _ ⟨(blk_cell BK110.out 0).trans rfl, (blk_cell BK110.out 1).trans rfl⟩ (fun hHeld => ?_)
                       clear hK K
                       refine nu 41 ?_
                       exact norm_ (by first | (simp only [putAll, Act.put, List.setIfInBounds_toArray, List.set_cons_zero, List.set_cons_succ]; done) | (simp only [putAll, Act.put, List.setIfInBounds_toArray, List.set_cons_zero, List.set_cons_succ]; rfl)) (hJ2_5 (v117, v120) _ ⟨hHeld, (qr HO121.out), (qk BK110.out), (qk BK100.out), (qb HB.out)⟩)
                     · skip
                       refine box_step ?hg (N := 8) ?hd (cs := #[.int .i64 0, .slice none 0 0]) (t := 31) ?hr ?_; (case hd => rfl); (case hg => rfl); (case hr => first | (go_simp; done) | (go_simp; rfl))
                       intro gb119 hg w57 hbox hb
                       replace HO118 := q0 (Kd.R_below (qr HO118.out) hb)
                       have BK119 := q0 (hbox)
                       have GW119 := q0 ((bs HB.out hg : w.heap.size ≤ gb119))
                       have GE119 := q0 ((bs HB.out hg : w.heap.size ≤ gb119))
                       replace HB := q0 (below_step (qb HB.out) hb)
                       have NB110_119 := q0 ((bl BK110.out hg : gb110 ≠ gb119))
                       have NB119_110 := q0 ((bg BK110.out hg : gb119 ≠ gb110))
                       replace BK110 := q0 (kb BK110.out hb)
                       have NB100_119 := q0 ((bl BK100.out hg : gb100 ≠ gb119))
                       have NB119_100 := q0 ((bg BK100.out hg : gb119 ≠ gb100))
                       replace BK100 := q0 (kb BK100.out hb)
                       clear hb hbox hg
                       refine hK.out _ _ ⟨(blk_cell BK110.out 0).trans rfl, (blk_cell BK110.out 1).trans rfl⟩ (fun hHeld => ?_)
                       clear hK K
                       refine nu 8 ?_
                       exact norm_ (by first | (simp only [putAll, Act.put, List.setIfInBounds_toArray, List.set_cons_zero, List.set_cons_succ]; done) | (simp only [putAll, Act.put, List.setIfInBounds_toArray, List.set_cons_zero, List.set_cons_succ]; rfl)) (hJ2_12 (v117, gb119) _ ⟨hHeld, (qr HO118.out), (qk BK110.out), (qk BK100.out), (qk BK119.out), GW119.out, GE119.out, NB110_119.out, NB119_110.out, NB100_119.out, NB119_100.out, (qb HB.out)⟩)
                 · skip
                   rintro ⟨v117, gb119⟩ w57 ⟨hS_, h0_, h1_, h2_, h3_, h4_, h5_, h6_, h7_, h8_, h9_, h10_⟩
                   have n0_ : Aside0 (Kd.R kTie 74 w57 w.heap.size (fun _ => True) v117 y101) := ⟨h0_⟩
                   have n1_ : Aside0 (w57.heap[gb110]? = some (.cells #[.int .i64 a0_0, .slice A0_1 l0_1.length c0_1] 31 (0, 0))) := ⟨h1_⟩
                   have n2_ : Aside0 (w57.heap[gb100]? = some (.cells #[.int .i64 0, .slice none 0 0] 31 (0, 0))) := ⟨h2_⟩
                   have n3_ : Aside0 (w57.heap[gb119]? = some (.cells #[.int .i64 0, .slice none 0 0] 31 (0, 0))) := ⟨h3_⟩
                   have n4_ : Aside0 (w.heap.size ≤ gb119) := ⟨h4_⟩
                   have n5_ : Aside0 (w.heap.size ≤ gb119) := ⟨h5_⟩
                   have n6_ : Aside0 (gb110 ≠ gb119) := ⟨h6_⟩
                   have n7_ : Aside0 (gb119 ≠ gb110) := ⟨h7_⟩
                   have n8_ : Aside0 (gb100 ≠ gb119) := ⟨h8_⟩
                   have n9_ : Aside0 (gb119 ≠ gb100) := ⟨h9_⟩
                   have n10_ : Aside0 (Below w.heap.size w w57) := ⟨h10_⟩
                   clear BK110
                   clear BK100
                   clear HB
                   clear h0_ h1_ h2_ h3_ h4_ h5_ h6_ h7_ h8_ h9_ h10_
                   have HO118 := n0_
                   have BK110 := n1_
                   have BK100 := n2_
                   have BK119 := n3_
                   have GW119 := n4_
                   have GE119 := n5_
                   have NB110_119 := n6_
                   have NB119_110 := n7_
                   have NB100_119 := n8_
                   have NB119_100 := n9_
                   have HB := n10_
                   clear n0_ n1_ n2_ n3_ n4_ n5_ n6_ n7_ n8_ n9_ n10_
                   have hHeld : w57.cell? ⟨gb110, 0, none⟩ = some (.int .i64 a0_0) ∧ w57.cell? ⟨gb110, 1, none⟩ = some (.slice A0_1 l0_1.length c0_1) := hS_
                   refine norm_ (a' := ?_) ?_ ?_
                   rotate_left
                   · simp only [putAll, Act.put, List.setIfInBounds_toArray, List.set_cons_zero, List.set_cons_succ]
                     rfl
                   refine one_ (i := 5) (N := some 41) (ba 14 4351) rfl rfl (one_of HT_.out (by kernel_rfl)) (by decide) (fun K hK => ?_)
                   refine Kd.R_append_rows_step kTie (w0 := w) w.heap.size (by rfl) (.tmp 38) (.tmp 40) 29 74 (.agg #[(.int .i64 0), (.int .i64 0)]) 16 rfl Try.underlying29 info74 rfl (by decide) (by omega) v117 y101 l0_1 _ _ _ (fun _ => True) (fun _ => False) rfl rfl ?aO ?aR (fun _ _ h => h) (fun _ h => h.elim) ?aF ?aB ?aS ?aL ?_
                   (case aR => repeat (first | exact (Kd.C_below HR0_1.out HB.out) | (with_reducible refine Kd.C_alloc ?_ _) | (with_reducible refine Kd.C_drewN ?_ _) | (with_reducible refine Kd.C_drew ?_)))
                   (case aB => exact (qb HB.out))
                   (case aF => exact (fun _ _ => trivial))
                   (case aO => exact (qr HO118.out))
                   (case aS => exact (below_size (qb HB.out)))
                   (case aL => have := LMc49.out; omega)
                   intro v120 w58 ho hb hg hat
                   rw [← Ny102.out] at ho
                   replace BK110 := q0 (blk_grown (g := gb110) (o := .cells #[.int .i64 a0_0, .slice A0_1 l0_1.length c0_1] 31 (0, 0)) (qk BK110.out) hg (Kd.R_ne HO118.out BK110.out (by decide)))
                   replace BK100 := q0 (blk_grown (g := gb100) (o := .cells #[.int .i64 0, .slice none 0 0] 31 (0, 0)) (qk BK100.out) hg (Kd.R_ne HO118.out BK100.out (by decide)))
                   replace BK119 := q0 (blk_grown (g := gb119) (o := .cells #[.int .i64 0, .slice none 0 0] 31 (0, 0)) (qk BK119.out) hg (Kd.R_ne HO118.out BK119.out (by decide)))
                   replace HB := q0 (hb)
                   have HO121 := q0 (ho)
                   clear HO118
                   clear ho hb hg hat
                   refine hK.out _ _ ⟨(blk_cell BK110.out 0).trans rfl, (blk_cell BK110.out 1).trans rfl⟩ (fun hHeld => ?_)
                   clear hK K
                   refine nu 41 ?_
                   exact norm_ (by first | (simp only [putAll, Act.put, List.setIfInBounds_toArray, List.set_cons_zero, List.set_cons_succ]; done) | (simp only [putAll, Act.put, List.setIfInBounds_toArray, List.set_cons_zero, List.set_cons_succ]; rfl)) (hJ2_5_12 (v117, v120, gb119) _ ⟨hHeld, (qr HO121.out), (qk BK110.out), (qk BK100.out), (qk BK119.out), GW119.out, GE119.out, NB110_119.out, NB119_110.out, NB100_119.out, NB119_100.out, (qb HB.out)⟩)
               · skip
                 rintro ⟨v117, v120⟩ w57 ⟨hS_, h0_, h1_, h2_, h3_⟩
                 have n0_ : Aside0 (Kd.R kTie 74 w57 w.heap.size (fun _ => True) v120 y102) := ⟨h0_⟩
                 have n1_ : Aside0 (w57.heap[gb110]? = some (.cells #[.int .i64 a0_0, .slice A0_1 l0_1.length c0_1] 31 (0, 0))) := ⟨h1_⟩
                 have n2_ : Aside0 (w57.heap[gb100]? = some (.cells #[.int .i64 0, .slice none 0 0] 31 (0, 0))) := ⟨h2_⟩
                 have n3_ : Aside0 (Below w.heap.size w w57) := ⟨h3_⟩
                 clear BK110
                 clear BK100
                 clear HB
                 clear h0_ h1_ h2_ h3_
                 have HO121 := n0_
                 have BK110 := n1_
                 have BK100 := n2_
                 have HB := n3_
                 clear n0_ n1_ n2_ n3_
                 have hHeld : w57.cell? ⟨gb110, 0, none⟩ = some (.int .i64 a0_0) ∧ w57.cell? ⟨gb110, 1, none⟩ = some (.slice A0_1 l0_1.length c0_1) := hS_
                 refine norm_ (a' := ?_) ?_ ?_
                 rotate_left
                 · simp only [putAll, Act.put, List.setIfInBounds_toArray, List.set_cons_zero, List.set_cons_succ]
                   rfl
                 refine two_ (i := 8) (j := 12) (Ni := some 44) (Nj := some 8) (ba 14 511) (ba 14 4351) rfl rfl rfl rfl (two_of HT_.out (by kernel_rfl)) (by decide) (by decide) (fun K hK => ?_) (fun K hK => ?_)
                 · skip
                   refine goes_ Try.func60 (by kernel_rfl) rfl #[.int .i64 a1, .int .i64 a2] (by rfl) rfl rfl qm ?_
                   with_reducible refine (impl_tie.calls a1 a2 t103 t113 _ A50.out).mono ?_
                   rintro e w58 ⟨rfl, hb⟩
                   refine ⟨_, rfl, ?_⟩
                   replace HO121 := q0 (Kd.R_below (qr HO121.out) hb)
                   replace BK110 := q0 (kb BK110.out hb)
                   replace BK100 := q0 (kb BK100.out hb)
                   replace HB := q0 (below_step (qb HB.out) hb)
                   (try clear hb)
                   (try clear hb2)
                   (try clear hk)
                   (try clear hi)
                   refine hK.out _ _ ⟨(blk_cell BK110.out 0).trans rfl, (blk_cell BK110.out 1).trans rfl⟩ (fun hHeld => ?_)
                   clear hK K
                   refine nu 44 ?_
                   exact norm_ (by first | (simp only [putAll, Act.put, List.setIfInBounds_toArray, List.set_cons_zero, List.set_cons_succ]; done) | (simp only [putAll, Act.put, List.setIfInBounds_toArray, List.set_cons_zero, List.set_cons_succ]; rfl)) (hJ2_5_8 (v117, v120) _ ⟨hHeld, (qr HO121.out), (qk BK110.out), (qk BK100.out), (qb HB.out)⟩)
                 · skip
                   refine box_step ?hg (N := 8) ?hd (cs := #[.int .i64 0, .slice none 0 0]) (t := 31) ?hr ?_; (case hd => rfl); (case hg => rfl); (case hr => first | (go_simp; done) | (go_simp; rfl))
                   intro gb119 hg w58 hbox hb
                   replace HO121 := q0 (Kd.R_below (qr HO121.out) hb)
                   have BK119 := q0 (hbox)
                   have GW119 := q0 ((bs HB.out hg : w.heap.size ≤ gb119))
                   have GE119 := q0 ((bs HB.out hg : w.heap.size ≤ gb119))
                   replace HB := q0 (below_step (qb HB.out) hb)
                   have NB110_119 := q0 ((bl BK110.out hg : gb110 ≠ gb119))
                   have NB119_110 := q0 ((bg BK110.out hg : gb119 ≠ gb110))
                   replace BK110 := q0 (kb BK110.out hb)
                   have NB100_119 := q0 ((bl BK100.out hg : gb100 ≠ gb119))
                   have NB119_100 := q0 ((bg BK100.out hg : gb119 ≠ gb100))
                   replace BK100 := q0 (kb BK100.out hb)
                   clear hb hbox hg
                   refine hK.out _ _ ⟨(blk_cell BK110.out 0).trans rfl, (blk_cell BK110.out 1).trans rfl⟩ (fun hHeld => ?_)
                   clear hK K
                   refine nu 8 ?_
                   exact norm_ (by first | (simp only [putAll, Act.put, List.setIfInBounds_toArray, List.set_cons_zero, List.set_cons_succ]; done) | (simp only [putAll, Act.put, List.setIfInBounds_toArray, List.set_cons_zero, List.set_cons_succ]; rfl)) (hJ2_5_12 (v117, v120, gb119) _ ⟨hHeld, (qr HO121.out), (qk BK110.out), (qk BK100.out), (qk BK119.out), GW119.out, GE119.out, NB110_119.out, NB119_110.out, NB100_119.out, NB119_100.out, (qb HB.out)⟩)
             · skip
               rintro ⟨v117, v120, gb119⟩ w58 ⟨hS_, h0_, h1_, h2_, h3_, h4_, h5_, h6_, h7_, h8_, h9_, h10_⟩
               have n0_ : Aside0 (Kd.R kTie 74 w58 w.heap.size (fun _ => True) v120 y102) := ⟨h0_⟩
               have n1_ : Aside0 (w58.heap[gb110]? = some (.cells #[.int .i64 a0_0, .slice A0_1 l0_1.length c0_1] 31 (0, 0))) := ⟨h1_⟩
               have n2_ : Aside0 (w58.heap[gb100]? = some (.cells #[.int .i64 0, .slice none 0 0] 31 (0, 0))) := ⟨h2_⟩
               have n3_ : Aside0 (w58.heap[gb119]? = some (.cells #[.int .i64 0, .slice none 0 0] 31 (0, 0))) := ⟨h3_⟩
               have n4_ : Aside0 (w.heap.size ≤ gb119) := ⟨h4_⟩
               have n5_ : Aside0 (w.heap.size ≤ gb119) := ⟨h5_⟩
               have n6_ : Aside0 (gb110 ≠ gb119) := ⟨h6_⟩
               have n7_ : Aside0 (gb119 ≠ gb110) := ⟨h7_⟩
               have n8_ : Aside0 (gb100 ≠ gb119) := ⟨h8_⟩
               have n9_ : Aside0 (gb119 ≠ gb100) := ⟨h9_⟩
               have n10_ : Aside0 (Below w.heap.size w w58) := ⟨h10_⟩
               clear BK110
               clear BK100
               clear HB
               clear h0_ h1_ h2_ h3_ h4_ h5_ h6_ h7_ h8_ h9_ h10_
               have HO121 := n0_
               have BK110 := n1_
               have BK100 := n2_
               have BK119 := n3_
               have GW119 := n4_
               have GE119 := n5_
               have NB110_119 := n6_
               have NB119_110 := n7_
               have NB100_119 := n8_
               have NB119_100 := n9_
               have HB := n10_
               clear n0_ n1_ n2_ n3_ n4_ n5_ n6_ n7_ n8_ n9_ n10_
               have hHeld : w58.cell? ⟨gb110, 0, none⟩ = some (.int .i64 a0_0) ∧ w58.cell? ⟨gb110, 1, none⟩ = some (.slice A0_1 l0_1.length c0_1) := hS_
               refine norm_ (a' := ?_) ?_ ?_
               rotate_left
               · simp only [putAll, Act.put, List.setIfInBounds_toArray, List.set_cons_zero, List.set_cons_succ]
                 rfl
               refine one_ (i := 8) (N := some 44) (ba 14 4607) rfl rfl (one_of HT_.out (by kernel_rfl)) (by decide) (fun K hK => ?_)
               refine goes_ Try.func60 (by kernel_rfl) rfl #[.int .i64 a1, .int .i64 a2] (by rfl) rfl rfl qm ?_
               with_reducible refine (impl_tie.calls a1 a2 t103 t113 _ A50.out).mono ?_
               rintro e w59 ⟨rfl, hb⟩
               refine ⟨_, rfl, ?_⟩
               replace HO121 := q0 (Kd.R_below (qr HO121.out) hb)
               replace BK110 := q0 (kb BK110.out hb)
               replace BK100 := q0 (kb BK100.out hb)
               replace BK119 := q0 (kb BK119.out hb)
               replace HB := q0 (below_step (qb HB.out) hb)
               (try clear hb)
               (try clear hb2)
               (try clear hk)
               (try clear hi)
               refine hK.out _ _ ⟨(blk_cell BK110.out 0).trans rfl, (blk_cell BK110.out 1).trans rfl⟩ (fun hHeld => ?_)
               clear hK K
               refine nu 44 ?_
               exact norm_ (by first | (simp only [putAll, Act.put, List.setIfInBounds_toArray, List.set_cons_zero, List.set_cons_succ]; done) | (simp only [putAll, Act.put, List.setIfInBounds_toArray, List.set_cons_zero, List.set_cons_succ]; rfl)) (hJ2_5_8_12 (v117, v120, gb119) _ ⟨hHeld, (qr HO121.out), (qk BK110.out), (qk BK100.out), (qk BK119.out), GW119.out, GE119.out, NB110_119.out, NB119_110.out, NB100_119.out, NB119_100.out, (qb HB.out)⟩)
           · skip
             rintro ⟨v117, v120⟩ w58 ⟨hS_, h0_, h1_, h2_, h3_⟩
             have n0_ : Aside0 (Kd.R kTie 74 w58 w.heap.size (fun _ => True) v120 y102) := ⟨h0_⟩
             have n1_ : Aside0 (w58.heap[gb110]? = some (.cells #[.int .i64 a0_0, .slice A0_1 l0_1.length c0_1] 31 (0, 0))) := ⟨h1_⟩
             have n2_ : Aside0 (w58.heap[gb100]? = some (.cells #[.int .i64 0, .slice none 0 0] 31 (0, 0))) := ⟨h2_⟩
             have n3_ : Aside0 (Below w.heap.size w w58) := ⟨h3_⟩
             clear BK110
             clear BK100
             clear HB
             clear h0_ h1_ h2_ h3_
             have HO121 := n0_
             have BK110 := n1_
             have BK100 := n2_
             have HB := n3_
             clear n0_ n1_ n2_ n3_
             have hHeld : w58.cell? ⟨gb110, 0, none⟩ = some (.int .i64 a0_0) ∧ w58.cell? ⟨gb110, 1, none⟩ = some (.slice A0_1 l0_1.length c0_1) := hS_
             refine norm_ (a' := ?_) ?_ ?_
             rotate_left
             · simp only [putAll, Act.put, List.setIfInBounds_toArray, List.set_cons_zero, List.set_cons_succ]
               rfl
             refine two_ (i := 9) (j := 12) (Ni := some 45) (Nj := some 8) (ba 14 1023) (ba 14 4607) rfl rfl rfl rfl (two_of HT_.out (by kernel_rfl)) (by decide) (by decide) (fun K hK => ?_) (fun K hK => ?_)
             · skip
               refine Kd.R_lit_step kTie _ 74 ?hg (N := 45) ?hd (xs := ([(⟨t103, t113⟩ : STie)] : List (STie))) (inner := [.int .i64 t103, .int .i64 t113]) (ok := fun _ => True) (okp := fun _ => True) ?hr ?hp (fun _ hk => hk) trivial (Below.refl _ _) (Nat.le_refl _) (by simp) ?_; (case hd => rfl); (case hg => rfl); (case hr => first | (go_simp; done) | (go_simp; rfl)); (case hp => exact (Reps.c2 (show Kd.M kTie _ _ _ (⟨t103, t113⟩ : STie) [.int .i64 t103, .int .i64 t113] from (kTie_mkM _ _ _ (⟨t103, t113⟩ : STie) )) (Reps.none _ _)))
               intro v122 w59 ho60 hb hg_ hnew_
               clear hg_ hnew_
               (first | rw [← Ny104.out] at ho60 | (simp only [Int.reduceToNat] at ho60; rw [← Ny104.out] at ho60))
               have HO123 := q0 (Kd.R_lower (Kd.R_new' ho60 (Kd.R_lt (qr HO121.out))) (below_size (qb HB.out)))
               replace HO121 := q0 (Kd.R_elder' (qr HO121.out) (Kd.R_base ho60) hb)
               replace BK110 := q0 (kb BK110.out hb)
               replace BK100 := q0 (kb BK100.out hb)
               replace HB := q0 (below_step (qb HB.out) hb)
               clear hb ho60
               refine hK.out _ _ ⟨(blk_cell BK110.out 0).trans rfl, (blk_cell BK110.out 1).trans rfl⟩ (fun hHeld => ?_)
               clear hK K
               refine nu 45 ?_
               exact norm_ (by first | (simp only [putAll, Act.put, List.setIfInBounds_toArray, List.set_cons_zero, List.set_cons_succ]; done) | (simp only [putAll, Act.put, List.setIfInBounds_toArray, List.set_cons_zero, List.set_cons_succ]; rfl)) (hJ2_5_8_9 (v117, v120, v122) _ ⟨hHeld, (by (with_reducible repeat (first | apply Kd.R_alloc | apply Kd.R_drewN | apply Kd.R_drew)); exact Kd.R_mono HO121.out (fun _ hk => hk.2)), (by (with_reducible repeat (first | apply Kd.R_alloc | apply Kd.R_drewN | apply Kd.R_drew)); exact Kd.R_mono HO123.out (fun _ hk => hk.2)), (qk BK110.out), (qk BK100.out), (qb HB.out)⟩)
             · skip
               refine box_step ?hg (N := 8) ?hd (cs := #[.int .i64 0, .slice none 0 0]) (t := 31) ?hr ?_; (case hd => rfl); (case hg => rfl); (case hr => first | (go_simp; done) | (go_simp; rfl))
               intro gb119 hg w59 hbox hb
               replace HO121 := q0 (Kd.R_below (qr HO121.out) hb)
               have BK119 := q0 (hbox)
               have GW119 := q0 ((bs HB.out hg : w.heap.size ≤ gb119))
               have GE119 := q0 ((bs HB.out hg : w.heap.size ≤ gb119))
               replace HB := q0 (below_step (qb HB.out) hb)
               have NB110_119 := q0 ((bl BK110.out hg : gb110 ≠ gb119))
               have NB119_110 := q0 ((bg BK110.out hg : gb119 ≠ gb110))
               replace BK110 := q0 (kb BK110.out hb)
               have NB100_119 := q0 ((bl BK100.out hg : gb100 ≠ gb119))
               have NB119_100 := q0 ((bg BK100.out hg : gb119 ≠ gb100))
               replace BK100 := q0 (kb BK100.out hb)
               clear hb hbox hg
               refine hK.out _ _ ⟨(blk_cell BK110.out 0).trans rfl, (blk_cell BK110.out 1).trans rfl⟩ (fun hHeld => ?_)
               clear hK K
               refine nu 8 ?_
               exact norm_ (by first | (simp only [putAll, Act.put, List.setIfInBounds_toArray, List.set_cons_zero, List.set_cons_succ]; done) | (simp only [putAll, Act.put, List.setIfInBounds_toArray, List.set_cons_zero, List.set_cons_succ]; rfl)) (hJ2_5_8_12 (v117, v120, gb119) _ ⟨hHeld, (qr HO121.out), (qk BK110.out), (qk BK100.out), (qk BK119.out), GW119.out, GE119.out, NB110_119.out, NB119_110.out, NB100_119.out, NB119_100.out, (qb HB.out)⟩)
         · skip
           rintro ⟨v117, v120, gb119⟩ w59 ⟨hS_, h0_, h1_, h2_, h3_, h4_, h5_, h6_, h7_, h8_, h9_, h10_⟩
           have n0_ : Aside0 (Kd.R kTie 74 w59 w.heap.size (fun _ => True) v120 y102) := ⟨h0_⟩
           have n1_ : Aside0 (w59.heap[gb110]? = some (.cells #[.int .i64 a0_0, .slice A0_1 l0_1.length c0_1] 31 (0, 0))) := ⟨h1_⟩
           have n2_ : Aside0 (w59.heap[gb100]? = some (.cells #[.int .i64 0, .slice none 0 0] 31 (0, 0))) := ⟨h2_⟩
           have n3_ : Aside0 (w59.heap[gb119]? = some (.cells #[.int .i64 0, .slice none 0 0] 31 (0, 0))) := ⟨h3_⟩
           have n4_ : Aside0 (w.heap.size ≤ gb119) := ⟨h4_⟩
           have n5_ : Aside0 (w.heap.size ≤ gb119) := ⟨h5_⟩
           have n6_ : Aside0 (gb110 ≠ gb119) := ⟨h6_⟩
           have n7_ : Aside0 (gb119 ≠ gb110) := ⟨h7_⟩
           have n8_ : Aside0 (gb100 ≠ gb119) := ⟨h8_⟩
           have n9_ : Aside0 (gb119 ≠ gb100) := ⟨h9_⟩
           have n10_ : Aside0 (Below w.heap.size w w59) := ⟨h10_⟩
           clear BK110
           clear BK100
           clear HB
           clear h0_ h1_ h2_ h3_ h4_ h5_ h6_ h7_ h8_ h9_ h10_
           have HO121 := n0_
           have BK110 := n1_
           have BK100 := n2_
           have BK119 := n3_
           have GW119 := n4_
           have GE119 := n5_
           have NB110_119 := n6_
           have NB119_110 := n7_
           have NB100_119 := n8_
           have NB119_100 := n9_
           have HB := n10_
           clear n0_ n1_ n2_ n3_ n4_ n5_ n6_ n7_ n8_ n9_ n10_
           have hHeld : w59.cell? ⟨gb110, 0, none⟩ = some (.int .i64 a0_0) ∧ w59.cell? ⟨gb110, 1, none⟩ = some (.slice A0_1 l0_1.length c0_1) := hS_
           refine norm_ (a' := ?_) ?_ ?_
           rotate_left
           · simp only [putAll, Act.put, List.setIfInBounds_toArray, List.set_cons_zero, List.set_cons_succ]
             rfl
           refine one_ (i := 9) (N := some 45) (ba 14 5119) rfl rfl (one_of HT_.out (by kernel_rfl)) (by decide) (fun K hK => ?_)
           refine Kd.R_lit_step kTie _ 74 ?hg (N := 45) ?hd (xs := ([(⟨t103, t113⟩ : STie)] : List (STie))) (inner := [.int .i64 t103, .int .i64 t113]) (ok := fun _ => True) (okp := fun _ => True) ?hr ?hp (fun _ hk => hk) trivial (Below.refl _ _) (Nat.le_refl _) (by simp) ?_; (case hd => rfl); (case hg => rfl); (case hr => first | (go_simp; done) | (go_simp; rfl)); (case hp => exact (Reps.c2 (show Kd.M kTie _ _ _ (⟨t103, t113⟩ : STie) [.int .i64 t103, .int .i64 t113] from (kTie_mkM _ _ _ (⟨t103, t113⟩ : STie) )) (Reps.none _ _)))
           intro v122 w60 ho61 hb hg_ hnew_
           clear hg_ hnew_
           (first | rw [← Ny104.out] at ho61 | (simp only [Int.reduceToNat] at ho61; rw [← Ny104.out] at ho61))
           have HO123 := q0 (Kd.R_lower (Kd.R_new' ho61 (Kd.R_lt (qr HO121.out))) (below_size (qb HB.out)))
           replace HO121 := q0 (Kd.R_elder' (qr HO121.out) (Kd.R_base ho61) hb)
           replace BK110 := q0 (kb BK110.out hb)
           replace BK100 := q0 (kb BK100.out hb)
           replace BK119 := q0 (kb BK119.out hb)
           replace HB := q0 (below_step (qb HB.out) hb)
           clear hb ho61
           refine hK.out _ _ ⟨(blk_cell BK110.out 0).trans rfl, (blk_cell BK110.out 1).trans rfl⟩ (fun hHeld => ?_)
           clear hK K
           refine nu 45 ?_
           exact norm_ (by first | (simp only [putAll, Act.put, List.setIfInBounds_toArray, List.set_cons_zero, List.set_cons_succ]; done) | (simp only [putAll, Act.put, List.setIfInBounds_toArray, List.set_cons_zero, List.set_cons_succ]; rfl)) (hJ2_5_8_9_12 (v117, v120, v122, gb119) _ ⟨hHeld, (by (with_reducible repeat (first | apply Kd.R_alloc | apply Kd.R_drewN | apply Kd.R_drew)); exact Kd.R_mono HO121.out (fun _ hk => hk.2)), (by (with_reducible repeat (first | apply Kd.R_alloc | apply Kd.R_drewN | apply Kd.R_drew)); exact Kd.R_mono HO123.out (fun _ hk => hk.2)), (qk BK110.out), (qk BK100.out), (qk BK119.out), GW119.out, GE119.out, NB110_119.out, NB119_110.out, NB100_119.out, NB119_100.out, (qb HB.out)⟩)
       · skip
         rintro ⟨v117, v120, v122⟩ w60 ⟨hS_, h0_, h1_, h2_, h3_, h4_⟩
         have n0_ : Aside0 (Kd.R kTie 74 w60 w.heap.size (fun k_ => some k_ ≠ (v122 : Value).ownBlock) v120 y102) := ⟨h0_⟩
         have n1_ : Aside0 (Kd.R kTie 74 w60 w.heap.size (fun k_ => some k_ ≠ (v120 : Value).ownBlock) v122 y104) := ⟨h1_⟩
         have n2_ : Aside0 (w60.heap[gb110]? = some (.cells #[.int .i64 a0_0, .slice A0_1 l0_1.length c0_1] 31 (0, 0))) := ⟨h2_⟩
         have n3_ : Aside0 (w60.heap[gb100]? = some (.cells #[.int .i64 0, .slice none 0 0] 31 (0, 0))) := ⟨h3_⟩
         have n4_ : Aside0 (Below w.heap.size w w60) := ⟨h4_⟩
         clear BK110
         clear BK100
         clear HB
         clear h0_ h1_ h2_ h3_ h4_
         have HO121 := n0_
         have HO123 := n1_
         have BK110 := n2_
         have BK100 := n3_
         have HB := n4_
         clear n0_ n1_ n2_ n3_ n4_
         have hHeld : w60.cell? ⟨gb110, 0, none⟩ = some (.int .i64 a0_0) ∧ w60.cell? ⟨gb110, 1, none⟩ = some (.slice A0_1 l0_1.length c0_1) := hS_
         obtain ⟨Ao62, co62, eo62⟩ := Kd.R_slice HO123.out
         (first | subst eo62 | (injection eo62 with f1_ f2_ f3_; have f4_ := f1_.symm; have f5_ := f3_.symm; clear f1_ f2_ f3_; subst f4_; subst f5_))
         refine norm_ (a' := ?_) ?_ ?_
         rotate_left
         · simp only [putAll, Act.put, List.setIfInBounds_toArray, List.set_cons_zero, List.set_cons_succ]
           rfl
         refine two_ (i := 10) (j := 12) (Ni := some 46) (Nj := some 8) (ba 14 2047) (ba 14 5119) rfl rfl rfl rfl (two_of HT_.out (by kernel_rfl)) (by decide) (by decide) (fun K hK => ?_) (fun K hK => ?_)
         · skip
           refine Kd.R_append_rows_step kTie (w0 := w) w.heap.size (by rfl) (.tmp 41) (.tmp 45) 29 74 (.agg #[(.int .i64 0), (.int .i64 0)]) 16 rfl Try.underlying29 info74 rfl (by decide) (by omega) v120 y102 y104 _ _ _ (fun k_ => some k_ ≠ (.slice Ao62 y104.length co62 : Value).ownBlock) (fun _ => False) rfl rfl ?aO ?aR (fun _ _ h => h) (fun _ h => h.elim) ?aF ?aB ?aS ?aL ?_
           (case aR => repeat (first | exact (Kd.R_reads' HO123.out).2.2 | (with_reducible refine Kd.C_alloc ?_ _) | (with_reducible refine Kd.C_drewN ?_ _) | (with_reducible refine Kd.C_drew ?_)))
           (case aB => exact (qb HB.out))
           (case aF => exact (fun k_ hk => Kd.fresh' (Kd.R_lt (qr HO123.out)) k_ hk))
           (case aO => exact (qr HO121.out))
           (case aS => exact (below_size (qb HB.out)))
           (case aL => have := LMc51.out; omega)
           intro v124 w61 ho hb hg hat
           rw [← Ny115.out] at ho
           replace BK110 := q0 (blk_grown (g := gb110) (o := .cells #[.int .i64 a0_0, .slice A0_1 l0_1.length c0_1] 31 (0, 0)) (qk BK110.out) hg (Kd.R_ne HO121.out BK110.out (by decide)))
           replace BK100 := q0 (blk_grown (g := gb100) (o := .cells #[.int .i64 0, .slice none 0 0] 31 (0, 0)) (qk BK100.out) hg (Kd.R_ne HO121.out BK100.out (by decide)))
           replace HO123 := q0 (Kd.R_after (ok := (fun _ => True)) (by (with_reducible repeat (first | apply Kd.R_alloc | apply Kd.R_drewN | apply Kd.R_drew)); exact Kd.R_mono HO123.out (fun _ hk => ⟨trivial, hk⟩)) hg hat)
           replace HB := q0 (hb)
           have HO125 := q0 (ho)
           clear HO121
           clear ho hb hg hat
           obtain ⟨Ao63, co63, eo63⟩ := Kd.R_slice HO125.out
           (first | subst eo63 | (injection eo63 with f1_ f2_ f3_; have f4_ := f1_.symm; have f5_ := f3_.symm; clear f1_ f2_ f3_; subst f4_; subst f5_))
           refine hK.out _ _ ⟨(blk_cell BK110.out 0).trans rfl, (blk_cell BK110.out 1).trans rfl⟩ (fun hHeld => ?_)
           clear hK K
           refine nu 46 ?_
           refine pu 11 (some 47) (ba 14 4095) HT_.out ?_
           exact norm_ (by first | (simp only [putAll, Act.put, List.setIfInBounds_toArray, List.set_cons_zero, List.set_cons_succ]; done) | (simp only [putAll, Act.put, List.setIfInBounds_toArray, List.set_cons_zero, List.set_cons_succ]; rfl)) (hJ2_5_8_9_10 (v117, v120, .slice Ao62 y104.length co62, .slice Ao63 y115.length co63) _ ⟨hHeld, (by (with_reducible repeat (first | apply Kd.R_alloc | apply Kd.R_drewN | apply Kd.R_drew)); exact Kd.R_mono HO123.out (fun _ hk => hk.2)), (qr HO125.out), (qk BK110.out), (qk BK100.out), (qb HB.out)⟩)
         · skip
           refine box_step ?hg (N := 8) ?hd (cs := #[.int .i64 0, .slice none 0 0]) (t := 31) ?hr ?_; (case hd => rfl); (case hg => rfl); (case hr => first | (go_simp; done) | (go_simp; rfl))
           intro gb119 hg w61 hbox hb
           replace HO121 := q0 (Kd.R_below (qr HO121.out) hb)
           replace HO123 := q0 (Kd.R_below (qr HO123.out) hb)
           have BK119 := q0 (hbox)
           have GW119 := q0 ((bs HB.out hg : w.heap.size ≤ gb119))
           have GE119 := q0 ((bs HB.out hg : w.heap.size ≤ gb119))
           replace HB := q0 (below_step (qb HB.out) hb)
           have NB110_119 := q0 ((bl BK110.out hg : gb110 ≠ gb119))
           have NB119_110 := q0 ((bg BK110.out hg : gb119 ≠ gb110))
           replace BK110 := q0 (kb BK110.out hb)
           have NB100_119 := q0 ((bl BK100.out hg : gb100 ≠ gb119))
           have NB119_100 := q0 ((bg BK100.out hg : gb119 ≠ gb100))
           replace BK100 := q0 (kb BK100.out hb)
           clear hb hbox hg
           refine hK.out _ _ ⟨(blk_cell BK110.out 0).trans rfl, (blk_cell BK110.out 1).trans rfl⟩ (fun hHeld => ?_)
           clear hK K
           refine nu 8 ?_
           exact norm_ (by first | (simp only [putAll, Act.put, List.setIfInBounds_toArray, List.set_cons_zero, List.set_cons_succ]; done) | (simp only [putAll, Act.put, List.setIfInBounds_toArray, List.set_cons_zero, List.set_cons_succ]; rfl)) (hJ2_5_8_9_12 (v117, v120, .slice Ao62 y104.length co62, gb119) _ ⟨hHeld, (qr HO121.out), (qr HO123.out), (qk BK110.out), (qk BK100.out), (qk BK119.out), GW119.out, GE119.out, NB110_119.out, NB119_110.out, NB100_119.out, NB119_100.out, (qb HB.out)⟩)
     · skip
       rintro ⟨v117, v120, v122, gb119⟩ w61 ⟨hS_, h0_, h1_, h2_, h3_, h4_, h5_, h6_, h7_, h8_, h9_, h10_, h11_⟩
       have n0_ : Aside0 (Kd.R kTie 74 w61 w.heap.size (fun k_ => some k_ ≠ (v122 : Value).ownBlock) v120 y102) := ⟨h0_⟩
       have n1_ : Aside0 (Kd.R kTie 74 w61 w.heap.size (fun k_ => some k_ ≠ (v120 : Value).ownBlock) v122 y104) := ⟨h1_⟩
       have n2_ : Aside0 (w61.heap[gb110]? = some (.cells #[.int .i64 a0_0, .slice A0_1 l0_1.length c0_1] 31 (0, 0))) := ⟨h2_⟩
       have n3_ : Aside0 (w61.heap[gb100]? = some (.cells #[.int .i64 0, .slice none 0 0] 31 (0, 0))) := ⟨h3_⟩
       have n4_ : Aside0 (w61.heap[gb119]? = some (.cells #[.int .i64 0, .slice none 0 0] 31 (0, 0))) := ⟨h4_⟩
       have n5_ : Aside0 (w.heap.size ≤ gb119) := ⟨h5_⟩
       have n6_ : Aside0 (w.heap.size ≤ gb119) := ⟨h6_⟩
       have n7_ : Aside0 (gb110 ≠ gb119) := ⟨h7_⟩
       have n8_ : Aside0 (gb119 ≠ gb110) := ⟨h8_⟩
       have n9_ : Aside0 (gb100 ≠ gb119) := ⟨h9_⟩
       have n10_ : Aside0 (gb119 ≠ gb100) := ⟨h10_⟩
       have n11_ : Aside0 (Below w.heap.size w w61) := ⟨h11_⟩
       clear BK110
       clear BK100
       clear HB
       clear h0_ h1_ h2_ h3_ h4_ h5_ h6_ h7_ h8_ h9_ h10_ h11_
       have HO121 := n0_
       have HO123 := n1_
       have BK110 := n2_
       have BK100 := n3_
       have BK119 := n4_
       have GW119 := n5_
       have GE119 := n6_
       have NB110_119 := n7_
       have NB119_110 := n8_
       have NB100_119 := n9_
       have NB119_100 := n10_
       have HB := n11_
       clear n0_ n1_ n2_ n3_ n4_ n5_ n6_ n7_ n8_ n9_ n10_ n11_
       have hHeld : w61.cell? ⟨gb110, 0, none⟩ = some (.int .i64 a0_0) ∧ w61.cell? ⟨gb110, 1, none⟩ = some (.slice A0_1 l0_1.length c0_1) := hS_
       obtain ⟨Ao63, co63, eo63⟩ := Kd.R_slice HO123.out
       (first | subst eo63 | (injection eo63 with f1_ f2_ f3_; have f4_ := f1_.symm; have f5_ := f3_.symm; clear f1_ f2_ f3_; subst f4_; subst f5_))
       refine norm_ (a' := ?_) ?_ ?_
       rotate_left
       · simp only [putAll, Act.put, List.setIfInBounds_toArray, List.set_cons_zero, List.set_cons_succ]
         rfl
       refine one_ (i := 10) (N := some 46) (ba 14 6143) rfl rfl (one_of HT_.out (by kernel_rfl)) (by decide) (fun K hK => ?_)
       refine Kd.R_append_rows_step kTie (w0 := w) w.heap.size (by rfl) (.tmp 41) (.tmp 45) 29 74 (.agg #[(.int .i64 0), (.int .i64 0)]) 16 rfl Try.underlying29 info74 rfl (by decide) (by omega) v120 y102 y104 _ _ _ (fun k_ => some k_ ≠ (.slice Ao63 y104.length co63 : Value).ownBlock) (fun _ => False) rfl rfl ?aO ?aR (fun _ _ h => h) (fun _ h => h.elim) ?aF ?aB ?aS ?aL ?_
       (case aR => repeat (first | exact (Kd.R_reads' HO123.out).2.2 | (with_reducible refine Kd.C_alloc ?_ _) | (with_reducible refine Kd.C_drewN ?_ _) | (with_reducible refine Kd.C_drew ?_)))
       (case aB => exact (qb HB.out))
       (case aF => exact (fun k_ hk => Kd.fresh' (Kd.R_lt (qr HO123.out)) k_ hk))
       (case aO => exact (qr HO121.out))
       (case aS => exact (below_size (qb HB.out)))
       (case aL => have := LMc51.out; omega)
       intro v124 w62 ho hb hg hat
       rw [← Ny115.out] at ho
       replace BK110 := q0 (blk_grown (g := gb110) (o := .cells #[.int .i64 a0_0, .slice A0_1 l0_1.length c0_1] 31 (0, 0)) (qk BK110.out) hg (Kd.R_ne HO121.out BK110.out (by decide)))
       replace BK100 := q0 (blk_grown (g := gb100) (o := .cells #[.int .i64 0, .slice none 0 0] 31 (0, 0)) (qk BK100.out) hg (Kd.R_ne HO121.out BK100.out (by decide)))
       replace HO123 := q0 (Kd.R_after (ok := (fun _ => True)) (by (with_reducible repeat (first | apply Kd.R_alloc | apply Kd.R_drewN | apply Kd.R_drew)); exact Kd.R_mono HO123.out (fun _ hk => ⟨trivial, hk⟩)) hg hat)
       replace BK119 := q0 (blk_grown (g := gb119) (o := .cells #[.int .i64 0, .slice none 0 0] 31 (0, 0)) (qk BK119.out) hg (Kd.R_ne HO121.out BK119.out (by decide)))
       replace HB := q0 (hb)
       have HO125 := q0 (ho)
       clear HO121
       clear ho hb hg hat
       obtain ⟨Ao64, co64, eo64⟩ := Kd.R_slice HO125.out
       (first | subst eo64 | (injection eo64 with f1_ f2_ f3_; have f4_ := f1_.symm; have f5_ := f3_.symm; clear f1_ f2_ f3_; subst f4_; subst f5_))
       refine hK.out _ _ ⟨(blk_cell BK110.out 0).trans rfl, (blk_cell BK110.out 1).trans rfl⟩ (fun hHeld => ?_)
       clear hK K
       refine nu 46 ?_
       refine pu 11 (some 47) (ba 14 8191) HT_.out ?_
       exact norm_ (by first | (simp only [putAll, Act.put, List.setIfInBounds_toArray, List.set_cons_zero, List.set_cons_succ]; done) | (simp only [putAll, Act.put, List.setIfInBounds_toArray, List.set_cons_zero, List.set_cons_succ]; rfl)) (hJ2_5_8_9_10_12 (v117, v120, .slice Ao63 y104.length co63, .slice Ao64 y115.length co64, gb119) _ ⟨hHeld, (by (with_reducible repeat (first | apply Kd.R_alloc | apply Kd.R_drewN | apply Kd.R_drew)); exact Kd.R_mono HO123.out (fun _ hk => hk.2)), (qr HO125.out), (qk BK110.out), (qk BK100.out), (qk BK119.out), GW119.out, GE119.out, NB110_119.out, NB119_110.out, NB100_119.out, NB119_100.out, (qb HB.out)⟩)
   · skip
     rintro ⟨v117, v120, v122, v124⟩ w63 ⟨hS_, h0_, h1_, h2_, h3_, h4_⟩
     have n0_ : Aside0 (Kd.R kTie 74 w63 w.heap.size (fun k_ => some k_ ≠ (v124 : Value).ownBlock) v122 y104) := ⟨h0_⟩
     have n1_ : Aside0 (Kd.R kTie 74 w63 w.heap.size (fun k_ => some k_ ≠ (v122 : Value).ownBlock) v124 y115) := ⟨h1_⟩
     have n2_ : Aside0 (w63.heap[gb110]? = some (.cells #[.int .i64 a0_0, .slice A0_1 l0_1.length c0_1] 31 (0, 0))) := ⟨h2_⟩
     have n3_ : Aside0 (w63.heap[gb100]? = some (.cells #[.int .i64 0, .slice none 0 0] 31 (0, 0))) := ⟨h3_⟩
     have n4_ : Aside0 (Below w.heap.size w w63) := ⟨h4_⟩
     clear BK110
     clear BK100
     clear HB
     clear h0_ h1_ h2_ h3_ h4_
     have HO123 := n0_
     have HO125 := n1_
     have BK110 := n2_
     have BK100 := n3_
     have HB := n4_
     clear n0_ n1_ n2_ n3_ n4_
     have hHeld : w63.cell? ⟨gb110, 0, none⟩ = some (.int .i64 a0_0) ∧ w63.cell? ⟨gb110, 1, none⟩ = some (.slice A0_1 l0_1.length c0_1) := hS_
     obtain ⟨Ao64, co64, eo64⟩ := Kd.R_slice HO125.out
     (first | subst eo64 | (injection eo64 with f1_ f2_ f3_; have f4_ := f1_.symm; have f5_ := f3_.symm; clear f1_ f2_ f3_; subst f4_; subst f5_))
     refine norm_ (a' := ?_) ?_ ?_
     rotate_left
     · simp only [putAll, Act.put, List.setIfInBounds_toArray, List.set_cons_zero, List.set_cons_succ]
       rfl
     refine one_ (i := 12) (N := some 8) (ba 14 8191) rfl rfl (one_of HT_.out (by kernel_rfl)) (by decide) (fun K hK => ?_)
     refine box_step ?hg (N := 8) ?hd (cs := #[.int .i64 0, .slice none 0 0]) (t := 31) ?hr ?_; (case hd => rfl); (case hg => rfl); (case hr => first | (go_simp; done) | (go_simp; rfl))
     intro gb119 hg w65 hbox hb
     replace HO123 := q0 (Kd.R_below (qr HO123.out) hb)
     replace HO125 := q0 (Kd.R_below (qr HO125.out) hb)
     have BK119 := q0 (hbox)
     have GW119 := q0 ((bs HB.out hg : w.heap.size ≤ gb119))
     have GE119 := q0 ((bs HB.out hg : w.heap.size ≤ gb119))
     replace HB := q0 (below_step (qb HB.out) hb)
     have NB110_119 := q0 ((bl BK110.out hg : gb110 ≠ gb119))
     have NB119_110 := q0 ((bg BK110.out hg : gb119 ≠ gb110))
     replace BK110 := q0 (kb BK110.out hb)
     have NB100_119 := q0 ((bl BK100.out hg : gb100 ≠ gb119))
     have NB119_100 := q0 ((bg BK100.out hg : gb119 ≠ gb100))
     replace BK100 := q0 (kb BK100.out hb)
     clear hb hbox hg
     refine hK.out _ _ ⟨(blk_cell BK110.out 0).trans rfl, (blk_cell BK110.out 1).trans rfl⟩ (fun hHeld => ?_)
     clear hK K
     refine nu 8 ?_
     exact norm_ (by first | (simp only [putAll, Act.put, List.setIfInBounds_toArray, List.set_cons_zero, List.set_cons_succ]; done) | (simp only [putAll, Act.put, List.setIfInBounds_toArray, List.set_cons_zero, List.set_cons_succ]; rfl)) (hJ2_5_8_9_10_12 (v117, v120, v122, .slice Ao64 y115.length co64, gb119) _ ⟨hHeld, (qr HO123.out), (qr HO125.out), (qk BK110.out), (qk BK100.out), (qk BK119.out), GW119.out, GE119.out, NB110_119.out, NB119_110.out, NB100_119.out, NB119_100.out, (qb HB.out)⟩)
 rintro ⟨v117, v120, v122, v124, gb119⟩ w64 ⟨hS_, h0_, h1_, h2_, h3_, h4_, h5_, h6_, h7_, h8_, h9_, h10_, h11_⟩
 have n0_ : Aside0 (Kd.R kTie 74 w64 w.heap.size (fun k_ => some k_ ≠ (v124 : Value).ownBlock) v122 y104) := ⟨h0_⟩
 have n1_ : Aside0 (Kd.R kTie 74 w64 w.heap.size (fun k_ => some k_ ≠ (v122 : Value).ownBlock) v124 y115) := ⟨h1_⟩
 have n2_ : Aside0 (w64.heap[gb110]? = some (.cells #[.int .i64 a0_0, .slice A0_1 l0_1.length c0_1] 31 (0, 0))) := ⟨h2_⟩
 have n3_ : Aside0 (w64.heap[gb100]? = some (.cells #[.int .i64 0, .slice none 0 0] 31 (0, 0))) := ⟨h3_⟩
 have n4_ : Aside0 (w64.heap[gb119]? = some (.cells #[.int .i64 0, .slice none 0 0] 31 (0, 0))) := ⟨h4_⟩
 have n5_ : Aside0 (w.heap.size ≤ gb119) := ⟨h5_⟩
 have n6_ : Aside0 (w.heap.size ≤ gb119) := ⟨h6_⟩
 have n7_ : Aside0 (gb110 ≠ gb119) := ⟨h7_⟩
 have n8_ : Aside0 (gb119 ≠ gb110) := ⟨h8_⟩
 have n9_ : Aside0 (gb100 ≠ gb119) := ⟨h9_⟩
 have n10_ : Aside0 (gb119 ≠ gb100) := ⟨h10_⟩
 have n11_ : Aside0 (Below w.heap.size w w64) := ⟨h11_⟩
 clear BK110
 clear BK100
 clear HB
 clear h0_ h1_ h2_ h3_ h4_ h5_ h6_ h7_ h8_ h9_ h10_ h11_
 have HO123 := n0_
 have HO125 := n1_
 have BK110 := n2_
 have BK100 := n3_
 have BK119 := n4_
 have GW119 := n5_
 have GE119 := n6_
 have NB110_119 := n7_
 have NB119_110 := n8_
 have NB100_119 := n9_
 have NB119_100 := n10_
 have HB := n11_
 clear n0_ n1_ n2_ n3_ n4_ n5_ n6_ n7_ n8_ n9_ n10_ n11_
 have hHeld : w64.cell? ⟨gb110, 0, none⟩ = some (.int .i64 a0_0) ∧ w64.cell? ⟨gb110, 1, none⟩ = some (.slice A0_1 l0_1.length c0_1) := hS_
 obtain ⟨Ao65, co65, eo65⟩ := Kd.R_slice HO125.out
 (first | subst eo65 | (injection eo65 with f1_ f2_ f3_; have f4_ := f1_.symm; have f5_ := f3_.symm; clear f1_ f2_ f3_; subst f4_; subst f5_))
 refine norm_ (a' := ?_) ?_ ?_
 rotate_left
 · simp only [putAll, Act.put, List.setIfInBounds_toArray, List.set_cons_zero, List.set_cons_succ]
   rfl
 refine one_ (i := 13) (N := none) (ba 14 16383) rfl rfl (one_of HT_.out (by kernel_rfl)) (by decide) (fun K hK => ?_)
 have hs66 : w64.cell? ⟨gb119, 0, none⟩ = some (.int .i64 0) := (blk_cell BK119.out 0).trans rfl
 have hfs66 := blk_frozen BK119.out 0
 have hns66_0 := NB110_119.out
 have hns66_1 := NB100_119.out
 have hms66_0 := NB119_110.out
 have hms66_1 := NB119_100.out
 have hs67 : w64.cell? ⟨gb119, 1, none⟩ = some (.slice none 0 0) := (blk_cell BK119.out 1).trans rfl
 have hfs67 := blk_frozen BK119.out 1
 have hns67_0 := NB110_119.out
 have hns67_1 := NB100_119.out
 have hms67_0 := NB119_110.out
 have hms67_1 := NB119_100.out
 refine skip_ (w1 := ?_) (by rfl) rfl ?_ ?_
 rotate_left
 · go_simp
   rfl
 refine hK.out _ _ ⟨((cell_far (p := ⟨gb119, _, none⟩) NB110_119.out _).trans (((cell_far (p := ⟨gb119, _, none⟩) NB110_119.out _).trans (hHeld.1)))), ((cell_far (p := ⟨gb119, _, none⟩) NB110_119.out _).trans (((cell_far (p := ⟨gb119, _, none⟩) NB110_119.out _).trans (hHeld.2))))⟩ (fun hHeld => ?_)
 clear hK K
 refine done_ (done_of HT_.out (by kernel_rfl)) ?_
 have n0_ : Aside0 (Kd.R kTie 74 ((w64.setCell ⟨gb119, 0, none⟩ (.int .i64 a0_0)).setCell ⟨gb119, 1, none⟩ (.slice Ao65 y115.length co65)) w.heap.size (fun k_ => some k_ ≠ (.slice Ao65 y115.length co65 : Value).ownBlock) v122 y104) := ⟨by (with_reducible repeat (first | apply Kd.R_alloc | apply Kd.R_drewN | apply Kd.R_drew)); exact rf2 HO123.out BK119.out (fun _ hk => hk.1)⟩
 have n1_ : Aside0 (Kd.R kTie 74 ((w64.setCell ⟨gb119, 0, none⟩ (.int .i64 a0_0)).setCell ⟨gb119, 1, none⟩ (.slice Ao65 y115.length co65)) w.heap.size (fun k_ => some k_ ≠ (v122 : Value).ownBlock) (.slice Ao65 y115.length co65) y115) := ⟨by (with_reducible repeat (first | apply Kd.R_alloc | apply Kd.R_drewN | apply Kd.R_drew)); exact rf2 HO125.out BK119.out (fun _ hk => hk.1)⟩
 have n2_ : Aside0 (((w64.setCell ⟨gb119, 0, none⟩ (.int .i64 a0_0)).setCell ⟨gb119, 1, none⟩ (.slice Ao65 y115.length co65)).heap[gb110]? = some (.cells #[.int .i64 a0_0, .slice A0_1 l0_1.length c0_1] 31 (0, 0))) := ⟨qf BK110.out⟩
 have n3_ : Aside0 (((w64.setCell ⟨gb119, 0, none⟩ (.int .i64 a0_0)).setCell ⟨gb119, 1, none⟩ (.slice Ao65 y115.length co65)).heap[gb100]? = some (.cells #[.int .i64 0, .slice none 0 0] 31 (0, 0))) := ⟨qf BK100.out⟩
 have n4_ : Aside0 (((w64.setCell ⟨gb119, 0, none⟩ (.int .i64 a0_0)).setCell ⟨gb119, 1, none⟩ (.slice Ao65 y115.length co65)).heap[gb119]? = some (.cells #[.int .i64 a0_0, .slice Ao65 y115.length co65] 31 (0, 0))) := ⟨by (with_reducible repeat (first | refine blk_drewN ?_ _ | refine blk_drew ?_ | refine blk_alloc ?_ _)); refine blk_put (cs := #[.int .i64 a0_0, .slice none 0 0]) ?_ 1 _ rfl; (with_reducible repeat (first | refine blk_drewN ?_ _ | refine blk_drew ?_ | refine blk_alloc ?_ _)); refine blk_put (cs := #[.int .i64 0, .slice none 0 0]) ?_ 0 _ rfl; (with_reducible repeat (first | refine blk_drewN ?_ _ | refine blk_drew ?_ | refine blk_alloc ?_ _)); exact BK119.out⟩
 have n5_ : Aside0 (Below w.heap.size w ((w64.setCell ⟨gb119, 0, none⟩ (.int .i64 a0_0)).setCell ⟨gb119, 1, none⟩ (.slice Ao65 y115.length co65))) := ⟨qb HB.out⟩
 (try clear HO123)
 (try clear HO125)
 (try clear BK110)
 (try clear BK100)
 (try clear BK119)
 (try clear HB)
 generalize ((w64.setCell ⟨gb119, 0, none⟩ (.int .i64 a0_0)).setCell ⟨gb119, 1, none⟩ (.slice Ao65 y115.length co65)) = w68 at n0_ n1_ n2_ n3_ n4_ n5_ ⊢
 have HO123 := n0_
 have HO125 := n1_
 have BK110 := n2_
 have BK100 := n3_
 have BK119 := n4_
 have HB := n5_
 clear n0_ n1_ n2_ n3_ n4_ n5_
 have hnb69 := NB119_110.out
 have hnc69 := NB110_119.out
 have hnb70 := NB119_100.out
 have hnc70 := NB100_119.out
 have hcz71_0 : w68.cell? ⟨gb119, 0, none⟩ = some (.int .i64 a0_0) := (blk_cell BK119.out 0).trans rfl
 have hcz71_1 : w68.cell? ⟨gb119, 1, none⟩ = some (.slice Ao65 y115.length co65) := (blk_cell BK119.out 1).trans rfl
 have hfz71_0 := blk_frozen BK119.out 0
 have hfz71_1 := blk_frozen BK119.out 1
 try go_wp2_with (first | ((with_reducible refine gate_callee (f := 61) rfl ?_); refine gl 50 Try.func61 #[.slice Ao65 y115.length co65, .func (.func 62) #[] #[]] ?_; (with_reducible refine (slices_SortFunc_Tie.calls kj3 (fun k_ => some k_ = (.slice Ao65 y115.length co65 : Value).ownBlock) (.slice Ao65 y115.length co65) y115 t105 w _ ?side1 ?side2 A52.out).mono ?_); (case side1 => exact qb HB.out); (case side2 => exact Kd.R_tight rfl HO125.out); rintro e w72 ⟨rfl, hy0, hb, hkp⟩; refine ⟨_, rfl, ?_⟩; replace BK110 := q0 (blk_kept (qk BK110.out) hkp (fun hs_ => (fun e_ => (Kd.R_ne HO125.out BK110.out (by decide)) e_) hs_)); replace BK100 := q0 (blk_kept (qk BK100.out) hkp (fun hs_ => (fun e_ => (Kd.R_ne HO125.out BK100.out (by decide)) e_) hs_)); replace HO123 := q0 (Kd.R_mono (ok' := fun k_ => some k_ ≠ (.slice Ao65 y115.length co65 : Value).ownBlock) (Kd.R_keptB (HO123.out) hkp (fun k_ hk_ hs_ => (hk_) hs_)) (fun k_ hk_ => hk_.1)); replace BK119 := q0 (blk_kept (qk BK119.out) hkp (fun hs_ => (fun e_ => (Kd.R_ne HO125.out BK119.out (by decide)) e_) hs_)); replace HO125 := q0 (Kd.R_reok rfl hy0 (fun k_ e_ => HO125.out.1 k_ e_)); replace HB := q0 (hb); (try clear hb); (try clear hkp); (try clear hy0); have hcz73_0 : w72.cell? ⟨gb119, 0, none⟩ = some (.int .i64 a0_0) := (blk_cell BK119.out 0).trans rfl; have hcz73_1 : w72.cell? ⟨gb119, 1, none⟩ = some (.slice Ao65 y115.length co65) := (blk_cell BK119.out 1).trans rfl; have hfz73_0 := blk_frozen BK119.out 0; have hfz73_1 := blk_frozen BK119.out 1; have hnb74 := NB100_110.out; have hnc74 := NB110_100.out; have hcz75_0 : w72.cell? ⟨gb100, 0, none⟩ = some (.int .i64 0) := (blk_cell BK100.out 0).trans rfl; have hcz75_1 : w72.cell? ⟨gb100, 1, none⟩ = some (.slice none 0 0) := (blk_cell BK100.out 1).trans rfl; have hfz75_0 := blk_frozen BK100.out 0; have hfz75_1 := blk_frozen BK100.out 1))
 refine bodyPost_ret (results_ct rfl _ _ gb100 31 #[.int .i64 a0_0, .slice Ao65 y115.length co65] (0, 0) _ rfl (by (with_reducible repeat (first | refine blk_drewN ?_ _ | refine blk_drew ?_ | refine blk_alloc ?_ _)); refine blk_put (cs := #[.int .i64 a0_0, .slice none 0 0]) ?_ 1 _ rfl; (with_reducible repeat (first | refine blk_drewN ?_ _ | refine blk_drew ?_ | refine blk_alloc ?_ _)); refine blk_put (cs := #[.int .i64 0, .slice none 0 0]) ?_ 0 _ rfl; (with_reducible repeat (first | refine blk_drewN ?_ _ | refine blk_drew ?_ | refine blk_alloc ?_ _)); exact BK100.out) Try.underlying31 rfl (by kernel_rfl)) rfl ?_
 exact ⟨_, qe, by (with_reducible repeat (first | apply Kd.R_alloc | apply Kd.R_drewN | apply Kd.R_drew)); exact rf2 HO125.out BK100.out (fun _ hk => trivial), qb HB.out⟩

set_option maxHeartbeats 8000000 in
set_option maxRecDepth 100000 in
theorem laws_FnWayMore.calls (k : Nat) (A0 : Option Addr) (c0 : Nat) (l0 : List Int) (A1 : Option Addr) (c1 : Nat) (l1 : List Int) (r : Bool) (w : World) (hr0 : Kd.C (Kd.int .u8) w A0 l0.length l0) (hc0 : l0.length ≤ c0) (hr1 : Kd.C (Kd.int .u8) w A1 l1.length l1) (hc1 : l1.length ≤ c1) (h : laws_FnWayMore.f k l0 l1 = some r) :
    Calls Try.prog 11 #[.slice A0 l0.length c0, .slice A1 l1.length c1] w fun e w' => e = .returned (.bool r) ∧ Below w.heap.size w w' := by
 have hu31 := Try.underlying31
 have HR0 := Aside0.mk hr0
 have HC0 := Aside0.mk hc0
 clear hr0 hc0
 have HR1 := Aside0.mk hr1
 have HC1 := Aside0.mk hc1
 clear hr1 hc1
 have HB := q0 (Below.refl w.heap.size w)
 have H : (if (l0.length : Int) > 1048576 then (laws_FnWayMore.j0 k l0 l1 true) else (laws_FnWayMore.j0 k l0 l1 (decide ((l1.length : Int) > 1048576)))) = some r := h
 clear h
 have HC3 := Aside0.mk H
 clear H
 go_enter Try.func11, Try.ntmps11
 go_upto_region 1 with (fail)
 go_cut [26] (fun v26 wc => ∃ (kq : Nat) (x26_2 : Bool), v26 = .bool x26_2 ∧ Aside0 (laws_FnWayMore.j0 kq l0 l1 x26_2 = some r) ∧ Aside0 (kq ≤ k) ∧ Aside0 (Below w.heap.size w wc))
 case first =>
   have H := HC3.out
   clear HC3
   by_cases c4 : (l0.length : Int) > 1048576
   · rw [if_pos c4] at H
     have c4b0 : decide (1048576 < (l0.length : Int)) = true := decide_eq_true c4
     have c4b1 : decide (1048576 < l0.length) = true := decide_eq_true (by omega)
     clear c4
     (first | rw [c4b0] | (simp only [i64_w, i32_w]; rw [c4b0]) | skip)
     have H' := Aside0.mk H
     clear H
     go_wp2
     go_meet
     case rel => exact ⟨_, (true), qs, H', ⟨by first | omega | exact Nat.le_refl _⟩, ⟨qb HB.out⟩⟩
   rw [if_neg c4] at H
   have c4b0 : decide (1048576 < (l0.length : Int)) = false := decide_eq_false c4
   have c4b1 : decide (1048576 < l0.length) = false := decide_eq_false (by omega)
   clear c4
   (first | rw [c4b0] | (simp only [i64_w, i32_w]; rw [c4b0]) | skip)
   have H' := Aside0.mk H
   clear H
   go_wp2
   go_meet
   case rel => exact ⟨_, (decide ((l1.length : Int) > 1048576)), qs, H', ⟨by first | omega | exact Nat.le_refl _⟩, ⟨qb HB.out⟩⟩
 clear HC3
 try clear c1
 try clear p2
 try clear c4
 try clear c4b0
 try clear c4b1
 obtain ⟨kq, x26_2, rfl, HA, HJ2, HB⟩ := hcut
 rcases kq with _ | kj2
 · exact absurd HA.out (by simp [laws_FnWayMore.j0])
 have H := HA.out
 clear HA
 simp only [laws_FnWayMore.j0] at H
 by_cases c5 : x26_2 = true
 · subst c5
   rw [if_pos rfl] at H
   obtain rfl := Option.some.inj H
   go_wp2
   go_ret
   exact ⟨qe, qb HB.out⟩
 replace c5 := Bool.eq_false_iff.mpr c5
 subst c5
 rw [if_neg nf] at H
 replace H := Option.bind_eq_some_iff.mp H
 obtain ⟨⟨t100, t109, t110, t111⟩, A60, H⟩ := H
 have A6 := Aside0.mk A60
 clear A60
 replace H := Option.bind_eq_some_iff.mp H
 obtain ⟨⟨t101, t112, t113, t114⟩, A70, H⟩ := H
 have A7 := Aside0.mk A70
 clear A70
 replace H := Option.bind_eq_some_iff.mp H
 obtain ⟨⟨t102, t115⟩, A80, H⟩ := H
 have A8 := Aside0.mk A80
 clear A80
 replace H := Option.bind_eq_some_iff.mp H
 obtain ⟨⟨t103, t116⟩, A90, H⟩ := H
 have A9 := Aside0.mk A90
 clear A90
 replace H := Option.bind_eq_some_iff.mp H
 obtain ⟨⟨t104, t117, t118⟩, A119, H⟩ := H
 have A10 := Aside0.mk A119
 clear A119
 have HC11 := Aside0.mk H
 clear H
 go_upto_region 8 with (first | ((with_reducible refine gate_callee (f := 27) rfl ?_); refine gl 29 Try.func27 #[.slice A0 l0.length c0] ?_; (with_reducible refine (spec_DrawWayFind.calls kj2 _ _ l0 t100 t109 t110 t111 _ ?side1 ?side2 A6.out).mono ?_); (case side1 => exact qc (Kd.C_below HR0.out HB.out)); (case side2 => exact HC0.out); rintro e w12 ⟨v120, rfl, ho0, hb⟩; refine ⟨_, rfl, ?_⟩; have HO121 := q0 (Kd.R_lower ho0 (below_size (qb HB.out))); replace HB := q0 (below_step (qb HB.out) hb); (try clear hb); (try clear hb2); (try clear hk); (try clear hi); (try clear ho0)) | ((with_reducible refine gate_dst (N := 5) rfl ?_); (try (refine gate_guard (by rfl) ?_; dsimp only)); refine be 5 #[.int .i64 0, .slice none 0 0] 31 ?_; intro gb122 hg w13 hbox hb; replace HO121 := q0 (Kd.R_below (qr HO121.out) hb); have BK122 := q0 (hbox); have GW122 := q0 ((bs HB.out hg : w.heap.size ≤ gb122)); have GE122 := q0 ((bs HB.out hg : w.heap.size ≤ gb122)); replace HB := q0 (below_step (qb HB.out) hb); clear hb hbox hg; have hcz14_0 : w13.cell? ⟨gb122, 0, none⟩ = some (.int .i64 0) := (blk_cell BK122.out 0).trans rfl; have hcz14_1 : w13.cell? ⟨gb122, 1, none⟩ = some (.slice none 0 0) := (blk_cell BK122.out 1).trans rfl; have hfz14_0 := blk_frozen BK122.out 0; have hfz14_1 := blk_frozen BK122.out 1; obtain ⟨Ao15, co15, eo15⟩ := Kd.R_slice HO121.out; subst eo15) | ((with_reducible refine gate_callee (f := 36) rfl ?_); refine gl 35 Try.func36 #[.slice A1 l1.length c1] ?_; (with_reducible refine (spec_DrawNetAdd.calls kj2 _ _ l1 t101 t112 t113 t114 _ ?side1 ?side2 A7.out).mono ?_); (case side1 => exact Kd.C_below HR1.out (qb HB.out)); (case side2 => exact HC1.out); rintro e w16 ⟨v123, rfl, ho0, hb⟩; refine ⟨_, rfl, ?_⟩; have HO124 := q0 (Kd.R_lower (Kd.R_new' ho0 (Kd.R_lt (by (with_reducible repeat (first | apply Kd.R_alloc | apply Kd.R_drewN | apply Kd.R_drew)); exact (rf2 HO121.out BK122.out (fun _ h_ => h_.1))))) (below_size (qb HB.out))); replace HO121 := q0 (Kd.R_elder' (by (with_reducible repeat (first | apply Kd.R_alloc | apply Kd.R_drewN | apply Kd.R_drew)); exact (rf2 HO121.out BK122.out (fun _ h_ => h_.1))) (Kd.R_base ho0) hb); replace BK122 := q0 (blk_below (g := gb122) (o := .cells #[.int .i64 t100, .slice Ao15 t109.length co15] 31 (0, 0)) (by (with_reducible repeat (first | refine blk_drewN ?_ _ | refine blk_drew ?_ | refine blk_alloc ?_ _)); refine blk_put (cs := #[.int .i64 t100, .slice none 0 0]) ?_ 1 _ rfl; (with_reducible repeat (first | refine blk_drewN ?_ _ | refine blk_drew ?_ | refine blk_alloc ?_ _)); refine blk_put (cs := #[.int .i64 0, .slice none 0 0]) ?_ 0 _ rfl; (with_reducible repeat (first | refine blk_drewN ?_ _ | refine blk_drew ?_ | refine blk_alloc ?_ _)); exact BK122.out) hb); replace HB := q0 (below_step (qb HB.out) hb); (try clear hb); (try clear hb2); (try clear hk); (try clear hi); (try clear ho0)) | ((with_reducible refine gate_dst (N := 8) rfl ?_); (try (refine gate_guard (by rfl) ?_; dsimp only)); refine be 8 #[.int .i64 0, .slice none 0 0] 31 ?_; intro gb125 hg w17 hbox hb; replace HO121 := q0 (Kd.R_below (qr HO121.out) hb); replace HO124 := q0 (Kd.R_below (qr HO124.out) hb); have BK125 := q0 (hbox); have GW125 := q0 ((bs HB.out hg : w.heap.size ≤ gb125)); have GE125 := q0 ((bs HB.out hg : w.heap.size ≤ gb125)); replace HB := q0 (below_step (qb HB.out) hb); have NB122_125 := q0 ((bl BK122.out hg : gb122 ≠ gb125)); have NB125_122 := q0 ((bg BK122.out hg : gb125 ≠ gb122)); replace BK122 := q0 (kb BK122.out hb); clear hb hbox hg; have hnb18 := NB125_122.out; have hnc18 := NB122_125.out; have hcz19_0 : w17.cell? ⟨gb125, 0, none⟩ = some (.int .i64 0) := (blk_cell BK125.out 0).trans rfl; have hcz19_1 : w17.cell? ⟨gb125, 1, none⟩ = some (.slice none 0 0) := (blk_cell BK125.out 1).trans rfl; have hfz19_0 := blk_frozen BK125.out 0; have hfz19_1 := blk_frozen BK125.out 1; obtain ⟨Ao20, co20, eo20⟩ := Kd.R_slice HO124.out; subst eo20; have hcz21_0 : w17.cell? ⟨gb122, 0, none⟩ = some (.int .i64 t100) := (blk_cell BK122.out 0).trans rfl; have hcz21_1 : w17.cell? ⟨gb122, 1, none⟩ = some (.slice Ao15 t109.length co15) := (blk_cell BK122.out 1).trans rfl; have hfz21_0 := blk_frozen BK122.out 0; have hfz21_1 := blk_frozen BK122.out 1) | ((with_reducible refine gate_callee (f := 14) rfl ?_); refine gl 43 Try.func14 #[.agg #[.int .i64 t100, .slice Ao15 t109.length co15], .int .i64 t110, .int .i64 t111] ?_; (with_reducible refine (spec_WayFind.calls kj2 t100 _ _ t109 t110 t111 t102 t115 _ ?side1 ?side2 A8.out).mono ?_); (case side1 => refine (Kd.R_reads' (e := 74) (base := w.heap.size) (ok := fun k_ => (True ∧ some k_ ≠ (.slice Ao20 t112.length co20 : Value).ownBlock)) (n := t109.length) (c := co15) ?_).2.2; exact (by (with_reducible repeat (first | apply Kd.R_alloc | apply Kd.R_drewN | apply Kd.R_drew)); exact (rf2 HO121.out BK125.out (fun _ h_ => h_.1)))); (case side2 => exact (Kd.R_reads' HO121.out).2.1); rintro e w22 ⟨v126, rfl, ho0, hb⟩; refine ⟨_, rfl, ?_⟩; replace HO121 := q0 (Kd.R_below (by (with_reducible repeat (first | apply Kd.R_alloc | apply Kd.R_drewN | apply Kd.R_drew)); exact (rf2 HO121.out BK125.out (fun _ h_ => h_.1))) hb); replace HO124 := q0 (Kd.R_below (by (with_reducible repeat (first | apply Kd.R_alloc | apply Kd.R_drewN | apply Kd.R_drew)); exact (rf2 HO124.out BK125.out (fun _ h_ => h_.1))) hb); have HO127 := q0 (Kd.R_lower ho0 (below_size (qb HB.out))); replace BK122 := q0 (kf BK122.out hb); replace BK125 := q0 (blk_below (g := gb125) (o := .cells #[.int .i64 t101, .slice Ao20 t112.length co20] 31 (0, 0)) (by (with_reducible repeat (first | refine blk_drewN ?_ _ | refine blk_drew ?_ | refine blk_alloc ?_ _)); refine blk_put (cs := #[.int .i64 t101, .slice none 0 0]) ?_ 1 _ rfl; (with_reducible repeat (first | refine blk_drewN ?_ _ | refine blk_drew ?_ | refine blk_alloc ?_ _)); refine blk_put (cs := #[.int .i64 0, .slice none 0 0]) ?_ 0 _ rfl; (with_reducible repeat (first | refine blk_drewN ?_ _ | refine blk_drew ?_ | refine blk_alloc ?_ _)); exact BK125.out) hb); replace HB := q0 (below_step (qb HB.out) hb); (try clear hb); (try clear hb2); (try clear hk); (try clear hi); (try clear ho0); have hcz23_0 : w22.cell? ⟨gb122, 0, none⟩ = some (.int .i64 t100) := (blk_cell BK122.out 0).trans rfl; have hcz23_1 : w22.cell? ⟨gb122, 1, none⟩ = some (.slice Ao15 t109.length co15) := (blk_cell BK122.out 1).trans rfl; have hfz23_0 := blk_frozen BK122.out 0; have hfz23_1 := blk_frozen BK122.out 1) | ((with_reducible refine gate_callee (f := 16) rfl ?_); refine gl 50 Try.func16 #[.agg #[.int .i64 t100, .slice Ao15 t109.length co15], .int .i64 t110, .int .i64 t111] ?_; (with_reducible refine (impl_WayFind.calls kj2 t100 _ _ t109 t110 t111 t103 t116 _ ?side1 ?side2 A9.out).mono ?_); (case side1 => exact qc (Kd.R_reads' HO121.out).2.2); (case side2 => exact (Kd.R_reads' HO121.out).2.1); rintro e w24 ⟨v128, rfl, ho0, hb⟩; refine ⟨_, rfl, ?_⟩; replace HO121 := q0 (Kd.R_below (qr HO121.out) hb); replace HO124 := q0 (Kd.R_below (qr HO124.out) hb); have HO129 := q0 (Kd.R_lower (Kd.R_new' ho0 (Kd.R_lt (qr HO127.out))) (below_size (qb HB.out))); replace HO127 := q0 (Kd.R_elder' (qr HO127.out) (Kd.R_base ho0) hb); replace BK122 := q0 (kb BK122.out hb); replace BK125 := q0 (kb BK125.out hb); replace HB := q0 (below_step (qb HB.out) hb); (try clear hb); (try clear hb2); (try clear hk); (try clear hi); (try clear ho0); have hcz25_0 : w24.cell? ⟨gb122, 0, none⟩ = some (.int .i64 t100) := (blk_cell BK122.out 0).trans rfl; have hcz25_1 : w24.cell? ⟨gb122, 1, none⟩ = some (.slice Ao15 t109.length co15) := (blk_cell BK122.out 1).trans rfl; have hfz25_0 := blk_frozen BK122.out 0; have hfz25_1 := blk_frozen BK122.out 1) | ((with_reducible refine gate_callee (f := 37) rfl ?_); refine gl 57 Try.func37 #[.agg #[.int .i64 t100, .slice Ao15 t109.length co15], .int .i64 t113, .int .i64 t114] ?_; (with_reducible refine (impl_NetAdd.calls kj2 t100 _ _ t109 t113 t114 t104 t117 t118 _ ?side1 ?side2 A10.out).mono ?_); (case side1 => exact qc (Kd.R_reads' HO121.out).2.2); (case side2 => exact (Kd.R_reads' HO121.out).2.1); rintro e w26 ⟨v130, rfl, ho0, hb⟩; refine ⟨_, rfl, ?_⟩; replace HO127 := q0 (Kd.R_below (qr HO127.out) hb); replace HO129 := q0 (Kd.R_below (qr HO129.out) hb); have HO131 := q0 (Kd.R_lower (Kd.R_new' (Kd.R_new' ho0 (Kd.R_lt (qr HO121.out))) (Kd.R_lt (qr HO124.out))) (below_size (qb HB.out))); replace HO121 := q0 (Kd.R_elder' (qr HO121.out) (Kd.R_base ho0) hb); replace HO124 := q0 (Kd.R_elder' (qr HO124.out) (Kd.R_base ho0) hb); replace BK122 := q0 (kb BK122.out hb); replace BK125 := q0 (kb BK125.out hb); replace HB := q0 (below_step (qb HB.out) hb); (try clear hb); (try clear hb2); (try clear hk); (try clear hi); (try clear ho0)) | ((with_reducible refine gate_dst (N := 15) rfl ?_); (try (refine gate_guard (by rfl) ?_; dsimp only)); refine be 15 #[.int .i64 0, .slice none 0 0] 31 ?_; intro gb132 hg w27 hbox hb; replace HO121 := q0 (Kd.R_below (qr HO121.out) hb); replace HO124 := q0 (Kd.R_below (qr HO124.out) hb); replace HO127 := q0 (Kd.R_below (qr HO127.out) hb); replace HO129 := q0 (Kd.R_below (qr HO129.out) hb); replace HO131 := q0 (Kd.R_below (qr HO131.out) hb); have BK132 := q0 (hbox); have GW132 := q0 ((bs HB.out hg : w.heap.size ≤ gb132)); have GE132 := q0 ((bs HB.out hg : w.heap.size ≤ gb132)); replace HB := q0 (below_step (qb HB.out) hb); have NB122_132 := q0 ((bl BK122.out hg : gb122 ≠ gb132)); have NB132_122 := q0 ((bg BK122.out hg : gb132 ≠ gb122)); replace BK122 := q0 (kb BK122.out hb); have NB125_132 := q0 ((bl BK125.out hg : gb125 ≠ gb132)); have NB132_125 := q0 ((bg BK125.out hg : gb132 ≠ gb125)); replace BK125 := q0 (kb BK125.out hb); clear hb hbox hg; have hnb28 := NB132_122.out; have hnc28 := NB122_132.out; have hnb29 := NB132_125.out; have hnc29 := NB125_132.out; have hcz30_0 : w27.cell? ⟨gb132, 0, none⟩ = some (.int .i64 0) := (blk_cell BK132.out 0).trans rfl; have hcz30_1 : w27.cell? ⟨gb132, 1, none⟩ = some (.slice none 0 0) := (blk_cell BK132.out 1).trans rfl; have hfz30_0 := blk_frozen BK132.out 0; have hfz30_1 := blk_frozen BK132.out 1; obtain ⟨Ao31, co31, eo31⟩ := Kd.R_slice HO131.out; subst eo31))
 (try simp only [Act.put, List.setIfInBounds_toArray, List.set_cons_zero, List.set_cons_succ])
 go_cut [76] (fun v76 wc => ∃ (kq : Nat) (x76_10 : Bool), v76 = .bool x76_10 ∧ Aside0 (laws_FnWayMore.j1 kq t110 t111 t102 t115 t103 t116 x76_10 t104 t117 = some r) ∧ Aside0 (kq ≤ kj2) ∧ Aside0 (Kd.R (Kd.int .i64) 3 wc w.heap.size (fun k_ => some k_ ≠ (v128 : Value).ownBlock) v126 t102) ∧ Aside0 (Kd.R (Kd.int .i64) 3 wc w.heap.size (fun k_ => some k_ ≠ (v126 : Value).ownBlock) v128 t103) ∧ Aside0 (Kd.R kTie 74 wc w.heap.size (fun k_ => some k_ ≠ ((.slice Ao20 t112.length co20) : Value).ownBlock ∧ some k_ ≠ ((.slice Ao31 t117.length co31) : Value).ownBlock) (.slice Ao15 t109.length co15) t109) ∧ Aside0 (Kd.R kTie 74 wc w.heap.size (fun k_ => some k_ ≠ ((.slice Ao15 t109.length co15) : Value).ownBlock ∧ some k_ ≠ ((.slice Ao31 t117.length co31) : Value).ownBlock) (.slice Ao20 t112.length co20) t112) ∧ Aside0 (Kd.R kTie 74 wc w.heap.size (fun k_ => some k_ ≠ ((.slice Ao15 t109.length co15) : Value).ownBlock ∧ some k_ ≠ ((.slice Ao20 t112.length co20) : Value).ownBlock) (.slice Ao31 t117.length co31) t117) ∧ Aside0 (wc.heap[gb122]? = some (.cells #[.int .i64 t100, (.slice Ao15 t109.length co15)] 31 (0, 0))) ∧ Aside0 (wc.heap[gb125]? = some (.cells #[.int .i64 t101, (.slice Ao20 t112.length co20)] 31 (0, 0))) ∧ Aside0 (wc.heap[gb132]? = some (.cells #[.int .i64 t104, (.slice Ao31 t117.length co31)] 31 (0, 0))) ∧ Aside0 (Below w.heap.size w wc))
 case first =>
   have H := HC11.out
   clear HC11
   by_cases c32 : (t116 != t115) = true
   · rw [if_pos c32] at H
     have c32b0 : (t116 != t115) = true := c32
     (try (have c32b1 : decide (t116 = t115) = false := by simpa using c32))
     (try (have c32b2 : (t116 == t115) = false := by simpa using c32))
     (try (have c32b3 : ¬ (t116 = t115) := by simpa using c32))
     clear c32
     (first | rw [c32b0] | (simp only [i64_w, i32_w]; rw [c32b0]) | skip)
     have H' := Aside0.mk H
     clear H
     go_wp2
     go_meet
     case rel => exact ⟨_, (true), qs, H', ⟨by have := HJ2.out; first | omega | exact Nat.le_refl _⟩, ⟨by (with_reducible repeat (first | apply Kd.R_alloc | apply Kd.R_drewN | apply Kd.R_drew)); exact rf2 HO127.out BK132.out (fun _ hk => hk.1.2)⟩, ⟨by (with_reducible repeat (first | apply Kd.R_alloc | apply Kd.R_drewN | apply Kd.R_drew)); exact rf2 HO129.out BK132.out (fun _ hk => hk.1.2)⟩, ⟨by (with_reducible repeat (first | apply Kd.R_alloc | apply Kd.R_drewN | apply Kd.R_drew)); exact rf2 HO121.out BK132.out (fun _ hk => ⟨hk.1.1.2, hk.1.2⟩)⟩, ⟨by (with_reducible repeat (first | apply Kd.R_alloc | apply Kd.R_drewN | apply Kd.R_drew)); exact rf2 HO124.out BK132.out (fun _ hk => ⟨hk.1.1.2, hk.1.2⟩)⟩, ⟨by (with_reducible repeat (first | apply Kd.R_alloc | apply Kd.R_drewN | apply Kd.R_drew)); exact rf2 HO131.out BK132.out (fun _ hk => ⟨hk.1.1.2, hk.1.2⟩)⟩, ⟨qf BK122.out⟩, ⟨qf BK125.out⟩, ⟨by (with_reducible repeat (first | refine blk_drewN ?_ _ | refine blk_drew ?_ | refine blk_alloc ?_ _)); refine blk_put (cs := #[.int .i64 t104, .slice none 0 0]) ?_ 1 _ rfl; (with_reducible repeat (first | refine blk_drewN ?_ _ | refine blk_drew ?_ | refine blk_alloc ?_ _)); refine blk_put (cs := #[.int .i64 0, .slice none 0 0]) ?_ 0 _ rfl; (with_reducible repeat (first | refine blk_drewN ?_ _ | refine blk_drew ?_ | refine blk_alloc ?_ _)); exact BK132.out⟩, ⟨qb HB.out⟩⟩
   rw [if_neg c32] at H
   have c32b0 : (t116 != t115) = false := by simpa using c32
   (try (have c32b1 : decide (t116 = t115) = true := by simpa using c32))
   (try (have c32b2 : (t116 == t115) = true := by simpa using c32))
   clear c32
   (first | rw [c32b0] | (simp only [i64_w, i32_w]; rw [c32b0]) | skip)
   replace H := Option.bind_eq_some_iff.mp H
   obtain ⟨t105, A133, H⟩ := H
   have A33 := Aside0.mk A133
   clear A133
   by_cases c34 : t105 = true
   rotate_left
   · replace c34 := Bool.eq_false_iff.mpr c34
     subst c34
     rw [if_neg nf] at H
     have H' := Aside0.mk H
     clear H
     obtain ⟨Ao40, co40, eo40⟩ := Kd.R_slice HO129.out
     subst eo40
     obtain ⟨Ao41, co41, eo41⟩ := Kd.R_slice HO127.out
     subst eo41
     go_wp2_with (first | (go_at_call 28; (with_reducible refine (laws_loInts.calls kj2 _ _ t103 _ _ t102 false _ ?side1 ?side2 ?side3 ?side4 A33.out).mono ?_); (case side1 => refine (Kd.R_reads' (e := 3) (base := w.heap.size) (ok := fun k_ => (True ∧ some k_ ≠ (.slice Ao41 t102.length co41 : Value).ownBlock)) (n := t103.length) (c := co40) ?_).2.2; exact (by (with_reducible repeat (first | apply Kd.R_alloc | apply Kd.R_drewN | apply Kd.R_drew)); exact (rf2 HO129.out BK132.out (fun _ h_ => h_.1)))); (case side2 => exact (Kd.R_reads' HO129.out).2.1); (case side3 => refine (Kd.R_reads' (e := 3) (base := w.heap.size) (ok := fun k_ => (True ∧ some k_ ≠ (.slice Ao40 t103.length co40 : Value).ownBlock)) (n := t102.length) (c := co41) ?_).2.2; exact (by (with_reducible repeat (first | apply Kd.R_alloc | apply Kd.R_drewN | apply Kd.R_drew)); exact (rf2 HO127.out BK132.out (fun _ h_ => h_.1)))); (case side4 => exact (Kd.R_reads' HO127.out).2.1); rintro e w' ⟨rfl, ⟨nd, rfl⟩⟩))
     go_meet
     case rel => exact ⟨_, (true), qs, H', ⟨by have := HJ2.out; first | omega | exact Nat.le_refl _⟩, ⟨by (with_reducible repeat (first | apply Kd.R_alloc | apply Kd.R_drewN | apply Kd.R_drew)); exact rf2 HO127.out BK132.out (fun _ hk => hk.1.2)⟩, ⟨by (with_reducible repeat (first | apply Kd.R_alloc | apply Kd.R_drewN | apply Kd.R_drew)); exact rf2 HO129.out BK132.out (fun _ hk => hk.1.2)⟩, ⟨by (with_reducible repeat (first | apply Kd.R_alloc | apply Kd.R_drewN | apply Kd.R_drew)); exact rf2 HO121.out BK132.out (fun _ hk => ⟨hk.1.1.2, hk.1.2⟩)⟩, ⟨by (with_reducible repeat (first | apply Kd.R_alloc | apply Kd.R_drewN | apply Kd.R_drew)); exact rf2 HO124.out BK132.out (fun _ hk => ⟨hk.1.1.2, hk.1.2⟩)⟩, ⟨by (with_reducible repeat (first | apply Kd.R_alloc | apply Kd.R_drewN | apply Kd.R_drew)); exact rf2 HO131.out BK132.out (fun _ hk => ⟨hk.1.1.2, hk.1.2⟩)⟩, ⟨qf BK122.out⟩, ⟨qf BK125.out⟩, ⟨by (with_reducible repeat (first | refine blk_drewN ?_ _ | refine blk_drew ?_ | refine blk_alloc ?_ _)); refine blk_put (cs := #[.int .i64 t104, .slice none 0 0]) ?_ 1 _ rfl; (with_reducible repeat (first | refine blk_drewN ?_ _ | refine blk_drew ?_ | refine blk_alloc ?_ _)); refine blk_put (cs := #[.int .i64 0, .slice none 0 0]) ?_ 0 _ rfl; (with_reducible repeat (first | refine blk_drewN ?_ _ | refine blk_drew ?_ | refine blk_alloc ?_ _)); exact BK132.out⟩, ⟨qb HB.out⟩⟩
   subst c34
   rw [if_pos rfl] at H
   by_cases c35 : t116 = true
   · subst c35
     rw [if_pos rfl] at H
     have H' := Aside0.mk H
     clear H
     obtain ⟨Ao36, co36, eo36⟩ := Kd.R_slice HO129.out
     subst eo36
     obtain ⟨Ao37, co37, eo37⟩ := Kd.R_slice HO127.out
     subst eo37
     go_wp2_with (first | (go_at_call 28; (with_reducible refine (laws_loInts.calls kj2 _ _ t103 _ _ t102 true _ ?side1 ?side2 ?side3 ?side4 A33.out).mono ?_); (case side1 => refine (Kd.R_reads' (e := 3) (base := w.heap.size) (ok := fun k_ => (True ∧ some k_ ≠ (.slice Ao37 t102.length co37 : Value).ownBlock)) (n := t103.length) (c := co36) ?_).2.2; exact (by (with_reducible repeat (first | apply Kd.R_alloc | apply Kd.R_drewN | apply Kd.R_drew)); exact (rf2 HO129.out BK132.out (fun _ h_ => h_.1)))); (case side2 => exact (Kd.R_reads' HO129.out).2.1); (case side3 => refine (Kd.R_reads' (e := 3) (base := w.heap.size) (ok := fun k_ => (True ∧ some k_ ≠ (.slice Ao36 t103.length co36 : Value).ownBlock)) (n := t102.length) (c := co37) ?_).2.2; exact (by (with_reducible repeat (first | apply Kd.R_alloc | apply Kd.R_drewN | apply Kd.R_drew)); exact (rf2 HO127.out BK132.out (fun _ h_ => h_.1)))); (case side4 => exact (Kd.R_reads' HO127.out).2.1); rintro e w' ⟨rfl, ⟨nd, rfl⟩⟩))
     go_meet
     case rel => exact ⟨_, (!t118), qs, H', ⟨by have := HJ2.out; first | omega | exact Nat.le_refl _⟩, ⟨by (with_reducible repeat (first | apply Kd.R_alloc | apply Kd.R_drewN | apply Kd.R_drew)); exact rf2 HO127.out BK132.out (fun _ hk => hk.1.2)⟩, ⟨by (with_reducible repeat (first | apply Kd.R_alloc | apply Kd.R_drewN | apply Kd.R_drew)); exact rf2 HO129.out BK132.out (fun _ hk => hk.1.2)⟩, ⟨by (with_reducible repeat (first | apply Kd.R_alloc | apply Kd.R_drewN | apply Kd.R_drew)); exact rf2 HO121.out BK132.out (fun _ hk => ⟨hk.1.1.2, hk.1.2⟩)⟩, ⟨by (with_reducible repeat (first | apply Kd.R_alloc | apply Kd.R_drewN | apply Kd.R_drew)); exact rf2 HO124.out BK132.out (fun _ hk => ⟨hk.1.1.2, hk.1.2⟩)⟩, ⟨by (with_reducible repeat (first | apply Kd.R_alloc | apply Kd.R_drewN | apply Kd.R_drew)); exact rf2 HO131.out BK132.out (fun _ hk => ⟨hk.1.1.2, hk.1.2⟩)⟩, ⟨qf BK122.out⟩, ⟨qf BK125.out⟩, ⟨by (with_reducible repeat (first | refine blk_drewN ?_ _ | refine blk_drew ?_ | refine blk_alloc ?_ _)); refine blk_put (cs := #[.int .i64 t104, .slice none 0 0]) ?_ 1 _ rfl; (with_reducible repeat (first | refine blk_drewN ?_ _ | refine blk_drew ?_ | refine blk_alloc ?_ _)); refine blk_put (cs := #[.int .i64 0, .slice none 0 0]) ?_ 0 _ rfl; (with_reducible repeat (first | refine blk_drewN ?_ _ | refine blk_drew ?_ | refine blk_alloc ?_ _)); exact BK132.out⟩, ⟨qb HB.out⟩⟩
   replace c35 := Bool.eq_false_iff.mpr c35
   subst c35
   rw [if_neg nf] at H
   have H' := Aside0.mk H
   clear H
   obtain ⟨Ao38, co38, eo38⟩ := Kd.R_slice HO129.out
   subst eo38
   obtain ⟨Ao39, co39, eo39⟩ := Kd.R_slice HO127.out
   subst eo39
   go_wp2_with (first | (go_at_call 28; (with_reducible refine (laws_loInts.calls kj2 _ _ t103 _ _ t102 true _ ?side1 ?side2 ?side3 ?side4 A33.out).mono ?_); (case side1 => refine (Kd.R_reads' (e := 3) (base := w.heap.size) (ok := fun k_ => (True ∧ some k_ ≠ (.slice Ao39 t102.length co39 : Value).ownBlock)) (n := t103.length) (c := co38) ?_).2.2; exact (by (with_reducible repeat (first | apply Kd.R_alloc | apply Kd.R_drewN | apply Kd.R_drew)); exact (rf2 HO129.out BK132.out (fun _ h_ => h_.1)))); (case side2 => exact (Kd.R_reads' HO129.out).2.1); (case side3 => refine (Kd.R_reads' (e := 3) (base := w.heap.size) (ok := fun k_ => (True ∧ some k_ ≠ (.slice Ao38 t103.length co38 : Value).ownBlock)) (n := t102.length) (c := co39) ?_).2.2; exact (by (with_reducible repeat (first | apply Kd.R_alloc | apply Kd.R_drewN | apply Kd.R_drew)); exact (rf2 HO127.out BK132.out (fun _ h_ => h_.1)))); (case side4 => exact (Kd.R_reads' HO127.out).2.1); rintro e w' ⟨rfl, ⟨nd, rfl⟩⟩))
   go_meet
   case rel => exact ⟨_, (true), qs, H', ⟨by have := HJ2.out; first | omega | exact Nat.le_refl _⟩, ⟨by (with_reducible repeat (first | apply Kd.R_alloc | apply Kd.R_drewN | apply Kd.R_drew)); exact rf2 HO127.out BK132.out (fun _ hk => hk.1.2)⟩, ⟨by (with_reducible repeat (first | apply Kd.R_alloc | apply Kd.R_drewN | apply Kd.R_drew)); exact rf2 HO129.out BK132.out (fun _ hk => hk.1.2)⟩, ⟨by (with_reducible repeat (first | apply Kd.R_alloc | apply Kd.R_drewN | apply Kd.R_drew)); exact rf2 HO121.out BK132.out (fun _ hk => ⟨hk.1.1.2, hk.1.2⟩)⟩, ⟨by (with_reducible repeat (first | apply Kd.R_alloc | apply Kd.R_drewN | apply Kd.R_drew)); exact rf2 HO124.out BK132.out (fun _ hk => ⟨hk.1.1.2, hk.1.2⟩)⟩, ⟨by (with_reducible repeat (first | apply Kd.R_alloc | apply Kd.R_drewN | apply Kd.R_drew)); exact rf2 HO131.out BK132.out (fun _ hk => ⟨hk.1.1.2, hk.1.2⟩)⟩, ⟨qf BK122.out⟩, ⟨qf BK125.out⟩, ⟨by (with_reducible repeat (first | refine blk_drewN ?_ _ | refine blk_drew ?_ | refine blk_alloc ?_ _)); refine blk_put (cs := #[.int .i64 t104, .slice none 0 0]) ?_ 1 _ rfl; (with_reducible repeat (first | refine blk_drewN ?_ _ | refine blk_drew ?_ | refine blk_alloc ?_ _)); refine blk_put (cs := #[.int .i64 0, .slice none 0 0]) ?_ 0 _ rfl; (with_reducible repeat (first | refine blk_drewN ?_ _ | refine blk_drew ?_ | refine blk_alloc ?_ _)); exact BK132.out⟩, ⟨qb HB.out⟩⟩
 clear HC11
 try clear c1
 try clear c2
 try clear p2
 try clear c3
 try clear c4
 try clear c4b0
 try clear c4b1
 try clear c5
 try clear c11
 try clear c14
 try clear c16
 try clear c18
 try clear c27
 try clear c28
 try clear c29
 try clear c32
 try clear c32b0
 try clear c32b1
 try clear c32b2
 try clear c34
 try clear c35
 try clear c36
 try clear c37
 try clear hcz14_0
 try clear hcz14_1
 try clear hcz19_0
 try clear hcz19_1
 try clear hcz21_0
 try clear hcz21_1
 try clear hcz23_0
 try clear hcz23_1
 try clear hcz25_0
 try clear hcz25_1
 try clear hcz30_0
 try clear hcz30_1
 try clear hfz14_0
 try clear hfz14_1
 try clear hfz19_0
 try clear hfz19_1
 try clear hfz21_0
 try clear hfz21_1
 try clear hfz23_0
 try clear hfz23_1
 try clear hfz25_0
 try clear hfz25_1
 try clear hfz30_0
 try clear hfz30_1
 try clear p2
 obtain ⟨kq, x76_10, rfl, HA, HJ10, HO_11, HO_13, HO_101001, HO_102001, HO_105001, BK122, BK125, BK132, HB⟩ := hcut
 rcases kq with _ | kj10
 · exact absurd HA.out (by simp [laws_FnWayMore.j1])
 have H := HA.out
 clear HA
 simp only [laws_FnWayMore.j1] at H
 by_cases c42 : x76_10 = true
 · subst c42
   rw [if_pos rfl] at H
   by_cases c43 : (t116 == t115) = true
   rotate_left
   · rw [if_neg c43] at H
     have c43b0 : (t116 == t115) = false := by simpa using c43
     (try (have c43b1 : decide (t116 = t115) = false := by simpa using c43))
     (try (have c43b2 : (t116 == t115) = false := by simpa using c43))
     (try (have c43b3 : ¬ (t116 = t115) := by simpa using c43))
     clear c43
     obtain rfl := Option.some.inj H
     go_wp2
     go_ret
     exact ⟨qe, qb HB.out⟩
   rw [if_pos c43] at H
   have c43b0 : (t116 == t115) = true := c43
   (try (have c43b1 : decide (t116 = t115) = true := by simpa using c43))
   (try (have c43b2 : (t116 == t115) = true := by simpa using c43))
   clear c43
   replace H := Option.bind_eq_some_iff.mp H
   obtain ⟨t106, A134, H⟩ := H
   have A44 := Aside0.mk A134
   clear A134
   obtain rfl := Option.some.inj H
   obtain ⟨Ao45, co45, eo45⟩ := Kd.R_slice HO_13.out
   subst eo45
   obtain ⟨Ao46, co46, eo46⟩ := Kd.R_slice HO_11.out
   subst eo46
   go_wp2_with (first | (go_at_call 28; (with_reducible refine (laws_loInts.calls kj10 _ _ t103 _ _ t102 t106 _ ?side1 ?side2 ?side3 ?side4 A44.out).mono ?_); (case side1 => exact qc (Kd.R_reads' HO_13.out).2.2); (case side2 => exact (Kd.R_reads' HO_13.out).2.1); (case side3 => exact qc (Kd.R_reads' HO_11.out).2.2); (case side4 => exact (Kd.R_reads' HO_11.out).2.1); rintro e w' ⟨rfl, ⟨nd, rfl⟩⟩))
   go_ret
   exact ⟨qe, qb HB.out⟩
 replace c42 := Bool.eq_false_iff.mpr c42
 subst c42
 rw [if_neg nf] at H
 replace H := Option.bind_eq_some_iff.mp H
 obtain ⟨⟨t107, t135⟩, A136, H⟩ := H
 have A47 := Aside0.mk A136
 clear A136
 by_cases c48 : t135 = true
 rotate_left
 · replace c48 := Bool.eq_false_iff.mpr c48
   subst c48
   rw [if_neg nf] at H
   obtain rfl := Option.some.inj H
   have hnb65 := NB132_122.out
   have hnc65 := NB122_132.out
   have hnb66 := NB132_125.out
   have hnc66 := NB125_132.out
   have hcz67_0 : wc.cell? ⟨gb132, 0, none⟩ = some (.int .i64 t104) := (blk_cell BK132.out 0).trans rfl
   have hcz67_1 : wc.cell? ⟨gb132, 1, none⟩ = some (.slice Ao31 t117.length co31) := (blk_cell BK132.out 1).trans rfl
   have hfz67_0 := blk_frozen BK132.out 0
   have hfz67_1 := blk_frozen BK132.out 1
   go_wp2_with (first | ((with_reducible refine gate_callee (f := 16) rfl ?_); refine gl 89 Try.func16 #[.agg #[.int .i64 t104, .slice Ao31 t117.length co31], .int .i64 t110, .int .i64 t111] ?_; (with_reducible refine (impl_WayFind.calls kj10 t104 _ _ t117 t110 t111 t107 false _ ?side1 ?side2 A47.out).mono ?_); (case side1 => exact qc (Kd.R_reads' HO_105001.out).2.2); (case side2 => exact (Kd.R_reads' HO_105001.out).2.1); rintro e w68 ⟨v138, rfl, ho0, hb⟩; refine ⟨_, rfl, ?_⟩; replace HO_101001 := q0 (Kd.R_below (qr HO_101001.out) hb); replace HO_102001 := q0 (Kd.R_below (qr HO_102001.out) hb); replace HO_105001 := q0 (Kd.R_below (qr HO_105001.out) hb); have HO139 := q0 (Kd.R_lower (Kd.R_new' (Kd.R_new' ho0 (Kd.R_lt (qr HO_11.out))) (Kd.R_lt (qr HO_13.out))) (below_size (qb HB.out))); replace HO_11 := q0 (Kd.R_elder' (qr HO_11.out) (Kd.R_base ho0) hb); replace HO_13 := q0 (Kd.R_elder' (qr HO_13.out) (Kd.R_base ho0) hb); replace BK122 := q0 (kb BK122.out hb); replace BK125 := q0 (kb BK125.out hb); replace BK132 := q0 (kb BK132.out hb); replace HB := q0 (below_step (qb HB.out) hb); (try clear hb); (try clear hb2); (try clear hk); (try clear hi); (try clear ho0)))
   go_ret
   exact ⟨qe, qb HB.out⟩
 subst c48
 rw [if_pos rfl] at H
 by_cases c49 : (t107.length : Int) ≤ (t103.length : Int)
 rotate_left
 · rw [if_neg c49] at H
   have c49b0 : decide ((t107.length : Int) ≤ (t103.length : Int)) = false := decide_eq_false c49
   have c49b1 : decide (t107.length ≤ t103.length) = false := decide_eq_false (fun h => c49 (Int.ofNat_le.mpr h))
   clear c49
   obtain rfl := Option.some.inj H
   have hnb59 := NB132_122.out
   have hnc59 := NB122_132.out
   have hnb60 := NB132_125.out
   have hnc60 := NB125_132.out
   have hcz61_0 : wc.cell? ⟨gb132, 0, none⟩ = some (.int .i64 t104) := (blk_cell BK132.out 0).trans rfl
   have hcz61_1 : wc.cell? ⟨gb132, 1, none⟩ = some (.slice Ao31 t117.length co31) := (blk_cell BK132.out 1).trans rfl
   have hfz61_0 := blk_frozen BK132.out 0
   have hfz61_1 := blk_frozen BK132.out 1
   go_wp2_with (first | ((with_reducible refine gate_callee (f := 16) rfl ?_); refine gl 89 Try.func16 #[.agg #[.int .i64 t104, .slice Ao31 t117.length co31], .int .i64 t110, .int .i64 t111] ?_; (with_reducible refine (impl_WayFind.calls kj10 t104 _ _ t117 t110 t111 t107 true _ ?side1 ?side2 A47.out).mono ?_); (case side1 => exact qc (Kd.R_reads' HO_105001.out).2.2); (case side2 => exact (Kd.R_reads' HO_105001.out).2.1); rintro e w62 ⟨v138, rfl, ho0, hb⟩; refine ⟨_, rfl, ?_⟩; replace HO_101001 := q0 (Kd.R_below (qr HO_101001.out) hb); replace HO_102001 := q0 (Kd.R_below (qr HO_102001.out) hb); replace HO_105001 := q0 (Kd.R_below (qr HO_105001.out) hb); have HO139 := q0 (Kd.R_lower (Kd.R_new' (Kd.R_new' ho0 (Kd.R_lt (qr HO_11.out))) (Kd.R_lt (qr HO_13.out))) (below_size (qb HB.out))); replace HO_11 := q0 (Kd.R_elder' (qr HO_11.out) (Kd.R_base ho0) hb); replace HO_13 := q0 (Kd.R_elder' (qr HO_13.out) (Kd.R_base ho0) hb); replace BK122 := q0 (kb BK122.out hb); replace BK125 := q0 (kb BK125.out hb); replace BK132 := q0 (kb BK132.out hb); replace HB := q0 (below_step (qb HB.out) hb); (try clear hb); (try clear hb2); (try clear hk); (try clear hi); (try clear ho0); obtain ⟨Ao63, co63, eo63⟩ := Kd.R_slice HO139.out; subst eo63; obtain ⟨Ao64, co64, eo64⟩ := Kd.R_slice HO_13.out; subst eo64))
   go_ret
   exact ⟨qe, qb HB.out⟩
 rw [if_pos c49] at H
 have c49b0 : decide ((t107.length : Int) ≤ (t103.length : Int)) = true := decide_eq_true c49
 have c49b1 : decide (t107.length ≤ t103.length) = true := decide_eq_true (Int.ofNat_le.mp c49)
 clear c49
 replace H := Option.bind_eq_some_iff.mp H
 obtain ⟨t108, A137, H⟩ := H
 have A50 := Aside0.mk A137
 clear A137
 obtain rfl := Option.some.inj H
 have hnb51 := NB132_122.out
 have hnc51 := NB122_132.out
 have hnb52 := NB132_125.out
 have hnc52 := NB125_132.out
 have hcz53_0 : wc.cell? ⟨gb132, 0, none⟩ = some (.int .i64 t104) := (blk_cell BK132.out 0).trans rfl
 have hcz53_1 : wc.cell? ⟨gb132, 1, none⟩ = some (.slice Ao31 t117.length co31) := (blk_cell BK132.out 1).trans rfl
 have hfz53_0 := blk_frozen BK132.out 0
 have hfz53_1 := blk_frozen BK132.out 1
 go_wp2_with (first | ((with_reducible refine gate_callee (f := 16) rfl ?_); refine gl 89 Try.func16 #[.agg #[.int .i64 t104, .slice Ao31 t117.length co31], .int .i64 t110, .int .i64 t111] ?_; (with_reducible refine (impl_WayFind.calls kj10 t104 _ _ t117 t110 t111 t107 true _ ?side1 ?side2 A47.out).mono ?_); (case side1 => exact qc (Kd.R_reads' HO_105001.out).2.2); (case side2 => exact (Kd.R_reads' HO_105001.out).2.1); rintro e w54 ⟨v138, rfl, ho0, hb⟩; refine ⟨_, rfl, ?_⟩; replace HO_101001 := q0 (Kd.R_below (qr HO_101001.out) hb); replace HO_102001 := q0 (Kd.R_below (qr HO_102001.out) hb); replace HO_105001 := q0 (Kd.R_below (qr HO_105001.out) hb); have HO139 := q0 (Kd.R_lower (Kd.R_new' (Kd.R_new' ho0 (Kd.R_lt (qr HO_11.out))) (Kd.R_lt (qr HO_13.out))) (below_size (qb HB.out))); replace HO_11 := q0 (Kd.R_elder' (qr HO_11.out) (Kd.R_base ho0) hb); replace HO_13 := q0 (Kd.R_elder' (qr HO_13.out) (Kd.R_base ho0) hb); replace BK122 := q0 (kb BK122.out hb); replace BK125 := q0 (kb BK125.out hb); replace BK132 := q0 (kb BK132.out hb); replace HB := q0 (below_step (qb HB.out) hb); (try clear hb); (try clear hb2); (try clear hk); (try clear hi); (try clear ho0); obtain ⟨Ao55, co55, eo55⟩ := Kd.R_slice HO139.out; subst eo55; obtain ⟨Ao56, co56, eo56⟩ := Kd.R_slice HO_13.out; subst eo56; have hcz57_0 : w54.cell? ⟨gb132, 0, none⟩ = some (.int .i64 t104) := (blk_cell BK132.out 0).trans rfl; have hcz57_1 : w54.cell? ⟨gb132, 1, none⟩ = some (.slice Ao31 t117.length co31) := (blk_cell BK132.out 1).trans rfl; have hfz57_0 := blk_frozen BK132.out 0; have hfz57_1 := blk_frozen BK132.out 1) | (go_at_call 31; (with_reducible refine (impl_WayOk.calls kj10 t104 _ _ t117 _ _ t103 t108 _ ?side1 ?side2 ?side3 ?side4 A50.out).mono ?_); (case side1 => exact qc (Kd.R_reads' HO_105001.out).2.2); (case side2 => exact (Kd.R_reads' HO_105001.out).2.1); (case side3 => exact qc (Kd.R_reads' HO_13.out).2.2); (case side4 => exact (Kd.R_reads' HO_13.out).2.1); rintro e w58 ⟨rfl, hb⟩; replace HO_11 := q0 (Kd.R_below (qr HO_11.out) hb); replace HO_13 := q0 (Kd.R_below (qr HO_13.out) hb); replace HO_101001 := q0 (Kd.R_below (qr HO_101001.out) hb); replace HO_102001 := q0 (Kd.R_below (qr HO_102001.out) hb); replace HO_105001 := q0 (Kd.R_below (qr HO_105001.out) hb); replace HO139 := q0 (Kd.R_below (qr HO139.out) hb); replace BK122 := q0 (kb BK122.out hb); replace BK125 := q0 (kb BK125.out hb); replace BK132 := q0 (kb BK132.out hb); replace HB := q0 (below_step (qb HB.out) hb); (try clear hb); (try clear hb2); (try clear hk); (try clear hi)))
 go_ret
 exact ⟨qe, qb HB.out⟩

theorem laws_FnWayMore.walk (P : laws_FnWayMore.Pure) (a0 : Option Addr) (len0 cap0 : Nat) (z0 : List Int) (a1 : Option Addr) (len1 cap1 : Nat) (z1 : List Int) (w : World) (w0 : (a0 = none ∧ len0 = 0 ∧ cap0 = 0 ∧ z0 = []) ∨ ∃ x, a0 = some x ∧ len0 ≤ cap0 ∧ cap0 ≤ maxLen ∧ z0.length = cap0 ∧ (∀ i, i < z0.length → w.cell? (x.add i) = some (.int .u8 (z0.getD i 0))) ∧ ∀ n ∈ z0, (Lit.int .u8 n).wf = true) (y0 : len0 * 1 ≤ 140737488351232) (w1 : (a1 = none ∧ len1 = 0 ∧ cap1 = 0 ∧ z1 = []) ∨ ∃ x, a1 = some x ∧ len1 ≤ cap1 ∧ cap1 ≤ maxLen ∧ z1.length = cap1 ∧ (∀ i, i < z1.length → w.cell? (x.add i) = some (.int .u8 (z1.getD i 0))) ∧ ∀ n ∈ z1, (Lit.int .u8 n).wf = true) (y1 : len1 * 1 ≤ 140737488351232) :
    Calls Try.prog 11 #[.slice a0 len0 cap0, .slice a1 len1 cap1] w fun e w' => e = .returned (.bool true) ∧ Below w.heap.size w w' := by
  obtain ⟨l0, rfl, hr0, hm0, hw0, hc0⟩ := ReadsInt.ofRowC w0
  obtain ⟨l1, rfl, hr1, hm1, hw1, hc1⟩ := ReadsInt.ofRowC w1
  obtain ⟨k, h⟩ := P l0 l1 hm0 y0 hw0 hm1 y1 hw1
  refine (laws_FnWayMore.calls k _ _ l0 _ _ l1 true w (Kd.C_of_reads (d := (0 : Int)) (h1 := fun _ => rfl) hr0) hc0 (Kd.C_of_reads (d := (0 : Int)) (h1 := fun _ => rfl) hr1) hc1 h).mono ?_
  rintro e w' ⟨rfl, hd⟩
  exact ⟨rfl, hd⟩
end Go.Proofs.Ytmfmeenfhdohcaa.P
