import Derived.Test.YtgoembpmhlmafaaP0
import Derived.Test.YtgoembpmhlmafaaP2
import Derived.Test.YtgoembpmhlmafaaP5
namespace Go.Proofs.Ytgoembpmhlmafaa.P
open Go.RowKit Go.Proofs.YtgoembpmhlmafaaW.PrintWords Go.Proofs.YtgoembpmhlmafaaW.PrintLast Go.Proofs.YtgoembpmhlmafaaW.PrintMore
attribute [local go_sem] max2_int min2_int max_two min_two max_three min_three max_four min_four
set_option linter.unusedVariables false
set_option linter.unusedSimpArgs false
attribute [local go_sem high] eqATie
set_option maxHeartbeats 8000000 in
set_option maxRecDepth 100000 in
theorem spec_DrawNetAdd.calls (k : Nat) (A0 : Option Addr) (c0 : Nat) (l0 : List Int) (r1 : Int) (r2 : List (STie)) (r3 : Int) (r4 : Int) (w : World) (hr0 : Kd.C (Kd.int .u8) w A0 l0.length l0) (hc0 : l0.length ≤ c0) (h : spec_DrawNetAdd.f k l0 = some (r1, r2, r3, r4)) :
    Calls Try.prog 33 #[.slice A0 l0.length c0] w fun e w' => ∃ v1_ : Value, e = .returned (.tuple #[.agg #[.int .i64 r1, v1_], .int .i64 r3, .int .i64 r4]) ∧ Kd.R kTie 32 w' w.heap.size (fun _ => True) v1_ r2 ∧ Below w.heap.size w w' := by
 have hu25 := Try.underlying25
 have HR0 := Aside0.mk hr0
 have HC0 := Aside0.mk hc0
 clear hr0 hc0
 have HB := q0 (Below.refl w.heap.size w)
 have H : ((spec_l6Open.f l0).bind fun bt100 => ((spec_l71Pair.f k bt100.1 bt100.2).bind fun bt101 => (some (bt101.1, bt101.2.1, bt101.2.2.1, bt101.2.2.2.1)))) = some (r1, r2, r3, r4) := h
 clear h
 replace H := Option.bind_eq_some_iff.mp H
 obtain ⟨⟨t100, t102⟩, A20, H⟩ := H
 have A2 := Aside0.mk A20
 clear A20
 replace H := Option.bind_eq_some_iff.mp H
 obtain ⟨⟨t101, t103, t104, t105, t106⟩, A30, H⟩ := H
 have A3 := Aside0.mk A30
 clear A30
 simp only [Option.some.injEq, Prod.mk.injEq] at H
 obtain ⟨rfl, rfl, rfl, rfl⟩ := H
 go_enter Try.func33, Try.ntmps33
 go_wp2_with (first | ((with_reducible refine gate_dst (N := 2) rfl ?_); refine be 2 #[.int .i64 0, .slice none 0 0] 25 ?_; intro gb107 hg w4 hbox hb; have BK107 := q0 (hbox); have GW107 := q0 ((bs HB.out hg : w.heap.size ≤ gb107)); have GE107 := q0 ((bs HB.out hg : w.heap.size ≤ gb107)); replace HB := q0 (below_step (qb HB.out) hb); clear hb hbox hg) | ((with_reducible refine gate_callee (f := 52) rfl ?_); refine gl 6 Try.func52 #[.slice A0 l0.length c0] ?_; (with_reducible refine (spec_l6Open.calls _ _ l0 t100 t102 w _ ?side1 ?side2 ?side3 A2.out).mono ?_); (case side1 => exact qb HB.out); (case side2 => exact HR0.out); (case side3 => exact HC0.out); rintro e w5 ⟨g108, rfl, hi, hb, hb2⟩; refine ⟨_, rfl, ?_⟩; replace HB := q0 (hb); have HI108 := q0 (hi); have NB108_107 := q0 (IsSRd.ne_blk hi (kb BK107.out hb2) (by decide)); have NB107_108 := q0 (Ne.symm (IsSRd.ne_blk hi (kb BK107.out hb2) (by decide))); replace BK107 := q0 (kb BK107.out hb2); (try clear hb); (try clear hb2); (try clear hk); (try clear hi)) | ((with_reducible refine gate_callee (f := 77) rfl ?_); refine gl 7 Try.func77 #[.pointer (some ⟨g108, 0, none⟩)] ?_; (with_reducible refine (spec_l71Pair.calls k g108 t100 t102 t101 t103 t104 t105 t106 w _ ?side1 ?side2 A3.out).mono ?_); (case side1 => exact qi HI108.out); (case side2 => exact qj HB.out HI108.out); rintro e w6 ⟨v109, rfl, ho0, hi, hb, hk⟩; refine ⟨_, rfl, ?_⟩; replace BK107 := q0 (kc hk BK107.out NB107_108.out); have HO110 := q0 (Kd.R_lower ho0 (below_size (qj HB.out HI108.out))); replace HB := q0 (hb); replace HI108 := q0 (hi); (try clear hb); (try clear hb2); (try clear hk); (try clear hi); (try clear ho0); have hnb7 := NB107_108.out; have hnc7 := NB108_107.out; have hcz8_0 : w6.cell? ⟨gb107, 0, none⟩ = some (.int .i64 0) := (blk_cell BK107.out 0).trans rfl; have hcz8_1 : w6.cell? ⟨gb107, 1, none⟩ = some (.slice none 0 0) := (blk_cell BK107.out 1).trans rfl; have hfz8_0 := blk_frozen BK107.out 0; have hfz8_1 := blk_frozen BK107.out 1; obtain ⟨Ao9, co9, eo9⟩ := Kd.R_slice HO110.out; subst eo9))
 refine bodyPost_ret (results_ctt rfl _ _ gb107 25 #[.int .i64 t101, .slice Ao9 t103.length co9] (0, 0) _ rfl (by (with_reducible repeat (first | refine blk_drewN ?_ _ | refine blk_drew ?_ | refine blk_alloc ?_ _)); refine blk_put (cs := #[.int .i64 t101, .slice none 0 0]) ?_ 1 _ rfl; (with_reducible repeat (first | refine blk_drewN ?_ _ | refine blk_drew ?_ | refine blk_alloc ?_ _)); refine blk_put (cs := #[.int .i64 0, .slice none 0 0]) ?_ 0 _ rfl; (with_reducible repeat (first | refine blk_drewN ?_ _ | refine blk_drew ?_ | refine blk_alloc ?_ _)); exact BK107.out) Try.underlying25 rfl (by kernel_rfl)) rfl ?_
 exact ⟨_, qe, by (with_reducible repeat (first | apply Kd.R_alloc | apply Kd.R_drewN | apply Kd.R_drew)); exact rf2 HO110.out BK107.out (fun _ hk => trivial), qj HB.out HI108.out⟩

end Go.Proofs.Ytgoembpmhlmafaa.P
