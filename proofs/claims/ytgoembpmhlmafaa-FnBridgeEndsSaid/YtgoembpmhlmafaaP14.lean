import Derived.Test.YtgoembpmhlmafaaP0
import Derived.Test.YtgoembpmhlmafaaP1
import Derived.Test.YtgoembpmhlmafaaP2
import Derived.Test.YtgoembpmhlmafaaP6
import Derived.Test.YtgoembpmhlmafaaP10
import Derived.Test.YtgoembpmhlmafaaP11
import Derived.Test.YtgoembpmhlmafaaP12
namespace Go.Proofs.Ytgoembpmhlmafaa.P
open Go.RowKit Go.Proofs.YtgoembpmhlmafaaW.PrintWords Go.Proofs.YtgoembpmhlmafaaW.PrintLast Go.Proofs.YtgoembpmhlmafaaW.PrintMore
attribute [local go_sem] max2_int min2_int max_two min_two max_three min_three max_four min_four
set_option linter.unusedVariables false
set_option linter.unusedSimpArgs false
attribute [local go_sem high] eqATie
set_option maxHeartbeats 8000000 in
set_option maxRecDepth 100000 in
theorem spec_DrawBridgeList.calls (k : Nat) (A0 : Option Addr) (c0 : Nat) (l0 : List Int) (r1 : Int) (r2 : List (STie)) (w : World) (hr0 : Kd.C (Kd.int .u8) w A0 l0.length l0) (hc0 : l0.length ≤ c0) (h : spec_DrawBridgeList.f k l0 = some (r1, r2)) :
    Calls Try.prog 14 #[.slice A0 l0.length c0] w fun e w' => ∃ v1_ : Value, e = .returned (.agg #[.int .i64 r1, v1_]) ∧ Kd.R kTie 32 w' w.heap.size (fun _ => True) v1_ r2 ∧ Below w.heap.size w w' := by
 have hu25 := Try.underlying25
 have HR0 := Aside0.mk hr0
 have HC0 := Aside0.mk hc0
 clear hr0 hc0
 have HB := q0 (Below.refl w.heap.size w)
 have H : ((spec_l6Open.f l0).bind fun bt100 => ((spec_l71Any.f k bt100.1 bt100.2).bind fun bt101 => (some (bt101.1, bt101.2.1)))) = some (r1, r2) := h
 clear h
 replace H := Option.bind_eq_some_iff.mp H
 obtain ⟨⟨t100, t102⟩, A20, H⟩ := H
 have A2 := Aside0.mk A20
 clear A20
 replace H := Option.bind_eq_some_iff.mp H
 obtain ⟨⟨t101, t103, t104⟩, A30, H⟩ := H
 have A3 := Aside0.mk A30
 clear A30
 simp only [Option.some.injEq, Prod.mk.injEq] at H
 obtain ⟨rfl, rfl⟩ := H
 go_enter Try.func14, Try.ntmps14
 go_wp2_with (first | ((with_reducible refine gate_dst (N := 2) rfl ?_); refine be 2 #[.int .i64 0, .slice none 0 0] 25 ?_; intro gb105 hg w4 hbox hb; have BK105 := q0 (hbox); have GW105 := q0 ((bs HB.out hg : w.heap.size ≤ gb105)); have GE105 := q0 ((bs HB.out hg : w.heap.size ≤ gb105)); replace HB := q0 (below_step (qb HB.out) hb); clear hb hbox hg) | ((with_reducible refine gate_callee (f := 52) rfl ?_); refine gl 4 Try.func52 #[.slice A0 l0.length c0] ?_; (with_reducible refine (spec_l6Open.calls _ _ l0 t100 t102 w _ ?side1 ?side2 ?side3 A2.out).mono ?_); (case side1 => exact qb HB.out); (case side2 => exact HR0.out); (case side3 => exact HC0.out); rintro e w5 ⟨g106, rfl, hi, hb, hb2⟩; refine ⟨_, rfl, ?_⟩; replace HB := q0 (hb); have HI106 := q0 (hi); have NB106_105 := q0 (IsSRd.ne_blk hi (kb BK105.out hb2) (by decide)); have NB105_106 := q0 (Ne.symm (IsSRd.ne_blk hi (kb BK105.out hb2) (by decide))); replace BK105 := q0 (kb BK105.out hb2); (try clear hb); (try clear hb2); (try clear hk); (try clear hi)) | ((with_reducible refine gate_callee (f := 51) rfl ?_); refine gl 5 Try.func51 #[.pointer (some ⟨g106, 0, none⟩)] ?_; (with_reducible refine (spec_l71Any.calls k g106 t100 t102 t101 t103 t104 w _ ?side1 ?side2 A3.out).mono ?_); (case side1 => exact qi HI106.out); (case side2 => exact qj HB.out HI106.out); rintro e w6 ⟨v107, rfl, ho0, hi, hb, hk⟩; refine ⟨_, rfl, ?_⟩; replace BK105 := q0 (kc hk BK105.out NB105_106.out); have HO108 := q0 (Kd.R_lower ho0 (below_size (qj HB.out HI106.out))); replace HB := q0 (hb); replace HI106 := q0 (hi); (try clear hb); (try clear hb2); (try clear hk); (try clear hi); (try clear ho0); have hnb7 := NB105_106.out; have hnc7 := NB106_105.out; have hcz8_0 : w6.cell? ⟨gb105, 0, none⟩ = some (.int .i64 0) := (blk_cell BK105.out 0).trans rfl; have hcz8_1 : w6.cell? ⟨gb105, 1, none⟩ = some (.slice none 0 0) := (blk_cell BK105.out 1).trans rfl; have hfz8_0 := blk_frozen BK105.out 0; have hfz8_1 := blk_frozen BK105.out 1; obtain ⟨Ao9, co9, eo9⟩ := Kd.R_slice HO108.out; subst eo9))
 refine bodyPost_ret (results_cell_row rfl _ _ gb105 25 #[.int .i64 t101, .slice Ao9 t103.length co9] (0, 0) _ rfl (by (with_reducible repeat (first | refine blk_drewN ?_ _ | refine blk_drew ?_ | refine blk_alloc ?_ _)); refine blk_put (cs := #[.int .i64 t101, .slice none 0 0]) ?_ 1 _ rfl; (with_reducible repeat (first | refine blk_drewN ?_ _ | refine blk_drew ?_ | refine blk_alloc ?_ _)); refine blk_put (cs := #[.int .i64 0, .slice none 0 0]) ?_ 0 _ rfl; (with_reducible repeat (first | refine blk_drewN ?_ _ | refine blk_drew ?_ | refine blk_alloc ?_ _)); exact BK105.out) Try.underlying25 rfl (by kernel_rfl)) rfl ?_
 exact ⟨_, qe, by (with_reducible repeat (first | apply Kd.R_alloc | apply Kd.R_drewN | apply Kd.R_drew)); exact rf2 HO108.out BK105.out (fun _ hk => trivial), qj HB.out HI106.out⟩

def impl_Net_bridges.T5 : Bool × List (List Nat × List Nat) := (true, [([], []), ([], []), ([1], [1]), ([0, 2], [0, 2]), ([], []), ([4], [4]), ([], []), ([6], [6]), ([3, 5, 7, 3], [3, 5, 7]), ([8], [8])])
def impl_Net_bridges.B5 : List Nat := [0, 0, 2, 7, 0, 16, 0, 64, 255, 511]
theorem impl_Net_bridges.tab5 : rtab .any (opsOf Try.f53 5) = impl_Net_bridges.T5 := by kernel_rfl
theorem impl_Net_bridges.bits5 : waitsOk impl_Net_bridges.T5.2 impl_Net_bridges.B5 = true := by kernel_rfl
set_option maxHeartbeats 8000000 in
set_option maxRecDepth 100000 in
theorem impl_Net_bridges.calls (k : Nat) (a0_0 : Int) (A0_1 : Option Addr) (c0_1 : Nat) (l0_1 : List (STie)) (r : List (STie)) (w : World) (hr0_1 : Kd.C kTie w A0_1 l0_1.length l0_1) (hc0_1 : l0_1.length ≤ c0_1) (h : impl_Net_bridges.f k a0_0 l0_1 = some r) :
    Calls Try.prog 53 #[.agg #[.int .i64 a0_0, .slice A0_1 l0_1.length c0_1]] w fun e w' => ∃ v0_ : Value, e = .returned (v0_) ∧ Kd.R kTie 32 w' w.heap.size (fun _ => True) v0_ r ∧ Below w.heap.size w w' := by
 have hu25 := Try.underlying25
 have hu32 := Try.underlying32
 have HR0_1 := Aside0.mk hr0_1
 have HC0_1 := Aside0.mk hc0_1
 clear hr0_1 hc0_1
 have HB := q0 (Below.refl w.heap.size w)
 have H : (impl_Net_bridges.l0 k (([] : List (STie))) l0_1 (l0_1.length : Int) 0 a0_0 l0_1) = some r := h
 clear h
 obtain ⟨y100, hy100⟩ : ∃ y_ : List (STie), y_ = (([] : List (STie))) := ⟨_, rfl⟩
 replace H : (impl_Net_bridges.l0 k y100 l0_1 (l0_1.length : Int) 0 a0_0 l0_1) = some r := qy H hy100
 have Ny100 := Aside0.mk hy100
 clear hy100
 have H' := Aside0.mk H
 clear H
 go_enter Try.func53, Try.ntmps53
 go_wp2_with (first | ((with_reducible refine gate_dst (N := 1) rfl ?_); refine be 1 #[.int .i64 a0_0, .slice A0_1 l0_1.length c0_1] 25 ?_; intro gb103 hg w2 hbox hb; have BK103 := q0 (hbox); have GW103 := q0 ((bs HB.out hg : w.heap.size ≤ gb103)); have GE103 := q0 ((bs HB.out hg : w.heap.size ≤ gb103)); replace HB := q0 (below_step (qb HB.out) hb); clear hb hbox hg) | ((with_reducible refine gate_dst (N := 6) rfl ?_); refine Kd.R_lit kTie _ 32 ?hg (N := 6) ?hd (xs := ([] : List (STie))) (inner := []) (ok := fun _ => True) (okp := fun _ => True) ?hr ?hp (fun _ hk => hk) trivial (Below.refl _ _) (Nat.le_refl _) (by simp) ?_; (case hd => rfl); (case hg => rfl); (case hr => first | (go_simp; done) | (go_simp; rfl)); (case hp => exact (Reps.none _ _)); intro v104 w3 ho4 hb hg_ hnew_; clear hg_ hnew_; (first | rw [← Ny100.out] at ho4 | (simp only [Int.reduceToNat] at ho4; rw [← Ny100.out] at ho4)); have HO105 := q0 (Kd.R_lower ho4 (below_size (qb HB.out))); replace BK103 := q0 (kb BK103.out hb); replace HB := q0 (below_step (qb HB.out) hb); clear hb ho4; have hcz5_0 : w3.cell? ⟨gb103, 0, none⟩ = some (.int .i64 a0_0) := (blk_cell BK103.out 0).trans rfl; have hcz5_1 : w3.cell? ⟨gb103, 1, none⟩ = some (.slice A0_1 l0_1.length c0_1) := (blk_cell BK103.out 1).trans rfl; have hfz5_0 := blk_frozen BK103.out 0; have hfz5_1 := blk_frozen BK103.out 1))
 go_loopg [3, 10] k (fun kq v3 v10 w' => ∃ (x3_1 : List (STie)) (x10_1 : Int), v10 = .int .i64 x10_1 ∧ Aside0 (impl_Net_bridges.l0 kq x3_1 l0_1 (l0_1.length : Int) x10_1 a0_0 l0_1 = some r) ∧ Aside0 (kq ≤ k) ∧ Aside0 (Kd.R kTie 32 w' w.heap.size (fun _ => True) v3 x3_1) ∧ Aside0 (w'.heap[gb103]? = some (.cells #[.int .i64 a0_0, (.slice A0_1 l0_1.length c0_1)] 25 (0, 0))) ∧ Aside0 (Below w.heap.size w w'))
 case atStart => exact ⟨(y100), (0), qs, H', ⟨Nat.le_refl _⟩, ⟨qr HO105.out⟩, ⟨qk BK103.out⟩, ⟨qb HB.out⟩⟩
 clear H'
 try clear p2
 try clear c5
 try clear hcz5_0
 try clear hcz5_1
 try clear hfz5_0
 try clear hfz5_1
 obtain ⟨x3_1, x10_1, rfl, HA, HK1, HO_3, BK103, HB⟩ := hrel
 rcases gk with _ | k1
 · exact absurd HA.out (by simp [impl_Net_bridges.l0])
 have H := HA.out
 clear HA
 simp only [impl_Net_bridges.l0] at H
 by_cases c6 : x10_1 < (l0_1.length : Int)
 rotate_left
 · rw [if_neg c6] at H
   have c6b0 : decide (x10_1 < (l0_1.length : Int)) = false := decide_eq_false c6
   clear c6
   obtain rfl := Option.some.inj H
   go_wp2
   go_ret
   exact ⟨_, qe, qr HO_3.out, qb HB.out⟩
 rw [if_pos c6] at H
 have c6b0 : decide (x10_1 < (l0_1.length : Int)) = true := decide_eq_true c6
 clear c6
 by_cases c7 : 0 ≤ x10_1
 rotate_left
 · rw [if_neg c7] at H
   exact absurd H (by simp)
 rw [if_pos c7] at H
 have c7b0 : decide (0 ≤ x10_1) = true := decide_eq_true c7
 clear c7
 by_cases c8 : x10_1 < (l0_1.length : Int)
 rotate_left
 · rw [if_neg c8] at H
   exact absurd H (by simp)
 rw [if_pos c8] at H
 have c8b0 : decide (x10_1 < (l0_1.length : Int)) = true := decide_eq_true c8
 clear c8
 obtain ⟨y106, hy106⟩ : ∃ y_ : List (STie), y_ = (([(⟨(rd_TTie l0_1 x10_1).f0, (rd_TTie l0_1 x10_1).f1⟩ : STie)] : List (STie))) := ⟨_, rfl⟩
 replace H : ((impl_Net_less.f k1 a0_0 l0_1 y106).bind fun bt101 => ((impl_Net_joined.f k1 bt101.1 bt101.2 ((rd_TTie l0_1 x10_1).f0) ((rd_TTie l0_1 x10_1).f1)).bind fun t102 => (if t102 = true then (impl_Net_bridges.l0 k1 x3_1 l0_1 (l0_1.length : Int) (wrap64 (x10_1 + 1)) a0_0 l0_1) else (if x3_1.length < 8796093022208 then (impl_Net_bridges.l0 k1 (x3_1 ++ [(⟨(rd_TTie l0_1 x10_1).f0, (rd_TTie l0_1 x10_1).f1⟩ : STie)]) l0_1 (l0_1.length : Int) (wrap64 (x10_1 + 1)) a0_0 l0_1) else (none))))) = some r := qy H hy106
 have Ny106 := Aside0.mk hy106
 clear hy106
 replace H := Option.bind_eq_some_iff.mp H
 obtain ⟨⟨t101, t107⟩, A90, H⟩ := H
 have A9 := Aside0.mk A90
 clear A90
 replace H := Option.bind_eq_some_iff.mp H
 obtain ⟨t102, A108, H⟩ := H
 have A10 := Aside0.mk A108
 clear A108
 by_cases c11 : t102 = true
 · subst c11
   rw [if_pos rfl] at H
   have H' := Aside0.mk H
   clear H
   have p109 : 0 ≤ (x10_1 : Int) := of_decide_eq_true qa
   have q109 : x10_1 < (l0_1.length : Int) := of_decide_eq_true qa
   obtain ⟨ad109, e109, hx109_0, hx109_1⟩ := at_TTie HR0_1.out x10_1 p109 q109
   cases e109
   replace hx109_0 := (HB.out.cell (World.block_lt_of_cell? w _ hx109_0)).trans hx109_0
   replace hx109_1 := (HB.out.cell (World.block_lt_of_cell? w _ hx109_1)).trans hx109_1
   replace p109 := eq_true p109
   replace q109 := eq_true q109
   try go_wp2_with (first | ((with_reducible refine gate_dst (N := 5) rfl ?_); refine be 5 #[.int .i64 0, .int .i64 0] 32 ?_; intro gb110 hg w12 hbox hb; replace HO_3 := q0 (Kd.R_below (Kd.R_elderB (qr HO_3.out) gb110 (Nat.le_of_eq hg.symm)) hb); have BK110 := q0 (hbox); have GW110 := q0 ((bs HB.out hg : w.heap.size ≤ gb110)); have GE110 := q0 ((bs HB.out hg : w.heap.size ≤ gb110)); replace HB := q0 (below_step (qb HB.out) hb); have NB103_110 := q0 ((bl BK103.out hg : gb103 ≠ gb110)); have NB110_103 := q0 ((bg BK103.out hg : gb110 ≠ gb103)); replace BK103 := q0 (kb BK103.out hb); clear hb hbox hg; have hnb13 := NB110_103.out; have hnc13 := NB103_110.out; have hcz14_0 : w12.cell? ⟨gb110, 0, none⟩ = some (.int .i64 0) := (blk_cell BK110.out 0).trans rfl; have hcz14_1 : w12.cell? ⟨gb110, 1, none⟩ = some (.int .i64 0) := (blk_cell BK110.out 1).trans rfl; have hfz14_0 := blk_frozen BK110.out 0; have hfz14_1 := blk_frozen BK110.out 1))
   have n0_ : Aside0 (Kd.R kTie 32 ((w12.setCell ⟨gb110, 0, none⟩ (.int .i64 ((rd_TTie l0_1 x10_1).f0))).setCell ⟨gb110, 1, none⟩ (.int .i64 ((rd_TTie l0_1 x10_1).f1))) w.heap.size (fun k_ => k_ ≠ gb110) u3 x3_1) := ⟨by (with_reducible repeat (first | apply Kd.R_alloc | apply Kd.R_drewN | apply Kd.R_drew)); exact Kd.R_mono (Kd.R_far (p := ⟨gb110, 1, none⟩) (Kd.R_far (p := ⟨gb110, 0, none⟩) (Kd.R_mono HO_3.out (fun k_ hk => (⟨hk, hk.2⟩ : _ ∧ k_ ≠ gb110))) (fun _ hk => hk.2) (.int .i64 ((rd_TTie l0_1 x10_1).f0))) (fun _ hk => hk.2) (.int .i64 ((rd_TTie l0_1 x10_1).f1))) (fun _ hk => hk.1.2)⟩
   have n1_ : Aside0 (((w12.setCell ⟨gb110, 0, none⟩ (.int .i64 ((rd_TTie l0_1 x10_1).f0))).setCell ⟨gb110, 1, none⟩ (.int .i64 ((rd_TTie l0_1 x10_1).f1))).heap[gb103]? = some (.cells #[.int .i64 a0_0, .slice (some ad109) l0_1.length c0_1] 25 (0, 0))) := ⟨qf BK103.out⟩
   have n2_ : Aside0 (((w12.setCell ⟨gb110, 0, none⟩ (.int .i64 ((rd_TTie l0_1 x10_1).f0))).setCell ⟨gb110, 1, none⟩ (.int .i64 ((rd_TTie l0_1 x10_1).f1))).heap[gb110]? = some (.cells #[.int .i64 ((rd_TTie l0_1 x10_1).f0), .int .i64 ((rd_TTie l0_1 x10_1).f1)] 32 (0, 0))) := ⟨by (with_reducible repeat (first | refine blk_drewN ?_ _ | refine blk_drew ?_ | refine blk_alloc ?_ _)); refine blk_put (cs := #[.int .i64 ((rd_TTie l0_1 x10_1).f0), .int .i64 0]) ?_ 1 _ rfl; (with_reducible repeat (first | refine blk_drewN ?_ _ | refine blk_drew ?_ | refine blk_alloc ?_ _)); refine blk_put (cs := #[.int .i64 0, .int .i64 0]) ?_ 0 _ rfl; (with_reducible repeat (first | refine blk_drewN ?_ _ | refine blk_drew ?_ | refine blk_alloc ?_ _)); exact BK110.out⟩
   have n3_ : Aside0 (Below w.heap.size w ((w12.setCell ⟨gb110, 0, none⟩ (.int .i64 ((rd_TTie l0_1 x10_1).f0))).setCell ⟨gb110, 1, none⟩ (.int .i64 ((rd_TTie l0_1 x10_1).f1)))) := ⟨qb HB.out⟩
   (try clear HO_3)
   (try clear BK103)
   (try clear BK110)
   (try clear HB)
   generalize ((w12.setCell ⟨gb110, 0, none⟩ (.int .i64 ((rd_TTie l0_1 x10_1).f0))).setCell ⟨gb110, 1, none⟩ (.int .i64 ((rd_TTie l0_1 x10_1).f1))) = w15 at n0_ n1_ n2_ n3_ ⊢
   have HO_3 := n0_
   have BK103 := n1_
   have BK110 := n2_
   have HB := n3_
   clear n0_ n1_ n2_ n3_
   replace HO_3 := q0 (Kd.R_drew HO_3.out)
   replace BK103 := q0 (blk_drew BK103.out)
   replace BK110 := q0 (blk_drew BK110.out)
   replace HB := q0 (below_drew1 HB.out)
   refine start_ (n := 10) (S := fun w' => w'.cell? ⟨gb103, 0, none⟩ = some (.int .i64 a0_0) ∧ w'.cell? ⟨gb103, 1, none⟩ = some (.slice (some ad109) l0_1.length c0_1) ∧ w'.cell? ⟨gb110, 0, none⟩ = some (.int .i64 ((rd_TTie l0_1 x10_1).f0)) ∧ w'.cell? ⟨gb110, 1, none⟩ = some (.int .i64 ((rd_TTie l0_1 x10_1).f1))) (ds := []) (ba 10 0) (by kernel_rfl) rfl (by kernel_rfl) ⟨(blk_cell BK103.out 0).trans rfl, (blk_cell BK103.out 1).trans rfl, (blk_cell BK110.out 0).trans rfl, (blk_cell BK110.out 1).trans rfl⟩ (fun hHeld => ?_); refine with_tabW impl_Net_bridges.tab5 impl_Net_bridges.bits5 (fun HT_ HW_ => ?_)
   generalize w15.drew = w16 at HO_3 BK103 BK110 HB hHeld ⊢
   refine pu 4 (some 18) (ba 10 16) HT_.out ?_
   refine pu 6 (some 20) (ba 10 80) HT_.out ?_
   refine tu 0 (some 14) (ba 10 81) HT_.out HW_.out hHeld ?_
   refine tu 1 (some 15) (ba 10 83) HT_.out HW_.out hHeld ?_
   refine tu 5 (some 19) (ba 10 115) HT_.out HW_.out hHeld ?_
   refine tu 7 (some 21) (ba 10 243) HT_.out HW_.out hHeld ?_
   refine one_ (i := 2) (N := some 16) (ba 10 247) rfl rfl (one_of HT_.out (by kernel_rfl)) (by decide) (fun K hK => ?_)
   refine Kd.R_lit_step kTie _ 32 ?hg (N := 16) ?hd (xs := ([(⟨(rd_TTie l0_1 x10_1).f0, (rd_TTie l0_1 x10_1).f1⟩ : STie)] : List (STie))) (inner := [.int .i64 ((rd_TTie l0_1 x10_1).f0), .int .i64 ((rd_TTie l0_1 x10_1).f1)]) (ok := fun _ => True) (okp := fun _ => True) ?hr ?hp (fun _ hk => hk) trivial (Below.refl _ _) (Nat.le_refl _) (by simp) ?_; (case hd => rfl); (case hg => rfl); (case hr => first | (go_simp; done) | (go_simp; rfl)); (case hp => exact (Reps.c2 (show Kd.M kTie _ _ _ (⟨(rd_TTie l0_1 x10_1).f0, (rd_TTie l0_1 x10_1).f1⟩ : STie) [.int .i64 ((rd_TTie l0_1 x10_1).f0), .int .i64 ((rd_TTie l0_1 x10_1).f1)] from (kTie_mkM _ _ _ (⟨(rd_TTie l0_1 x10_1).f0, (rd_TTie l0_1 x10_1).f1⟩ : STie) )) (Reps.none _ _)))
   intro v111 w17 ho18 hb hg_ hnew_
   clear hg_ hnew_
   (first | rw [← Ny106.out] at ho18 | (simp only [Int.reduceToNat] at ho18; rw [← Ny106.out] at ho18))
   have HO112 := q0 (Kd.R_lower (Kd.R_newB (Kd.R_new' ho18 (Kd.R_lt (qr HO_3.out))) (g := gb110) (o := .cells #[.int .i64 ((rd_TTie l0_1 x10_1).f0), .int .i64 ((rd_TTie l0_1 x10_1).f1)] 32 (0, 0)) (qk BK110.out)) (below_size (qb HB.out)))
   replace HO_3 := q0 (Kd.R_elder' (qr HO_3.out) (Kd.R_base ho18) hb)
   replace BK103 := q0 (kb BK103.out hb)
   replace BK110 := q0 (kb BK110.out hb)
   replace HB := q0 (below_step (qb HB.out) hb)
   clear hb ho18
   obtain ⟨Ao19, co19, eo19⟩ := Kd.R_slice HO112.out
   (first | subst eo19 | (injection eo19 with f1_ f2_ f3_; have f4_ := f1_.symm; have f5_ := f3_.symm; clear f1_ f2_ f3_; subst f4_; subst f5_))
   refine hK.out _ _ ⟨(blk_cell BK103.out 0).trans rfl, (blk_cell BK103.out 1).trans rfl, (blk_cell BK110.out 0).trans rfl, (blk_cell BK110.out 1).trans rfl⟩ (fun hHeld => ?_)
   clear hK K
   refine nu 16 ?_
   refine one_ (i := 3) (N := some 17) (ba 10 255) rfl rfl (one_of HT_.out (by kernel_rfl)) (by decide) (fun K hK => ?_)
   refine goes_ Try.func55 (by kernel_rfl) rfl #[.agg #[.int .i64 a0_0, .slice (some ad109) l0_1.length c0_1], .slice Ao19 y106.length co19] (by rfl) rfl rfl qm ?_
   with_reducible refine (impl_Net_less.calls k1 a0_0 _ _ l0_1 _ _ y106 t101 t107 _ ?side1 ?side2 ?side3 ?side4 A9.out).mono ?_
   (case side1 => exact qc (Kd.C_below HR0_1.out HB.out))
   (case side2 => exact HC0_1.out)
   (case side3 => exact qc (Kd.R_reads' HO112.out).2.2)
   (case side4 => exact (Kd.R_reads' HO112.out).2.1)
   rintro e w20 ⟨v113, rfl, ho0, hb⟩
   refine ⟨_, rfl, ?_⟩
   have HO114 := q0 (Kd.R_lower (Kd.R_newB (Kd.R_new' (Kd.R_new' ho0 (Kd.R_lt (qr HO_3.out))) (Kd.R_lt (qr HO112.out))) (g := gb110) (o := .cells #[.int .i64 ((rd_TTie l0_1 x10_1).f0), .int .i64 ((rd_TTie l0_1 x10_1).f1)] 32 (0, 0)) (qk BK110.out)) (below_size (qb HB.out)))
   replace HO_3 := q0 (Kd.R_elder' (qr HO_3.out) (Kd.R_base ho0) hb)
   replace HO112 := q0 (Kd.R_elder' (qr HO112.out) (Kd.R_base ho0) hb)
   replace BK103 := q0 (kb BK103.out hb)
   replace BK110 := q0 (kb BK110.out hb)
   replace HB := q0 (below_step (qb HB.out) hb)
   (try clear hb)
   (try clear hb2)
   (try clear hk)
   (try clear hi)
   (try clear ho0)
   obtain ⟨Ao21, co21, eo21⟩ := Kd.R_slice HO114.out
   (first | subst eo21 | (injection eo21 with f1_ f2_ f3_; have f4_ := f1_.symm; have f5_ := f3_.symm; clear f1_ f2_ f3_; subst f4_; subst f5_))
   refine hK.out _ _ ⟨(blk_cell BK103.out 0).trans rfl, (blk_cell BK103.out 1).trans rfl, (blk_cell BK110.out 0).trans rfl, (blk_cell BK110.out 1).trans rfl⟩ (fun hHeld => ?_)
   clear hK K
   refine nu 17 ?_
   refine one_ (i := 8) (N := some 22) (ba 10 511) rfl rfl (one_of HT_.out (by kernel_rfl)) (by decide) (fun K hK => ?_)
   refine goes_ Try.func93 (by kernel_rfl) rfl #[.agg #[.int .i64 t101, .slice Ao21 t107.length co21], .int .i64 ((rd_TTie l0_1 x10_1).f0), .int .i64 ((rd_TTie l0_1 x10_1).f1)] (by rfl) rfl rfl qm ?_
   with_reducible refine (impl_Net_joined.calls k1 t101 _ _ t107 ((rd_TTie l0_1 x10_1).f0) ((rd_TTie l0_1 x10_1).f1) true _ ?side1 ?side2 A10.out).mono ?_
   (case side1 => exact qc (Kd.R_reads' HO114.out).2.2)
   (case side2 => exact (Kd.R_reads' HO114.out).2.1)
   rintro e w22 ⟨rfl, hb⟩
   refine ⟨_, rfl, ?_⟩
   replace HO_3 := q0 (Kd.R_below (qr HO_3.out) hb)
   replace HO112 := q0 (Kd.R_below (qr HO112.out) hb)
   replace HO114 := q0 (Kd.R_below (qr HO114.out) hb)
   replace BK103 := q0 (kb BK103.out hb)
   replace BK110 := q0 (kb BK110.out hb)
   replace HB := q0 (below_step (qb HB.out) hb)
   (try clear hb)
   (try clear hb2)
   (try clear hk)
   (try clear hi)
   refine hK.out _ _ ⟨(blk_cell BK103.out 0).trans rfl, (blk_cell BK103.out 1).trans rfl, (blk_cell BK110.out 0).trans rfl, (blk_cell BK110.out 1).trans rfl⟩ (fun hHeld => ?_)
   clear hK K
   refine nu 22 ?_
   refine pu 9 (some 23) (ba 10 1023) HT_.out ?_
   refine done_ (done_of HT_.out (by kernel_rfl)) ?_
   try go_wp2
   go_roundg k1
   case measure => have := HK1.out; omega
   case rel => exact ⟨(x3_1), (wrap64 (x10_1 + 1)), qs, H', ⟨by have := HK1.out; omega⟩, ⟨by (with_reducible repeat (first | apply Kd.R_alloc | apply Kd.R_drewN | apply Kd.R_drew)); exact Kd.R_mono HO_3.out (fun _ hk => trivial)⟩, ⟨qk BK103.out⟩, ⟨qb HB.out⟩⟩
 replace c11 := Bool.eq_false_iff.mpr c11
 subst c11
 rw [if_neg nf] at H
 by_cases c23 : x3_1.length < 8796093022208
 rotate_left
 · rw [if_neg c23] at H
   exact absurd H (by simp)
 rw [if_pos c23] at H
 have LMc23 := Aside0.mk c23
 clear c23
 obtain ⟨y115, hy115⟩ : ∃ y_ : List (STie), y_ = (x3_1 ++ [(⟨(rd_TTie l0_1 x10_1).f0, (rd_TTie l0_1 x10_1).f1⟩ : STie)]) := ⟨_, rfl⟩
 replace H : (impl_Net_bridges.l0 k1 y115 l0_1 (l0_1.length : Int) (wrap64 (x10_1 + 1)) a0_0 l0_1) = some r := qy H hy115
 have Ny115 := Aside0.mk hy115
 clear hy115
 have H' := Aside0.mk H
 clear H
 have p109 : 0 ≤ (x10_1 : Int) := of_decide_eq_true qa
 have q109 : x10_1 < (l0_1.length : Int) := of_decide_eq_true qa
 obtain ⟨ad109, e109, hx109_0, hx109_1⟩ := at_TTie HR0_1.out x10_1 p109 q109
 cases e109
 replace hx109_0 := (HB.out.cell (World.block_lt_of_cell? w _ hx109_0)).trans hx109_0
 replace hx109_1 := (HB.out.cell (World.block_lt_of_cell? w _ hx109_1)).trans hx109_1
 replace p109 := eq_true p109
 replace q109 := eq_true q109
 try go_wp2_with (first | ((with_reducible refine gate_dst (N := 5) rfl ?_); refine be 5 #[.int .i64 0, .int .i64 0] 32 ?_; intro gb110 hg w24 hbox hb; replace HO_3 := q0 (Kd.R_below (Kd.R_elderB (qr HO_3.out) gb110 (Nat.le_of_eq hg.symm)) hb); have BK110 := q0 (hbox); have GW110 := q0 ((bs HB.out hg : w.heap.size ≤ gb110)); have GE110 := q0 ((bs HB.out hg : w.heap.size ≤ gb110)); replace HB := q0 (below_step (qb HB.out) hb); have NB103_110 := q0 ((bl BK103.out hg : gb103 ≠ gb110)); have NB110_103 := q0 ((bg BK103.out hg : gb110 ≠ gb103)); replace BK103 := q0 (kb BK103.out hb); clear hb hbox hg; have hnb25 := NB110_103.out; have hnc25 := NB103_110.out; have hcz26_0 : w24.cell? ⟨gb110, 0, none⟩ = some (.int .i64 0) := (blk_cell BK110.out 0).trans rfl; have hcz26_1 : w24.cell? ⟨gb110, 1, none⟩ = some (.int .i64 0) := (blk_cell BK110.out 1).trans rfl; have hfz26_0 := blk_frozen BK110.out 0; have hfz26_1 := blk_frozen BK110.out 1))
 have n0_ : Aside0 (Kd.R kTie 32 ((w24.setCell ⟨gb110, 0, none⟩ (.int .i64 ((rd_TTie l0_1 x10_1).f0))).setCell ⟨gb110, 1, none⟩ (.int .i64 ((rd_TTie l0_1 x10_1).f1))) w.heap.size (fun k_ => k_ ≠ gb110) u3 x3_1) := ⟨by (with_reducible repeat (first | apply Kd.R_alloc | apply Kd.R_drewN | apply Kd.R_drew)); exact Kd.R_mono (Kd.R_far (p := ⟨gb110, 1, none⟩) (Kd.R_far (p := ⟨gb110, 0, none⟩) (Kd.R_mono HO_3.out (fun k_ hk => (⟨hk, hk.2⟩ : _ ∧ k_ ≠ gb110))) (fun _ hk => hk.2) (.int .i64 ((rd_TTie l0_1 x10_1).f0))) (fun _ hk => hk.2) (.int .i64 ((rd_TTie l0_1 x10_1).f1))) (fun _ hk => hk.1.2)⟩
 have n1_ : Aside0 (((w24.setCell ⟨gb110, 0, none⟩ (.int .i64 ((rd_TTie l0_1 x10_1).f0))).setCell ⟨gb110, 1, none⟩ (.int .i64 ((rd_TTie l0_1 x10_1).f1))).heap[gb103]? = some (.cells #[.int .i64 a0_0, .slice (some ad109) l0_1.length c0_1] 25 (0, 0))) := ⟨qf BK103.out⟩
 have n2_ : Aside0 (((w24.setCell ⟨gb110, 0, none⟩ (.int .i64 ((rd_TTie l0_1 x10_1).f0))).setCell ⟨gb110, 1, none⟩ (.int .i64 ((rd_TTie l0_1 x10_1).f1))).heap[gb110]? = some (.cells #[.int .i64 ((rd_TTie l0_1 x10_1).f0), .int .i64 ((rd_TTie l0_1 x10_1).f1)] 32 (0, 0))) := ⟨by (with_reducible repeat (first | refine blk_drewN ?_ _ | refine blk_drew ?_ | refine blk_alloc ?_ _)); refine blk_put (cs := #[.int .i64 ((rd_TTie l0_1 x10_1).f0), .int .i64 0]) ?_ 1 _ rfl; (with_reducible repeat (first | refine blk_drewN ?_ _ | refine blk_drew ?_ | refine blk_alloc ?_ _)); refine blk_put (cs := #[.int .i64 0, .int .i64 0]) ?_ 0 _ rfl; (with_reducible repeat (first | refine blk_drewN ?_ _ | refine blk_drew ?_ | refine blk_alloc ?_ _)); exact BK110.out⟩
 have n3_ : Aside0 (Below w.heap.size w ((w24.setCell ⟨gb110, 0, none⟩ (.int .i64 ((rd_TTie l0_1 x10_1).f0))).setCell ⟨gb110, 1, none⟩ (.int .i64 ((rd_TTie l0_1 x10_1).f1)))) := ⟨qb HB.out⟩
 (try clear HO_3)
 (try clear BK103)
 (try clear BK110)
 (try clear HB)
 generalize ((w24.setCell ⟨gb110, 0, none⟩ (.int .i64 ((rd_TTie l0_1 x10_1).f0))).setCell ⟨gb110, 1, none⟩ (.int .i64 ((rd_TTie l0_1 x10_1).f1))) = w27 at n0_ n1_ n2_ n3_ ⊢
 have HO_3 := n0_
 have BK103 := n1_
 have BK110 := n2_
 have HB := n3_
 clear n0_ n1_ n2_ n3_
 replace HO_3 := q0 (Kd.R_drew HO_3.out)
 replace BK103 := q0 (blk_drew BK103.out)
 replace BK110 := q0 (blk_drew BK110.out)
 replace HB := q0 (below_drew1 HB.out)
 refine start_ (n := 10) (S := fun w' => w'.cell? ⟨gb103, 0, none⟩ = some (.int .i64 a0_0) ∧ w'.cell? ⟨gb103, 1, none⟩ = some (.slice (some ad109) l0_1.length c0_1) ∧ w'.cell? ⟨gb110, 0, none⟩ = some (.int .i64 ((rd_TTie l0_1 x10_1).f0)) ∧ w'.cell? ⟨gb110, 1, none⟩ = some (.int .i64 ((rd_TTie l0_1 x10_1).f1))) (ds := []) (ba 10 0) (by kernel_rfl) rfl (by kernel_rfl) ⟨(blk_cell BK103.out 0).trans rfl, (blk_cell BK103.out 1).trans rfl, (blk_cell BK110.out 0).trans rfl, (blk_cell BK110.out 1).trans rfl⟩ (fun hHeld => ?_); refine with_tabW impl_Net_bridges.tab5 impl_Net_bridges.bits5 (fun HT_ HW_ => ?_)
 generalize w27.drew = w28 at HO_3 BK103 BK110 HB hHeld ⊢
 refine pu 4 (some 18) (ba 10 16) HT_.out ?_
 refine pu 6 (some 20) (ba 10 80) HT_.out ?_
 refine tu 0 (some 14) (ba 10 81) HT_.out HW_.out hHeld ?_
 refine tu 1 (some 15) (ba 10 83) HT_.out HW_.out hHeld ?_
 refine tu 5 (some 19) (ba 10 115) HT_.out HW_.out hHeld ?_
 refine tu 7 (some 21) (ba 10 243) HT_.out HW_.out hHeld ?_
 refine one_ (i := 2) (N := some 16) (ba 10 247) rfl rfl (one_of HT_.out (by kernel_rfl)) (by decide) (fun K hK => ?_)
 refine Kd.R_lit_step kTie _ 32 ?hg (N := 16) ?hd (xs := ([(⟨(rd_TTie l0_1 x10_1).f0, (rd_TTie l0_1 x10_1).f1⟩ : STie)] : List (STie))) (inner := [.int .i64 ((rd_TTie l0_1 x10_1).f0), .int .i64 ((rd_TTie l0_1 x10_1).f1)]) (ok := fun _ => True) (okp := fun _ => True) ?hr ?hp (fun _ hk => hk) trivial (Below.refl _ _) (Nat.le_refl _) (by simp) ?_; (case hd => rfl); (case hg => rfl); (case hr => first | (go_simp; done) | (go_simp; rfl)); (case hp => exact (Reps.c2 (show Kd.M kTie _ _ _ (⟨(rd_TTie l0_1 x10_1).f0, (rd_TTie l0_1 x10_1).f1⟩ : STie) [.int .i64 ((rd_TTie l0_1 x10_1).f0), .int .i64 ((rd_TTie l0_1 x10_1).f1)] from (kTie_mkM _ _ _ (⟨(rd_TTie l0_1 x10_1).f0, (rd_TTie l0_1 x10_1).f1⟩ : STie) )) (Reps.none _ _)))
 intro v111 w29 ho30 hb hg_ hnew_
 clear hg_ hnew_
 (first | rw [← Ny106.out] at ho30 | (simp only [Int.reduceToNat] at ho30; rw [← Ny106.out] at ho30))
 have HO112 := q0 (Kd.R_lower (Kd.R_newB (Kd.R_new' ho30 (Kd.R_lt (qr HO_3.out))) (g := gb110) (o := .cells #[.int .i64 ((rd_TTie l0_1 x10_1).f0), .int .i64 ((rd_TTie l0_1 x10_1).f1)] 32 (0, 0)) (qk BK110.out)) (below_size (qb HB.out)))
 replace HO_3 := q0 (Kd.R_elder' (qr HO_3.out) (Kd.R_base ho30) hb)
 replace BK103 := q0 (kb BK103.out hb)
 replace BK110 := q0 (kb BK110.out hb)
 replace HB := q0 (below_step (qb HB.out) hb)
 clear hb ho30
 obtain ⟨Ao31, co31, eo31⟩ := Kd.R_slice HO112.out
 (first | subst eo31 | (injection eo31 with f1_ f2_ f3_; have f4_ := f1_.symm; have f5_ := f3_.symm; clear f1_ f2_ f3_; subst f4_; subst f5_))
 refine hK.out _ _ ⟨(blk_cell BK103.out 0).trans rfl, (blk_cell BK103.out 1).trans rfl, (blk_cell BK110.out 0).trans rfl, (blk_cell BK110.out 1).trans rfl⟩ (fun hHeld => ?_)
 clear hK K
 refine nu 16 ?_
 refine one_ (i := 3) (N := some 17) (ba 10 255) rfl rfl (one_of HT_.out (by kernel_rfl)) (by decide) (fun K hK => ?_)
 refine goes_ Try.func55 (by kernel_rfl) rfl #[.agg #[.int .i64 a0_0, .slice (some ad109) l0_1.length c0_1], .slice Ao31 y106.length co31] (by rfl) rfl rfl qm ?_
 with_reducible refine (impl_Net_less.calls k1 a0_0 _ _ l0_1 _ _ y106 t101 t107 _ ?side1 ?side2 ?side3 ?side4 A9.out).mono ?_
 (case side1 => exact qc (Kd.C_below HR0_1.out HB.out))
 (case side2 => exact HC0_1.out)
 (case side3 => exact qc (Kd.R_reads' HO112.out).2.2)
 (case side4 => exact (Kd.R_reads' HO112.out).2.1)
 rintro e w32 ⟨v113, rfl, ho0, hb⟩
 refine ⟨_, rfl, ?_⟩
 have HO114 := q0 (Kd.R_lower (Kd.R_newB (Kd.R_new' (Kd.R_new' ho0 (Kd.R_lt (qr HO_3.out))) (Kd.R_lt (qr HO112.out))) (g := gb110) (o := .cells #[.int .i64 ((rd_TTie l0_1 x10_1).f0), .int .i64 ((rd_TTie l0_1 x10_1).f1)] 32 (0, 0)) (qk BK110.out)) (below_size (qb HB.out)))
 replace HO_3 := q0 (Kd.R_elder' (qr HO_3.out) (Kd.R_base ho0) hb)
 replace HO112 := q0 (Kd.R_elder' (qr HO112.out) (Kd.R_base ho0) hb)
 replace BK103 := q0 (kb BK103.out hb)
 replace BK110 := q0 (kb BK110.out hb)
 replace HB := q0 (below_step (qb HB.out) hb)
 (try clear hb)
 (try clear hb2)
 (try clear hk)
 (try clear hi)
 (try clear ho0)
 obtain ⟨Ao33, co33, eo33⟩ := Kd.R_slice HO114.out
 (first | subst eo33 | (injection eo33 with f1_ f2_ f3_; have f4_ := f1_.symm; have f5_ := f3_.symm; clear f1_ f2_ f3_; subst f4_; subst f5_))
 refine hK.out _ _ ⟨(blk_cell BK103.out 0).trans rfl, (blk_cell BK103.out 1).trans rfl, (blk_cell BK110.out 0).trans rfl, (blk_cell BK110.out 1).trans rfl⟩ (fun hHeld => ?_)
 clear hK K
 refine nu 17 ?_
 refine one_ (i := 8) (N := some 22) (ba 10 511) rfl rfl (one_of HT_.out (by kernel_rfl)) (by decide) (fun K hK => ?_)
 refine goes_ Try.func93 (by kernel_rfl) rfl #[.agg #[.int .i64 t101, .slice Ao33 t107.length co33], .int .i64 ((rd_TTie l0_1 x10_1).f0), .int .i64 ((rd_TTie l0_1 x10_1).f1)] (by rfl) rfl rfl qm ?_
 with_reducible refine (impl_Net_joined.calls k1 t101 _ _ t107 ((rd_TTie l0_1 x10_1).f0) ((rd_TTie l0_1 x10_1).f1) false _ ?side1 ?side2 A10.out).mono ?_
 (case side1 => exact qc (Kd.R_reads' HO114.out).2.2)
 (case side2 => exact (Kd.R_reads' HO114.out).2.1)
 rintro e w34 ⟨rfl, hb⟩
 refine ⟨_, rfl, ?_⟩
 replace HO_3 := q0 (Kd.R_below (qr HO_3.out) hb)
 replace HO112 := q0 (Kd.R_below (qr HO112.out) hb)
 replace HO114 := q0 (Kd.R_below (qr HO114.out) hb)
 replace BK103 := q0 (kb BK103.out hb)
 replace BK110 := q0 (kb BK110.out hb)
 replace HB := q0 (below_step (qb HB.out) hb)
 (try clear hb)
 (try clear hb2)
 (try clear hk)
 (try clear hi)
 refine hK.out _ _ ⟨(blk_cell BK103.out 0).trans rfl, (blk_cell BK103.out 1).trans rfl, (blk_cell BK110.out 0).trans rfl, (blk_cell BK110.out 1).trans rfl⟩ (fun hHeld => ?_)
 clear hK K
 refine nu 22 ?_
 refine pu 9 (some 23) (ba 10 1023) HT_.out ?_
 refine done_ (done_of HT_.out (by kernel_rfl)) ?_
 have hcz35_0 : w34.cell? ⟨gb110, 0, none⟩ = some (.int .i64 ((rd_TTie l0_1 x10_1).f0)) := (blk_cell BK110.out 0).trans rfl
 have hcz35_1 : w34.cell? ⟨gb110, 1, none⟩ = some (.int .i64 ((rd_TTie l0_1 x10_1).f1)) := (blk_cell BK110.out 1).trans rfl
 have hfz35_0 := blk_frozen BK110.out 0
 have hfz35_1 := blk_frozen BK110.out 1
 try go_wp2_with (first | ((with_reducible refine gate_builtin (b := .append) (xs := #[.tmp 24, .tmp 26]) rfl ?_); at_builtin; refine Kd.R_append kTie (w0 := w) w.heap.size rfl (.tmp 24) (.tmp 26) 23 32 (.agg #[(.int .i64 0), (.int .i64 0)]) 16 rfl Try.underlying23 info32 rfl (by decide) (by omega) u3 x3_1 (⟨(rd_TTie l0_1 x10_1).f0, (rd_TTie l0_1 x10_1).f1⟩ : STie) [.int .i64 ((rd_TTie l0_1 x10_1).f0), .int .i64 ((rd_TTie l0_1 x10_1).f1)] (fun k_ => some k_ ≠ (.slice Ao31 y106.length co31 : Value).ownBlock ∧ some k_ ≠ (.slice Ao33 t107.length co33 : Value).ownBlock ∧ k_ ≠ gb110) (fun _ => False) rfl rfl ?aP (fun _ hk => hk.elim) ?aF ?aO ?aB ?aS ?aL ?_; (case aP => exact kTie_mkM _ _ _ (⟨(rd_TTie l0_1 x10_1).f0, (rd_TTie l0_1 x10_1).f1⟩ : STie)); (case aB => exact (qb HB.out)); (case aF => exact (fun k_ hk => ⟨Kd.fresh' (Kd.R_lt (qr HO112.out)) k_ hk, Kd.fresh' (Kd.R_lt (qr HO114.out)) k_ hk, Kd.freshB (g := gb110) (o := .cells #[.int .i64 ((rd_TTie l0_1 x10_1).f0), .int .i64 ((rd_TTie l0_1 x10_1).f1)] 32 (0, 0)) (qk BK110.out) k_ hk⟩)); (case aO => exact (by (with_reducible repeat (first | apply Kd.R_alloc | apply Kd.R_drewN | apply Kd.R_drew)); exact Kd.R_mono HO_3.out (fun _ hk => ⟨hk.1.2, ⟨hk.2, hk.1.1⟩⟩))); (case aS => exact (below_size (qb HB.out))); (case aL => have := LMc23.out; omega); intro v116 w36 ho hb hg hat; rw [← Ny115.out] at ho; replace BK103 := q0 (blk_grown (g := gb103) (o := .cells #[.int .i64 a0_0, .slice (some ad109) l0_1.length c0_1] 25 (0, 0)) (qk BK103.out) hg (Kd.R_ne HO_3.out BK103.out (by decide))); replace BK110 := q0 (blk_grown (g := gb110) (o := .cells #[.int .i64 ((rd_TTie l0_1 x10_1).f0), .int .i64 ((rd_TTie l0_1 x10_1).f1)] 32 (0, 0)) (qk BK110.out) hg (Kd.R_away HO_3.out (fun _ hk => hk.1.1))); replace HO112 := q0 (Kd.R_after (ok := (fun k_ => some k_ ≠ (.slice Ao33 t107.length co33 : Value).ownBlock ∧ k_ ≠ gb110)) (by (with_reducible repeat (first | apply Kd.R_alloc | apply Kd.R_drewN | apply Kd.R_drew)); exact Kd.R_mono HO112.out (fun _ hk => ⟨⟨hk.2, hk.1.2⟩, hk.1.1.2⟩)) hg hat); replace HO114 := q0 (Kd.R_after (ok := (fun k_ => some k_ ≠ (.slice Ao31 y106.length co31 : Value).ownBlock ∧ k_ ≠ gb110)) (by (with_reducible repeat (first | apply Kd.R_alloc | apply Kd.R_drewN | apply Kd.R_drew)); exact Kd.R_mono HO114.out (fun _ hk => ⟨⟨hk.1.2, hk.2⟩, hk.1.1.2⟩)) hg hat); replace HB := q0 (hb); have HO117 := q0 (ho); clear HO_3; clear ho hb hg hat))
 go_roundg k1
 case measure => have := HK1.out; omega
 case rel => exact ⟨(y115), (wrap64 (x10_1 + 1)), qs, H', ⟨by have := HK1.out; omega⟩, ⟨by (with_reducible repeat (first | apply Kd.R_alloc | apply Kd.R_drewN | apply Kd.R_drew)); exact Kd.R_mono HO117.out (fun _ hk => trivial)⟩, ⟨qk BK103.out⟩, ⟨qb HB.out⟩⟩

set_option maxHeartbeats 8000000 in
set_option maxRecDepth 100000 in
theorem impl_BridgeList.calls (k : Nat) (a0_0 : Int) (A0_1 : Option Addr) (c0_1 : Nat) (l0_1 : List (STie)) (r : List (STie)) (w : World) (hr0_1 : Kd.C kTie w A0_1 l0_1.length l0_1) (hc0_1 : l0_1.length ≤ c0_1) (h : impl_BridgeList.f k a0_0 l0_1 = some r) :
    Calls Try.prog 15 #[.agg #[.int .i64 a0_0, .slice A0_1 l0_1.length c0_1]] w fun e w' => ∃ v0_ : Value, e = .returned (v0_) ∧ Kd.R kTie 32 w' w.heap.size (fun _ => True) v0_ r ∧ Below w.heap.size w w' := by
 have hu25 := Try.underlying25
 have HR0_1 := Aside0.mk hr0_1
 have HC0_1 := Aside0.mk hc0_1
 clear hr0_1 hc0_1
 have HB := q0 (Below.refl w.heap.size w)
 have H : ((impl_NetOk.f k a0_0 l0_1).bind fun t100 => (if t100 = true then ((impl_Net_bridges.f k a0_0 l0_1).bind fun t101 => (some t101)) else (some (([] : List (STie)))))) = some r := h
 clear h
 replace H := Option.bind_eq_some_iff.mp H
 obtain ⟨t100, A20, H⟩ := H
 have A2 := Aside0.mk A20
 clear A20
 by_cases c3 : t100 = true
 · subst c3
   rw [if_pos rfl] at H
   replace H := Option.bind_eq_some_iff.mp H
   obtain ⟨t101, A40, H⟩ := H
   have A4 := Aside0.mk A40
   clear A40
   obtain rfl := Option.some.inj H
   go_enter Try.func15, Try.ntmps15
   go_wp2_with (first | ((with_reducible refine gate_dst (N := 1) rfl ?_); refine be 1 #[.int .i64 a0_0, .slice A0_1 l0_1.length c0_1] 25 ?_; intro gb102 hg w5 hbox hb; have BK102 := q0 (hbox); have GW102 := q0 ((bs HB.out hg : w.heap.size ≤ gb102)); have GE102 := q0 ((bs HB.out hg : w.heap.size ≤ gb102)); replace HB := q0 (below_step (qb HB.out) hb); clear hb hbox hg; have hcz6_0 : w5.cell? ⟨gb102, 0, none⟩ = some (.int .i64 a0_0) := (blk_cell BK102.out 0).trans rfl; have hcz6_1 : w5.cell? ⟨gb102, 1, none⟩ = some (.slice A0_1 l0_1.length c0_1) := (blk_cell BK102.out 1).trans rfl; have hfz6_0 := blk_frozen BK102.out 0; have hfz6_1 := blk_frozen BK102.out 1) | ((with_reducible refine gate_callee (f := 37) rfl ?_); refine gl 4 Try.func37 #[.agg #[.int .i64 a0_0, .slice A0_1 l0_1.length c0_1]] ?_; (with_reducible refine (impl_NetOk.calls k a0_0 _ _ l0_1 true _ ?side1 ?side2 A2.out).mono ?_); (case side1 => exact qc (Kd.C_below HR0_1.out HB.out)); (case side2 => exact HC0_1.out); rintro e w7 ⟨rfl, hb⟩; refine ⟨_, rfl, ?_⟩; replace BK102 := q0 (kb BK102.out hb); replace HB := q0 (below_step (qb HB.out) hb); (try clear hb); (try clear hb2); (try clear hk); (try clear hi); have hcz8_0 : w7.cell? ⟨gb102, 0, none⟩ = some (.int .i64 a0_0) := (blk_cell BK102.out 0).trans rfl; have hcz8_1 : w7.cell? ⟨gb102, 1, none⟩ = some (.slice A0_1 l0_1.length c0_1) := (blk_cell BK102.out 1).trans rfl; have hfz8_0 := blk_frozen BK102.out 0; have hfz8_1 := blk_frozen BK102.out 1) | ((with_reducible refine gate_callee (f := 53) rfl ?_); refine gl 8 Try.func53 #[.agg #[.int .i64 a0_0, .slice A0_1 l0_1.length c0_1]] ?_; (with_reducible refine (impl_Net_bridges.calls k a0_0 _ _ l0_1 t101 _ ?side1 ?side2 A4.out).mono ?_); (case side1 => exact qc (Kd.C_below HR0_1.out HB.out)); (case side2 => exact HC0_1.out); rintro e w9 ⟨v103, rfl, ho0, hb⟩; refine ⟨_, rfl, ?_⟩; have HO104 := q0 (Kd.R_lower ho0 (below_size (qb HB.out))); replace BK102 := q0 (kb BK102.out hb); replace HB := q0 (below_step (qb HB.out) hb); (try clear hb); (try clear hb2); (try clear hk); (try clear hi); (try clear ho0)))
   go_ret
   exact ⟨_, qe, qr HO104.out, qb HB.out⟩
 replace c3 := Bool.eq_false_iff.mpr c3
 subst c3
 rw [if_neg nf] at H
 obtain ⟨y105, hy105⟩ : ∃ y_ : List (STie), y_ = (([] : List (STie))) := ⟨_, rfl⟩
 replace H : (some y105) = some r := qy H hy105
 have Ny105 := Aside0.mk hy105
 clear hy105
 obtain rfl := Option.some.inj H
 go_enter Try.func15, Try.ntmps15
 go_wp2_with (first | ((with_reducible refine gate_dst (N := 1) rfl ?_); refine be 1 #[.int .i64 a0_0, .slice A0_1 l0_1.length c0_1] 25 ?_; intro gb102 hg w10 hbox hb; have BK102 := q0 (hbox); have GW102 := q0 ((bs HB.out hg : w.heap.size ≤ gb102)); have GE102 := q0 ((bs HB.out hg : w.heap.size ≤ gb102)); replace HB := q0 (below_step (qb HB.out) hb); clear hb hbox hg; have hcz11_0 : w10.cell? ⟨gb102, 0, none⟩ = some (.int .i64 a0_0) := (blk_cell BK102.out 0).trans rfl; have hcz11_1 : w10.cell? ⟨gb102, 1, none⟩ = some (.slice A0_1 l0_1.length c0_1) := (blk_cell BK102.out 1).trans rfl; have hfz11_0 := blk_frozen BK102.out 0; have hfz11_1 := blk_frozen BK102.out 1) | ((with_reducible refine gate_callee (f := 37) rfl ?_); refine gl 4 Try.func37 #[.agg #[.int .i64 a0_0, .slice A0_1 l0_1.length c0_1]] ?_; (with_reducible refine (impl_NetOk.calls k a0_0 _ _ l0_1 false _ ?side1 ?side2 A2.out).mono ?_); (case side1 => exact qc (Kd.C_below HR0_1.out HB.out)); (case side2 => exact HC0_1.out); rintro e w12 ⟨rfl, hb⟩; refine ⟨_, rfl, ?_⟩; replace BK102 := q0 (kb BK102.out hb); replace HB := q0 (below_step (qb HB.out) hb); (try clear hb); (try clear hb2); (try clear hk); (try clear hi)) | ((with_reducible refine gate_dst (N := 6) rfl ?_); refine Kd.R_lit kTie _ 32 ?hg (N := 6) ?hd (xs := ([] : List (STie))) (inner := []) (ok := fun _ => True) (okp := fun _ => True) ?hr ?hp (fun _ hk => hk) trivial (Below.refl _ _) (Nat.le_refl _) (by simp) ?_; (case hd => rfl); (case hg => rfl); (case hr => first | (go_simp; done) | (go_simp; rfl)); (case hp => exact (Reps.none _ _)); intro v106 w13 ho14 hb hg_ hnew_; clear hg_ hnew_; (first | rw [← Ny105.out] at ho14 | (simp only [Int.reduceToNat] at ho14; rw [← Ny105.out] at ho14)); have HO107 := q0 (Kd.R_lower ho14 (below_size (qb HB.out))); replace BK102 := q0 (kb BK102.out hb); replace HB := q0 (below_step (qb HB.out) hb); clear hb ho14))
 go_ret
 exact ⟨_, qe, qr HO107.out, qb HB.out⟩

def spec_BridgeIs.T2 : Bool × List (List Nat × List Nat) := (true, [([], []), ([0], [0]), ([1], [1]), ([2, 1, 1], [1, 2]), ([1], [1]), ([4, 3, 1], [1, 4]), ([3, 5, 1], [1, 3, 5]), ([1, 6], [1, 6]), ([7, 5, 0, 1, 2, 3, 4, 5, 6, 7], [7])])
def spec_BridgeIs.B2 : List Nat := [0, 1, 3, 7, 3, 31, 63, 127, 255]
theorem spec_BridgeIs.tab2 : rtab .any (opsOf Try.f54 2) = spec_BridgeIs.T2 := by kernel_rfl
theorem spec_BridgeIs.bits2 : waitsOk spec_BridgeIs.T2.2 spec_BridgeIs.B2 = true := by kernel_rfl
set_option maxHeartbeats 8000000 in
set_option maxRecDepth 100000 in
theorem spec_BridgeIs.calls (k : Nat) (a0_0 : Int) (A0_1 : Option Addr) (c0_1 : Nat) (l0_1 : List (STie)) (a1 : Int) (a2 : Int) (r : Bool) (w : World) (hr0_1 : Kd.C kTie w A0_1 l0_1.length l0_1) (hc0_1 : l0_1.length ≤ c0_1) (h : spec_BridgeIs.f k a0_0 l0_1 a1 a2 = some r) :
    Calls Try.prog 54 #[.agg #[.int .i64 a0_0, .slice A0_1 l0_1.length c0_1], .int .i64 a1, .int .i64 a2] w fun e w' => e = .returned (.bool r) ∧ Below w.heap.size w w' := by
 have hu25 := Try.underlying25
 have HR0_1 := Aside0.mk hr0_1
 have HC0_1 := Aside0.mk hc0_1
 clear hr0_1 hc0_1
 have HB := q0 (Below.refl w.heap.size w)
 have H : ((spec_NetCut.f k a0_0 l0_1 a1 a2).bind fun bt100 => (if bt100.2.2 = true then ((spec_WayCount.f k bt100.1 bt100.2.1).bind fun t101 => ((spec_WayCount.f k a0_0 l0_1).bind fun t102 => (some (decide (t101 > t102))))) else (some false))) = some r := h
 clear h
 replace H := Option.bind_eq_some_iff.mp H
 obtain ⟨⟨t100, t103, t104⟩, A40, H⟩ := H
 have A4 := Aside0.mk A40
 clear A40
 by_cases c5 : t104 = true
 rotate_left
 · replace c5 := Bool.eq_false_iff.mpr c5
   subst c5
   rw [if_neg nf] at H
   obtain rfl := Option.some.inj H
   go_enter Try.func54, Try.ntmps54
   try go_wp2_with (first | ((with_reducible refine gate_dst (N := 3) rfl ?_); refine be 3 #[.int .i64 a0_0, .slice A0_1 l0_1.length c0_1] 25 ?_; intro gb105 hg w19 hbox hb; have BK105 := q0 (hbox); have GW105 := q0 ((bs HB.out hg : w.heap.size ≤ gb105)); have GE105 := q0 ((bs HB.out hg : w.heap.size ≤ gb105)); replace HB := q0 (below_step (qb HB.out) hb); clear hb hbox hg; have hcz20_0 : w19.cell? ⟨gb105, 0, none⟩ = some (.int .i64 a0_0) := (blk_cell BK105.out 0).trans rfl; have hcz20_1 : w19.cell? ⟨gb105, 1, none⟩ = some (.slice A0_1 l0_1.length c0_1) := (blk_cell BK105.out 1).trans rfl; have hfz20_0 := blk_frozen BK105.out 0; have hfz20_1 := blk_frozen BK105.out 1) | ((with_reducible refine gate_callee (f := 40) rfl ?_); refine gl 13 Try.func40 #[.agg #[.int .i64 a0_0, .slice A0_1 l0_1.length c0_1], .int .i64 a1, .int .i64 a2] ?_; (with_reducible refine (spec_NetCut.calls k a0_0 _ _ l0_1 a1 a2 t100 t103 false _ ?side1 ?side2 A4.out).mono ?_); (case side1 => exact qc (Kd.C_below HR0_1.out HB.out)); (case side2 => exact HC0_1.out); rintro e w21 ⟨v106, rfl, ho0, hb⟩; refine ⟨_, rfl, ?_⟩; have HO107 := q0 (Kd.R_lower ho0 (below_size (qb HB.out))); replace BK105 := q0 (kb BK105.out hb); replace HB := q0 (below_step (qb HB.out) hb); (try clear hb); (try clear hb2); (try clear hk); (try clear hi); (try clear ho0)) | ((with_reducible refine gate_dst (N := 7) rfl ?_); refine be 7 #[.int .i64 0, .slice none 0 0] 25 ?_; intro gb108 hg w22 hbox hb; replace HO107 := q0 (Kd.R_below (qr HO107.out) hb); have BK108 := q0 (hbox); have GW108 := q0 ((bs HB.out hg : w.heap.size ≤ gb108)); have GE108 := q0 ((bs HB.out hg : w.heap.size ≤ gb108)); replace HB := q0 (below_step (qb HB.out) hb); have NB105_108 := q0 ((bl BK105.out hg : gb105 ≠ gb108)); have NB108_105 := q0 ((bg BK105.out hg : gb108 ≠ gb105)); replace BK105 := q0 (kb BK105.out hb); clear hb hbox hg; have hnb23 := NB108_105.out; have hnc23 := NB105_108.out; have hcz24_0 : w22.cell? ⟨gb108, 0, none⟩ = some (.int .i64 0) := (blk_cell BK108.out 0).trans rfl; have hcz24_1 : w22.cell? ⟨gb108, 1, none⟩ = some (.slice none 0 0) := (blk_cell BK108.out 1).trans rfl; have hfz24_0 := blk_frozen BK108.out 0; have hfz24_1 := blk_frozen BK108.out 1; obtain ⟨Ao25, co25, eo25⟩ := Kd.R_slice HO107.out; subst eo25))
   have n0_ : Aside0 (Kd.R kTie 32 ((w22.setCell ⟨gb108, 0, none⟩ (.int .i64 t100)).setCell ⟨gb108, 1, none⟩ (.slice Ao25 t103.length co25)) w.heap.size (fun _ => True) (.slice Ao25 t103.length co25) t103) := ⟨by (with_reducible repeat (first | apply Kd.R_alloc | apply Kd.R_drewN | apply Kd.R_drew)); exact rf2 HO107.out BK108.out (fun _ hk => trivial)⟩
   have n1_ : Aside0 (((w22.setCell ⟨gb108, 0, none⟩ (.int .i64 t100)).setCell ⟨gb108, 1, none⟩ (.slice Ao25 t103.length co25)).heap[gb105]? = some (.cells #[.int .i64 a0_0, .slice A0_1 l0_1.length c0_1] 25 (0, 0))) := ⟨qf BK105.out⟩
   have n2_ : Aside0 (((w22.setCell ⟨gb108, 0, none⟩ (.int .i64 t100)).setCell ⟨gb108, 1, none⟩ (.slice Ao25 t103.length co25)).heap[gb108]? = some (.cells #[.int .i64 t100, .slice Ao25 t103.length co25] 25 (0, 0))) := ⟨by (with_reducible repeat (first | refine blk_drewN ?_ _ | refine blk_drew ?_ | refine blk_alloc ?_ _)); refine blk_put (cs := #[.int .i64 t100, .slice none 0 0]) ?_ 1 _ rfl; (with_reducible repeat (first | refine blk_drewN ?_ _ | refine blk_drew ?_ | refine blk_alloc ?_ _)); refine blk_put (cs := #[.int .i64 0, .slice none 0 0]) ?_ 0 _ rfl; (with_reducible repeat (first | refine blk_drewN ?_ _ | refine blk_drew ?_ | refine blk_alloc ?_ _)); exact BK108.out⟩
   have n3_ : Aside0 (Below w.heap.size w ((w22.setCell ⟨gb108, 0, none⟩ (.int .i64 t100)).setCell ⟨gb108, 1, none⟩ (.slice Ao25 t103.length co25))) := ⟨qb HB.out⟩
   (try clear HO107)
   (try clear BK105)
   (try clear BK108)
   (try clear HB)
   generalize ((w22.setCell ⟨gb108, 0, none⟩ (.int .i64 t100)).setCell ⟨gb108, 1, none⟩ (.slice Ao25 t103.length co25)) = w26 at n0_ n1_ n2_ n3_ ⊢
   have HO107 := n0_
   have BK105 := n1_
   have BK108 := n2_
   have HB := n3_
   clear n0_ n1_ n2_ n3_
   replace HO107 := q0 (Kd.R_drew HO107.out)
   replace BK105 := q0 (blk_drew BK105.out)
   replace BK108 := q0 (blk_drew BK108.out)
   replace HB := q0 (below_drew1 HB.out)
   refine start_ (n := 9) (S := fun w' => True) (ds := []) (ba 9 0) (by kernel_rfl) rfl (by kernel_rfl) trivial (fun hHeld => ?_); refine with_tabW spec_BridgeIs.tab2 spec_BridgeIs.bits2 (fun HT_ HW_ => ?_)
   generalize w26.drew = w27 at HO107 BK105 BK108 HB hHeld ⊢
   refine pu 0 (some 16) (ba 9 1) HT_.out ?_
   refine pu 1 (some 17) (ba 9 3) HT_.out ?_
   refine pv 2 (some 18) (ba 9 7) HT_.out ?_
   refine pv 3 (some 19) (ba 9 15) HT_.out ?_
   refine pv 4 (some 20) (ba 9 31) HT_.out ?_
   refine pv 5 (some 21) (ba 9 63) HT_.out ?_
   refine pv 6 (some 22) (ba 9 127) HT_.out ?_
   refine pu 7 (some 23) (ba 9 255) HT_.out ?_
   refine pu 8 (some 6) (ba 9 511) HT_.out ?_
   refine done_ (done_of HT_.out (by kernel_rfl)) ?_
   try go_wp2
   go_ret
   exact ⟨qe, qb HB.out⟩
 subst c5
 rw [if_pos rfl] at H
 replace H := Option.bind_eq_some_iff.mp H
 obtain ⟨t101, A60, H⟩ := H
 have A6 := Aside0.mk A60
 clear A60
 replace H := Option.bind_eq_some_iff.mp H
 obtain ⟨t102, A70, H⟩ := H
 have A7 := Aside0.mk A70
 clear A70
 obtain rfl := Option.some.inj H
 go_enter Try.func54, Try.ntmps54
 try go_wp2_with (first | ((with_reducible refine gate_dst (N := 3) rfl ?_); refine be 3 #[.int .i64 a0_0, .slice A0_1 l0_1.length c0_1] 25 ?_; intro gb105 hg w8 hbox hb; have BK105 := q0 (hbox); have GW105 := q0 ((bs HB.out hg : w.heap.size ≤ gb105)); have GE105 := q0 ((bs HB.out hg : w.heap.size ≤ gb105)); replace HB := q0 (below_step (qb HB.out) hb); clear hb hbox hg; have hcz9_0 : w8.cell? ⟨gb105, 0, none⟩ = some (.int .i64 a0_0) := (blk_cell BK105.out 0).trans rfl; have hcz9_1 : w8.cell? ⟨gb105, 1, none⟩ = some (.slice A0_1 l0_1.length c0_1) := (blk_cell BK105.out 1).trans rfl; have hfz9_0 := blk_frozen BK105.out 0; have hfz9_1 := blk_frozen BK105.out 1) | ((with_reducible refine gate_callee (f := 40) rfl ?_); refine gl 13 Try.func40 #[.agg #[.int .i64 a0_0, .slice A0_1 l0_1.length c0_1], .int .i64 a1, .int .i64 a2] ?_; (with_reducible refine (spec_NetCut.calls k a0_0 _ _ l0_1 a1 a2 t100 t103 true _ ?side1 ?side2 A4.out).mono ?_); (case side1 => exact qc (Kd.C_below HR0_1.out HB.out)); (case side2 => exact HC0_1.out); rintro e w10 ⟨v106, rfl, ho0, hb⟩; refine ⟨_, rfl, ?_⟩; have HO107 := q0 (Kd.R_lower ho0 (below_size (qb HB.out))); replace BK105 := q0 (kb BK105.out hb); replace HB := q0 (below_step (qb HB.out) hb); (try clear hb); (try clear hb2); (try clear hk); (try clear hi); (try clear ho0)) | ((with_reducible refine gate_dst (N := 7) rfl ?_); refine be 7 #[.int .i64 0, .slice none 0 0] 25 ?_; intro gb108 hg w11 hbox hb; replace HO107 := q0 (Kd.R_below (qr HO107.out) hb); have BK108 := q0 (hbox); have GW108 := q0 ((bs HB.out hg : w.heap.size ≤ gb108)); have GE108 := q0 ((bs HB.out hg : w.heap.size ≤ gb108)); replace HB := q0 (below_step (qb HB.out) hb); have NB105_108 := q0 ((bl BK105.out hg : gb105 ≠ gb108)); have NB108_105 := q0 ((bg BK105.out hg : gb108 ≠ gb105)); replace BK105 := q0 (kb BK105.out hb); clear hb hbox hg; have hnb12 := NB108_105.out; have hnc12 := NB105_108.out; have hcz13_0 : w11.cell? ⟨gb108, 0, none⟩ = some (.int .i64 0) := (blk_cell BK108.out 0).trans rfl; have hcz13_1 : w11.cell? ⟨gb108, 1, none⟩ = some (.slice none 0 0) := (blk_cell BK108.out 1).trans rfl; have hfz13_0 := blk_frozen BK108.out 0; have hfz13_1 := blk_frozen BK108.out 1; obtain ⟨Ao14, co14, eo14⟩ := Kd.R_slice HO107.out; subst eo14))
 have n0_ : Aside0 (Kd.R kTie 32 ((w11.setCell ⟨gb108, 0, none⟩ (.int .i64 t100)).setCell ⟨gb108, 1, none⟩ (.slice Ao14 t103.length co14)) w.heap.size (fun _ => True) (.slice Ao14 t103.length co14) t103) := ⟨by (with_reducible repeat (first | apply Kd.R_alloc | apply Kd.R_drewN | apply Kd.R_drew)); exact rf2 HO107.out BK108.out (fun _ hk => trivial)⟩
 have n1_ : Aside0 (((w11.setCell ⟨gb108, 0, none⟩ (.int .i64 t100)).setCell ⟨gb108, 1, none⟩ (.slice Ao14 t103.length co14)).heap[gb105]? = some (.cells #[.int .i64 a0_0, .slice A0_1 l0_1.length c0_1] 25 (0, 0))) := ⟨qf BK105.out⟩
 have n2_ : Aside0 (((w11.setCell ⟨gb108, 0, none⟩ (.int .i64 t100)).setCell ⟨gb108, 1, none⟩ (.slice Ao14 t103.length co14)).heap[gb108]? = some (.cells #[.int .i64 t100, .slice Ao14 t103.length co14] 25 (0, 0))) := ⟨by (with_reducible repeat (first | refine blk_drewN ?_ _ | refine blk_drew ?_ | refine blk_alloc ?_ _)); refine blk_put (cs := #[.int .i64 t100, .slice none 0 0]) ?_ 1 _ rfl; (with_reducible repeat (first | refine blk_drewN ?_ _ | refine blk_drew ?_ | refine blk_alloc ?_ _)); refine blk_put (cs := #[.int .i64 0, .slice none 0 0]) ?_ 0 _ rfl; (with_reducible repeat (first | refine blk_drewN ?_ _ | refine blk_drew ?_ | refine blk_alloc ?_ _)); exact BK108.out⟩
 have n3_ : Aside0 (Below w.heap.size w ((w11.setCell ⟨gb108, 0, none⟩ (.int .i64 t100)).setCell ⟨gb108, 1, none⟩ (.slice Ao14 t103.length co14))) := ⟨qb HB.out⟩
 (try clear HO107)
 (try clear BK105)
 (try clear BK108)
 (try clear HB)
 generalize ((w11.setCell ⟨gb108, 0, none⟩ (.int .i64 t100)).setCell ⟨gb108, 1, none⟩ (.slice Ao14 t103.length co14)) = w15 at n0_ n1_ n2_ n3_ ⊢
 have HO107 := n0_
 have BK105 := n1_
 have BK108 := n2_
 have HB := n3_
 clear n0_ n1_ n2_ n3_
 replace HO107 := q0 (Kd.R_drew HO107.out)
 replace BK105 := q0 (blk_drew BK105.out)
 replace BK108 := q0 (blk_drew BK108.out)
 replace HB := q0 (below_drew1 HB.out)
 refine start_ (n := 9) (S := fun w' => w'.cell? ⟨gb108, 0, none⟩ = some (.int .i64 t100) ∧ w'.cell? ⟨gb108, 1, none⟩ = some (.slice Ao14 t103.length co14) ∧ w'.cell? ⟨gb105, 0, none⟩ = some (.int .i64 a0_0) ∧ w'.cell? ⟨gb105, 1, none⟩ = some (.slice A0_1 l0_1.length c0_1)) (ds := []) (ba 9 0) (by kernel_rfl) rfl (by kernel_rfl) ⟨(blk_cell BK108.out 0).trans rfl, (blk_cell BK108.out 1).trans rfl, (blk_cell BK105.out 0).trans rfl, (blk_cell BK105.out 1).trans rfl⟩ (fun hHeld => ?_); refine with_tabW spec_BridgeIs.tab2 spec_BridgeIs.bits2 (fun HT_ HW_ => ?_)
 generalize w15.drew = w16 at HO107 BK105 BK108 HB hHeld ⊢
 refine pu 0 (some 16) (ba 9 1) HT_.out ?_
 refine pu 1 (some 17) (ba 9 3) HT_.out ?_
 refine tu 2 (some 18) (ba 9 7) HT_.out HW_.out hHeld ?_
 refine tu 4 (some 20) (ba 9 23) HT_.out HW_.out hHeld ?_
 refine one_ (i := 3) (N := some 19) (ba 9 31) rfl rfl (one_of HT_.out (by kernel_rfl)) (by decide) (fun K hK => ?_)
 refine goes_ Try.func64 (by kernel_rfl) rfl #[.agg #[.int .i64 t100, .slice Ao14 t103.length co14]] (by rfl) rfl rfl qm ?_
 with_reducible refine (spec_WayCount.calls k t100 _ _ t103 t101 _ ?side1 ?side2 A6.out).mono ?_
 (case side1 => exact qc (Kd.R_reads' HO107.out).2.2)
 (case side2 => exact (Kd.R_reads' HO107.out).2.1)
 rintro e w17 ⟨rfl, hb⟩
 refine ⟨_, rfl, ?_⟩
 replace HO107 := q0 (Kd.R_below (qr HO107.out) hb)
 replace BK105 := q0 (kb BK105.out hb)
 replace BK108 := q0 (kb BK108.out hb)
 replace HB := q0 (below_step (qb HB.out) hb)
 (try clear hb)
 (try clear hb2)
 (try clear hk)
 (try clear hi)
 refine hK.out _ _ ⟨(blk_cell BK108.out 0).trans rfl, (blk_cell BK108.out 1).trans rfl, (blk_cell BK105.out 0).trans rfl, (blk_cell BK105.out 1).trans rfl⟩ (fun hHeld => ?_)
 clear hK K
 refine nu 19 ?_
 refine one_ (i := 5) (N := some 21) (ba 9 63) rfl rfl (one_of HT_.out (by kernel_rfl)) (by decide) (fun K hK => ?_)
 refine goes_ Try.func64 (by kernel_rfl) rfl #[.agg #[.int .i64 a0_0, .slice A0_1 l0_1.length c0_1]] (by rfl) rfl rfl qm ?_
 with_reducible refine (spec_WayCount.calls k a0_0 _ _ l0_1 t102 _ ?side1 ?side2 A7.out).mono ?_
 (case side1 => exact qc (Kd.C_below HR0_1.out HB.out))
 (case side2 => exact HC0_1.out)
 rintro e w18 ⟨rfl, hb⟩
 refine ⟨_, rfl, ?_⟩
 replace HO107 := q0 (Kd.R_below (qr HO107.out) hb)
 replace BK105 := q0 (kb BK105.out hb)
 replace BK108 := q0 (kb BK108.out hb)
 replace HB := q0 (below_step (qb HB.out) hb)
 (try clear hb)
 (try clear hb2)
 (try clear hk)
 (try clear hi)
 refine hK.out _ _ ⟨(blk_cell BK108.out 0).trans rfl, (blk_cell BK108.out 1).trans rfl, (blk_cell BK105.out 0).trans rfl, (blk_cell BK105.out 1).trans rfl⟩ (fun hHeld => ?_)
 clear hK K
 refine nu 21 ?_
 refine pu 6 (some 22) (ba 9 127) HT_.out ?_
 refine pu 7 (some 23) (ba 9 255) HT_.out ?_
 refine pu 8 (some 6) (ba 9 511) HT_.out ?_
 refine done_ (done_of HT_.out (by kernel_rfl)) ?_
 try go_wp2
 go_ret
 exact ⟨qe, qb HB.out⟩

def spec_BridgeList.T7 : Bool × List (List Nat × List Nat) := (true, [([], []), ([], []), ([1], [1]), ([], []), ([2, 3], [2, 3]), ([4], [4]), ([5], [5]), ([], []), ([7], [7]), ([], []), ([8, 9], [8, 9]), ([10], [10]), ([11], [11]), ([0, 6, 12], [0, 6, 12])])
def spec_BridgeList.B7 : List Nat := [0, 0, 2, 0, 14, 30, 62, 0, 128, 0, 896, 1920, 3968, 8191]
theorem spec_BridgeList.tab7 : rtab .any (opsOf Try.f17 7) = spec_BridgeList.T7 := by kernel_rfl
theorem spec_BridgeList.bits7 : waitsOk spec_BridgeList.T7.2 spec_BridgeList.B7 = true := by kernel_rfl
set_option maxHeartbeats 8000000 in
set_option maxRecDepth 100000 in
theorem spec_BridgeList.calls (k : Nat) (a0_0 : Int) (A0_1 : Option Addr) (c0_1 : Nat) (l0_1 : List (STie)) (r : List (STie)) (w : World) (hr0_1 : Kd.C kTie w A0_1 l0_1.length l0_1) (hc0_1 : l0_1.length ≤ c0_1) (h : spec_BridgeList.f k a0_0 l0_1 = some r) :
    Calls Try.prog 17 #[.agg #[.int .i64 a0_0, .slice A0_1 l0_1.length c0_1]] w fun e w' => ∃ v0_ : Value, e = .returned (v0_) ∧ Kd.R kTie 32 w' w.heap.size (fun _ => True) v0_ r ∧ Below w.heap.size w w' := by
 have hu25 := Try.underlying25
 have hu32 := Try.underlying32
 have HR0_1 := Aside0.mk hr0_1
 have HC0_1 := Aside0.mk hc0_1
 clear hr0_1 hc0_1
 have HB := q0 (Below.refl w.heap.size w)
 have H : ((some (([] : List (STie)) : List (STie))).bind fun y100 => ((spec_NetOk.f k a0_0 l0_1).bind fun t102 => (if t102 = true then (spec_BridgeList.l0 k y100 0 a0_0 l0_1) else (some y100)))) = some r := h
 clear h
 obtain ⟨y100, hy100⟩ : ∃ y_ : List (STie), y_ = (([] : List (STie))) := ⟨_, rfl⟩
 replace H : ((spec_NetOk.f k a0_0 l0_1).bind fun t102 => (if t102 = true then (spec_BridgeList.l0 k y100 0 a0_0 l0_1) else (some y100))) = some r := qy H hy100
 have Ny100 := Aside0.mk hy100
 clear hy100
 replace H := Option.bind_eq_some_iff.mp H
 obtain ⟨t102, A20, H⟩ := H
 have A2 := Aside0.mk A20
 clear A20
 by_cases c3 : t102 = true
 rotate_left
 · replace c3 := Bool.eq_false_iff.mpr c3
   subst c3
   rw [if_neg nf] at H
   obtain rfl := Option.some.inj H
   go_enter Try.func17, Try.ntmps17
   go_wp2_with (first | ((with_reducible refine gate_dst (N := 1) rfl ?_); refine be 1 #[.int .i64 a0_0, .slice A0_1 l0_1.length c0_1] 25 ?_; intro gb103 hg w23 hbox hb; have BK103 := q0 (hbox); have GW103 := q0 ((bs HB.out hg : w.heap.size ≤ gb103)); have GE103 := q0 ((bs HB.out hg : w.heap.size ≤ gb103)); replace HB := q0 (below_step (qb HB.out) hb); clear hb hbox hg) | ((with_reducible refine gate_dst (N := 5) rfl ?_); refine Kd.R_lit kTie _ 32 ?hg (N := 5) ?hd (xs := ([] : List (STie))) (inner := []) (ok := fun _ => True) (okp := fun _ => True) ?hr ?hp (fun _ hk => hk) trivial (Below.refl _ _) (Nat.le_refl _) (by simp) ?_; (case hd => rfl); (case hg => rfl); (case hr => first | (go_simp; done) | (go_simp; rfl)); (case hp => exact (Reps.none _ _)); intro v104 w24 ho25 hb hg_ hnew_; clear hg_ hnew_; (first | rw [← Ny100.out] at ho25 | (simp only [Int.reduceToNat] at ho25; rw [← Ny100.out] at ho25)); have HO105 := q0 (Kd.R_lower ho25 (below_size (qb HB.out))); replace BK103 := q0 (kb BK103.out hb); replace HB := q0 (below_step (qb HB.out) hb); clear hb ho25; have hcz26_0 : w24.cell? ⟨gb103, 0, none⟩ = some (.int .i64 a0_0) := (blk_cell BK103.out 0).trans rfl; have hcz26_1 : w24.cell? ⟨gb103, 1, none⟩ = some (.slice A0_1 l0_1.length c0_1) := (blk_cell BK103.out 1).trans rfl; have hfz26_0 := blk_frozen BK103.out 0; have hfz26_1 := blk_frozen BK103.out 1) | ((with_reducible refine gate_callee (f := 49) rfl ?_); refine gl 7 Try.func49 #[.agg #[.int .i64 a0_0, .slice A0_1 l0_1.length c0_1]] ?_; (with_reducible refine (spec_NetOk.calls k a0_0 _ _ l0_1 false _ ?side1 ?side2 A2.out).mono ?_); (case side1 => exact qc (Kd.C_below HR0_1.out HB.out)); (case side2 => exact HC0_1.out); rintro e w27 ⟨rfl, hb⟩; refine ⟨_, rfl, ?_⟩; replace HO105 := q0 (Kd.R_below (qr HO105.out) hb); replace BK103 := q0 (kb BK103.out hb); replace HB := q0 (below_step (qb HB.out) hb); (try clear hb); (try clear hb2); (try clear hk); (try clear hi)))
   go_ret
   exact ⟨_, qe, qr HO105.out, qb HB.out⟩
 subst c3
 rw [if_pos rfl] at H
 have H' := Aside0.mk H
 clear H
 go_enter Try.func17, Try.ntmps17
 go_wp2_with (first | ((with_reducible refine gate_dst (N := 1) rfl ?_); refine be 1 #[.int .i64 a0_0, .slice A0_1 l0_1.length c0_1] 25 ?_; intro gb103 hg w4 hbox hb; have BK103 := q0 (hbox); have GW103 := q0 ((bs HB.out hg : w.heap.size ≤ gb103)); have GE103 := q0 ((bs HB.out hg : w.heap.size ≤ gb103)); replace HB := q0 (below_step (qb HB.out) hb); clear hb hbox hg) | ((with_reducible refine gate_dst (N := 5) rfl ?_); refine Kd.R_lit kTie _ 32 ?hg (N := 5) ?hd (xs := ([] : List (STie))) (inner := []) (ok := fun _ => True) (okp := fun _ => True) ?hr ?hp (fun _ hk => hk) trivial (Below.refl _ _) (Nat.le_refl _) (by simp) ?_; (case hd => rfl); (case hg => rfl); (case hr => first | (go_simp; done) | (go_simp; rfl)); (case hp => exact (Reps.none _ _)); intro v104 w5 ho6 hb hg_ hnew_; clear hg_ hnew_; (first | rw [← Ny100.out] at ho6 | (simp only [Int.reduceToNat] at ho6; rw [← Ny100.out] at ho6)); have HO105 := q0 (Kd.R_lower ho6 (below_size (qb HB.out))); replace BK103 := q0 (kb BK103.out hb); replace HB := q0 (below_step (qb HB.out) hb); clear hb ho6; have hcz7_0 : w5.cell? ⟨gb103, 0, none⟩ = some (.int .i64 a0_0) := (blk_cell BK103.out 0).trans rfl; have hcz7_1 : w5.cell? ⟨gb103, 1, none⟩ = some (.slice A0_1 l0_1.length c0_1) := (blk_cell BK103.out 1).trans rfl; have hfz7_0 := blk_frozen BK103.out 0; have hfz7_1 := blk_frozen BK103.out 1) | ((with_reducible refine gate_callee (f := 49) rfl ?_); refine gl 7 Try.func49 #[.agg #[.int .i64 a0_0, .slice A0_1 l0_1.length c0_1]] ?_; (with_reducible refine (spec_NetOk.calls k a0_0 _ _ l0_1 true _ ?side1 ?side2 A2.out).mono ?_); (case side1 => exact qc (Kd.C_below HR0_1.out HB.out)); (case side2 => exact HC0_1.out); rintro e w8 ⟨rfl, hb⟩; refine ⟨_, rfl, ?_⟩; replace HO105 := q0 (Kd.R_below (qr HO105.out) hb); replace BK103 := q0 (kb BK103.out hb); replace HB := q0 (below_step (qb HB.out) hb); (try clear hb); (try clear hb2); (try clear hk); (try clear hi)))
 go_loopg [3, 4] k (fun kq v3 v4 w' => ∃ (x3_1 : List (STie)) (x4_1 : Int), v4 = .int .i64 x4_1 ∧ Aside0 (spec_BridgeList.l0 kq x3_1 x4_1 a0_0 l0_1 = some r) ∧ Aside0 (kq ≤ k) ∧ Aside0 (Kd.R kTie 32 w' w.heap.size (fun _ => True) v3 x3_1) ∧ Aside0 (w'.heap[gb103]? = some (.cells #[.int .i64 a0_0, (.slice A0_1 l0_1.length c0_1)] 25 (0, 0))) ∧ Aside0 (Below w.heap.size w w'))
 case atStart => exact ⟨(y100), (0), qs, H', ⟨Nat.le_refl _⟩, ⟨qr HO105.out⟩, ⟨qk BK103.out⟩, ⟨qb HB.out⟩⟩
 clear H'
 try clear c1
 try clear p2
 try clear c3
 try clear c4
 try clear hcz7_0
 try clear hcz7_1
 try clear hfz7_0
 try clear hfz7_1
 obtain ⟨x3_1, x4_1, rfl, HA, HK1, HO_3, BK103, HB⟩ := hrel
 rcases gk with _ | k1
 · exact absurd HA.out (by simp [spec_BridgeList.l0])
 have H := HA.out
 clear HA
 simp only [spec_BridgeList.l0] at H
 by_cases c9 : x4_1 < (l0_1.length : Int)
 rotate_left
 · rw [if_neg c9] at H
   have c9b0 : decide (x4_1 < (l0_1.length : Int)) = false := decide_eq_false c9
   clear c9
   obtain rfl := Option.some.inj H
   have hcz22_0 : wr.cell? ⟨gb103, 0, none⟩ = some (.int .i64 a0_0) := (blk_cell BK103.out 0).trans rfl
   have hcz22_1 : wr.cell? ⟨gb103, 1, none⟩ = some (.slice A0_1 l0_1.length c0_1) := (blk_cell BK103.out 1).trans rfl
   have hfz22_0 := blk_frozen BK103.out 0
   have hfz22_1 := blk_frozen BK103.out 1
   go_wp2
   go_ret
   exact ⟨_, qe, qr HO_3.out, qb HB.out⟩
 rw [if_pos c9] at H
 have c9b0 : decide (x4_1 < (l0_1.length : Int)) = true := decide_eq_true c9
 clear c9
 by_cases c10 : 0 ≤ x4_1
 rotate_left
 · rw [if_neg c10] at H
   exact absurd H (by simp)
 rw [if_pos c10] at H
 have c10b0 : decide (0 ≤ x4_1) = true := decide_eq_true c10
 clear c10
 replace H := Option.bind_eq_some_iff.mp H
 obtain ⟨t101, A106, H⟩ := H
 have A11 := Aside0.mk A106
 clear A106
 by_cases c12 : t101 = true
 rotate_left
 · replace c12 := Bool.eq_false_iff.mpr c12
   subst c12
   rw [if_neg nf] at H
   have H' := Aside0.mk H
   clear H
   have hcz19_0 : wr.cell? ⟨gb103, 0, none⟩ = some (.int .i64 a0_0) := (blk_cell BK103.out 0).trans rfl
   have hcz19_1 : wr.cell? ⟨gb103, 1, none⟩ = some (.slice A0_1 l0_1.length c0_1) := (blk_cell BK103.out 1).trans rfl
   have hfz19_0 := blk_frozen BK103.out 0
   have hfz19_1 := blk_frozen BK103.out 1
   try go_wp2
   replace HO_3 := q0 (Kd.R_drew HO_3.out)
   replace BK103 := q0 (blk_drew BK103.out)
   replace HB := q0 (below_drew1 HB.out)
   have p108 : 0 ≤ (x4_1 : Int) := of_decide_eq_true qa
   have q108 : x4_1 < (l0_1.length : Int) := of_decide_eq_true qa
   obtain ⟨ad108, e108, hx108_0, hx108_1⟩ := at_TTie HR0_1.out x4_1 p108 q108
   have hw108_1 := hx108_1
   have hw108_0 := hx108_0
   cases e108
   replace hx108_0 := (HB.out.cell (World.block_lt_of_cell? w _ hx108_0)).trans hx108_0
   replace hx108_1 := (HB.out.cell (World.block_lt_of_cell? w _ hx108_1)).trans hx108_1
   replace p108 := eq_true p108
   replace q108 := eq_true q108
   have p109 : 0 ≤ (x4_1 : Int) := of_decide_eq_true qa
   have q109 : x4_1 < (l0_1.length : Int) := of_decide_eq_true qa
   obtain ⟨ad109, e109, hx109_0, hx109_1⟩ := at_TTie HR0_1.out x4_1 p109 q109
   have hw109_1 := hx109_1
   have hw109_0 := hx109_0
   obtain rfl : ad108 = ad109 := (by injection e109)
   replace hx109_0 := (HB.out.cell (World.block_lt_of_cell? w _ hx109_0)).trans hx109_0
   replace hx109_1 := (HB.out.cell (World.block_lt_of_cell? w _ hx109_1)).trans hx109_1
   replace p109 := eq_true p109
   replace q109 := eq_true q109
   refine start_ (n := 14) (S := fun w' => w'.cell? ⟨gb103, 0, none⟩ = some (.int .i64 a0_0) ∧ w'.cell? ⟨gb103, 1, none⟩ = some (.slice (some ad108) l0_1.length c0_1) ∧ w'.cell? (ad108.add ((x4_1).toNat * 2)) = some (.int .i64 ((rd_TTie l0_1 x4_1).f0)) ∧ w'.cell? ⟨(ad108.add ((x4_1).toNat * 2)).block, (ad108.add ((x4_1).toNat * 2)).off + 1, none⟩ = some (.int .i64 ((rd_TTie l0_1 x4_1).f1)) ∧ w'.cell? (ad108.add ((x4_1).toNat * 2)) = some (.int .i64 ((rd_TTie l0_1 x4_1).f0)) ∧ w'.cell? ⟨(ad108.add ((x4_1).toNat * 2)).block, (ad108.add ((x4_1).toNat * 2)).off + 1, none⟩ = some (.int .i64 ((rd_TTie l0_1 x4_1).f1))) (ds := []) (ba 14 0) (by kernel_rfl) rfl (by kernel_rfl) ⟨(blk_cell BK103.out 0).trans rfl, (blk_cell BK103.out 1).trans rfl, ((HB.out.cell (World.block_lt_of_cell? w _ hw108_0)).trans hw108_0), ((HB.out.cell (World.block_lt_of_cell? w _ hw108_1)).trans hw108_1), ((HB.out.cell (World.block_lt_of_cell? w _ hw109_0)).trans hw109_0), ((HB.out.cell (World.block_lt_of_cell? w _ hw109_1)).trans hw109_1)⟩ (fun hHeld => ?_); refine with_tabW spec_BridgeList.tab7 spec_BridgeList.bits7 (fun HT_ HW_ => ?_)
   generalize wr.drew = w20 at HO_3 BK103 HB hx108_0 hx108_1 hx109_0 hx109_1 hHeld ⊢
   refine pu 1 (some 18) (ba 14 2) HT_.out ?_
   refine pu 3 (some 20) (ba 14 10) HT_.out ?_
   refine pu 7 (some 24) (ba 14 138) HT_.out ?_
   refine pu 9 (some 26) (ba 14 650) HT_.out ?_
   refine tu 0 (some 17) (ba 14 651) HT_.out HW_.out hHeld ?_
   refine tu 2 (some 19) (ba 14 655) HT_.out HW_.out hHeld ?_
   refine pu 4 (some 21) (ba 14 671) HT_.out ?_
   refine pu 5 (some 22) (ba 14 703) HT_.out ?_
   refine tu 6 (some 23) (ba 14 767) HT_.out HW_.out hHeld ?_
   refine tu 8 (some 25) (ba 14 1023) HT_.out HW_.out hHeld ?_
   refine pu 10 (some 27) (ba 14 2047) HT_.out ?_
   refine pu 11 (some 28) (ba 14 4095) HT_.out ?_
   refine tu 12 (some 29) (ba 14 8191) HT_.out HW_.out hHeld ?_
   refine one_ (i := 13) (N := some 30) (ba 14 16383) rfl rfl (one_of HT_.out (by kernel_rfl)) (by decide) (fun K hK => ?_)
   refine goes_ Try.func54 (by kernel_rfl) rfl #[.agg #[.int .i64 a0_0, .slice (some ad108) l0_1.length c0_1], .int .i64 ((rd_TTie l0_1 x4_1).f0), .int .i64 ((rd_TTie l0_1 x4_1).f1)] (by rfl) rfl rfl qm ?_
   with_reducible refine (spec_BridgeIs.calls k1 a0_0 _ _ l0_1 ((rd_TTie l0_1 x4_1).f0) ((rd_TTie l0_1 x4_1).f1) false _ ?side1 ?side2 A11.out).mono ?_
   (case side1 => exact qc (Kd.C_below HR0_1.out HB.out))
   (case side2 => exact HC0_1.out)
   rintro e w21 ⟨rfl, hb⟩
   refine ⟨_, rfl, ?_⟩
   replace HO_3 := q0 (Kd.R_below (qr HO_3.out) hb)
   replace BK103 := q0 (kb BK103.out hb)
   replace HB := q0 (below_step (qb HB.out) hb)
   (try clear hb)
   (try clear hb2)
   (try clear hk)
   (try clear hi)
   refine hK.out _ _ ⟨(blk_cell BK103.out 0).trans rfl, (blk_cell BK103.out 1).trans rfl, ((HB.out.cell (World.block_lt_of_cell? w _ hw108_0)).trans hw108_0), ((HB.out.cell (World.block_lt_of_cell? w _ hw108_1)).trans hw108_1), ((HB.out.cell (World.block_lt_of_cell? w _ hw109_0)).trans hw109_0), ((HB.out.cell (World.block_lt_of_cell? w _ hw109_1)).trans hw109_1)⟩ (fun hHeld => ?_)
   clear hK K
   refine nu 30 ?_
   refine done_ (done_of HT_.out (by kernel_rfl)) ?_
   try go_wp2
   go_roundg k1
   case measure => have := HK1.out; omega
   case rel => exact ⟨(x3_1), (wrap64 (x4_1 + 1)), qs, H', ⟨by have := HK1.out; omega⟩, ⟨qr HO_3.out⟩, ⟨qk BK103.out⟩, ⟨qb HB.out⟩⟩
 subst c12
 rw [if_pos rfl] at H
 by_cases c13 : x3_1.length < 8796093022208
 rotate_left
 · rw [if_neg c13] at H
   exact absurd H (by simp)
 rw [if_pos c13] at H
 have LMc13 := Aside0.mk c13
 clear c13
 obtain ⟨y107, hy107⟩ : ∃ y_ : List (STie), y_ = (x3_1 ++ [(⟨(rd_TTie l0_1 x4_1).f0, (rd_TTie l0_1 x4_1).f1⟩ : STie)]) := ⟨_, rfl⟩
 replace H : (spec_BridgeList.l0 k1 y107 (wrap64 (x4_1 + 1)) a0_0 l0_1) = some r := qy H hy107
 have Ny107 := Aside0.mk hy107
 clear hy107
 have H' := Aside0.mk H
 clear H
 have hcz14_0 : wr.cell? ⟨gb103, 0, none⟩ = some (.int .i64 a0_0) := (blk_cell BK103.out 0).trans rfl
 have hcz14_1 : wr.cell? ⟨gb103, 1, none⟩ = some (.slice A0_1 l0_1.length c0_1) := (blk_cell BK103.out 1).trans rfl
 have hfz14_0 := blk_frozen BK103.out 0
 have hfz14_1 := blk_frozen BK103.out 1
 try go_wp2
 replace HO_3 := q0 (Kd.R_drew HO_3.out)
 replace BK103 := q0 (blk_drew BK103.out)
 replace HB := q0 (below_drew1 HB.out)
 have p108 : 0 ≤ (x4_1 : Int) := of_decide_eq_true qa
 have q108 : x4_1 < (l0_1.length : Int) := of_decide_eq_true qa
 obtain ⟨ad108, e108, hx108_0, hx108_1⟩ := at_TTie HR0_1.out x4_1 p108 q108
 have hw108_1 := hx108_1
 have hw108_0 := hx108_0
 cases e108
 replace hx108_0 := (HB.out.cell (World.block_lt_of_cell? w _ hx108_0)).trans hx108_0
 replace hx108_1 := (HB.out.cell (World.block_lt_of_cell? w _ hx108_1)).trans hx108_1
 replace p108 := eq_true p108
 replace q108 := eq_true q108
 have p109 : 0 ≤ (x4_1 : Int) := of_decide_eq_true qa
 have q109 : x4_1 < (l0_1.length : Int) := of_decide_eq_true qa
 obtain ⟨ad109, e109, hx109_0, hx109_1⟩ := at_TTie HR0_1.out x4_1 p109 q109
 have hw109_1 := hx109_1
 have hw109_0 := hx109_0
 obtain rfl : ad108 = ad109 := (by injection e109)
 replace hx109_0 := (HB.out.cell (World.block_lt_of_cell? w _ hx109_0)).trans hx109_0
 replace hx109_1 := (HB.out.cell (World.block_lt_of_cell? w _ hx109_1)).trans hx109_1
 replace p109 := eq_true p109
 replace q109 := eq_true q109
 refine start_ (n := 14) (S := fun w' => w'.cell? ⟨gb103, 0, none⟩ = some (.int .i64 a0_0) ∧ w'.cell? ⟨gb103, 1, none⟩ = some (.slice (some ad108) l0_1.length c0_1) ∧ w'.cell? (ad108.add ((x4_1).toNat * 2)) = some (.int .i64 ((rd_TTie l0_1 x4_1).f0)) ∧ w'.cell? ⟨(ad108.add ((x4_1).toNat * 2)).block, (ad108.add ((x4_1).toNat * 2)).off + 1, none⟩ = some (.int .i64 ((rd_TTie l0_1 x4_1).f1)) ∧ w'.cell? (ad108.add ((x4_1).toNat * 2)) = some (.int .i64 ((rd_TTie l0_1 x4_1).f0)) ∧ w'.cell? ⟨(ad108.add ((x4_1).toNat * 2)).block, (ad108.add ((x4_1).toNat * 2)).off + 1, none⟩ = some (.int .i64 ((rd_TTie l0_1 x4_1).f1))) (ds := []) (ba 14 0) (by kernel_rfl) rfl (by kernel_rfl) ⟨(blk_cell BK103.out 0).trans rfl, (blk_cell BK103.out 1).trans rfl, ((HB.out.cell (World.block_lt_of_cell? w _ hw108_0)).trans hw108_0), ((HB.out.cell (World.block_lt_of_cell? w _ hw108_1)).trans hw108_1), ((HB.out.cell (World.block_lt_of_cell? w _ hw109_0)).trans hw109_0), ((HB.out.cell (World.block_lt_of_cell? w _ hw109_1)).trans hw109_1)⟩ (fun hHeld => ?_); refine with_tabW spec_BridgeList.tab7 spec_BridgeList.bits7 (fun HT_ HW_ => ?_)
 generalize wr.drew = w15 at HO_3 BK103 HB hx108_0 hx108_1 hx109_0 hx109_1 hHeld ⊢
 refine pu 1 (some 18) (ba 14 2) HT_.out ?_
 refine pu 3 (some 20) (ba 14 10) HT_.out ?_
 refine pu 7 (some 24) (ba 14 138) HT_.out ?_
 refine pu 9 (some 26) (ba 14 650) HT_.out ?_
 refine tu 0 (some 17) (ba 14 651) HT_.out HW_.out hHeld ?_
 refine tu 2 (some 19) (ba 14 655) HT_.out HW_.out hHeld ?_
 refine pu 4 (some 21) (ba 14 671) HT_.out ?_
 refine pu 5 (some 22) (ba 14 703) HT_.out ?_
 refine tu 6 (some 23) (ba 14 767) HT_.out HW_.out hHeld ?_
 refine tu 8 (some 25) (ba 14 1023) HT_.out HW_.out hHeld ?_
 refine pu 10 (some 27) (ba 14 2047) HT_.out ?_
 refine pu 11 (some 28) (ba 14 4095) HT_.out ?_
 refine tu 12 (some 29) (ba 14 8191) HT_.out HW_.out hHeld ?_
 refine one_ (i := 13) (N := some 30) (ba 14 16383) rfl rfl (one_of HT_.out (by kernel_rfl)) (by decide) (fun K hK => ?_)
 refine goes_ Try.func54 (by kernel_rfl) rfl #[.agg #[.int .i64 a0_0, .slice (some ad108) l0_1.length c0_1], .int .i64 ((rd_TTie l0_1 x4_1).f0), .int .i64 ((rd_TTie l0_1 x4_1).f1)] (by rfl) rfl rfl qm ?_
 with_reducible refine (spec_BridgeIs.calls k1 a0_0 _ _ l0_1 ((rd_TTie l0_1 x4_1).f0) ((rd_TTie l0_1 x4_1).f1) true _ ?side1 ?side2 A11.out).mono ?_
 (case side1 => exact qc (Kd.C_below HR0_1.out HB.out))
 (case side2 => exact HC0_1.out)
 rintro e w16 ⟨rfl, hb⟩
 refine ⟨_, rfl, ?_⟩
 replace HO_3 := q0 (Kd.R_below (qr HO_3.out) hb)
 replace BK103 := q0 (kb BK103.out hb)
 replace HB := q0 (below_step (qb HB.out) hb)
 (try clear hb)
 (try clear hb2)
 (try clear hk)
 (try clear hi)
 refine hK.out _ _ ⟨(blk_cell BK103.out 0).trans rfl, (blk_cell BK103.out 1).trans rfl, ((HB.out.cell (World.block_lt_of_cell? w _ hw108_0)).trans hw108_0), ((HB.out.cell (World.block_lt_of_cell? w _ hw108_1)).trans hw108_1), ((HB.out.cell (World.block_lt_of_cell? w _ hw109_0)).trans hw109_0), ((HB.out.cell (World.block_lt_of_cell? w _ hw109_1)).trans hw109_1)⟩ (fun hHeld => ?_)
 clear hK K
 refine nu 30 ?_
 refine done_ (done_of HT_.out (by kernel_rfl)) ?_
 have hcz17_0 : w16.cell? ⟨gb103, 0, none⟩ = some (.int .i64 a0_0) := (blk_cell BK103.out 0).trans rfl
 have hcz17_1 : w16.cell? ⟨gb103, 1, none⟩ = some (.slice (some ad108) l0_1.length c0_1) := (blk_cell BK103.out 1).trans rfl
 have hfz17_0 := blk_frozen BK103.out 0
 have hfz17_1 := blk_frozen BK103.out 1
 have p110 : 0 ≤ (x4_1 : Int) := of_decide_eq_true qa
 have q110 : x4_1 < (l0_1.length : Int) := of_decide_eq_true qa
 obtain ⟨ad110, e110, hx110_0, hx110_1⟩ := at_TTie HR0_1.out x4_1 p110 q110
 obtain rfl : ad108 = ad110 := (by injection e110)
 replace hx110_0 := (HB.out.cell (World.block_lt_of_cell? w _ hx110_0)).trans hx110_0
 replace hx110_1 := (HB.out.cell (World.block_lt_of_cell? w _ hx110_1)).trans hx110_1
 replace p110 := eq_true p110
 replace q110 := eq_true q110
 try go_wp2_with (first | ((with_reducible refine gate_builtin (b := .append) (xs := #[.tmp 31, .tmp 37]) rfl ?_); at_builtin; refine Kd.R_append kTie (w0 := w) w.heap.size rfl (.tmp 31) (.tmp 37) 23 32 (.agg #[(.int .i64 0), (.int .i64 0)]) 16 rfl Try.underlying23 info32 rfl (by decide) (by omega) u3 x3_1 (⟨(rd_TTie l0_1 x4_1).f0, (rd_TTie l0_1 x4_1).f1⟩ : STie) [.int .i64 ((rd_TTie l0_1 x4_1).f0), .int .i64 ((rd_TTie l0_1 x4_1).f1)] (fun _ => True) (fun _ => False) rfl rfl ?aP (fun _ hk => hk.elim) ?aF ?aO ?aB ?aS ?aL ?_; (case aP => exact kTie_mkM _ _ _ (⟨(rd_TTie l0_1 x4_1).f0, (rd_TTie l0_1 x4_1).f1⟩ : STie)); (case aB => exact (qb HB.out)); (case aF => exact (fun _ _ => trivial)); (case aO => exact (qr HO_3.out)); (case aS => exact (below_size (qb HB.out))); (case aL => have := LMc13.out; omega); intro v111 w18 ho hb hg hat; rw [← Ny107.out] at ho; replace BK103 := q0 (blk_grown (g := gb103) (o := .cells #[.int .i64 a0_0, .slice (some ad108) l0_1.length c0_1] 25 (0, 0)) (qk BK103.out) hg (Kd.R_ne HO_3.out BK103.out (by decide))); replace HB := q0 (hb); have HO112 := q0 (ho); clear HO_3; clear ho hb hg hat))
 go_roundg k1
 case measure => have := HK1.out; omega
 case rel => exact ⟨(y107), (wrap64 (x4_1 + 1)), qs, H', ⟨by have := HK1.out; omega⟩, ⟨qr HO112.out⟩, ⟨qk BK103.out⟩, ⟨qb HB.out⟩⟩

set_option maxHeartbeats 8000000 in
set_option maxRecDepth 100000 in
theorem laws_FnBridgeEnds.calls (k : Nat) (A0 : Option Addr) (c0 : Nat) (l0 : List Int) (A1 : Option Addr) (c1 : Nat) (l1 : List Int) (r : Bool) (w : World) (hr0 : Kd.C (Kd.int .u8) w A0 l0.length l0) (hc0 : l0.length ≤ c0) (hr1 : Kd.C (Kd.int .u8) w A1 l1.length l1) (hc1 : l1.length ≤ c1) (h : laws_FnBridgeEnds.f k l0 l1 = some r) :
    Calls Try.prog 4 #[.slice A0 l0.length c0, .slice A1 l1.length c1] w fun e w' => e = .returned (.bool r) ∧ Below w.heap.size w w' := by
 have hu25 := Try.underlying25
 have hu32 := Try.underlying32
 have HR0 := Aside0.mk hr0
 have HC0 := Aside0.mk hc0
 clear hr0 hc0
 have HR1 := Aside0.mk hr1
 have HC1 := Aside0.mk hc1
 clear hr1 hc1
 have HB := q0 (Below.refl w.heap.size w)
 have H : (if (l0.length : Int) > 1048576 then (laws_FnBridgeEnds.j0 k l0 l1 true) else (laws_FnBridgeEnds.j0 k l0 l1 (decide ((l1.length : Int) > 1048576)))) = some r := h
 clear h
 have HC3 := Aside0.mk H
 clear H
 go_enter Try.func4, Try.ntmps4
 go_upto_region 1 with (fail)
 repeat (go_quiet (fail); go_upto_region 1 with (fail))
 go_cut [21] (fun v21 wc => ∃ (kq : Nat) (x21_2 : Bool), v21 = .bool x21_2 ∧ Aside0 (laws_FnBridgeEnds.j0 kq l0 l1 x21_2 = some r) ∧ Aside0 (kq ≤ k) ∧ Aside0 (Below w.heap.size w wc))
 case first =>
   have H := HC3.out
   clear HC3
   by_cases c4 : (l0.length : Int) > 1048576
   · rw [if_pos c4] at H
     have c4b0 : decide (1048576 < (l0.length : Int)) = true := decide_eq_true c4
     have c4b1 : decide (1048576 < l0.length) = true := decide_eq_true (by omega)
     clear c4
     (first | rw [c4b0] | (simp only [i64_w, i32_w]; rw [c4b0]) | skip)
     have H' := Aside0.mk H
     clear H
     go_wp2
     repeat (go_quiet (fail); try go_wp2)
     go_meet
     case rel => exact ⟨_, (true), qs, H', ⟨by first | omega | exact Nat.le_refl _⟩, ⟨qb HB.out⟩⟩
   rw [if_neg c4] at H
   have c4b0 : decide (1048576 < (l0.length : Int)) = false := decide_eq_false c4
   have c4b1 : decide (1048576 < l0.length) = false := decide_eq_false (by omega)
   clear c4
   (first | rw [c4b0] | (simp only [i64_w, i32_w]; rw [c4b0]) | skip)
   have H' := Aside0.mk H
   clear H
   go_wp2
   repeat (go_quiet (fail); try go_wp2)
   go_meet
   case rel => exact ⟨_, (decide ((l1.length : Int) > 1048576)), qs, H', ⟨by first | omega | exact Nat.le_refl _⟩, ⟨qb HB.out⟩⟩
 clear HC3
 try clear c1
 try clear p2
 try clear c4
 try clear c4b0
 try clear c4b1
 obtain ⟨kq, x21_2, rfl, HA, HJ2, HB⟩ := hcut
 rcases kq with _ | kj2
 · exact absurd HA.out (by simp [laws_FnBridgeEnds.j0])
 have H := HA.out
 clear HA
 simp only [laws_FnBridgeEnds.j0] at H
 by_cases c5 : x21_2 = true
 · subst c5
   rw [if_pos rfl] at H
   obtain rfl := Option.some.inj H
   go_wp2
   repeat (go_quiet (fail); try go_wp2)
   go_ret
   exact ⟨qe, qb HB.out⟩
 replace c5 := Bool.eq_false_iff.mpr c5
 subst c5
 rw [if_neg nf] at H
 replace H := Option.bind_eq_some_iff.mp H
 obtain ⟨⟨t100, t110⟩, A60, H⟩ := H
 have A6 := Aside0.mk A60
 clear A60
 replace H := Option.bind_eq_some_iff.mp H
 obtain ⟨t101, A70, H⟩ := H
 have A7 := Aside0.mk A70
 clear A70
 have HC8 := Aside0.mk H
 clear H
 go_upto_region 5 with (first | (go_at_call 14; (with_reducible refine (spec_DrawBridgeList.calls kj2 _ _ l0 t100 t110 _ ?side1 ?side2 A6.out).mono ?_); (case side1 => exact qc (Kd.C_below HR0.out HB.out)); (case side2 => exact HC0.out); rintro e w9 ⟨v111, rfl, ho0, hb⟩; have HO112 := q0 (Kd.R_lower ho0 (below_size (qb HB.out))); replace HB := q0 (below_step (qb HB.out) hb); (try clear hb); (try clear hb2); (try clear hk); (try clear hi); (try clear ho0)) | ((with_reducible refine gate_dst (N := 5) rfl ?_); (try (refine gate_guard (by rfl) ?_; dsimp only)); refine be 5 #[.int .i64 0, .slice none 0 0] 25 ?_; intro gb113 hg w10 hbox hb; replace HO112 := q0 (Kd.R_below (qr HO112.out) hb); have BK113 := q0 (hbox); have GW113 := q0 ((bs HB.out hg : w.heap.size ≤ gb113)); have GE113 := q0 ((bs HB.out hg : w.heap.size ≤ gb113)); replace HB := q0 (below_step (qb HB.out) hb); clear hb hbox hg; have hcz11_0 : w10.cell? ⟨gb113, 0, none⟩ = some (.int .i64 0) := (blk_cell BK113.out 0).trans rfl; have hcz11_1 : w10.cell? ⟨gb113, 1, none⟩ = some (.slice none 0 0) := (blk_cell BK113.out 1).trans rfl; have hfz11_0 := blk_frozen BK113.out 0; have hfz11_1 := blk_frozen BK113.out 1; obtain ⟨Ao12, co12, eo12⟩ := Kd.R_slice HO112.out; subst eo12) | (go_at_call 15; (with_reducible refine (impl_BridgeList.calls kj2 t100 _ _ t110 t101 _ ?side1 ?side2 A7.out).mono ?_); (case side1 => refine (Kd.R_reads' (e := 32) (base := w.heap.size) (ok := fun k_ => True) (n := t110.length) (c := co12) ?_).2.2; exact (by (with_reducible repeat (first | apply Kd.R_alloc | apply Kd.R_drewN | apply Kd.R_drew)); exact (rf2 HO112.out BK113.out (fun _ h_ => h_.1)))); (case side2 => exact (Kd.R_reads' HO112.out).2.1); rintro e w13 ⟨v114, rfl, ho0, hb⟩; have HO115 := q0 (Kd.R_lower (Kd.R_new' ho0 (Kd.R_lt (by (with_reducible repeat (first | apply Kd.R_alloc | apply Kd.R_drewN | apply Kd.R_drew)); exact (rf2 HO112.out BK113.out (fun _ h_ => h_.1))))) (below_size (qb HB.out))); replace HO112 := q0 (Kd.R_elder' (by (with_reducible repeat (first | apply Kd.R_alloc | apply Kd.R_drewN | apply Kd.R_drew)); exact (rf2 HO112.out BK113.out (fun _ h_ => h_.1))) (Kd.R_base ho0) hb); replace BK113 := q0 (blk_below (g := gb113) (o := .cells #[.int .i64 t100, .slice Ao12 t110.length co12] 25 (0, 0)) (by (with_reducible repeat (first | refine blk_drewN ?_ _ | refine blk_drew ?_ | refine blk_alloc ?_ _)); refine blk_put (cs := #[.int .i64 t100, .slice none 0 0]) ?_ 1 _ rfl; (with_reducible repeat (first | refine blk_drewN ?_ _ | refine blk_drew ?_ | refine blk_alloc ?_ _)); refine blk_put (cs := #[.int .i64 0, .slice none 0 0]) ?_ 0 _ rfl; (with_reducible repeat (first | refine blk_drewN ?_ _ | refine blk_drew ?_ | refine blk_alloc ?_ _)); exact BK113.out) hb); replace HB := q0 (below_step (qb HB.out) hb); (try clear hb); (try clear hb2); (try clear hk); (try clear hi); (try clear ho0)))
 repeat (go_quiet (first | (go_at_call 14; (with_reducible refine (spec_DrawBridgeList.calls kj2 _ _ l0 t100 t110 _ ?side1 ?side2 A6.out).mono ?_); (case side1 => exact qc (Kd.C_below HR0.out HB.out)); (case side2 => exact HC0.out); rintro e w9 ⟨v111, rfl, ho0, hb⟩; have HO112 := q0 (Kd.R_lower ho0 (below_size (qb HB.out))); replace HB := q0 (below_step (qb HB.out) hb); (try clear hb); (try clear hb2); (try clear hk); (try clear hi); (try clear ho0)) | ((with_reducible refine gate_dst (N := 5) rfl ?_); (try (refine gate_guard (by rfl) ?_; dsimp only)); refine be 5 #[.int .i64 0, .slice none 0 0] 25 ?_; intro gb113 hg w10 hbox hb; replace HO112 := q0 (Kd.R_below (qr HO112.out) hb); have BK113 := q0 (hbox); have GW113 := q0 ((bs HB.out hg : w.heap.size ≤ gb113)); have GE113 := q0 ((bs HB.out hg : w.heap.size ≤ gb113)); replace HB := q0 (below_step (qb HB.out) hb); clear hb hbox hg; have hcz11_0 : w10.cell? ⟨gb113, 0, none⟩ = some (.int .i64 0) := (blk_cell BK113.out 0).trans rfl; have hcz11_1 : w10.cell? ⟨gb113, 1, none⟩ = some (.slice none 0 0) := (blk_cell BK113.out 1).trans rfl; have hfz11_0 := blk_frozen BK113.out 0; have hfz11_1 := blk_frozen BK113.out 1; obtain ⟨Ao12, co12, eo12⟩ := Kd.R_slice HO112.out; subst eo12) | (go_at_call 15; (with_reducible refine (impl_BridgeList.calls kj2 t100 _ _ t110 t101 _ ?side1 ?side2 A7.out).mono ?_); (case side1 => refine (Kd.R_reads' (e := 32) (base := w.heap.size) (ok := fun k_ => True) (n := t110.length) (c := co12) ?_).2.2; exact (by (with_reducible repeat (first | apply Kd.R_alloc | apply Kd.R_drewN | apply Kd.R_drew)); exact (rf2 HO112.out BK113.out (fun _ h_ => h_.1)))); (case side2 => exact (Kd.R_reads' HO112.out).2.1); rintro e w13 ⟨v114, rfl, ho0, hb⟩; have HO115 := q0 (Kd.R_lower (Kd.R_new' ho0 (Kd.R_lt (by (with_reducible repeat (first | apply Kd.R_alloc | apply Kd.R_drewN | apply Kd.R_drew)); exact (rf2 HO112.out BK113.out (fun _ h_ => h_.1))))) (below_size (qb HB.out))); replace HO112 := q0 (Kd.R_elder' (by (with_reducible repeat (first | apply Kd.R_alloc | apply Kd.R_drewN | apply Kd.R_drew)); exact (rf2 HO112.out BK113.out (fun _ h_ => h_.1))) (Kd.R_base ho0) hb); replace BK113 := q0 (blk_below (g := gb113) (o := .cells #[.int .i64 t100, .slice Ao12 t110.length co12] 25 (0, 0)) (by (with_reducible repeat (first | refine blk_drewN ?_ _ | refine blk_drew ?_ | refine blk_alloc ?_ _)); refine blk_put (cs := #[.int .i64 t100, .slice none 0 0]) ?_ 1 _ rfl; (with_reducible repeat (first | refine blk_drewN ?_ _ | refine blk_drew ?_ | refine blk_alloc ?_ _)); refine blk_put (cs := #[.int .i64 0, .slice none 0 0]) ?_ 0 _ rfl; (with_reducible repeat (first | refine blk_drewN ?_ _ | refine blk_drew ?_ | refine blk_alloc ?_ _)); exact BK113.out) hb); replace HB := q0 (below_step (qb HB.out) hb); (try clear hb); (try clear hb2); (try clear hk); (try clear hi); (try clear ho0))); go_upto_region 5 with (first | (go_at_call 14; (with_reducible refine (spec_DrawBridgeList.calls kj2 _ _ l0 t100 t110 _ ?side1 ?side2 A6.out).mono ?_); (case side1 => exact qc (Kd.C_below HR0.out HB.out)); (case side2 => exact HC0.out); rintro e w9 ⟨v111, rfl, ho0, hb⟩; have HO112 := q0 (Kd.R_lower ho0 (below_size (qb HB.out))); replace HB := q0 (below_step (qb HB.out) hb); (try clear hb); (try clear hb2); (try clear hk); (try clear hi); (try clear ho0)) | ((with_reducible refine gate_dst (N := 5) rfl ?_); (try (refine gate_guard (by rfl) ?_; dsimp only)); refine be 5 #[.int .i64 0, .slice none 0 0] 25 ?_; intro gb113 hg w10 hbox hb; replace HO112 := q0 (Kd.R_below (qr HO112.out) hb); have BK113 := q0 (hbox); have GW113 := q0 ((bs HB.out hg : w.heap.size ≤ gb113)); have GE113 := q0 ((bs HB.out hg : w.heap.size ≤ gb113)); replace HB := q0 (below_step (qb HB.out) hb); clear hb hbox hg; have hcz11_0 : w10.cell? ⟨gb113, 0, none⟩ = some (.int .i64 0) := (blk_cell BK113.out 0).trans rfl; have hcz11_1 : w10.cell? ⟨gb113, 1, none⟩ = some (.slice none 0 0) := (blk_cell BK113.out 1).trans rfl; have hfz11_0 := blk_frozen BK113.out 0; have hfz11_1 := blk_frozen BK113.out 1; obtain ⟨Ao12, co12, eo12⟩ := Kd.R_slice HO112.out; subst eo12) | (go_at_call 15; (with_reducible refine (impl_BridgeList.calls kj2 t100 _ _ t110 t101 _ ?side1 ?side2 A7.out).mono ?_); (case side1 => refine (Kd.R_reads' (e := 32) (base := w.heap.size) (ok := fun k_ => True) (n := t110.length) (c := co12) ?_).2.2; exact (by (with_reducible repeat (first | apply Kd.R_alloc | apply Kd.R_drewN | apply Kd.R_drew)); exact (rf2 HO112.out BK113.out (fun _ h_ => h_.1)))); (case side2 => exact (Kd.R_reads' HO112.out).2.1); rintro e w13 ⟨v114, rfl, ho0, hb⟩; have HO115 := q0 (Kd.R_lower (Kd.R_new' ho0 (Kd.R_lt (by (with_reducible repeat (first | apply Kd.R_alloc | apply Kd.R_drewN | apply Kd.R_drew)); exact (rf2 HO112.out BK113.out (fun _ h_ => h_.1))))) (below_size (qb HB.out))); replace HO112 := q0 (Kd.R_elder' (by (with_reducible repeat (first | apply Kd.R_alloc | apply Kd.R_drewN | apply Kd.R_drew)); exact (rf2 HO112.out BK113.out (fun _ h_ => h_.1))) (Kd.R_base ho0) hb); replace BK113 := q0 (blk_below (g := gb113) (o := .cells #[.int .i64 t100, .slice Ao12 t110.length co12] 25 (0, 0)) (by (with_reducible repeat (first | refine blk_drewN ?_ _ | refine blk_drew ?_ | refine blk_alloc ?_ _)); refine blk_put (cs := #[.int .i64 t100, .slice none 0 0]) ?_ 1 _ rfl; (with_reducible repeat (first | refine blk_drewN ?_ _ | refine blk_drew ?_ | refine blk_alloc ?_ _)); refine blk_put (cs := #[.int .i64 0, .slice none 0 0]) ?_ 0 _ rfl; (with_reducible repeat (first | refine blk_drewN ?_ _ | refine blk_drew ?_ | refine blk_alloc ?_ _)); exact BK113.out) hb); replace HB := q0 (below_step (qb HB.out) hb); (try clear hb); (try clear hb2); (try clear hk); (try clear hi); (try clear ho0))))
 (try simp only [Act.put, List.setIfInBounds_toArray, List.set_cons_zero, List.set_cons_succ])
 go_cut [35] (fun v35 wc => ∃ (kq : Nat) (x35_7 : Bool), v35 = .bool x35_7 ∧ Aside0 (laws_FnBridgeEnds.j1 kq l1 t101 x35_7 t100 t110 = some r) ∧ Aside0 (kq ≤ kj2) ∧ Aside0 (Kd.R kTie 32 wc w.heap.size (fun k_ => some k_ ≠ ((.slice Ao12 t110.length co12) : Value).ownBlock) v114 t101) ∧ Aside0 (Kd.R kTie 32 wc w.heap.size (fun k_ => some k_ ≠ (v114 : Value).ownBlock) (.slice Ao12 t110.length co12) t110) ∧ Aside0 (wc.heap[gb113]? = some (.cells #[.int .i64 t100, (.slice Ao12 t110.length co12)] 25 (0, 0))) ∧ Aside0 (Below w.heap.size w wc))
 case first =>
   have H := HC8.out
   clear HC8
   replace H := Option.bind_eq_some_iff.mp H
   obtain ⟨t102, A116, H⟩ := H
   have A14 := Aside0.mk A116
   clear A116
   replace H := Option.bind_eq_some_iff.mp H
   obtain ⟨t103, A117, H⟩ := H
   have A15 := Aside0.mk A117
   clear A117
   by_cases c16 : t103 = true
   · subst c16
     rw [if_pos rfl] at H
     have H' := Aside0.mk H
     clear H
     have hcz17_0 : w13.cell? ⟨gb113, 0, none⟩ = some (.int .i64 t100) := (blk_cell BK113.out 0).trans rfl
     have hcz17_1 : w13.cell? ⟨gb113, 1, none⟩ = some (.slice Ao12 t110.length co12) := (blk_cell BK113.out 1).trans rfl
     have hfz17_0 := blk_frozen BK113.out 0
     have hfz17_1 := blk_frozen BK113.out 1
     go_wp2_with (first | (go_at_call 17; (with_reducible refine (spec_BridgeList.calls kj2 t100 _ _ t110 t102 _ ?side1 ?side2 A14.out).mono ?_); (case side1 => exact qc (Kd.R_reads' HO112.out).2.2); (case side2 => exact (Kd.R_reads' HO112.out).2.1); rintro e w18 ⟨v118, rfl, ho0, hb⟩; have HO119 := q0 (Kd.R_lower (Kd.R_new' (Kd.R_new' ho0 (Kd.R_lt (qr HO112.out))) (Kd.R_lt (qr HO115.out))) (below_size (qb HB.out))); replace HO112 := q0 (Kd.R_elder' (qr HO112.out) (Kd.R_base ho0) hb); replace HO115 := q0 (Kd.R_elder' (qr HO115.out) (Kd.R_base ho0) hb); replace BK113 := q0 (kb BK113.out hb); replace HB := q0 (below_step (qb HB.out) hb); (try clear hb); (try clear hb2); (try clear hk); (try clear hi); (try clear ho0); obtain ⟨Ao19, co19, eo19⟩ := Kd.R_slice HO115.out; subst eo19; obtain ⟨Ao20, co20, eo20⟩ := Kd.R_slice HO119.out; subst eo20) | (go_at_call 16; (with_reducible refine (laws_loTies.calls kj2 _ _ t101 _ _ t102 true _ ?side1 ?side2 ?side3 ?side4 A15.out).mono ?_); (case side1 => exact qc (Kd.R_reads' HO115.out).2.2); (case side2 => exact (Kd.R_reads' HO115.out).2.1); (case side3 => exact qc (Kd.R_reads' HO119.out).2.2); (case side4 => exact (Kd.R_reads' HO119.out).2.1); rintro e w' ⟨rfl, ⟨nd, rfl⟩⟩; (try first | exact ⟨rfl, _, World.drewN_drewN _ _ _⟩ | exact ⟨rfl, _, Eq.trans (World.drewN_drewN _ _ _) (congrArg (World.drewN _) (Nat.add_assoc _ _ _))⟩)))
     repeat (go_quiet (first | (go_at_call 17; (with_reducible refine (spec_BridgeList.calls kj2 t100 _ _ t110 t102 _ ?side1 ?side2 A14.out).mono ?_); (case side1 => exact qc (Kd.R_reads' HO112.out).2.2); (case side2 => exact (Kd.R_reads' HO112.out).2.1); rintro e w18 ⟨v118, rfl, ho0, hb⟩; have HO119 := q0 (Kd.R_lower (Kd.R_new' (Kd.R_new' ho0 (Kd.R_lt (qr HO112.out))) (Kd.R_lt (qr HO115.out))) (below_size (qb HB.out))); replace HO112 := q0 (Kd.R_elder' (qr HO112.out) (Kd.R_base ho0) hb); replace HO115 := q0 (Kd.R_elder' (qr HO115.out) (Kd.R_base ho0) hb); replace BK113 := q0 (kb BK113.out hb); replace HB := q0 (below_step (qb HB.out) hb); (try clear hb); (try clear hb2); (try clear hk); (try clear hi); (try clear ho0); obtain ⟨Ao19, co19, eo19⟩ := Kd.R_slice HO115.out; subst eo19; obtain ⟨Ao20, co20, eo20⟩ := Kd.R_slice HO119.out; subst eo20) | (go_at_call 16; (with_reducible refine (laws_loTies.calls kj2 _ _ t101 _ _ t102 true _ ?side1 ?side2 ?side3 ?side4 A15.out).mono ?_); (case side1 => exact qc (Kd.R_reads' HO115.out).2.2); (case side2 => exact (Kd.R_reads' HO115.out).2.1); (case side3 => exact qc (Kd.R_reads' HO119.out).2.2); (case side4 => exact (Kd.R_reads' HO119.out).2.1); rintro e w' ⟨rfl, ⟨nd, rfl⟩⟩; (try first | exact ⟨rfl, _, World.drewN_drewN _ _ _⟩ | exact ⟨rfl, _, Eq.trans (World.drewN_drewN _ _ _) (congrArg (World.drewN _) (Nat.add_assoc _ _ _))⟩))); try go_wp2_with (first | (go_at_call 17; (with_reducible refine (spec_BridgeList.calls kj2 t100 _ _ t110 t102 _ ?side1 ?side2 A14.out).mono ?_); (case side1 => exact qc (Kd.R_reads' HO112.out).2.2); (case side2 => exact (Kd.R_reads' HO112.out).2.1); rintro e w18 ⟨v118, rfl, ho0, hb⟩; have HO119 := q0 (Kd.R_lower (Kd.R_new' (Kd.R_new' ho0 (Kd.R_lt (qr HO112.out))) (Kd.R_lt (qr HO115.out))) (below_size (qb HB.out))); replace HO112 := q0 (Kd.R_elder' (qr HO112.out) (Kd.R_base ho0) hb); replace HO115 := q0 (Kd.R_elder' (qr HO115.out) (Kd.R_base ho0) hb); replace BK113 := q0 (kb BK113.out hb); replace HB := q0 (below_step (qb HB.out) hb); (try clear hb); (try clear hb2); (try clear hk); (try clear hi); (try clear ho0); obtain ⟨Ao19, co19, eo19⟩ := Kd.R_slice HO115.out; subst eo19; obtain ⟨Ao20, co20, eo20⟩ := Kd.R_slice HO119.out; subst eo20) | (go_at_call 16; (with_reducible refine (laws_loTies.calls kj2 _ _ t101 _ _ t102 true _ ?side1 ?side2 ?side3 ?side4 A15.out).mono ?_); (case side1 => exact qc (Kd.R_reads' HO115.out).2.2); (case side2 => exact (Kd.R_reads' HO115.out).2.1); (case side3 => exact qc (Kd.R_reads' HO119.out).2.2); (case side4 => exact (Kd.R_reads' HO119.out).2.1); rintro e w' ⟨rfl, ⟨nd, rfl⟩⟩; (try first | exact ⟨rfl, _, World.drewN_drewN _ _ _⟩ | exact ⟨rfl, _, Eq.trans (World.drewN_drewN _ _ _) (congrArg (World.drewN _) (Nat.add_assoc _ _ _))⟩))))
     go_meet
     case rel => exact ⟨_, (((t101.length : Int) == 0)), qs, H', ⟨by have := HJ2.out; first | omega | exact Nat.le_refl _⟩, ⟨by (with_reducible repeat (first | apply Kd.R_alloc | apply Kd.R_drewN | apply Kd.R_drew)); exact Kd.R_mono HO115.out (fun _ hk => hk.1.2)⟩, ⟨by (with_reducible repeat (first | apply Kd.R_alloc | apply Kd.R_drewN | apply Kd.R_drew)); exact Kd.R_mono HO112.out (fun _ hk => hk.1.2)⟩, ⟨qk BK113.out⟩, ⟨qb HB.out⟩⟩
   replace c16 := Bool.eq_false_iff.mpr c16
   subst c16
   rw [if_neg nf] at H
   have H' := Aside0.mk H
   clear H
   have hcz21_0 : w13.cell? ⟨gb113, 0, none⟩ = some (.int .i64 t100) := (blk_cell BK113.out 0).trans rfl
   have hcz21_1 : w13.cell? ⟨gb113, 1, none⟩ = some (.slice Ao12 t110.length co12) := (blk_cell BK113.out 1).trans rfl
   have hfz21_0 := blk_frozen BK113.out 0
   have hfz21_1 := blk_frozen BK113.out 1
   go_wp2_with (first | (go_at_call 17; (with_reducible refine (spec_BridgeList.calls kj2 t100 _ _ t110 t102 _ ?side1 ?side2 A14.out).mono ?_); (case side1 => exact qc (Kd.R_reads' HO112.out).2.2); (case side2 => exact (Kd.R_reads' HO112.out).2.1); rintro e w22 ⟨v118, rfl, ho0, hb⟩; have HO119 := q0 (Kd.R_lower (Kd.R_new' (Kd.R_new' ho0 (Kd.R_lt (qr HO112.out))) (Kd.R_lt (qr HO115.out))) (below_size (qb HB.out))); replace HO112 := q0 (Kd.R_elder' (qr HO112.out) (Kd.R_base ho0) hb); replace HO115 := q0 (Kd.R_elder' (qr HO115.out) (Kd.R_base ho0) hb); replace BK113 := q0 (kb BK113.out hb); replace HB := q0 (below_step (qb HB.out) hb); (try clear hb); (try clear hb2); (try clear hk); (try clear hi); (try clear ho0); obtain ⟨Ao23, co23, eo23⟩ := Kd.R_slice HO115.out; subst eo23; obtain ⟨Ao24, co24, eo24⟩ := Kd.R_slice HO119.out; subst eo24) | (go_at_call 16; (with_reducible refine (laws_loTies.calls kj2 _ _ t101 _ _ t102 false _ ?side1 ?side2 ?side3 ?side4 A15.out).mono ?_); (case side1 => exact qc (Kd.R_reads' HO115.out).2.2); (case side2 => exact (Kd.R_reads' HO115.out).2.1); (case side3 => exact qc (Kd.R_reads' HO119.out).2.2); (case side4 => exact (Kd.R_reads' HO119.out).2.1); rintro e w' ⟨rfl, ⟨nd, rfl⟩⟩; (try first | exact ⟨rfl, _, World.drewN_drewN _ _ _⟩ | exact ⟨rfl, _, Eq.trans (World.drewN_drewN _ _ _) (congrArg (World.drewN _) (Nat.add_assoc _ _ _))⟩)))
   repeat (go_quiet (first | (go_at_call 17; (with_reducible refine (spec_BridgeList.calls kj2 t100 _ _ t110 t102 _ ?side1 ?side2 A14.out).mono ?_); (case side1 => exact qc (Kd.R_reads' HO112.out).2.2); (case side2 => exact (Kd.R_reads' HO112.out).2.1); rintro e w22 ⟨v118, rfl, ho0, hb⟩; have HO119 := q0 (Kd.R_lower (Kd.R_new' (Kd.R_new' ho0 (Kd.R_lt (qr HO112.out))) (Kd.R_lt (qr HO115.out))) (below_size (qb HB.out))); replace HO112 := q0 (Kd.R_elder' (qr HO112.out) (Kd.R_base ho0) hb); replace HO115 := q0 (Kd.R_elder' (qr HO115.out) (Kd.R_base ho0) hb); replace BK113 := q0 (kb BK113.out hb); replace HB := q0 (below_step (qb HB.out) hb); (try clear hb); (try clear hb2); (try clear hk); (try clear hi); (try clear ho0); obtain ⟨Ao23, co23, eo23⟩ := Kd.R_slice HO115.out; subst eo23; obtain ⟨Ao24, co24, eo24⟩ := Kd.R_slice HO119.out; subst eo24) | (go_at_call 16; (with_reducible refine (laws_loTies.calls kj2 _ _ t101 _ _ t102 false _ ?side1 ?side2 ?side3 ?side4 A15.out).mono ?_); (case side1 => exact qc (Kd.R_reads' HO115.out).2.2); (case side2 => exact (Kd.R_reads' HO115.out).2.1); (case side3 => exact qc (Kd.R_reads' HO119.out).2.2); (case side4 => exact (Kd.R_reads' HO119.out).2.1); rintro e w' ⟨rfl, ⟨nd, rfl⟩⟩; (try first | exact ⟨rfl, _, World.drewN_drewN _ _ _⟩ | exact ⟨rfl, _, Eq.trans (World.drewN_drewN _ _ _) (congrArg (World.drewN _) (Nat.add_assoc _ _ _))⟩))); try go_wp2_with (first | (go_at_call 17; (with_reducible refine (spec_BridgeList.calls kj2 t100 _ _ t110 t102 _ ?side1 ?side2 A14.out).mono ?_); (case side1 => exact qc (Kd.R_reads' HO112.out).2.2); (case side2 => exact (Kd.R_reads' HO112.out).2.1); rintro e w22 ⟨v118, rfl, ho0, hb⟩; have HO119 := q0 (Kd.R_lower (Kd.R_new' (Kd.R_new' ho0 (Kd.R_lt (qr HO112.out))) (Kd.R_lt (qr HO115.out))) (below_size (qb HB.out))); replace HO112 := q0 (Kd.R_elder' (qr HO112.out) (Kd.R_base ho0) hb); replace HO115 := q0 (Kd.R_elder' (qr HO115.out) (Kd.R_base ho0) hb); replace BK113 := q0 (kb BK113.out hb); replace HB := q0 (below_step (qb HB.out) hb); (try clear hb); (try clear hb2); (try clear hk); (try clear hi); (try clear ho0); obtain ⟨Ao23, co23, eo23⟩ := Kd.R_slice HO115.out; subst eo23; obtain ⟨Ao24, co24, eo24⟩ := Kd.R_slice HO119.out; subst eo24) | (go_at_call 16; (with_reducible refine (laws_loTies.calls kj2 _ _ t101 _ _ t102 false _ ?side1 ?side2 ?side3 ?side4 A15.out).mono ?_); (case side1 => exact qc (Kd.R_reads' HO115.out).2.2); (case side2 => exact (Kd.R_reads' HO115.out).2.1); (case side3 => exact qc (Kd.R_reads' HO119.out).2.2); (case side4 => exact (Kd.R_reads' HO119.out).2.1); rintro e w' ⟨rfl, ⟨nd, rfl⟩⟩; (try first | exact ⟨rfl, _, World.drewN_drewN _ _ _⟩ | exact ⟨rfl, _, Eq.trans (World.drewN_drewN _ _ _) (congrArg (World.drewN _) (Nat.add_assoc _ _ _))⟩))))
   go_meet
   case rel => exact ⟨_, (true), qs, H', ⟨by have := HJ2.out; first | omega | exact Nat.le_refl _⟩, ⟨by (with_reducible repeat (first | apply Kd.R_alloc | apply Kd.R_drewN | apply Kd.R_drew)); exact Kd.R_mono HO115.out (fun _ hk => hk.1.2)⟩, ⟨by (with_reducible repeat (first | apply Kd.R_alloc | apply Kd.R_drewN | apply Kd.R_drew)); exact Kd.R_mono HO112.out (fun _ hk => hk.1.2)⟩, ⟨qk BK113.out⟩, ⟨qb HB.out⟩⟩
 clear HC8
 try clear c1
 try clear p2
 try clear c4
 try clear c4b0
 try clear c4b1
 try clear c5
 try clear c16
 try clear hcz11_0
 try clear hcz11_1
 try clear hcz17_0
 try clear hcz17_1
 try clear hcz21_0
 try clear hcz21_1
 try clear hfz11_0
 try clear hfz11_1
 try clear hfz17_0
 try clear hfz17_1
 try clear hfz21_0
 try clear hfz21_1
 try clear p2
 obtain ⟨kq, x35_7, rfl, HA, HJ7, HO_6, HO_101001, BK113, HB⟩ := hcut
 rcases kq with _ | kj7
 · exact absurd HA.out (by simp [laws_FnBridgeEnds.j1])
 have H := HA.out
 clear HA
 simp only [laws_FnBridgeEnds.j1] at H
 by_cases c25 : x35_7 = true
 · subst c25
   rw [if_pos rfl] at H
   replace H := Option.bind_eq_some_iff.mp H
   obtain ⟨t104, A120, H⟩ := H
   have A26 := Aside0.mk A120
   clear A120
   replace H := Option.bind_eq_some_iff.mp H
   obtain ⟨t105, A121, H⟩ := H
   have A27 := Aside0.mk A121
   clear A121
   obtain rfl := Option.some.inj H
   have hcz28_0 : wc.cell? ⟨gb113, 0, none⟩ = some (.int .i64 t100) := (blk_cell BK113.out 0).trans rfl
   have hcz28_1 : wc.cell? ⟨gb113, 1, none⟩ = some (.slice Ao12 t110.length co12) := (blk_cell BK113.out 1).trans rfl
   have hfz28_0 := blk_frozen BK113.out 0
   have hfz28_1 := blk_frozen BK113.out 1
   go_wp2_with (first | (go_at_call 17; (with_reducible refine (spec_BridgeList.calls kj7 t100 _ _ t110 t104 _ ?side1 ?side2 A26.out).mono ?_); (case side1 => exact qc (Kd.R_reads' HO_101001.out).2.2); (case side2 => exact (Kd.R_reads' HO_101001.out).2.1); rintro e w29 ⟨v122, rfl, ho0, hb⟩; have HO123 := q0 (Kd.R_lower (Kd.R_new' (Kd.R_new' ho0 (Kd.R_lt (qr HO_6.out))) (Kd.R_lt (qr HO_101001.out))) (below_size (qb HB.out))); replace HO_6 := q0 (Kd.R_elder' (qr HO_6.out) (Kd.R_base ho0) hb); replace HO_101001 := q0 (Kd.R_elder' (qr HO_101001.out) (Kd.R_base ho0) hb); replace BK113 := q0 (kb BK113.out hb); replace HB := q0 (below_step (qb HB.out) hb); (try clear hb); (try clear hb2); (try clear hk); (try clear hi); (try clear ho0); obtain ⟨Ao30, co30, eo30⟩ := Kd.R_slice HO_6.out; subst eo30; obtain ⟨Ao31, co31, eo31⟩ := Kd.R_slice HO123.out; subst eo31) | (go_at_call 16; (with_reducible refine (laws_loTies.calls kj7 _ _ t101 _ _ t104 t105 _ ?side1 ?side2 ?side3 ?side4 A27.out).mono ?_); (case side1 => exact qc (Kd.R_reads' HO_6.out).2.2); (case side2 => exact (Kd.R_reads' HO_6.out).2.1); (case side3 => exact qc (Kd.R_reads' HO123.out).2.2); (case side4 => exact (Kd.R_reads' HO123.out).2.1); rintro e w' ⟨rfl, ⟨nd, rfl⟩⟩; (try first | exact ⟨rfl, _, World.drewN_drewN _ _ _⟩ | exact ⟨rfl, _, Eq.trans (World.drewN_drewN _ _ _) (congrArg (World.drewN _) (Nat.add_assoc _ _ _))⟩)))
   repeat (go_quiet (first | (go_at_call 17; (with_reducible refine (spec_BridgeList.calls kj7 t100 _ _ t110 t104 _ ?side1 ?side2 A26.out).mono ?_); (case side1 => exact qc (Kd.R_reads' HO_101001.out).2.2); (case side2 => exact (Kd.R_reads' HO_101001.out).2.1); rintro e w29 ⟨v122, rfl, ho0, hb⟩; have HO123 := q0 (Kd.R_lower (Kd.R_new' (Kd.R_new' ho0 (Kd.R_lt (qr HO_6.out))) (Kd.R_lt (qr HO_101001.out))) (below_size (qb HB.out))); replace HO_6 := q0 (Kd.R_elder' (qr HO_6.out) (Kd.R_base ho0) hb); replace HO_101001 := q0 (Kd.R_elder' (qr HO_101001.out) (Kd.R_base ho0) hb); replace BK113 := q0 (kb BK113.out hb); replace HB := q0 (below_step (qb HB.out) hb); (try clear hb); (try clear hb2); (try clear hk); (try clear hi); (try clear ho0); obtain ⟨Ao30, co30, eo30⟩ := Kd.R_slice HO_6.out; subst eo30; obtain ⟨Ao31, co31, eo31⟩ := Kd.R_slice HO123.out; subst eo31) | (go_at_call 16; (with_reducible refine (laws_loTies.calls kj7 _ _ t101 _ _ t104 t105 _ ?side1 ?side2 ?side3 ?side4 A27.out).mono ?_); (case side1 => exact qc (Kd.R_reads' HO_6.out).2.2); (case side2 => exact (Kd.R_reads' HO_6.out).2.1); (case side3 => exact qc (Kd.R_reads' HO123.out).2.2); (case side4 => exact (Kd.R_reads' HO123.out).2.1); rintro e w' ⟨rfl, ⟨nd, rfl⟩⟩; (try first | exact ⟨rfl, _, World.drewN_drewN _ _ _⟩ | exact ⟨rfl, _, Eq.trans (World.drewN_drewN _ _ _) (congrArg (World.drewN _) (Nat.add_assoc _ _ _))⟩))); try go_wp2_with (first | (go_at_call 17; (with_reducible refine (spec_BridgeList.calls kj7 t100 _ _ t110 t104 _ ?side1 ?side2 A26.out).mono ?_); (case side1 => exact qc (Kd.R_reads' HO_101001.out).2.2); (case side2 => exact (Kd.R_reads' HO_101001.out).2.1); rintro e w29 ⟨v122, rfl, ho0, hb⟩; have HO123 := q0 (Kd.R_lower (Kd.R_new' (Kd.R_new' ho0 (Kd.R_lt (qr HO_6.out))) (Kd.R_lt (qr HO_101001.out))) (below_size (qb HB.out))); replace HO_6 := q0 (Kd.R_elder' (qr HO_6.out) (Kd.R_base ho0) hb); replace HO_101001 := q0 (Kd.R_elder' (qr HO_101001.out) (Kd.R_base ho0) hb); replace BK113 := q0 (kb BK113.out hb); replace HB := q0 (below_step (qb HB.out) hb); (try clear hb); (try clear hb2); (try clear hk); (try clear hi); (try clear ho0); obtain ⟨Ao30, co30, eo30⟩ := Kd.R_slice HO_6.out; subst eo30; obtain ⟨Ao31, co31, eo31⟩ := Kd.R_slice HO123.out; subst eo31) | (go_at_call 16; (with_reducible refine (laws_loTies.calls kj7 _ _ t101 _ _ t104 t105 _ ?side1 ?side2 ?side3 ?side4 A27.out).mono ?_); (case side1 => exact qc (Kd.R_reads' HO_6.out).2.2); (case side2 => exact (Kd.R_reads' HO_6.out).2.1); (case side3 => exact qc (Kd.R_reads' HO123.out).2.2); (case side4 => exact (Kd.R_reads' HO123.out).2.1); rintro e w' ⟨rfl, ⟨nd, rfl⟩⟩; (try first | exact ⟨rfl, _, World.drewN_drewN _ _ _⟩ | exact ⟨rfl, _, Eq.trans (World.drewN_drewN _ _ _) (congrArg (World.drewN _) (Nat.add_assoc _ _ _))⟩))))
   go_ret
   exact ⟨qe, qb HB.out⟩
 replace c25 := Bool.eq_false_iff.mpr c25
 subst c25
 rw [if_neg nf] at H
 by_cases c32 : (t101.length : Int) = 0
 · rw [if_pos c32] at H
   exact absurd H (by simp)
 rw [if_neg c32] at H
 have c32b0 : ((t101.length : Int) == 0) = false := beq_eq_false_iff_ne.mpr c32
 have c32b1 : ((t101.length : Int) != 0) = true := bne_iff_ne.mpr c32
 have c32b2 : ¬ (t101 = []) := fun h_ => c32 (by rw [h_]; rfl)
 obtain ⟨ji33, hji33⟩ : ∃ j_ : Int, ((l1.length : Int) % (t101.length : Int)) = j_ := ⟨_, rfl⟩
 replace H : (if 0 ≤ (ji33) then (if (ji33) < (t101.length : Int) then ((impl_NetCut.f kj7 t100 t110 ((rd_TTie t101 (ji33)).f0) ((rd_TTie t101 (ji33)).f1)).bind fun bt106 => ((impl_WayReach.f kj7 t100 t110 ((rd_TTie t101 (ji33)).f0)).bind fun t107 => ((impl_WayReach.f kj7 bt106.1 bt106.2.1 ((rd_TTie t101 (ji33)).f0)).bind fun t108 => ((impl_WayReach.f kj7 bt106.1 bt106.2.1 ((rd_TTie t101 (ji33)).f1)).bind fun t109 => (laws_FnBridgeEnds.l0 kj7 bt106.2.2 t107 t108 t109 0))))) else (none)) else (none)) = some r := by first | (rw [hji33] at H; exact H) | (simp only [hji33] at H ⊢; exact H)
 by_cases c34 : 0 ≤ (ji33)
 rotate_left
 · rw [if_neg c34] at H
   exact absurd H (by simp)
 rw [if_pos c34] at H
 have c34b0 : decide (0 ≤ (ji33)) = true := decide_eq_true c34
 clear c34
 by_cases c35 : (ji33) < (t101.length : Int)
 rotate_left
 · rw [if_neg c35] at H
   exact absurd H (by simp)
 rw [if_pos c35] at H
 have c35b0 : decide ((ji33) < (t101.length : Int)) = true := decide_eq_true c35
 clear c35
 replace H := Option.bind_eq_some_iff.mp H
 obtain ⟨⟨t106, t124, t125⟩, A126, H⟩ := H
 have A36 := Aside0.mk A126
 clear A126
 replace H := Option.bind_eq_some_iff.mp H
 obtain ⟨t107, A127, H⟩ := H
 have A37 := Aside0.mk A127
 clear A127
 replace H := Option.bind_eq_some_iff.mp H
 obtain ⟨t108, A128, H⟩ := H
 have A38 := Aside0.mk A128
 clear A128
 replace H := Option.bind_eq_some_iff.mp H
 obtain ⟨t109, A129, H⟩ := H
 have A39 := Aside0.mk A129
 clear A129
 have H' := Aside0.mk H
 clear H
 obtain ⟨Ao40, co40, eo40⟩ := Kd.R_slice HO_6.out
 subst eo40
 have p130 : 0 ≤ ((ji33) : Int) := of_decide_eq_true qa
 have q130 : (ji33) < (t101.length : Int) := of_decide_eq_true qa
 obtain ⟨ad130, e130, hx130_0, hx130_1⟩ := at_TTie (Kd.R_reads' HO_6.out).2.2 (ji33) p130 q130
 cases e130
 replace p130 := eq_true p130
 replace q130 := eq_true q130
 go_wp2_with (first | ((with_reducible refine gate_dst (N := 7) rfl ?_); (try (refine gate_guard (by rfl) ?_; dsimp only)); refine be 7 #[.int .i64 0, .int .i64 0] 32 ?_; intro gb131 hg w41 hbox hb; replace HO_6 := q0 (Kd.R_below (Kd.R_elderB (qr HO_6.out) gb131 (Nat.le_of_eq hg.symm)) hb); replace HO_101001 := q0 (Kd.R_below (Kd.R_elderB (qr HO_101001.out) gb131 (Nat.le_of_eq hg.symm)) hb); have BK131 := q0 (hbox); have GW131 := q0 ((bs HB.out hg : w.heap.size ≤ gb131)); have GE131 := q0 ((bs HB.out hg : w.heap.size ≤ gb131)); replace HB := q0 (below_step (qb HB.out) hb); have NB113_131 := q0 ((bl BK113.out hg : gb113 ≠ gb131)); have NB131_113 := q0 ((bg BK113.out hg : gb131 ≠ gb113)); replace BK113 := q0 (kb BK113.out hb); clear hb hbox hg; have hnb42 := NB131_113.out; have hnc42 := NB113_131.out; have hcz43_0 : w41.cell? ⟨gb131, 0, none⟩ = some (.int .i64 0) := (blk_cell BK131.out 0).trans rfl; have hcz43_1 : w41.cell? ⟨gb131, 1, none⟩ = some (.int .i64 0) := (blk_cell BK131.out 1).trans rfl; have hfz43_0 := blk_frozen BK131.out 0; have hfz43_1 := blk_frozen BK131.out 1; have hcz44_0 : w41.cell? ⟨gb113, 0, none⟩ = some (.int .i64 t100) := (blk_cell BK113.out 0).trans rfl; have hcz44_1 : w41.cell? ⟨gb113, 1, none⟩ = some (.slice Ao12 t110.length co12) := (blk_cell BK113.out 1).trans rfl; have hfz44_0 := blk_frozen BK113.out 0; have hfz44_1 := blk_frozen BK113.out 1) | (go_at_call 18; (with_reducible refine (impl_NetCut.calls kj7 t100 _ _ t110 ((rd_TTie t101 (ji33)).f0) ((rd_TTie t101 (ji33)).f1) t106 t124 t125 _ ?side1 ?side2 A36.out).mono ?_); (case side1 => refine (Kd.R_reads' (e := 32) (base := w.heap.size) (ok := fun k_ => (some k_ ≠ (.slice (some ad130) t101.length co40 : Value).ownBlock ∧ k_ ≠ gb131)) (n := t110.length) (c := co12) ?_).2.2; exact (by (with_reducible repeat (first | apply Kd.R_alloc | apply Kd.R_drewN | apply Kd.R_drew)); exact (Kd.R_mono (Kd.R_far (p := ⟨gb131, 1, none⟩) (Kd.R_far (p := ⟨gb131, 0, none⟩) (Kd.R_mono HO_101001.out (fun k_ hk => (⟨hk, hk.2⟩ : _ ∧ k_ ≠ gb131))) (fun _ hk => hk.2) (.int .i64 ((rd_TTie t101 (ji33)).f0))) (fun _ hk => hk.2) (.int .i64 ((rd_TTie t101 (ji33)).f1))) (fun _ h_ => h_.1)))); (case side2 => exact (Kd.R_reads' HO_101001.out).2.1); rintro e w45 ⟨v132, rfl, ho0, hb⟩; have HO133 := q0 (Kd.R_lower (Kd.R_newB (Kd.R_new' (Kd.R_new' ho0 (Kd.R_lt (by (with_reducible repeat (first | apply Kd.R_alloc | apply Kd.R_drewN | apply Kd.R_drew)); exact (Kd.R_mono (Kd.R_far (p := ⟨gb131, 1, none⟩) (Kd.R_far (p := ⟨gb131, 0, none⟩) (Kd.R_mono HO_6.out (fun k_ hk => (⟨hk, hk.2⟩ : _ ∧ k_ ≠ gb131))) (fun _ hk => hk.2) (.int .i64 ((rd_TTie t101 (ji33)).f0))) (fun _ hk => hk.2) (.int .i64 ((rd_TTie t101 (ji33)).f1))) (fun _ h_ => h_.1))))) (Kd.R_lt (by (with_reducible repeat (first | apply Kd.R_alloc | apply Kd.R_drewN | apply Kd.R_drew)); exact (Kd.R_mono (Kd.R_far (p := ⟨gb131, 1, none⟩) (Kd.R_far (p := ⟨gb131, 0, none⟩) (Kd.R_mono HO_101001.out (fun k_ hk => (⟨hk, hk.2⟩ : _ ∧ k_ ≠ gb131))) (fun _ hk => hk.2) (.int .i64 ((rd_TTie t101 (ji33)).f0))) (fun _ hk => hk.2) (.int .i64 ((rd_TTie t101 (ji33)).f1))) (fun _ h_ => h_.1))))) (g := gb131) (o := .cells #[.int .i64 ((rd_TTie t101 (ji33)).f0), .int .i64 ((rd_TTie t101 (ji33)).f1)] 32 (0, 0)) (by (with_reducible repeat (first | refine blk_drewN ?_ _ | refine blk_drew ?_ | refine blk_alloc ?_ _)); refine blk_put (cs := #[.int .i64 ((rd_TTie t101 (ji33)).f0), .int .i64 0]) ?_ 1 _ rfl; (with_reducible repeat (first | refine blk_drewN ?_ _ | refine blk_drew ?_ | refine blk_alloc ?_ _)); refine blk_put (cs := #[.int .i64 0, .int .i64 0]) ?_ 0 _ rfl; (with_reducible repeat (first | refine blk_drewN ?_ _ | refine blk_drew ?_ | refine blk_alloc ?_ _)); exact BK131.out)) (below_size (qb HB.out))); replace HO_6 := q0 (Kd.R_elder' (by (with_reducible repeat (first | apply Kd.R_alloc | apply Kd.R_drewN | apply Kd.R_drew)); exact (Kd.R_mono (Kd.R_far (p := ⟨gb131, 1, none⟩) (Kd.R_far (p := ⟨gb131, 0, none⟩) (Kd.R_mono HO_6.out (fun k_ hk => (⟨hk, hk.2⟩ : _ ∧ k_ ≠ gb131))) (fun _ hk => hk.2) (.int .i64 ((rd_TTie t101 (ji33)).f0))) (fun _ hk => hk.2) (.int .i64 ((rd_TTie t101 (ji33)).f1))) (fun _ h_ => h_.1))) (Kd.R_base ho0) hb); replace HO_101001 := q0 (Kd.R_elder' (by (with_reducible repeat (first | apply Kd.R_alloc | apply Kd.R_drewN | apply Kd.R_drew)); exact (Kd.R_mono (Kd.R_far (p := ⟨gb131, 1, none⟩) (Kd.R_far (p := ⟨gb131, 0, none⟩) (Kd.R_mono HO_101001.out (fun k_ hk => (⟨hk, hk.2⟩ : _ ∧ k_ ≠ gb131))) (fun _ hk => hk.2) (.int .i64 ((rd_TTie t101 (ji33)).f0))) (fun _ hk => hk.2) (.int .i64 ((rd_TTie t101 (ji33)).f1))) (fun _ h_ => h_.1))) (Kd.R_base ho0) hb); replace BK113 := q0 (kf BK113.out hb); replace BK131 := q0 (blk_below (g := gb131) (o := .cells #[.int .i64 ((rd_TTie t101 (ji33)).f0), .int .i64 ((rd_TTie t101 (ji33)).f1)] 32 (0, 0)) (by (with_reducible repeat (first | refine blk_drewN ?_ _ | refine blk_drew ?_ | refine blk_alloc ?_ _)); refine blk_put (cs := #[.int .i64 ((rd_TTie t101 (ji33)).f0), .int .i64 0]) ?_ 1 _ rfl; (with_reducible repeat (first | refine blk_drewN ?_ _ | refine blk_drew ?_ | refine blk_alloc ?_ _)); refine blk_put (cs := #[.int .i64 0, .int .i64 0]) ?_ 0 _ rfl; (with_reducible repeat (first | refine blk_drewN ?_ _ | refine blk_drew ?_ | refine blk_alloc ?_ _)); exact BK131.out) hb); replace HB := q0 (below_step (qb HB.out) hb); (try clear hb); (try clear hb2); (try clear hk); (try clear hi); (try clear ho0)) | ((with_reducible refine gate_dst (N := 8) rfl ?_); (try (refine gate_guard (by rfl) ?_; dsimp only)); refine be 8 #[.int .i64 0, .slice none 0 0] 25 ?_; intro gb134 hg w46 hbox hb; replace HO_6 := q0 (Kd.R_below (qr HO_6.out) hb); replace HO_101001 := q0 (Kd.R_below (qr HO_101001.out) hb); replace HO133 := q0 (Kd.R_below (qr HO133.out) hb); have BK134 := q0 (hbox); have GW134 := q0 ((bs HB.out hg : w.heap.size ≤ gb134)); have GE134 := q0 ((bs HB.out hg : w.heap.size ≤ gb134)); replace HB := q0 (below_step (qb HB.out) hb); have NB113_134 := q0 ((bl BK113.out hg : gb113 ≠ gb134)); have NB134_113 := q0 ((bg BK113.out hg : gb134 ≠ gb113)); replace BK113 := q0 (kb BK113.out hb); have NB131_134 := q0 ((bl BK131.out hg : gb131 ≠ gb134)); have NB134_131 := q0 ((bg BK131.out hg : gb134 ≠ gb131)); replace BK131 := q0 (kb BK131.out hb); clear hb hbox hg; have hnb47 := NB134_113.out; have hnc47 := NB113_134.out; have hnb48 := NB134_131.out; have hnc48 := NB131_134.out; have hcz49_0 : w46.cell? ⟨gb134, 0, none⟩ = some (.int .i64 0) := (blk_cell BK134.out 0).trans rfl; have hcz49_1 : w46.cell? ⟨gb134, 1, none⟩ = some (.slice none 0 0) := (blk_cell BK134.out 1).trans rfl; have hfz49_0 := blk_frozen BK134.out 0; have hfz49_1 := blk_frozen BK134.out 1; obtain ⟨Ao50, co50, eo50⟩ := Kd.R_slice HO133.out; subst eo50; have hcz51_0 : w46.cell? ⟨gb113, 0, none⟩ = some (.int .i64 t100) := (blk_cell BK113.out 0).trans rfl; have hcz51_1 : w46.cell? ⟨gb113, 1, none⟩ = some (.slice Ao12 t110.length co12) := (blk_cell BK113.out 1).trans rfl; have hfz51_0 := blk_frozen BK113.out 0; have hfz51_1 := blk_frozen BK113.out 1; have hcz52_0 : w46.cell? ⟨gb131, 0, none⟩ = some (.int .i64 ((rd_TTie t101 (ji33)).f0)) := (blk_cell BK131.out 0).trans rfl; have hcz52_1 : w46.cell? ⟨gb131, 1, none⟩ = some (.int .i64 ((rd_TTie t101 (ji33)).f1)) := (blk_cell BK131.out 1).trans rfl; have hfz52_0 := blk_frozen BK131.out 0; have hfz52_1 := blk_frozen BK131.out 1) | (go_at_call 19; (with_reducible refine (impl_WayReach.calls kj7 t100 _ _ t110 ((rd_TTie t101 (ji33)).f0) t107 _ ?side1 ?side2 A37.out).mono ?_); (case side1 => refine (Kd.R_reads' (e := 32) (base := w.heap.size) (ok := fun k_ => ((some k_ ≠ (.slice (some ad130) t101.length co40 : Value).ownBlock ∧ k_ ≠ gb131) ∧ some k_ ≠ (.slice Ao50 t124.length co50 : Value).ownBlock)) (n := t110.length) (c := co12) ?_).2.2; exact (by (with_reducible repeat (first | apply Kd.R_alloc | apply Kd.R_drewN | apply Kd.R_drew)); exact (rf2 HO_101001.out BK134.out (fun _ h_ => h_.1)))); (case side2 => exact (Kd.R_reads' HO_101001.out).2.1); rintro e w53 ⟨v135, rfl, ho0, hb⟩; replace HO_6 := q0 (Kd.R_below (by (with_reducible repeat (first | apply Kd.R_alloc | apply Kd.R_drewN | apply Kd.R_drew)); exact (rf2 HO_6.out BK134.out (fun _ h_ => h_.1))) hb); replace HO_101001 := q0 (Kd.R_below (by (with_reducible repeat (first | apply Kd.R_alloc | apply Kd.R_drewN | apply Kd.R_drew)); exact (rf2 HO_101001.out BK134.out (fun _ h_ => h_.1))) hb); replace HO133 := q0 (Kd.R_below (by (with_reducible repeat (first | apply Kd.R_alloc | apply Kd.R_drewN | apply Kd.R_drew)); exact (rf2 HO133.out BK134.out (fun _ h_ => h_.1))) hb); have HO136 := q0 (Kd.R_lower ho0 (below_size (qb HB.out))); replace BK113 := q0 (kf BK113.out hb); replace BK131 := q0 (kf BK131.out hb); replace BK134 := q0 (blk_below (g := gb134) (o := .cells #[.int .i64 t106, .slice Ao50 t124.length co50] 25 (0, 0)) (by (with_reducible repeat (first | refine blk_drewN ?_ _ | refine blk_drew ?_ | refine blk_alloc ?_ _)); refine blk_put (cs := #[.int .i64 t106, .slice none 0 0]) ?_ 1 _ rfl; (with_reducible repeat (first | refine blk_drewN ?_ _ | refine blk_drew ?_ | refine blk_alloc ?_ _)); refine blk_put (cs := #[.int .i64 0, .slice none 0 0]) ?_ 0 _ rfl; (with_reducible repeat (first | refine blk_drewN ?_ _ | refine blk_drew ?_ | refine blk_alloc ?_ _)); exact BK134.out) hb); replace HB := q0 (below_step (qb HB.out) hb); (try clear hb); (try clear hb2); (try clear hk); (try clear hi); (try clear ho0); have hcz54_0 : w53.cell? ⟨gb134, 0, none⟩ = some (.int .i64 t106) := (blk_cell BK134.out 0).trans rfl; have hcz54_1 : w53.cell? ⟨gb134, 1, none⟩ = some (.slice Ao50 t124.length co50) := (blk_cell BK134.out 1).trans rfl; have hfz54_0 := blk_frozen BK134.out 0; have hfz54_1 := blk_frozen BK134.out 1; have hcz55_0 : w53.cell? ⟨gb131, 0, none⟩ = some (.int .i64 ((rd_TTie t101 (ji33)).f0)) := (blk_cell BK131.out 0).trans rfl; have hcz55_1 : w53.cell? ⟨gb131, 1, none⟩ = some (.int .i64 ((rd_TTie t101 (ji33)).f1)) := (blk_cell BK131.out 1).trans rfl; have hfz55_0 := blk_frozen BK131.out 0; have hfz55_1 := blk_frozen BK131.out 1) | (go_at_call 19; (with_reducible refine (impl_WayReach.calls kj7 t106 _ _ t124 ((rd_TTie t101 (ji33)).f0) t108 _ ?side1 ?side2 A38.out).mono ?_); (case side1 => exact qc (Kd.R_reads' HO133.out).2.2); (case side2 => exact (Kd.R_reads' HO133.out).2.1); rintro e w56 ⟨v137, rfl, ho0, hb⟩; replace HO_6 := q0 (Kd.R_below (qr HO_6.out) hb); replace HO_101001 := q0 (Kd.R_below (qr HO_101001.out) hb); replace HO133 := q0 (Kd.R_below (qr HO133.out) hb); have HO138 := q0 (Kd.R_lower (Kd.R_new' ho0 (Kd.R_lt (qr HO136.out))) (below_size (qb HB.out))); replace HO136 := q0 (Kd.R_elder' (qr HO136.out) (Kd.R_base ho0) hb); replace BK113 := q0 (kb BK113.out hb); replace BK131 := q0 (kb BK131.out hb); replace BK134 := q0 (kb BK134.out hb); replace HB := q0 (below_step (qb HB.out) hb); (try clear hb); (try clear hb2); (try clear hk); (try clear hi); (try clear ho0); have hcz57_0 : w56.cell? ⟨gb134, 0, none⟩ = some (.int .i64 t106) := (blk_cell BK134.out 0).trans rfl; have hcz57_1 : w56.cell? ⟨gb134, 1, none⟩ = some (.slice Ao50 t124.length co50) := (blk_cell BK134.out 1).trans rfl; have hfz57_0 := blk_frozen BK134.out 0; have hfz57_1 := blk_frozen BK134.out 1; have hcz58_0 : w56.cell? ⟨gb131, 0, none⟩ = some (.int .i64 ((rd_TTie t101 (ji33)).f0)) := (blk_cell BK131.out 0).trans rfl; have hcz58_1 : w56.cell? ⟨gb131, 1, none⟩ = some (.int .i64 ((rd_TTie t101 (ji33)).f1)) := (blk_cell BK131.out 1).trans rfl; have hfz58_0 := blk_frozen BK131.out 0; have hfz58_1 := blk_frozen BK131.out 1) | (go_at_call 19; (with_reducible refine (impl_WayReach.calls kj7 t106 _ _ t124 ((rd_TTie t101 (ji33)).f1) t109 _ ?side1 ?side2 A39.out).mono ?_); (case side1 => exact qc (Kd.R_reads' HO133.out).2.2); (case side2 => exact (Kd.R_reads' HO133.out).2.1); rintro e w59 ⟨v139, rfl, ho0, hb⟩; replace HO_6 := q0 (Kd.R_below (qr HO_6.out) hb); replace HO_101001 := q0 (Kd.R_below (qr HO_101001.out) hb); replace HO133 := q0 (Kd.R_below (qr HO133.out) hb); have HO140 := q0 (Kd.R_lower (Kd.R_new' (Kd.R_new' ho0 (Kd.R_lt (qr HO136.out))) (Kd.R_lt (qr HO138.out))) (below_size (qb HB.out))); replace HO136 := q0 (Kd.R_elder' (qr HO136.out) (Kd.R_base ho0) hb); replace HO138 := q0 (Kd.R_elder' (qr HO138.out) (Kd.R_base ho0) hb); replace BK113 := q0 (kb BK113.out hb); replace BK131 := q0 (kb BK131.out hb); replace BK134 := q0 (kb BK134.out hb); replace HB := q0 (below_step (qb HB.out) hb); (try clear hb); (try clear hb2); (try clear hk); (try clear hi); (try clear ho0)))
 repeat (go_quiet (first | ((with_reducible refine gate_dst (N := 7) rfl ?_); (try (refine gate_guard (by rfl) ?_; dsimp only)); refine be 7 #[.int .i64 0, .int .i64 0] 32 ?_; intro gb131 hg w41 hbox hb; replace HO_6 := q0 (Kd.R_below (Kd.R_elderB (qr HO_6.out) gb131 (Nat.le_of_eq hg.symm)) hb); replace HO_101001 := q0 (Kd.R_below (Kd.R_elderB (qr HO_101001.out) gb131 (Nat.le_of_eq hg.symm)) hb); have BK131 := q0 (hbox); have GW131 := q0 ((bs HB.out hg : w.heap.size ≤ gb131)); have GE131 := q0 ((bs HB.out hg : w.heap.size ≤ gb131)); replace HB := q0 (below_step (qb HB.out) hb); have NB113_131 := q0 ((bl BK113.out hg : gb113 ≠ gb131)); have NB131_113 := q0 ((bg BK113.out hg : gb131 ≠ gb113)); replace BK113 := q0 (kb BK113.out hb); clear hb hbox hg; have hnb42 := NB131_113.out; have hnc42 := NB113_131.out; have hcz43_0 : w41.cell? ⟨gb131, 0, none⟩ = some (.int .i64 0) := (blk_cell BK131.out 0).trans rfl; have hcz43_1 : w41.cell? ⟨gb131, 1, none⟩ = some (.int .i64 0) := (blk_cell BK131.out 1).trans rfl; have hfz43_0 := blk_frozen BK131.out 0; have hfz43_1 := blk_frozen BK131.out 1; have hcz44_0 : w41.cell? ⟨gb113, 0, none⟩ = some (.int .i64 t100) := (blk_cell BK113.out 0).trans rfl; have hcz44_1 : w41.cell? ⟨gb113, 1, none⟩ = some (.slice Ao12 t110.length co12) := (blk_cell BK113.out 1).trans rfl; have hfz44_0 := blk_frozen BK113.out 0; have hfz44_1 := blk_frozen BK113.out 1) | (go_at_call 18; (with_reducible refine (impl_NetCut.calls kj7 t100 _ _ t110 ((rd_TTie t101 (ji33)).f0) ((rd_TTie t101 (ji33)).f1) t106 t124 t125 _ ?side1 ?side2 A36.out).mono ?_); (case side1 => refine (Kd.R_reads' (e := 32) (base := w.heap.size) (ok := fun k_ => (some k_ ≠ (.slice (some ad130) t101.length co40 : Value).ownBlock ∧ k_ ≠ gb131)) (n := t110.length) (c := co12) ?_).2.2; exact (by (with_reducible repeat (first | apply Kd.R_alloc | apply Kd.R_drewN | apply Kd.R_drew)); exact (Kd.R_mono (Kd.R_far (p := ⟨gb131, 1, none⟩) (Kd.R_far (p := ⟨gb131, 0, none⟩) (Kd.R_mono HO_101001.out (fun k_ hk => (⟨hk, hk.2⟩ : _ ∧ k_ ≠ gb131))) (fun _ hk => hk.2) (.int .i64 ((rd_TTie t101 (ji33)).f0))) (fun _ hk => hk.2) (.int .i64 ((rd_TTie t101 (ji33)).f1))) (fun _ h_ => h_.1)))); (case side2 => exact (Kd.R_reads' HO_101001.out).2.1); rintro e w45 ⟨v132, rfl, ho0, hb⟩; have HO133 := q0 (Kd.R_lower (Kd.R_newB (Kd.R_new' (Kd.R_new' ho0 (Kd.R_lt (by (with_reducible repeat (first | apply Kd.R_alloc | apply Kd.R_drewN | apply Kd.R_drew)); exact (Kd.R_mono (Kd.R_far (p := ⟨gb131, 1, none⟩) (Kd.R_far (p := ⟨gb131, 0, none⟩) (Kd.R_mono HO_6.out (fun k_ hk => (⟨hk, hk.2⟩ : _ ∧ k_ ≠ gb131))) (fun _ hk => hk.2) (.int .i64 ((rd_TTie t101 (ji33)).f0))) (fun _ hk => hk.2) (.int .i64 ((rd_TTie t101 (ji33)).f1))) (fun _ h_ => h_.1))))) (Kd.R_lt (by (with_reducible repeat (first | apply Kd.R_alloc | apply Kd.R_drewN | apply Kd.R_drew)); exact (Kd.R_mono (Kd.R_far (p := ⟨gb131, 1, none⟩) (Kd.R_far (p := ⟨gb131, 0, none⟩) (Kd.R_mono HO_101001.out (fun k_ hk => (⟨hk, hk.2⟩ : _ ∧ k_ ≠ gb131))) (fun _ hk => hk.2) (.int .i64 ((rd_TTie t101 (ji33)).f0))) (fun _ hk => hk.2) (.int .i64 ((rd_TTie t101 (ji33)).f1))) (fun _ h_ => h_.1))))) (g := gb131) (o := .cells #[.int .i64 ((rd_TTie t101 (ji33)).f0), .int .i64 ((rd_TTie t101 (ji33)).f1)] 32 (0, 0)) (by (with_reducible repeat (first | refine blk_drewN ?_ _ | refine blk_drew ?_ | refine blk_alloc ?_ _)); refine blk_put (cs := #[.int .i64 ((rd_TTie t101 (ji33)).f0), .int .i64 0]) ?_ 1 _ rfl; (with_reducible repeat (first | refine blk_drewN ?_ _ | refine blk_drew ?_ | refine blk_alloc ?_ _)); refine blk_put (cs := #[.int .i64 0, .int .i64 0]) ?_ 0 _ rfl; (with_reducible repeat (first | refine blk_drewN ?_ _ | refine blk_drew ?_ | refine blk_alloc ?_ _)); exact BK131.out)) (below_size (qb HB.out))); replace HO_6 := q0 (Kd.R_elder' (by (with_reducible repeat (first | apply Kd.R_alloc | apply Kd.R_drewN | apply Kd.R_drew)); exact (Kd.R_mono (Kd.R_far (p := ⟨gb131, 1, none⟩) (Kd.R_far (p := ⟨gb131, 0, none⟩) (Kd.R_mono HO_6.out (fun k_ hk => (⟨hk, hk.2⟩ : _ ∧ k_ ≠ gb131))) (fun _ hk => hk.2) (.int .i64 ((rd_TTie t101 (ji33)).f0))) (fun _ hk => hk.2) (.int .i64 ((rd_TTie t101 (ji33)).f1))) (fun _ h_ => h_.1))) (Kd.R_base ho0) hb); replace HO_101001 := q0 (Kd.R_elder' (by (with_reducible repeat (first | apply Kd.R_alloc | apply Kd.R_drewN | apply Kd.R_drew)); exact (Kd.R_mono (Kd.R_far (p := ⟨gb131, 1, none⟩) (Kd.R_far (p := ⟨gb131, 0, none⟩) (Kd.R_mono HO_101001.out (fun k_ hk => (⟨hk, hk.2⟩ : _ ∧ k_ ≠ gb131))) (fun _ hk => hk.2) (.int .i64 ((rd_TTie t101 (ji33)).f0))) (fun _ hk => hk.2) (.int .i64 ((rd_TTie t101 (ji33)).f1))) (fun _ h_ => h_.1))) (Kd.R_base ho0) hb); replace BK113 := q0 (kf BK113.out hb); replace BK131 := q0 (blk_below (g := gb131) (o := .cells #[.int .i64 ((rd_TTie t101 (ji33)).f0), .int .i64 ((rd_TTie t101 (ji33)).f1)] 32 (0, 0)) (by (with_reducible repeat (first | refine blk_drewN ?_ _ | refine blk_drew ?_ | refine blk_alloc ?_ _)); refine blk_put (cs := #[.int .i64 ((rd_TTie t101 (ji33)).f0), .int .i64 0]) ?_ 1 _ rfl; (with_reducible repeat (first | refine blk_drewN ?_ _ | refine blk_drew ?_ | refine blk_alloc ?_ _)); refine blk_put (cs := #[.int .i64 0, .int .i64 0]) ?_ 0 _ rfl; (with_reducible repeat (first | refine blk_drewN ?_ _ | refine blk_drew ?_ | refine blk_alloc ?_ _)); exact BK131.out) hb); replace HB := q0 (below_step (qb HB.out) hb); (try clear hb); (try clear hb2); (try clear hk); (try clear hi); (try clear ho0)) | ((with_reducible refine gate_dst (N := 8) rfl ?_); (try (refine gate_guard (by rfl) ?_; dsimp only)); refine be 8 #[.int .i64 0, .slice none 0 0] 25 ?_; intro gb134 hg w46 hbox hb; replace HO_6 := q0 (Kd.R_below (qr HO_6.out) hb); replace HO_101001 := q0 (Kd.R_below (qr HO_101001.out) hb); replace HO133 := q0 (Kd.R_below (qr HO133.out) hb); have BK134 := q0 (hbox); have GW134 := q0 ((bs HB.out hg : w.heap.size ≤ gb134)); have GE134 := q0 ((bs HB.out hg : w.heap.size ≤ gb134)); replace HB := q0 (below_step (qb HB.out) hb); have NB113_134 := q0 ((bl BK113.out hg : gb113 ≠ gb134)); have NB134_113 := q0 ((bg BK113.out hg : gb134 ≠ gb113)); replace BK113 := q0 (kb BK113.out hb); have NB131_134 := q0 ((bl BK131.out hg : gb131 ≠ gb134)); have NB134_131 := q0 ((bg BK131.out hg : gb134 ≠ gb131)); replace BK131 := q0 (kb BK131.out hb); clear hb hbox hg; have hnb47 := NB134_113.out; have hnc47 := NB113_134.out; have hnb48 := NB134_131.out; have hnc48 := NB131_134.out; have hcz49_0 : w46.cell? ⟨gb134, 0, none⟩ = some (.int .i64 0) := (blk_cell BK134.out 0).trans rfl; have hcz49_1 : w46.cell? ⟨gb134, 1, none⟩ = some (.slice none 0 0) := (blk_cell BK134.out 1).trans rfl; have hfz49_0 := blk_frozen BK134.out 0; have hfz49_1 := blk_frozen BK134.out 1; obtain ⟨Ao50, co50, eo50⟩ := Kd.R_slice HO133.out; subst eo50; have hcz51_0 : w46.cell? ⟨gb113, 0, none⟩ = some (.int .i64 t100) := (blk_cell BK113.out 0).trans rfl; have hcz51_1 : w46.cell? ⟨gb113, 1, none⟩ = some (.slice Ao12 t110.length co12) := (blk_cell BK113.out 1).trans rfl; have hfz51_0 := blk_frozen BK113.out 0; have hfz51_1 := blk_frozen BK113.out 1; have hcz52_0 : w46.cell? ⟨gb131, 0, none⟩ = some (.int .i64 ((rd_TTie t101 (ji33)).f0)) := (blk_cell BK131.out 0).trans rfl; have hcz52_1 : w46.cell? ⟨gb131, 1, none⟩ = some (.int .i64 ((rd_TTie t101 (ji33)).f1)) := (blk_cell BK131.out 1).trans rfl; have hfz52_0 := blk_frozen BK131.out 0; have hfz52_1 := blk_frozen BK131.out 1) | (go_at_call 19; (with_reducible refine (impl_WayReach.calls kj7 t100 _ _ t110 ((rd_TTie t101 (ji33)).f0) t107 _ ?side1 ?side2 A37.out).mono ?_); (case side1 => refine (Kd.R_reads' (e := 32) (base := w.heap.size) (ok := fun k_ => ((some k_ ≠ (.slice (some ad130) t101.length co40 : Value).ownBlock ∧ k_ ≠ gb131) ∧ some k_ ≠ (.slice Ao50 t124.length co50 : Value).ownBlock)) (n := t110.length) (c := co12) ?_).2.2; exact (by (with_reducible repeat (first | apply Kd.R_alloc | apply Kd.R_drewN | apply Kd.R_drew)); exact (rf2 HO_101001.out BK134.out (fun _ h_ => h_.1)))); (case side2 => exact (Kd.R_reads' HO_101001.out).2.1); rintro e w53 ⟨v135, rfl, ho0, hb⟩; replace HO_6 := q0 (Kd.R_below (by (with_reducible repeat (first | apply Kd.R_alloc | apply Kd.R_drewN | apply Kd.R_drew)); exact (rf2 HO_6.out BK134.out (fun _ h_ => h_.1))) hb); replace HO_101001 := q0 (Kd.R_below (by (with_reducible repeat (first | apply Kd.R_alloc | apply Kd.R_drewN | apply Kd.R_drew)); exact (rf2 HO_101001.out BK134.out (fun _ h_ => h_.1))) hb); replace HO133 := q0 (Kd.R_below (by (with_reducible repeat (first | apply Kd.R_alloc | apply Kd.R_drewN | apply Kd.R_drew)); exact (rf2 HO133.out BK134.out (fun _ h_ => h_.1))) hb); have HO136 := q0 (Kd.R_lower ho0 (below_size (qb HB.out))); replace BK113 := q0 (kf BK113.out hb); replace BK131 := q0 (kf BK131.out hb); replace BK134 := q0 (blk_below (g := gb134) (o := .cells #[.int .i64 t106, .slice Ao50 t124.length co50] 25 (0, 0)) (by (with_reducible repeat (first | refine blk_drewN ?_ _ | refine blk_drew ?_ | refine blk_alloc ?_ _)); refine blk_put (cs := #[.int .i64 t106, .slice none 0 0]) ?_ 1 _ rfl; (with_reducible repeat (first | refine blk_drewN ?_ _ | refine blk_drew ?_ | refine blk_alloc ?_ _)); refine blk_put (cs := #[.int .i64 0, .slice none 0 0]) ?_ 0 _ rfl; (with_reducible repeat (first | refine blk_drewN ?_ _ | refine blk_drew ?_ | refine blk_alloc ?_ _)); exact BK134.out) hb); replace HB := q0 (below_step (qb HB.out) hb); (try clear hb); (try clear hb2); (try clear hk); (try clear hi); (try clear ho0); have hcz54_0 : w53.cell? ⟨gb134, 0, none⟩ = some (.int .i64 t106) := (blk_cell BK134.out 0).trans rfl; have hcz54_1 : w53.cell? ⟨gb134, 1, none⟩ = some (.slice Ao50 t124.length co50) := (blk_cell BK134.out 1).trans rfl; have hfz54_0 := blk_frozen BK134.out 0; have hfz54_1 := blk_frozen BK134.out 1; have hcz55_0 : w53.cell? ⟨gb131, 0, none⟩ = some (.int .i64 ((rd_TTie t101 (ji33)).f0)) := (blk_cell BK131.out 0).trans rfl; have hcz55_1 : w53.cell? ⟨gb131, 1, none⟩ = some (.int .i64 ((rd_TTie t101 (ji33)).f1)) := (blk_cell BK131.out 1).trans rfl; have hfz55_0 := blk_frozen BK131.out 0; have hfz55_1 := blk_frozen BK131.out 1) | (go_at_call 19; (with_reducible refine (impl_WayReach.calls kj7 t106 _ _ t124 ((rd_TTie t101 (ji33)).f0) t108 _ ?side1 ?side2 A38.out).mono ?_); (case side1 => exact qc (Kd.R_reads' HO133.out).2.2); (case side2 => exact (Kd.R_reads' HO133.out).2.1); rintro e w56 ⟨v137, rfl, ho0, hb⟩; replace HO_6 := q0 (Kd.R_below (qr HO_6.out) hb); replace HO_101001 := q0 (Kd.R_below (qr HO_101001.out) hb); replace HO133 := q0 (Kd.R_below (qr HO133.out) hb); have HO138 := q0 (Kd.R_lower (Kd.R_new' ho0 (Kd.R_lt (qr HO136.out))) (below_size (qb HB.out))); replace HO136 := q0 (Kd.R_elder' (qr HO136.out) (Kd.R_base ho0) hb); replace BK113 := q0 (kb BK113.out hb); replace BK131 := q0 (kb BK131.out hb); replace BK134 := q0 (kb BK134.out hb); replace HB := q0 (below_step (qb HB.out) hb); (try clear hb); (try clear hb2); (try clear hk); (try clear hi); (try clear ho0); have hcz57_0 : w56.cell? ⟨gb134, 0, none⟩ = some (.int .i64 t106) := (blk_cell BK134.out 0).trans rfl; have hcz57_1 : w56.cell? ⟨gb134, 1, none⟩ = some (.slice Ao50 t124.length co50) := (blk_cell BK134.out 1).trans rfl; have hfz57_0 := blk_frozen BK134.out 0; have hfz57_1 := blk_frozen BK134.out 1; have hcz58_0 : w56.cell? ⟨gb131, 0, none⟩ = some (.int .i64 ((rd_TTie t101 (ji33)).f0)) := (blk_cell BK131.out 0).trans rfl; have hcz58_1 : w56.cell? ⟨gb131, 1, none⟩ = some (.int .i64 ((rd_TTie t101 (ji33)).f1)) := (blk_cell BK131.out 1).trans rfl; have hfz58_0 := blk_frozen BK131.out 0; have hfz58_1 := blk_frozen BK131.out 1) | (go_at_call 19; (with_reducible refine (impl_WayReach.calls kj7 t106 _ _ t124 ((rd_TTie t101 (ji33)).f1) t109 _ ?side1 ?side2 A39.out).mono ?_); (case side1 => exact qc (Kd.R_reads' HO133.out).2.2); (case side2 => exact (Kd.R_reads' HO133.out).2.1); rintro e w59 ⟨v139, rfl, ho0, hb⟩; replace HO_6 := q0 (Kd.R_below (qr HO_6.out) hb); replace HO_101001 := q0 (Kd.R_below (qr HO_101001.out) hb); replace HO133 := q0 (Kd.R_below (qr HO133.out) hb); have HO140 := q0 (Kd.R_lower (Kd.R_new' (Kd.R_new' ho0 (Kd.R_lt (qr HO136.out))) (Kd.R_lt (qr HO138.out))) (below_size (qb HB.out))); replace HO136 := q0 (Kd.R_elder' (qr HO136.out) (Kd.R_base ho0) hb); replace HO138 := q0 (Kd.R_elder' (qr HO138.out) (Kd.R_base ho0) hb); replace BK113 := q0 (kb BK113.out hb); replace BK131 := q0 (kb BK131.out hb); replace BK134 := q0 (kb BK134.out hb); replace HB := q0 (below_step (qb HB.out) hb); (try clear hb); (try clear hb2); (try clear hk); (try clear hi); (try clear ho0))); try go_wp2_with (first | ((with_reducible refine gate_dst (N := 7) rfl ?_); (try (refine gate_guard (by rfl) ?_; dsimp only)); refine be 7 #[.int .i64 0, .int .i64 0] 32 ?_; intro gb131 hg w41 hbox hb; replace HO_6 := q0 (Kd.R_below (Kd.R_elderB (qr HO_6.out) gb131 (Nat.le_of_eq hg.symm)) hb); replace HO_101001 := q0 (Kd.R_below (Kd.R_elderB (qr HO_101001.out) gb131 (Nat.le_of_eq hg.symm)) hb); have BK131 := q0 (hbox); have GW131 := q0 ((bs HB.out hg : w.heap.size ≤ gb131)); have GE131 := q0 ((bs HB.out hg : w.heap.size ≤ gb131)); replace HB := q0 (below_step (qb HB.out) hb); have NB113_131 := q0 ((bl BK113.out hg : gb113 ≠ gb131)); have NB131_113 := q0 ((bg BK113.out hg : gb131 ≠ gb113)); replace BK113 := q0 (kb BK113.out hb); clear hb hbox hg; have hnb42 := NB131_113.out; have hnc42 := NB113_131.out; have hcz43_0 : w41.cell? ⟨gb131, 0, none⟩ = some (.int .i64 0) := (blk_cell BK131.out 0).trans rfl; have hcz43_1 : w41.cell? ⟨gb131, 1, none⟩ = some (.int .i64 0) := (blk_cell BK131.out 1).trans rfl; have hfz43_0 := blk_frozen BK131.out 0; have hfz43_1 := blk_frozen BK131.out 1; have hcz44_0 : w41.cell? ⟨gb113, 0, none⟩ = some (.int .i64 t100) := (blk_cell BK113.out 0).trans rfl; have hcz44_1 : w41.cell? ⟨gb113, 1, none⟩ = some (.slice Ao12 t110.length co12) := (blk_cell BK113.out 1).trans rfl; have hfz44_0 := blk_frozen BK113.out 0; have hfz44_1 := blk_frozen BK113.out 1) | (go_at_call 18; (with_reducible refine (impl_NetCut.calls kj7 t100 _ _ t110 ((rd_TTie t101 (ji33)).f0) ((rd_TTie t101 (ji33)).f1) t106 t124 t125 _ ?side1 ?side2 A36.out).mono ?_); (case side1 => refine (Kd.R_reads' (e := 32) (base := w.heap.size) (ok := fun k_ => (some k_ ≠ (.slice (some ad130) t101.length co40 : Value).ownBlock ∧ k_ ≠ gb131)) (n := t110.length) (c := co12) ?_).2.2; exact (by (with_reducible repeat (first | apply Kd.R_alloc | apply Kd.R_drewN | apply Kd.R_drew)); exact (Kd.R_mono (Kd.R_far (p := ⟨gb131, 1, none⟩) (Kd.R_far (p := ⟨gb131, 0, none⟩) (Kd.R_mono HO_101001.out (fun k_ hk => (⟨hk, hk.2⟩ : _ ∧ k_ ≠ gb131))) (fun _ hk => hk.2) (.int .i64 ((rd_TTie t101 (ji33)).f0))) (fun _ hk => hk.2) (.int .i64 ((rd_TTie t101 (ji33)).f1))) (fun _ h_ => h_.1)))); (case side2 => exact (Kd.R_reads' HO_101001.out).2.1); rintro e w45 ⟨v132, rfl, ho0, hb⟩; have HO133 := q0 (Kd.R_lower (Kd.R_newB (Kd.R_new' (Kd.R_new' ho0 (Kd.R_lt (by (with_reducible repeat (first | apply Kd.R_alloc | apply Kd.R_drewN | apply Kd.R_drew)); exact (Kd.R_mono (Kd.R_far (p := ⟨gb131, 1, none⟩) (Kd.R_far (p := ⟨gb131, 0, none⟩) (Kd.R_mono HO_6.out (fun k_ hk => (⟨hk, hk.2⟩ : _ ∧ k_ ≠ gb131))) (fun _ hk => hk.2) (.int .i64 ((rd_TTie t101 (ji33)).f0))) (fun _ hk => hk.2) (.int .i64 ((rd_TTie t101 (ji33)).f1))) (fun _ h_ => h_.1))))) (Kd.R_lt (by (with_reducible repeat (first | apply Kd.R_alloc | apply Kd.R_drewN | apply Kd.R_drew)); exact (Kd.R_mono (Kd.R_far (p := ⟨gb131, 1, none⟩) (Kd.R_far (p := ⟨gb131, 0, none⟩) (Kd.R_mono HO_101001.out (fun k_ hk => (⟨hk, hk.2⟩ : _ ∧ k_ ≠ gb131))) (fun _ hk => hk.2) (.int .i64 ((rd_TTie t101 (ji33)).f0))) (fun _ hk => hk.2) (.int .i64 ((rd_TTie t101 (ji33)).f1))) (fun _ h_ => h_.1))))) (g := gb131) (o := .cells #[.int .i64 ((rd_TTie t101 (ji33)).f0), .int .i64 ((rd_TTie t101 (ji33)).f1)] 32 (0, 0)) (by (with_reducible repeat (first | refine blk_drewN ?_ _ | refine blk_drew ?_ | refine blk_alloc ?_ _)); refine blk_put (cs := #[.int .i64 ((rd_TTie t101 (ji33)).f0), .int .i64 0]) ?_ 1 _ rfl; (with_reducible repeat (first | refine blk_drewN ?_ _ | refine blk_drew ?_ | refine blk_alloc ?_ _)); refine blk_put (cs := #[.int .i64 0, .int .i64 0]) ?_ 0 _ rfl; (with_reducible repeat (first | refine blk_drewN ?_ _ | refine blk_drew ?_ | refine blk_alloc ?_ _)); exact BK131.out)) (below_size (qb HB.out))); replace HO_6 := q0 (Kd.R_elder' (by (with_reducible repeat (first | apply Kd.R_alloc | apply Kd.R_drewN | apply Kd.R_drew)); exact (Kd.R_mono (Kd.R_far (p := ⟨gb131, 1, none⟩) (Kd.R_far (p := ⟨gb131, 0, none⟩) (Kd.R_mono HO_6.out (fun k_ hk => (⟨hk, hk.2⟩ : _ ∧ k_ ≠ gb131))) (fun _ hk => hk.2) (.int .i64 ((rd_TTie t101 (ji33)).f0))) (fun _ hk => hk.2) (.int .i64 ((rd_TTie t101 (ji33)).f1))) (fun _ h_ => h_.1))) (Kd.R_base ho0) hb); replace HO_101001 := q0 (Kd.R_elder' (by (with_reducible repeat (first | apply Kd.R_alloc | apply Kd.R_drewN | apply Kd.R_drew)); exact (Kd.R_mono (Kd.R_far (p := ⟨gb131, 1, none⟩) (Kd.R_far (p := ⟨gb131, 0, none⟩) (Kd.R_mono HO_101001.out (fun k_ hk => (⟨hk, hk.2⟩ : _ ∧ k_ ≠ gb131))) (fun _ hk => hk.2) (.int .i64 ((rd_TTie t101 (ji33)).f0))) (fun _ hk => hk.2) (.int .i64 ((rd_TTie t101 (ji33)).f1))) (fun _ h_ => h_.1))) (Kd.R_base ho0) hb); replace BK113 := q0 (kf BK113.out hb); replace BK131 := q0 (blk_below (g := gb131) (o := .cells #[.int .i64 ((rd_TTie t101 (ji33)).f0), .int .i64 ((rd_TTie t101 (ji33)).f1)] 32 (0, 0)) (by (with_reducible repeat (first | refine blk_drewN ?_ _ | refine blk_drew ?_ | refine blk_alloc ?_ _)); refine blk_put (cs := #[.int .i64 ((rd_TTie t101 (ji33)).f0), .int .i64 0]) ?_ 1 _ rfl; (with_reducible repeat (first | refine blk_drewN ?_ _ | refine blk_drew ?_ | refine blk_alloc ?_ _)); refine blk_put (cs := #[.int .i64 0, .int .i64 0]) ?_ 0 _ rfl; (with_reducible repeat (first | refine blk_drewN ?_ _ | refine blk_drew ?_ | refine blk_alloc ?_ _)); exact BK131.out) hb); replace HB := q0 (below_step (qb HB.out) hb); (try clear hb); (try clear hb2); (try clear hk); (try clear hi); (try clear ho0)) | ((with_reducible refine gate_dst (N := 8) rfl ?_); (try (refine gate_guard (by rfl) ?_; dsimp only)); refine be 8 #[.int .i64 0, .slice none 0 0] 25 ?_; intro gb134 hg w46 hbox hb; replace HO_6 := q0 (Kd.R_below (qr HO_6.out) hb); replace HO_101001 := q0 (Kd.R_below (qr HO_101001.out) hb); replace HO133 := q0 (Kd.R_below (qr HO133.out) hb); have BK134 := q0 (hbox); have GW134 := q0 ((bs HB.out hg : w.heap.size ≤ gb134)); have GE134 := q0 ((bs HB.out hg : w.heap.size ≤ gb134)); replace HB := q0 (below_step (qb HB.out) hb); have NB113_134 := q0 ((bl BK113.out hg : gb113 ≠ gb134)); have NB134_113 := q0 ((bg BK113.out hg : gb134 ≠ gb113)); replace BK113 := q0 (kb BK113.out hb); have NB131_134 := q0 ((bl BK131.out hg : gb131 ≠ gb134)); have NB134_131 := q0 ((bg BK131.out hg : gb134 ≠ gb131)); replace BK131 := q0 (kb BK131.out hb); clear hb hbox hg; have hnb47 := NB134_113.out; have hnc47 := NB113_134.out; have hnb48 := NB134_131.out; have hnc48 := NB131_134.out; have hcz49_0 : w46.cell? ⟨gb134, 0, none⟩ = some (.int .i64 0) := (blk_cell BK134.out 0).trans rfl; have hcz49_1 : w46.cell? ⟨gb134, 1, none⟩ = some (.slice none 0 0) := (blk_cell BK134.out 1).trans rfl; have hfz49_0 := blk_frozen BK134.out 0; have hfz49_1 := blk_frozen BK134.out 1; obtain ⟨Ao50, co50, eo50⟩ := Kd.R_slice HO133.out; subst eo50; have hcz51_0 : w46.cell? ⟨gb113, 0, none⟩ = some (.int .i64 t100) := (blk_cell BK113.out 0).trans rfl; have hcz51_1 : w46.cell? ⟨gb113, 1, none⟩ = some (.slice Ao12 t110.length co12) := (blk_cell BK113.out 1).trans rfl; have hfz51_0 := blk_frozen BK113.out 0; have hfz51_1 := blk_frozen BK113.out 1; have hcz52_0 : w46.cell? ⟨gb131, 0, none⟩ = some (.int .i64 ((rd_TTie t101 (ji33)).f0)) := (blk_cell BK131.out 0).trans rfl; have hcz52_1 : w46.cell? ⟨gb131, 1, none⟩ = some (.int .i64 ((rd_TTie t101 (ji33)).f1)) := (blk_cell BK131.out 1).trans rfl; have hfz52_0 := blk_frozen BK131.out 0; have hfz52_1 := blk_frozen BK131.out 1) | (go_at_call 19; (with_reducible refine (impl_WayReach.calls kj7 t100 _ _ t110 ((rd_TTie t101 (ji33)).f0) t107 _ ?side1 ?side2 A37.out).mono ?_); (case side1 => refine (Kd.R_reads' (e := 32) (base := w.heap.size) (ok := fun k_ => ((some k_ ≠ (.slice (some ad130) t101.length co40 : Value).ownBlock ∧ k_ ≠ gb131) ∧ some k_ ≠ (.slice Ao50 t124.length co50 : Value).ownBlock)) (n := t110.length) (c := co12) ?_).2.2; exact (by (with_reducible repeat (first | apply Kd.R_alloc | apply Kd.R_drewN | apply Kd.R_drew)); exact (rf2 HO_101001.out BK134.out (fun _ h_ => h_.1)))); (case side2 => exact (Kd.R_reads' HO_101001.out).2.1); rintro e w53 ⟨v135, rfl, ho0, hb⟩; replace HO_6 := q0 (Kd.R_below (by (with_reducible repeat (first | apply Kd.R_alloc | apply Kd.R_drewN | apply Kd.R_drew)); exact (rf2 HO_6.out BK134.out (fun _ h_ => h_.1))) hb); replace HO_101001 := q0 (Kd.R_below (by (with_reducible repeat (first | apply Kd.R_alloc | apply Kd.R_drewN | apply Kd.R_drew)); exact (rf2 HO_101001.out BK134.out (fun _ h_ => h_.1))) hb); replace HO133 := q0 (Kd.R_below (by (with_reducible repeat (first | apply Kd.R_alloc | apply Kd.R_drewN | apply Kd.R_drew)); exact (rf2 HO133.out BK134.out (fun _ h_ => h_.1))) hb); have HO136 := q0 (Kd.R_lower ho0 (below_size (qb HB.out))); replace BK113 := q0 (kf BK113.out hb); replace BK131 := q0 (kf BK131.out hb); replace BK134 := q0 (blk_below (g := gb134) (o := .cells #[.int .i64 t106, .slice Ao50 t124.length co50] 25 (0, 0)) (by (with_reducible repeat (first | refine blk_drewN ?_ _ | refine blk_drew ?_ | refine blk_alloc ?_ _)); refine blk_put (cs := #[.int .i64 t106, .slice none 0 0]) ?_ 1 _ rfl; (with_reducible repeat (first | refine blk_drewN ?_ _ | refine blk_drew ?_ | refine blk_alloc ?_ _)); refine blk_put (cs := #[.int .i64 0, .slice none 0 0]) ?_ 0 _ rfl; (with_reducible repeat (first | refine blk_drewN ?_ _ | refine blk_drew ?_ | refine blk_alloc ?_ _)); exact BK134.out) hb); replace HB := q0 (below_step (qb HB.out) hb); (try clear hb); (try clear hb2); (try clear hk); (try clear hi); (try clear ho0); have hcz54_0 : w53.cell? ⟨gb134, 0, none⟩ = some (.int .i64 t106) := (blk_cell BK134.out 0).trans rfl; have hcz54_1 : w53.cell? ⟨gb134, 1, none⟩ = some (.slice Ao50 t124.length co50) := (blk_cell BK134.out 1).trans rfl; have hfz54_0 := blk_frozen BK134.out 0; have hfz54_1 := blk_frozen BK134.out 1; have hcz55_0 : w53.cell? ⟨gb131, 0, none⟩ = some (.int .i64 ((rd_TTie t101 (ji33)).f0)) := (blk_cell BK131.out 0).trans rfl; have hcz55_1 : w53.cell? ⟨gb131, 1, none⟩ = some (.int .i64 ((rd_TTie t101 (ji33)).f1)) := (blk_cell BK131.out 1).trans rfl; have hfz55_0 := blk_frozen BK131.out 0; have hfz55_1 := blk_frozen BK131.out 1) | (go_at_call 19; (with_reducible refine (impl_WayReach.calls kj7 t106 _ _ t124 ((rd_TTie t101 (ji33)).f0) t108 _ ?side1 ?side2 A38.out).mono ?_); (case side1 => exact qc (Kd.R_reads' HO133.out).2.2); (case side2 => exact (Kd.R_reads' HO133.out).2.1); rintro e w56 ⟨v137, rfl, ho0, hb⟩; replace HO_6 := q0 (Kd.R_below (qr HO_6.out) hb); replace HO_101001 := q0 (Kd.R_below (qr HO_101001.out) hb); replace HO133 := q0 (Kd.R_below (qr HO133.out) hb); have HO138 := q0 (Kd.R_lower (Kd.R_new' ho0 (Kd.R_lt (qr HO136.out))) (below_size (qb HB.out))); replace HO136 := q0 (Kd.R_elder' (qr HO136.out) (Kd.R_base ho0) hb); replace BK113 := q0 (kb BK113.out hb); replace BK131 := q0 (kb BK131.out hb); replace BK134 := q0 (kb BK134.out hb); replace HB := q0 (below_step (qb HB.out) hb); (try clear hb); (try clear hb2); (try clear hk); (try clear hi); (try clear ho0); have hcz57_0 : w56.cell? ⟨gb134, 0, none⟩ = some (.int .i64 t106) := (blk_cell BK134.out 0).trans rfl; have hcz57_1 : w56.cell? ⟨gb134, 1, none⟩ = some (.slice Ao50 t124.length co50) := (blk_cell BK134.out 1).trans rfl; have hfz57_0 := blk_frozen BK134.out 0; have hfz57_1 := blk_frozen BK134.out 1; have hcz58_0 : w56.cell? ⟨gb131, 0, none⟩ = some (.int .i64 ((rd_TTie t101 (ji33)).f0)) := (blk_cell BK131.out 0).trans rfl; have hcz58_1 : w56.cell? ⟨gb131, 1, none⟩ = some (.int .i64 ((rd_TTie t101 (ji33)).f1)) := (blk_cell BK131.out 1).trans rfl; have hfz58_0 := blk_frozen BK131.out 0; have hfz58_1 := blk_frozen BK131.out 1) | (go_at_call 19; (with_reducible refine (impl_WayReach.calls kj7 t106 _ _ t124 ((rd_TTie t101 (ji33)).f1) t109 _ ?side1 ?side2 A39.out).mono ?_); (case side1 => exact qc (Kd.R_reads' HO133.out).2.2); (case side2 => exact (Kd.R_reads' HO133.out).2.1); rintro e w59 ⟨v139, rfl, ho0, hb⟩; replace HO_6 := q0 (Kd.R_below (qr HO_6.out) hb); replace HO_101001 := q0 (Kd.R_below (qr HO_101001.out) hb); replace HO133 := q0 (Kd.R_below (qr HO133.out) hb); have HO140 := q0 (Kd.R_lower (Kd.R_new' (Kd.R_new' ho0 (Kd.R_lt (qr HO136.out))) (Kd.R_lt (qr HO138.out))) (below_size (qb HB.out))); replace HO136 := q0 (Kd.R_elder' (qr HO136.out) (Kd.R_base ho0) hb); replace HO138 := q0 (Kd.R_elder' (qr HO138.out) (Kd.R_base ho0) hb); replace BK113 := q0 (kb BK113.out hb); replace BK131 := q0 (kb BK131.out hb); replace BK134 := q0 (kb BK134.out hb); replace HB := q0 (below_step (qb HB.out) hb); (try clear hb); (try clear hb2); (try clear hk); (try clear hi); (try clear ho0))))
 go_loopg [13] kj7 (fun kq v13 w' => ∃ (x13_3 : Int), v13 = .int .i64 x13_3 ∧ Aside0 (laws_FnBridgeEnds.l0 kq t125 t107 t108 t109 x13_3 = some r) ∧ Aside0 (kq ≤ kj7) ∧ Aside0 (Kd.R Kd.bool 4 w' w.heap.size (fun k_ => some k_ ≠ (v137 : Value).ownBlock ∧ some k_ ≠ (v139 : Value).ownBlock) v135 t107) ∧ Aside0 (Kd.R Kd.bool 4 w' w.heap.size (fun k_ => some k_ ≠ (v135 : Value).ownBlock ∧ some k_ ≠ (v139 : Value).ownBlock) v137 t108) ∧ Aside0 (Kd.R Kd.bool 4 w' w.heap.size (fun k_ => some k_ ≠ (v135 : Value).ownBlock ∧ some k_ ≠ (v137 : Value).ownBlock) v139 t109) ∧ Aside0 (Kd.R kTie 32 w' w.heap.size (fun k_ => some k_ ≠ ((.slice Ao50 t124.length co50) : Value).ownBlock ∧ k_ ≠ gb131) (.slice Ao12 t110.length co12) t110) ∧ Aside0 (Kd.R kTie 32 w' w.heap.size (fun k_ => some k_ ≠ ((.slice Ao12 t110.length co12) : Value).ownBlock ∧ k_ ≠ gb131) (.slice Ao50 t124.length co50) t124) ∧ Aside0 (w'.heap[gb113]? = some (.cells #[.int .i64 t100, (.slice Ao12 t110.length co12)] 25 (0, 0))) ∧ Aside0 (w'.heap[gb131]? = some (.cells #[.int .i64 ((rd_TTie t101 (ji33)).f0), .int .i64 ((rd_TTie t101 (ji33)).f1)] 32 (0, 0))) ∧ Aside0 (w'.heap[gb134]? = some (.cells #[.int .i64 t106, (.slice Ao50 t124.length co50)] 25 (0, 0))) ∧ Aside0 (Below w.heap.size w w'))
 case atStart => exact ⟨(0), qs, H', ⟨Nat.le_refl _⟩, ⟨by (with_reducible repeat (first | apply Kd.R_alloc | apply Kd.R_drewN | apply Kd.R_drew)); exact Kd.R_mono HO136.out (fun _ hk => ⟨hk.1.2, hk.2⟩)⟩, ⟨by (with_reducible repeat (first | apply Kd.R_alloc | apply Kd.R_drewN | apply Kd.R_drew)); exact Kd.R_mono HO138.out (fun _ hk => ⟨hk.1.2, hk.2⟩)⟩, ⟨by (with_reducible repeat (first | apply Kd.R_alloc | apply Kd.R_drewN | apply Kd.R_drew)); exact Kd.R_mono HO140.out (fun _ hk => ⟨hk.1.2, hk.2⟩)⟩, ⟨by (with_reducible repeat (first | apply Kd.R_alloc | apply Kd.R_drewN | apply Kd.R_drew)); exact Kd.R_mono HO_101001.out (fun _ hk => ⟨hk.2, hk.1.2⟩)⟩, ⟨by (with_reducible repeat (first | apply Kd.R_alloc | apply Kd.R_drewN | apply Kd.R_drew)); exact Kd.R_mono HO133.out (fun _ hk => ⟨hk.1.2, hk.2⟩)⟩, ⟨qk BK113.out⟩, ⟨qk BK131.out⟩, ⟨qk BK134.out⟩, ⟨qb HB.out⟩⟩
 clear H'
 try clear c1
 try clear c2
 try clear p2
 try clear c3
 try clear c4
 try clear c4b0
 try clear c4b1
 try clear c5
 try clear p5
 try clear q5
 try clear hx5
 try clear c16
 try clear c25
 try clear c32
 try clear c32b0
 try clear c32b1
 try clear c32b2
 try clear c34
 try clear c34b0
 try clear c35
 try clear c35b0
 try clear c42
 try clear c47
 try clear c48
 try clear p52
 try clear q52
 try clear hx52
 try clear hcz11_0
 try clear hcz11_1
 try clear hcz17_0
 try clear hcz17_1
 try clear hcz21_0
 try clear hcz21_1
 try clear hcz28_0
 try clear hcz28_1
 try clear hcz43_0
 try clear hcz43_1
 try clear hcz44_0
 try clear hcz44_1
 try clear hcz49_0
 try clear hcz49_1
 try clear hcz51_0
 try clear hcz51_1
 try clear hcz52_0
 try clear hcz52_1
 try clear hcz54_0
 try clear hcz54_1
 try clear hcz55_0
 try clear hcz55_1
 try clear hcz57_0
 try clear hcz57_1
 try clear hcz58_0
 try clear hcz58_1
 try clear hfz11_0
 try clear hfz11_1
 try clear hfz17_0
 try clear hfz17_1
 try clear hfz21_0
 try clear hfz21_1
 try clear hfz28_0
 try clear hfz28_1
 try clear hfz43_0
 try clear hfz43_1
 try clear hfz44_0
 try clear hfz44_1
 try clear hfz49_0
 try clear hfz49_1
 try clear hfz51_0
 try clear hfz51_1
 try clear hfz52_0
 try clear hfz52_1
 try clear hfz54_0
 try clear hfz54_1
 try clear hfz55_0
 try clear hfz55_1
 try clear hfz57_0
 try clear hfz57_1
 try clear hfz58_0
 try clear hfz58_1
 try clear hx130_0
 try clear hx130_1
 try clear p2
 try clear p130
 try clear q130
 obtain ⟨x13_3, rfl, HA, HK3, HO_10, HO_11, HO_12, HO_101001, HO_107001, BK113, BK131, BK134, HB⟩ := hrel
 rcases gk with _ | k3
 · exact absurd HA.out (by simp [laws_FnBridgeEnds.l0])
 have H := HA.out
 clear HA
 simp only [laws_FnBridgeEnds.l0] at H
 by_cases c60 : x13_3 < (t107.length : Int)
 rotate_left
 · rw [if_neg c60] at H
   have c60b0 : decide (x13_3 < (t107.length : Int)) = false := decide_eq_false c60
   clear c60
   obtain rfl := Option.some.inj H
   obtain ⟨Ao85, co85, eo85⟩ := Kd.R_slice HO_10.out
   subst eo85
   go_wp2
   repeat (go_quiet (fail); try go_wp2)
   go_ret
   exact ⟨by first | rfl | (simp [errW_none, errW_some] <;> rfl) | (simp only [← hji33]; first | rfl | (simp [errW_none, errW_some] <;> rfl)) | (simp [*, errW_none, errW_some] <;> rfl), qb HB.out⟩
 rw [if_pos c60] at H
 have c60b0 : decide (x13_3 < (t107.length : Int)) = true := decide_eq_true c60
 clear c60
 by_cases c61 : 0 ≤ x13_3
 rotate_left
 · rw [if_neg c61] at H
   exact absurd H (by simp)
 rw [if_pos c61] at H
 have c61b0 : decide (0 ≤ x13_3) = true := decide_eq_true c61
 clear c61
 by_cases c62 : x13_3 < (t108.length : Int)
 rotate_left
 · rw [if_neg c62] at H
   exact absurd H (by simp)
 rw [if_pos c62] at H
 have c62b0 : decide (x13_3 < (t108.length : Int)) = true := decide_eq_true c62
 clear c62
 obtain ⟨bq63, hbq63⟩ : ∃ b_ : Bool, b_ = (rdOf false t108 x13_3) := ⟨_, rfl⟩
 replace H : (if bq63 = true then (if ((rdOf false t107 x13_3) != true) = true then (some false) else (if x13_3 < (t109.length : Int) then (if rdOf false t109 x13_3 = true then (some false) else (laws_FnBridgeEnds.l0 k3 t125 t107 t108 t109 (wrap64 (x13_3 + 1)))) else (none))) else (if x13_3 < (t109.length : Int) then (if ((rdOf false t107 x13_3) != (rdOf false t109 x13_3)) = true then (some false) else (laws_FnBridgeEnds.l0 k3 t125 t107 t108 t109 (wrap64 (x13_3 + 1)))) else (none))) = some r := by rw [← hbq63] at H; exact H
 have Nbq63 := Aside0.mk hbq63
 clear hbq63
 by_cases c64 : bq63 = true
 rotate_left
 · replace c64 := Bool.eq_false_iff.mpr c64
   subst c64
   rw [if_neg nf] at H
   by_cases c77 : x13_3 < (t109.length : Int)
   rotate_left
   · rw [if_neg c77] at H
     exact absurd H (by simp)
   rw [if_pos c77] at H
   have c77b0 : decide (x13_3 < (t109.length : Int)) = true := decide_eq_true c77
   clear c77
   by_cases c78 : ((rdOf false t107 x13_3) != (rdOf false t109 x13_3)) = true
   · rw [if_pos c78] at H
     have c78b0 : ((rdOf false t107 x13_3) != (rdOf false t109 x13_3)) = true := c78
     (try (have c78b1 : decide ((rdOf false t107 x13_3) = (rdOf false t109 x13_3)) = false := by simpa using c78))
     (try (have c78b2 : ((rdOf false t107 x13_3) == (rdOf false t109 x13_3)) = false := by simpa using c78))
     (try (have c78b3 : ¬ ((rdOf false t107 x13_3) = (rdOf false t109 x13_3)) := by simpa using c78))
     clear c78
     obtain rfl := Option.some.inj H
     obtain ⟨Ao79, co79, eo79⟩ := Kd.R_slice HO_10.out
     subst eo79
     have p141 : 0 ≤ (x13_3 : Int) := of_decide_eq_true qa
     have q141 : x13_3 < (t107.length : Int) := of_decide_eq_true qa
     obtain ⟨ad141, e141, hx141_0⟩ := Kd.at_bool (Kd.R_reads' HO_10.out).2.2 x13_3 p141 q141
     (try rw [← Nbq63.out] at hx141_0)
     cases e141
     replace p141 := eq_true p141
     replace q141 := eq_true q141
     obtain ⟨Ao80, co80, eo80⟩ := Kd.R_slice HO_11.out
     subst eo80
     have p142 : 0 ≤ (x13_3 : Int) := of_decide_eq_true qa
     have q142 : x13_3 < (t108.length : Int) := of_decide_eq_true qa
     obtain ⟨ad142, e142, hx142_0⟩ := Kd.at_bool (Kd.R_reads' HO_11.out).2.2 x13_3 p142 q142
     (try rw [← Nbq63.out] at hx142_0)
     cases e142
     replace p142 := eq_true p142
     replace q142 := eq_true q142
     obtain ⟨Ao81, co81, eo81⟩ := Kd.R_slice HO_12.out
     subst eo81
     have p145 : 0 ≤ (x13_3 : Int) := of_decide_eq_true qa
     have q145 : x13_3 < (t109.length : Int) := of_decide_eq_true qa
     obtain ⟨ad145, e145, hx145_0⟩ := Kd.at_bool (Kd.R_reads' HO_12.out).2.2 x13_3 p145 q145
     (try rw [← Nbq63.out] at hx145_0)
     cases e145
     replace p145 := eq_true p145
     replace q145 := eq_true q145
     go_wp2
     repeat (go_quiet (fail); try go_wp2)
     go_ret
     exact ⟨by first | rfl | (simp [errW_none, errW_some] <;> rfl) | (simp only [← hji33]; first | rfl | (simp [errW_none, errW_some] <;> rfl)) | (simp [*, errW_none, errW_some] <;> rfl), qb HB.out⟩
   rw [if_neg c78] at H
   have c78b0 : ((rdOf false t107 x13_3) != (rdOf false t109 x13_3)) = false := by simpa using c78
   (try (have c78b1 : decide ((rdOf false t107 x13_3) = (rdOf false t109 x13_3)) = true := by simpa using c78))
   (try (have c78b2 : ((rdOf false t107 x13_3) == (rdOf false t109 x13_3)) = true := by simpa using c78))
   clear c78
   have H' := Aside0.mk H
   clear H
   obtain ⟨Ao82, co82, eo82⟩ := Kd.R_slice HO_10.out
   subst eo82
   have p141 : 0 ≤ (x13_3 : Int) := of_decide_eq_true qa
   have q141 : x13_3 < (t107.length : Int) := of_decide_eq_true qa
   obtain ⟨ad141, e141, hx141_0⟩ := Kd.at_bool (Kd.R_reads' HO_10.out).2.2 x13_3 p141 q141
   (try rw [← Nbq63.out] at hx141_0)
   cases e141
   replace p141 := eq_true p141
   replace q141 := eq_true q141
   obtain ⟨Ao83, co83, eo83⟩ := Kd.R_slice HO_11.out
   subst eo83
   have p142 : 0 ≤ (x13_3 : Int) := of_decide_eq_true qa
   have q142 : x13_3 < (t108.length : Int) := of_decide_eq_true qa
   obtain ⟨ad142, e142, hx142_0⟩ := Kd.at_bool (Kd.R_reads' HO_11.out).2.2 x13_3 p142 q142
   (try rw [← Nbq63.out] at hx142_0)
   cases e142
   replace p142 := eq_true p142
   replace q142 := eq_true q142
   obtain ⟨Ao84, co84, eo84⟩ := Kd.R_slice HO_12.out
   subst eo84
   have p145 : 0 ≤ (x13_3 : Int) := of_decide_eq_true qa
   have q145 : x13_3 < (t109.length : Int) := of_decide_eq_true qa
   obtain ⟨ad145, e145, hx145_0⟩ := Kd.at_bool (Kd.R_reads' HO_12.out).2.2 x13_3 p145 q145
   (try rw [← Nbq63.out] at hx145_0)
   cases e145
   replace p145 := eq_true p145
   replace q145 := eq_true q145
   have p146 : 0 ≤ (x13_3 : Int) := of_decide_eq_true qa
   have q146 : x13_3 < (t108.length : Int) := of_decide_eq_true qa
   obtain ⟨ad146, e146, hx146_0⟩ := Kd.at_bool (Kd.R_reads' HO_11.out).2.2 x13_3 p146 q146
   (try rw [← Nbq63.out] at hx146_0)
   obtain rfl : ad142 = ad146 := (by injection e146)
   replace p146 := eq_true p146
   replace q146 := eq_true q146
   go_wp2
   repeat (go_quiet (fail); try go_wp2)
   go_roundg k3
   case measure => have := HJ2.out; have := HJ7.out; have := HK3.out; omega
   case rel => exact ⟨(wrap64 (x13_3 + 1)), qs, H', ⟨by have := HJ2.out; have := HJ7.out; have := HK3.out; omega⟩, ⟨qr HO_10.out⟩, ⟨qr HO_11.out⟩, ⟨qr HO_12.out⟩, ⟨qr HO_101001.out⟩, ⟨qr HO_107001.out⟩, ⟨qk BK113.out⟩, ⟨qk BK131.out⟩, ⟨qk BK134.out⟩, ⟨qb HB.out⟩⟩
 subst c64
 rw [if_pos rfl] at H
 by_cases c65 : ((rdOf false t107 x13_3) != true) = true
 · rw [if_pos c65] at H
   have c65b0 : ((rdOf false t107 x13_3) != true) = true := c65
   (try (have c65b1 : decide ((rdOf false t107 x13_3) = true) = false := by simpa using c65))
   (try (have c65b2 : ((rdOf false t107 x13_3) == true) = false := by simpa using c65))
   (try (have c65b3 : ¬ ((rdOf false t107 x13_3) = true) := by simpa using c65))
   clear c65
   obtain rfl := Option.some.inj H
   obtain ⟨Ao66, co66, eo66⟩ := Kd.R_slice HO_10.out
   subst eo66
   have p141 : 0 ≤ (x13_3 : Int) := of_decide_eq_true qa
   have q141 : x13_3 < (t107.length : Int) := of_decide_eq_true qa
   obtain ⟨ad141, e141, hx141_0⟩ := Kd.at_bool (Kd.R_reads' HO_10.out).2.2 x13_3 p141 q141
   (try rw [← Nbq63.out] at hx141_0)
   cases e141
   replace p141 := eq_true p141
   replace q141 := eq_true q141
   obtain ⟨Ao67, co67, eo67⟩ := Kd.R_slice HO_11.out
   subst eo67
   have p142 : 0 ≤ (x13_3 : Int) := of_decide_eq_true qa
   have q142 : x13_3 < (t108.length : Int) := of_decide_eq_true qa
   obtain ⟨ad142, e142, hx142_0⟩ := Kd.at_bool (Kd.R_reads' HO_11.out).2.2 x13_3 p142 q142
   (try rw [← Nbq63.out] at hx142_0)
   cases e142
   replace p142 := eq_true p142
   replace q142 := eq_true q142
   go_wp2
   repeat (go_quiet (fail); try go_wp2)
   go_ret
   exact ⟨by first | rfl | (simp [errW_none, errW_some] <;> rfl) | (simp only [← hji33]; first | rfl | (simp [errW_none, errW_some] <;> rfl)) | (simp [*, errW_none, errW_some] <;> rfl), qb HB.out⟩
 rw [if_neg c65] at H
 have c65b0 : ((rdOf false t107 x13_3) != true) = false := by simpa using c65
 (try (have c65b1 : decide ((rdOf false t107 x13_3) = true) = true := by simpa using c65))
 (try (have c65b2 : ((rdOf false t107 x13_3) == true) = true := by simpa using c65))
 clear c65
 by_cases c68 : x13_3 < (t109.length : Int)
 rotate_left
 · rw [if_neg c68] at H
   exact absurd H (by simp)
 rw [if_pos c68] at H
 have c68b0 : decide (x13_3 < (t109.length : Int)) = true := decide_eq_true c68
 clear c68
 obtain ⟨bq69, hbq69⟩ : ∃ b_ : Bool, b_ = (rdOf false t109 x13_3) := ⟨_, rfl⟩
 replace H : (if bq69 = true then (some false) else (laws_FnBridgeEnds.l0 k3 t125 t107 t108 t109 (wrap64 (x13_3 + 1)))) = some r := by rw [← hbq69] at H; exact H
 have Nbq69 := Aside0.mk hbq69
 clear hbq69
 by_cases c70 : bq69 = true
 · subst c70
   rw [if_pos rfl] at H
   obtain rfl := Option.some.inj H
   obtain ⟨Ao71, co71, eo71⟩ := Kd.R_slice HO_10.out
   subst eo71
   have p141 : 0 ≤ (x13_3 : Int) := of_decide_eq_true qa
   have q141 : x13_3 < (t107.length : Int) := of_decide_eq_true qa
   obtain ⟨ad141, e141, hx141_0⟩ := Kd.at_bool (Kd.R_reads' HO_10.out).2.2 x13_3 p141 q141
   (try rw [← Nbq63.out] at hx141_0)
   (try rw [← Nbq69.out] at hx141_0)
   cases e141
   replace p141 := eq_true p141
   replace q141 := eq_true q141
   obtain ⟨Ao72, co72, eo72⟩ := Kd.R_slice HO_11.out
   subst eo72
   have p142 : 0 ≤ (x13_3 : Int) := of_decide_eq_true qa
   have q142 : x13_3 < (t108.length : Int) := of_decide_eq_true qa
   obtain ⟨ad142, e142, hx142_0⟩ := Kd.at_bool (Kd.R_reads' HO_11.out).2.2 x13_3 p142 q142
   (try rw [← Nbq63.out] at hx142_0)
   (try rw [← Nbq69.out] at hx142_0)
   cases e142
   replace p142 := eq_true p142
   replace q142 := eq_true q142
   have p143 : 0 ≤ (x13_3 : Int) := of_decide_eq_true qa
   have q143 : x13_3 < (t108.length : Int) := of_decide_eq_true qa
   obtain ⟨ad143, e143, hx143_0⟩ := Kd.at_bool (Kd.R_reads' HO_11.out).2.2 x13_3 p143 q143
   (try rw [← Nbq63.out] at hx143_0)
   (try rw [← Nbq69.out] at hx143_0)
   obtain rfl : ad142 = ad143 := (by injection e143)
   replace p143 := eq_true p143
   replace q143 := eq_true q143
   obtain ⟨Ao73, co73, eo73⟩ := Kd.R_slice HO_12.out
   subst eo73
   have p144 : 0 ≤ (x13_3 : Int) := of_decide_eq_true qa
   have q144 : x13_3 < (t109.length : Int) := of_decide_eq_true qa
   obtain ⟨ad144, e144, hx144_0⟩ := Kd.at_bool (Kd.R_reads' HO_12.out).2.2 x13_3 p144 q144
   (try rw [← Nbq63.out] at hx144_0)
   (try rw [← Nbq69.out] at hx144_0)
   cases e144
   replace p144 := eq_true p144
   replace q144 := eq_true q144
   go_wp2
   repeat (go_quiet (fail); try go_wp2)
   go_ret
   exact ⟨by first | rfl | (simp [errW_none, errW_some] <;> rfl) | (simp only [← hji33]; first | rfl | (simp [errW_none, errW_some] <;> rfl)) | (simp [*, errW_none, errW_some] <;> rfl), qb HB.out⟩
 replace c70 := Bool.eq_false_iff.mpr c70
 subst c70
 rw [if_neg nf] at H
 have H' := Aside0.mk H
 clear H
 obtain ⟨Ao74, co74, eo74⟩ := Kd.R_slice HO_10.out
 subst eo74
 have p141 : 0 ≤ (x13_3 : Int) := of_decide_eq_true qa
 have q141 : x13_3 < (t107.length : Int) := of_decide_eq_true qa
 obtain ⟨ad141, e141, hx141_0⟩ := Kd.at_bool (Kd.R_reads' HO_10.out).2.2 x13_3 p141 q141
 (try rw [← Nbq63.out] at hx141_0)
 (try rw [← Nbq69.out] at hx141_0)
 cases e141
 replace p141 := eq_true p141
 replace q141 := eq_true q141
 obtain ⟨Ao75, co75, eo75⟩ := Kd.R_slice HO_11.out
 subst eo75
 have p142 : 0 ≤ (x13_3 : Int) := of_decide_eq_true qa
 have q142 : x13_3 < (t108.length : Int) := of_decide_eq_true qa
 obtain ⟨ad142, e142, hx142_0⟩ := Kd.at_bool (Kd.R_reads' HO_11.out).2.2 x13_3 p142 q142
 (try rw [← Nbq63.out] at hx142_0)
 (try rw [← Nbq69.out] at hx142_0)
 cases e142
 replace p142 := eq_true p142
 replace q142 := eq_true q142
 have p143 : 0 ≤ (x13_3 : Int) := of_decide_eq_true qa
 have q143 : x13_3 < (t108.length : Int) := of_decide_eq_true qa
 obtain ⟨ad143, e143, hx143_0⟩ := Kd.at_bool (Kd.R_reads' HO_11.out).2.2 x13_3 p143 q143
 (try rw [← Nbq63.out] at hx143_0)
 (try rw [← Nbq69.out] at hx143_0)
 obtain rfl : ad142 = ad143 := (by injection e143)
 replace p143 := eq_true p143
 replace q143 := eq_true q143
 obtain ⟨Ao76, co76, eo76⟩ := Kd.R_slice HO_12.out
 subst eo76
 have p144 : 0 ≤ (x13_3 : Int) := of_decide_eq_true qa
 have q144 : x13_3 < (t109.length : Int) := of_decide_eq_true qa
 obtain ⟨ad144, e144, hx144_0⟩ := Kd.at_bool (Kd.R_reads' HO_12.out).2.2 x13_3 p144 q144
 (try rw [← Nbq63.out] at hx144_0)
 (try rw [← Nbq69.out] at hx144_0)
 cases e144
 replace p144 := eq_true p144
 replace q144 := eq_true q144
 go_wp2
 repeat (go_quiet (fail); try go_wp2)
 go_roundg k3
 case measure => have := HJ2.out; have := HJ7.out; have := HK3.out; omega
 case rel => exact ⟨(wrap64 (x13_3 + 1)), qs, H', ⟨by have := HJ2.out; have := HJ7.out; have := HK3.out; omega⟩, ⟨qr HO_10.out⟩, ⟨qr HO_11.out⟩, ⟨qr HO_12.out⟩, ⟨qr HO_101001.out⟩, ⟨qr HO_107001.out⟩, ⟨qk BK113.out⟩, ⟨qk BK131.out⟩, ⟨qk BK134.out⟩, ⟨qb HB.out⟩⟩

theorem laws_FnBridgeEnds.walk (P : laws_FnBridgeEnds.Pure) (a0 : Option Addr) (len0 cap0 : Nat) (z0 : List Int) (a1 : Option Addr) (len1 cap1 : Nat) (z1 : List Int) (w : World) (w0 : (a0 = none ∧ len0 = 0 ∧ cap0 = 0 ∧ z0 = []) ∨ ∃ x, a0 = some x ∧ len0 ≤ cap0 ∧ cap0 ≤ maxLen ∧ z0.length = cap0 ∧ (∀ i, i < z0.length → w.cell? (x.add i) = some (.int .u8 (z0.getD i 0))) ∧ ∀ n ∈ z0, (Lit.int .u8 n).wf = true) (y0 : len0 * 1 ≤ 140737488351232) (w1 : (a1 = none ∧ len1 = 0 ∧ cap1 = 0 ∧ z1 = []) ∨ ∃ x, a1 = some x ∧ len1 ≤ cap1 ∧ cap1 ≤ maxLen ∧ z1.length = cap1 ∧ (∀ i, i < z1.length → w.cell? (x.add i) = some (.int .u8 (z1.getD i 0))) ∧ ∀ n ∈ z1, (Lit.int .u8 n).wf = true) (y1 : len1 * 1 ≤ 140737488351232) :
    Calls Try.prog 4 #[.slice a0 len0 cap0, .slice a1 len1 cap1] w fun e w' => e = .returned (.bool true) ∧ Below w.heap.size w w' := by
  obtain ⟨l0, rfl, hr0, hm0, hw0, hc0⟩ := ReadsInt.ofRowC w0
  obtain ⟨l1, rfl, hr1, hm1, hw1, hc1⟩ := ReadsInt.ofRowC w1
  obtain ⟨k, h⟩ := P l0 l1 hm0 y0 hw0 hm1 y1 hw1
  refine (laws_FnBridgeEnds.calls k _ _ l0 _ _ l1 true w (Kd.C_of_reads (d := (0 : Int)) (h1 := fun _ => rfl) hr0) hc0 (Kd.C_of_reads (d := (0 : Int)) (h1 := fun _ => rfl) hr1) hc1 h).mono ?_
  rintro e w' ⟨rfl, hd⟩
  exact ⟨rfl, hd⟩
end Go.Proofs.Ytgoembpmhlmafaa.P
