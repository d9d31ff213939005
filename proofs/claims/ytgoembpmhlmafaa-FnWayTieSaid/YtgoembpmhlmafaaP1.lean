import Derived.Test.YtgoembpmhlmafaaP0
namespace Go.Proofs.Ytgoembpmhlmafaa.P
open Go.RowKit Go.Proofs.YtgoembpmhlmafaaW.PrintWords Go.Proofs.YtgoembpmhlmafaaW.PrintLast Go.Proofs.YtgoembpmhlmafaaW.PrintMore
attribute [local go_sem] max2_int min2_int max_two min_two max_three min_three max_four min_four
set_option linter.unusedVariables false
set_option linter.unusedSimpArgs false
attribute [local go_sem high] eqATie
set_option maxHeartbeats 8000000 in
set_option maxRecDepth 100000 in
theorem spec_l1Less.calls (a0_0 : Int) (a0_1 : Int) (a1_0 : Int) (a1_1 : Int) (r : Bool) (w : World) (h : spec_l1Less.f a0_0 a0_1 a1_0 a1_1 = some r) :
    Calls Try.prog 69 #[.agg #[.int .i64 a0_0, .int .i64 a0_1], .agg #[.int .i64 a1_0, .int .i64 a1_1]] w fun e w' => e = .returned (.bool r) ∧ Below w.heap.size w w' := by
 have hu32 := Try.underlying32
 have HB := q0 (Below.refl w.heap.size w)
 have H : (if a0_0 < a1_0 then (some true) else (if a0_0 = a1_0 then (some (decide (a0_1 < a1_1))) else (some false))) = some r := h
 clear h
 by_cases c3 : a0_0 < a1_0
 · rw [if_pos c3] at H
   have c3b0 : decide (a0_0 < a1_0) = true := decide_eq_true c3
   clear c3
   obtain rfl := Option.some.inj H
   go_enter Try.func69, Try.ntmps69
   go_wp2_with (first | ((with_reducible refine gate_dst (N := 2) rfl ?_); refine be 2 #[.int .i64 a0_0, .int .i64 a0_1] 32 ?_; intro gb100 hg w4 hbox hb; have BK100 := q0 (hbox); have GW100 := q0 ((bs HB.out hg : w.heap.size ≤ gb100)); have GE100 := q0 ((bs HB.out hg : w.heap.size ≤ gb100)); replace HB := q0 (below_step (qb HB.out) hb); clear hb hbox hg) | ((with_reducible refine gate_dst (N := 3) rfl ?_); refine be 3 #[.int .i64 a1_0, .int .i64 a1_1] 32 ?_; intro gb101 hg w5 hbox hb; have BK101 := q0 (hbox); have GW101 := q0 ((bs HB.out hg : w.heap.size ≤ gb101)); have GE101 := q0 ((bs HB.out hg : w.heap.size ≤ gb101)); replace HB := q0 (below_step (qb HB.out) hb); have NB100_101 := q0 ((bl BK100.out hg : gb100 ≠ gb101)); have NB101_100 := q0 ((bg BK100.out hg : gb101 ≠ gb100)); replace BK100 := q0 (kb BK100.out hb); clear hb hbox hg; have hnb6 := NB100_101.out; have hnc6 := NB101_100.out; have hcz7_0 : w5.cell? ⟨gb100, 0, none⟩ = some (.int .i64 a0_0) := (blk_cell BK100.out 0).trans rfl; have hcz7_1 : w5.cell? ⟨gb100, 1, none⟩ = some (.int .i64 a0_1) := (blk_cell BK100.out 1).trans rfl; have hfz7_0 := blk_frozen BK100.out 0; have hfz7_1 := blk_frozen BK100.out 1; have hcz8_0 : w5.cell? ⟨gb101, 0, none⟩ = some (.int .i64 a1_0) := (blk_cell BK101.out 0).trans rfl; have hcz8_1 : w5.cell? ⟨gb101, 1, none⟩ = some (.int .i64 a1_1) := (blk_cell BK101.out 1).trans rfl; have hfz8_0 := blk_frozen BK101.out 0; have hfz8_1 := blk_frozen BK101.out 1))
   go_ret
   exact ⟨qe, qb HB.out⟩
 rw [if_neg c3] at H
 have c3b0 : decide (a0_0 < a1_0) = false := decide_eq_false c3
 clear c3
 by_cases c9 : a0_0 = a1_0
 rotate_left
 · rw [if_neg c9] at H
   have c9b0 : (a0_0 == a1_0) = false := beq_eq_false_iff_ne.mpr c9
   have c9b1 : (a0_0 != a1_0) = true := bne_iff_ne.mpr c9
   obtain rfl := Option.some.inj H
   go_enter Try.func69, Try.ntmps69
   go_wp2_with (first | ((with_reducible refine gate_dst (N := 2) rfl ?_); refine be 2 #[.int .i64 a0_0, .int .i64 a0_1] 32 ?_; intro gb100 hg w15 hbox hb; have BK100 := q0 (hbox); have GW100 := q0 ((bs HB.out hg : w.heap.size ≤ gb100)); have GE100 := q0 ((bs HB.out hg : w.heap.size ≤ gb100)); replace HB := q0 (below_step (qb HB.out) hb); clear hb hbox hg) | ((with_reducible refine gate_dst (N := 3) rfl ?_); refine be 3 #[.int .i64 a1_0, .int .i64 a1_1] 32 ?_; intro gb101 hg w16 hbox hb; have BK101 := q0 (hbox); have GW101 := q0 ((bs HB.out hg : w.heap.size ≤ gb101)); have GE101 := q0 ((bs HB.out hg : w.heap.size ≤ gb101)); replace HB := q0 (below_step (qb HB.out) hb); have NB100_101 := q0 ((bl BK100.out hg : gb100 ≠ gb101)); have NB101_100 := q0 ((bg BK100.out hg : gb101 ≠ gb100)); replace BK100 := q0 (kb BK100.out hb); clear hb hbox hg; have hnb17 := NB100_101.out; have hnc17 := NB101_100.out; have hcz18_0 : w16.cell? ⟨gb100, 0, none⟩ = some (.int .i64 a0_0) := (blk_cell BK100.out 0).trans rfl; have hcz18_1 : w16.cell? ⟨gb100, 1, none⟩ = some (.int .i64 a0_1) := (blk_cell BK100.out 1).trans rfl; have hfz18_0 := blk_frozen BK100.out 0; have hfz18_1 := blk_frozen BK100.out 1; have hcz19_0 : w16.cell? ⟨gb101, 0, none⟩ = some (.int .i64 a1_0) := (blk_cell BK101.out 0).trans rfl; have hcz19_1 : w16.cell? ⟨gb101, 1, none⟩ = some (.int .i64 a1_1) := (blk_cell BK101.out 1).trans rfl; have hfz19_0 := blk_frozen BK101.out 0; have hfz19_1 := blk_frozen BK101.out 1))
   go_ret
   exact ⟨qe, qb HB.out⟩
 rw [if_pos c9] at H
 have c9b0 : (a0_0 == a1_0) = true := beq_iff_eq.mpr c9
 have c9b1 : (a0_0 != a1_0) = false := bne_eq_false_iff_eq.mpr c9
 clear c9
 obtain rfl := Option.some.inj H
 go_enter Try.func69, Try.ntmps69
 go_wp2_with (first | ((with_reducible refine gate_dst (N := 2) rfl ?_); refine be 2 #[.int .i64 a0_0, .int .i64 a0_1] 32 ?_; intro gb100 hg w10 hbox hb; have BK100 := q0 (hbox); have GW100 := q0 ((bs HB.out hg : w.heap.size ≤ gb100)); have GE100 := q0 ((bs HB.out hg : w.heap.size ≤ gb100)); replace HB := q0 (below_step (qb HB.out) hb); clear hb hbox hg) | ((with_reducible refine gate_dst (N := 3) rfl ?_); refine be 3 #[.int .i64 a1_0, .int .i64 a1_1] 32 ?_; intro gb101 hg w11 hbox hb; have BK101 := q0 (hbox); have GW101 := q0 ((bs HB.out hg : w.heap.size ≤ gb101)); have GE101 := q0 ((bs HB.out hg : w.heap.size ≤ gb101)); replace HB := q0 (below_step (qb HB.out) hb); have NB100_101 := q0 ((bl BK100.out hg : gb100 ≠ gb101)); have NB101_100 := q0 ((bg BK100.out hg : gb101 ≠ gb100)); replace BK100 := q0 (kb BK100.out hb); clear hb hbox hg; have hnb12 := NB100_101.out; have hnc12 := NB101_100.out; have hcz13_0 : w11.cell? ⟨gb100, 0, none⟩ = some (.int .i64 a0_0) := (blk_cell BK100.out 0).trans rfl; have hcz13_1 : w11.cell? ⟨gb100, 1, none⟩ = some (.int .i64 a0_1) := (blk_cell BK100.out 1).trans rfl; have hfz13_0 := blk_frozen BK100.out 0; have hfz13_1 := blk_frozen BK100.out 1; have hcz14_0 : w11.cell? ⟨gb101, 0, none⟩ = some (.int .i64 a1_0) := (blk_cell BK101.out 0).trans rfl; have hcz14_1 : w11.cell? ⟨gb101, 1, none⟩ = some (.int .i64 a1_1) := (blk_cell BK101.out 1).trans rfl; have hfz14_0 := blk_frozen BK101.out 0; have hfz14_1 := blk_frozen BK101.out 1))
 go_ret
 exact ⟨qe, qb HB.out⟩

set_option maxHeartbeats 8000000 in
set_option maxRecDepth 100000 in
theorem spec_l6In.calls (a0 : Int) (a1 : Int) (a2 : Int) (r : Bool) (w : World) (h : spec_l6In.f a0 a1 a2 = some r) :
    Calls Try.prog 88 #[.int .i64 a0, .int .i64 a1, .int .i64 a2] w fun e w' => e = .returned (.bool r) ∧ Drawn0 w w' := by
 have H : (if a0 ≥ a1 then (some (decide (a0 ≤ a2))) else (some false)) = some r := h
 clear h
 by_cases c4 : a0 ≥ a1
 · rw [if_pos c4] at H
   have c4b0 : decide (a1 ≤ a0) = true := decide_eq_true c4
   clear c4
   obtain rfl := Option.some.inj H
   go_enter Try.func88, Try.ntmps88
   go_wp2
   go_ret
   exact ⟨by first | rfl | (simp; done) | (simp [*]; done), by repeat (first | exact Drawn0.refl _ | apply Drawn0.step)⟩
 rw [if_neg c4] at H
 have c4b0 : decide (a1 ≤ a0) = false := decide_eq_false c4
 clear c4
 obtain rfl := Option.some.inj H
 go_enter Try.func88, Try.ntmps88
 go_wp2
 go_ret
 exact ⟨by first | rfl | (simp; done) | (simp [*]; done), by repeat (first | exact Drawn0.refl _ | apply Drawn0.step)⟩

def spec_NetOk.T7 : Bool × List (List Nat × List Nat) := (true, [([], []), ([0], [0]), ([], []), ([2], [2]), ([3], [3]), ([1, 4], [1, 4]), ([5], [5]), ([6, 5], [6]), ([7], [7]), ([8, 7], [7, 8]), ([7], [7]), ([10, 7], [7, 10]), ([11, 7], [7, 11]), ([7], [7]), ([13, 7], [7, 13]), ([14, 7], [7, 14]), ([9, 12, 15, 7, 7], [7, 9, 12, 15]), ([16, 7], [7, 16]), ([7, 17], [7, 17]), ([18, 16], [18]), ([19], [19]), ([20, 19], [19, 20]), ([21, 19, 19], [19, 21]), ([22], [22]), ([23, 22], [22, 23]), ([22], [22]), ([25, 22], [22, 25]), ([24, 26, 22], [22, 24, 26]), ([27, 22], [22, 27]), ([22], [22]), ([28, 29, 22, 22], [22, 28, 29]), ([30, 22], [22, 30]), ([22, 31, 19], [19, 22, 31]), ([19, 32], [19, 32])])
def spec_NetOk.B7 : List Nat := [0, 1, 0, 4, 12, 31, 63, 127, 255, 511, 255, 1279, 3327, 255, 8447, 24831, 65535, 131071, 262143, 524287, 1048575, 2097151, 4194303, 8388607, 16777215, 8388607, 41943039, 134217727, 268435455, 8388607, 1073741823, 2147483647, 4294967295, 8589934591]
theorem spec_NetOk.tab7 : rtab .any (opsOf Try.f49 7) = spec_NetOk.T7 := by kernel_rfl
theorem spec_NetOk.bits7 : waitsOk spec_NetOk.T7.2 spec_NetOk.B7 = true := by kernel_rfl
set_option maxHeartbeats 8000000 in
set_option maxRecDepth 100000 in
theorem spec_NetOk.calls (k : Nat) (a0_0 : Int) (A0_1 : Option Addr) (c0_1 : Nat) (l0_1 : List (STie)) (r : Bool) (w : World) (hr0_1 : Kd.C kTie w A0_1 l0_1.length l0_1) (hc0_1 : l0_1.length ≤ c0_1) (h : spec_NetOk.f k a0_0 l0_1 = some r) :
    Calls Try.prog 49 #[.agg #[.int .i64 a0_0, .slice A0_1 l0_1.length c0_1]] w fun e w' => e = .returned (.bool r) ∧ Below w.heap.size w w' := by
 have hu25 := Try.underlying25
 have hu32 := Try.underlying32
 have HR0_1 := Aside0.mk hr0_1
 have HC0_1 := Aside0.mk hc0_1
 clear hr0_1 hc0_1
 have HB := q0 (Below.refl w.heap.size w)
 have H : ((spec_l6In.f a0_0 0 8).bind fun t100 => (if t100 = true then (spec_NetOk.j0 k (decide ((l0_1.length : Int) > 64)) a0_0 l0_1) else (spec_NetOk.j0 k true a0_0 l0_1))) = some r := h
 clear h
 have HC2 := Aside0.mk H
 clear H
 go_enter Try.func49, Try.ntmps49
 go_upto_region 1 with (first | ((with_reducible refine gate_dst (N := 1) rfl ?_); (try (refine gate_guard (by rfl) ?_; dsimp only)); refine be 1 #[.int .i64 a0_0, .slice A0_1 l0_1.length c0_1] 25 ?_; intro gb104 hg w3 hbox hb; have BK104 := q0 (hbox); have GW104 := q0 ((bs HB.out hg : w.heap.size ≤ gb104)); have GE104 := q0 ((bs HB.out hg : w.heap.size ≤ gb104)); replace HB := q0 (below_step (qb HB.out) hb); clear hb hbox hg))
 (try simp only [Act.put, List.setIfInBounds_toArray, List.set_cons_zero, List.set_cons_succ])
 go_cut [14] (fun v14 wc => ∃ (kq : Nat) (x14_1 : Bool), v14 = .bool x14_1 ∧ Aside0 (spec_NetOk.j0 kq x14_1 a0_0 l0_1 = some r) ∧ Aside0 (kq ≤ k) ∧ Aside0 (wc.heap[gb104]? = some (.cells #[.int .i64 a0_0, (.slice A0_1 l0_1.length c0_1)] 25 (0, 0))) ∧ Aside0 (Below w.heap.size w wc))
 case first =>
   have H := HC2.out
   clear HC2
   replace H := Option.bind_eq_some_iff.mp H
   obtain ⟨t100, A40, H⟩ := H
   have A4 := Aside0.mk A40
   clear A40
   by_cases c5 : t100 = true
   · subst c5
     rw [if_pos rfl] at H
     have H' := Aside0.mk H
     clear H
     have hcz6_0 : w3.cell? ⟨gb104, 0, none⟩ = some (.int .i64 a0_0) := (blk_cell BK104.out 0).trans rfl
     have hcz6_1 : w3.cell? ⟨gb104, 1, none⟩ = some (.slice A0_1 l0_1.length c0_1) := (blk_cell BK104.out 1).trans rfl
     have hfz6_0 := blk_frozen BK104.out 0
     have hfz6_1 := blk_frozen BK104.out 1
     go_wp2_with (first | ((with_reducible refine gate_callee (f := 88) rfl ?_); refine gl 7 Try.func88 #[.int .i64 a0_0, .int .i64 0, .int .i64 8] ?_; (with_reducible refine (spec_l6In.calls a0_0 0 8 true _ A4.out).mono ?_); rintro e w' ⟨rfl, ⟨nd, rfl⟩⟩; refine ⟨_, rfl, ?_⟩))
     go_meet
     case rel => exact ⟨_, (decide ((l0_1.length : Int) > 64)), qs, H', ⟨by first | omega | exact Nat.le_refl _⟩, ⟨qk BK104.out⟩, ⟨qb HB.out⟩⟩
   replace c5 := Bool.eq_false_iff.mpr c5
   subst c5
   rw [if_neg nf] at H
   have H' := Aside0.mk H
   clear H
   have hcz7_0 : w3.cell? ⟨gb104, 0, none⟩ = some (.int .i64 a0_0) := (blk_cell BK104.out 0).trans rfl
   have hcz7_1 : w3.cell? ⟨gb104, 1, none⟩ = some (.slice A0_1 l0_1.length c0_1) := (blk_cell BK104.out 1).trans rfl
   have hfz7_0 := blk_frozen BK104.out 0
   have hfz7_1 := blk_frozen BK104.out 1
   go_wp2_with (first | ((with_reducible refine gate_callee (f := 88) rfl ?_); refine gl 7 Try.func88 #[.int .i64 a0_0, .int .i64 0, .int .i64 8] ?_; (with_reducible refine (spec_l6In.calls a0_0 0 8 false _ A4.out).mono ?_); rintro e w' ⟨rfl, ⟨nd, rfl⟩⟩; refine ⟨_, rfl, ?_⟩))
   go_meet
   case rel => exact ⟨_, (true), qs, H', ⟨by first | omega | exact Nat.le_refl _⟩, ⟨qk BK104.out⟩, ⟨qb HB.out⟩⟩
 clear HC2
 try clear p2
 try clear c4
 try clear c5
 try clear hcz6_0
 try clear hcz6_1
 try clear hcz7_0
 try clear hcz7_1
 try clear hfz6_0
 try clear hfz6_1
 try clear hfz7_0
 try clear hfz7_1
 obtain ⟨kq, x14_1, rfl, HA, HJ1, BK104, HB⟩ := hcut
 rcases kq with _ | kj1
 · exact absurd HA.out (by simp [spec_NetOk.j0])
 have H := HA.out
 clear HA
 simp only [spec_NetOk.j0] at H
 by_cases c8 : x14_1 = true
 · subst c8
   rw [if_pos rfl] at H
   obtain rfl := Option.some.inj H
   go_wp2
   go_ret
   exact ⟨qe, qb HB.out⟩
 replace c8 := Bool.eq_false_iff.mpr c8
 subst c8
 rw [if_neg nf] at H
 have H' := Aside0.mk H
 clear H
 go_wp2
 go_loopg [3] kj1 (fun kq v3 w' => ∃ (x3_2 : Int), v3 = .int .i64 x3_2 ∧ Aside0 (spec_NetOk.l0 kq x3_2 a0_0 l0_1 = some r) ∧ Aside0 (kq ≤ kj1) ∧ Aside0 (w'.heap[gb104]? = some (.cells #[.int .i64 a0_0, (.slice A0_1 l0_1.length c0_1)] 25 (0, 0))) ∧ Aside0 (Below w.heap.size w w'))
 case atStart => exact ⟨(0), qs, H', ⟨Nat.le_refl _⟩, ⟨qk BK104.out⟩, ⟨qb HB.out⟩⟩
 clear H'
 try clear p2
 try clear c4
 try clear c5
 try clear c8
 try clear hcz6_0
 try clear hcz6_1
 try clear hcz7_0
 try clear hcz7_1
 try clear hfz6_0
 try clear hfz6_1
 try clear hfz7_0
 try clear hfz7_1
 try clear p2
 obtain ⟨x3_2, rfl, HA, HK2, BK104, HB⟩ := hrel
 rcases gk with _ | k2
 · exact absurd HA.out (by simp [spec_NetOk.l0])
 have H := HA.out
 clear HA
 simp only [spec_NetOk.l0] at H
 by_cases c9 : x3_2 < (l0_1.length : Int)
 rotate_left
 · rw [if_neg c9] at H
   have c9b0 : decide (x3_2 < (l0_1.length : Int)) = false := decide_eq_false c9
   clear c9
   obtain rfl := Option.some.inj H
   have hcz53_0 : wr.cell? ⟨gb104, 0, none⟩ = some (.int .i64 a0_0) := (blk_cell BK104.out 0).trans rfl
   have hcz53_1 : wr.cell? ⟨gb104, 1, none⟩ = some (.slice A0_1 l0_1.length c0_1) := (blk_cell BK104.out 1).trans rfl
   have hfz53_0 := blk_frozen BK104.out 0
   have hfz53_1 := blk_frozen BK104.out 1
   go_wp2
   go_ret
   exact ⟨qe, qb HB.out⟩
 rw [if_pos c9] at H
 have c9b0 : decide (x3_2 < (l0_1.length : Int)) = true := decide_eq_true c9
 clear c9
 by_cases c10 : 0 ≤ x3_2
 rotate_left
 · rw [if_neg c10] at H
   exact absurd H (by simp)
 rw [if_pos c10] at H
 have c10b0 : decide (0 ≤ x3_2) = true := decide_eq_true c10
 clear c10
 replace H := Option.bind_eq_some_iff.mp H
 obtain ⟨t101, A101, H⟩ := H
 have A11 := Aside0.mk A101
 clear A101
 by_cases c12 : t101 = true
 rotate_left
 · replace c12 := Bool.eq_false_iff.mpr c12
   subst c12
   rw [if_neg nf] at H
   obtain rfl := Option.some.inj H
   have hcz47_0 : wr.cell? ⟨gb104, 0, none⟩ = some (.int .i64 a0_0) := (blk_cell BK104.out 0).trans rfl
   have hcz47_1 : wr.cell? ⟨gb104, 1, none⟩ = some (.slice A0_1 l0_1.length c0_1) := (blk_cell BK104.out 1).trans rfl
   have hfz47_0 := blk_frozen BK104.out 0
   have hfz47_1 := blk_frozen BK104.out 1
   have p107 : 0 ≤ (x3_2 : Int) := of_decide_eq_true qa
   have q107 : x3_2 < (l0_1.length : Int) := of_decide_eq_true qa
   obtain ⟨ad107, e107, hx107_0, hx107_1⟩ := at_TTie HR0_1.out x3_2 p107 q107
   cases e107
   replace hx107_0 := (HB.out.cell (World.block_lt_of_cell? w _ hx107_0)).trans hx107_0
   replace hx107_1 := (HB.out.cell (World.block_lt_of_cell? w _ hx107_1)).trans hx107_1
   replace p107 := eq_true p107
   replace q107 := eq_true q107
   try go_wp2_with (first | ((with_reducible refine gate_dst (N := 4) rfl ?_); (try (refine gate_guard (by rfl) ?_; dsimp only)); refine be 4 #[.int .i64 0, .int .i64 0] 32 ?_; intro gb108 hg w48 hbox hb; have BK108 := q0 (hbox); have GW108 := q0 ((bs HB.out hg : w.heap.size ≤ gb108)); have GE108 := q0 ((bs HB.out hg : w.heap.size ≤ gb108)); replace HB := q0 (below_step (qb HB.out) hb); have NB104_108 := q0 ((bl BK104.out hg : gb104 ≠ gb108)); have NB108_104 := q0 ((bg BK104.out hg : gb108 ≠ gb104)); replace BK104 := q0 (kb BK104.out hb); clear hb hbox hg; have hnb49 := NB108_104.out; have hnc49 := NB104_108.out; have hcz50_0 : w48.cell? ⟨gb108, 0, none⟩ = some (.int .i64 0) := (blk_cell BK108.out 0).trans rfl; have hcz50_1 : w48.cell? ⟨gb108, 1, none⟩ = some (.int .i64 0) := (blk_cell BK108.out 1).trans rfl; have hfz50_0 := blk_frozen BK108.out 0; have hfz50_1 := blk_frozen BK108.out 1))
   have n0_ : Aside0 (((w48.setCell ⟨gb108, 0, none⟩ (.int .i64 ((rd_TTie l0_1 x3_2).f0))).setCell ⟨gb108, 1, none⟩ (.int .i64 ((rd_TTie l0_1 x3_2).f1))).heap[gb104]? = some (.cells #[.int .i64 a0_0, .slice (some ad107) l0_1.length c0_1] 25 (0, 0))) := ⟨qf BK104.out⟩
   have n1_ : Aside0 (((w48.setCell ⟨gb108, 0, none⟩ (.int .i64 ((rd_TTie l0_1 x3_2).f0))).setCell ⟨gb108, 1, none⟩ (.int .i64 ((rd_TTie l0_1 x3_2).f1))).heap[gb108]? = some (.cells #[.int .i64 ((rd_TTie l0_1 x3_2).f0), .int .i64 ((rd_TTie l0_1 x3_2).f1)] 32 (0, 0))) := ⟨by (with_reducible repeat (first | refine blk_drewN ?_ _ | refine blk_drew ?_ | refine blk_alloc ?_ _)); refine blk_put (cs := #[.int .i64 ((rd_TTie l0_1 x3_2).f0), .int .i64 0]) ?_ 1 _ rfl; (with_reducible repeat (first | refine blk_drewN ?_ _ | refine blk_drew ?_ | refine blk_alloc ?_ _)); refine blk_put (cs := #[.int .i64 0, .int .i64 0]) ?_ 0 _ rfl; (with_reducible repeat (first | refine blk_drewN ?_ _ | refine blk_drew ?_ | refine blk_alloc ?_ _)); exact BK108.out⟩
   have n2_ : Aside0 (Below w.heap.size w ((w48.setCell ⟨gb108, 0, none⟩ (.int .i64 ((rd_TTie l0_1 x3_2).f0))).setCell ⟨gb108, 1, none⟩ (.int .i64 ((rd_TTie l0_1 x3_2).f1)))) := ⟨qb HB.out⟩
   (try clear BK104)
   (try clear BK108)
   (try clear HB)
   generalize ((w48.setCell ⟨gb108, 0, none⟩ (.int .i64 ((rd_TTie l0_1 x3_2).f0))).setCell ⟨gb108, 1, none⟩ (.int .i64 ((rd_TTie l0_1 x3_2).f1))) = w51 at n0_ n1_ n2_ ⊢
   have BK104 := n0_
   have BK108 := n1_
   have HB := n2_
   clear n0_ n1_ n2_
   replace BK104 := q0 (blk_drew BK104.out)
   replace BK108 := q0 (blk_drew BK108.out)
   replace HB := q0 (below_drew1 HB.out)
   refine start_ (n := 34) (S := fun w' => w'.cell? ⟨gb108, 0, none⟩ = some (.int .i64 ((rd_TTie l0_1 x3_2).f0)) ∧ w'.cell? ⟨gb108, 1, none⟩ = some (.int .i64 ((rd_TTie l0_1 x3_2).f1)) ∧ w'.cell? ⟨gb104, 0, none⟩ = some (.int .i64 a0_0) ∧ w'.cell? ⟨gb104, 1, none⟩ = some (.slice (some ad107) l0_1.length c0_1)) (ds := []) (ba 34 0) (by kernel_rfl) rfl (by kernel_rfl) ⟨(blk_cell BK108.out 0).trans rfl, (blk_cell BK108.out 1).trans rfl, (blk_cell BK104.out 0).trans rfl, (blk_cell BK104.out 1).trans rfl⟩ (fun hHeld => ?_); refine with_tabW spec_NetOk.tab7 spec_NetOk.bits7 (fun HT_ HW_ => ?_)
   generalize w51.drew = w52 at BK104 BK108 HB hHeld ⊢
   refine pu 0 (some 27) (ba 34 1) HT_.out ?_
   refine pu 2 (some 29) (ba 34 5) HT_.out ?_
   refine tu 1 (some 28) (ba 34 7) HT_.out HW_.out hHeld ?_
   refine tu 3 (some 30) (ba 34 15) HT_.out HW_.out hHeld ?_
   refine pu 4 (some 31) (ba 34 31) HT_.out ?_
   refine one_ (i := 5) (N := some 32) (ba 34 63) rfl rfl (one_of HT_.out (by kernel_rfl)) (by decide) (fun K hK => ?_)
   refine goes_ Try.func88 (by kernel_rfl) rfl #[.int .i64 ((rd_TTie l0_1 x3_2).f0), .int .i64 0, .int .i64 (wrap64 (a0_0 - 1))] (by rfl) rfl rfl qm ?_
   with_reducible refine (spec_l6In.calls ((rd_TTie l0_1 x3_2).f0) 0 (wrap64 (a0_0 - 1)) false _ A11.out).mono ?_
   rintro e w' ⟨rfl, ⟨nd, rfl⟩⟩
   refine ⟨_, rfl, ?_⟩
   refine hK.out _ _ ⟨(blk_cell BK108.out 0).trans rfl, (blk_cell BK108.out 1).trans rfl, (blk_cell BK104.out 0).trans rfl, (blk_cell BK104.out 1).trans rfl⟩ (fun hHeld => ?_)
   clear hK K
   refine nu 32 ?_
   refine pu 6 (some 33) (ba 34 127) HT_.out ?_
   refine pu 7 (some 34) (ba 34 255) HT_.out ?_
   refine pv 8 (some 35) (ba 34 511) HT_.out ?_
   refine pv 9 (some 36) (ba 34 1023) HT_.out ?_
   refine pv 10 (some 37) (ba 34 2047) HT_.out ?_
   refine pv 11 (some 38) (ba 34 4095) HT_.out ?_
   refine pv 12 (some 39) (ba 34 8191) HT_.out ?_
   refine pv 13 (some 40) (ba 34 16383) HT_.out ?_
   refine pv 14 (some 41) (ba 34 32767) HT_.out ?_
   refine pv 15 (some 42) (ba 34 65535) HT_.out ?_
   refine pv 16 (some 43) (ba 34 131071) HT_.out ?_
   refine pv 17 (some 44) (ba 34 262143) HT_.out ?_
   refine pu 18 (some 45) (ba 34 524287) HT_.out ?_
   refine pu 19 (some 46) (ba 34 1048575) HT_.out ?_
   refine pv 20 (some 47) (ba 34 2097151) HT_.out ?_
   refine pv 21 (some 48) (ba 34 4194303) HT_.out ?_
   refine pv 22 (some 49) (ba 34 8388607) HT_.out ?_
   refine pv 23 (some 50) (ba 34 16777215) HT_.out ?_
   refine pv 24 (some 51) (ba 34 33554431) HT_.out ?_
   refine pv 25 (some 52) (ba 34 67108863) HT_.out ?_
   refine pv 26 (some 53) (ba 34 134217727) HT_.out ?_
   refine pv 27 (some 54) (ba 34 268435455) HT_.out ?_
   refine pv 28 (some 55) (ba 34 536870911) HT_.out ?_
   refine pv 29 (some 56) (ba 34 1073741823) HT_.out ?_
   refine pv 30 (some 57) (ba 34 2147483647) HT_.out ?_
   refine pv 31 (some 58) (ba 34 4294967295) HT_.out ?_
   refine pv 32 (some 59) (ba 34 8589934591) HT_.out ?_
   refine pu 33 (some 60) (ba 34 17179869183) HT_.out ?_
   refine done_ (done_of HT_.out (by kernel_rfl)) ?_
   try go_wp2
   go_ret
   exact ⟨qe, qb HB.out⟩
 subst c12
 rw [if_pos rfl] at H
 replace H := Option.bind_eq_some_iff.mp H
 obtain ⟨t102, A105, H⟩ := H
 have A13 := Aside0.mk A105
 clear A105
 by_cases c14 : t102 = true
 rotate_left
 · replace c14 := Bool.eq_false_iff.mpr c14
   subst c14
   rw [if_neg nf] at H
   obtain rfl := Option.some.inj H
   have hcz41_0 : wr.cell? ⟨gb104, 0, none⟩ = some (.int .i64 a0_0) := (blk_cell BK104.out 0).trans rfl
   have hcz41_1 : wr.cell? ⟨gb104, 1, none⟩ = some (.slice A0_1 l0_1.length c0_1) := (blk_cell BK104.out 1).trans rfl
   have hfz41_0 := blk_frozen BK104.out 0
   have hfz41_1 := blk_frozen BK104.out 1
   have p107 : 0 ≤ (x3_2 : Int) := of_decide_eq_true qa
   have q107 : x3_2 < (l0_1.length : Int) := of_decide_eq_true qa
   obtain ⟨ad107, e107, hx107_0, hx107_1⟩ := at_TTie HR0_1.out x3_2 p107 q107
   cases e107
   replace hx107_0 := (HB.out.cell (World.block_lt_of_cell? w _ hx107_0)).trans hx107_0
   replace hx107_1 := (HB.out.cell (World.block_lt_of_cell? w _ hx107_1)).trans hx107_1
   replace p107 := eq_true p107
   replace q107 := eq_true q107
   try go_wp2_with (first | ((with_reducible refine gate_dst (N := 4) rfl ?_); (try (refine gate_guard (by rfl) ?_; dsimp only)); refine be 4 #[.int .i64 0, .int .i64 0] 32 ?_; intro gb108 hg w42 hbox hb; have BK108 := q0 (hbox); have GW108 := q0 ((bs HB.out hg : w.heap.size ≤ gb108)); have GE108 := q0 ((bs HB.out hg : w.heap.size ≤ gb108)); replace HB := q0 (below_step (qb HB.out) hb); have NB104_108 := q0 ((bl BK104.out hg : gb104 ≠ gb108)); have NB108_104 := q0 ((bg BK104.out hg : gb108 ≠ gb104)); replace BK104 := q0 (kb BK104.out hb); clear hb hbox hg; have hnb43 := NB108_104.out; have hnc43 := NB104_108.out; have hcz44_0 : w42.cell? ⟨gb108, 0, none⟩ = some (.int .i64 0) := (blk_cell BK108.out 0).trans rfl; have hcz44_1 : w42.cell? ⟨gb108, 1, none⟩ = some (.int .i64 0) := (blk_cell BK108.out 1).trans rfl; have hfz44_0 := blk_frozen BK108.out 0; have hfz44_1 := blk_frozen BK108.out 1))
   have n0_ : Aside0 (((w42.setCell ⟨gb108, 0, none⟩ (.int .i64 ((rd_TTie l0_1 x3_2).f0))).setCell ⟨gb108, 1, none⟩ (.int .i64 ((rd_TTie l0_1 x3_2).f1))).heap[gb104]? = some (.cells #[.int .i64 a0_0, .slice (some ad107) l0_1.length c0_1] 25 (0, 0))) := ⟨qf BK104.out⟩
   have n1_ : Aside0 (((w42.setCell ⟨gb108, 0, none⟩ (.int .i64 ((rd_TTie l0_1 x3_2).f0))).setCell ⟨gb108, 1, none⟩ (.int .i64 ((rd_TTie l0_1 x3_2).f1))).heap[gb108]? = some (.cells #[.int .i64 ((rd_TTie l0_1 x3_2).f0), .int .i64 ((rd_TTie l0_1 x3_2).f1)] 32 (0, 0))) := ⟨by (with_reducible repeat (first | refine blk_drewN ?_ _ | refine blk_drew ?_ | refine blk_alloc ?_ _)); refine blk_put (cs := #[.int .i64 ((rd_TTie l0_1 x3_2).f0), .int .i64 0]) ?_ 1 _ rfl; (with_reducible repeat (first | refine blk_drewN ?_ _ | refine blk_drew ?_ | refine blk_alloc ?_ _)); refine blk_put (cs := #[.int .i64 0, .int .i64 0]) ?_ 0 _ rfl; (with_reducible repeat (first | refine blk_drewN ?_ _ | refine blk_drew ?_ | refine blk_alloc ?_ _)); exact BK108.out⟩
   have n2_ : Aside0 (Below w.heap.size w ((w42.setCell ⟨gb108, 0, none⟩ (.int .i64 ((rd_TTie l0_1 x3_2).f0))).setCell ⟨gb108, 1, none⟩ (.int .i64 ((rd_TTie l0_1 x3_2).f1)))) := ⟨qb HB.out⟩
   (try clear BK104)
   (try clear BK108)
   (try clear HB)
   generalize ((w42.setCell ⟨gb108, 0, none⟩ (.int .i64 ((rd_TTie l0_1 x3_2).f0))).setCell ⟨gb108, 1, none⟩ (.int .i64 ((rd_TTie l0_1 x3_2).f1))) = w45 at n0_ n1_ n2_ ⊢
   have BK104 := n0_
   have BK108 := n1_
   have HB := n2_
   clear n0_ n1_ n2_
   replace BK104 := q0 (blk_drew BK104.out)
   replace BK108 := q0 (blk_drew BK108.out)
   replace HB := q0 (below_drew1 HB.out)
   refine start_ (n := 34) (S := fun w' => w'.cell? ⟨gb108, 0, none⟩ = some (.int .i64 ((rd_TTie l0_1 x3_2).f0)) ∧ w'.cell? ⟨gb108, 1, none⟩ = some (.int .i64 ((rd_TTie l0_1 x3_2).f1)) ∧ w'.cell? ⟨gb104, 0, none⟩ = some (.int .i64 a0_0) ∧ w'.cell? ⟨gb104, 1, none⟩ = some (.slice (some ad107) l0_1.length c0_1)) (ds := []) (ba 34 0) (by kernel_rfl) rfl (by kernel_rfl) ⟨(blk_cell BK108.out 0).trans rfl, (blk_cell BK108.out 1).trans rfl, (blk_cell BK104.out 0).trans rfl, (blk_cell BK104.out 1).trans rfl⟩ (fun hHeld => ?_); refine with_tabW spec_NetOk.tab7 spec_NetOk.bits7 (fun HT_ HW_ => ?_)
   generalize w45.drew = w46 at BK104 BK108 HB hHeld ⊢
   refine pu 0 (some 27) (ba 34 1) HT_.out ?_
   refine pu 2 (some 29) (ba 34 5) HT_.out ?_
   refine tu 1 (some 28) (ba 34 7) HT_.out HW_.out hHeld ?_
   refine tu 3 (some 30) (ba 34 15) HT_.out HW_.out hHeld ?_
   refine pu 4 (some 31) (ba 34 31) HT_.out ?_
   refine one_ (i := 5) (N := some 32) (ba 34 63) rfl rfl (one_of HT_.out (by kernel_rfl)) (by decide) (fun K hK => ?_)
   refine goes_ Try.func88 (by kernel_rfl) rfl #[.int .i64 ((rd_TTie l0_1 x3_2).f0), .int .i64 0, .int .i64 (wrap64 (a0_0 - 1))] (by rfl) rfl rfl qm ?_
   with_reducible refine (spec_l6In.calls ((rd_TTie l0_1 x3_2).f0) 0 (wrap64 (a0_0 - 1)) true _ A11.out).mono ?_
   rintro e w' ⟨rfl, ⟨nd, rfl⟩⟩
   refine ⟨_, rfl, ?_⟩
   refine hK.out _ _ ⟨(blk_cell BK108.out 0).trans rfl, (blk_cell BK108.out 1).trans rfl, (blk_cell BK104.out 0).trans rfl, (blk_cell BK104.out 1).trans rfl⟩ (fun hHeld => ?_)
   clear hK K
   refine nu 32 ?_
   refine pu 6 (some 33) (ba 34 127) HT_.out ?_
   refine pu 7 (some 34) (ba 34 255) HT_.out ?_
   refine pu 8 (some 35) (ba 34 511) HT_.out ?_
   refine pu 10 (some 37) (ba 34 1535) HT_.out ?_
   refine pu 13 (some 40) (ba 34 9727) HT_.out ?_
   refine tu 9 (some 36) (ba 34 10239) HT_.out HW_.out hHeld ?_
   refine tu 11 (some 38) (ba 34 12287) HT_.out HW_.out hHeld ?_
   refine pu 12 (some 39) (ba 34 16383) HT_.out ?_
   refine tu 14 (some 41) (ba 34 32767) HT_.out HW_.out hHeld ?_
   refine pu 15 (some 42) (ba 34 65535) HT_.out ?_
   refine one_ (i := 16) (N := some 43) (ba 34 131071) rfl rfl (one_of HT_.out (by kernel_rfl)) (by decide) (fun K hK => ?_)
   refine goes_ Try.func88 (by kernel_rfl) rfl #[.int .i64 ((rd_TTie l0_1 x3_2).f1), .int .i64 (wrap64 (((rd_TTie l0_1 x3_2).f0) + 1)), .int .i64 (wrap64 (a0_0 - 1))] (by rfl) rfl rfl qm ?_
   with_reducible refine (spec_l6In.calls ((rd_TTie l0_1 x3_2).f1) (wrap64 (((rd_TTie l0_1 x3_2).f0) + 1)) (wrap64 (a0_0 - 1)) false _ A13.out).mono ?_
   rintro e w' ⟨rfl, ⟨nd, rfl⟩⟩
   refine ⟨_, rfl, ?_⟩
   refine hK.out _ _ ⟨(blk_cell BK108.out 0).trans rfl, (blk_cell BK108.out 1).trans rfl, (blk_cell BK104.out 0).trans rfl, (blk_cell BK104.out 1).trans rfl⟩ (fun hHeld => ?_)
   clear hK K
   refine nu 43 ?_
   refine pu 17 (some 44) (ba 34 262143) HT_.out ?_
   refine pu 18 (some 45) (ba 34 524287) HT_.out ?_
   refine pu 19 (some 46) (ba 34 1048575) HT_.out ?_
   refine pv 20 (some 47) (ba 34 2097151) HT_.out ?_
   refine pv 21 (some 48) (ba 34 4194303) HT_.out ?_
   refine pv 22 (some 49) (ba 34 8388607) HT_.out ?_
   refine pv 23 (some 50) (ba 34 16777215) HT_.out ?_
   refine pv 24 (some 51) (ba 34 33554431) HT_.out ?_
   refine pv 25 (some 52) (ba 34 67108863) HT_.out ?_
   refine pv 26 (some 53) (ba 34 134217727) HT_.out ?_
   refine pv 27 (some 54) (ba 34 268435455) HT_.out ?_
   refine pv 28 (some 55) (ba 34 536870911) HT_.out ?_
   refine pv 29 (some 56) (ba 34 1073741823) HT_.out ?_
   refine pv 30 (some 57) (ba 34 2147483647) HT_.out ?_
   refine pv 31 (some 58) (ba 34 4294967295) HT_.out ?_
   refine pv 32 (some 59) (ba 34 8589934591) HT_.out ?_
   refine pu 33 (some 60) (ba 34 17179869183) HT_.out ?_
   refine done_ (done_of HT_.out (by kernel_rfl)) ?_
   try go_wp2
   go_ret
   exact ⟨qe, qb HB.out⟩
 subst c14
 rw [if_pos rfl] at H
 by_cases c15 : x3_2 > 0
 rotate_left
 · rw [if_neg c15] at H
   have c15b0 : decide (0 < x3_2) = false := decide_eq_false c15
   clear c15
   have H' := Aside0.mk H
   clear H
   have hcz35_0 : wr.cell? ⟨gb104, 0, none⟩ = some (.int .i64 a0_0) := (blk_cell BK104.out 0).trans rfl
   have hcz35_1 : wr.cell? ⟨gb104, 1, none⟩ = some (.slice A0_1 l0_1.length c0_1) := (blk_cell BK104.out 1).trans rfl
   have hfz35_0 := blk_frozen BK104.out 0
   have hfz35_1 := blk_frozen BK104.out 1
   have p107 : 0 ≤ (x3_2 : Int) := of_decide_eq_true qa
   have q107 : x3_2 < (l0_1.length : Int) := of_decide_eq_true qa
   obtain ⟨ad107, e107, hx107_0, hx107_1⟩ := at_TTie HR0_1.out x3_2 p107 q107
   cases e107
   replace hx107_0 := (HB.out.cell (World.block_lt_of_cell? w _ hx107_0)).trans hx107_0
   replace hx107_1 := (HB.out.cell (World.block_lt_of_cell? w _ hx107_1)).trans hx107_1
   replace p107 := eq_true p107
   replace q107 := eq_true q107
   try go_wp2_with (first | ((with_reducible refine gate_dst (N := 4) rfl ?_); (try (refine gate_guard (by rfl) ?_; dsimp only)); refine be 4 #[.int .i64 0, .int .i64 0] 32 ?_; intro gb108 hg w36 hbox hb; have BK108 := q0 (hbox); have GW108 := q0 ((bs HB.out hg : w.heap.size ≤ gb108)); have GE108 := q0 ((bs HB.out hg : w.heap.size ≤ gb108)); replace HB := q0 (below_step (qb HB.out) hb); have NB104_108 := q0 ((bl BK104.out hg : gb104 ≠ gb108)); have NB108_104 := q0 ((bg BK104.out hg : gb108 ≠ gb104)); replace BK104 := q0 (kb BK104.out hb); clear hb hbox hg; have hnb37 := NB108_104.out; have hnc37 := NB104_108.out; have hcz38_0 : w36.cell? ⟨gb108, 0, none⟩ = some (.int .i64 0) := (blk_cell BK108.out 0).trans rfl; have hcz38_1 : w36.cell? ⟨gb108, 1, none⟩ = some (.int .i64 0) := (blk_cell BK108.out 1).trans rfl; have hfz38_0 := blk_frozen BK108.out 0; have hfz38_1 := blk_frozen BK108.out 1))
   have n0_ : Aside0 (((w36.setCell ⟨gb108, 0, none⟩ (.int .i64 ((rd_TTie l0_1 x3_2).f0))).setCell ⟨gb108, 1, none⟩ (.int .i64 ((rd_TTie l0_1 x3_2).f1))).heap[gb104]? = some (.cells #[.int .i64 a0_0, .slice (some ad107) l0_1.length c0_1] 25 (0, 0))) := ⟨qf BK104.out⟩
   have n1_ : Aside0 (((w36.setCell ⟨gb108, 0, none⟩ (.int .i64 ((rd_TTie l0_1 x3_2).f0))).setCell ⟨gb108, 1, none⟩ (.int .i64 ((rd_TTie l0_1 x3_2).f1))).heap[gb108]? = some (.cells #[.int .i64 ((rd_TTie l0_1 x3_2).f0), .int .i64 ((rd_TTie l0_1 x3_2).f1)] 32 (0, 0))) := ⟨by (with_reducible repeat (first | refine blk_drewN ?_ _ | refine blk_drew ?_ | refine blk_alloc ?_ _)); refine blk_put (cs := #[.int .i64 ((rd_TTie l0_1 x3_2).f0), .int .i64 0]) ?_ 1 _ rfl; (with_reducible repeat (first | refine blk_drewN ?_ _ | refine blk_drew ?_ | refine blk_alloc ?_ _)); refine blk_put (cs := #[.int .i64 0, .int .i64 0]) ?_ 0 _ rfl; (with_reducible repeat (first | refine blk_drewN ?_ _ | refine blk_drew ?_ | refine blk_alloc ?_ _)); exact BK108.out⟩
   have n2_ : Aside0 (Below w.heap.size w ((w36.setCell ⟨gb108, 0, none⟩ (.int .i64 ((rd_TTie l0_1 x3_2).f0))).setCell ⟨gb108, 1, none⟩ (.int .i64 ((rd_TTie l0_1 x3_2).f1)))) := ⟨qb HB.out⟩
   (try clear BK104)
   (try clear BK108)
   (try clear HB)
   generalize ((w36.setCell ⟨gb108, 0, none⟩ (.int .i64 ((rd_TTie l0_1 x3_2).f0))).setCell ⟨gb108, 1, none⟩ (.int .i64 ((rd_TTie l0_1 x3_2).f1))) = w39 at n0_ n1_ n2_ ⊢
   have BK104 := n0_
   have BK108 := n1_
   have HB := n2_
   clear n0_ n1_ n2_
   replace BK104 := q0 (blk_drew BK104.out)
   replace BK108 := q0 (blk_drew BK108.out)
   replace HB := q0 (below_drew1 HB.out)
   refine start_ (n := 34) (S := fun w' => w'.cell? ⟨gb108, 0, none⟩ = some (.int .i64 ((rd_TTie l0_1 x3_2).f0)) ∧ w'.cell? ⟨gb108, 1, none⟩ = some (.int .i64 ((rd_TTie l0_1 x3_2).f1)) ∧ w'.cell? ⟨gb104, 0, none⟩ = some (.int .i64 a0_0) ∧ w'.cell? ⟨gb104, 1, none⟩ = some (.slice (some ad107) l0_1.length c0_1)) (ds := []) (ba 34 0) (by kernel_rfl) rfl (by kernel_rfl) ⟨(blk_cell BK108.out 0).trans rfl, (blk_cell BK108.out 1).trans rfl, (blk_cell BK104.out 0).trans rfl, (blk_cell BK104.out 1).trans rfl⟩ (fun hHeld => ?_); refine with_tabW spec_NetOk.tab7 spec_NetOk.bits7 (fun HT_ HW_ => ?_)
   generalize w39.drew = w40 at BK104 BK108 HB hHeld ⊢
   refine pu 0 (some 27) (ba 34 1) HT_.out ?_
   refine pu 2 (some 29) (ba 34 5) HT_.out ?_
   refine tu 1 (some 28) (ba 34 7) HT_.out HW_.out hHeld ?_
   refine tu 3 (some 30) (ba 34 15) HT_.out HW_.out hHeld ?_
   refine pu 4 (some 31) (ba 34 31) HT_.out ?_
   refine one_ (i := 5) (N := some 32) (ba 34 63) rfl rfl (one_of HT_.out (by kernel_rfl)) (by decide) (fun K hK => ?_)
   refine goes_ Try.func88 (by kernel_rfl) rfl #[.int .i64 ((rd_TTie l0_1 x3_2).f0), .int .i64 0, .int .i64 (wrap64 (a0_0 - 1))] (by rfl) rfl rfl qm ?_
   with_reducible refine (spec_l6In.calls ((rd_TTie l0_1 x3_2).f0) 0 (wrap64 (a0_0 - 1)) true _ A11.out).mono ?_
   rintro e w' ⟨rfl, ⟨nd, rfl⟩⟩
   refine ⟨_, rfl, ?_⟩
   refine hK.out _ _ ⟨(blk_cell BK108.out 0).trans rfl, (blk_cell BK108.out 1).trans rfl, (blk_cell BK104.out 0).trans rfl, (blk_cell BK104.out 1).trans rfl⟩ (fun hHeld => ?_)
   clear hK K
   refine nu 32 ?_
   refine pu 6 (some 33) (ba 34 127) HT_.out ?_
   refine pu 7 (some 34) (ba 34 255) HT_.out ?_
   refine pu 8 (some 35) (ba 34 511) HT_.out ?_
   refine pu 10 (some 37) (ba 34 1535) HT_.out ?_
   refine pu 13 (some 40) (ba 34 9727) HT_.out ?_
   refine tu 9 (some 36) (ba 34 10239) HT_.out HW_.out hHeld ?_
   refine tu 11 (some 38) (ba 34 12287) HT_.out HW_.out hHeld ?_
   refine pu 12 (some 39) (ba 34 16383) HT_.out ?_
   refine tu 14 (some 41) (ba 34 32767) HT_.out HW_.out hHeld ?_
   refine pu 15 (some 42) (ba 34 65535) HT_.out ?_
   refine one_ (i := 16) (N := some 43) (ba 34 131071) rfl rfl (one_of HT_.out (by kernel_rfl)) (by decide) (fun K hK => ?_)
   refine goes_ Try.func88 (by kernel_rfl) rfl #[.int .i64 ((rd_TTie l0_1 x3_2).f1), .int .i64 (wrap64 (((rd_TTie l0_1 x3_2).f0) + 1)), .int .i64 (wrap64 (a0_0 - 1))] (by rfl) rfl rfl qm ?_
   with_reducible refine (spec_l6In.calls ((rd_TTie l0_1 x3_2).f1) (wrap64 (((rd_TTie l0_1 x3_2).f0) + 1)) (wrap64 (a0_0 - 1)) true _ A13.out).mono ?_
   rintro e w' ⟨rfl, ⟨nd, rfl⟩⟩
   refine ⟨_, rfl, ?_⟩
   refine hK.out _ _ ⟨(blk_cell BK108.out 0).trans rfl, (blk_cell BK108.out 1).trans rfl, (blk_cell BK104.out 0).trans rfl, (blk_cell BK104.out 1).trans rfl⟩ (fun hHeld => ?_)
   clear hK K
   refine nu 43 ?_
   refine pu 17 (some 44) (ba 34 262143) HT_.out ?_
   refine pu 18 (some 45) (ba 34 524287) HT_.out ?_
   refine pu 19 (some 46) (ba 34 1048575) HT_.out ?_
   refine pu 20 (some 47) (ba 34 2097151) HT_.out ?_
   refine pu 21 (some 48) (ba 34 4194303) HT_.out ?_
   refine pu 22 (some 49) (ba 34 8388607) HT_.out ?_
   refine pv 23 (some 50) (ba 34 16777215) HT_.out ?_
   refine pv 24 (some 51) (ba 34 33554431) HT_.out ?_
   refine pv 25 (some 52) (ba 34 67108863) HT_.out ?_
   refine pv 26 (some 53) (ba 34 134217727) HT_.out ?_
   refine pv 27 (some 54) (ba 34 268435455) HT_.out ?_
   refine pv 28 (some 55) (ba 34 536870911) HT_.out ?_
   refine pv 29 (some 56) (ba 34 1073741823) HT_.out ?_
   refine pv 30 (some 57) (ba 34 2147483647) HT_.out ?_
   refine pv 31 (some 58) (ba 34 4294967295) HT_.out ?_
   refine pu 32 (some 59) (ba 34 8589934591) HT_.out ?_
   refine pu 33 (some 60) (ba 34 17179869183) HT_.out ?_
   refine done_ (done_of HT_.out (by kernel_rfl)) ?_
   try go_wp2
   go_roundg k2
   case measure => have := HJ1.out; have := HK2.out; omega
   case rel => exact ⟨(wrap64 (x3_2 + 1)), qs, H', ⟨by have := HJ1.out; have := HK2.out; omega⟩, ⟨qk BK104.out⟩, ⟨qb HB.out⟩⟩
 rw [if_pos c15] at H
 have c15b0 : decide (0 < x3_2) = true := decide_eq_true c15
 clear c15
 obtain ⟨ji16, hji16⟩ : ∃ j_ : Int, (wrap64 (x3_2 - 1)) = j_ := ⟨_, rfl⟩
 replace H : (if 0 ≤ (ji16) then (if (ji16) < (l0_1.length : Int) then ((spec_l1Less.f ((rd_TTie l0_1 (ji16)).f0) ((rd_TTie l0_1 (ji16)).f1) ((rd_TTie l0_1 x3_2).f0) ((rd_TTie l0_1 x3_2).f1)).bind fun t103 => (if t103 = true then (spec_NetOk.l0 k2 (wrap64 (x3_2 + 1)) a0_0 l0_1) else (some false))) else (none)) else (none)) = some r := by first | (rw [hji16] at H; exact H) | (simp only [hji16] at H ⊢; exact H)
 (try rw [hji16] at A11)
 (try rw [hji16] at A13)
 have hji16w : (IntKind.i64.wrap (x3_2 - 1)) = ji16 := (i64_w _).trans hji16
 by_cases c17 : 0 ≤ (ji16)
 rotate_left
 · rw [if_neg c17] at H
   exact absurd H (by simp)
 rw [if_pos c17] at H
 have c17b0 : decide (0 ≤ (ji16)) = true := decide_eq_true c17
 clear c17
 by_cases c18 : (ji16) < (l0_1.length : Int)
 rotate_left
 · rw [if_neg c18] at H
   exact absurd H (by simp)
 rw [if_pos c18] at H
 have c18b0 : decide ((ji16) < (l0_1.length : Int)) = true := decide_eq_true c18
 clear c18
 replace H := Option.bind_eq_some_iff.mp H
 obtain ⟨t103, A106, H⟩ := H
 have A19 := Aside0.mk A106
 clear A106
 by_cases c20 : t103 = true
 rotate_left
 · replace c20 := Bool.eq_false_iff.mpr c20
   subst c20
   rw [if_neg nf] at H
   obtain rfl := Option.some.inj H
   have hcz28_0 : wr.cell? ⟨gb104, 0, none⟩ = some (.int .i64 a0_0) := (blk_cell BK104.out 0).trans rfl
   have hcz28_1 : wr.cell? ⟨gb104, 1, none⟩ = some (.slice A0_1 l0_1.length c0_1) := (blk_cell BK104.out 1).trans rfl
   have hfz28_0 := blk_frozen BK104.out 0
   have hfz28_1 := blk_frozen BK104.out 1
   have p107 : 0 ≤ (x3_2 : Int) := of_decide_eq_true qa
   have q107 : x3_2 < (l0_1.length : Int) := of_decide_eq_true qa
   obtain ⟨ad107, e107, hx107_0, hx107_1⟩ := at_TTie HR0_1.out x3_2 p107 q107
   cases e107
   replace hx107_0 := (HB.out.cell (World.block_lt_of_cell? w _ hx107_0)).trans hx107_0
   replace hx107_1 := (HB.out.cell (World.block_lt_of_cell? w _ hx107_1)).trans hx107_1
   replace p107 := eq_true p107
   replace q107 := eq_true q107
   try go_wp2_with (first | ((with_reducible refine gate_dst (N := 4) rfl ?_); (try (refine gate_guard (by rfl) ?_; dsimp only)); refine be 4 #[.int .i64 0, .int .i64 0] 32 ?_; intro gb108 hg w29 hbox hb; have BK108 := q0 (hbox); have GW108 := q0 ((bs HB.out hg : w.heap.size ≤ gb108)); have GE108 := q0 ((bs HB.out hg : w.heap.size ≤ gb108)); replace HB := q0 (below_step (qb HB.out) hb); have NB104_108 := q0 ((bl BK104.out hg : gb104 ≠ gb108)); have NB108_104 := q0 ((bg BK104.out hg : gb108 ≠ gb104)); replace BK104 := q0 (kb BK104.out hb); clear hb hbox hg; have hnb30 := NB108_104.out; have hnc30 := NB104_108.out; have hcz31_0 : w29.cell? ⟨gb108, 0, none⟩ = some (.int .i64 0) := (blk_cell BK108.out 0).trans rfl; have hcz31_1 : w29.cell? ⟨gb108, 1, none⟩ = some (.int .i64 0) := (blk_cell BK108.out 1).trans rfl; have hfz31_0 := blk_frozen BK108.out 0; have hfz31_1 := blk_frozen BK108.out 1))
   have n0_ : Aside0 (((w29.setCell ⟨gb108, 0, none⟩ (.int .i64 ((rd_TTie l0_1 x3_2).f0))).setCell ⟨gb108, 1, none⟩ (.int .i64 ((rd_TTie l0_1 x3_2).f1))).heap[gb104]? = some (.cells #[.int .i64 a0_0, .slice (some ad107) l0_1.length c0_1] 25 (0, 0))) := ⟨qf BK104.out⟩
   have n1_ : Aside0 (((w29.setCell ⟨gb108, 0, none⟩ (.int .i64 ((rd_TTie l0_1 x3_2).f0))).setCell ⟨gb108, 1, none⟩ (.int .i64 ((rd_TTie l0_1 x3_2).f1))).heap[gb108]? = some (.cells #[.int .i64 ((rd_TTie l0_1 x3_2).f0), .int .i64 ((rd_TTie l0_1 x3_2).f1)] 32 (0, 0))) := ⟨by (with_reducible repeat (first | refine blk_drewN ?_ _ | refine blk_drew ?_ | refine blk_alloc ?_ _)); refine blk_put (cs := #[.int .i64 ((rd_TTie l0_1 x3_2).f0), .int .i64 0]) ?_ 1 _ rfl; (with_reducible repeat (first | refine blk_drewN ?_ _ | refine blk_drew ?_ | refine blk_alloc ?_ _)); refine blk_put (cs := #[.int .i64 0, .int .i64 0]) ?_ 0 _ rfl; (with_reducible repeat (first | refine blk_drewN ?_ _ | refine blk_drew ?_ | refine blk_alloc ?_ _)); exact BK108.out⟩
   have n2_ : Aside0 (Below w.heap.size w ((w29.setCell ⟨gb108, 0, none⟩ (.int .i64 ((rd_TTie l0_1 x3_2).f0))).setCell ⟨gb108, 1, none⟩ (.int .i64 ((rd_TTie l0_1 x3_2).f1)))) := ⟨qb HB.out⟩
   (try clear BK104)
   (try clear BK108)
   (try clear HB)
   generalize ((w29.setCell ⟨gb108, 0, none⟩ (.int .i64 ((rd_TTie l0_1 x3_2).f0))).setCell ⟨gb108, 1, none⟩ (.int .i64 ((rd_TTie l0_1 x3_2).f1))) = w32 at n0_ n1_ n2_ ⊢
   have BK104 := n0_
   have BK108 := n1_
   have HB := n2_
   clear n0_ n1_ n2_
   replace BK104 := q0 (blk_drew BK104.out)
   replace BK108 := q0 (blk_drew BK108.out)
   replace HB := q0 (below_drew1 HB.out)
   have p109 : 0 ≤ ((ji16) : Int) := of_decide_eq_true qa
   have q109 : (ji16) < (l0_1.length : Int) := of_decide_eq_true qa
   obtain ⟨ad109, e109, hx109_0, hx109_1⟩ := at_TTie HR0_1.out (ji16) p109 q109
   have hw109_1 := hx109_1
   have hw109_0 := hx109_0
   obtain rfl : ad107 = ad109 := (by injection e109)
   replace hx109_0 := (HB.out.cell (World.block_lt_of_cell? w _ hx109_0)).trans hx109_0
   replace hx109_1 := (HB.out.cell (World.block_lt_of_cell? w _ hx109_1)).trans hx109_1
   replace p109 := eq_true p109
   replace q109 := eq_true q109
   refine start_ (n := 34) (S := fun w' => w'.cell? ⟨gb108, 0, none⟩ = some (.int .i64 ((rd_TTie l0_1 x3_2).f0)) ∧ w'.cell? ⟨gb108, 1, none⟩ = some (.int .i64 ((rd_TTie l0_1 x3_2).f1)) ∧ w'.cell? ⟨gb104, 0, none⟩ = some (.int .i64 a0_0) ∧ w'.cell? ⟨gb104, 1, none⟩ = some (.slice (some ad107) l0_1.length c0_1) ∧ w'.cell? (ad107.add (((ji16)).toNat * 2)) = some (.int .i64 ((rd_TTie l0_1 (ji16)).f0)) ∧ w'.cell? ⟨(ad107.add (((ji16)).toNat * 2)).block, (ad107.add (((ji16)).toNat * 2)).off + 1, none⟩ = some (.int .i64 ((rd_TTie l0_1 (ji16)).f1))) (ds := []) (ba 34 0) (by kernel_rfl) rfl (by kernel_rfl) ⟨(blk_cell BK108.out 0).trans rfl, (blk_cell BK108.out 1).trans rfl, (blk_cell BK104.out 0).trans rfl, (blk_cell BK104.out 1).trans rfl, ((HB.out.cell (World.block_lt_of_cell? w _ hw109_0)).trans hw109_0), ((HB.out.cell (World.block_lt_of_cell? w _ hw109_1)).trans hw109_1)⟩ (fun hHeld => ?_); refine with_tabW spec_NetOk.tab7 spec_NetOk.bits7 (fun HT_ HW_ => ?_)
   generalize w32.drew = w33 at BK104 BK108 HB hx109_0 hx109_1 hHeld ⊢
   refine pu 0 (some 27) (ba 34 1) HT_.out ?_
   refine pu 2 (some 29) (ba 34 5) HT_.out ?_
   refine tu 1 (some 28) (ba 34 7) HT_.out HW_.out hHeld ?_
   refine tu 3 (some 30) (ba 34 15) HT_.out HW_.out hHeld ?_
   refine pu 4 (some 31) (ba 34 31) HT_.out ?_
   refine one_ (i := 5) (N := some 32) (ba 34 63) rfl rfl (one_of HT_.out (by kernel_rfl)) (by decide) (fun K hK => ?_)
   refine goes_ Try.func88 (by kernel_rfl) rfl #[.int .i64 ((rd_TTie l0_1 x3_2).f0), .int .i64 0, .int .i64 (wrap64 (a0_0 - 1))] (by rfl) rfl rfl qm ?_
   with_reducible refine (spec_l6In.calls ((rd_TTie l0_1 x3_2).f0) 0 (wrap64 (a0_0 - 1)) true _ A11.out).mono ?_
   rintro e w' ⟨rfl, ⟨nd, rfl⟩⟩
   refine ⟨_, rfl, ?_⟩
   refine hK.out _ _ ⟨(blk_cell BK108.out 0).trans rfl, (blk_cell BK108.out 1).trans rfl, (blk_cell BK104.out 0).trans rfl, (blk_cell BK104.out 1).trans rfl, ((HB.out.cell (World.block_lt_of_cell? w _ hw109_0)).trans hw109_0), ((HB.out.cell (World.block_lt_of_cell? w _ hw109_1)).trans hw109_1)⟩ (fun hHeld => ?_)
   clear hK K
   refine nu 32 ?_
   refine pu 6 (some 33) (ba 34 127) HT_.out ?_
   refine pu 7 (some 34) (ba 34 255) HT_.out ?_
   refine pu 8 (some 35) (ba 34 511) HT_.out ?_
   refine pu 10 (some 37) (ba 34 1535) HT_.out ?_
   refine pu 13 (some 40) (ba 34 9727) HT_.out ?_
   refine tu 9 (some 36) (ba 34 10239) HT_.out HW_.out hHeld ?_
   refine tu 11 (some 38) (ba 34 12287) HT_.out HW_.out hHeld ?_
   refine pu 12 (some 39) (ba 34 16383) HT_.out ?_
   refine tu 14 (some 41) (ba 34 32767) HT_.out HW_.out hHeld ?_
   refine pu 15 (some 42) (ba 34 65535) HT_.out ?_
   refine one_ (i := 16) (N := some 43) (ba 34 131071) rfl rfl (one_of HT_.out (by kernel_rfl)) (by decide) (fun K hK => ?_)
   refine goes_ Try.func88 (by kernel_rfl) rfl #[.int .i64 ((rd_TTie l0_1 x3_2).f1), .int .i64 (wrap64 (((rd_TTie l0_1 x3_2).f0) + 1)), .int .i64 (wrap64 (a0_0 - 1))] (by rfl) rfl rfl qm ?_
   with_reducible refine (spec_l6In.calls ((rd_TTie l0_1 x3_2).f1) (wrap64 (((rd_TTie l0_1 x3_2).f0) + 1)) (wrap64 (a0_0 - 1)) true _ A13.out).mono ?_
   rintro e w' ⟨rfl, ⟨nd, rfl⟩⟩
   refine ⟨_, rfl, ?_⟩
   refine hK.out _ _ ⟨(blk_cell BK108.out 0).trans rfl, (blk_cell BK108.out 1).trans rfl, (blk_cell BK104.out 0).trans rfl, (blk_cell BK104.out 1).trans rfl, ((HB.out.cell (World.block_lt_of_cell? w _ hw109_0)).trans hw109_0), ((HB.out.cell (World.block_lt_of_cell? w _ hw109_1)).trans hw109_1)⟩ (fun hHeld => ?_)
   clear hK K
   refine nu 43 ?_
   refine pu 17 (some 44) (ba 34 262143) HT_.out ?_
   refine pu 18 (some 45) (ba 34 524287) HT_.out ?_
   refine pu 19 (some 46) (ba 34 1048575) HT_.out ?_
   refine pu 20 (some 47) (ba 34 2097151) HT_.out ?_
   refine pu 21 (some 48) (ba 34 4194303) HT_.out ?_
   refine pu 22 (some 49) (ba 34 8388607) HT_.out ?_
   refine pu 23 (some 50) (ba 34 16777215) HT_.out ?_
   refine pu 25 (some 52) (ba 34 50331647) HT_.out ?_
   refine pu 26 (some 53) (ba 34 117440511) HT_.out ?_
   refine tu 24 (some 51) (ba 34 134217727) HT_.out HW_.out hHeld ?_
   refine pu 27 (some 54) (ba 34 268435455) HT_.out ?_
   refine tu 28 (some 55) (ba 34 536870911) HT_.out HW_.out hHeld ?_
   refine tu 29 (some 56) (ba 34 1073741823) HT_.out HW_.out hHeld ?_
   refine one_ (i := 30) (N := some 57) (ba 34 2147483647) rfl rfl (one_of HT_.out (by kernel_rfl)) (by decide) (fun K hK => ?_)
   refine goes_ Try.func69 (by kernel_rfl) rfl #[.agg #[.int .i64 ((rd_TTie l0_1 (ji16)).f0), .int .i64 ((rd_TTie l0_1 (ji16)).f1)], .agg #[.int .i64 ((rd_TTie l0_1 x3_2).f0), .int .i64 ((rd_TTie l0_1 x3_2).f1)]] (by rfl) rfl rfl (by (try simp only [List.map_toArray, List.map_cons, List.map_nil]); first | done | (simp only [hji16]; rfl) | rfl | (simp only [List.length_drop, List.length_take]; rfl)) ?_
   with_reducible refine (spec_l1Less.calls ((rd_TTie l0_1 (ji16)).f0) ((rd_TTie l0_1 (ji16)).f1) ((rd_TTie l0_1 x3_2).f0) ((rd_TTie l0_1 x3_2).f1) false _ A19.out).mono ?_
   rintro e w34 ⟨rfl, hb⟩
   refine ⟨_, rfl, ?_⟩
   replace BK104 := q0 (kb BK104.out hb)
   replace BK108 := q0 (kb BK108.out hb)
   replace HB := q0 (below_step (qb HB.out) hb)
   (try clear hb)
   (try clear hb2)
   (try clear hk)
   (try clear hi)
   refine hK.out _ _ ⟨(blk_cell BK108.out 0).trans rfl, (blk_cell BK108.out 1).trans rfl, (blk_cell BK104.out 0).trans rfl, (blk_cell BK104.out 1).trans rfl, ((HB.out.cell (World.block_lt_of_cell? w _ hw109_0)).trans hw109_0), ((HB.out.cell (World.block_lt_of_cell? w _ hw109_1)).trans hw109_1)⟩ (fun hHeld => ?_)
   clear hK K
   refine nu 57 ?_
   refine pu 31 (some 58) (ba 34 4294967295) HT_.out ?_
   refine pu 32 (some 59) (ba 34 8589934591) HT_.out ?_
   refine pu 33 (some 60) (ba 34 17179869183) HT_.out ?_
   refine done_ (done_of HT_.out (by kernel_rfl)) ?_
   try go_wp2
   go_ret
   exact ⟨by first | rfl | (simp [errW_none, errW_some] <;> rfl) | (simp only [← hji16]; first | rfl | (simp [errW_none, errW_some] <;> rfl)) | (simp [*, errW_none, errW_some] <;> rfl), qb HB.out⟩
 subst c20
 rw [if_pos rfl] at H
 have H' := Aside0.mk H
 clear H
 have hcz21_0 : wr.cell? ⟨gb104, 0, none⟩ = some (.int .i64 a0_0) := (blk_cell BK104.out 0).trans rfl
 have hcz21_1 : wr.cell? ⟨gb104, 1, none⟩ = some (.slice A0_1 l0_1.length c0_1) := (blk_cell BK104.out 1).trans rfl
 have hfz21_0 := blk_frozen BK104.out 0
 have hfz21_1 := blk_frozen BK104.out 1
 have p107 : 0 ≤ (x3_2 : Int) := of_decide_eq_true qa
 have q107 : x3_2 < (l0_1.length : Int) := of_decide_eq_true qa
 obtain ⟨ad107, e107, hx107_0, hx107_1⟩ := at_TTie HR0_1.out x3_2 p107 q107
 cases e107
 replace hx107_0 := (HB.out.cell (World.block_lt_of_cell? w _ hx107_0)).trans hx107_0
 replace hx107_1 := (HB.out.cell (World.block_lt_of_cell? w _ hx107_1)).trans hx107_1
 replace p107 := eq_true p107
 replace q107 := eq_true q107
 try go_wp2_with (first | ((with_reducible refine gate_dst (N := 4) rfl ?_); (try (refine gate_guard (by rfl) ?_; dsimp only)); refine be 4 #[.int .i64 0, .int .i64 0] 32 ?_; intro gb108 hg w22 hbox hb; have BK108 := q0 (hbox); have GW108 := q0 ((bs HB.out hg : w.heap.size ≤ gb108)); have GE108 := q0 ((bs HB.out hg : w.heap.size ≤ gb108)); replace HB := q0 (below_step (qb HB.out) hb); have NB104_108 := q0 ((bl BK104.out hg : gb104 ≠ gb108)); have NB108_104 := q0 ((bg BK104.out hg : gb108 ≠ gb104)); replace BK104 := q0 (kb BK104.out hb); clear hb hbox hg; have hnb23 := NB108_104.out; have hnc23 := NB104_108.out; have hcz24_0 : w22.cell? ⟨gb108, 0, none⟩ = some (.int .i64 0) := (blk_cell BK108.out 0).trans rfl; have hcz24_1 : w22.cell? ⟨gb108, 1, none⟩ = some (.int .i64 0) := (blk_cell BK108.out 1).trans rfl; have hfz24_0 := blk_frozen BK108.out 0; have hfz24_1 := blk_frozen BK108.out 1))
 have n0_ : Aside0 (((w22.setCell ⟨gb108, 0, none⟩ (.int .i64 ((rd_TTie l0_1 x3_2).f0))).setCell ⟨gb108, 1, none⟩ (.int .i64 ((rd_TTie l0_1 x3_2).f1))).heap[gb104]? = some (.cells #[.int .i64 a0_0, .slice (some ad107) l0_1.length c0_1] 25 (0, 0))) := ⟨qf BK104.out⟩
 have n1_ : Aside0 (((w22.setCell ⟨gb108, 0, none⟩ (.int .i64 ((rd_TTie l0_1 x3_2).f0))).setCell ⟨gb108, 1, none⟩ (.int .i64 ((rd_TTie l0_1 x3_2).f1))).heap[gb108]? = some (.cells #[.int .i64 ((rd_TTie l0_1 x3_2).f0), .int .i64 ((rd_TTie l0_1 x3_2).f1)] 32 (0, 0))) := ⟨by (with_reducible repeat (first | refine blk_drewN ?_ _ | refine blk_drew ?_ | refine blk_alloc ?_ _)); refine blk_put (cs := #[.int .i64 ((rd_TTie l0_1 x3_2).f0), .int .i64 0]) ?_ 1 _ rfl; (with_reducible repeat (first | refine blk_drewN ?_ _ | refine blk_drew ?_ | refine blk_alloc ?_ _)); refine blk_put (cs := #[.int .i64 0, .int .i64 0]) ?_ 0 _ rfl; (with_reducible repeat (first | refine blk_drewN ?_ _ | refine blk_drew ?_ | refine blk_alloc ?_ _)); exact BK108.out⟩
 have n2_ : Aside0 (Below w.heap.size w ((w22.setCell ⟨gb108, 0, none⟩ (.int .i64 ((rd_TTie l0_1 x3_2).f0))).setCell ⟨gb108, 1, none⟩ (.int .i64 ((rd_TTie l0_1 x3_2).f1)))) := ⟨qb HB.out⟩
 (try clear BK104)
 (try clear BK108)
 (try clear HB)
 generalize ((w22.setCell ⟨gb108, 0, none⟩ (.int .i64 ((rd_TTie l0_1 x3_2).f0))).setCell ⟨gb108, 1, none⟩ (.int .i64 ((rd_TTie l0_1 x3_2).f1))) = w25 at n0_ n1_ n2_ ⊢
 have BK104 := n0_
 have BK108 := n1_
 have HB := n2_
 clear n0_ n1_ n2_
 replace BK104 := q0 (blk_drew BK104.out)
 replace BK108 := q0 (blk_drew BK108.out)
 replace HB := q0 (below_drew1 HB.out)
 have p109 : 0 ≤ ((ji16) : Int) := of_decide_eq_true qa
 have q109 : (ji16) < (l0_1.length : Int) := of_decide_eq_true qa
 obtain ⟨ad109, e109, hx109_0, hx109_1⟩ := at_TTie HR0_1.out (ji16) p109 q109
 have hw109_1 := hx109_1
 have hw109_0 := hx109_0
 obtain rfl : ad107 = ad109 := (by injection e109)
 replace hx109_0 := (HB.out.cell (World.block_lt_of_cell? w _ hx109_0)).trans hx109_0
 replace hx109_1 := (HB.out.cell (World.block_lt_of_cell? w _ hx109_1)).trans hx109_1
 replace p109 := eq_true p109
 replace q109 := eq_true q109
 refine start_ (n := 34) (S := fun w' => w'.cell? ⟨gb108, 0, none⟩ = some (.int .i64 ((rd_TTie l0_1 x3_2).f0)) ∧ w'.cell? ⟨gb108, 1, none⟩ = some (.int .i64 ((rd_TTie l0_1 x3_2).f1)) ∧ w'.cell? ⟨gb104, 0, none⟩ = some (.int .i64 a0_0) ∧ w'.cell? ⟨gb104, 1, none⟩ = some (.slice (some ad107) l0_1.length c0_1) ∧ w'.cell? (ad107.add (((ji16)).toNat * 2)) = some (.int .i64 ((rd_TTie l0_1 (ji16)).f0)) ∧ w'.cell? ⟨(ad107.add (((ji16)).toNat * 2)).block, (ad107.add (((ji16)).toNat * 2)).off + 1, none⟩ = some (.int .i64 ((rd_TTie l0_1 (ji16)).f1))) (ds := []) (ba 34 0) (by kernel_rfl) rfl (by kernel_rfl) ⟨(blk_cell BK108.out 0).trans rfl, (blk_cell BK108.out 1).trans rfl, (blk_cell BK104.out 0).trans rfl, (blk_cell BK104.out 1).trans rfl, ((HB.out.cell (World.block_lt_of_cell? w _ hw109_0)).trans hw109_0), ((HB.out.cell (World.block_lt_of_cell? w _ hw109_1)).trans hw109_1)⟩ (fun hHeld => ?_); refine with_tabW spec_NetOk.tab7 spec_NetOk.bits7 (fun HT_ HW_ => ?_)
 generalize w25.drew = w26 at BK104 BK108 HB hx109_0 hx109_1 hHeld ⊢
 refine pu 0 (some 27) (ba 34 1) HT_.out ?_
 refine pu 2 (some 29) (ba 34 5) HT_.out ?_
 refine tu 1 (some 28) (ba 34 7) HT_.out HW_.out hHeld ?_
 refine tu 3 (some 30) (ba 34 15) HT_.out HW_.out hHeld ?_
 refine pu 4 (some 31) (ba 34 31) HT_.out ?_
 refine one_ (i := 5) (N := some 32) (ba 34 63) rfl rfl (one_of HT_.out (by kernel_rfl)) (by decide) (fun K hK => ?_)
 refine goes_ Try.func88 (by kernel_rfl) rfl #[.int .i64 ((rd_TTie l0_1 x3_2).f0), .int .i64 0, .int .i64 (wrap64 (a0_0 - 1))] (by rfl) rfl rfl qm ?_
 with_reducible refine (spec_l6In.calls ((rd_TTie l0_1 x3_2).f0) 0 (wrap64 (a0_0 - 1)) true _ A11.out).mono ?_
 rintro e w' ⟨rfl, ⟨nd, rfl⟩⟩
 refine ⟨_, rfl, ?_⟩
 refine hK.out _ _ ⟨(blk_cell BK108.out 0).trans rfl, (blk_cell BK108.out 1).trans rfl, (blk_cell BK104.out 0).trans rfl, (blk_cell BK104.out 1).trans rfl, ((HB.out.cell (World.block_lt_of_cell? w _ hw109_0)).trans hw109_0), ((HB.out.cell (World.block_lt_of_cell? w _ hw109_1)).trans hw109_1)⟩ (fun hHeld => ?_)
 clear hK K
 refine nu 32 ?_
 refine pu 6 (some 33) (ba 34 127) HT_.out ?_
 refine pu 7 (some 34) (ba 34 255) HT_.out ?_
 refine pu 8 (some 35) (ba 34 511) HT_.out ?_
 refine pu 10 (some 37) (ba 34 1535) HT_.out ?_
 refine pu 13 (some 40) (ba 34 9727) HT_.out ?_
 refine tu 9 (some 36) (ba 34 10239) HT_.out HW_.out hHeld ?_
 refine tu 11 (some 38) (ba 34 12287) HT_.out HW_.out hHeld ?_
 refine pu 12 (some 39) (ba 34 16383) HT_.out ?_
 refine tu 14 (some 41) (ba 34 32767) HT_.out HW_.out hHeld ?_
 refine pu 15 (some 42) (ba 34 65535) HT_.out ?_
 refine one_ (i := 16) (N := some 43) (ba 34 131071) rfl rfl (one_of HT_.out (by kernel_rfl)) (by decide) (fun K hK => ?_)
 refine goes_ Try.func88 (by kernel_rfl) rfl #[.int .i64 ((rd_TTie l0_1 x3_2).f1), .int .i64 (wrap64 (((rd_TTie l0_1 x3_2).f0) + 1)), .int .i64 (wrap64 (a0_0 - 1))] (by rfl) rfl rfl qm ?_
 with_reducible refine (spec_l6In.calls ((rd_TTie l0_1 x3_2).f1) (wrap64 (((rd_TTie l0_1 x3_2).f0) + 1)) (wrap64 (a0_0 - 1)) true _ A13.out).mono ?_
 rintro e w' ⟨rfl, ⟨nd, rfl⟩⟩
 refine ⟨_, rfl, ?_⟩
 refine hK.out _ _ ⟨(blk_cell BK108.out 0).trans rfl, (blk_cell BK108.out 1).trans rfl, (blk_cell BK104.out 0).trans rfl, (blk_cell BK104.out 1).trans rfl, ((HB.out.cell (World.block_lt_of_cell? w _ hw109_0)).trans hw109_0), ((HB.out.cell (World.block_lt_of_cell? w _ hw109_1)).trans hw109_1)⟩ (fun hHeld => ?_)
 clear hK K
 refine nu 43 ?_
 refine pu 17 (some 44) (ba 34 262143) HT_.out ?_
 refine pu 18 (some 45) (ba 34 524287) HT_.out ?_
 refine pu 19 (some 46) (ba 34 1048575) HT_.out ?_
 refine pu 20 (some 47) (ba 34 2097151) HT_.out ?_
 refine pu 21 (some 48) (ba 34 4194303) HT_.out ?_
 refine pu 22 (some 49) (ba 34 8388607) HT_.out ?_
 refine pu 23 (some 50) (ba 34 16777215) HT_.out ?_
 refine pu 25 (some 52) (ba 34 50331647) HT_.out ?_
 refine pu 26 (some 53) (ba 34 117440511) HT_.out ?_
 refine tu 24 (some 51) (ba 34 134217727) HT_.out HW_.out hHeld ?_
 refine pu 27 (some 54) (ba 34 268435455) HT_.out ?_
 refine tu 28 (some 55) (ba 34 536870911) HT_.out HW_.out hHeld ?_
 refine tu 29 (some 56) (ba 34 1073741823) HT_.out HW_.out hHeld ?_
 refine one_ (i := 30) (N := some 57) (ba 34 2147483647) rfl rfl (one_of HT_.out (by kernel_rfl)) (by decide) (fun K hK => ?_)
 refine goes_ Try.func69 (by kernel_rfl) rfl #[.agg #[.int .i64 ((rd_TTie l0_1 (ji16)).f0), .int .i64 ((rd_TTie l0_1 (ji16)).f1)], .agg #[.int .i64 ((rd_TTie l0_1 x3_2).f0), .int .i64 ((rd_TTie l0_1 x3_2).f1)]] (by rfl) rfl rfl (by (try simp only [List.map_toArray, List.map_cons, List.map_nil]); first | done | (simp only [hji16]; rfl) | rfl | (simp only [List.length_drop, List.length_take]; rfl)) ?_
 with_reducible refine (spec_l1Less.calls ((rd_TTie l0_1 (ji16)).f0) ((rd_TTie l0_1 (ji16)).f1) ((rd_TTie l0_1 x3_2).f0) ((rd_TTie l0_1 x3_2).f1) true _ A19.out).mono ?_
 rintro e w27 ⟨rfl, hb⟩
 refine ⟨_, rfl, ?_⟩
 replace BK104 := q0 (kb BK104.out hb)
 replace BK108 := q0 (kb BK108.out hb)
 replace HB := q0 (below_step (qb HB.out) hb)
 (try clear hb)
 (try clear hb2)
 (try clear hk)
 (try clear hi)
 refine hK.out _ _ ⟨(blk_cell BK108.out 0).trans rfl, (blk_cell BK108.out 1).trans rfl, (blk_cell BK104.out 0).trans rfl, (blk_cell BK104.out 1).trans rfl, ((HB.out.cell (World.block_lt_of_cell? w _ hw109_0)).trans hw109_0), ((HB.out.cell (World.block_lt_of_cell? w _ hw109_1)).trans hw109_1)⟩ (fun hHeld => ?_)
 clear hK K
 refine nu 57 ?_
 refine pu 31 (some 58) (ba 34 4294967295) HT_.out ?_
 refine pu 32 (some 59) (ba 34 8589934591) HT_.out ?_
 refine pu 33 (some 60) (ba 34 17179869183) HT_.out ?_
 refine done_ (done_of HT_.out (by kernel_rfl)) ?_
 try go_wp2
 go_roundg k2
 case measure => have := HJ1.out; have := HK2.out; omega
 case rel => exact ⟨(wrap64 (x3_2 + 1)), qs, H', ⟨by have := HJ1.out; have := HK2.out; omega⟩, ⟨qk BK104.out⟩, ⟨qb HB.out⟩⟩

set_option maxHeartbeats 8000000 in
set_option maxRecDepth 100000 in
theorem spec_l1Tie.calls (a0 : Int) (a1 : Int) (r1 : Int) (r2 : Int) (w : World) (h : spec_l1Tie.f a0 a1 = some (r1, r2)) :
    Calls Try.prog 68 #[.int .i64 a0, .int .i64 a1] w fun e w' => e = .returned (.agg #[.int .i64 r1, .int .i64 r2]) ∧ Below w.heap.size w w' := by
 have hu32 := Try.underlying32
 have HB := q0 (Below.refl w.heap.size w)
 have H : (if a0 < a1 then (some (a0, a1)) else (some (a1, a0))) = some (r1, r2) := h
 clear h
 by_cases c3 : a0 < a1
 · rw [if_pos c3] at H
   have c3b0 : decide (a0 < a1) = true := decide_eq_true c3
   clear c3
   simp only [Option.some.injEq, Prod.mk.injEq] at H
   obtain ⟨rfl, rfl⟩ := H
   go_enter Try.func68, Try.ntmps68
   go_wp2_with (first | ((with_reducible refine gate_dst (N := 4) rfl ?_); refine be 4 #[.int .i64 0, .int .i64 0] 32 ?_; intro gb100 hg w4 hbox hb; have BK100 := q0 (hbox); have GW100 := q0 ((bs HB.out hg : w.heap.size ≤ gb100)); have GE100 := q0 ((bs HB.out hg : w.heap.size ≤ gb100)); replace HB := q0 (below_step (qb HB.out) hb); clear hb hbox hg; have hcz5_0 : w4.cell? ⟨gb100, 0, none⟩ = some (.int .i64 0) := (blk_cell BK100.out 0).trans rfl; have hcz5_1 : w4.cell? ⟨gb100, 1, none⟩ = some (.int .i64 0) := (blk_cell BK100.out 1).trans rfl; have hfz5_0 := blk_frozen BK100.out 0; have hfz5_1 := blk_frozen BK100.out 1))
   refine bodyPost_ret (results_cell_row rfl _ _ gb100 32 #[.int .i64 a0, .int .i64 a1] (0, 0) _ rfl (by (with_reducible repeat (first | refine blk_drewN ?_ _ | refine blk_drew ?_ | refine blk_alloc ?_ _)); refine blk_put (cs := #[.int .i64 a0, .int .i64 0]) ?_ 1 _ rfl; (with_reducible repeat (first | refine blk_drewN ?_ _ | refine blk_drew ?_ | refine blk_alloc ?_ _)); refine blk_put (cs := #[.int .i64 0, .int .i64 0]) ?_ 0 _ rfl; (with_reducible repeat (first | refine blk_drewN ?_ _ | refine blk_drew ?_ | refine blk_alloc ?_ _)); exact BK100.out) Try.underlying32 rfl (by kernel_rfl)) rfl ?_
   exact ⟨qe, qb HB.out⟩
 rw [if_neg c3] at H
 have c3b0 : decide (a0 < a1) = false := decide_eq_false c3
 clear c3
 simp only [Option.some.injEq, Prod.mk.injEq] at H
 obtain ⟨rfl, rfl⟩ := H
 go_enter Try.func68, Try.ntmps68
 go_wp2_with (first | ((with_reducible refine gate_dst (N := 4) rfl ?_); refine be 4 #[.int .i64 0, .int .i64 0] 32 ?_; intro gb100 hg w6 hbox hb; have BK100 := q0 (hbox); have GW100 := q0 ((bs HB.out hg : w.heap.size ≤ gb100)); have GE100 := q0 ((bs HB.out hg : w.heap.size ≤ gb100)); replace HB := q0 (below_step (qb HB.out) hb); clear hb hbox hg; have hcz7_0 : w6.cell? ⟨gb100, 0, none⟩ = some (.int .i64 0) := (blk_cell BK100.out 0).trans rfl; have hcz7_1 : w6.cell? ⟨gb100, 1, none⟩ = some (.int .i64 0) := (blk_cell BK100.out 1).trans rfl; have hfz7_0 := blk_frozen BK100.out 0; have hfz7_1 := blk_frozen BK100.out 1))
 refine bodyPost_ret (results_cell_row rfl _ _ gb100 32 #[.int .i64 a1, .int .i64 a0] (0, 0) _ rfl (by (with_reducible repeat (first | refine blk_drewN ?_ _ | refine blk_drew ?_ | refine blk_alloc ?_ _)); refine blk_put (cs := #[.int .i64 a1, .int .i64 0]) ?_ 1 _ rfl; (with_reducible repeat (first | refine blk_drewN ?_ _ | refine blk_drew ?_ | refine blk_alloc ?_ _)); refine blk_put (cs := #[.int .i64 0, .int .i64 0]) ?_ 0 _ rfl; (with_reducible repeat (first | refine blk_drewN ?_ _ | refine blk_drew ?_ | refine blk_alloc ?_ _)); exact BK100.out) Try.underlying32 rfl (by kernel_rfl)) rfl ?_
 exact ⟨qe, qb HB.out⟩

attribute [local go_sem high] eqATie
def spec_l1Has.T4 : Bool × List (List Nat × List Nat) := (true, [([], []), ([0], [0]), ([], []), ([1, 2], [1, 2]), ([3], [3]), ([], []), ([], []), ([5, 6], [5, 6]), ([4, 7], [4, 7])])
def spec_l1Has.B4 : List Nat := [0, 1, 0, 7, 15, 0, 0, 96, 255]
theorem spec_l1Has.tab4 : rtab .any (opsOf Try.f80 4) = spec_l1Has.T4 := by kernel_rfl
theorem spec_l1Has.bits4 : waitsOk spec_l1Has.T4.2 spec_l1Has.B4 = true := by kernel_rfl
set_option maxHeartbeats 8000000 in
set_option maxRecDepth 100000 in
theorem spec_l1Has.calls (k : Nat) (a0_0 : Int) (A0_1 : Option Addr) (c0_1 : Nat) (l0_1 : List (STie)) (a1 : Int) (a2 : Int) (r : Bool) (w : World) (hr0_1 : Kd.C kTie w A0_1 l0_1.length l0_1) (hc0_1 : l0_1.length ≤ c0_1) (h : spec_l1Has.f k a0_0 l0_1 a1 a2 = some r) :
    Calls Try.prog 80 #[.agg #[.int .i64 a0_0, .slice A0_1 l0_1.length c0_1], .int .i64 a1, .int .i64 a2] w fun e w' => e = .returned (.bool r) ∧ Below w.heap.size w w' := by
 have hu25 := Try.underlying25
 have hu32 := Try.underlying32
 have HR0_1 := Aside0.mk hr0_1
 have HC0_1 := Aside0.mk hc0_1
 clear hr0_1 hc0_1
 have HB := q0 (Below.refl w.heap.size w)
 have H : (spec_l1Has.l0 k a1 a2 0 a0_0 l0_1) = some r := h
 clear h
 have H' := Aside0.mk H
 clear H
 go_enter Try.func80, Try.ntmps80
 go_wp2_with (first | ((with_reducible refine gate_dst (N := 3) rfl ?_); refine be 3 #[.int .i64 a0_0, .slice A0_1 l0_1.length c0_1] 25 ?_; intro gb102 hg w4 hbox hb; have BK102 := q0 (hbox); have GW102 := q0 ((bs HB.out hg : w.heap.size ≤ gb102)); have GE102 := q0 ((bs HB.out hg : w.heap.size ≤ gb102)); replace HB := q0 (below_step (qb HB.out) hb); clear hb hbox hg))
 go_loopg [7] k (fun kq v7 w' => ∃ (x7_1 : Int), v7 = .int .i64 x7_1 ∧ Aside0 (spec_l1Has.l0 kq a1 a2 x7_1 a0_0 l0_1 = some r) ∧ Aside0 (kq ≤ k) ∧ Aside0 (w'.heap[gb102]? = some (.cells #[.int .i64 a0_0, (.slice A0_1 l0_1.length c0_1)] 25 (0, 0))) ∧ Aside0 (Below w.heap.size w w'))
 case atStart => exact ⟨(0), qs, H', ⟨Nat.le_refl _⟩, ⟨qk BK102.out⟩, ⟨qb HB.out⟩⟩
 clear H'
 try clear p2
 obtain ⟨x7_1, rfl, HA, HK1, BK102, HB⟩ := hrel
 rcases gk with _ | k1
 · exact absurd HA.out (by simp [spec_l1Has.l0])
 have H := HA.out
 clear HA
 simp only [spec_l1Has.l0] at H
 by_cases c5 : x7_1 < (l0_1.length : Int)
 rotate_left
 · rw [if_neg c5] at H
   have c5b0 : decide (x7_1 < (l0_1.length : Int)) = false := decide_eq_false c5
   clear c5
   obtain rfl := Option.some.inj H
   have hcz15_0 : wr.cell? ⟨gb102, 0, none⟩ = some (.int .i64 a0_0) := (blk_cell BK102.out 0).trans rfl
   have hcz15_1 : wr.cell? ⟨gb102, 1, none⟩ = some (.slice A0_1 l0_1.length c0_1) := (blk_cell BK102.out 1).trans rfl
   have hfz15_0 := blk_frozen BK102.out 0
   have hfz15_1 := blk_frozen BK102.out 1
   go_wp2
   go_ret
   exact ⟨qe, qb HB.out⟩
 rw [if_pos c5] at H
 have c5b0 : decide (x7_1 < (l0_1.length : Int)) = true := decide_eq_true c5
 clear c5
 by_cases c6 : 0 ≤ x7_1
 rotate_left
 · rw [if_neg c6] at H
   exact absurd H (by simp)
 rw [if_pos c6] at H
 have c6b0 : decide (0 ≤ x7_1) = true := decide_eq_true c6
 clear c6
 replace H := Option.bind_eq_some_iff.mp H
 obtain ⟨⟨t101, t103⟩, A70, H⟩ := H
 have A7 := Aside0.mk A70
 clear A70
 by_cases c8 : (((rd_TTie l0_1 x7_1).f0) == t101 && (((rd_TTie l0_1 x7_1).f1) == t103)) = true
 · rw [if_pos c8] at H
   have c8b0 : (((rd_TTie l0_1 x7_1).f0) == t101 && (((rd_TTie l0_1 x7_1).f1) == t103)) = true := c8
   (try (have c8b1 : decide (((rd_TTie l0_1 x7_1).f0) = t101 && (((rd_TTie l0_1 x7_1).f1) == t103)) = true := by simpa using c8))
   (try (have c8b2 : (((rd_TTie l0_1 x7_1).f0) == t101 && (((rd_TTie l0_1 x7_1).f1) == t103)) = true := by simpa using c8))
   clear c8
   obtain rfl := Option.some.inj H
   have hcz9_0 : wr.cell? ⟨gb102, 0, none⟩ = some (.int .i64 a0_0) := (blk_cell BK102.out 0).trans rfl
   have hcz9_1 : wr.cell? ⟨gb102, 1, none⟩ = some (.slice A0_1 l0_1.length c0_1) := (blk_cell BK102.out 1).trans rfl
   have hfz9_0 := blk_frozen BK102.out 0
   have hfz9_1 := blk_frozen BK102.out 1
   try go_wp2
   replace BK102 := q0 (blk_drew BK102.out)
   replace HB := q0 (below_drew1 HB.out)
   have p100 : 0 ≤ (x7_1 : Int) := of_decide_eq_true qa
   have q100 : x7_1 < (l0_1.length : Int) := of_decide_eq_true qa
   obtain ⟨ad100, e100, hx100_0, hx100_1⟩ := at_TTie HR0_1.out x7_1 p100 q100
   have hw100_1 := hx100_1
   have hw100_0 := hx100_0
   cases e100
   replace hx100_0 := (HB.out.cell (World.block_lt_of_cell? w _ hx100_0)).trans hx100_0
   replace hx100_1 := (HB.out.cell (World.block_lt_of_cell? w _ hx100_1)).trans hx100_1
   replace p100 := eq_true p100
   replace q100 := eq_true q100
   refine start_ (n := 9) (S := fun w' => w'.cell? ⟨gb102, 0, none⟩ = some (.int .i64 a0_0) ∧ w'.cell? ⟨gb102, 1, none⟩ = some (.slice (some ad100) l0_1.length c0_1) ∧ w'.cell? (ad100.add ((x7_1).toNat * 2)) = some (.int .i64 ((rd_TTie l0_1 x7_1).f0)) ∧ w'.cell? ⟨(ad100.add ((x7_1).toNat * 2)).block, (ad100.add ((x7_1).toNat * 2)).off + 1, none⟩ = some (.int .i64 ((rd_TTie l0_1 x7_1).f1))) (ds := []) (ba 9 0) (by kernel_rfl) rfl (by kernel_rfl) ⟨(blk_cell BK102.out 0).trans rfl, (blk_cell BK102.out 1).trans rfl, ((HB.out.cell (World.block_lt_of_cell? w _ hw100_0)).trans hw100_0), ((HB.out.cell (World.block_lt_of_cell? w _ hw100_1)).trans hw100_1)⟩ (fun hHeld => ?_); refine with_tabW spec_l1Has.tab4 spec_l1Has.bits4 (fun HT_ HW_ => ?_)
   generalize wr.drew = w10 at BK102 HB hx100_0 hx100_1 hHeld ⊢
   refine pu 0 (some 15) (ba 9 1) HT_.out ?_
   refine pu 2 (some 17) (ba 9 5) HT_.out ?_
   refine pu 5 (some 20) (ba 9 37) HT_.out ?_
   refine pu 6 (some 21) (ba 9 101) HT_.out ?_
   refine tu 1 (some 16) (ba 9 103) HT_.out HW_.out hHeld ?_
   refine pu 3 (some 18) (ba 9 111) HT_.out ?_
   refine tu 4 (some 19) (ba 9 127) HT_.out HW_.out hHeld ?_
   refine one_ (i := 7) (N := some 22) (ba 9 255) rfl rfl (one_of HT_.out (by kernel_rfl)) (by decide) (fun K hK => ?_)
   refine goes_ Try.func68 (by kernel_rfl) rfl #[.int .i64 a1, .int .i64 a2] (by rfl) rfl rfl qm ?_
   with_reducible refine (spec_l1Tie.calls a1 a2 t101 t103 _ A7.out).mono ?_
   rintro e w11 ⟨rfl, hb⟩
   refine ⟨_, rfl, ?_⟩
   replace BK102 := q0 (kb BK102.out hb)
   replace HB := q0 (below_step (qb HB.out) hb)
   (try clear hb)
   (try clear hb2)
   (try clear hk)
   (try clear hi)
   refine hK.out _ _ ⟨(blk_cell BK102.out 0).trans rfl, (blk_cell BK102.out 1).trans rfl, ((HB.out.cell (World.block_lt_of_cell? w _ hw100_0)).trans hw100_0), ((HB.out.cell (World.block_lt_of_cell? w _ hw100_1)).trans hw100_1)⟩ (fun hHeld => ?_)
   clear hK K
   refine nu 22 ?_
   refine pu 8 (some 23) (ba 9 511) HT_.out ?_
   refine done_ (done_of HT_.out (by kernel_rfl)) ?_
   try go_wp2
   go_ret
   exact ⟨qe, qb HB.out⟩
 rw [if_neg c8] at H
 have c8b0 : (((rd_TTie l0_1 x7_1).f0) == t101 && (((rd_TTie l0_1 x7_1).f1) == t103)) = false := by simpa using c8
 (try (have c8b1 : decide (((rd_TTie l0_1 x7_1).f0) = t101 && (((rd_TTie l0_1 x7_1).f1) == t103)) = false := by simpa using c8))
 (try (have c8b2 : (((rd_TTie l0_1 x7_1).f0) == t101 && (((rd_TTie l0_1 x7_1).f1) == t103)) = false := by simpa using c8))
 (try (have c8b3 : ¬ (((rd_TTie l0_1 x7_1).f0) = t101 && (((rd_TTie l0_1 x7_1).f1) == t103)) := by simpa using c8))
 clear c8
 have H' := Aside0.mk H
 clear H
 have hcz12_0 : wr.cell? ⟨gb102, 0, none⟩ = some (.int .i64 a0_0) := (blk_cell BK102.out 0).trans rfl
 have hcz12_1 : wr.cell? ⟨gb102, 1, none⟩ = some (.slice A0_1 l0_1.length c0_1) := (blk_cell BK102.out 1).trans rfl
 have hfz12_0 := blk_frozen BK102.out 0
 have hfz12_1 := blk_frozen BK102.out 1
 try go_wp2
 replace BK102 := q0 (blk_drew BK102.out)
 replace HB := q0 (below_drew1 HB.out)
 have p100 : 0 ≤ (x7_1 : Int) := of_decide_eq_true qa
 have q100 : x7_1 < (l0_1.length : Int) := of_decide_eq_true qa
 obtain ⟨ad100, e100, hx100_0, hx100_1⟩ := at_TTie HR0_1.out x7_1 p100 q100
 have hw100_1 := hx100_1
 have hw100_0 := hx100_0
 cases e100
 replace hx100_0 := (HB.out.cell (World.block_lt_of_cell? w _ hx100_0)).trans hx100_0
 replace hx100_1 := (HB.out.cell (World.block_lt_of_cell? w _ hx100_1)).trans hx100_1
 replace p100 := eq_true p100
 replace q100 := eq_true q100
 refine start_ (n := 9) (S := fun w' => w'.cell? ⟨gb102, 0, none⟩ = some (.int .i64 a0_0) ∧ w'.cell? ⟨gb102, 1, none⟩ = some (.slice (some ad100) l0_1.length c0_1) ∧ w'.cell? (ad100.add ((x7_1).toNat * 2)) = some (.int .i64 ((rd_TTie l0_1 x7_1).f0)) ∧ w'.cell? ⟨(ad100.add ((x7_1).toNat * 2)).block, (ad100.add ((x7_1).toNat * 2)).off + 1, none⟩ = some (.int .i64 ((rd_TTie l0_1 x7_1).f1))) (ds := []) (ba 9 0) (by kernel_rfl) rfl (by kernel_rfl) ⟨(blk_cell BK102.out 0).trans rfl, (blk_cell BK102.out 1).trans rfl, ((HB.out.cell (World.block_lt_of_cell? w _ hw100_0)).trans hw100_0), ((HB.out.cell (World.block_lt_of_cell? w _ hw100_1)).trans hw100_1)⟩ (fun hHeld => ?_); refine with_tabW spec_l1Has.tab4 spec_l1Has.bits4 (fun HT_ HW_ => ?_)
 generalize wr.drew = w13 at BK102 HB hx100_0 hx100_1 hHeld ⊢
 refine pu 0 (some 15) (ba 9 1) HT_.out ?_
 refine pu 2 (some 17) (ba 9 5) HT_.out ?_
 refine pu 5 (some 20) (ba 9 37) HT_.out ?_
 refine pu 6 (some 21) (ba 9 101) HT_.out ?_
 refine tu 1 (some 16) (ba 9 103) HT_.out HW_.out hHeld ?_
 refine pu 3 (some 18) (ba 9 111) HT_.out ?_
 refine tu 4 (some 19) (ba 9 127) HT_.out HW_.out hHeld ?_
 refine one_ (i := 7) (N := some 22) (ba 9 255) rfl rfl (one_of HT_.out (by kernel_rfl)) (by decide) (fun K hK => ?_)
 refine goes_ Try.func68 (by kernel_rfl) rfl #[.int .i64 a1, .int .i64 a2] (by rfl) rfl rfl qm ?_
 with_reducible refine (spec_l1Tie.calls a1 a2 t101 t103 _ A7.out).mono ?_
 rintro e w14 ⟨rfl, hb⟩
 refine ⟨_, rfl, ?_⟩
 replace BK102 := q0 (kb BK102.out hb)
 replace HB := q0 (below_step (qb HB.out) hb)
 (try clear hb)
 (try clear hb2)
 (try clear hk)
 (try clear hi)
 refine hK.out _ _ ⟨(blk_cell BK102.out 0).trans rfl, (blk_cell BK102.out 1).trans rfl, ((HB.out.cell (World.block_lt_of_cell? w _ hw100_0)).trans hw100_0), ((HB.out.cell (World.block_lt_of_cell? w _ hw100_1)).trans hw100_1)⟩ (fun hHeld => ?_)
 clear hK K
 refine nu 22 ?_
 refine pu 8 (some 23) (ba 9 511) HT_.out ?_
 refine done_ (done_of HT_.out (by kernel_rfl)) ?_
 try go_wp2
 go_roundg k1
 case measure => have := HK1.out; omega
 case rel => exact ⟨(wrap64 (x7_1 + 1)), qs, H', ⟨by have := HK1.out; omega⟩, ⟨qk BK102.out⟩, ⟨qb HB.out⟩⟩

set_option maxHeartbeats 8000000 in
set_option maxRecDepth 100000 in
theorem spec_NetHas.calls (k : Nat) (a0_0 : Int) (A0_1 : Option Addr) (c0_1 : Nat) (l0_1 : List (STie)) (a1 : Int) (a2 : Int) (r : Bool) (w : World) (hr0_1 : Kd.C kTie w A0_1 l0_1.length l0_1) (hc0_1 : l0_1.length ≤ c0_1) (h : spec_NetHas.f k a0_0 l0_1 a1 a2 = some r) :
    Calls Try.prog 63 #[.agg #[.int .i64 a0_0, .slice A0_1 l0_1.length c0_1], .int .i64 a1, .int .i64 a2] w fun e w' => e = .returned (.bool r) ∧ Below w.heap.size w w' := by
 have hu25 := Try.underlying25
 have HR0_1 := Aside0.mk hr0_1
 have HC0_1 := Aside0.mk hc0_1
 clear hr0_1 hc0_1
 have HB := q0 (Below.refl w.heap.size w)
 have H : ((spec_NetOk.f k a0_0 l0_1).bind fun t100 => (if t100 = true then ((spec_l1Has.f k a0_0 l0_1 a1 a2).bind fun t101 => (some t101)) else (some false))) = some r := h
 clear h
 replace H := Option.bind_eq_some_iff.mp H
 obtain ⟨t100, A40, H⟩ := H
 have A4 := Aside0.mk A40
 clear A40
 by_cases c5 : t100 = true
 rotate_left
 · replace c5 := Bool.eq_false_iff.mpr c5
   subst c5
   rw [if_neg nf] at H
   obtain rfl := Option.some.inj H
   go_enter Try.func63, Try.ntmps63
   go_wp2_with (first | ((with_reducible refine gate_dst (N := 3) rfl ?_); refine be 3 #[.int .i64 a0_0, .slice A0_1 l0_1.length c0_1] 25 ?_; intro gb102 hg w12 hbox hb; have BK102 := q0 (hbox); have GW102 := q0 ((bs HB.out hg : w.heap.size ≤ gb102)); have GE102 := q0 ((bs HB.out hg : w.heap.size ≤ gb102)); replace HB := q0 (below_step (qb HB.out) hb); clear hb hbox hg; have hcz13_0 : w12.cell? ⟨gb102, 0, none⟩ = some (.int .i64 a0_0) := (blk_cell BK102.out 0).trans rfl; have hcz13_1 : w12.cell? ⟨gb102, 1, none⟩ = some (.slice A0_1 l0_1.length c0_1) := (blk_cell BK102.out 1).trans rfl; have hfz13_0 := blk_frozen BK102.out 0; have hfz13_1 := blk_frozen BK102.out 1) | ((with_reducible refine gate_callee (f := 49) rfl ?_); refine gl 8 Try.func49 #[.agg #[.int .i64 a0_0, .slice A0_1 l0_1.length c0_1]] ?_; (with_reducible refine (spec_NetOk.calls k a0_0 _ _ l0_1 false _ ?side1 ?side2 A4.out).mono ?_); (case side1 => exact qc (Kd.C_below HR0_1.out HB.out)); (case side2 => exact HC0_1.out); rintro e w14 ⟨rfl, hb⟩; refine ⟨_, rfl, ?_⟩; replace BK102 := q0 (kb BK102.out hb); replace HB := q0 (below_step (qb HB.out) hb); (try clear hb); (try clear hb2); (try clear hk); (try clear hi)))
   go_ret
   exact ⟨qe, qb HB.out⟩
 subst c5
 rw [if_pos rfl] at H
 replace H := Option.bind_eq_some_iff.mp H
 obtain ⟨t101, A60, H⟩ := H
 have A6 := Aside0.mk A60
 clear A60
 obtain rfl := Option.some.inj H
 go_enter Try.func63, Try.ntmps63
 go_wp2_with (first | ((with_reducible refine gate_dst (N := 3) rfl ?_); refine be 3 #[.int .i64 a0_0, .slice A0_1 l0_1.length c0_1] 25 ?_; intro gb102 hg w7 hbox hb; have BK102 := q0 (hbox); have GW102 := q0 ((bs HB.out hg : w.heap.size ≤ gb102)); have GE102 := q0 ((bs HB.out hg : w.heap.size ≤ gb102)); replace HB := q0 (below_step (qb HB.out) hb); clear hb hbox hg; have hcz8_0 : w7.cell? ⟨gb102, 0, none⟩ = some (.int .i64 a0_0) := (blk_cell BK102.out 0).trans rfl; have hcz8_1 : w7.cell? ⟨gb102, 1, none⟩ = some (.slice A0_1 l0_1.length c0_1) := (blk_cell BK102.out 1).trans rfl; have hfz8_0 := blk_frozen BK102.out 0; have hfz8_1 := blk_frozen BK102.out 1) | ((with_reducible refine gate_callee (f := 49) rfl ?_); refine gl 8 Try.func49 #[.agg #[.int .i64 a0_0, .slice A0_1 l0_1.length c0_1]] ?_; (with_reducible refine (spec_NetOk.calls k a0_0 _ _ l0_1 true _ ?side1 ?side2 A4.out).mono ?_); (case side1 => exact qc (Kd.C_below HR0_1.out HB.out)); (case side2 => exact HC0_1.out); rintro e w9 ⟨rfl, hb⟩; refine ⟨_, rfl, ?_⟩; replace BK102 := q0 (kb BK102.out hb); replace HB := q0 (below_step (qb HB.out) hb); (try clear hb); (try clear hb2); (try clear hk); (try clear hi); have hcz10_0 : w9.cell? ⟨gb102, 0, none⟩ = some (.int .i64 a0_0) := (blk_cell BK102.out 0).trans rfl; have hcz10_1 : w9.cell? ⟨gb102, 1, none⟩ = some (.slice A0_1 l0_1.length c0_1) := (blk_cell BK102.out 1).trans rfl; have hfz10_0 := blk_frozen BK102.out 0; have hfz10_1 := blk_frozen BK102.out 1) | (go_at_call 80; (with_reducible refine (spec_l1Has.calls k a0_0 _ _ l0_1 a1 a2 t101 _ ?side1 ?side2 A6.out).mono ?_); (case side1 => exact qc (Kd.C_below HR0_1.out HB.out)); (case side2 => exact HC0_1.out); rintro e w11 ⟨rfl, hb⟩; replace BK102 := q0 (kb BK102.out hb); replace HB := q0 (below_step (qb HB.out) hb); (try clear hb); (try clear hb2); (try clear hk); (try clear hi)))
 go_ret
 exact ⟨qe, qb HB.out⟩

set_option maxHeartbeats 8000000 in
set_option maxRecDepth 100000 in
theorem spec_l1Knot.calls (k : Nat) (a0_0 : Int) (A0_1 : Option Addr) (c0_1 : Nat) (l0_1 : List (STie)) (a1 : Int) (r : Bool) (w : World) (hr0_1 : Kd.C kTie w A0_1 l0_1.length l0_1) (hc0_1 : l0_1.length ≤ c0_1) (h : spec_l1Knot.f k a0_0 l0_1 a1 = some r) :
    Calls Try.prog 67 #[.agg #[.int .i64 a0_0, .slice A0_1 l0_1.length c0_1], .int .i64 a1] w fun e w' => e = .returned (.bool r) ∧ Below w.heap.size w w' := by
 have hu25 := Try.underlying25
 have HR0_1 := Aside0.mk hr0_1
 have HC0_1 := Aside0.mk hc0_1
 clear hr0_1 hc0_1
 have HB := q0 (Below.refl w.heap.size w)
 have H : ((spec_NetOk.f k a0_0 l0_1).bind fun t100 => (if t100 = true then ((spec_l6In.f a1 0 (wrap64 (a0_0 - 1))).bind fun t101 => (some t101)) else (some false))) = some r := h
 clear h
 replace H := Option.bind_eq_some_iff.mp H
 obtain ⟨t100, A30, H⟩ := H
 have A3 := Aside0.mk A30
 clear A30
 by_cases c4 : t100 = true
 rotate_left
 · replace c4 := Bool.eq_false_iff.mpr c4
   subst c4
   rw [if_neg nf] at H
   obtain rfl := Option.some.inj H
   go_enter Try.func67, Try.ntmps67
   go_wp2_with (first | ((with_reducible refine gate_dst (N := 2) rfl ?_); refine be 2 #[.int .i64 a0_0, .slice A0_1 l0_1.length c0_1] 25 ?_; intro gb102 hg w10 hbox hb; have BK102 := q0 (hbox); have GW102 := q0 ((bs HB.out hg : w.heap.size ≤ gb102)); have GE102 := q0 ((bs HB.out hg : w.heap.size ≤ gb102)); replace HB := q0 (below_step (qb HB.out) hb); clear hb hbox hg; have hcz11_0 : w10.cell? ⟨gb102, 0, none⟩ = some (.int .i64 a0_0) := (blk_cell BK102.out 0).trans rfl; have hcz11_1 : w10.cell? ⟨gb102, 1, none⟩ = some (.slice A0_1 l0_1.length c0_1) := (blk_cell BK102.out 1).trans rfl; have hfz11_0 := blk_frozen BK102.out 0; have hfz11_1 := blk_frozen BK102.out 1) | ((with_reducible refine gate_callee (f := 49) rfl ?_); refine gl 6 Try.func49 #[.agg #[.int .i64 a0_0, .slice A0_1 l0_1.length c0_1]] ?_; (with_reducible refine (spec_NetOk.calls k a0_0 _ _ l0_1 false _ ?side1 ?side2 A3.out).mono ?_); (case side1 => exact qc (Kd.C_below HR0_1.out HB.out)); (case side2 => exact HC0_1.out); rintro e w12 ⟨rfl, hb⟩; refine ⟨_, rfl, ?_⟩; replace BK102 := q0 (kb BK102.out hb); replace HB := q0 (below_step (qb HB.out) hb); (try clear hb); (try clear hb2); (try clear hk); (try clear hi)))
   go_ret
   exact ⟨qe, qb HB.out⟩
 subst c4
 rw [if_pos rfl] at H
 replace H := Option.bind_eq_some_iff.mp H
 obtain ⟨t101, A50, H⟩ := H
 have A5 := Aside0.mk A50
 clear A50
 obtain rfl := Option.some.inj H
 go_enter Try.func67, Try.ntmps67
 go_wp2_with (first | ((with_reducible refine gate_dst (N := 2) rfl ?_); refine be 2 #[.int .i64 a0_0, .slice A0_1 l0_1.length c0_1] 25 ?_; intro gb102 hg w6 hbox hb; have BK102 := q0 (hbox); have GW102 := q0 ((bs HB.out hg : w.heap.size ≤ gb102)); have GE102 := q0 ((bs HB.out hg : w.heap.size ≤ gb102)); replace HB := q0 (below_step (qb HB.out) hb); clear hb hbox hg; have hcz7_0 : w6.cell? ⟨gb102, 0, none⟩ = some (.int .i64 a0_0) := (blk_cell BK102.out 0).trans rfl; have hcz7_1 : w6.cell? ⟨gb102, 1, none⟩ = some (.slice A0_1 l0_1.length c0_1) := (blk_cell BK102.out 1).trans rfl; have hfz7_0 := blk_frozen BK102.out 0; have hfz7_1 := blk_frozen BK102.out 1) | ((with_reducible refine gate_callee (f := 49) rfl ?_); refine gl 6 Try.func49 #[.agg #[.int .i64 a0_0, .slice A0_1 l0_1.length c0_1]] ?_; (with_reducible refine (spec_NetOk.calls k a0_0 _ _ l0_1 true _ ?side1 ?side2 A3.out).mono ?_); (case side1 => exact qc (Kd.C_below HR0_1.out HB.out)); (case side2 => exact HC0_1.out); rintro e w8 ⟨rfl, hb⟩; refine ⟨_, rfl, ?_⟩; replace BK102 := q0 (kb BK102.out hb); replace HB := q0 (below_step (qb HB.out) hb); (try clear hb); (try clear hb2); (try clear hk); (try clear hi); have hcz9_0 : w8.cell? ⟨gb102, 0, none⟩ = some (.int .i64 a0_0) := (blk_cell BK102.out 0).trans rfl; have hcz9_1 : w8.cell? ⟨gb102, 1, none⟩ = some (.slice A0_1 l0_1.length c0_1) := (blk_cell BK102.out 1).trans rfl; have hfz9_0 := blk_frozen BK102.out 0; have hfz9_1 := blk_frozen BK102.out 1) | (go_at_call 88; (with_reducible refine (spec_l6In.calls a1 0 (wrap64 (a0_0 - 1)) t101 _ A5.out).mono ?_); rintro e w' ⟨rfl, ⟨nd, rfl⟩⟩))
 go_ret
 exact ⟨qe, qb HB.out⟩

def spec_NetAdd.T9 : Bool × List (List Nat × List Nat) := (true, [([], []), ([0], [0]), ([1], [1]), ([2], [2]), ([2], [2]), ([4, 2], [2, 4]), ([2], [2]), ([5, 6, 2], [2, 5, 6]), ([7, 2], [2, 7]), ([3, 8, 2, 2], [2, 3, 8]), ([2, 9], [2, 9])])
def spec_NetAdd.B9 : List Nat := [0, 1, 3, 7, 7, 23, 7, 119, 247, 511, 1023]
theorem spec_NetAdd.tab9 : rtab .any (opsOf Try.f27 9) = spec_NetAdd.T9 := by kernel_rfl
theorem spec_NetAdd.bits9 : waitsOk spec_NetAdd.T9.2 spec_NetAdd.B9 = true := by kernel_rfl
def spec_NetAdd.T12 : Bool × List (List Nat × List Nat) := (true, [([], []), ([0], [0]), ([], []), ([2], [2]), ([], []), ([3, 4], [3, 4]), ([5], [5]), ([6], [6]), ([1, 7], [1, 7]), ([0, 1, 2, 3, 4, 5, 6, 7, 8], []), ([9, 8, 8, 0, 1, 2, 3, 4, 5, 6, 7, 8], [8, 9])])
def spec_NetAdd.B12 : List Nat := [0, 1, 0, 4, 0, 28, 60, 124, 255, 511, 1023]
theorem spec_NetAdd.tab12 : rtab .any (opsOf Try.f27 12) = spec_NetAdd.T12 := by kernel_rfl
theorem spec_NetAdd.bits12 : waitsOk spec_NetAdd.T12.2 spec_NetAdd.B12 = true := by kernel_rfl
set_option maxHeartbeats 8000000 in
set_option maxRecDepth 100000 in
theorem spec_NetAdd.calls (k : Nat) (a0_0 : Int) (A0_1 : Option Addr) (c0_1 : Nat) (l0_1 : List (STie)) (a1 : Int) (a2 : Int) (r1 : Int) (r2 : List (STie)) (r3 : Bool) (w : World) (hr0_1 : Kd.C kTie w A0_1 l0_1.length l0_1) (hc0_1 : l0_1.length ≤ c0_1) (h : spec_NetAdd.f k a0_0 l0_1 a1 a2 = some (r1, r2, r3)) :
    Calls Try.prog 27 #[.agg #[.int .i64 a0_0, .slice A0_1 l0_1.length c0_1], .int .i64 a1, .int .i64 a2] w fun e w' => ∃ v1_ : Value, e = .returned (.tuple #[.agg #[.int .i64 r1, v1_], .bool r3]) ∧ Kd.R kTie 32 w' w.heap.size (fun _ => True) v1_ r2 ∧ Below w.heap.size w w' := by
 have hu25 := Try.underlying25
 have hu32 := Try.underlying32
 have HR0_1 := Aside0.mk hr0_1
 have HC0_1 := Aside0.mk hc0_1
 clear hr0_1 hc0_1
 have HB := q0 (Below.refl w.heap.size w)
 have H : ((spec_l1Knot.f k a0_0 l0_1 a1).bind fun t105 => (if t105 = true then ((spec_l1Knot.f k a0_0 l0_1 a2).bind fun t106 => (if t106 = true then (if a1 = a2 then (spec_NetAdd.j0 k a1 a2 true a0_0 l0_1) else ((spec_NetHas.f k a0_0 l0_1 a1 a2).bind fun t107 => (spec_NetAdd.j0 k a1 a2 t107 a0_0 l0_1))) else (spec_NetAdd.j0 k a1 a2 true a0_0 l0_1))) else (spec_NetAdd.j0 k a1 a2 true a0_0 l0_1))) = some (r1, r2, r3) := h
 clear h
 have HC4 := Aside0.mk H
 clear H
 go_enter Try.func27, Try.ntmps27
 go_upto_region 1 with (first | ((with_reducible refine gate_dst (N := 3) rfl ?_); refine be 3 #[.int .i64 a0_0, .slice A0_1 l0_1.length c0_1] 25 ?_; intro gb108 hg w5 hbox hb; have BK108 := q0 (hbox); have GW108 := q0 ((bs HB.out hg : w.heap.size ≤ gb108)); have GE108 := q0 ((bs HB.out hg : w.heap.size ≤ gb108)); replace HB := q0 (below_step (qb HB.out) hb); clear hb hbox hg) | ((with_reducible refine gate_dst (N := 6) rfl ?_); refine be 6 #[.int .i64 0, .slice none 0 0] 25 ?_; intro gb100 hg w6 hbox hb; have BK100 := q0 (hbox); have GW100 := q0 ((bs HB.out hg : w.heap.size ≤ gb100)); have GE100 := q0 ((bs HB.out hg : w.heap.size ≤ gb100)); replace HB := q0 (below_step (qb HB.out) hb); have NB108_100 := q0 ((bl BK108.out hg : gb108 ≠ gb100)); have NB100_108 := q0 ((bg BK108.out hg : gb100 ≠ gb108)); replace BK108 := q0 (kb BK108.out hb); clear hb hbox hg))
 (try simp only [Act.put, List.setIfInBounds_toArray, List.set_cons_zero, List.set_cons_succ])
 go_cut [32] (fun v32 wc => ∃ (kq : Nat) (x32_3 : Bool), v32 = .bool x32_3 ∧ Aside0 (spec_NetAdd.j0 kq a1 a2 x32_3 a0_0 l0_1 = some (r1, r2, r3)) ∧ Aside0 (kq ≤ k) ∧ Aside0 (wc.heap[gb108]? = some (.cells #[.int .i64 a0_0, (.slice A0_1 l0_1.length c0_1)] 25 (0, 0))) ∧ Aside0 (wc.heap[gb100]? = some (.cells #[.int .i64 0, (.slice none 0 0)] 25 (0, 0))) ∧ Aside0 (Below w.heap.size w wc))
 case first =>
   have H := HC4.out
   clear HC4
   replace H := Option.bind_eq_some_iff.mp H
   obtain ⟨t105, A70, H⟩ := H
   have A7 := Aside0.mk A70
   clear A70
   by_cases c8 : t105 = true
   rotate_left
   · replace c8 := Bool.eq_false_iff.mpr c8
     subst c8
     rw [if_neg nf] at H
     have H' := Aside0.mk H
     clear H
     have hnb30 := NB108_100.out
     have hnc30 := NB100_108.out
     have hcz31_0 : w6.cell? ⟨gb108, 0, none⟩ = some (.int .i64 a0_0) := (blk_cell BK108.out 0).trans rfl
     have hcz31_1 : w6.cell? ⟨gb108, 1, none⟩ = some (.slice A0_1 l0_1.length c0_1) := (blk_cell BK108.out 1).trans rfl
     have hfz31_0 := blk_frozen BK108.out 0
     have hfz31_1 := blk_frozen BK108.out 1
     go_wp2_with (first | ((with_reducible refine gate_callee (f := 67) rfl ?_); refine gl 14 Try.func67 #[.agg #[.int .i64 a0_0, .slice A0_1 l0_1.length c0_1], .int .i64 a1] ?_; (with_reducible refine (spec_l1Knot.calls k a0_0 _ _ l0_1 a1 false _ ?side1 ?side2 A7.out).mono ?_); (case side1 => exact qc (Kd.C_below HR0_1.out HB.out)); (case side2 => exact HC0_1.out); rintro e w32 ⟨rfl, hb⟩; refine ⟨_, rfl, ?_⟩; replace BK108 := q0 (kb BK108.out hb); replace BK100 := q0 (kb BK100.out hb); replace HB := q0 (below_step (qb HB.out) hb); (try clear hb); (try clear hb2); (try clear hk); (try clear hi)))
     go_meet
     case rel => exact ⟨_, (true), qs, H', ⟨by first | omega | exact Nat.le_refl _⟩, ⟨qk BK108.out⟩, ⟨qk BK100.out⟩, ⟨qb HB.out⟩⟩
   subst c8
   rw [if_pos rfl] at H
   replace H := Option.bind_eq_some_iff.mp H
   obtain ⟨t106, A90, H⟩ := H
   have A9 := Aside0.mk A90
   clear A90
   by_cases c10 : t106 = true
   rotate_left
   · replace c10 := Bool.eq_false_iff.mpr c10
     subst c10
     rw [if_neg nf] at H
     have H' := Aside0.mk H
     clear H
     have hnb25 := NB108_100.out
     have hnc25 := NB100_108.out
     have hcz26_0 : w6.cell? ⟨gb108, 0, none⟩ = some (.int .i64 a0_0) := (blk_cell BK108.out 0).trans rfl
     have hcz26_1 : w6.cell? ⟨gb108, 1, none⟩ = some (.slice A0_1 l0_1.length c0_1) := (blk_cell BK108.out 1).trans rfl
     have hfz26_0 := blk_frozen BK108.out 0
     have hfz26_1 := blk_frozen BK108.out 1
     go_wp2_with (first | ((with_reducible refine gate_callee (f := 67) rfl ?_); refine gl 14 Try.func67 #[.agg #[.int .i64 a0_0, .slice A0_1 l0_1.length c0_1], .int .i64 a1] ?_; (with_reducible refine (spec_l1Knot.calls k a0_0 _ _ l0_1 a1 true _ ?side1 ?side2 A7.out).mono ?_); (case side1 => exact qc (Kd.C_below HR0_1.out HB.out)); (case side2 => exact HC0_1.out); rintro e w27 ⟨rfl, hb⟩; refine ⟨_, rfl, ?_⟩; replace BK108 := q0 (kb BK108.out hb); replace BK100 := q0 (kb BK100.out hb); replace HB := q0 (below_step (qb HB.out) hb); (try clear hb); (try clear hb2); (try clear hk); (try clear hi); have hcz28_0 : w27.cell? ⟨gb108, 0, none⟩ = some (.int .i64 a0_0) := (blk_cell BK108.out 0).trans rfl; have hcz28_1 : w27.cell? ⟨gb108, 1, none⟩ = some (.slice A0_1 l0_1.length c0_1) := (blk_cell BK108.out 1).trans rfl; have hfz28_0 := blk_frozen BK108.out 0; have hfz28_1 := blk_frozen BK108.out 1) | (go_at_call 67; (with_reducible refine (spec_l1Knot.calls k a0_0 _ _ l0_1 a2 false _ ?side1 ?side2 A9.out).mono ?_); (case side1 => exact qc (Kd.C_below HR0_1.out HB.out)); (case side2 => exact HC0_1.out); rintro e w29 ⟨rfl, hb⟩; replace BK108 := q0 (kb BK108.out hb); replace BK100 := q0 (kb BK100.out hb); replace HB := q0 (below_step (qb HB.out) hb); (try clear hb); (try clear hb2); (try clear hk); (try clear hi)))
     go_meet
     case rel => exact ⟨_, (true), qs, H', ⟨by first | omega | exact Nat.le_refl _⟩, ⟨qk BK108.out⟩, ⟨qk BK100.out⟩, ⟨qb HB.out⟩⟩
   subst c10
   rw [if_pos rfl] at H
   by_cases c11 : a1 = a2
   · rw [if_pos c11] at H
     have c11b0 : (a1 == a2) = true := beq_iff_eq.mpr c11
     have c11b1 : (a1 != a2) = false := bne_eq_false_iff_eq.mpr c11
     clear c11
     (first | rw [c11b0] | (simp only [i64_w, i32_w]; rw [c11b0]) | skip)
     have H' := Aside0.mk H
     clear H
     have hnb12 := NB108_100.out
     have hnc12 := NB100_108.out
     have hcz13_0 : w6.cell? ⟨gb108, 0, none⟩ = some (.int .i64 a0_0) := (blk_cell BK108.out 0).trans rfl
     have hcz13_1 : w6.cell? ⟨gb108, 1, none⟩ = some (.slice A0_1 l0_1.length c0_1) := (blk_cell BK108.out 1).trans rfl
     have hfz13_0 := blk_frozen BK108.out 0
     have hfz13_1 := blk_frozen BK108.out 1
     go_wp2_with (first | ((with_reducible refine gate_callee (f := 67) rfl ?_); refine gl 14 Try.func67 #[.agg #[.int .i64 a0_0, .slice A0_1 l0_1.length c0_1], .int .i64 a1] ?_; (with_reducible refine (spec_l1Knot.calls k a0_0 _ _ l0_1 a1 true _ ?side1 ?side2 A7.out).mono ?_); (case side1 => exact qc (Kd.C_below HR0_1.out HB.out)); (case side2 => exact HC0_1.out); rintro e w14 ⟨rfl, hb⟩; refine ⟨_, rfl, ?_⟩; replace BK108 := q0 (kb BK108.out hb); replace BK100 := q0 (kb BK100.out hb); replace HB := q0 (below_step (qb HB.out) hb); (try clear hb); (try clear hb2); (try clear hk); (try clear hi); have hcz15_0 : w14.cell? ⟨gb108, 0, none⟩ = some (.int .i64 a0_0) := (blk_cell BK108.out 0).trans rfl; have hcz15_1 : w14.cell? ⟨gb108, 1, none⟩ = some (.slice A0_1 l0_1.length c0_1) := (blk_cell BK108.out 1).trans rfl; have hfz15_0 := blk_frozen BK108.out 0; have hfz15_1 := blk_frozen BK108.out 1) | (go_at_call 67; (with_reducible refine (spec_l1Knot.calls k a0_0 _ _ l0_1 a2 true _ ?side1 ?side2 A9.out).mono ?_); (case side1 => exact qc (Kd.C_below HR0_1.out HB.out)); (case side2 => exact HC0_1.out); rintro e w16 ⟨rfl, hb⟩; replace BK108 := q0 (kb BK108.out hb); replace BK100 := q0 (kb BK100.out hb); replace HB := q0 (below_step (qb HB.out) hb); (try clear hb); (try clear hb2); (try clear hk); (try clear hi)))
     go_meet
     case rel => exact ⟨_, (true), qs, H', ⟨by first | omega | exact Nat.le_refl _⟩, ⟨qk BK108.out⟩, ⟨qk BK100.out⟩, ⟨qb HB.out⟩⟩
   rw [if_neg c11] at H
   have c11b0 : (a1 == a2) = false := beq_eq_false_iff_ne.mpr c11
   have c11b1 : (a1 != a2) = true := bne_iff_ne.mpr c11
   (first | rw [c11b0] | (simp only [i64_w, i32_w]; rw [c11b0]) | skip)
   replace H := Option.bind_eq_some_iff.mp H
   obtain ⟨t107, A109, H⟩ := H
   have A17 := Aside0.mk A109
   clear A109
   have H' := Aside0.mk H
   clear H
   have hnb18 := NB108_100.out
   have hnc18 := NB100_108.out
   have hcz19_0 : w6.cell? ⟨gb108, 0, none⟩ = some (.int .i64 a0_0) := (blk_cell BK108.out 0).trans rfl
   have hcz19_1 : w6.cell? ⟨gb108, 1, none⟩ = some (.slice A0_1 l0_1.length c0_1) := (blk_cell BK108.out 1).trans rfl
   have hfz19_0 := blk_frozen BK108.out 0
   have hfz19_1 := blk_frozen BK108.out 1
   go_wp2_with (first | ((with_reducible refine gate_callee (f := 67) rfl ?_); refine gl 14 Try.func67 #[.agg #[.int .i64 a0_0, .slice A0_1 l0_1.length c0_1], .int .i64 a1] ?_; (with_reducible refine (spec_l1Knot.calls k a0_0 _ _ l0_1 a1 true _ ?side1 ?side2 A7.out).mono ?_); (case side1 => exact qc (Kd.C_below HR0_1.out HB.out)); (case side2 => exact HC0_1.out); rintro e w20 ⟨rfl, hb⟩; refine ⟨_, rfl, ?_⟩; replace BK108 := q0 (kb BK108.out hb); replace BK100 := q0 (kb BK100.out hb); replace HB := q0 (below_step (qb HB.out) hb); (try clear hb); (try clear hb2); (try clear hk); (try clear hi); have hcz21_0 : w20.cell? ⟨gb108, 0, none⟩ = some (.int .i64 a0_0) := (blk_cell BK108.out 0).trans rfl; have hcz21_1 : w20.cell? ⟨gb108, 1, none⟩ = some (.slice A0_1 l0_1.length c0_1) := (blk_cell BK108.out 1).trans rfl; have hfz21_0 := blk_frozen BK108.out 0; have hfz21_1 := blk_frozen BK108.out 1) | (go_at_call 67; (with_reducible refine (spec_l1Knot.calls k a0_0 _ _ l0_1 a2 true _ ?side1 ?side2 A9.out).mono ?_); (case side1 => exact qc (Kd.C_below HR0_1.out HB.out)); (case side2 => exact HC0_1.out); rintro e w22 ⟨rfl, hb⟩; replace BK108 := q0 (kb BK108.out hb); replace BK100 := q0 (kb BK100.out hb); replace HB := q0 (below_step (qb HB.out) hb); (try clear hb); (try clear hb2); (try clear hk); (try clear hi); have hcz23_0 : w22.cell? ⟨gb108, 0, none⟩ = some (.int .i64 a0_0) := (blk_cell BK108.out 0).trans rfl; have hcz23_1 : w22.cell? ⟨gb108, 1, none⟩ = some (.slice A0_1 l0_1.length c0_1) := (blk_cell BK108.out 1).trans rfl; have hfz23_0 := blk_frozen BK108.out 0; have hfz23_1 := blk_frozen BK108.out 1) | (go_at_call 63; (with_reducible refine (spec_NetHas.calls k a0_0 _ _ l0_1 a1 a2 t107 _ ?side1 ?side2 A17.out).mono ?_); (case side1 => exact qc (Kd.C_below HR0_1.out HB.out)); (case side2 => exact HC0_1.out); rintro e w24 ⟨rfl, hb⟩; replace BK108 := q0 (kb BK108.out hb); replace BK100 := q0 (kb BK100.out hb); replace HB := q0 (below_step (qb HB.out) hb); (try clear hb); (try clear hb2); (try clear hk); (try clear hi)))
   go_meet
   case rel => exact ⟨_, (t107), qs, H', ⟨by first | omega | exact Nat.le_refl _⟩, ⟨qk BK108.out⟩, ⟨qk BK100.out⟩, ⟨qb HB.out⟩⟩
 clear HC4
 try clear c1
 try clear c2
 try clear p2
 try clear c3
 try clear c6
 try clear c8
 try clear c10
 try clear c11
 try clear c11b0
 try clear c11b1
 try clear c12
 try clear c18
 try clear c25
 try clear c27
 try clear c30
 try clear hcz13_0
 try clear hcz13_1
 try clear hcz15_0
 try clear hcz15_1
 try clear hcz19_0
 try clear hcz19_1
 try clear hcz21_0
 try clear hcz21_1
 try clear hcz23_0
 try clear hcz23_1
 try clear hcz26_0
 try clear hcz26_1
 try clear hcz28_0
 try clear hcz28_1
 try clear hcz31_0
 try clear hcz31_1
 try clear hfz13_0
 try clear hfz13_1
 try clear hfz15_0
 try clear hfz15_1
 try clear hfz19_0
 try clear hfz19_1
 try clear hfz21_0
 try clear hfz21_1
 try clear hfz23_0
 try clear hfz23_1
 try clear hfz26_0
 try clear hfz26_1
 try clear hfz28_0
 try clear hfz28_1
 try clear hfz31_0
 try clear hfz31_1
 obtain ⟨kq, x32_3, rfl, HA, HJ3, BK108, BK100, HB⟩ := hcut
 rcases kq with _ | kj3
 · exact absurd HA.out (by simp [spec_NetAdd.j0])
 have H := HA.out
 clear HA
 simp only [spec_NetAdd.j0] at H
 by_cases c33 : x32_3 = true
 · subst c33
   rw [if_pos rfl] at H
   simp only [Option.some.injEq, Prod.mk.injEq] at H
   obtain ⟨rfl, rfl, rfl⟩ := H
   have hnb34 := NB100_108.out
   have hnc34 := NB108_100.out
   have hcz35_0 : wc.cell? ⟨gb100, 0, none⟩ = some (.int .i64 0) := (blk_cell BK100.out 0).trans rfl
   have hcz35_1 : wc.cell? ⟨gb100, 1, none⟩ = some (.slice none 0 0) := (blk_cell BK100.out 1).trans rfl
   have hfz35_0 := blk_frozen BK100.out 0
   have hfz35_1 := blk_frozen BK100.out 1
   go_wp2
   refine bodyPost_ret (results_ct rfl _ _ gb100 25 #[.int .i64 0, .slice none 0 0] (0, 0) _ rfl (by (with_reducible repeat (first | refine blk_drewN ?_ _ | refine blk_drew ?_ | refine blk_alloc ?_ _)); refine blk_put (cs := #[.int .i64 0, .slice none 0 0]) ?_ 1 _ rfl; (with_reducible repeat (first | refine blk_drewN ?_ _ | refine blk_drew ?_ | refine blk_alloc ?_ _)); refine blk_put (cs := #[.int .i64 0, .slice none 0 0]) ?_ 0 _ rfl; (with_reducible repeat (first | refine blk_drewN ?_ _ | refine blk_drew ?_ | refine blk_alloc ?_ _)); exact BK100.out) Try.underlying25 rfl (by kernel_rfl)) rfl ?_
   exact ⟨_, qe, by first | exact Kd.R_nil _ _ _ _ _ | exact Kd.N_nil _ _ _ _ _ | exact Kd.V_nil _ _ _ _ _ | exact Kd.Q_nil _ _ _ _ _ | exact Kd.S_nil _ _ _ _ _, qb HB.out⟩
 replace c33 := Bool.eq_false_iff.mpr c33
 subst c33
 rw [if_neg nf] at H
 replace H := Option.bind_eq_some_iff.mp H
 obtain ⟨⟨t101, t110⟩, A111, H⟩ := H
 have A36 := Aside0.mk A111
 clear A111
 have H' := Aside0.mk H
 clear H
 have hnb37 := NB108_100.out
 have hnc37 := NB100_108.out
 have hcz38_0 : wc.cell? ⟨gb108, 0, none⟩ = some (.int .i64 a0_0) := (blk_cell BK108.out 0).trans rfl
 have hcz38_1 : wc.cell? ⟨gb108, 1, none⟩ = some (.slice A0_1 l0_1.length c0_1) := (blk_cell BK108.out 1).trans rfl
 have hfz38_0 := blk_frozen BK108.out 0
 have hfz38_1 := blk_frozen BK108.out 1
 go_wp2_with (first | ((with_reducible refine gate_dst (N := 8) rfl ?_); refine be 8 #[.int .i64 0, .slice none 0 0] 25 ?_; intro gb112 hg w39 hbox hb; have BK112 := q0 (hbox); have GW112 := q0 ((bs HB.out hg : w.heap.size ≤ gb112)); have GE112 := q0 ((bs HB.out hg : w.heap.size ≤ gb112)); replace HB := q0 (below_step (qb HB.out) hb); have NB108_112 := q0 ((bl BK108.out hg : gb108 ≠ gb112)); have NB112_108 := q0 ((bg BK108.out hg : gb112 ≠ gb108)); replace BK108 := q0 (kb BK108.out hb); have NB100_112 := q0 ((bl BK100.out hg : gb100 ≠ gb112)); have NB112_100 := q0 ((bg BK100.out hg : gb112 ≠ gb100)); replace BK100 := q0 (kb BK100.out hb); clear hb hbox hg; have hnb40 := NB112_108.out; have hnc40 := NB108_112.out; have hnb41 := NB112_100.out; have hnc41 := NB100_112.out; have hcz42_0 : w39.cell? ⟨gb112, 0, none⟩ = some (.int .i64 0) := (blk_cell BK112.out 0).trans rfl; have hcz42_1 : w39.cell? ⟨gb112, 1, none⟩ = some (.slice none 0 0) := (blk_cell BK112.out 1).trans rfl; have hfz42_0 := blk_frozen BK112.out 0; have hfz42_1 := blk_frozen BK112.out 1) | ((with_reducible refine gate_callee (f := 68) rfl ?_); refine gl 39 Try.func68 #[.int .i64 a1, .int .i64 a2] ?_; (with_reducible refine (spec_l1Tie.calls a1 a2 t101 t110 _ A36.out).mono ?_); rintro e w43 ⟨rfl, hb⟩; refine ⟨_, rfl, ?_⟩; replace BK108 := q0 (kf BK108.out hb); replace BK100 := q0 (kf BK100.out hb); replace BK112 := q0 (blk_below (g := gb112) (o := .cells #[.int .i64 a0_0, .slice none 0 0] 25 (0, 0)) (by (with_reducible repeat (first | refine blk_drewN ?_ _ | refine blk_drew ?_ | refine blk_alloc ?_ _)); refine blk_put (cs := #[.int .i64 a0_0, .slice none 0 0]) ?_ 1 _ rfl; (with_reducible repeat (first | refine blk_drewN ?_ _ | refine blk_drew ?_ | refine blk_alloc ?_ _)); refine blk_put (cs := #[.int .i64 0, .slice none 0 0]) ?_ 0 _ rfl; (with_reducible repeat (first | refine blk_drewN ?_ _ | refine blk_drew ?_ | refine blk_alloc ?_ _)); exact BK112.out) hb); replace HB := q0 (below_step (qb HB.out) hb); (try clear hb); (try clear hb2); (try clear hk); (try clear hi)) | ((with_reducible refine gate_dst (N := 9) rfl ?_); refine be 9 #[.int .i64 0, .int .i64 0] 32 ?_; intro gb113 hg w44 hbox hb; have BK113 := q0 (hbox); have GW113 := q0 ((bs HB.out hg : w.heap.size ≤ gb113)); have GE113 := q0 ((bs HB.out hg : w.heap.size ≤ gb113)); replace HB := q0 (below_step (qb HB.out) hb); have NB108_113 := q0 ((bl BK108.out hg : gb108 ≠ gb113)); have NB113_108 := q0 ((bg BK108.out hg : gb113 ≠ gb108)); replace BK108 := q0 (kb BK108.out hb); have NB100_113 := q0 ((bl BK100.out hg : gb100 ≠ gb113)); have NB113_100 := q0 ((bg BK100.out hg : gb113 ≠ gb100)); replace BK100 := q0 (kb BK100.out hb); have NB112_113 := q0 ((bl BK112.out hg : gb112 ≠ gb113)); have NB113_112 := q0 ((bg BK112.out hg : gb113 ≠ gb112)); replace BK112 := q0 (kb BK112.out hb); clear hb hbox hg; have hnb45 := NB113_108.out; have hnc45 := NB108_113.out; have hnb46 := NB113_100.out; have hnc46 := NB100_113.out; have hnb47 := NB113_112.out; have hnc47 := NB112_113.out; have hcz48_0 : w44.cell? ⟨gb113, 0, none⟩ = some (.int .i64 0) := (blk_cell BK113.out 0).trans rfl; have hcz48_1 : w44.cell? ⟨gb113, 1, none⟩ = some (.int .i64 0) := (blk_cell BK113.out 1).trans rfl; have hfz48_0 := blk_frozen BK113.out 0; have hfz48_1 := blk_frozen BK113.out 1))
 go_loopg [10, 11] kj3 (fun kq v10 v11 w' => ∃ (x10_2 : Bool) (x11_2 : Int) (x101001_2 : List (STie)) (u101001 : Value), v10 = .bool x10_2 ∧ v11 = .int .i64 x11_2 ∧ Aside0 (spec_NetAdd.l0 kq x10_2 x11_2 a0_0 l0_1 a0_0 x101001_2 t101 t110 = some (r1, r2, r3)) ∧ Aside0 (kq ≤ kj3) ∧ Aside0 (Kd.R kTie 32 w' w.heap.size (fun k_ => k_ ≠ gb113) u101001 x101001_2) ∧ Aside0 (w'.heap[gb108]? = some (.cells #[.int .i64 a0_0, (.slice A0_1 l0_1.length c0_1)] 25 (0, 0))) ∧ Aside0 (w'.heap[gb100]? = some (.cells #[.int .i64 0, (.slice none 0 0)] 25 (0, 0))) ∧ Aside0 (w'.heap[gb112]? = some (.cells #[.int .i64 a0_0, u101001] 25 (0, 0))) ∧ Aside0 (w'.heap[gb113]? = some (.cells #[.int .i64 t101, .int .i64 t110] 32 (0, 0))) ∧ Aside0 (Below w.heap.size w w'))
 case atStart => exact ⟨(false), (0), (([] : List (STie))), (.slice none 0 0), qs, qs, H', ⟨Nat.le_refl _⟩, ⟨by first | exact Kd.R_nil _ _ _ _ _ | exact Kd.N_nil _ _ _ _ _ | exact Kd.V_nil _ _ _ _ _ | exact Kd.Q_nil _ _ _ _ _ | exact Kd.S_nil _ _ _ _ _⟩, ⟨qf BK108.out⟩, ⟨qf BK100.out⟩, ⟨qf BK112.out⟩, ⟨by (with_reducible repeat (first | refine blk_drewN ?_ _ | refine blk_drew ?_ | refine blk_alloc ?_ _)); refine blk_put (cs := #[.int .i64 t101, .int .i64 0]) ?_ 1 _ rfl; (with_reducible repeat (first | refine blk_drewN ?_ _ | refine blk_drew ?_ | refine blk_alloc ?_ _)); refine blk_put (cs := #[.int .i64 0, .int .i64 0]) ?_ 0 _ rfl; (with_reducible repeat (first | refine blk_drewN ?_ _ | refine blk_drew ?_ | refine blk_alloc ?_ _)); exact BK113.out⟩, ⟨qb HB.out⟩⟩
 clear H'
 try clear c1
 try clear c2
 try clear p2
 try clear c3
 try clear c4
 try clear c6
 try clear c8
 try clear c10
 try clear c11
 try clear c11b0
 try clear c11b1
 try clear c12
 try clear c18
 try clear c25
 try clear c27
 try clear c30
 try clear c33
 try clear c34
 try clear c37
 try clear c40
 try clear c41
 try clear c45
 try clear c46
 try clear c47
 try clear hcz13_0
 try clear hcz13_1
 try clear hcz15_0
 try clear hcz15_1
 try clear hcz19_0
 try clear hcz19_1
 try clear hcz21_0
 try clear hcz21_1
 try clear hcz23_0
 try clear hcz23_1
 try clear hcz26_0
 try clear hcz26_1
 try clear hcz28_0
 try clear hcz28_1
 try clear hcz31_0
 try clear hcz31_1
 try clear hcz35_0
 try clear hcz35_1
 try clear hcz38_0
 try clear hcz38_1
 try clear hcz42_0
 try clear hcz42_1
 try clear hcz48_0
 try clear hcz48_1
 try clear hfz13_0
 try clear hfz13_1
 try clear hfz15_0
 try clear hfz15_1
 try clear hfz19_0
 try clear hfz19_1
 try clear hfz21_0
 try clear hfz21_1
 try clear hfz23_0
 try clear hfz23_1
 try clear hfz26_0
 try clear hfz26_1
 try clear hfz28_0
 try clear hfz28_1
 try clear hfz31_0
 try clear hfz31_1
 try clear hfz35_0
 try clear hfz35_1
 try clear hfz38_0
 try clear hfz38_1
 try clear hfz42_0
 try clear hfz42_1
 try clear hfz48_0
 try clear hfz48_1
 try clear p2
 obtain ⟨x10_2, x11_2, x101001_2, u101001, rfl, rfl, HA, HK2, HO_101001, BK108, BK100, BK112, BK113, HB⟩ := hrel
 rcases gk with _ | k2
 · exact absurd HA.out (by simp [spec_NetAdd.l0])
 have H := HA.out
 clear HA
 simp only [spec_NetAdd.l0] at H
 by_cases c49 : x11_2 < (l0_1.length : Int)
 rotate_left
 · rw [if_neg c49] at H
   have c49b0 : decide (x11_2 < (l0_1.length : Int)) = false := decide_eq_false c49
   clear c49
   by_cases c97 : x10_2 = true
   · subst c97
     rw [if_pos rfl] at H
     simp only [Option.some.injEq, Prod.mk.injEq] at H
     obtain ⟨rfl, rfl, rfl⟩ := H
     have hnb98 := NB108_100.out
     have hnc98 := NB100_108.out
     have hnb99 := NB108_112.out
     have hnc99 := NB112_108.out
     have hnb129 := NB108_113.out
     have hnc129 := NB113_108.out
     have hcz130_0 : wr.cell? ⟨gb108, 0, none⟩ = some (.int .i64 a0_0) := (blk_cell BK108.out 0).trans rfl
     have hcz130_1 : wr.cell? ⟨gb108, 1, none⟩ = some (.slice A0_1 l0_1.length c0_1) := (blk_cell BK108.out 1).trans rfl
     have hfz130_0 := blk_frozen BK108.out 0
     have hfz130_1 := blk_frozen BK108.out 1
     have hnb131 := NB112_100.out
     have hnc131 := NB100_112.out
     have hnb132 := NB112_113.out
     have hnc132 := NB113_112.out
     have hcz133_0 : wr.cell? ⟨gb112, 0, none⟩ = some (.int .i64 a0_0) := (blk_cell BK112.out 0).trans rfl
     have hcz133_1 : wr.cell? ⟨gb112, 1, none⟩ = some (u101001) := (blk_cell BK112.out 1).trans rfl
     have hfz133_0 := blk_frozen BK112.out 0
     have hfz133_1 := blk_frozen BK112.out 1
     have hnb134 := NB100_113.out
     have hnc134 := NB113_100.out
     have hcz135_0 : wr.cell? ⟨gb100, 0, none⟩ = some (.int .i64 0) := (blk_cell BK100.out 0).trans rfl
     have hcz135_1 : wr.cell? ⟨gb100, 1, none⟩ = some (.slice none 0 0) := (blk_cell BK100.out 1).trans rfl
     have hfz135_0 := blk_frozen BK100.out 0
     have hfz135_1 := blk_frozen BK100.out 1
     obtain ⟨Ao136, co136, eo136⟩ := Kd.R_slice HO_101001.out
     subst eo136
     go_wp2
     refine bodyPost_ret (results_ct rfl _ _ gb100 25 #[.int .i64 a0_0, .slice Ao136 x101001_2.length co136] (0, 0) _ rfl (by (with_reducible repeat (first | refine blk_drewN ?_ _ | refine blk_drew ?_ | refine blk_alloc ?_ _)); refine blk_put (cs := #[.int .i64 a0_0, .slice none 0 0]) ?_ 1 _ rfl; (with_reducible repeat (first | refine blk_drewN ?_ _ | refine blk_drew ?_ | refine blk_alloc ?_ _)); refine blk_put (cs := #[.int .i64 0, .slice none 0 0]) ?_ 0 _ rfl; (with_reducible repeat (first | refine blk_drewN ?_ _ | refine blk_drew ?_ | refine blk_alloc ?_ _)); exact BK100.out) Try.underlying25 rfl (by kernel_rfl)) rfl ?_
     exact ⟨_, qe, by (with_reducible repeat (first | apply Kd.R_alloc | apply Kd.R_drewN | apply Kd.R_drew)); exact rf2 HO_101001.out BK100.out (fun _ hk => trivial), qb HB.out⟩
   replace c97 := Bool.eq_false_iff.mpr c97
   subst c97
   rw [if_neg nf] at H
   by_cases c137 : x101001_2.length < 8796093022208
   rotate_left
   · rw [if_neg c137] at H
     exact absurd H (by simp)
   rw [if_pos c137] at H
   have LMc137 := Aside0.mk c137
   clear c137
   obtain ⟨y138, hy138⟩ : ∃ y_ : List (STie), y_ = (x101001_2 ++ [(⟨t101, t110⟩ : STie)]) := ⟨_, rfl⟩
   replace H : (some (a0_0, y138, true)) = some (r1, r2, r3) := qy H hy138
   have Ny138 := Aside0.mk hy138
   clear hy138
   simp only [Option.some.injEq, Prod.mk.injEq] at H
   obtain ⟨rfl, rfl, rfl⟩ := H
   have hnb139 := NB108_100.out
   have hnc139 := NB100_108.out
   have hnb140 := NB108_112.out
   have hnc140 := NB112_108.out
   have hnb141 := NB108_113.out
   have hnc141 := NB113_108.out
   have hcz142_0 : wr.cell? ⟨gb108, 0, none⟩ = some (.int .i64 a0_0) := (blk_cell BK108.out 0).trans rfl
   have hcz142_1 : wr.cell? ⟨gb108, 1, none⟩ = some (.slice A0_1 l0_1.length c0_1) := (blk_cell BK108.out 1).trans rfl
   have hfz142_0 := blk_frozen BK108.out 0
   have hfz142_1 := blk_frozen BK108.out 1
   have hnb143 := NB112_100.out
   have hnc143 := NB100_112.out
   have hnb144 := NB112_113.out
   have hnc144 := NB113_112.out
   have hcz145_0 : wr.cell? ⟨gb112, 0, none⟩ = some (.int .i64 a0_0) := (blk_cell BK112.out 0).trans rfl
   have hcz145_1 : wr.cell? ⟨gb112, 1, none⟩ = some (u101001) := (blk_cell BK112.out 1).trans rfl
   have hfz145_0 := blk_frozen BK112.out 0
   have hfz145_1 := blk_frozen BK112.out 1
   have hnb146 := NB113_100.out
   have hnc146 := NB100_113.out
   have hcz147_0 : wr.cell? ⟨gb113, 0, none⟩ = some (.int .i64 t101) := (blk_cell BK113.out 0).trans rfl
   have hcz147_1 : wr.cell? ⟨gb113, 1, none⟩ = some (.int .i64 t110) := (blk_cell BK113.out 1).trans rfl
   have hfz147_0 := blk_frozen BK113.out 0
   have hfz147_1 := blk_frozen BK113.out 1
   go_wp2_with (first | ((with_reducible refine gate_builtin (b := .append) (xs := #[.tmp 77, .tmp 79]) rfl ?_); at_builtin; refine Kd.R_append kTie (w0 := w) w.heap.size rfl (.tmp 77) (.tmp 79) 23 32 (.agg #[(.int .i64 0), (.int .i64 0)]) 16 rfl Try.underlying23 info32 rfl (by decide) (by omega) u101001 x101001_2 (⟨t101, t110⟩ : STie) [.int .i64 t101, .int .i64 t110] (fun k_ => k_ ≠ gb113) (fun _ => False) rfl rfl ?aP (fun _ hk => hk.elim) ?aF ?aO ?aB ?aS ?aL ?_; (case aP => exact kTie_mkM _ _ _ (⟨t101, t110⟩ : STie)); (case aB => exact (qb HB.out)); (case aF => exact (fun k_ hk => Kd.freshB (g := gb113) (o := .cells #[.int .i64 t101, .int .i64 t110] 32 (0, 0)) (qk BK113.out) k_ hk)); (case aO => exact (qr HO_101001.out)); (case aS => exact (below_size (qb HB.out))); (case aL => have := LMc137.out; omega); intro v148 w149 ho hb hg hat; rw [← Ny138.out] at ho; replace BK108 := q0 (blk_grown (g := gb108) (o := .cells #[.int .i64 a0_0, .slice A0_1 l0_1.length c0_1] 25 (0, 0)) (qk BK108.out) hg (Kd.R_ne HO_101001.out BK108.out (by decide))); replace BK100 := q0 (blk_grown (g := gb100) (o := .cells #[.int .i64 0, .slice none 0 0] 25 (0, 0)) (qk BK100.out) hg (Kd.R_ne HO_101001.out BK100.out (by decide))); replace BK112 := q0 (blk_grown (g := gb112) (o := .cells #[.int .i64 a0_0, u101001] 25 (0, 0)) (qk BK112.out) hg (Kd.R_ne HO_101001.out BK112.out (by decide))); replace BK113 := q0 (blk_grown (g := gb113) (o := .cells #[.int .i64 t101, .int .i64 t110] 32 (0, 0)) (qk BK113.out) hg (Kd.R_away HO_101001.out (fun _ hk => hk))); replace HB := q0 (hb); have HO150 := q0 (ho); clear HO_101001; clear ho hb hg hat; obtain ⟨Ao151, co151, eo151⟩ := Kd.R_slice HO150.out; subst eo151; have hcz152_0 : w149.cell? ⟨gb112, 0, none⟩ = some (.int .i64 a0_0) := (blk_cell BK112.out 0).trans rfl; have hcz152_1 : w149.cell? ⟨gb112, 1, none⟩ = some (u101001) := (blk_cell BK112.out 1).trans rfl; have hfz152_0 := blk_frozen BK112.out 0; have hfz152_1 := blk_frozen BK112.out 1; have hcz153_0 : w149.cell? ⟨gb100, 0, none⟩ = some (.int .i64 0) := (blk_cell BK100.out 0).trans rfl; have hcz153_1 : w149.cell? ⟨gb100, 1, none⟩ = some (.slice none 0 0) := (blk_cell BK100.out 1).trans rfl; have hfz153_0 := blk_frozen BK100.out 0; have hfz153_1 := blk_frozen BK100.out 1))
   refine bodyPost_ret (results_ct rfl _ _ gb100 25 #[.int .i64 a0_0, .slice Ao151 y138.length co151] (0, 0) _ rfl (by (with_reducible repeat (first | refine blk_drewN ?_ _ | refine blk_drew ?_ | refine blk_alloc ?_ _)); refine blk_put (cs := #[.int .i64 a0_0, .slice none 0 0]) ?_ 1 _ rfl; (with_reducible repeat (first | refine blk_drewN ?_ _ | refine blk_drew ?_ | refine blk_alloc ?_ _)); refine blk_put (cs := #[.int .i64 0, .slice none 0 0]) ?_ 0 _ rfl; (with_reducible repeat (first | refine blk_drewN ?_ _ | refine blk_drew ?_ | refine blk_alloc ?_ _)); refine blk_far ?_ NB100_112.out _; (with_reducible repeat (first | refine blk_drewN ?_ _ | refine blk_drew ?_ | refine blk_alloc ?_ _)); exact BK100.out) Try.underlying25 rfl (by kernel_rfl)) rfl ?_
   exact ⟨_, qe, by (with_reducible repeat (first | apply Kd.R_alloc | apply Kd.R_drewN | apply Kd.R_drew)); exact Kd.R_mono (Kd.R_far (p := ⟨gb100, 1, none⟩) (Kd.R_far (p := ⟨gb100, 0, none⟩) (Kd.R_far (p := ⟨gb112, 1, none⟩) (Kd.R_types (Kd.R_types HO150.out BK112.out (by decide)) BK100.out (by decide)) (fun _ hk => hk.1.2) (.slice Ao151 y138.length co151)) (fun _ hk => hk.2) (.int .i64 a0_0)) (fun _ hk => hk.2) (.slice Ao151 y138.length co151)) (fun _ hk => trivial), qb HB.out⟩
 rw [if_pos c49] at H
 have c49b0 : decide (x11_2 < (l0_1.length : Int)) = true := decide_eq_true c49
 clear c49
 by_cases c50 : x10_2 = true
 · subst c50
   rw [if_pos rfl] at H
   by_cases c51 : 0 ≤ x11_2
   rotate_left
   · rw [if_neg c51] at H
     exact absurd H (by simp)
   rw [if_pos c51] at H
   have c51b0 : decide (0 ≤ x11_2) = true := decide_eq_true c51
   clear c51
   by_cases c52 : x101001_2.length < 8796093022208
   rotate_left
   · rw [if_neg c52] at H
     exact absurd H (by simp)
   rw [if_pos c52] at H
   have LMc52 := Aside0.mk c52
   clear c52
   obtain ⟨y114, hy114⟩ : ∃ y_ : List (STie), y_ = (x101001_2 ++ [(⟨(rd_TTie l0_1 x11_2).f0, (rd_TTie l0_1 x11_2).f1⟩ : STie)]) := ⟨_, rfl⟩
   replace H : (spec_NetAdd.l0 k2 true (wrap64 (x11_2 + 1)) a0_0 l0_1 a0_0 y114 t101 t110) = some (r1, r2, r3) := qy H hy114
   have Ny114 := Aside0.mk hy114
   clear hy114
   have H' := Aside0.mk H
   clear H
   have hnb53 := NB108_100.out
   have hnc53 := NB100_108.out
   have hnb54 := NB108_112.out
   have hnc54 := NB112_108.out
   have hnb55 := NB108_113.out
   have hnc55 := NB113_108.out
   have hcz56_0 : wr.cell? ⟨gb108, 0, none⟩ = some (.int .i64 a0_0) := (blk_cell BK108.out 0).trans rfl
   have hcz56_1 : wr.cell? ⟨gb108, 1, none⟩ = some (.slice A0_1 l0_1.length c0_1) := (blk_cell BK108.out 1).trans rfl
   have hfz56_0 := blk_frozen BK108.out 0
   have hfz56_1 := blk_frozen BK108.out 1
   try go_wp2
   replace HO_101001 := q0 (Kd.R_drew HO_101001.out)
   replace BK108 := q0 (blk_drew BK108.out)
   replace BK100 := q0 (blk_drew BK100.out)
   replace BK112 := q0 (blk_drew BK112.out)
   replace BK113 := q0 (blk_drew BK113.out)
   replace HB := q0 (below_drew1 HB.out)
   refine start_ (n := 11) (S := fun w' => True) (ds := []) (ba 11 0) (by kernel_rfl) rfl (by kernel_rfl) trivial (fun hHeld => ?_); refine with_tabW spec_NetAdd.tab9 spec_NetAdd.bits9 (fun HT_ HW_ => ?_)
   generalize wr.drew = w57 at HO_101001 BK108 BK100 BK112 BK113 HB hHeld ⊢
   refine pu 0 (some 47) (ba 11 1) HT_.out ?_
   refine pu 1 (some 48) (ba 11 3) HT_.out ?_
   refine pu 2 (some 49) (ba 11 7) HT_.out ?_
   refine pv 3 (some 50) (ba 11 15) HT_.out ?_
   refine pv 4 (some 51) (ba 11 31) HT_.out ?_
   refine pv 5 (some 52) (ba 11 63) HT_.out ?_
   refine pv 6 (some 53) (ba 11 127) HT_.out ?_
   refine pv 7 (some 54) (ba 11 255) HT_.out ?_
   refine pv 8 (some 55) (ba 11 511) HT_.out ?_
   refine pv 9 (some 56) (ba 11 1023) HT_.out ?_
   refine pu 10 (some 57) (ba 11 2047) HT_.out ?_
   refine done_ (done_of HT_.out (by kernel_rfl)) ?_
   try go_wp2
   replace HO_101001 := q0 (Kd.R_drew HO_101001.out)
   replace BK108 := q0 (blk_drew BK108.out)
   replace BK100 := q0 (blk_drew BK100.out)
   replace BK112 := q0 (blk_drew BK112.out)
   replace BK113 := q0 (blk_drew BK113.out)
   replace HB := q0 (below_drew1 HB.out)
   have p102 : 0 ≤ (x11_2 : Int) := of_decide_eq_true qa
   have q102 : x11_2 < (l0_1.length : Int) := of_decide_eq_true qa
   obtain ⟨ad102, e102, hx102_0, hx102_1⟩ := at_TTie HR0_1.out x11_2 p102 q102
   have hw102_1 := hx102_1
   have hw102_0 := hx102_0
   cases e102
   replace hx102_0 := (HB.out.cell (World.block_lt_of_cell? w _ hx102_0)).trans hx102_0
   replace hx102_1 := (HB.out.cell (World.block_lt_of_cell? w _ hx102_1)).trans hx102_1
   replace p102 := eq_true p102
   replace q102 := eq_true q102
   refine start_ (n := 11) (S := fun w' => w'.cell? ⟨gb112, 0, none⟩ = some (.int .i64 a0_0) ∧ w'.cell? ⟨gb112, 1, none⟩ = some (u101001) ∧ w'.cell? ⟨gb108, 0, none⟩ = some (.int .i64 a0_0) ∧ w'.cell? ⟨gb108, 1, none⟩ = some (.slice (some ad102) l0_1.length c0_1) ∧ w'.cell? (ad102.add ((x11_2).toNat * 2)) = some (.int .i64 ((rd_TTie l0_1 x11_2).f0)) ∧ w'.cell? ⟨(ad102.add ((x11_2).toNat * 2)).block, (ad102.add ((x11_2).toNat * 2)).off + 1, none⟩ = some (.int .i64 ((rd_TTie l0_1 x11_2).f1))) (ds := [10]) (ba 11 0) (by kernel_rfl) rfl (by kernel_rfl) ⟨(blk_cell BK112.out 0).trans rfl, (blk_cell BK112.out 1).trans rfl, (blk_cell BK108.out 0).trans rfl, (blk_cell BK108.out 1).trans rfl, ((HB.out.cell (World.block_lt_of_cell? w _ hw102_0)).trans hw102_0), ((HB.out.cell (World.block_lt_of_cell? w _ hw102_1)).trans hw102_1)⟩ (fun hHeld => ?_); refine with_tabW spec_NetAdd.tab12 spec_NetAdd.bits12 (fun HT_ HW_ => ?_)
   generalize w57.drew = w58 at HO_101001 BK108 BK100 BK112 BK113 HB hx102_0 hx102_1 hHeld ⊢
   refine pu 0 (some 64) (ba 11 1) HT_.out ?_
   refine pu 2 (some 66) (ba 11 5) HT_.out ?_
   refine pu 4 (some 68) (ba 11 21) HT_.out ?_
   refine tu 1 (some 65) (ba 11 23) HT_.out HW_.out hHeld ?_
   refine tu 3 (some 67) (ba 11 31) HT_.out HW_.out hHeld ?_
   refine pu 5 (some 69) (ba 11 63) HT_.out ?_
   refine tu 6 (some 70) (ba 11 127) HT_.out HW_.out hHeld ?_
   refine one_ (i := 7) (N := some 71) (ba 11 255) rfl rfl (one_of HT_.out (by kernel_rfl)) (by decide) (fun K hK => ?_)
   refine value_ (w1 := ?_) (v := ?_) (by rfl) rfl ?_ ?_
   rotate_left 2
   · go_simp
     constructor
     · rfl
     · rfl
   refine hK.out _ _ ⟨(blk_cell (blk_alloc BK112.out _) 0).trans rfl, (blk_cell (blk_alloc BK112.out _) 1).trans rfl, (blk_cell (blk_alloc BK108.out _) 0).trans rfl, (blk_cell (blk_alloc BK108.out _) 1).trans rfl, (World.cell?_alloc_lt _ _ _ (World.block_lt_of_cell? _ _ (((HB.out.cell (World.block_lt_of_cell? w _ hw102_0)).trans hw102_0)))).trans (((HB.out.cell (World.block_lt_of_cell? w _ hw102_0)).trans hw102_0)), (World.cell?_alloc_lt _ _ _ (World.block_lt_of_cell? _ _ (((HB.out.cell (World.block_lt_of_cell? w _ hw102_1)).trans hw102_1)))).trans (((HB.out.cell (World.block_lt_of_cell? w _ hw102_1)).trans hw102_1))⟩ (fun hHeld => ?_)
   clear hK K
   refine nu 71 ?_
   refine one_ (i := 8) (N := some 72) (ba 11 511) rfl rfl (one_of HT_.out (by kernel_rfl)) (by decide) (fun K hK => ?_)
   refine Kd.R_append_step kTie (w0 := w) w.heap.size (by rfl) (.tmp 65) (.tmp 71) 23 32 (.agg #[(.int .i64 0), (.int .i64 0)]) 16 rfl Try.underlying23 info32 rfl (by decide) (by omega) u101001 x101001_2 (⟨(rd_TTie l0_1 x11_2).f0, (rd_TTie l0_1 x11_2).f1⟩ : STie) [.int .i64 ((rd_TTie l0_1 x11_2).f0), .int .i64 ((rd_TTie l0_1 x11_2).f1)] (fun k_ => k_ ≠ gb113) (fun _ => False) rfl rfl ?aP (fun _ hk => hk.elim) ?aF ?aO ?aB ?aS ?aL ?_
   (case aP => exact kTie_mkM _ _ _ (⟨(rd_TTie l0_1 x11_2).f0, (rd_TTie l0_1 x11_2).f1⟩ : STie))
   (case aB => exact (qb HB.out))
   (case aF => exact (fun k_ hk => Kd.freshB (g := gb113) (o := .cells #[.int .i64 t101, .int .i64 t110] 32 (0, 0)) (qk BK113.out) k_ hk))
   (case aO => exact (qr HO_101001.out))
   (case aS => exact (below_size (qb HB.out)))
   (case aL => have := LMc52.out; omega)
   intro v115 w59 ho hb hg hat
   rw [← Ny114.out] at ho
   replace BK108 := q0 (blk_grown (g := gb108) (o := .cells #[.int .i64 a0_0, .slice (some ad102) l0_1.length c0_1] 25 (0, 0)) (qk BK108.out) hg (Kd.R_ne HO_101001.out BK108.out (by decide)))
   replace BK100 := q0 (blk_grown (g := gb100) (o := .cells #[.int .i64 0, .slice none 0 0] 25 (0, 0)) (qk BK100.out) hg (Kd.R_ne HO_101001.out BK100.out (by decide)))
   replace BK112 := q0 (blk_grown (g := gb112) (o := .cells #[.int .i64 a0_0, u101001] 25 (0, 0)) (qk BK112.out) hg (Kd.R_ne HO_101001.out BK112.out (by decide)))
   replace BK113 := q0 (blk_grown (g := gb113) (o := .cells #[.int .i64 t101, .int .i64 t110] 32 (0, 0)) (qk BK113.out) hg (Kd.R_away HO_101001.out (fun _ hk => hk)))
   replace HB := q0 (hb)
   have HO116 := q0 (ho)
   clear HO_101001
   clear ho hb hg hat
   obtain ⟨Ao60, co60, eo60⟩ := Kd.R_slice HO116.out
   (first | subst eo60 | (injection eo60 with f1_ f2_ f3_; have f4_ := f1_.symm; have f5_ := f3_.symm; clear f1_ f2_ f3_; subst f4_; subst f5_))
   refine hK.out _ _ ⟨(blk_cell BK112.out 0).trans rfl, (blk_cell BK112.out 1).trans rfl, (blk_cell BK108.out 0).trans rfl, (blk_cell BK108.out 1).trans rfl, ((HB.out.cell (World.block_lt_of_cell? w _ hw102_0)).trans hw102_0), ((HB.out.cell (World.block_lt_of_cell? w _ hw102_1)).trans hw102_1)⟩ (fun hHeld => ?_)
   clear hK K
   refine nu 72 ?_
   refine pu 9 (some 73) (ba 11 1023) HT_.out ?_
   refine last_ (i := 10) (N := none) (ba 11 2047) rfl rfl (one_of HT_.out (by kernel_rfl)) (by decide) (fun K hK => ?_)
   have hs61 : w59.cell? ⟨gb112, 1, none⟩ = some (u101001) := (blk_cell BK112.out 1).trans rfl
   have hfs61 := blk_frozen BK112.out 1
   have hns61_0 := NB108_112.out
   have hns61_1 := NB100_112.out
   have hns61_3 := NB113_112.out
   have hms61_0 := NB112_108.out
   have hms61_1 := NB112_100.out
   have hms61_3 := NB112_113.out
   refine skip_ (w1 := ?_) (by rfl) rfl ?_ ?_
   rotate_left
   · go_simp
     rfl
   refine hK.out _ _ ?_
   clear hK K
   refine done_ (done_of HT_.out (by kernel_rfl)) ?_
   try go_wp2
   go_roundg k2
   case measure => have := HJ3.out; have := HK2.out; omega
   case rel => exact ⟨(true), (wrap64 (x11_2 + 1)), (y114), (.slice Ao60 y114.length co60), qs, qs, H', ⟨by have := HJ3.out; have := HK2.out; omega⟩, ⟨by (with_reducible repeat (first | apply Kd.R_alloc | apply Kd.R_drewN | apply Kd.R_drew)); exact Kd.R_mono (Kd.R_far (p := ⟨gb112, 1, none⟩) (Kd.R_types HO116.out BK112.out (by decide)) (fun _ hk => hk.2) (.slice Ao60 y114.length co60)) (fun _ hk => hk.1)⟩, ⟨qf BK108.out⟩, ⟨qf BK100.out⟩, ⟨by (with_reducible repeat (first | refine blk_drewN ?_ _ | refine blk_drew ?_ | refine blk_alloc ?_ _)); refine blk_put (cs := #[.int .i64 a0_0, u101001]) ?_ 1 _ rfl; (with_reducible repeat (first | refine blk_drewN ?_ _ | refine blk_drew ?_ | refine blk_alloc ?_ _)); exact BK112.out⟩, ⟨qf BK113.out⟩, ⟨qb HB.out⟩⟩
 replace c50 := Bool.eq_false_iff.mpr c50
 subst c50
 rw [if_neg nf] at H
 by_cases c62 : 0 ≤ x11_2
 rotate_left
 · rw [if_neg c62] at H
   exact absurd H (by simp)
 rw [if_pos c62] at H
 have c62b0 : decide (0 ≤ x11_2) = true := decide_eq_true c62
 clear c62
 replace H := Option.bind_eq_some_iff.mp H
 obtain ⟨t103, A117, H⟩ := H
 have A63 := Aside0.mk A117
 clear A117
 by_cases c64 : t103 = true
 rotate_left
 · replace c64 := Bool.eq_false_iff.mpr c64
   subst c64
   rw [if_neg nf] at H
   by_cases c86 : x101001_2.length < 8796093022208
   rotate_left
   · rw [if_neg c86] at H
     exact absurd H (by simp)
   rw [if_pos c86] at H
   have LMc86 := Aside0.mk c86
   clear c86
   obtain ⟨y125, hy125⟩ : ∃ y_ : List (STie), y_ = (x101001_2 ++ [(⟨(rd_TTie l0_1 x11_2).f0, (rd_TTie l0_1 x11_2).f1⟩ : STie)]) := ⟨_, rfl⟩
   replace H : (spec_NetAdd.l0 k2 false (wrap64 (x11_2 + 1)) a0_0 l0_1 a0_0 y125 t101 t110) = some (r1, r2, r3) := qy H hy125
   have Ny125 := Aside0.mk hy125
   clear hy125
   have H' := Aside0.mk H
   clear H
   have hnb87 := NB108_100.out
   have hnc87 := NB100_108.out
   have hnb88 := NB108_112.out
   have hnc88 := NB112_108.out
   have hnb89 := NB108_113.out
   have hnc89 := NB113_108.out
   have hcz90_0 : wr.cell? ⟨gb108, 0, none⟩ = some (.int .i64 a0_0) := (blk_cell BK108.out 0).trans rfl
   have hcz90_1 : wr.cell? ⟨gb108, 1, none⟩ = some (.slice A0_1 l0_1.length c0_1) := (blk_cell BK108.out 1).trans rfl
   have hfz90_0 := blk_frozen BK108.out 0
   have hfz90_1 := blk_frozen BK108.out 1
   try go_wp2
   replace HO_101001 := q0 (Kd.R_drew HO_101001.out)
   replace BK108 := q0 (blk_drew BK108.out)
   replace BK100 := q0 (blk_drew BK100.out)
   replace BK112 := q0 (blk_drew BK112.out)
   replace BK113 := q0 (blk_drew BK113.out)
   replace HB := q0 (below_drew1 HB.out)
   have p119 : 0 ≤ (x11_2 : Int) := of_decide_eq_true qa
   have q119 : x11_2 < (l0_1.length : Int) := of_decide_eq_true qa
   obtain ⟨ad119, e119, hx119_0, hx119_1⟩ := at_TTie HR0_1.out x11_2 p119 q119
   have hw119_1 := hx119_1
   have hw119_0 := hx119_0
   cases e119
   replace hx119_0 := (HB.out.cell (World.block_lt_of_cell? w _ hx119_0)).trans hx119_0
   replace hx119_1 := (HB.out.cell (World.block_lt_of_cell? w _ hx119_1)).trans hx119_1
   replace p119 := eq_true p119
   replace q119 := eq_true q119
   refine start_ (n := 11) (S := fun w' => w'.cell? ⟨gb113, 0, none⟩ = some (.int .i64 t101) ∧ w'.cell? ⟨gb113, 1, none⟩ = some (.int .i64 t110) ∧ w'.cell? ⟨gb108, 0, none⟩ = some (.int .i64 a0_0) ∧ w'.cell? ⟨gb108, 1, none⟩ = some (.slice (some ad119) l0_1.length c0_1) ∧ w'.cell? (ad119.add ((x11_2).toNat * 2)) = some (.int .i64 ((rd_TTie l0_1 x11_2).f0)) ∧ w'.cell? ⟨(ad119.add ((x11_2).toNat * 2)).block, (ad119.add ((x11_2).toNat * 2)).off + 1, none⟩ = some (.int .i64 ((rd_TTie l0_1 x11_2).f1))) (ds := []) (ba 11 0) (by kernel_rfl) rfl (by kernel_rfl) ⟨(blk_cell BK113.out 0).trans rfl, (blk_cell BK113.out 1).trans rfl, (blk_cell BK108.out 0).trans rfl, (blk_cell BK108.out 1).trans rfl, ((HB.out.cell (World.block_lt_of_cell? w _ hw119_0)).trans hw119_0), ((HB.out.cell (World.block_lt_of_cell? w _ hw119_1)).trans hw119_1)⟩ (fun hHeld => ?_); refine with_tabW spec_NetAdd.tab9 spec_NetAdd.bits9 (fun HT_ HW_ => ?_)
   generalize wr.drew = w91 at HO_101001 BK108 BK100 BK112 BK113 HB hx119_0 hx119_1 hHeld ⊢
   refine pu 0 (some 47) (ba 11 1) HT_.out ?_
   refine pu 1 (some 48) (ba 11 3) HT_.out ?_
   refine pu 2 (some 49) (ba 11 7) HT_.out ?_
   refine pu 4 (some 51) (ba 11 23) HT_.out ?_
   refine pu 6 (some 53) (ba 11 87) HT_.out ?_
   refine tu 3 (some 50) (ba 11 95) HT_.out HW_.out hHeld ?_
   refine tu 5 (some 52) (ba 11 127) HT_.out HW_.out hHeld ?_
   refine pu 7 (some 54) (ba 11 255) HT_.out ?_
   refine tu 8 (some 55) (ba 11 511) HT_.out HW_.out hHeld ?_
   refine one_ (i := 9) (N := some 56) (ba 11 1023) rfl rfl (one_of HT_.out (by kernel_rfl)) (by decide) (fun K hK => ?_)
   refine goes_ Try.func69 (by kernel_rfl) rfl #[.agg #[.int .i64 t101, .int .i64 t110], .agg #[.int .i64 ((rd_TTie l0_1 x11_2).f0), .int .i64 ((rd_TTie l0_1 x11_2).f1)]] (by rfl) rfl rfl qm ?_
   with_reducible refine (spec_l1Less.calls t101 t110 ((rd_TTie l0_1 x11_2).f0) ((rd_TTie l0_1 x11_2).f1) false _ A63.out).mono ?_
   rintro e w92 ⟨rfl, hb⟩
   refine ⟨_, rfl, ?_⟩
   replace HO_101001 := q0 (Kd.R_below (qr HO_101001.out) hb)
   replace BK108 := q0 (kb BK108.out hb)
   replace BK100 := q0 (kb BK100.out hb)
   replace BK112 := q0 (kb BK112.out hb)
   replace BK113 := q0 (kb BK113.out hb)
   replace HB := q0 (below_step (qb HB.out) hb)
   (try clear hb)
   (try clear hb2)
   (try clear hk)
   (try clear hi)
   refine hK.out _ _ ⟨(blk_cell BK113.out 0).trans rfl, (blk_cell BK113.out 1).trans rfl, (blk_cell BK108.out 0).trans rfl, (blk_cell BK108.out 1).trans rfl, ((HB.out.cell (World.block_lt_of_cell? w _ hw119_0)).trans hw119_0), ((HB.out.cell (World.block_lt_of_cell? w _ hw119_1)).trans hw119_1)⟩ (fun hHeld => ?_)
   clear hK K
   refine nu 56 ?_
   refine pu 10 (some 57) (ba 11 2047) HT_.out ?_
   refine done_ (done_of HT_.out (by kernel_rfl)) ?_
   try go_wp2
   replace HO_101001 := q0 (Kd.R_drew HO_101001.out)
   replace BK108 := q0 (blk_drew BK108.out)
   replace BK100 := q0 (blk_drew BK100.out)
   replace BK112 := q0 (blk_drew BK112.out)
   replace BK113 := q0 (blk_drew BK113.out)
   replace HB := q0 (below_drew1 HB.out)
   have p126 : 0 ≤ (x11_2 : Int) := of_decide_eq_true qa
   have q126 : x11_2 < (l0_1.length : Int) := of_decide_eq_true qa
   obtain ⟨ad126, e126, hx126_0, hx126_1⟩ := at_TTie HR0_1.out x11_2 p126 q126
   have hw126_1 := hx126_1
   have hw126_0 := hx126_0
   obtain rfl : ad119 = ad126 := (by injection e126)
   replace hx126_0 := (HB.out.cell (World.block_lt_of_cell? w _ hx126_0)).trans hx126_0
   replace hx126_1 := (HB.out.cell (World.block_lt_of_cell? w _ hx126_1)).trans hx126_1
   replace p126 := eq_true p126
   replace q126 := eq_true q126
   refine start_ (n := 11) (S := fun w' => w'.cell? ⟨gb112, 0, none⟩ = some (.int .i64 a0_0) ∧ w'.cell? ⟨gb112, 1, none⟩ = some (u101001) ∧ w'.cell? ⟨gb108, 0, none⟩ = some (.int .i64 a0_0) ∧ w'.cell? ⟨gb108, 1, none⟩ = some (.slice (some ad119) l0_1.length c0_1) ∧ w'.cell? (ad119.add ((x11_2).toNat * 2)) = some (.int .i64 ((rd_TTie l0_1 x11_2).f0)) ∧ w'.cell? ⟨(ad119.add ((x11_2).toNat * 2)).block, (ad119.add ((x11_2).toNat * 2)).off + 1, none⟩ = some (.int .i64 ((rd_TTie l0_1 x11_2).f1))) (ds := [10]) (ba 11 0) (by kernel_rfl) rfl (by kernel_rfl) ⟨(blk_cell BK112.out 0).trans rfl, (blk_cell BK112.out 1).trans rfl, (blk_cell BK108.out 0).trans rfl, (blk_cell BK108.out 1).trans rfl, ((HB.out.cell (World.block_lt_of_cell? w _ hw126_0)).trans hw126_0), ((HB.out.cell (World.block_lt_of_cell? w _ hw126_1)).trans hw126_1)⟩ (fun hHeld => ?_); refine with_tabW spec_NetAdd.tab12 spec_NetAdd.bits12 (fun HT_ HW_ => ?_)
   generalize w92.drew = w93 at HO_101001 BK108 BK100 BK112 BK113 HB hx126_0 hx126_1 hHeld ⊢
   refine pu 0 (some 64) (ba 11 1) HT_.out ?_
   refine pu 2 (some 66) (ba 11 5) HT_.out ?_
   refine pu 4 (some 68) (ba 11 21) HT_.out ?_
   refine tu 1 (some 65) (ba 11 23) HT_.out HW_.out hHeld ?_
   refine tu 3 (some 67) (ba 11 31) HT_.out HW_.out hHeld ?_
   refine pu 5 (some 69) (ba 11 63) HT_.out ?_
   refine tu 6 (some 70) (ba 11 127) HT_.out HW_.out hHeld ?_
   refine one_ (i := 7) (N := some 71) (ba 11 255) rfl rfl (one_of HT_.out (by kernel_rfl)) (by decide) (fun K hK => ?_)
   refine value_ (w1 := ?_) (v := ?_) (by rfl) rfl ?_ ?_
   rotate_left 2
   · go_simp
     constructor
     · rfl
     · rfl
   refine hK.out _ _ ⟨(blk_cell (blk_alloc BK112.out _) 0).trans rfl, (blk_cell (blk_alloc BK112.out _) 1).trans rfl, (blk_cell (blk_alloc BK108.out _) 0).trans rfl, (blk_cell (blk_alloc BK108.out _) 1).trans rfl, (World.cell?_alloc_lt _ _ _ (World.block_lt_of_cell? _ _ (((HB.out.cell (World.block_lt_of_cell? w _ hw126_0)).trans hw126_0)))).trans (((HB.out.cell (World.block_lt_of_cell? w _ hw126_0)).trans hw126_0)), (World.cell?_alloc_lt _ _ _ (World.block_lt_of_cell? _ _ (((HB.out.cell (World.block_lt_of_cell? w _ hw126_1)).trans hw126_1)))).trans (((HB.out.cell (World.block_lt_of_cell? w _ hw126_1)).trans hw126_1))⟩ (fun hHeld => ?_)
   clear hK K
   refine nu 71 ?_
   refine one_ (i := 8) (N := some 72) (ba 11 511) rfl rfl (one_of HT_.out (by kernel_rfl)) (by decide) (fun K hK => ?_)
   refine Kd.R_append_step kTie (w0 := w) w.heap.size (by rfl) (.tmp 65) (.tmp 71) 23 32 (.agg #[(.int .i64 0), (.int .i64 0)]) 16 rfl Try.underlying23 info32 rfl (by decide) (by omega) u101001 x101001_2 (⟨(rd_TTie l0_1 x11_2).f0, (rd_TTie l0_1 x11_2).f1⟩ : STie) [.int .i64 ((rd_TTie l0_1 x11_2).f0), .int .i64 ((rd_TTie l0_1 x11_2).f1)] (fun k_ => k_ ≠ gb113) (fun _ => False) rfl rfl ?aP (fun _ hk => hk.elim) ?aF ?aO ?aB ?aS ?aL ?_
   (case aP => exact kTie_mkM _ _ _ (⟨(rd_TTie l0_1 x11_2).f0, (rd_TTie l0_1 x11_2).f1⟩ : STie))
   (case aB => exact (qb HB.out))
   (case aF => exact (fun k_ hk => Kd.freshB (g := gb113) (o := .cells #[.int .i64 t101, .int .i64 t110] 32 (0, 0)) (qk BK113.out) k_ hk))
   (case aO => exact (qr HO_101001.out))
   (case aS => exact (below_size (qb HB.out)))
   (case aL => have := LMc86.out; omega)
   intro v127 w94 ho hb hg hat
   rw [← Ny125.out] at ho
   replace BK108 := q0 (blk_grown (g := gb108) (o := .cells #[.int .i64 a0_0, .slice (some ad119) l0_1.length c0_1] 25 (0, 0)) (qk BK108.out) hg (Kd.R_ne HO_101001.out BK108.out (by decide)))
   replace BK100 := q0 (blk_grown (g := gb100) (o := .cells #[.int .i64 0, .slice none 0 0] 25 (0, 0)) (qk BK100.out) hg (Kd.R_ne HO_101001.out BK100.out (by decide)))
   replace BK112 := q0 (blk_grown (g := gb112) (o := .cells #[.int .i64 a0_0, u101001] 25 (0, 0)) (qk BK112.out) hg (Kd.R_ne HO_101001.out BK112.out (by decide)))
   replace BK113 := q0 (blk_grown (g := gb113) (o := .cells #[.int .i64 t101, .int .i64 t110] 32 (0, 0)) (qk BK113.out) hg (Kd.R_away HO_101001.out (fun _ hk => hk)))
   replace HB := q0 (hb)
   have HO128 := q0 (ho)
   clear HO_101001
   clear ho hb hg hat
   obtain ⟨Ao95, co95, eo95⟩ := Kd.R_slice HO128.out
   (first | subst eo95 | (injection eo95 with f1_ f2_ f3_; have f4_ := f1_.symm; have f5_ := f3_.symm; clear f1_ f2_ f3_; subst f4_; subst f5_))
   refine hK.out _ _ ⟨(blk_cell BK112.out 0).trans rfl, (blk_cell BK112.out 1).trans rfl, (blk_cell BK108.out 0).trans rfl, (blk_cell BK108.out 1).trans rfl, ((HB.out.cell (World.block_lt_of_cell? w _ hw126_0)).trans hw126_0), ((HB.out.cell (World.block_lt_of_cell? w _ hw126_1)).trans hw126_1)⟩ (fun hHeld => ?_)
   clear hK K
   refine nu 72 ?_
   refine pu 9 (some 73) (ba 11 1023) HT_.out ?_
   refine last_ (i := 10) (N := none) (ba 11 2047) rfl rfl (one_of HT_.out (by kernel_rfl)) (by decide) (fun K hK => ?_)
   have hs96 : w94.cell? ⟨gb112, 1, none⟩ = some (u101001) := (blk_cell BK112.out 1).trans rfl
   have hfs96 := blk_frozen BK112.out 1
   have hns96_0 := NB108_112.out
   have hns96_1 := NB100_112.out
   have hns96_3 := NB113_112.out
   have hms96_0 := NB112_108.out
   have hms96_1 := NB112_100.out
   have hms96_3 := NB112_113.out
   refine skip_ (w1 := ?_) (by rfl) rfl ?_ ?_
   rotate_left
   · go_simp
     rfl
   refine hK.out _ _ ?_
   clear hK K
   refine done_ (done_of HT_.out (by kernel_rfl)) ?_
   try go_wp2
   go_roundg k2
   case measure => have := HJ3.out; have := HK2.out; omega
   case rel => exact ⟨(false), (wrap64 (x11_2 + 1)), (y125), (.slice Ao95 y125.length co95), qs, qs, H', ⟨by have := HJ3.out; have := HK2.out; omega⟩, ⟨by (with_reducible repeat (first | apply Kd.R_alloc | apply Kd.R_drewN | apply Kd.R_drew)); exact Kd.R_mono (Kd.R_far (p := ⟨gb112, 1, none⟩) (Kd.R_types HO128.out BK112.out (by decide)) (fun _ hk => hk.2) (.slice Ao95 y125.length co95)) (fun _ hk => hk.1)⟩, ⟨qf BK108.out⟩, ⟨qf BK100.out⟩, ⟨by (with_reducible repeat (first | refine blk_drewN ?_ _ | refine blk_drew ?_ | refine blk_alloc ?_ _)); refine blk_put (cs := #[.int .i64 a0_0, u101001]) ?_ 1 _ rfl; (with_reducible repeat (first | refine blk_drewN ?_ _ | refine blk_drew ?_ | refine blk_alloc ?_ _)); exact BK112.out⟩, ⟨qf BK113.out⟩, ⟨qb HB.out⟩⟩
 subst c64
 rw [if_pos rfl] at H
 by_cases c65 : x101001_2.length < 8796093022208
 rotate_left
 · rw [if_neg c65] at H
   exact absurd H (by simp)
 rw [if_pos c65] at H
 have LMc65 := Aside0.mk c65
 clear c65
 obtain ⟨y104, hy104⟩ : ∃ y_ : List (STie), y_ = (x101001_2 ++ [(⟨t101, t110⟩ : STie)]) := ⟨_, rfl⟩
 replace H : (if y104.length < 8796093022208 then (spec_NetAdd.l0 k2 true (wrap64 (x11_2 + 1)) a0_0 l0_1 a0_0 (y104 ++ [(⟨(rd_TTie l0_1 x11_2).f0, (rd_TTie l0_1 x11_2).f1⟩ : STie)]) t101 t110) else (none)) = some (r1, r2, r3) := qy H hy104
 have Ny104 := Aside0.mk hy104
 clear hy104
 by_cases c66 : y104.length < 8796093022208
 rotate_left
 · rw [if_neg c66] at H
   exact absurd H (by simp)
 rw [if_pos c66] at H
 have LMc66 := Aside0.mk c66
 clear c66
 obtain ⟨y118, hy118⟩ : ∃ y_ : List (STie), y_ = (y104 ++ [(⟨(rd_TTie l0_1 x11_2).f0, (rd_TTie l0_1 x11_2).f1⟩ : STie)]) := ⟨_, rfl⟩
 replace H : (spec_NetAdd.l0 k2 true (wrap64 (x11_2 + 1)) a0_0 l0_1 a0_0 y118 t101 t110) = some (r1, r2, r3) := qy H hy118
 have Ny118 := Aside0.mk hy118
 clear hy118
 have H' := Aside0.mk H
 clear H
 have hnb67 := NB108_100.out
 have hnc67 := NB100_108.out
 have hnb68 := NB108_112.out
 have hnc68 := NB112_108.out
 have hnb69 := NB108_113.out
 have hnc69 := NB113_108.out
 have hcz70_0 : wr.cell? ⟨gb108, 0, none⟩ = some (.int .i64 a0_0) := (blk_cell BK108.out 0).trans rfl
 have hcz70_1 : wr.cell? ⟨gb108, 1, none⟩ = some (.slice A0_1 l0_1.length c0_1) := (blk_cell BK108.out 1).trans rfl
 have hfz70_0 := blk_frozen BK108.out 0
 have hfz70_1 := blk_frozen BK108.out 1
 try go_wp2
 replace HO_101001 := q0 (Kd.R_drew HO_101001.out)
 replace BK108 := q0 (blk_drew BK108.out)
 replace BK100 := q0 (blk_drew BK100.out)
 replace BK112 := q0 (blk_drew BK112.out)
 replace BK113 := q0 (blk_drew BK113.out)
 replace HB := q0 (below_drew1 HB.out)
 have p119 : 0 ≤ (x11_2 : Int) := of_decide_eq_true qa
 have q119 : x11_2 < (l0_1.length : Int) := of_decide_eq_true qa
 obtain ⟨ad119, e119, hx119_0, hx119_1⟩ := at_TTie HR0_1.out x11_2 p119 q119
 have hw119_1 := hx119_1
 have hw119_0 := hx119_0
 cases e119
 replace hx119_0 := (HB.out.cell (World.block_lt_of_cell? w _ hx119_0)).trans hx119_0
 replace hx119_1 := (HB.out.cell (World.block_lt_of_cell? w _ hx119_1)).trans hx119_1
 replace p119 := eq_true p119
 replace q119 := eq_true q119
 refine start_ (n := 11) (S := fun w' => w'.cell? ⟨gb113, 0, none⟩ = some (.int .i64 t101) ∧ w'.cell? ⟨gb113, 1, none⟩ = some (.int .i64 t110) ∧ w'.cell? ⟨gb108, 0, none⟩ = some (.int .i64 a0_0) ∧ w'.cell? ⟨gb108, 1, none⟩ = some (.slice (some ad119) l0_1.length c0_1) ∧ w'.cell? (ad119.add ((x11_2).toNat * 2)) = some (.int .i64 ((rd_TTie l0_1 x11_2).f0)) ∧ w'.cell? ⟨(ad119.add ((x11_2).toNat * 2)).block, (ad119.add ((x11_2).toNat * 2)).off + 1, none⟩ = some (.int .i64 ((rd_TTie l0_1 x11_2).f1))) (ds := []) (ba 11 0) (by kernel_rfl) rfl (by kernel_rfl) ⟨(blk_cell BK113.out 0).trans rfl, (blk_cell BK113.out 1).trans rfl, (blk_cell BK108.out 0).trans rfl, (blk_cell BK108.out 1).trans rfl, ((HB.out.cell (World.block_lt_of_cell? w _ hw119_0)).trans hw119_0), ((HB.out.cell (World.block_lt_of_cell? w _ hw119_1)).trans hw119_1)⟩ (fun hHeld => ?_); refine with_tabW spec_NetAdd.tab9 spec_NetAdd.bits9 (fun HT_ HW_ => ?_)
 generalize wr.drew = w71 at HO_101001 BK108 BK100 BK112 BK113 HB hx119_0 hx119_1 hHeld ⊢
 refine pu 0 (some 47) (ba 11 1) HT_.out ?_
 refine pu 1 (some 48) (ba 11 3) HT_.out ?_
 refine pu 2 (some 49) (ba 11 7) HT_.out ?_
 refine pu 4 (some 51) (ba 11 23) HT_.out ?_
 refine pu 6 (some 53) (ba 11 87) HT_.out ?_
 refine tu 3 (some 50) (ba 11 95) HT_.out HW_.out hHeld ?_
 refine tu 5 (some 52) (ba 11 127) HT_.out HW_.out hHeld ?_
 refine pu 7 (some 54) (ba 11 255) HT_.out ?_
 refine tu 8 (some 55) (ba 11 511) HT_.out HW_.out hHeld ?_
 refine one_ (i := 9) (N := some 56) (ba 11 1023) rfl rfl (one_of HT_.out (by kernel_rfl)) (by decide) (fun K hK => ?_)
 refine goes_ Try.func69 (by kernel_rfl) rfl #[.agg #[.int .i64 t101, .int .i64 t110], .agg #[.int .i64 ((rd_TTie l0_1 x11_2).f0), .int .i64 ((rd_TTie l0_1 x11_2).f1)]] (by rfl) rfl rfl qm ?_
 with_reducible refine (spec_l1Less.calls t101 t110 ((rd_TTie l0_1 x11_2).f0) ((rd_TTie l0_1 x11_2).f1) true _ A63.out).mono ?_
 rintro e w72 ⟨rfl, hb⟩
 refine ⟨_, rfl, ?_⟩
 replace HO_101001 := q0 (Kd.R_below (qr HO_101001.out) hb)
 replace BK108 := q0 (kb BK108.out hb)
 replace BK100 := q0 (kb BK100.out hb)
 replace BK112 := q0 (kb BK112.out hb)
 replace BK113 := q0 (kb BK113.out hb)
 replace HB := q0 (below_step (qb HB.out) hb)
 (try clear hb)
 (try clear hb2)
 (try clear hk)
 (try clear hi)
 refine hK.out _ _ ⟨(blk_cell BK113.out 0).trans rfl, (blk_cell BK113.out 1).trans rfl, (blk_cell BK108.out 0).trans rfl, (blk_cell BK108.out 1).trans rfl, ((HB.out.cell (World.block_lt_of_cell? w _ hw119_0)).trans hw119_0), ((HB.out.cell (World.block_lt_of_cell? w _ hw119_1)).trans hw119_1)⟩ (fun hHeld => ?_)
 clear hK K
 refine nu 56 ?_
 refine pu 10 (some 57) (ba 11 2047) HT_.out ?_
 refine done_ (done_of HT_.out (by kernel_rfl)) ?_
 have hnb73 := NB112_100.out
 have hnc73 := NB100_112.out
 have hnb74 := NB112_113.out
 have hnc74 := NB113_112.out
 have hcz75_0 : w72.cell? ⟨gb112, 0, none⟩ = some (.int .i64 a0_0) := (blk_cell BK112.out 0).trans rfl
 have hcz75_1 : w72.cell? ⟨gb112, 1, none⟩ = some (u101001) := (blk_cell BK112.out 1).trans rfl
 have hfz75_0 := blk_frozen BK112.out 0
 have hfz75_1 := blk_frozen BK112.out 1
 have hnb76 := NB113_100.out
 have hnc76 := NB100_113.out
 have hcz77_0 : w72.cell? ⟨gb113, 0, none⟩ = some (.int .i64 t101) := (blk_cell BK113.out 0).trans rfl
 have hcz77_1 : w72.cell? ⟨gb113, 1, none⟩ = some (.int .i64 t110) := (blk_cell BK113.out 1).trans rfl
 have hfz77_0 := blk_frozen BK113.out 0
 have hfz77_1 := blk_frozen BK113.out 1
 try go_wp2_with (first | ((with_reducible refine gate_builtin (b := .append) (xs := #[.tmp 59, .tmp 61]) rfl ?_); at_builtin; refine Kd.R_append kTie (w0 := w) w.heap.size rfl (.tmp 59) (.tmp 61) 23 32 (.agg #[(.int .i64 0), (.int .i64 0)]) 16 rfl Try.underlying23 info32 rfl (by decide) (by omega) u101001 x101001_2 (⟨t101, t110⟩ : STie) [.int .i64 t101, .int .i64 t110] (fun k_ => k_ ≠ gb113) (fun _ => False) rfl rfl ?aP (fun _ hk => hk.elim) ?aF ?aO ?aB ?aS ?aL ?_; (case aP => exact kTie_mkM _ _ _ (⟨t101, t110⟩ : STie)); (case aB => exact (qb HB.out)); (case aF => exact (fun k_ hk => Kd.freshB (g := gb113) (o := .cells #[.int .i64 t101, .int .i64 t110] 32 (0, 0)) (qk BK113.out) k_ hk)); (case aO => exact (qr HO_101001.out)); (case aS => exact (below_size (qb HB.out))); (case aL => have := LMc65.out; omega); intro v120 w78 ho hb hg hat; rw [← Ny104.out] at ho; replace BK108 := q0 (blk_grown (g := gb108) (o := .cells #[.int .i64 a0_0, .slice (some ad119) l0_1.length c0_1] 25 (0, 0)) (qk BK108.out) hg (Kd.R_ne HO_101001.out BK108.out (by decide))); replace BK100 := q0 (blk_grown (g := gb100) (o := .cells #[.int .i64 0, .slice none 0 0] 25 (0, 0)) (qk BK100.out) hg (Kd.R_ne HO_101001.out BK100.out (by decide))); replace BK112 := q0 (blk_grown (g := gb112) (o := .cells #[.int .i64 a0_0, u101001] 25 (0, 0)) (qk BK112.out) hg (Kd.R_ne HO_101001.out BK112.out (by decide))); replace BK113 := q0 (blk_grown (g := gb113) (o := .cells #[.int .i64 t101, .int .i64 t110] 32 (0, 0)) (qk BK113.out) hg (Kd.R_away HO_101001.out (fun _ hk => hk))); replace HB := q0 (hb); have HO121 := q0 (ho); clear HO_101001; clear ho hb hg hat; obtain ⟨Ao79, co79, eo79⟩ := Kd.R_slice HO121.out; subst eo79; have hcz80_0 : w78.cell? ⟨gb112, 0, none⟩ = some (.int .i64 a0_0) := (blk_cell BK112.out 0).trans rfl; have hcz80_1 : w78.cell? ⟨gb112, 1, none⟩ = some (u101001) := (blk_cell BK112.out 1).trans rfl; have hfz80_0 := blk_frozen BK112.out 0; have hfz80_1 := blk_frozen BK112.out 1))
 have n0_ : Aside0 (Kd.R kTie 32 (w78.setCell ⟨gb112, 1, none⟩ (.slice Ao79 y104.length co79)) w.heap.size (fun k_ => k_ ≠ gb113) (.slice Ao79 y104.length co79) y104) := ⟨by (with_reducible repeat (first | apply Kd.R_alloc | apply Kd.R_drewN | apply Kd.R_drew)); exact Kd.R_mono (Kd.R_far (p := ⟨gb112, 1, none⟩) (Kd.R_types HO121.out BK112.out (by decide)) (fun _ hk => hk.2) (.slice Ao79 y104.length co79)) (fun _ hk => hk.1)⟩
 have n1_ : Aside0 ((w78.setCell ⟨gb112, 1, none⟩ (.slice Ao79 y104.length co79)).heap[gb108]? = some (.cells #[.int .i64 a0_0, .slice (some ad119) l0_1.length c0_1] 25 (0, 0))) := ⟨qf BK108.out⟩
 have n2_ : Aside0 ((w78.setCell ⟨gb112, 1, none⟩ (.slice Ao79 y104.length co79)).heap[gb100]? = some (.cells #[.int .i64 0, .slice none 0 0] 25 (0, 0))) := ⟨qf BK100.out⟩
 have n3_ : Aside0 ((w78.setCell ⟨gb112, 1, none⟩ (.slice Ao79 y104.length co79)).heap[gb112]? = some (.cells #[.int .i64 a0_0, .slice Ao79 y104.length co79] 25 (0, 0))) := ⟨by (with_reducible repeat (first | refine blk_drewN ?_ _ | refine blk_drew ?_ | refine blk_alloc ?_ _)); refine blk_put (cs := #[.int .i64 a0_0, u101001]) ?_ 1 _ rfl; (with_reducible repeat (first | refine blk_drewN ?_ _ | refine blk_drew ?_ | refine blk_alloc ?_ _)); exact BK112.out⟩
 have n4_ : Aside0 ((w78.setCell ⟨gb112, 1, none⟩ (.slice Ao79 y104.length co79)).heap[gb113]? = some (.cells #[.int .i64 t101, .int .i64 t110] 32 (0, 0))) := ⟨qf BK113.out⟩
 have n5_ : Aside0 (Below w.heap.size w (w78.setCell ⟨gb112, 1, none⟩ (.slice Ao79 y104.length co79))) := ⟨qb HB.out⟩
 (try clear HO121)
 (try clear BK108)
 (try clear BK100)
 (try clear BK112)
 (try clear BK113)
 (try clear HB)
 generalize (w78.setCell ⟨gb112, 1, none⟩ (.slice Ao79 y104.length co79)) = w81 at n0_ n1_ n2_ n3_ n4_ n5_ ⊢
 have HO121 := n0_
 have BK108 := n1_
 have BK100 := n2_
 have BK112 := n3_
 have BK113 := n4_
 have HB := n5_
 clear n0_ n1_ n2_ n3_ n4_ n5_
 replace HO121 := q0 (Kd.R_drew HO121.out)
 replace BK108 := q0 (blk_drew BK108.out)
 replace BK100 := q0 (blk_drew BK100.out)
 replace BK112 := q0 (blk_drew BK112.out)
 replace BK113 := q0 (blk_drew BK113.out)
 replace HB := q0 (below_drew1 HB.out)
 have p122 : 0 ≤ (x11_2 : Int) := of_decide_eq_true qa
 have q122 : x11_2 < (l0_1.length : Int) := of_decide_eq_true qa
 obtain ⟨ad122, e122, hx122_0, hx122_1⟩ := at_TTie HR0_1.out x11_2 p122 q122
 have hw122_1 := hx122_1
 have hw122_0 := hx122_0
 obtain rfl : ad119 = ad122 := (by injection e122)
 replace hx122_0 := (HB.out.cell (World.block_lt_of_cell? w _ hx122_0)).trans hx122_0
 replace hx122_1 := (HB.out.cell (World.block_lt_of_cell? w _ hx122_1)).trans hx122_1
 replace p122 := eq_true p122
 replace q122 := eq_true q122
 refine start_ (n := 11) (S := fun w' => w'.cell? ⟨gb112, 0, none⟩ = some (.int .i64 a0_0) ∧ w'.cell? ⟨gb112, 1, none⟩ = some (.slice Ao79 y104.length co79) ∧ w'.cell? ⟨gb108, 0, none⟩ = some (.int .i64 a0_0) ∧ w'.cell? ⟨gb108, 1, none⟩ = some (.slice (some ad119) l0_1.length c0_1) ∧ w'.cell? (ad119.add ((x11_2).toNat * 2)) = some (.int .i64 ((rd_TTie l0_1 x11_2).f0)) ∧ w'.cell? ⟨(ad119.add ((x11_2).toNat * 2)).block, (ad119.add ((x11_2).toNat * 2)).off + 1, none⟩ = some (.int .i64 ((rd_TTie l0_1 x11_2).f1))) (ds := [10]) (ba 11 0) (by kernel_rfl) rfl (by kernel_rfl) ⟨(blk_cell BK112.out 0).trans rfl, (blk_cell BK112.out 1).trans rfl, (blk_cell BK108.out 0).trans rfl, (blk_cell BK108.out 1).trans rfl, ((HB.out.cell (World.block_lt_of_cell? w _ hw122_0)).trans hw122_0), ((HB.out.cell (World.block_lt_of_cell? w _ hw122_1)).trans hw122_1)⟩ (fun hHeld => ?_); refine with_tabW spec_NetAdd.tab12 spec_NetAdd.bits12 (fun HT_ HW_ => ?_)
 generalize w81.drew = w82 at HO121 BK108 BK100 BK112 BK113 HB hx122_0 hx122_1 hHeld ⊢
 refine pu 0 (some 64) (ba 11 1) HT_.out ?_
 refine pu 2 (some 66) (ba 11 5) HT_.out ?_
 refine pu 4 (some 68) (ba 11 21) HT_.out ?_
 refine tu 1 (some 65) (ba 11 23) HT_.out HW_.out hHeld ?_
 refine tu 3 (some 67) (ba 11 31) HT_.out HW_.out hHeld ?_
 refine pu 5 (some 69) (ba 11 63) HT_.out ?_
 refine tu 6 (some 70) (ba 11 127) HT_.out HW_.out hHeld ?_
 refine one_ (i := 7) (N := some 71) (ba 11 255) rfl rfl (one_of HT_.out (by kernel_rfl)) (by decide) (fun K hK => ?_)
 refine value_ (w1 := ?_) (v := ?_) (by rfl) rfl ?_ ?_
 rotate_left 2
 · go_simp
   constructor
   · rfl
   · rfl
 refine hK.out _ _ ⟨(blk_cell (blk_alloc BK112.out _) 0).trans rfl, (blk_cell (blk_alloc BK112.out _) 1).trans rfl, (blk_cell (blk_alloc BK108.out _) 0).trans rfl, (blk_cell (blk_alloc BK108.out _) 1).trans rfl, (World.cell?_alloc_lt _ _ _ (World.block_lt_of_cell? _ _ (((HB.out.cell (World.block_lt_of_cell? w _ hw122_0)).trans hw122_0)))).trans (((HB.out.cell (World.block_lt_of_cell? w _ hw122_0)).trans hw122_0)), (World.cell?_alloc_lt _ _ _ (World.block_lt_of_cell? _ _ (((HB.out.cell (World.block_lt_of_cell? w _ hw122_1)).trans hw122_1)))).trans (((HB.out.cell (World.block_lt_of_cell? w _ hw122_1)).trans hw122_1))⟩ (fun hHeld => ?_)
 clear hK K
 refine nu 71 ?_
 refine one_ (i := 8) (N := some 72) (ba 11 511) rfl rfl (one_of HT_.out (by kernel_rfl)) (by decide) (fun K hK => ?_)
 refine Kd.R_append_step kTie (w0 := w) w.heap.size (by rfl) (.tmp 65) (.tmp 71) 23 32 (.agg #[(.int .i64 0), (.int .i64 0)]) 16 rfl Try.underlying23 info32 rfl (by decide) (by omega) (.slice Ao79 y104.length co79) y104 (⟨(rd_TTie l0_1 x11_2).f0, (rd_TTie l0_1 x11_2).f1⟩ : STie) [.int .i64 ((rd_TTie l0_1 x11_2).f0), .int .i64 ((rd_TTie l0_1 x11_2).f1)] (fun k_ => k_ ≠ gb113) (fun _ => False) rfl rfl ?aP (fun _ hk => hk.elim) ?aF ?aO ?aB ?aS ?aL ?_
 (case aP => exact kTie_mkM _ _ _ (⟨(rd_TTie l0_1 x11_2).f0, (rd_TTie l0_1 x11_2).f1⟩ : STie))
 (case aB => exact (qb HB.out))
 (case aF => exact (fun k_ hk => Kd.freshB (g := gb113) (o := .cells #[.int .i64 t101, .int .i64 t110] 32 (0, 0)) (qk BK113.out) k_ hk))
 (case aO => exact (qr HO121.out))
 (case aS => exact (below_size (qb HB.out)))
 (case aL => have := LMc66.out; omega)
 intro v123 w83 ho hb hg hat
 rw [← Ny118.out] at ho
 replace BK108 := q0 (blk_grown (g := gb108) (o := .cells #[.int .i64 a0_0, .slice (some ad119) l0_1.length c0_1] 25 (0, 0)) (qk BK108.out) hg (Kd.R_ne HO121.out BK108.out (by decide)))
 replace BK100 := q0 (blk_grown (g := gb100) (o := .cells #[.int .i64 0, .slice none 0 0] 25 (0, 0)) (qk BK100.out) hg (Kd.R_ne HO121.out BK100.out (by decide)))
 replace BK112 := q0 (blk_grown (g := gb112) (o := .cells #[.int .i64 a0_0, .slice Ao79 y104.length co79] 25 (0, 0)) (qk BK112.out) hg (Kd.R_ne HO121.out BK112.out (by decide)))
 replace BK113 := q0 (blk_grown (g := gb113) (o := .cells #[.int .i64 t101, .int .i64 t110] 32 (0, 0)) (qk BK113.out) hg (Kd.R_away HO121.out (fun _ hk => hk)))
 replace HB := q0 (hb)
 have HO124 := q0 (ho)
 clear HO121
 clear ho hb hg hat
 obtain ⟨Ao84, co84, eo84⟩ := Kd.R_slice HO124.out
 (first | subst eo84 | (injection eo84 with f1_ f2_ f3_; have f4_ := f1_.symm; have f5_ := f3_.symm; clear f1_ f2_ f3_; subst f4_; subst f5_))
 refine hK.out _ _ ⟨(blk_cell BK112.out 0).trans rfl, (blk_cell BK112.out 1).trans rfl, (blk_cell BK108.out 0).trans rfl, (blk_cell BK108.out 1).trans rfl, ((HB.out.cell (World.block_lt_of_cell? w _ hw122_0)).trans hw122_0), ((HB.out.cell (World.block_lt_of_cell? w _ hw122_1)).trans hw122_1)⟩ (fun hHeld => ?_)
 clear hK K
 refine nu 72 ?_
 refine pu 9 (some 73) (ba 11 1023) HT_.out ?_
 refine last_ (i := 10) (N := none) (ba 11 2047) rfl rfl (one_of HT_.out (by kernel_rfl)) (by decide) (fun K hK => ?_)
 have hs85 : w83.cell? ⟨gb112, 1, none⟩ = some (.slice Ao79 y104.length co79) := (blk_cell BK112.out 1).trans rfl
 have hfs85 := blk_frozen BK112.out 1
 have hns85_0 := NB108_112.out
 have hns85_1 := NB100_112.out
 have hns85_3 := NB113_112.out
 have hms85_0 := NB112_108.out
 have hms85_1 := NB112_100.out
 have hms85_3 := NB112_113.out
 refine skip_ (w1 := ?_) (by rfl) rfl ?_ ?_
 rotate_left
 · go_simp
   rfl
 refine hK.out _ _ ?_
 clear hK K
 refine done_ (done_of HT_.out (by kernel_rfl)) ?_
 try go_wp2
 go_roundg k2
 case measure => have := HJ3.out; have := HK2.out; omega
 case rel => exact ⟨(true), (wrap64 (x11_2 + 1)), (y118), (.slice Ao84 y118.length co84), qs, qs, H', ⟨by have := HJ3.out; have := HK2.out; omega⟩, ⟨by (with_reducible repeat (first | apply Kd.R_alloc | apply Kd.R_drewN | apply Kd.R_drew)); exact Kd.R_mono (Kd.R_far (p := ⟨gb112, 1, none⟩) (Kd.R_types HO124.out BK112.out (by decide)) (fun _ hk => hk.2) (.slice Ao84 y118.length co84)) (fun _ hk => hk.1)⟩, ⟨qf BK108.out⟩, ⟨qf BK100.out⟩, ⟨by (with_reducible repeat (first | refine blk_drewN ?_ _ | refine blk_drew ?_ | refine blk_alloc ?_ _)); refine blk_put (cs := #[.int .i64 a0_0, .slice Ao79 y104.length co79]) ?_ 1 _ rfl; (with_reducible repeat (first | refine blk_drewN ?_ _ | refine blk_drew ?_ | refine blk_alloc ?_ _)); exact BK112.out⟩, ⟨qf BK113.out⟩, ⟨qb HB.out⟩⟩

set_option maxHeartbeats 8000000 in
set_option maxRecDepth 100000 in
theorem cmp_Or_int.calls (k : Nat) (A0 : Option Addr) (c0 : Nat) (l0 : List Int) (r : Int) (w : World) (hr0 : Kd.C (Kd.int .i64) w A0 l0.length l0) (hc0 : l0.length ≤ c0) (h : cmp_Or_int.f k l0 = some r) :
    Calls Try.prog 99 #[.slice A0 l0.length c0] w fun e w' => e = .returned (.int .i64 r) ∧ Drawn0 w w' := by
 have HR0 := Aside0.mk hr0
 have HC0 := Aside0.mk hc0
 clear hr0 hc0
 have H : (cmp_Or_int.l0 k 0 l0 (l0.length : Int) 0) = some r := h
 clear h
 have H' := Aside0.mk H
 clear H
 go_enter Try.func99, Try.ntmps99
 go_wp2
 go_loopg [8] k (fun kq v8 w' => ∃ (x8_1 : Int), v8 = .int .i64 x8_1 ∧ Aside0 (cmp_Or_int.l0 kq 0 l0 (l0.length : Int) x8_1 = some r) ∧ Aside0 (kq ≤ k) ∧ Drawn0 w w')
 case atStart => exact ⟨(0), qs, H', ⟨Nat.le_refl _⟩, by repeat (first | exact Drawn0.refl _ | apply Drawn0.step)⟩
 clear H'
 obtain ⟨x8_1, rfl, HA, HK1, ⟨m1, rfl⟩⟩ := hrel
 rcases gk with _ | k1
 · exact absurd HA.out (by simp [cmp_Or_int.l0])
 have H := HA.out
 clear HA
 simp only [cmp_Or_int.l0] at H
 by_cases c2 : x8_1 < (l0.length : Int)
 rotate_left
 · rw [if_neg c2] at H
   have c2b0 : decide (x8_1 < (l0.length : Int)) = false := decide_eq_false c2
   clear c2
   obtain rfl := Option.some.inj H
   go_wp2
   go_ret
   exact ⟨by first | rfl | (simp; done) | (simp [*]; done), by repeat (first | exact Drawn0.refl _ | apply Drawn0.step)⟩
 rw [if_pos c2] at H
 have c2b0 : decide (x8_1 < (l0.length : Int)) = true := decide_eq_true c2
 clear c2
 by_cases c3 : 0 ≤ x8_1
 rotate_left
 · rw [if_neg c3] at H
   exact absurd H (by simp)
 rw [if_pos c3] at H
 have c3b0 : decide (0 ≤ x8_1) = true := decide_eq_true c3
 clear c3
 by_cases c4 : x8_1 < (l0.length : Int)
 rotate_left
 · rw [if_neg c4] at H
   exact absurd H (by simp)
 rw [if_pos c4] at H
 have c4b0 : decide (x8_1 < (l0.length : Int)) = true := decide_eq_true c4
 clear c4
 by_cases c5 : (rd l0 x8_1) = 0
 rotate_left
 · rw [if_neg c5] at H
   have c5b0 : ((rd l0 x8_1) == 0) = false := beq_eq_false_iff_ne.mpr c5
   have c5b1 : ((rd l0 x8_1) != 0) = true := bne_iff_ne.mpr c5
   obtain rfl := Option.some.inj H
   have p100 : 0 ≤ (x8_1 : Int) := of_decide_eq_true qa
   have q100 : x8_1 < (l0.length : Int) := of_decide_eq_true qa
   obtain ⟨ad100, e100, hx100_0⟩ := Kd.at_int HR0.out x8_1 p100 q100
   cases e100
   replace p100 := eq_true p100
   replace q100 := eq_true q100
   go_wp2
   go_ret
   exact ⟨by first | rfl | (simp; done) | (simp [*]; done), by repeat (first | exact Drawn0.refl _ | apply Drawn0.step)⟩
 rw [if_pos c5] at H
 have c5b0 : ((rd l0 x8_1) == 0) = true := beq_iff_eq.mpr c5
 have c5b1 : ((rd l0 x8_1) != 0) = false := bne_eq_false_iff_eq.mpr c5
 clear c5
 have H' := Aside0.mk H
 clear H
 have p100 : 0 ≤ (x8_1 : Int) := of_decide_eq_true qa
 have q100 : x8_1 < (l0.length : Int) := of_decide_eq_true qa
 obtain ⟨ad100, e100, hx100_0⟩ := Kd.at_int HR0.out x8_1 p100 q100
 cases e100
 replace p100 := eq_true p100
 replace q100 := eq_true q100
 go_wp2
 go_roundg k1
 case measure => have := HK1.out; omega
 case rel => exact ⟨(wrap64 (x8_1 + 1)), qs, H', ⟨by have := HK1.out; omega⟩, by repeat (first | exact Drawn0.refl _ | apply Drawn0.step)⟩

set_option maxHeartbeats 8000000 in
set_option maxRecDepth 100000 in
theorem cmp_isNaN_int.calls (a0 : Int) (r : Bool) (w : World) (h : cmp_isNaN_int.f a0 = some r) :
    Calls Try.prog 120 #[.int .i64 a0] w fun e w' => e = .returned (.bool r) ∧ Drawn0 w w' := by
 have H : (some (a0 != a0)) = some r := h
 clear h
 obtain rfl := Option.some.inj H
 go_enter Try.func120, Try.ntmps120
 go_wp2
 go_ret
 exact ⟨by first | rfl | (simp; done) | (simp [*]; done), by repeat (first | exact Drawn0.refl _ | apply Drawn0.step)⟩

set_option maxHeartbeats 8000000 in
set_option maxRecDepth 100000 in
theorem cmp_Compare_int.calls (a0 : Int) (a1 : Int) (r : Int) (w : World) (h : cmp_Compare_int.f a0 a1 = some r) :
    Calls Try.prog 100 #[.int .i64 a0, .int .i64 a1] w fun e w' => e = .returned (.int .i64 r) ∧ Drawn0 w w' := by
 have H : ((cmp_isNaN_int.f a0).bind fun t100 => ((cmp_isNaN_int.f a1).bind fun t101 => (if t100 = true then (if t101 = true then (some 0) else (some (-1))) else (if t101 = true then (some 1) else (if a0 < a1 then (some (-1)) else (if a0 > a1 then (some 1) else (some 0))))))) = some r := h
 clear h
 replace H := Option.bind_eq_some_iff.mp H
 obtain ⟨t100, A30, H⟩ := H
 have A3 := Aside0.mk A30
 clear A30
 replace H := Option.bind_eq_some_iff.mp H
 obtain ⟨t101, A40, H⟩ := H
 have A4 := Aside0.mk A40
 clear A40
 by_cases c5 : t100 = true
 · subst c5
   rw [if_pos rfl] at H
   by_cases c6 : t101 = true
   · subst c6
     rw [if_pos rfl] at H
     obtain rfl := Option.some.inj H
     go_enter Try.func100, Try.ntmps100
     go_wp2_with (first | ((with_reducible refine gate_callee (f := 120) rfl ?_); refine gl 8 Try.func120 #[.int .i64 a0] ?_; (with_reducible refine (cmp_isNaN_int.calls a0 true _ A3.out).mono ?_); rintro e w' ⟨rfl, ⟨nd, rfl⟩⟩; refine ⟨_, rfl, ?_⟩) | ((with_reducible refine gate_callee (f := 120) rfl ?_); refine gl 10 Try.func120 #[.int .i64 a1] ?_; (with_reducible refine (cmp_isNaN_int.calls a1 true _ A4.out).mono ?_); rintro e w' ⟨rfl, ⟨nd, rfl⟩⟩; refine ⟨_, rfl, ?_⟩))
     go_ret
     exact ⟨by first | rfl | (simp; done) | (simp [*]; done), by repeat (first | exact Drawn0.refl _ | apply Drawn0.step)⟩
   replace c6 := Bool.eq_false_iff.mpr c6
   subst c6
   rw [if_neg nf] at H
   obtain rfl := Option.some.inj H
   go_enter Try.func100, Try.ntmps100
   go_wp2_with (first | ((with_reducible refine gate_callee (f := 120) rfl ?_); refine gl 8 Try.func120 #[.int .i64 a0] ?_; (with_reducible refine (cmp_isNaN_int.calls a0 true _ A3.out).mono ?_); rintro e w' ⟨rfl, ⟨nd, rfl⟩⟩; refine ⟨_, rfl, ?_⟩) | ((with_reducible refine gate_callee (f := 120) rfl ?_); refine gl 10 Try.func120 #[.int .i64 a1] ?_; (with_reducible refine (cmp_isNaN_int.calls a1 false _ A4.out).mono ?_); rintro e w' ⟨rfl, ⟨nd, rfl⟩⟩; refine ⟨_, rfl, ?_⟩))
   go_ret
   exact ⟨by first | rfl | (simp; done) | (simp [*]; done), by repeat (first | exact Drawn0.refl _ | apply Drawn0.step)⟩
 replace c5 := Bool.eq_false_iff.mpr c5
 subst c5
 rw [if_neg nf] at H
 by_cases c7 : t101 = true
 · subst c7
   rw [if_pos rfl] at H
   obtain rfl := Option.some.inj H
   go_enter Try.func100, Try.ntmps100
   go_wp2_with (first | ((with_reducible refine gate_callee (f := 120) rfl ?_); refine gl 8 Try.func120 #[.int .i64 a0] ?_; (with_reducible refine (cmp_isNaN_int.calls a0 false _ A3.out).mono ?_); rintro e w' ⟨rfl, ⟨nd, rfl⟩⟩; refine ⟨_, rfl, ?_⟩) | ((with_reducible refine gate_callee (f := 120) rfl ?_); refine gl 10 Try.func120 #[.int .i64 a1] ?_; (with_reducible refine (cmp_isNaN_int.calls a1 true _ A4.out).mono ?_); rintro e w' ⟨rfl, ⟨nd, rfl⟩⟩; refine ⟨_, rfl, ?_⟩))
   go_ret
   exact ⟨by first | rfl | (simp; done) | (simp [*]; done), by repeat (first | exact Drawn0.refl _ | apply Drawn0.step)⟩
 replace c7 := Bool.eq_false_iff.mpr c7
 subst c7
 rw [if_neg nf] at H
 by_cases c8 : a0 < a1
 · rw [if_pos c8] at H
   have c8b0 : decide (a0 < a1) = true := decide_eq_true c8
   clear c8
   obtain rfl := Option.some.inj H
   go_enter Try.func100, Try.ntmps100
   go_wp2_with (first | ((with_reducible refine gate_callee (f := 120) rfl ?_); refine gl 8 Try.func120 #[.int .i64 a0] ?_; (with_reducible refine (cmp_isNaN_int.calls a0 false _ A3.out).mono ?_); rintro e w' ⟨rfl, ⟨nd, rfl⟩⟩; refine ⟨_, rfl, ?_⟩) | ((with_reducible refine gate_callee (f := 120) rfl ?_); refine gl 10 Try.func120 #[.int .i64 a1] ?_; (with_reducible refine (cmp_isNaN_int.calls a1 false _ A4.out).mono ?_); rintro e w' ⟨rfl, ⟨nd, rfl⟩⟩; refine ⟨_, rfl, ?_⟩))
   go_ret
   exact ⟨by first | rfl | (simp; done) | (simp [*]; done), by repeat (first | exact Drawn0.refl _ | apply Drawn0.step)⟩
 rw [if_neg c8] at H
 have c8b0 : decide (a0 < a1) = false := decide_eq_false c8
 clear c8
 by_cases c9 : a0 > a1
 · rw [if_pos c9] at H
   have c9b0 : decide (a1 < a0) = true := decide_eq_true c9
   clear c9
   obtain rfl := Option.some.inj H
   go_enter Try.func100, Try.ntmps100
   go_wp2_with (first | ((with_reducible refine gate_callee (f := 120) rfl ?_); refine gl 8 Try.func120 #[.int .i64 a0] ?_; (with_reducible refine (cmp_isNaN_int.calls a0 false _ A3.out).mono ?_); rintro e w' ⟨rfl, ⟨nd, rfl⟩⟩; refine ⟨_, rfl, ?_⟩) | ((with_reducible refine gate_callee (f := 120) rfl ?_); refine gl 10 Try.func120 #[.int .i64 a1] ?_; (with_reducible refine (cmp_isNaN_int.calls a1 false _ A4.out).mono ?_); rintro e w' ⟨rfl, ⟨nd, rfl⟩⟩; refine ⟨_, rfl, ?_⟩))
   go_ret
   exact ⟨by first | rfl | (simp; done) | (simp [*]; done), by repeat (first | exact Drawn0.refl _ | apply Drawn0.step)⟩
 rw [if_neg c9] at H
 have c9b0 : decide (a1 < a0) = false := decide_eq_false c9
 clear c9
 obtain rfl := Option.some.inj H
 go_enter Try.func100, Try.ntmps100
 go_wp2_with (first | ((with_reducible refine gate_callee (f := 120) rfl ?_); refine gl 8 Try.func120 #[.int .i64 a0] ?_; (with_reducible refine (cmp_isNaN_int.calls a0 false _ A3.out).mono ?_); rintro e w' ⟨rfl, ⟨nd, rfl⟩⟩; refine ⟨_, rfl, ?_⟩) | ((with_reducible refine gate_callee (f := 120) rfl ?_); refine gl 10 Try.func120 #[.int .i64 a1] ?_; (with_reducible refine (cmp_isNaN_int.calls a1 false _ A4.out).mono ?_); rintro e w' ⟨rfl, ⟨nd, rfl⟩⟩; refine ⟨_, rfl, ?_⟩))
 go_ret
 exact ⟨by first | rfl | (simp; done) | (simp [*]; done), by repeat (first | exact Drawn0.refl _ | apply Drawn0.step)⟩

def impl_tieOrder.T1 : Bool × List (List Nat × List Nat) := (true, [([], []), ([0], [0]), ([], []), ([2], [2]), ([1, 3], [1, 3]), ([], []), ([5], [5]), ([], []), ([7], [7]), ([6, 8, 4], [6, 8]), ([4, 9], [4, 9]), ([10, 9], [10]), ([11, 11, 0, 1, 2, 3, 4, 5, 6, 7, 8, 9, 10, 11], [11])])
def impl_tieOrder.B1 : List Nat := [0, 1, 0, 4, 15, 0, 32, 0, 128, 511, 1023, 2047, 4095]
theorem impl_tieOrder.tab1 : rtab .any (opsOf Try.f73 1) = impl_tieOrder.T1 := by kernel_rfl
theorem impl_tieOrder.bits1 : waitsOk impl_tieOrder.T1.2 impl_tieOrder.B1 = true := by kernel_rfl
set_option maxHeartbeats 8000000 in
set_option maxRecDepth 100000 in
theorem impl_tieOrder.calls (k : Nat) (a0_0 : Int) (a0_1 : Int) (a1_0 : Int) (a1_1 : Int) (r : Int) (w : World) (h : impl_tieOrder.f k a0_0 a0_1 a1_0 a1_1 = some r) :
    Calls Try.prog 73 #[.agg #[.int .i64 a0_0, .int .i64 a0_1], .agg #[.int .i64 a1_0, .int .i64 a1_1]] w fun e w' => e = .returned (.int .i64 r) ∧ Below w.heap.size w w' := by
 have hu32 := Try.underlying32
 have HB := q0 (Below.refl w.heap.size w)
 have H : ((cmp_Compare_int.f a0_0 a1_0).bind fun t100 => ((cmp_Compare_int.f a0_1 a1_1).bind fun t101 => ((cmp_Or_int.f k (([t100, t101] : List Int))).bind fun t102 => (some t102)))) = some r := h
 clear h
 replace H := Option.bind_eq_some_iff.mp H
 obtain ⟨t100, A30, H⟩ := H
 have A3 := Aside0.mk A30
 clear A30
 replace H := Option.bind_eq_some_iff.mp H
 obtain ⟨t101, A40, H⟩ := H
 have A4 := Aside0.mk A40
 clear A40
 obtain ⟨y103, hy103⟩ : ∃ y_ : List Int, y_ = (([t100, t101] : List Int)) := ⟨_, rfl⟩
 replace H : ((cmp_Or_int.f k y103).bind fun t102 => (some t102)) = some r := qy H hy103
 have Ny103 := Aside0.mk hy103
 clear hy103
 replace H := Option.bind_eq_some_iff.mp H
 obtain ⟨t102, A50, H⟩ := H
 have A5 := Aside0.mk A50
 clear A50
 obtain rfl := Option.some.inj H
 go_enter Try.func73, Try.ntmps73
 try go_wp2_with (first | ((with_reducible refine gate_dst (N := 2) rfl ?_); refine be 2 #[.int .i64 a0_0, .int .i64 a0_1] 32 ?_; intro gb104 hg w6 hbox hb; have BK104 := q0 (hbox); have GW104 := q0 ((bs HB.out hg : w.heap.size ≤ gb104)); have GE104 := q0 ((bs HB.out hg : w.heap.size ≤ gb104)); replace HB := q0 (below_step (qb HB.out) hb); clear hb hbox hg) | ((with_reducible refine gate_dst (N := 3) rfl ?_); refine be 3 #[.int .i64 a1_0, .int .i64 a1_1] 32 ?_; intro gb105 hg w7 hbox hb; have BK105 := q0 (hbox); have GW105 := q0 ((bs HB.out hg : w.heap.size ≤ gb105)); have GE105 := q0 ((bs HB.out hg : w.heap.size ≤ gb105)); replace HB := q0 (below_step (qb HB.out) hb); have NB104_105 := q0 ((bl BK104.out hg : gb104 ≠ gb105)); have NB105_104 := q0 ((bg BK104.out hg : gb105 ≠ gb104)); replace BK104 := q0 (kb BK104.out hb); clear hb hbox hg))
 replace BK104 := q0 (blk_drew BK104.out)
 replace BK105 := q0 (blk_drew BK105.out)
 replace HB := q0 (below_drew1 HB.out)
 refine start_ (n := 13) (S := fun w' => w'.cell? ⟨gb104, 0, none⟩ = some (.int .i64 a0_0) ∧ w'.cell? ⟨gb104, 1, none⟩ = some (.int .i64 a0_1) ∧ w'.cell? ⟨gb105, 0, none⟩ = some (.int .i64 a1_0) ∧ w'.cell? ⟨gb105, 1, none⟩ = some (.int .i64 a1_1)) (ds := []) (ba 13 0) (by kernel_rfl) rfl (by kernel_rfl) ⟨(blk_cell BK104.out 0).trans rfl, (blk_cell BK104.out 1).trans rfl, (blk_cell BK105.out 0).trans rfl, (blk_cell BK105.out 1).trans rfl⟩ (fun hHeld => ?_); refine with_tabW impl_tieOrder.tab1 impl_tieOrder.bits1 (fun HT_ HW_ => ?_)
 generalize w7.drew = w8 at BK104 BK105 HB hHeld ⊢
 refine pu 0 (some 5) (ba 13 1) HT_.out ?_
 refine pu 2 (some 7) (ba 13 5) HT_.out ?_
 refine pu 5 (some 10) (ba 13 37) HT_.out ?_
 refine pu 7 (some 12) (ba 13 165) HT_.out ?_
 refine tu 1 (some 6) (ba 13 167) HT_.out HW_.out hHeld ?_
 refine tu 3 (some 8) (ba 13 175) HT_.out HW_.out hHeld ?_
 refine tu 6 (some 11) (ba 13 239) HT_.out HW_.out hHeld ?_
 refine tu 8 (some 13) (ba 13 495) HT_.out HW_.out hHeld ?_
 refine one_ (i := 4) (N := some 9) (ba 13 511) rfl rfl (one_of HT_.out (by kernel_rfl)) (by decide) (fun K hK => ?_)
 refine goes_ Try.func100 (by kernel_rfl) rfl #[.int .i64 a0_0, .int .i64 a1_0] (by rfl) rfl rfl qm ?_
 with_reducible refine (cmp_Compare_int.calls a0_0 a1_0 t100 _ A3.out).mono ?_
 rintro e w' ⟨rfl, ⟨nd, rfl⟩⟩
 refine ⟨_, rfl, ?_⟩
 refine hK.out _ _ ⟨(blk_cell BK104.out 0).trans rfl, (blk_cell BK104.out 1).trans rfl, (blk_cell BK105.out 0).trans rfl, (blk_cell BK105.out 1).trans rfl⟩ (fun hHeld => ?_)
 clear hK K
 refine nu 9 ?_
 refine one_ (i := 9) (N := some 14) (ba 13 1023) rfl rfl (one_of HT_.out (by kernel_rfl)) (by decide) (fun K hK => ?_)
 refine goes_ Try.func100 (by kernel_rfl) rfl #[.int .i64 a0_1, .int .i64 a1_1] (by rfl) rfl rfl qm ?_
 with_reducible refine (cmp_Compare_int.calls a0_1 a1_1 t101 _ A4.out).mono ?_
 rintro e w' ⟨rfl, ⟨nd, rfl⟩⟩
 refine ⟨_, rfl, ?_⟩
 refine hK.out _ _ ⟨(blk_cell BK104.out 0).trans rfl, (blk_cell BK104.out 1).trans rfl, (blk_cell BK105.out 0).trans rfl, (blk_cell BK105.out 1).trans rfl⟩ (fun hHeld => ?_)
 clear hK K
 refine nu 14 ?_
 refine one_ (i := 10) (N := some 15) (ba 13 2047) rfl rfl (one_of HT_.out (by kernel_rfl)) (by decide) (fun K hK => ?_)
 refine Kd.R_lit_step (Kd.int .i64) _ 3 ?hg (N := 15) ?hd (xs := ([t100, t101] : List Int)) (inner := [.int .i64 t100, .int .i64 t101]) (ok := fun _ => True) (okp := fun _ => True) ?hr ?hp (fun _ hk => hk) trivial (Below.refl _ _) (Nat.le_refl _) (by simp) ?_; (case hd => rfl); (case hg => rfl); (case hr => first | (go_simp; done) | (go_simp; rfl)); (case hp => exact (Reps.one (show Kd.M (Kd.int .i64) _ _ _ t100 [.int .i64 t100] from rfl) (Reps.one (show Kd.M (Kd.int .i64) _ _ _ t101 [.int .i64 t101] from rfl) (Reps.none _ _))))
 intro v106 w9 ho10 hb hg_ hnew_
 clear hg_ hnew_
 (first | rw [← Ny103.out] at ho10 | (simp only [Int.reduceToNat] at ho10; rw [← Ny103.out] at ho10))
 have HO107 := q0 (Kd.R_lower ho10 (below_size (qb HB.out)))
 replace BK104 := q0 (kb BK104.out hb)
 replace BK105 := q0 (kb BK105.out hb)
 replace HB := q0 (below_step (qb HB.out) hb)
 clear hb ho10
 obtain ⟨Ao11, co11, eo11⟩ := Kd.R_slice HO107.out
 (first | subst eo11 | (injection eo11 with f1_ f2_ f3_; have f4_ := f1_.symm; have f5_ := f3_.symm; clear f1_ f2_ f3_; subst f4_; subst f5_))
 refine hK.out _ _ ⟨(blk_cell BK104.out 0).trans rfl, (blk_cell BK104.out 1).trans rfl, (blk_cell BK105.out 0).trans rfl, (blk_cell BK105.out 1).trans rfl⟩ (fun hHeld => ?_)
 clear hK K
 refine nu 15 ?_
 refine one_ (i := 11) (N := some 16) (ba 13 4095) rfl rfl (one_of HT_.out (by kernel_rfl)) (by decide) (fun K hK => ?_)
 refine goes_ Try.func99 (by kernel_rfl) rfl #[.slice Ao11 y103.length co11] (by rfl) rfl rfl qm ?_
 with_reducible refine (cmp_Or_int.calls k _ _ y103 t102 _ ?side1 ?side2 A5.out).mono ?_
 (case side1 => exact qc (Kd.R_reads' HO107.out).2.2)
 (case side2 => exact (Kd.R_reads' HO107.out).2.1)
 rintro e w' ⟨rfl, ⟨nd, rfl⟩⟩
 refine ⟨_, rfl, ?_⟩
 refine hK.out _ _ ⟨(blk_cell BK104.out 0).trans rfl, (blk_cell BK104.out 1).trans rfl, (blk_cell BK105.out 0).trans rfl, (blk_cell BK105.out 1).trans rfl⟩ (fun hHeld => ?_)
 clear hK K
 refine nu 16 ?_
 refine pu 12 (some 4) (ba 13 8191) HT_.out ?_
 refine done_ (done_of HT_.out (by kernel_rfl)) ?_
 try go_wp2
 go_ret
 exact ⟨qe, qb HB.out⟩

def impl_ascending.T4 : Bool × List (List Nat × List Nat) := (true, [([], []), ([], []), ([1], [1]), ([0, 2], [0, 2]), ([3], [3]), ([], []), ([], []), ([5, 6], [5, 6]), ([7], [7]), ([4, 8], [4, 8]), ([9], [9])])
def impl_ascending.B4 : List Nat := [0, 0, 2, 7, 15, 0, 0, 96, 224, 511, 1023]
theorem impl_ascending.tab4 : rtab .any (opsOf Try.f78 4) = impl_ascending.T4 := by kernel_rfl
theorem impl_ascending.bits4 : waitsOk impl_ascending.T4.2 impl_ascending.B4 = true := by kernel_rfl
set_option maxHeartbeats 8000000 in
set_option maxRecDepth 100000 in
theorem impl_ascending.calls (k : Nat) (A0 : Option Addr) (c0 : Nat) (l0 : List (STie)) (r : Bool) (w : World) (hr0 : Kd.C kTie w A0 l0.length l0) (hc0 : l0.length ≤ c0) (h : impl_ascending.f k l0 = some r) :
    Calls Try.prog 78 #[.slice A0 l0.length c0] w fun e w' => e = .returned (.bool r) ∧ Below w.heap.size w w' := by
 have hu32 := Try.underlying32
 have HR0 := Aside0.mk hr0
 have HC0 := Aside0.mk hc0
 clear hr0 hc0
 have HB := q0 (Below.refl w.heap.size w)
 have H : (impl_ascending.l0 k l0 1) = some r := h
 clear h
 have H' := Aside0.mk H
 clear H
 go_enter Try.func78, Try.ntmps78
 go_wp2
 go_loopg [3] k (fun kq v3 w' => ∃ (x3_1 : Int), v3 = .int .i64 x3_1 ∧ Aside0 (impl_ascending.l0 kq l0 x3_1 = some r) ∧ Aside0 (kq ≤ k) ∧ Aside0 (Below w.heap.size w w'))
 case atStart => exact ⟨(1), qs, H', ⟨Nat.le_refl _⟩, ⟨qb HB.out⟩⟩
 clear H'
 obtain ⟨x3_1, rfl, HA, HK1, HB⟩ := hrel
 rcases gk with _ | k1
 · exact absurd HA.out (by simp [impl_ascending.l0])
 have H := HA.out
 clear HA
 simp only [impl_ascending.l0] at H
 by_cases c2 : x3_1 < (l0.length : Int)
 rotate_left
 · rw [if_neg c2] at H
   have c2b0 : decide (x3_1 < (l0.length : Int)) = false := decide_eq_false c2
   clear c2
   obtain rfl := Option.some.inj H
   go_wp2
   go_ret
   exact ⟨qe, qb HB.out⟩
 rw [if_pos c2] at H
 have c2b0 : decide (x3_1 < (l0.length : Int)) = true := decide_eq_true c2
 clear c2
 obtain ⟨ji3, hji3⟩ : ∃ j_ : Int, (wrap64 (x3_1 - 1)) = j_ := ⟨_, rfl⟩
 replace H : (if 0 ≤ (ji3) then (if (ji3) < (l0.length : Int) then (if 0 ≤ x3_1 then ((impl_tieOrder.f k1 ((rd_TTie l0 (ji3)).f0) ((rd_TTie l0 (ji3)).f1) ((rd_TTie l0 x3_1).f0) ((rd_TTie l0 x3_1).f1)).bind fun t100 => (if t100 ≥ 0 then (some false) else (impl_ascending.l0 k1 l0 (wrap64 (x3_1 + 1))))) else (none)) else (none)) else (none)) = some r := by first | (rw [hji3] at H; exact H) | (simp only [hji3] at H ⊢; exact H)
 have hji3w : (IntKind.i64.wrap (x3_1 - 1)) = ji3 := (i64_w _).trans hji3
 by_cases c4 : 0 ≤ (ji3)
 rotate_left
 · rw [if_neg c4] at H
   exact absurd H (by simp)
 rw [if_pos c4] at H
 have c4b0 : decide (0 ≤ (ji3)) = true := decide_eq_true c4
 clear c4
 by_cases c5 : (ji3) < (l0.length : Int)
 rotate_left
 · rw [if_neg c5] at H
   exact absurd H (by simp)
 rw [if_pos c5] at H
 have c5b0 : decide ((ji3) < (l0.length : Int)) = true := decide_eq_true c5
 clear c5
 by_cases c6 : 0 ≤ x3_1
 rotate_left
 · rw [if_neg c6] at H
   exact absurd H (by simp)
 rw [if_pos c6] at H
 have c6b0 : decide (0 ≤ x3_1) = true := decide_eq_true c6
 clear c6
 replace H := Option.bind_eq_some_iff.mp H
 obtain ⟨t100, A70, H⟩ := H
 have A7 := Aside0.mk A70
 clear A70
 by_cases c8 : t100 ≥ 0
 · rw [if_pos c8] at H
   have c8b0 : decide (0 ≤ t100) = true := decide_eq_true c8
   clear c8
   obtain rfl := Option.some.inj H
   try go_wp2
   replace HB := q0 (below_drew1 HB.out)
   have p101 : 0 ≤ ((ji3) : Int) := of_decide_eq_true qa
   have q101 : (ji3) < (l0.length : Int) := of_decide_eq_true qa
   obtain ⟨ad101, e101, hx101_0, hx101_1⟩ := at_TTie HR0.out (ji3) p101 q101
   have hw101_1 := hx101_1
   have hw101_0 := hx101_0
   cases e101
   replace hx101_0 := (HB.out.cell (World.block_lt_of_cell? w _ hx101_0)).trans hx101_0
   replace hx101_1 := (HB.out.cell (World.block_lt_of_cell? w _ hx101_1)).trans hx101_1
   replace p101 := eq_true p101
   replace q101 := eq_true q101
   have p102 : 0 ≤ (x3_1 : Int) := of_decide_eq_true qa
   have q102 : x3_1 < (l0.length : Int) := of_decide_eq_true qa
   obtain ⟨ad102, e102, hx102_0, hx102_1⟩ := at_TTie HR0.out x3_1 p102 q102
   have hw102_1 := hx102_1
   have hw102_0 := hx102_0
   obtain rfl : ad101 = ad102 := (by injection e102)
   replace hx102_0 := (HB.out.cell (World.block_lt_of_cell? w _ hx102_0)).trans hx102_0
   replace hx102_1 := (HB.out.cell (World.block_lt_of_cell? w _ hx102_1)).trans hx102_1
   replace p102 := eq_true p102
   replace q102 := eq_true q102
   refine start_ (n := 11) (S := fun w' => w'.cell? (ad101.add (((ji3)).toNat * 2)) = some (.int .i64 ((rd_TTie l0 (ji3)).f0)) ∧ w'.cell? ⟨(ad101.add (((ji3)).toNat * 2)).block, (ad101.add (((ji3)).toNat * 2)).off + 1, none⟩ = some (.int .i64 ((rd_TTie l0 (ji3)).f1)) ∧ w'.cell? (ad101.add ((x3_1).toNat * 2)) = some (.int .i64 ((rd_TTie l0 x3_1).f0)) ∧ w'.cell? ⟨(ad101.add ((x3_1).toNat * 2)).block, (ad101.add ((x3_1).toNat * 2)).off + 1, none⟩ = some (.int .i64 ((rd_TTie l0 x3_1).f1))) (ds := []) (ba 11 0) (by kernel_rfl) rfl (by kernel_rfl) ⟨((HB.out.cell (World.block_lt_of_cell? w _ hw101_0)).trans hw101_0), ((HB.out.cell (World.block_lt_of_cell? w _ hw101_1)).trans hw101_1), ((HB.out.cell (World.block_lt_of_cell? w _ hw102_0)).trans hw102_0), ((HB.out.cell (World.block_lt_of_cell? w _ hw102_1)).trans hw102_1)⟩ (fun hHeld => ?_); refine with_tabW impl_ascending.tab4 impl_ascending.bits4 (fun HT_ HW_ => ?_)
   generalize wr.drew = w9 at HB hx101_0 hx101_1 hx102_0 hx102_1 hHeld ⊢
   refine pu 0 (some 10) (ba 11 1) HT_.out ?_
   refine pu 1 (some 11) (ba 11 3) HT_.out ?_
   refine pu 2 (some 12) (ba 11 7) HT_.out ?_
   refine pu 3 (some 13) (ba 11 15) HT_.out ?_
   refine pu 5 (some 15) (ba 11 47) HT_.out ?_
   refine pu 6 (some 16) (ba 11 111) HT_.out ?_
   refine pu 7 (some 17) (ba 11 239) HT_.out ?_
   refine tu 4 (some 14) (ba 11 255) HT_.out HW_.out hHeld ?_
   refine tu 8 (some 18) (ba 11 511) HT_.out HW_.out hHeld ?_
   refine one_ (i := 9) (N := some 19) (ba 11 1023) rfl rfl (one_of HT_.out (by kernel_rfl)) (by decide) (fun K hK => ?_)
   refine goes_ Try.func73 (by kernel_rfl) rfl #[.agg #[.int .i64 ((rd_TTie l0 (ji3)).f0), .int .i64 ((rd_TTie l0 (ji3)).f1)], .agg #[.int .i64 ((rd_TTie l0 x3_1).f0), .int .i64 ((rd_TTie l0 x3_1).f1)]] (by rfl) rfl rfl (by (try simp only [List.map_toArray, List.map_cons, List.map_nil]); first | done | (simp only [hji3]; rfl) | rfl | (simp only [List.length_drop, List.length_take]; rfl)) ?_
   with_reducible refine (impl_tieOrder.calls k1 ((rd_TTie l0 (ji3)).f0) ((rd_TTie l0 (ji3)).f1) ((rd_TTie l0 x3_1).f0) ((rd_TTie l0 x3_1).f1) t100 _ A7.out).mono ?_
   rintro e w10 ⟨rfl, hb⟩
   refine ⟨_, rfl, ?_⟩
   replace HB := q0 (below_step (qb HB.out) hb)
   (try clear hb)
   (try clear hb2)
   (try clear hk)
   (try clear hi)
   refine hK.out _ _ ⟨((HB.out.cell (World.block_lt_of_cell? w _ hw101_0)).trans hw101_0), ((HB.out.cell (World.block_lt_of_cell? w _ hw101_1)).trans hw101_1), ((HB.out.cell (World.block_lt_of_cell? w _ hw102_0)).trans hw102_0), ((HB.out.cell (World.block_lt_of_cell? w _ hw102_1)).trans hw102_1)⟩ (fun hHeld => ?_)
   clear hK K
   refine nu 19 ?_
   refine pu 10 (some 20) (ba 11 2047) HT_.out ?_
   refine done_ (done_of HT_.out (by kernel_rfl)) ?_
   try go_wp2
   go_ret
   exact ⟨by first | rfl | (simp [errW_none, errW_some] <;> rfl) | (simp only [← hji3]; first | rfl | (simp [errW_none, errW_some] <;> rfl)) | (simp [*, errW_none, errW_some] <;> rfl), qb HB.out⟩
 rw [if_neg c8] at H
 have c8b0 : decide (0 ≤ t100) = false := decide_eq_false c8
 clear c8
 have H' := Aside0.mk H
 clear H
 try go_wp2
 replace HB := q0 (below_drew1 HB.out)
 have p101 : 0 ≤ ((ji3) : Int) := of_decide_eq_true qa
 have q101 : (ji3) < (l0.length : Int) := of_decide_eq_true qa
 obtain ⟨ad101, e101, hx101_0, hx101_1⟩ := at_TTie HR0.out (ji3) p101 q101
 have hw101_1 := hx101_1
 have hw101_0 := hx101_0
 cases e101
 replace hx101_0 := (HB.out.cell (World.block_lt_of_cell? w _ hx101_0)).trans hx101_0
 replace hx101_1 := (HB.out.cell (World.block_lt_of_cell? w _ hx101_1)).trans hx101_1
 replace p101 := eq_true p101
 replace q101 := eq_true q101
 have p102 : 0 ≤ (x3_1 : Int) := of_decide_eq_true qa
 have q102 : x3_1 < (l0.length : Int) := of_decide_eq_true qa
 obtain ⟨ad102, e102, hx102_0, hx102_1⟩ := at_TTie HR0.out x3_1 p102 q102
 have hw102_1 := hx102_1
 have hw102_0 := hx102_0
 obtain rfl : ad101 = ad102 := (by injection e102)
 replace hx102_0 := (HB.out.cell (World.block_lt_of_cell? w _ hx102_0)).trans hx102_0
 replace hx102_1 := (HB.out.cell (World.block_lt_of_cell? w _ hx102_1)).trans hx102_1
 replace p102 := eq_true p102
 replace q102 := eq_true q102
 refine start_ (n := 11) (S := fun w' => w'.cell? (ad101.add (((ji3)).toNat * 2)) = some (.int .i64 ((rd_TTie l0 (ji3)).f0)) ∧ w'.cell? ⟨(ad101.add (((ji3)).toNat * 2)).block, (ad101.add (((ji3)).toNat * 2)).off + 1, none⟩ = some (.int .i64 ((rd_TTie l0 (ji3)).f1)) ∧ w'.cell? (ad101.add ((x3_1).toNat * 2)) = some (.int .i64 ((rd_TTie l0 x3_1).f0)) ∧ w'.cell? ⟨(ad101.add ((x3_1).toNat * 2)).block, (ad101.add ((x3_1).toNat * 2)).off + 1, none⟩ = some (.int .i64 ((rd_TTie l0 x3_1).f1))) (ds := []) (ba 11 0) (by kernel_rfl) rfl (by kernel_rfl) ⟨((HB.out.cell (World.block_lt_of_cell? w _ hw101_0)).trans hw101_0), ((HB.out.cell (World.block_lt_of_cell? w _ hw101_1)).trans hw101_1), ((HB.out.cell (World.block_lt_of_cell? w _ hw102_0)).trans hw102_0), ((HB.out.cell (World.block_lt_of_cell? w _ hw102_1)).trans hw102_1)⟩ (fun hHeld => ?_); refine with_tabW impl_ascending.tab4 impl_ascending.bits4 (fun HT_ HW_ => ?_)
 generalize wr.drew = w11 at HB hx101_0 hx101_1 hx102_0 hx102_1 hHeld ⊢
 refine pu 0 (some 10) (ba 11 1) HT_.out ?_
 refine pu 1 (some 11) (ba 11 3) HT_.out ?_
 refine pu 2 (some 12) (ba 11 7) HT_.out ?_
 refine pu 3 (some 13) (ba 11 15) HT_.out ?_
 refine pu 5 (some 15) (ba 11 47) HT_.out ?_
 refine pu 6 (some 16) (ba 11 111) HT_.out ?_
 refine pu 7 (some 17) (ba 11 239) HT_.out ?_
 refine tu 4 (some 14) (ba 11 255) HT_.out HW_.out hHeld ?_
 refine tu 8 (some 18) (ba 11 511) HT_.out HW_.out hHeld ?_
 refine one_ (i := 9) (N := some 19) (ba 11 1023) rfl rfl (one_of HT_.out (by kernel_rfl)) (by decide) (fun K hK => ?_)
 refine goes_ Try.func73 (by kernel_rfl) rfl #[.agg #[.int .i64 ((rd_TTie l0 (ji3)).f0), .int .i64 ((rd_TTie l0 (ji3)).f1)], .agg #[.int .i64 ((rd_TTie l0 x3_1).f0), .int .i64 ((rd_TTie l0 x3_1).f1)]] (by rfl) rfl rfl (by (try simp only [List.map_toArray, List.map_cons, List.map_nil]); first | done | (simp only [hji3]; rfl) | rfl | (simp only [List.length_drop, List.length_take]; rfl)) ?_
 with_reducible refine (impl_tieOrder.calls k1 ((rd_TTie l0 (ji3)).f0) ((rd_TTie l0 (ji3)).f1) ((rd_TTie l0 x3_1).f0) ((rd_TTie l0 x3_1).f1) t100 _ A7.out).mono ?_
 rintro e w12 ⟨rfl, hb⟩
 refine ⟨_, rfl, ?_⟩
 replace HB := q0 (below_step (qb HB.out) hb)
 (try clear hb)
 (try clear hb2)
 (try clear hk)
 (try clear hi)
 refine hK.out _ _ ⟨((HB.out.cell (World.block_lt_of_cell? w _ hw101_0)).trans hw101_0), ((HB.out.cell (World.block_lt_of_cell? w _ hw101_1)).trans hw101_1), ((HB.out.cell (World.block_lt_of_cell? w _ hw102_0)).trans hw102_0), ((HB.out.cell (World.block_lt_of_cell? w _ hw102_1)).trans hw102_1)⟩ (fun hHeld => ?_)
 clear hK K
 refine nu 19 ?_
 refine pu 10 (some 20) (ba 11 2047) HT_.out ?_
 refine done_ (done_of HT_.out (by kernel_rfl)) ?_
 try go_wp2
 go_roundg k1
 case measure => have := HK1.out; omega
 case rel => exact ⟨(wrap64 (x3_1 + 1)), qs, H', ⟨by have := HK1.out; omega⟩, ⟨qb HB.out⟩⟩

set_option maxHeartbeats 8000000 in
set_option maxRecDepth 100000 in
theorem impl_NetOk.calls (k : Nat) (a0_0 : Int) (A0_1 : Option Addr) (c0_1 : Nat) (l0_1 : List (STie)) (r : Bool) (w : World) (hr0_1 : Kd.C kTie w A0_1 l0_1.length l0_1) (hc0_1 : l0_1.length ≤ c0_1) (h : impl_NetOk.f k a0_0 l0_1 = some r) :
    Calls Try.prog 37 #[.agg #[.int .i64 a0_0, .slice A0_1 l0_1.length c0_1]] w fun e w' => e = .returned (.bool r) ∧ Below w.heap.size w w' := by
 have hu25 := Try.underlying25
 have hu32 := Try.underlying32
 have HR0_1 := Aside0.mk hr0_1
 have HC0_1 := Aside0.mk hc0_1
 clear hr0_1 hc0_1
 have HB := q0 (Below.refl w.heap.size w)
 have H : (if a0_0 < 0 then (impl_NetOk.j0 k true a0_0 l0_1) else (impl_NetOk.j0 k (decide (a0_0 > 8)) a0_0 l0_1)) = some r := h
 clear h
 have HC2 := Aside0.mk H
 clear H
 go_enter Try.func37, Try.ntmps37
 go_upto_region 1 with (first | ((with_reducible refine gate_dst (N := 1) rfl ?_); refine be 1 #[.int .i64 a0_0, .slice A0_1 l0_1.length c0_1] 25 ?_; intro gb102 hg w3 hbox hb; have BK102 := q0 (hbox); have GW102 := q0 ((bs HB.out hg : w.heap.size ≤ gb102)); have GE102 := q0 ((bs HB.out hg : w.heap.size ≤ gb102)); replace HB := q0 (below_step (qb HB.out) hb); clear hb hbox hg))
 (try simp only [Act.put, List.setIfInBounds_toArray, List.set_cons_zero, List.set_cons_succ])
 go_cut [12] (fun v12 wc => ∃ (kq : Nat) (x12_1 : Bool), v12 = .bool x12_1 ∧ Aside0 (impl_NetOk.j0 kq x12_1 a0_0 l0_1 = some r) ∧ Aside0 (kq ≤ k) ∧ Aside0 (wc.heap[gb102]? = some (.cells #[.int .i64 a0_0, (.slice A0_1 l0_1.length c0_1)] 25 (0, 0))) ∧ Aside0 (Below w.heap.size w wc))
 case first =>
   have H := HC2.out
   clear HC2
   by_cases c4 : a0_0 < 0
   · rw [if_pos c4] at H
     have c4b0 : decide (a0_0 < 0) = true := decide_eq_true c4
     clear c4
     (first | rw [c4b0] | (simp only [i64_w, i32_w]; rw [c4b0]) | skip)
     have H' := Aside0.mk H
     clear H
     have hcz5_0 : w3.cell? ⟨gb102, 0, none⟩ = some (.int .i64 a0_0) := (blk_cell BK102.out 0).trans rfl
     have hcz5_1 : w3.cell? ⟨gb102, 1, none⟩ = some (.slice A0_1 l0_1.length c0_1) := (blk_cell BK102.out 1).trans rfl
     have hfz5_0 := blk_frozen BK102.out 0
     have hfz5_1 := blk_frozen BK102.out 1
     go_wp2
     go_meet
     case rel => exact ⟨_, (true), qs, H', ⟨by first | omega | exact Nat.le_refl _⟩, ⟨qk BK102.out⟩, ⟨qb HB.out⟩⟩
   rw [if_neg c4] at H
   have c4b0 : decide (a0_0 < 0) = false := decide_eq_false c4
   clear c4
   (first | rw [c4b0] | (simp only [i64_w, i32_w]; rw [c4b0]) | skip)
   have H' := Aside0.mk H
   clear H
   have hcz6_0 : w3.cell? ⟨gb102, 0, none⟩ = some (.int .i64 a0_0) := (blk_cell BK102.out 0).trans rfl
   have hcz6_1 : w3.cell? ⟨gb102, 1, none⟩ = some (.slice A0_1 l0_1.length c0_1) := (blk_cell BK102.out 1).trans rfl
   have hfz6_0 := blk_frozen BK102.out 0
   have hfz6_1 := blk_frozen BK102.out 1
   go_wp2
   go_meet
   case rel => exact ⟨_, (decide (a0_0 > 8)), qs, H', ⟨by first | omega | exact Nat.le_refl _⟩, ⟨qk BK102.out⟩, ⟨qb HB.out⟩⟩
 clear HC2
 try clear p2
 try clear c3
 try clear c4
 try clear c4b0
 try clear hcz5_0
 try clear hcz5_1
 try clear hcz6_0
 try clear hcz6_1
 try clear hfz5_0
 try clear hfz5_1
 try clear hfz6_0
 try clear hfz6_1
 obtain ⟨kq, x12_1, rfl, HA, HJ1, BK102, HB⟩ := hcut
 rcases kq with _ | kj1
 · exact absurd HA.out (by simp [impl_NetOk.j0])
 have H := HA.out
 clear HA
 simp only [impl_NetOk.j0] at H
 by_cases c7 : x12_1 = true
 · subst c7
   rw [if_pos rfl] at H
   obtain rfl := Option.some.inj H
   go_wp2
   go_ret
   exact ⟨qe, qb HB.out⟩
 replace c7 := Bool.eq_false_iff.mpr c7
 subst c7
 rw [if_neg nf] at H
 have H' := Aside0.mk H
 clear H
 have hcz8_0 : wc.cell? ⟨gb102, 0, none⟩ = some (.int .i64 a0_0) := (blk_cell BK102.out 0).trans rfl
 have hcz8_1 : wc.cell? ⟨gb102, 1, none⟩ = some (.slice A0_1 l0_1.length c0_1) := (blk_cell BK102.out 1).trans rfl
 have hfz8_0 := blk_frozen BK102.out 0
 have hfz8_1 := blk_frozen BK102.out 1
 go_wp2
 go_loopg [16] kj1 (fun kq v16 w' => ∃ (x16_2 : Int), v16 = .int .i64 x16_2 ∧ Aside0 (impl_NetOk.l0 kq l0_1 (l0_1.length : Int) x16_2 a0_0 l0_1 = some r) ∧ Aside0 (kq ≤ kj1) ∧ Aside0 (w'.heap[gb102]? = some (.cells #[.int .i64 a0_0, (.slice A0_1 l0_1.length c0_1)] 25 (0, 0))) ∧ Aside0 (Below w.heap.size w w'))
 case atStart => exact ⟨(0), qs, H', ⟨Nat.le_refl _⟩, ⟨qk BK102.out⟩, ⟨qb HB.out⟩⟩
 clear H'
 try clear p2
 try clear c3
 try clear c4
 try clear c4b0
 try clear c7
 try clear hcz5_0
 try clear hcz5_1
 try clear hcz6_0
 try clear hcz6_1
 try clear hcz8_0
 try clear hcz8_1
 try clear hfz5_0
 try clear hfz5_1
 try clear hfz6_0
 try clear hfz6_1
 try clear hfz8_0
 try clear hfz8_1
 try clear p2
 obtain ⟨x16_2, rfl, HA, HK2, BK102, HB⟩ := hrel
 rcases gk with _ | k2
 · exact absurd HA.out (by simp [impl_NetOk.l0])
 have H := HA.out
 clear HA
 simp only [impl_NetOk.l0] at H
 by_cases c9 : x16_2 < (l0_1.length : Int)
 rotate_left
 · rw [if_neg c9] at H
   have c9b0 : decide (x16_2 < (l0_1.length : Int)) = false := decide_eq_false c9
   clear c9
   replace H := Option.bind_eq_some_iff.mp H
   obtain ⟨t101, A104, H⟩ := H
   have A29 := Aside0.mk A104
   clear A104
   obtain rfl := Option.some.inj H
   have hcz30_0 : wr.cell? ⟨gb102, 0, none⟩ = some (.int .i64 a0_0) := (blk_cell BK102.out 0).trans rfl
   have hcz30_1 : wr.cell? ⟨gb102, 1, none⟩ = some (.slice A0_1 l0_1.length c0_1) := (blk_cell BK102.out 1).trans rfl
   have hfz30_0 := blk_frozen BK102.out 0
   have hfz30_1 := blk_frozen BK102.out 1
   go_wp2_with (first | ((with_reducible refine gate_callee (f := 78) rfl ?_); refine gl 40 Try.func78 #[.slice A0_1 l0_1.length c0_1] ?_; (with_reducible refine (impl_ascending.calls k2 _ _ l0_1 t101 _ ?side1 ?side2 A29.out).mono ?_); (case side1 => exact qc (Kd.C_below HR0_1.out HB.out)); (case side2 => exact HC0_1.out); rintro e w31 ⟨rfl, hb⟩; refine ⟨_, rfl, ?_⟩; replace BK102 := q0 (kb BK102.out hb); replace HB := q0 (below_step (qb HB.out) hb); (try clear hb); (try clear hb2); (try clear hk); (try clear hi)))
   go_ret
   exact ⟨qe, qb HB.out⟩
 rw [if_pos c9] at H
 have c9b0 : decide (x16_2 < (l0_1.length : Int)) = true := decide_eq_true c9
 clear c9
 by_cases c10 : 0 ≤ x16_2
 rotate_left
 · rw [if_neg c10] at H
   exact absurd H (by simp)
 rw [if_pos c10] at H
 have c10b0 : decide (0 ≤ x16_2) = true := decide_eq_true c10
 clear c10
 by_cases c11 : x16_2 < (l0_1.length : Int)
 rotate_left
 · rw [if_neg c11] at H
   exact absurd H (by simp)
 rw [if_pos c11] at H
 have c11b0 : decide (x16_2 < (l0_1.length : Int)) = true := decide_eq_true c11
 clear c11
 by_cases c12 : ((rd_TTie l0_1 x16_2).f0) < 0
 · rw [if_pos c12] at H
   have c12b0 : decide (((rd_TTie l0_1 x16_2).f0) < 0) = true := decide_eq_true c12
   clear c12
   obtain rfl := Option.some.inj H
   have p100 : 0 ≤ (x16_2 : Int) := of_decide_eq_true qa
   have q100 : x16_2 < (l0_1.length : Int) := of_decide_eq_true qa
   obtain ⟨ad100, e100, hx100_0, hx100_1⟩ := at_TTie HR0_1.out x16_2 p100 q100
   cases e100
   replace hx100_0 := (HB.out.cell (World.block_lt_of_cell? w _ hx100_0)).trans hx100_0
   replace hx100_1 := (HB.out.cell (World.block_lt_of_cell? w _ hx100_1)).trans hx100_1
   replace p100 := eq_true p100
   replace q100 := eq_true q100
   go_wp2_with (first | ((with_reducible refine gate_dst (N := 4) rfl ?_); refine be 4 #[.int .i64 0, .int .i64 0] 32 ?_; intro gb103 hg w13 hbox hb; have BK103 := q0 (hbox); have GW103 := q0 ((bs HB.out hg : w.heap.size ≤ gb103)); have GE103 := q0 ((bs HB.out hg : w.heap.size ≤ gb103)); replace HB := q0 (below_step (qb HB.out) hb); have NB102_103 := q0 ((bl BK102.out hg : gb102 ≠ gb103)); have NB103_102 := q0 ((bg BK102.out hg : gb103 ≠ gb102)); replace BK102 := q0 (kb BK102.out hb); clear hb hbox hg; have hnb14 := NB103_102.out; have hnc14 := NB102_103.out; have hcz15_0 : w13.cell? ⟨gb103, 0, none⟩ = some (.int .i64 0) := (blk_cell BK103.out 0).trans rfl; have hcz15_1 : w13.cell? ⟨gb103, 1, none⟩ = some (.int .i64 0) := (blk_cell BK103.out 1).trans rfl; have hfz15_0 := blk_frozen BK103.out 0; have hfz15_1 := blk_frozen BK103.out 1))
   go_ret
   exact ⟨qe, qb HB.out⟩
 rw [if_neg c12] at H
 have c12b0 : decide (((rd_TTie l0_1 x16_2).f0) < 0) = false := decide_eq_false c12
 clear c12
 by_cases c16 : ((rd_TTie l0_1 x16_2).f0) ≥ ((rd_TTie l0_1 x16_2).f1)
 · rw [if_pos c16] at H
   have c16b0 : decide (((rd_TTie l0_1 x16_2).f1) ≤ ((rd_TTie l0_1 x16_2).f0)) = true := decide_eq_true c16
   clear c16
   obtain rfl := Option.some.inj H
   have p100 : 0 ≤ (x16_2 : Int) := of_decide_eq_true qa
   have q100 : x16_2 < (l0_1.length : Int) := of_decide_eq_true qa
   obtain ⟨ad100, e100, hx100_0, hx100_1⟩ := at_TTie HR0_1.out x16_2 p100 q100
   cases e100
   replace hx100_0 := (HB.out.cell (World.block_lt_of_cell? w _ hx100_0)).trans hx100_0
   replace hx100_1 := (HB.out.cell (World.block_lt_of_cell? w _ hx100_1)).trans hx100_1
   replace p100 := eq_true p100
   replace q100 := eq_true q100
   go_wp2_with (first | ((with_reducible refine gate_dst (N := 4) rfl ?_); refine be 4 #[.int .i64 0, .int .i64 0] 32 ?_; intro gb103 hg w17 hbox hb; have BK103 := q0 (hbox); have GW103 := q0 ((bs HB.out hg : w.heap.size ≤ gb103)); have GE103 := q0 ((bs HB.out hg : w.heap.size ≤ gb103)); replace HB := q0 (below_step (qb HB.out) hb); have NB102_103 := q0 ((bl BK102.out hg : gb102 ≠ gb103)); have NB103_102 := q0 ((bg BK102.out hg : gb103 ≠ gb102)); replace BK102 := q0 (kb BK102.out hb); clear hb hbox hg; have hnb18 := NB103_102.out; have hnc18 := NB102_103.out; have hcz19_0 : w17.cell? ⟨gb103, 0, none⟩ = some (.int .i64 0) := (blk_cell BK103.out 0).trans rfl; have hcz19_1 : w17.cell? ⟨gb103, 1, none⟩ = some (.int .i64 0) := (blk_cell BK103.out 1).trans rfl; have hfz19_0 := blk_frozen BK103.out 0; have hfz19_1 := blk_frozen BK103.out 1))
   go_ret
   exact ⟨qe, qb HB.out⟩
 rw [if_neg c16] at H
 have c16b0 : decide (((rd_TTie l0_1 x16_2).f1) ≤ ((rd_TTie l0_1 x16_2).f0)) = false := decide_eq_false c16
 clear c16
 by_cases c20 : ((rd_TTie l0_1 x16_2).f1) ≥ a0_0
 · rw [if_pos c20] at H
   have c20b0 : decide (a0_0 ≤ ((rd_TTie l0_1 x16_2).f1)) = true := decide_eq_true c20
   clear c20
   obtain rfl := Option.some.inj H
   have p100 : 0 ≤ (x16_2 : Int) := of_decide_eq_true qa
   have q100 : x16_2 < (l0_1.length : Int) := of_decide_eq_true qa
   obtain ⟨ad100, e100, hx100_0, hx100_1⟩ := at_TTie HR0_1.out x16_2 p100 q100
   cases e100
   replace hx100_0 := (HB.out.cell (World.block_lt_of_cell? w _ hx100_0)).trans hx100_0
   replace hx100_1 := (HB.out.cell (World.block_lt_of_cell? w _ hx100_1)).trans hx100_1
   replace p100 := eq_true p100
   replace q100 := eq_true q100
   go_wp2_with (first | ((with_reducible refine gate_dst (N := 4) rfl ?_); refine be 4 #[.int .i64 0, .int .i64 0] 32 ?_; intro gb103 hg w21 hbox hb; have BK103 := q0 (hbox); have GW103 := q0 ((bs HB.out hg : w.heap.size ≤ gb103)); have GE103 := q0 ((bs HB.out hg : w.heap.size ≤ gb103)); replace HB := q0 (below_step (qb HB.out) hb); have NB102_103 := q0 ((bl BK102.out hg : gb102 ≠ gb103)); have NB103_102 := q0 ((bg BK102.out hg : gb103 ≠ gb102)); replace BK102 := q0 (kb BK102.out hb); clear hb hbox hg; have hnb22 := NB103_102.out; have hnc22 := NB102_103.out; have hcz23_0 : w21.cell? ⟨gb103, 0, none⟩ = some (.int .i64 0) := (blk_cell BK103.out 0).trans rfl; have hcz23_1 : w21.cell? ⟨gb103, 1, none⟩ = some (.int .i64 0) := (blk_cell BK103.out 1).trans rfl; have hfz23_0 := blk_frozen BK103.out 0; have hfz23_1 := blk_frozen BK103.out 1; have hcz24_0 : w21.cell? ⟨gb102, 0, none⟩ = some (.int .i64 a0_0) := (blk_cell BK102.out 0).trans rfl; have hcz24_1 : w21.cell? ⟨gb102, 1, none⟩ = some (.slice (some ad100) l0_1.length c0_1) := (blk_cell BK102.out 1).trans rfl; have hfz24_0 := blk_frozen BK102.out 0; have hfz24_1 := blk_frozen BK102.out 1))
   go_ret
   exact ⟨qe, qb HB.out⟩
 rw [if_neg c20] at H
 have c20b0 : decide (a0_0 ≤ ((rd_TTie l0_1 x16_2).f1)) = false := decide_eq_false c20
 clear c20
 have H' := Aside0.mk H
 clear H
 have p100 : 0 ≤ (x16_2 : Int) := of_decide_eq_true qa
 have q100 : x16_2 < (l0_1.length : Int) := of_decide_eq_true qa
 obtain ⟨ad100, e100, hx100_0, hx100_1⟩ := at_TTie HR0_1.out x16_2 p100 q100
 cases e100
 replace hx100_0 := (HB.out.cell (World.block_lt_of_cell? w _ hx100_0)).trans hx100_0
 replace hx100_1 := (HB.out.cell (World.block_lt_of_cell? w _ hx100_1)).trans hx100_1
 replace p100 := eq_true p100
 replace q100 := eq_true q100
 go_wp2_with (first | ((with_reducible refine gate_dst (N := 4) rfl ?_); refine be 4 #[.int .i64 0, .int .i64 0] 32 ?_; intro gb103 hg w25 hbox hb; have BK103 := q0 (hbox); have GW103 := q0 ((bs HB.out hg : w.heap.size ≤ gb103)); have GE103 := q0 ((bs HB.out hg : w.heap.size ≤ gb103)); replace HB := q0 (below_step (qb HB.out) hb); have NB102_103 := q0 ((bl BK102.out hg : gb102 ≠ gb103)); have NB103_102 := q0 ((bg BK102.out hg : gb103 ≠ gb102)); replace BK102 := q0 (kb BK102.out hb); clear hb hbox hg; have hnb26 := NB103_102.out; have hnc26 := NB102_103.out; have hcz27_0 : w25.cell? ⟨gb103, 0, none⟩ = some (.int .i64 0) := (blk_cell BK103.out 0).trans rfl; have hcz27_1 : w25.cell? ⟨gb103, 1, none⟩ = some (.int .i64 0) := (blk_cell BK103.out 1).trans rfl; have hfz27_0 := blk_frozen BK103.out 0; have hfz27_1 := blk_frozen BK103.out 1; have hcz28_0 : w25.cell? ⟨gb102, 0, none⟩ = some (.int .i64 a0_0) := (blk_cell BK102.out 0).trans rfl; have hcz28_1 : w25.cell? ⟨gb102, 1, none⟩ = some (.slice (some ad100) l0_1.length c0_1) := (blk_cell BK102.out 1).trans rfl; have hfz28_0 := blk_frozen BK102.out 0; have hfz28_1 := blk_frozen BK102.out 1))
 go_roundg k2
 case measure => have := HJ1.out; have := HK2.out; omega
 case rel => exact ⟨(wrap64 (x16_2 + 1)), qs, H', ⟨by have := HJ1.out; have := HK2.out; omega⟩, ⟨qf BK102.out⟩, ⟨qb HB.out⟩⟩

attribute [local go_sem high] eqATie
set_option maxHeartbeats 8000000 in
set_option maxRecDepth 100000 in
theorem slices_Index_Tie.calls (k : Nat) (A0 : Option Addr) (c0 : Nat) (l0 : List (STie)) (a1_0 : Int) (a1_1 : Int) (r : Int) (w : World) (hr0 : Kd.C kTie w A0 l0.length l0) (hc0 : l0.length ≤ c0) (h : slices_Index_Tie.f k l0 a1_0 a1_1 = some r) :
    Calls Try.prog 104 #[.slice A0 l0.length c0, .agg #[.int .i64 a1_0, .int .i64 a1_1]] w fun e w' => e = .returned (.int .i64 r) ∧ Below w.heap.size w w' := by
 have hu32 := Try.underlying32
 have HR0 := Aside0.mk hr0
 have HC0 := Aside0.mk hc0
 clear hr0 hc0
 have HB := q0 (Below.refl w.heap.size w)
 have H : (slices_Index_Tie.l0 k l0 (l0.length : Int) 0 a1_0 a1_1) = some r := h
 clear h
 have H' := Aside0.mk H
 clear H
 go_enter Try.func104, Try.ntmps104
 go_wp2_with (first | ((with_reducible refine gate_dst (N := 3) rfl ?_); refine be 3 #[.int .i64 a1_0, .int .i64 a1_1] 32 ?_; intro gb101 hg w3 hbox hb; have BK101 := q0 (hbox); have GW101 := q0 ((bs HB.out hg : w.heap.size ≤ gb101)); have GE101 := q0 ((bs HB.out hg : w.heap.size ≤ gb101)); replace HB := q0 (below_step (qb HB.out) hb); clear hb hbox hg))
 repeat (go_quiet (first | ((with_reducible refine gate_dst (N := 3) rfl ?_); refine be 3 #[.int .i64 a1_0, .int .i64 a1_1] 32 ?_; intro gb101 hg w3 hbox hb; have BK101 := q0 (hbox); have GW101 := q0 ((bs HB.out hg : w.heap.size ≤ gb101)); have GE101 := q0 ((bs HB.out hg : w.heap.size ≤ gb101)); replace HB := q0 (below_step (qb HB.out) hb); clear hb hbox hg)); try go_wp2_with (first | ((with_reducible refine gate_dst (N := 3) rfl ?_); refine be 3 #[.int .i64 a1_0, .int .i64 a1_1] 32 ?_; intro gb101 hg w3 hbox hb; have BK101 := q0 (hbox); have GW101 := q0 ((bs HB.out hg : w.heap.size ≤ gb101)); have GE101 := q0 ((bs HB.out hg : w.heap.size ≤ gb101)); replace HB := q0 (below_step (qb HB.out) hb); clear hb hbox hg)))
 go_loopg [8] k (fun kq v8 w' => ∃ (x8_1 : Int), v8 = .int .i64 x8_1 ∧ Aside0 (slices_Index_Tie.l0 kq l0 (l0.length : Int) x8_1 a1_0 a1_1 = some r) ∧ Aside0 (kq ≤ k) ∧ Aside0 (w'.heap[gb101]? = some (.cells #[.int .i64 a1_0, .int .i64 a1_1] 32 (0, 0))) ∧ Aside0 (Below w.heap.size w w'))
 case atStart => exact ⟨(0), qs, H', ⟨Nat.le_refl _⟩, ⟨qk BK101.out⟩, ⟨qb HB.out⟩⟩
 clear H'
 try clear c1
 try clear p2
 obtain ⟨x8_1, rfl, HA, HK1, BK101, HB⟩ := hrel
 rcases gk with _ | k1
 · exact absurd HA.out (by simp [slices_Index_Tie.l0])
 have H := HA.out
 clear HA
 simp only [slices_Index_Tie.l0] at H
 by_cases c4 : x8_1 < (l0.length : Int)
 rotate_left
 · rw [if_neg c4] at H
   have c4b0 : decide (x8_1 < (l0.length : Int)) = false := decide_eq_false c4
   clear c4
   obtain rfl := Option.some.inj H
   go_wp2
   repeat (go_quiet (fail); try go_wp2)
   go_ret
   exact ⟨qe, qb HB.out⟩
 rw [if_pos c4] at H
 have c4b0 : decide (x8_1 < (l0.length : Int)) = true := decide_eq_true c4
 clear c4
 by_cases c5 : 0 ≤ x8_1
 rotate_left
 · rw [if_neg c5] at H
   exact absurd H (by simp)
 rw [if_pos c5] at H
 have c5b0 : decide (0 ≤ x8_1) = true := decide_eq_true c5
 clear c5
 by_cases c6 : x8_1 < (l0.length : Int)
 rotate_left
 · rw [if_neg c6] at H
   exact absurd H (by simp)
 rw [if_pos c6] at H
 have c6b0 : decide (x8_1 < (l0.length : Int)) = true := decide_eq_true c6
 clear c6
 by_cases c7 : (a1_0 == ((rd_TTie l0 x8_1).f0) && (a1_1 == ((rd_TTie l0 x8_1).f1))) = true
 · rw [if_pos c7] at H
   have c7b0 : (a1_0 == ((rd_TTie l0 x8_1).f0) && (a1_1 == ((rd_TTie l0 x8_1).f1))) = true := c7
   (try (have c7b1 : decide (a1_0 = ((rd_TTie l0 x8_1).f0) && (a1_1 == ((rd_TTie l0 x8_1).f1))) = true := by simpa using c7))
   (try (have c7b2 : (a1_0 == ((rd_TTie l0 x8_1).f0) && (a1_1 == ((rd_TTie l0 x8_1).f1))) = true := by simpa using c7))
   clear c7
   obtain rfl := Option.some.inj H
   have hcz8_0 : wr.cell? ⟨gb101, 0, none⟩ = some (.int .i64 a1_0) := (blk_cell BK101.out 0).trans rfl
   have hcz8_1 : wr.cell? ⟨gb101, 1, none⟩ = some (.int .i64 a1_1) := (blk_cell BK101.out 1).trans rfl
   have hfz8_0 := blk_frozen BK101.out 0
   have hfz8_1 := blk_frozen BK101.out 1
   have p100 : 0 ≤ (x8_1 : Int) := of_decide_eq_true qa
   have q100 : x8_1 < (l0.length : Int) := of_decide_eq_true qa
   obtain ⟨ad100, e100, hx100_0, hx100_1⟩ := at_TTie HR0.out x8_1 p100 q100
   cases e100
   replace hx100_0 := (HB.out.cell (World.block_lt_of_cell? w _ hx100_0)).trans hx100_0
   replace hx100_1 := (HB.out.cell (World.block_lt_of_cell? w _ hx100_1)).trans hx100_1
   replace p100 := eq_true p100
   replace q100 := eq_true q100
   go_wp2
   repeat (go_quiet (fail); try go_wp2)
   go_ret
   exact ⟨qe, qb HB.out⟩
 rw [if_neg c7] at H
 have c7b0 : (a1_0 == ((rd_TTie l0 x8_1).f0) && (a1_1 == ((rd_TTie l0 x8_1).f1))) = false := by simpa using c7
 (try (have c7b1 : decide (a1_0 = ((rd_TTie l0 x8_1).f0) && (a1_1 == ((rd_TTie l0 x8_1).f1))) = false := by simpa using c7))
 (try (have c7b2 : (a1_0 == ((rd_TTie l0 x8_1).f0) && (a1_1 == ((rd_TTie l0 x8_1).f1))) = false := by simpa using c7))
 (try (have c7b3 : ¬ (a1_0 = ((rd_TTie l0 x8_1).f0) && (a1_1 == ((rd_TTie l0 x8_1).f1))) := by simpa using c7))
 clear c7
 have H' := Aside0.mk H
 clear H
 have hcz9_0 : wr.cell? ⟨gb101, 0, none⟩ = some (.int .i64 a1_0) := (blk_cell BK101.out 0).trans rfl
 have hcz9_1 : wr.cell? ⟨gb101, 1, none⟩ = some (.int .i64 a1_1) := (blk_cell BK101.out 1).trans rfl
 have hfz9_0 := blk_frozen BK101.out 0
 have hfz9_1 := blk_frozen BK101.out 1
 have p100 : 0 ≤ (x8_1 : Int) := of_decide_eq_true qa
 have q100 : x8_1 < (l0.length : Int) := of_decide_eq_true qa
 obtain ⟨ad100, e100, hx100_0, hx100_1⟩ := at_TTie HR0.out x8_1 p100 q100
 cases e100
 replace hx100_0 := (HB.out.cell (World.block_lt_of_cell? w _ hx100_0)).trans hx100_0
 replace hx100_1 := (HB.out.cell (World.block_lt_of_cell? w _ hx100_1)).trans hx100_1
 replace p100 := eq_true p100
 replace q100 := eq_true q100
 go_wp2
 repeat (go_quiet (fail); try go_wp2)
 go_roundg k1
 case measure => have := HK1.out; omega
 case rel => exact ⟨(wrap64 (x8_1 + 1)), qs, H', ⟨by have := HK1.out; omega⟩, ⟨qk BK101.out⟩, ⟨qb HB.out⟩⟩

set_option maxHeartbeats 8000000 in
set_option maxRecDepth 100000 in
theorem slices_Contains_Tie.calls (k : Nat) (A0 : Option Addr) (c0 : Nat) (l0 : List (STie)) (a1_0 : Int) (a1_1 : Int) (r : Bool) (w : World) (hr0 : Kd.C kTie w A0 l0.length l0) (hc0 : l0.length ≤ c0) (h : slices_Contains_Tie.f k l0 a1_0 a1_1 = some r) :
    Calls Try.prog 82 #[.slice A0 l0.length c0, .agg #[.int .i64 a1_0, .int .i64 a1_1]] w fun e w' => e = .returned (.bool r) ∧ Below w.heap.size w w' := by
 have hu32 := Try.underlying32
 have HR0 := Aside0.mk hr0
 have HC0 := Aside0.mk hc0
 clear hr0 hc0
 have HB := q0 (Below.refl w.heap.size w)
 have H : ((slices_Index_Tie.f k l0 a1_0 a1_1).bind fun t100 => (some (decide (t100 ≥ 0)))) = some r := h
 clear h
 replace H := Option.bind_eq_some_iff.mp H
 obtain ⟨t100, A30, H⟩ := H
 have A3 := Aside0.mk A30
 clear A30
 obtain rfl := Option.some.inj H
 go_enter Try.func82, Try.ntmps82
 go_wp2_with (first | ((with_reducible refine gate_dst (N := 3) rfl ?_); refine be 3 #[.int .i64 a1_0, .int .i64 a1_1] 32 ?_; intro gb101 hg w4 hbox hb; have BK101 := q0 (hbox); have GW101 := q0 ((bs HB.out hg : w.heap.size ≤ gb101)); have GE101 := q0 ((bs HB.out hg : w.heap.size ≤ gb101)); replace HB := q0 (below_step (qb HB.out) hb); clear hb hbox hg; have hcz5_0 : w4.cell? ⟨gb101, 0, none⟩ = some (.int .i64 a1_0) := (blk_cell BK101.out 0).trans rfl; have hcz5_1 : w4.cell? ⟨gb101, 1, none⟩ = some (.int .i64 a1_1) := (blk_cell BK101.out 1).trans rfl; have hfz5_0 := blk_frozen BK101.out 0; have hfz5_1 := blk_frozen BK101.out 1) | ((with_reducible refine gate_callee (f := 104) rfl ?_); refine gl 7 Try.func104 #[.slice A0 l0.length c0, .agg #[.int .i64 a1_0, .int .i64 a1_1]] ?_; (with_reducible refine (slices_Index_Tie.calls k _ _ l0 a1_0 a1_1 t100 _ ?side1 ?side2 A3.out).mono ?_); (case side1 => exact qc (Kd.C_below HR0.out HB.out)); (case side2 => exact HC0.out); rintro e w6 ⟨rfl, hb⟩; refine ⟨_, rfl, ?_⟩; replace BK101 := q0 (kb BK101.out hb); replace HB := q0 (below_step (qb HB.out) hb); (try clear hb); (try clear hb2); (try clear hk); (try clear hi)))
 go_ret
 exact ⟨qe, qb HB.out⟩

end Go.Proofs.Ytgoembpmhlmafaa.P
