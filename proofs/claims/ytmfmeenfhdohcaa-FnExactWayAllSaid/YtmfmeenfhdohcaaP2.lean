import Derived.Test.YtmfmeenfhdohcaaP0
import Derived.Test.YtmfmeenfhdohcaaP1
import Derived.Test.YtmfmeenfhdohcaaS2
namespace Go.Proofs.Ytmfmeenfhdohcaa.P
open Go.RowKit Go.Proofs.YtmfmeenfhdohcaaW.PrintWords Go.Proofs.YtmfmeenfhdohcaaW.PrintLast Go.Proofs.YtmfmeenfhdohcaaW.PrintMore
attribute [local go_sem] max2_int min2_int max_two min_two max_three min_three max_four min_four
set_option linter.unusedVariables false
set_option linter.unusedSimpArgs false
attribute [local go_sem high] eqATie
set_option maxHeartbeats 8000000 in
set_option maxRecDepth 100000 in
theorem spec_l6In.calls (a0 : Int) (a1 : Int) (a2 : Int) (r : Bool) (w : World) (h : spec_l6In.f a0 a1 a2 = some r) :
    Calls Try.prog 64 #[.int .i64 a0, .int .i64 a1, .int .i64 a2] w fun e w' => e = .returned (.bool r) ∧ Drawn0 w w' := by
 have H : (if a0 ≥ a1 then (some (decide (a0 ≤ a2))) else (some false)) = some r := h
 clear h
 by_cases c4 : a0 ≥ a1
 · rw [if_pos c4] at H
   have c4b0 : decide (a1 ≤ a0) = true := decide_eq_true c4
   clear c4
   obtain rfl := Option.some.inj H
   go_enter Try.func64, Try.ntmps64
   go_wp2
   go_ret
   exact ⟨by first | rfl | (simp; done) | (simp [*]; done), by repeat (first | exact Drawn0.refl _ | apply Drawn0.step)⟩
 rw [if_neg c4] at H
 have c4b0 : decide (a1 ≤ a0) = false := decide_eq_false c4
 clear c4
 obtain rfl := Option.some.inj H
 go_enter Try.func64, Try.ntmps64
 go_wp2
 go_ret
 exact ⟨by first | rfl | (simp; done) | (simp [*]; done), by repeat (first | exact Drawn0.refl _ | apply Drawn0.step)⟩

set_option maxHeartbeats 8000000 in
set_option maxRecDepth 100000 in
theorem spec_l1Less.calls (a0_0 : Int) (a0_1 : Int) (a1_0 : Int) (a1_1 : Int) (r : Bool) (w : World) (h : spec_l1Less.f a0_0 a0_1 a1_0 a1_1 = some r) :
    Calls Try.prog 78 #[.agg #[.int .i64 a0_0, .int .i64 a0_1], .agg #[.int .i64 a1_0, .int .i64 a1_1]] w fun e w' => e = .returned (.bool r) ∧ Below w.heap.size w w' := by
 have hu74 := Try.underlying74
 have HB := q0 (Below.refl w.heap.size w)
 have H : (if a0_0 < a1_0 then (some true) else (if a0_0 = a1_0 then (some (decide (a0_1 < a1_1))) else (some false))) = some r := h
 clear h
 by_cases c3 : a0_0 < a1_0
 · rw [if_pos c3] at H
   have c3b0 : decide (a0_0 < a1_0) = true := decide_eq_true c3
   clear c3
   obtain rfl := Option.some.inj H
   go_enter Try.func78, Try.ntmps78
   go_wp2_with (first | ((with_reducible refine gate_dst (N := 2) rfl ?_); refine be 2 #[.int .i64 a0_0, .int .i64 a0_1] 74 ?_; intro gb100 hg w4 hbox hb; have BK100 := q0 (hbox); have GW100 := q0 ((bs HB.out hg : w.heap.size ≤ gb100)); have GE100 := q0 ((bs HB.out hg : w.heap.size ≤ gb100)); replace HB := q0 (below_step (qb HB.out) hb); clear hb hbox hg) | ((with_reducible refine gate_dst (N := 3) rfl ?_); refine be 3 #[.int .i64 a1_0, .int .i64 a1_1] 74 ?_; intro gb101 hg w5 hbox hb; have BK101 := q0 (hbox); have GW101 := q0 ((bs HB.out hg : w.heap.size ≤ gb101)); have GE101 := q0 ((bs HB.out hg : w.heap.size ≤ gb101)); replace HB := q0 (below_step (qb HB.out) hb); have NB100_101 := q0 ((bl BK100.out hg : gb100 ≠ gb101)); have NB101_100 := q0 ((bg BK100.out hg : gb101 ≠ gb100)); replace BK100 := q0 (kb BK100.out hb); clear hb hbox hg; have hnb6 := NB100_101.out; have hnc6 := NB101_100.out; have hcz7_0 : w5.cell? ⟨gb100, 0, none⟩ = some (.int .i64 a0_0) := (blk_cell BK100.out 0).trans rfl; have hcz7_1 : w5.cell? ⟨gb100, 1, none⟩ = some (.int .i64 a0_1) := (blk_cell BK100.out 1).trans rfl; have hfz7_0 := blk_frozen BK100.out 0; have hfz7_1 := blk_frozen BK100.out 1; have hcz8_0 : w5.cell? ⟨gb101, 0, none⟩ = some (.int .i64 a1_0) := (blk_cell BK101.out 0).trans rfl; have hcz8_1 : w5.cell? ⟨gb101, 1, none⟩ = some (.int .i64 a1_1) := (blk_cell BK101.out 1).trans rfl; have hfz8_0 := blk_frozen BK101.out 0; have hfz8_1 := blk_frozen BK101.out 1))
   go_ret
   exact ⟨qe, qb HB.out⟩
 rw [if_neg c3] at H
 have c3b0 : decide (a0_0 < a1_0) = false := decide_eq_false c3
 clear c3
 by_cases c9 : a0_0 = a1_0
 rotate_left
 · rw [if_neg c9] at H
   have c9b0 : (a0_0 == a1_0) = false := beq_eq_false_iff_ne.mpr c9
   have c9b1 : (a0_0 != a1_0) = true := bne_iff_ne.mpr c9
   obtain rfl := Option.some.inj H
   go_enter Try.func78, Try.ntmps78
   go_wp2_with (first | ((with_reducible refine gate_dst (N := 2) rfl ?_); refine be 2 #[.int .i64 a0_0, .int .i64 a0_1] 74 ?_; intro gb100 hg w15 hbox hb; have BK100 := q0 (hbox); have GW100 := q0 ((bs HB.out hg : w.heap.size ≤ gb100)); have GE100 := q0 ((bs HB.out hg : w.heap.size ≤ gb100)); replace HB := q0 (below_step (qb HB.out) hb); clear hb hbox hg) | ((with_reducible refine gate_dst (N := 3) rfl ?_); refine be 3 #[.int .i64 a1_0, .int .i64 a1_1] 74 ?_; intro gb101 hg w16 hbox hb; have BK101 := q0 (hbox); have GW101 := q0 ((bs HB.out hg : w.heap.size ≤ gb101)); have GE101 := q0 ((bs HB.out hg : w.heap.size ≤ gb101)); replace HB := q0 (below_step (qb HB.out) hb); have NB100_101 := q0 ((bl BK100.out hg : gb100 ≠ gb101)); have NB101_100 := q0 ((bg BK100.out hg : gb101 ≠ gb100)); replace BK100 := q0 (kb BK100.out hb); clear hb hbox hg; have hnb17 := NB100_101.out; have hnc17 := NB101_100.out; have hcz18_0 : w16.cell? ⟨gb100, 0, none⟩ = some (.int .i64 a0_0) := (blk_cell BK100.out 0).trans rfl; have hcz18_1 : w16.cell? ⟨gb100, 1, none⟩ = some (.int .i64 a0_1) := (blk_cell BK100.out 1).trans rfl; have hfz18_0 := blk_frozen BK100.out 0; have hfz18_1 := blk_frozen BK100.out 1; have hcz19_0 : w16.cell? ⟨gb101, 0, none⟩ = some (.int .i64 a1_0) := (blk_cell BK101.out 0).trans rfl; have hcz19_1 : w16.cell? ⟨gb101, 1, none⟩ = some (.int .i64 a1_1) := (blk_cell BK101.out 1).trans rfl; have hfz19_0 := blk_frozen BK101.out 0; have hfz19_1 := blk_frozen BK101.out 1))
   go_ret
   exact ⟨qe, qb HB.out⟩
 rw [if_pos c9] at H
 have c9b0 : (a0_0 == a1_0) = true := beq_iff_eq.mpr c9
 have c9b1 : (a0_0 != a1_0) = false := bne_eq_false_iff_eq.mpr c9
 clear c9
 obtain rfl := Option.some.inj H
 go_enter Try.func78, Try.ntmps78
 go_wp2_with (first | ((with_reducible refine gate_dst (N := 2) rfl ?_); refine be 2 #[.int .i64 a0_0, .int .i64 a0_1] 74 ?_; intro gb100 hg w10 hbox hb; have BK100 := q0 (hbox); have GW100 := q0 ((bs HB.out hg : w.heap.size ≤ gb100)); have GE100 := q0 ((bs HB.out hg : w.heap.size ≤ gb100)); replace HB := q0 (below_step (qb HB.out) hb); clear hb hbox hg) | ((with_reducible refine gate_dst (N := 3) rfl ?_); refine be 3 #[.int .i64 a1_0, .int .i64 a1_1] 74 ?_; intro gb101 hg w11 hbox hb; have BK101 := q0 (hbox); have GW101 := q0 ((bs HB.out hg : w.heap.size ≤ gb101)); have GE101 := q0 ((bs HB.out hg : w.heap.size ≤ gb101)); replace HB := q0 (below_step (qb HB.out) hb); have NB100_101 := q0 ((bl BK100.out hg : gb100 ≠ gb101)); have NB101_100 := q0 ((bg BK100.out hg : gb101 ≠ gb100)); replace BK100 := q0 (kb BK100.out hb); clear hb hbox hg; have hnb12 := NB100_101.out; have hnc12 := NB101_100.out; have hcz13_0 : w11.cell? ⟨gb100, 0, none⟩ = some (.int .i64 a0_0) := (blk_cell BK100.out 0).trans rfl; have hcz13_1 : w11.cell? ⟨gb100, 1, none⟩ = some (.int .i64 a0_1) := (blk_cell BK100.out 1).trans rfl; have hfz13_0 := blk_frozen BK100.out 0; have hfz13_1 := blk_frozen BK100.out 1; have hcz14_0 : w11.cell? ⟨gb101, 0, none⟩ = some (.int .i64 a1_0) := (blk_cell BK101.out 0).trans rfl; have hcz14_1 : w11.cell? ⟨gb101, 1, none⟩ = some (.int .i64 a1_1) := (blk_cell BK101.out 1).trans rfl; have hfz14_0 := blk_frozen BK101.out 0; have hfz14_1 := blk_frozen BK101.out 1))
 go_ret
 exact ⟨qe, qb HB.out⟩

def spec_NetOk.T7 : Bool × List (List Nat × List Nat) := (true, [([], []), ([0], [0]), ([], []), ([2], [2]), ([3], [3]), ([1, 4], [1, 4]), ([5], [5]), ([6, 5], [6]), ([7], [7]), ([8, 7], [7, 8]), ([7], [7]), ([10, 7], [7, 10]), ([11, 7], [7, 11]), ([7], [7]), ([13, 7], [7, 13]), ([14, 7], [7, 14]), ([9, 12, 15, 7, 7], [7, 9, 12, 15]), ([16, 7], [7, 16]), ([7, 17], [7, 17]), ([18, 16], [18]), ([19], [19]), ([20, 19], [19, 20]), ([21, 19, 19], [19, 21]), ([22], [22]), ([23, 22], [22, 23]), ([22], [22]), ([25, 22], [22, 25]), ([24, 26, 22], [22, 24, 26]), ([27, 22], [22, 27]), ([22], [22]), ([28, 29, 22, 22], [22, 28, 29]), ([30, 22], [22, 30]), ([22, 31, 19], [19, 22, 31]), ([19, 32], [19, 32])])
def spec_NetOk.B7 : List Nat := [0, 1, 0, 4, 12, 31, 63, 127, 255, 511, 255, 1279, 3327, 255, 8447, 24831, 65535, 131071, 262143, 524287, 1048575, 2097151, 4194303, 8388607, 16777215, 8388607, 41943039, 134217727, 268435455, 8388607, 1073741823, 2147483647, 4294967295, 8589934591]
theorem spec_NetOk.tab7 : rtab .any (opsOf Try.f57 7) = spec_NetOk.T7 := by kernel_rfl
theorem spec_NetOk.bits7 : waitsOk spec_NetOk.T7.2 spec_NetOk.B7 = true := by kernel_rfl
set_option maxHeartbeats 8000000 in
set_option maxRecDepth 100000 in
theorem spec_NetOk.calls (k : Nat) (a0_0 : Int) (A0_1 : Option Addr) (c0_1 : Nat) (l0_1 : List (STie)) (r : Bool) (w : World) (hr0_1 : Kd.C kTie w A0_1 l0_1.length l0_1) (hc0_1 : l0_1.length ≤ c0_1) (h : spec_NetOk.f k a0_0 l0_1 = some r) :
    Calls Try.prog 57 #[.agg #[.int .i64 a0_0, .slice A0_1 l0_1.length c0_1]] w fun e w' => e = .returned (.bool r) ∧ Below w.heap.size w w' := by
 have hu31 := Try.underlying31
 have hu74 := Try.underlying74
 have HR0_1 := Aside0.mk hr0_1
 have HC0_1 := Aside0.mk hc0_1
 clear hr0_1 hc0_1
 have HB := q0 (Below.refl w.heap.size w)
 have H : ((spec_l6In.f a0_0 0 8).bind fun t100 => (if t100 = true then (spec_NetOk.j0 k (decide ((l0_1.length : Int) > 64)) a0_0 l0_1) else (spec_NetOk.j0 k true a0_0 l0_1))) = some r := h
 clear h
 have HC2 := Aside0.mk H
 clear H
 go_enter Try.func57, Try.ntmps57
 go_upto_region 1 with (first | ((with_reducible refine gate_dst (N := 1) rfl ?_); (try (refine gate_guard (by rfl) ?_; dsimp only)); refine be 1 #[.int .i64 a0_0, .slice A0_1 l0_1.length c0_1] 31 ?_; intro gb104 hg w3 hbox hb; have BK104 := q0 (hbox); have GW104 := q0 ((bs HB.out hg : w.heap.size ≤ gb104)); have GE104 := q0 ((bs HB.out hg : w.heap.size ≤ gb104)); replace HB := q0 (below_step (qb HB.out) hb); clear hb hbox hg))
 (try simp only [Act.put, List.setIfInBounds_toArray, List.set_cons_zero, List.set_cons_succ])
 go_cut [14] (fun v14 wc => ∃ (kq : Nat) (x14_1 : Bool), v14 = .bool x14_1 ∧ Aside0 (spec_NetOk.j0 kq x14_1 a0_0 l0_1 = some r) ∧ Aside0 (kq ≤ k) ∧ Aside0 (wc.heap[gb104]? = some (.cells #[.int .i64 a0_0, (.slice A0_1 l0_1.length c0_1)] 31 (0, 0))) ∧ Aside0 (Below w.heap.size w wc))
 case first =>
   have H := HC2.out
   clear HC2
   replace H := Option.bind_eq_some_iff.mp H
   obtain ⟨t100, A40, H⟩ := H
   have A4 := Aside0.mk A40
   clear A40
   by_cases c5 : t100 = true
   · subst c5
     rw [if_pos rfl] at H
     have H' := Aside0.mk H
     clear H
     have hcz6_0 : w3.cell? ⟨gb104, 0, none⟩ = some (.int .i64 a0_0) := (blk_cell BK104.out 0).trans rfl
     have hcz6_1 : w3.cell? ⟨gb104, 1, none⟩ = some (.slice A0_1 l0_1.length c0_1) := (blk_cell BK104.out 1).trans rfl
     have hfz6_0 := blk_frozen BK104.out 0
     have hfz6_1 := blk_frozen BK104.out 1
     go_wp2_with (first | ((with_reducible refine gate_callee (f := 64) rfl ?_); refine gl 7 Try.func64 #[.int .i64 a0_0, .int .i64 0, .int .i64 8] ?_; (with_reducible refine (spec_l6In.calls a0_0 0 8 true _ A4.out).mono ?_); rintro e w' ⟨rfl, ⟨nd, rfl⟩⟩; refine ⟨_, rfl, ?_⟩))
     go_meet
     case rel => exact ⟨_, (decide ((l0_1.length : Int) > 64)), qs, H', ⟨by first | omega | exact Nat.le_refl _⟩, ⟨qk BK104.out⟩, ⟨qb HB.out⟩⟩
   replace c5 := Bool.eq_false_iff.mpr c5
   subst c5
   rw [if_neg nf] at H
   have H' := Aside0.mk H
   clear H
   have hcz7_0 : w3.cell? ⟨gb104, 0, none⟩ = some (.int .i64 a0_0) := (blk_cell BK104.out 0).trans rfl
   have hcz7_1 : w3.cell? ⟨gb104, 1, none⟩ = some (.slice A0_1 l0_1.length c0_1) := (blk_cell BK104.out 1).trans rfl
   have hfz7_0 := blk_frozen BK104.out 0
   have hfz7_1 := blk_frozen BK104.out 1
   go_wp2_with (first | ((with_reducible refine gate_callee (f := 64) rfl ?_); refine gl 7 Try.func64 #[.int .i64 a0_0, .int .i64 0, .int .i64 8] ?_; (with_reducible refine (spec_l6In.calls a0_0 0 8 false _ A4.out).mono ?_); rintro e w' ⟨rfl, ⟨nd, rfl⟩⟩; refine ⟨_, rfl, ?_⟩))
   go_meet
   case rel => exact ⟨_, (true), qs, H', ⟨by first | omega | exact Nat.le_refl _⟩, ⟨qk BK104.out⟩, ⟨qb HB.out⟩⟩
 clear HC2
 try clear p2
 try clear c5
 try clear c6
 try clear hcz6_0
 try clear hcz6_1
 try clear hcz7_0
 try clear hcz7_1
 try clear hfz6_0
 try clear hfz6_1
 try clear hfz7_0
 try clear hfz7_1
 obtain ⟨kq, x14_1, rfl, HA, HJ1, BK104, HB⟩ := hcut
 rcases kq with _ | kj1
 · exact absurd HA.out (by simp [spec_NetOk.j0])
 have H := HA.out
 clear HA
 simp only [spec_NetOk.j0] at H
 by_cases c8 : x14_1 = true
 · subst c8
   rw [if_pos rfl] at H
   obtain rfl := Option.some.inj H
   go_wp2
   go_ret
   exact ⟨qe, qb HB.out⟩
 replace c8 := Bool.eq_false_iff.mpr c8
 subst c8
 rw [if_neg nf] at H
 have H' := Aside0.mk H
 clear H
 go_wp2
 go_loopg [3] kj1 (fun kq v3 w' => ∃ (x3_2 : Int), v3 = .int .i64 x3_2 ∧ Aside0 (spec_NetOk.l0 kq x3_2 a0_0 l0_1 = some r) ∧ Aside0 (kq ≤ kj1) ∧ Aside0 (w'.heap[gb104]? = some (.cells #[.int .i64 a0_0, (.slice A0_1 l0_1.length c0_1)] 31 (0, 0))) ∧ Aside0 (Below w.heap.size w w'))
 case atStart => exact ⟨(0), qs, H', ⟨Nat.le_refl _⟩, ⟨qk BK104.out⟩, ⟨qb HB.out⟩⟩
 clear H'
 try clear p2
 try clear c5
 try clear c6
 try clear c8
 try clear hcz6_0
 try clear hcz6_1
 try clear hcz7_0
 try clear hcz7_1
 try clear hfz6_0
 try clear hfz6_1
 try clear hfz7_0
 try clear hfz7_1
 try clear p2
 obtain ⟨x3_2, rfl, HA, HK2, BK104, HB⟩ := hrel
 rcases gk with _ | k2
 · exact absurd HA.out (by simp [spec_NetOk.l0])
 have H := HA.out
 clear HA
 simp only [spec_NetOk.l0] at H
 by_cases c9 : x3_2 < (l0_1.length : Int)
 rotate_left
 · rw [if_neg c9] at H
   have c9b0 : decide (x3_2 < (l0_1.length : Int)) = false := decide_eq_false c9
   clear c9
   obtain rfl := Option.some.inj H
   have hcz53_0 : wr.cell? ⟨gb104, 0, none⟩ = some (.int .i64 a0_0) := (blk_cell BK104.out 0).trans rfl
   have hcz53_1 : wr.cell? ⟨gb104, 1, none⟩ = some (.slice A0_1 l0_1.length c0_1) := (blk_cell BK104.out 1).trans rfl
   have hfz53_0 := blk_frozen BK104.out 0
   have hfz53_1 := blk_frozen BK104.out 1
   go_wp2
   go_ret
   exact ⟨qe, qb HB.out⟩
 rw [if_pos c9] at H
 have c9b0 : decide (x3_2 < (l0_1.length : Int)) = true := decide_eq_true c9
 clear c9
 by_cases c10 : 0 ≤ x3_2
 rotate_left
 · rw [if_neg c10] at H
   exact absurd H (by simp)
 rw [if_pos c10] at H
 have c10b0 : decide (0 ≤ x3_2) = true := decide_eq_true c10
 clear c10
 replace H := Option.bind_eq_some_iff.mp H
 obtain ⟨t101, A102, H⟩ := H
 have A11 := Aside0.mk A102
 clear A102
 by_cases c12 : t101 = true
 rotate_left
 · replace c12 := Bool.eq_false_iff.mpr c12
   subst c12
   rw [if_neg nf] at H
   obtain rfl := Option.some.inj H
   have hcz47_0 : wr.cell? ⟨gb104, 0, none⟩ = some (.int .i64 a0_0) := (blk_cell BK104.out 0).trans rfl
   have hcz47_1 : wr.cell? ⟨gb104, 1, none⟩ = some (.slice A0_1 l0_1.length c0_1) := (blk_cell BK104.out 1).trans rfl
   have hfz47_0 := blk_frozen BK104.out 0
   have hfz47_1 := blk_frozen BK104.out 1
   have p107 : 0 ≤ (x3_2 : Int) := of_decide_eq_true qa
   have q107 : x3_2 < (l0_1.length : Int) := of_decide_eq_true qa
   obtain ⟨ad107, e107, hx107_0, hx107_1⟩ := at_TTie HR0_1.out x3_2 p107 q107
   cases e107
   replace hx107_0 := (HB.out.cell (World.block_lt_of_cell? w _ hx107_0)).trans hx107_0
   replace hx107_1 := (HB.out.cell (World.block_lt_of_cell? w _ hx107_1)).trans hx107_1
   replace p107 := eq_true p107
   replace q107 := eq_true q107
   try go_wp2_with (first | ((with_reducible refine gate_dst (N := 4) rfl ?_); (try (refine gate_guard (by rfl) ?_; dsimp only)); refine be 4 #[.int .i64 0, .int .i64 0] 74 ?_; intro gb108 hg w48 hbox hb; have BK108 := q0 (hbox); have GW108 := q0 ((bs HB.out hg : w.heap.size ≤ gb108)); have GE108 := q0 ((bs HB.out hg : w.heap.size ≤ gb108)); replace HB := q0 (below_step (qb HB.out) hb); have NB104_108 := q0 ((bl BK104.out hg : gb104 ≠ gb108)); have NB108_104 := q0 ((bg BK104.out hg : gb108 ≠ gb104)); replace BK104 := q0 (kb BK104.out hb); clear hb hbox hg; have hnb49 := NB108_104.out; have hnc49 := NB104_108.out; have hcz50_0 : w48.cell? ⟨gb108, 0, none⟩ = some (.int .i64 0) := (blk_cell BK108.out 0).trans rfl; have hcz50_1 : w48.cell? ⟨gb108, 1, none⟩ = some (.int .i64 0) := (blk_cell BK108.out 1).trans rfl; have hfz50_0 := blk_frozen BK108.out 0; have hfz50_1 := blk_frozen BK108.out 1))
   have n0_ : Aside0 (((w48.setCell ⟨gb108, 0, none⟩ (.int .i64 ((rd_TTie l0_1 x3_2).f0))).setCell ⟨gb108, 1, none⟩ (.int .i64 ((rd_TTie l0_1 x3_2).f1))).heap[gb104]? = some (.cells #[.int .i64 a0_0, .slice (some ad107) l0_1.length c0_1] 31 (0, 0))) := ⟨qf BK104.out⟩
   have n1_ : Aside0 (((w48.setCell ⟨gb108, 0, none⟩ (.int .i64 ((rd_TTie l0_1 x3_2).f0))).setCell ⟨gb108, 1, none⟩ (.int .i64 ((rd_TTie l0_1 x3_2).f1))).heap[gb108]? = some (.cells #[.int .i64 ((rd_TTie l0_1 x3_2).f0), .int .i64 ((rd_TTie l0_1 x3_2).f1)] 74 (0, 0))) := ⟨by (with_reducible repeat (first | refine blk_drewN ?_ _ | refine blk_drew ?_ | refine blk_alloc ?_ _)); refine blk_put (cs := #[.int .i64 ((rd_TTie l0_1 x3_2).f0), .int .i64 0]) ?_ 1 _ rfl; (with_reducible repeat (first | refine blk_drewN ?_ _ | refine blk_drew ?_ | refine blk_alloc ?_ _)); refine blk_put (cs := #[.int .i64 0, .int .i64 0]) ?_ 0 _ rfl; (with_reducible repeat (first | refine blk_drewN ?_ _ | refine blk_drew ?_ | refine blk_alloc ?_ _)); exact BK108.out⟩
   have n2_ : Aside0 (Below w.heap.size w ((w48.setCell ⟨gb108, 0, none⟩ (.int .i64 ((rd_TTie l0_1 x3_2).f0))).setCell ⟨gb108, 1, none⟩ (.int .i64 ((rd_TTie l0_1 x3_2).f1)))) := ⟨qb HB.out⟩
   (try clear BK104)
   (try clear BK108)
   (try clear HB)
   generalize ((w48.setCell ⟨gb108, 0, none⟩ (.int .i64 ((rd_TTie l0_1 x3_2).f0))).setCell ⟨gb108, 1, none⟩ (.int .i64 ((rd_TTie l0_1 x3_2).f1))) = w51 at n0_ n1_ n2_ ⊢
   have BK104 := n0_
   have BK108 := n1_
   have HB := n2_
   clear n0_ n1_ n2_
   replace BK104 := q0 (blk_drew BK104.out)
   replace BK108 := q0 (blk_drew BK108.out)
   replace HB := q0 (below_drew1 HB.out)
   refine start_ (n := 34) (S := fun w' => w'.cell? ⟨gb108, 0, none⟩ = some (.int .i64 ((rd_TTie l0_1 x3_2).f0)) ∧ w'.cell? ⟨gb108, 1, none⟩ = some (.int .i64 ((rd_TTie l0_1 x3_2).f1)) ∧ w'.cell? ⟨gb104, 0, none⟩ = some (.int .i64 a0_0) ∧ w'.cell? ⟨gb104, 1, none⟩ = some (.slice (some ad107) l0_1.length c0_1)) (ds := []) (ba 34 0) (by kernel_rfl) rfl (by kernel_rfl) ⟨(blk_cell BK108.out 0).trans rfl, (blk_cell BK108.out 1).trans rfl, (blk_cell BK104.out 0).trans rfl, (blk_cell BK104.out 1).trans rfl⟩ (fun hHeld => ?_); refine with_tabW spec_NetOk.tab7 spec_NetOk.bits7 (fun HT_ HW_ => ?_)
   generalize w51.drew = w52 at BK104 BK108 HB hHeld ⊢
   refine pu 0 (some 27) (ba 34 1) HT_.out ?_
   refine pu 2 (some 29) (ba 34 5) HT_.out ?_
   refine tu 1 (some 28) (ba 34 7) HT_.out HW_.out hHeld ?_
   refine tu 3 (some 30) (ba 34 15) HT_.out HW_.out hHeld ?_
   refine pu 4 (some 31) (ba 34 31) HT_.out ?_
   refine one_ (i := 5) (N := some 32) (ba 34 63) rfl rfl (one_of HT_.out (by kernel_rfl)) (by decide) (fun K hK => ?_)
   refine goes_ Try.func64 (by kernel_rfl) rfl #[.int .i64 ((rd_TTie l0_1 x3_2).f0), .int .i64 0, .int .i64 (wrap64 (a0_0 - 1))] (by rfl) rfl rfl qm ?_
   with_reducible refine (spec_l6In.calls ((rd_TTie l0_1 x3_2).f0) 0 (wrap64 (a0_0 - 1)) false _ A11.out).mono ?_
   rintro e w' ⟨rfl, ⟨nd, rfl⟩⟩
   refine ⟨_, rfl, ?_⟩
   refine hK.out _ _ ⟨(blk_cell BK108.out 0).trans rfl, (blk_cell BK108.out 1).trans rfl, (blk_cell BK104.out 0).trans rfl, (blk_cell BK104.out 1).trans rfl⟩ (fun hHeld => ?_)
   clear hK K
   refine nu 32 ?_
   refine pu 6 (some 33) (ba 34 127) HT_.out ?_
   refine pu 7 (some 34) (ba 34 255) HT_.out ?_
   refine pv 8 (some 35) (ba 34 511) HT_.out ?_
   refine pv 9 (some 36) (ba 34 1023) HT_.out ?_
   refine pv 10 (some 37) (ba 34 2047) HT_.out ?_
   refine pv 11 (some 38) (ba 34 4095) HT_.out ?_
   refine pv 12 (some 39) (ba 34 8191) HT_.out ?_
   refine pv 13 (some 40) (ba 34 16383) HT_.out ?_
   refine pv 14 (some 41) (ba 34 32767) HT_.out ?_
   refine pv 15 (some 42) (ba 34 65535) HT_.out ?_
   refine pv 16 (some 43) (ba 34 131071) HT_.out ?_
   refine pv 17 (some 44) (ba 34 262143) HT_.out ?_
   refine pu 18 (some 45) (ba 34 524287) HT_.out ?_
   refine pu 19 (some 46) (ba 34 1048575) HT_.out ?_
   refine pv 20 (some 47) (ba 34 2097151) HT_.out ?_
   refine pv 21 (some 48) (ba 34 4194303) HT_.out ?_
   refine pv 22 (some 49) (ba 34 8388607) HT_.out ?_
   refine pv 23 (some 50) (ba 34 16777215) HT_.out ?_
   refine pv 24 (some 51) (ba 34 33554431) HT_.out ?_
   refine pv 25 (some 52) (ba 34 67108863) HT_.out ?_
   refine pv 26 (some 53) (ba 34 134217727) HT_.out ?_
   refine pv 27 (some 54) (ba 34 268435455) HT_.out ?_
   refine pv 28 (some 55) (ba 34 536870911) HT_.out ?_
   refine pv 29 (some 56) (ba 34 1073741823) HT_.out ?_
   refine pv 30 (some 57) (ba 34 2147483647) HT_.out ?_
   refine pv 31 (some 58) (ba 34 4294967295) HT_.out ?_
   refine pv 32 (some 59) (ba 34 8589934591) HT_.out ?_
   refine pu 33 (some 60) (ba 34 17179869183) HT_.out ?_
   refine done_ (done_of HT_.out (by kernel_rfl)) ?_
   try go_wp2
   go_ret
   exact ⟨qe, qb HB.out⟩
 subst c12
 rw [if_pos rfl] at H
 replace H := Option.bind_eq_some_iff.mp H
 obtain ⟨t102, A105, H⟩ := H
 have A13 := Aside0.mk A105
 clear A105
 by_cases c14 : t102 = true
 rotate_left
 · replace c14 := Bool.eq_false_iff.mpr c14
   subst c14
   rw [if_neg nf] at H
   obtain rfl := Option.some.inj H
   have hcz41_0 : wr.cell? ⟨gb104, 0, none⟩ = some (.int .i64 a0_0) := (blk_cell BK104.out 0).trans rfl
   have hcz41_1 : wr.cell? ⟨gb104, 1, none⟩ = some (.slice A0_1 l0_1.length c0_1) := (blk_cell BK104.out 1).trans rfl
   have hfz41_0 := blk_frozen BK104.out 0
   have hfz41_1 := blk_frozen BK104.out 1
   have p107 : 0 ≤ (x3_2 : Int) := of_decide_eq_true qa
   have q107 : x3_2 < (l0_1.length : Int) := of_decide_eq_true qa
   obtain ⟨ad107, e107, hx107_0, hx107_1⟩ := at_TTie HR0_1.out x3_2 p107 q107
   cases e107
   replace hx107_0 := (HB.out.cell (World.block_lt_of_cell? w _ hx107_0)).trans hx107_0
   replace hx107_1 := (HB.out.cell (World.block_lt_of_cell? w _ hx107_1)).trans hx107_1
   replace p107 := eq_true p107
   replace q107 := eq_true q107
   try go_wp2_with (first | ((with_reducible refine gate_dst (N := 4) rfl ?_); (try (refine gate_guard (by rfl) ?_; dsimp only)); refine be 4 #[.int .i64 0, .int .i64 0] 74 ?_; intro gb108 hg w42 hbox hb; have BK108 := q0 (hbox); have GW108 := q0 ((bs HB.out hg : w.heap.size ≤ gb108)); have GE108 := q0 ((bs HB.out hg : w.heap.size ≤ gb108)); replace HB := q0 (below_step (qb HB.out) hb); have NB104_108 := q0 ((bl BK104.out hg : gb104 ≠ gb108)); have NB108_104 := q0 ((bg BK104.out hg : gb108 ≠ gb104)); replace BK104 := q0 (kb BK104.out hb); clear hb hbox hg; have hnb43 := NB108_104.out; have hnc43 := NB104_108.out; have hcz44_0 : w42.cell? ⟨gb108, 0, none⟩ = some (.int .i64 0) := (blk_cell BK108.out 0).trans rfl; have hcz44_1 : w42.cell? ⟨gb108, 1, none⟩ = some (.int .i64 0) := (blk_cell BK108.out 1).trans rfl; have hfz44_0 := blk_frozen BK108.out 0; have hfz44_1 := blk_frozen BK108.out 1))
   have n0_ : Aside0 (((w42.setCell ⟨gb108, 0, none⟩ (.int .i64 ((rd_TTie l0_1 x3_2).f0))).setCell ⟨gb108, 1, none⟩ (.int .i64 ((rd_TTie l0_1 x3_2).f1))).heap[gb104]? = some (.cells #[.int .i64 a0_0, .slice (some ad107) l0_1.length c0_1] 31 (0, 0))) := ⟨qf BK104.out⟩
   have n1_ : Aside0 (((w42.setCell ⟨gb108, 0, none⟩ (.int .i64 ((rd_TTie l0_1 x3_2).f0))).setCell ⟨gb108, 1, none⟩ (.int .i64 ((rd_TTie l0_1 x3_2).f1))).heap[gb108]? = some (.cells #[.int .i64 ((rd_TTie l0_1 x3_2).f0), .int .i64 ((rd_TTie l0_1 x3_2).f1)] 74 (0, 0))) := ⟨by (with_reducible repeat (first | refine blk_drewN ?_ _ | refine blk_drew ?_ | refine blk_alloc ?_ _)); refine blk_put (cs := #[.int .i64 ((rd_TTie l0_1 x3_2).f0), .int .i64 0]) ?_ 1 _ rfl; (with_reducible repeat (first | refine blk_drewN ?_ _ | refine blk_drew ?_ | refine blk_alloc ?_ _)); refine blk_put (cs := #[.int .i64 0, .int .i64 0]) ?_ 0 _ rfl; (with_reducible repeat (first | refine blk_drewN ?_ _ | refine blk_drew ?_ | refine blk_alloc ?_ _)); exact BK108.out⟩
   have n2_ : Aside0 (Below w.heap.size w ((w42.setCell ⟨gb108, 0, none⟩ (.int .i64 ((rd_TTie l0_1 x3_2).f0))).setCell ⟨gb108, 1, none⟩ (.int .i64 ((rd_TTie l0_1 x3_2).f1)))) := ⟨qb HB.out⟩
   (try clear BK104)
   (try clear BK108)
   (try clear HB)
   generalize ((w42.setCell ⟨gb108, 0, none⟩ (.int .i64 ((rd_TTie l0_1 x3_2).f0))).setCell ⟨gb108, 1, none⟩ (.int .i64 ((rd_TTie l0_1 x3_2).f1))) = w45 at n0_ n1_ n2_ ⊢
   have BK104 := n0_
   have BK108 := n1_
   have HB := n2_
   clear n0_ n1_ n2_
   replace BK104 := q0 (blk_drew BK104.out)
   replace BK108 := q0 (blk_drew BK108.out)
   replace HB := q0 (below_drew1 HB.out)
   refine start_ (n := 34) (S := fun w' => w'.cell? ⟨gb108, 0, none⟩ = some (.int .i64 ((rd_TTie l0_1 x3_2).f0)) ∧ w'.cell? ⟨gb108, 1, none⟩ = some (.int .i64 ((rd_TTie l0_1 x3_2).f1)) ∧ w'.cell? ⟨gb104, 0, none⟩ = some (.int .i64 a0_0) ∧ w'.cell? ⟨gb104, 1, none⟩ = some (.slice (some ad107) l0_1.length c0_1)) (ds := []) (ba 34 0) (by kernel_rfl) rfl (by kernel_rfl) ⟨(blk_cell BK108.out 0).trans rfl, (blk_cell BK108.out 1).trans rfl, (blk_cell BK104.out 0).trans rfl, (blk_cell BK104.out 1).trans rfl⟩ (fun hHeld => ?_); refine with_tabW spec_NetOk.tab7 spec_NetOk.bits7 (fun HT_ HW_ => ?_)
   generalize w45.drew = w46 at BK104 BK108 HB hHeld ⊢
   refine pu 0 (some 27) (ba 34 1) HT_.out ?_
   refine pu 2 (some 29) (ba 34 5) HT_.out ?_
   refine tu 1 (some 28) (ba 34 7) HT_.out HW_.out hHeld ?_
   refine tu 3 (some 30) (ba 34 15) HT_.out HW_.out hHeld ?_
   refine pu 4 (some 31) (ba 34 31) HT_.out ?_
   refine one_ (i := 5) (N := some 32) (ba 34 63) rfl rfl (one_of HT_.out (by kernel_rfl)) (by decide) (fun K hK => ?_)
   refine goes_ Try.func64 (by kernel_rfl) rfl #[.int .i64 ((rd_TTie l0_1 x3_2).f0), .int .i64 0, .int .i64 (wrap64 (a0_0 - 1))] (by rfl) rfl rfl qm ?_
   with_reducible refine (spec_l6In.calls ((rd_TTie l0_1 x3_2).f0) 0 (wrap64 (a0_0 - 1)) true _ A11.out).mono ?_
   rintro e w' ⟨rfl, ⟨nd, rfl⟩⟩
   refine ⟨_, rfl, ?_⟩
   refine hK.out _ _ ⟨(blk_cell BK108.out 0).trans rfl, (blk_cell BK108.out 1).trans rfl, (blk_cell BK104.out 0).trans rfl, (blk_cell BK104.out 1).trans rfl⟩ (fun hHeld => ?_)
   clear hK K
   refine nu 32 ?_
   refine pu 6 (some 33) (ba 34 127) HT_.out ?_
   refine pu 7 (some 34) (ba 34 255) HT_.out ?_
   refine pu 8 (some 35) (ba 34 511) HT_.out ?_
   refine pu 10 (some 37) (ba 34 1535) HT_.out ?_
   refine pu 13 (some 40) (ba 34 9727) HT_.out ?_
   refine tu 9 (some 36) (ba 34 10239) HT_.out HW_.out hHeld ?_
   refine tu 11 (some 38) (ba 34 12287) HT_.out HW_.out hHeld ?_
   refine pu 12 (some 39) (ba 34 16383) HT_.out ?_
   refine tu 14 (some 41) (ba 34 32767) HT_.out HW_.out hHeld ?_
   refine pu 15 (some 42) (ba 34 65535) HT_.out ?_
   refine one_ (i := 16) (N := some 43) (ba 34 131071) rfl rfl (one_of HT_.out (by kernel_rfl)) (by decide) (fun K hK => ?_)
   refine goes_ Try.func64 (by kernel_rfl) rfl #[.int .i64 ((rd_TTie l0_1 x3_2).f1), .int .i64 (wrap64 (((rd_TTie l0_1 x3_2).f0) + 1)), .int .i64 (wrap64 (a0_0 - 1))] (by rfl) rfl rfl qm ?_
   with_reducible refine (spec_l6In.calls ((rd_TTie l0_1 x3_2).f1) (wrap64 (((rd_TTie l0_1 x3_2).f0) + 1)) (wrap64 (a0_0 - 1)) false _ A13.out).mono ?_
   rintro e w' ⟨rfl, ⟨nd, rfl⟩⟩
   refine ⟨_, rfl, ?_⟩
   refine hK.out _ _ ⟨(blk_cell BK108.out 0).trans rfl, (blk_cell BK108.out 1).trans rfl, (blk_cell BK104.out 0).trans rfl, (blk_cell BK104.out 1).trans rfl⟩ (fun hHeld => ?_)
   clear hK K
   refine nu 43 ?_
   refine pu 17 (some 44) (ba 34 262143) HT_.out ?_
   refine pu 18 (some 45) (ba 34 524287) HT_.out ?_
   refine pu 19 (some 46) (ba 34 1048575) HT_.out ?_
   refine pv 20 (some 47) (ba 34 2097151) HT_.out ?_
   refine pv 21 (some 48) (ba 34 4194303) HT_.out ?_
   refine pv 22 (some 49) (ba 34 8388607) HT_.out ?_
   refine pv 23 (some 50) (ba 34 16777215) HT_.out ?_
   refine pv 24 (some 51) (ba 34 33554431) HT_.out ?_
   refine pv 25 (some 52) (ba 34 67108863) HT_.out ?_
   refine pv 26 (some 53) (ba 34 134217727) HT_.out ?_
   refine pv 27 (some 54) (ba 34 268435455) HT_.out ?_
   refine pv 28 (some 55) (ba 34 536870911) HT_.out ?_
   refine pv 29 (some 56) (ba 34 1073741823) HT_.out ?_
   refine pv 30 (some 57) (ba 34 2147483647) HT_.out ?_
   refine pv 31 (some 58) (ba 34 4294967295) HT_.out ?_
   refine pv 32 (some 59) (ba 34 8589934591) HT_.out ?_
   refine pu 33 (some 60) (ba 34 17179869183) HT_.out ?_
   refine done_ (done_of HT_.out (by kernel_rfl)) ?_
   try go_wp2
   go_ret
   exact ⟨qe, qb HB.out⟩
 subst c14
 rw [if_pos rfl] at H
 by_cases c15 : x3_2 > 0
 rotate_left
 · rw [if_neg c15] at H
   have c15b0 : decide (0 < x3_2) = false := decide_eq_false c15
   clear c15
   have H' := Aside0.mk H
   clear H
   have hcz35_0 : wr.cell? ⟨gb104, 0, none⟩ = some (.int .i64 a0_0) := (blk_cell BK104.out 0).trans rfl
   have hcz35_1 : wr.cell? ⟨gb104, 1, none⟩ = some (.slice A0_1 l0_1.length c0_1) := (blk_cell BK104.out 1).trans rfl
   have hfz35_0 := blk_frozen BK104.out 0
   have hfz35_1 := blk_frozen BK104.out 1
   have p107 : 0 ≤ (x3_2 : Int) := of_decide_eq_true qa
   have q107 : x3_2 < (l0_1.length : Int) := of_decide_eq_true qa
   obtain ⟨ad107, e107, hx107_0, hx107_1⟩ := at_TTie HR0_1.out x3_2 p107 q107
   cases e107
   replace hx107_0 := (HB.out.cell (World.block_lt_of_cell? w _ hx107_0)).trans hx107_0
   replace hx107_1 := (HB.out.cell (World.block_lt_of_cell? w _ hx107_1)).trans hx107_1
   replace p107 := eq_true p107
   replace q107 := eq_true q107
   try go_wp2_with (first | ((with_reducible refine gate_dst (N := 4) rfl ?_); (try (refine gate_guard (by rfl) ?_; dsimp only)); refine be 4 #[.int .i64 0, .int .i64 0] 74 ?_; intro gb108 hg w36 hbox hb; have BK108 := q0 (hbox); have GW108 := q0 ((bs HB.out hg : w.heap.size ≤ gb108)); have GE108 := q0 ((bs HB.out hg : w.heap.size ≤ gb108)); replace HB := q0 (below_step (qb HB.out) hb); have NB104_108 := q0 ((bl BK104.out hg : gb104 ≠ gb108)); have NB108_104 := q0 ((bg BK104.out hg : gb108 ≠ gb104)); replace BK104 := q0 (kb BK104.out hb); clear hb hbox hg; have hnb37 := NB108_104.out; have hnc37 := NB104_108.out; have hcz38_0 : w36.cell? ⟨gb108, 0, none⟩ = some (.int .i64 0) := (blk_cell BK108.out 0).trans rfl; have hcz38_1 : w36.cell? ⟨gb108, 1, none⟩ = some (.int .i64 0) := (blk_cell BK108.out 1).trans rfl; have hfz38_0 := blk_frozen BK108.out 0; have hfz38_1 := blk_frozen BK108.out 1))
   have n0_ : Aside0 (((w36.setCell ⟨gb108, 0, none⟩ (.int .i64 ((rd_TTie l0_1 x3_2).f0))).setCell ⟨gb108, 1, none⟩ (.int .i64 ((rd_TTie l0_1 x3_2).f1))).heap[gb104]? = some (.cells #[.int .i64 a0_0, .slice (some ad107) l0_1.length c0_1] 31 (0, 0))) := ⟨qf BK104.out⟩
   have n1_ : Aside0 (((w36.setCell ⟨gb108, 0, none⟩ (.int .i64 ((rd_TTie l0_1 x3_2).f0))).setCell ⟨gb108, 1, none⟩ (.int .i64 ((rd_TTie l0_1 x3_2).f1))).heap[gb108]? = some (.cells #[.int .i64 ((rd_TTie l0_1 x3_2).f0), .int .i64 ((rd_TTie l0_1 x3_2).f1)] 74 (0, 0))) := ⟨by (with_reducible repeat (first | refine blk_drewN ?_ _ | refine blk_drew ?_ | refine blk_alloc ?_ _)); refine blk_put (cs := #[.int .i64 ((rd_TTie l0_1 x3_2).f0), .int .i64 0]) ?_ 1 _ rfl; (with_reducible repeat (first | refine blk_drewN ?_ _ | refine blk_drew ?_ | refine blk_alloc ?_ _)); refine blk_put (cs := #[.int .i64 0, .int .i64 0]) ?_ 0 _ rfl; (with_reducible repeat (first | refine blk_drewN ?_ _ | refine blk_drew ?_ | refine blk_alloc ?_ _)); exact BK108.out⟩
   have n2_ : Aside0 (Below w.heap.size w ((w36.setCell ⟨gb108, 0, none⟩ (.int .i64 ((rd_TTie l0_1 x3_2).f0))).setCell ⟨gb108, 1, none⟩ (.int .i64 ((rd_TTie l0_1 x3_2).f1)))) := ⟨qb HB.out⟩
   (try clear BK104)
   (try clear BK108)
   (try clear HB)
   generalize ((w36.setCell ⟨gb108, 0, none⟩ (.int .i64 ((rd_TTie l0_1 x3_2).f0))).setCell ⟨gb108, 1, none⟩ (.int .i64 ((rd_TTie l0_1 x3_2).f1))) = w39 at n0_ n1_ n2_ ⊢
   have BK104 := n0_
   have BK108 := n1_
   have HB := n2_
   clear n0_ n1_ n2_
   replace BK104 := q0 (blk_drew BK104.out)
   replace BK108 := q0 (blk_drew BK108.out)
   replace HB := q0 (below_drew1 HB.out)
   refine start_ (n := 34) (S := fun w' => w'.cell? ⟨gb108, 0, none⟩ = some (.int .i64 ((rd_TTie l0_1 x3_2).f0)) ∧ w'.cell? ⟨gb108, 1, none⟩ = some (.int .i64 ((rd_TTie l0_1 x3_2).f1)) ∧ w'.cell? ⟨gb104, 0, none⟩ = some (.int .i64 a0_0) ∧ w'.cell? ⟨gb104, 1, none⟩ = some (.slice (some ad107) l0_1.length c0_1)) (ds := []) (ba 34 0) (by kernel_rfl) rfl (by kernel_rfl) ⟨(blk_cell BK108.out 0).trans rfl, (blk_cell BK108.out 1).trans rfl, (blk_cell BK104.out 0).trans rfl, (blk_cell BK104.out 1).trans rfl⟩ (fun hHeld => ?_); refine with_tabW spec_NetOk.tab7 spec_NetOk.bits7 (fun HT_ HW_ => ?_)
   generalize w39.drew = w40 at BK104 BK108 HB hHeld ⊢
   refine pu 0 (some 27) (ba 34 1) HT_.out ?_
   refine pu 2 (some 29) (ba 34 5) HT_.out ?_
   refine tu 1 (some 28) (ba 34 7) HT_.out HW_.out hHeld ?_
   refine tu 3 (some 30) (ba 34 15) HT_.out HW_.out hHeld ?_
   refine pu 4 (some 31) (ba 34 31) HT_.out ?_
   refine one_ (i := 5) (N := some 32) (ba 34 63) rfl rfl (one_of HT_.out (by kernel_rfl)) (by decide) (fun K hK => ?_)
   refine goes_ Try.func64 (by kernel_rfl) rfl #[.int .i64 ((rd_TTie l0_1 x3_2).f0), .int .i64 0, .int .i64 (wrap64 (a0_0 - 1))] (by rfl) rfl rfl qm ?_
   with_reducible refine (spec_l6In.calls ((rd_TTie l0_1 x3_2).f0) 0 (wrap64 (a0_0 - 1)) true _ A11.out).mono ?_
   rintro e w' ⟨rfl, ⟨nd, rfl⟩⟩
   refine ⟨_, rfl, ?_⟩
   refine hK.out _ _ ⟨(blk_cell BK108.out 0).trans rfl, (blk_cell BK108.out 1).trans rfl, (blk_cell BK104.out 0).trans rfl, (blk_cell BK104.out 1).trans rfl⟩ (fun hHeld => ?_)
   clear hK K
   refine nu 32 ?_
   refine pu 6 (some 33) (ba 34 127) HT_.out ?_
   refine pu 7 (some 34) (ba 34 255) HT_.out ?_
   refine pu 8 (some 35) (ba 34 511) HT_.out ?_
   refine pu 10 (some 37) (ba 34 1535) HT_.out ?_
   refine pu 13 (some 40) (ba 34 9727) HT_.out ?_
   refine tu 9 (some 36) (ba 34 10239) HT_.out HW_.out hHeld ?_
   refine tu 11 (some 38) (ba 34 12287) HT_.out HW_.out hHeld ?_
   refine pu 12 (some 39) (ba 34 16383) HT_.out ?_
   refine tu 14 (some 41) (ba 34 32767) HT_.out HW_.out hHeld ?_
   refine pu 15 (some 42) (ba 34 65535) HT_.out ?_
   refine one_ (i := 16) (N := some 43) (ba 34 131071) rfl rfl (one_of HT_.out (by kernel_rfl)) (by decide) (fun K hK => ?_)
   refine goes_ Try.func64 (by kernel_rfl) rfl #[.int .i64 ((rd_TTie l0_1 x3_2).f1), .int .i64 (wrap64 (((rd_TTie l0_1 x3_2).f0) + 1)), .int .i64 (wrap64 (a0_0 - 1))] (by rfl) rfl rfl qm ?_
   with_reducible refine (spec_l6In.calls ((rd_TTie l0_1 x3_2).f1) (wrap64 (((rd_TTie l0_1 x3_2).f0) + 1)) (wrap64 (a0_0 - 1)) true _ A13.out).mono ?_
   rintro e w' ⟨rfl, ⟨nd, rfl⟩⟩
   refine ⟨_, rfl, ?_⟩
   refine hK.out _ _ ⟨(blk_cell BK108.out 0).trans rfl, (blk_cell BK108.out 1).trans rfl, (blk_cell BK104.out 0).trans rfl, (blk_cell BK104.out 1).trans rfl⟩ (fun hHeld => ?_)
   clear hK K
   refine nu 43 ?_
   refine pu 17 (some 44) (ba 34 262143) HT_.out ?_
   refine pu 18 (some 45) (ba 34 524287) HT_.out ?_
   refine pu 19 (some 46) (ba 34 1048575) HT_.out ?_
   refine pu 20 (some 47) (ba 34 2097151) HT_.out ?_
   refine pu 21 (some 48) (ba 34 4194303) HT_.out ?_
   refine pu 22 (some 49) (ba 34 8388607) HT_.out ?_
   refine pv 23 (some 50) (ba 34 16777215) HT_.out ?_
   refine pv 24 (some 51) (ba 34 33554431) HT_.out ?_
   refine pv 25 (some 52) (ba 34 67108863) HT_.out ?_
   refine pv 26 (some 53) (ba 34 134217727) HT_.out ?_
   refine pv 27 (some 54) (ba 34 268435455) HT_.out ?_
   refine pv 28 (some 55) (ba 34 536870911) HT_.out ?_
   refine pv 29 (some 56) (ba 34 1073741823) HT_.out ?_
   refine pv 30 (some 57) (ba 34 2147483647) HT_.out ?_
   refine pv 31 (some 58) (ba 34 4294967295) HT_.out ?_
   refine pu 32 (some 59) (ba 34 8589934591) HT_.out ?_
   refine pu 33 (some 60) (ba 34 17179869183) HT_.out ?_
   refine done_ (done_of HT_.out (by kernel_rfl)) ?_
   try go_wp2
   go_roundg k2
   case measure => have := HJ1.out; have := HK2.out; omega
   case rel => exact ⟨(wrap64 (x3_2 + 1)), qs, H', ⟨by have := HJ1.out; have := HK2.out; omega⟩, ⟨qk BK104.out⟩, ⟨qb HB.out⟩⟩
 rw [if_pos c15] at H
 have c15b0 : decide (0 < x3_2) = true := decide_eq_true c15
 clear c15
 obtain ⟨ji16, hji16⟩ : ∃ j_ : Int, (wrap64 (x3_2 - 1)) = j_ := ⟨_, rfl⟩
 replace H : (if 0 ≤ (ji16) then (if (ji16) < (l0_1.length : Int) then ((spec_l1Less.f ((rd_TTie l0_1 (ji16)).f0) ((rd_TTie l0_1 (ji16)).f1) ((rd_TTie l0_1 x3_2).f0) ((rd_TTie l0_1 x3_2).f1)).bind fun t103 => (if t103 = true then (spec_NetOk.l0 k2 (wrap64 (x3_2 + 1)) a0_0 l0_1) else (some false))) else (none)) else (none)) = some r := by first | (rw [hji16] at H; exact H) | (simp only [hji16] at H ⊢; exact H)
 (try rw [hji16] at A11)
 (try rw [hji16] at A13)
 have hji16w : (IntKind.i64.wrap (x3_2 - 1)) = ji16 := (i64_w _).trans hji16
 by_cases c17 : 0 ≤ (ji16)
 rotate_left
 · rw [if_neg c17] at H
   exact absurd H (by simp)
 rw [if_pos c17] at H
 have c17b0 : decide (0 ≤ (ji16)) = true := decide_eq_true c17
 clear c17
 by_cases c18 : (ji16) < (l0_1.length : Int)
 rotate_left
 · rw [if_neg c18] at H
   exact absurd H (by simp)
 rw [if_pos c18] at H
 have c18b0 : decide ((ji16) < (l0_1.length : Int)) = true := decide_eq_true c18
 clear c18
 replace H := Option.bind_eq_some_iff.mp H
 obtain ⟨t103, A106, H⟩ := H
 have A19 := Aside0.mk A106
 clear A106
 by_cases c20 : t103 = true
 rotate_left
 · replace c20 := Bool.eq_false_iff.mpr c20
   subst c20
   rw [if_neg nf] at H
   obtain rfl := Option.some.inj H
   have hcz28_0 : wr.cell? ⟨gb104, 0, none⟩ = some (.int .i64 a0_0) := (blk_cell BK104.out 0).trans rfl
   have hcz28_1 : wr.cell? ⟨gb104, 1, none⟩ = some (.slice A0_1 l0_1.length c0_1) := (blk_cell BK104.out 1).trans rfl
   have hfz28_0 := blk_frozen BK104.out 0
   have hfz28_1 := blk_frozen BK104.out 1
   have p107 : 0 ≤ (x3_2 : Int) := of_decide_eq_true qa
   have q107 : x3_2 < (l0_1.length : Int) := of_decide_eq_true qa
   obtain ⟨ad107, e107, hx107_0, hx107_1⟩ := at_TTie HR0_1.out x3_2 p107 q107
   cases e107
   replace hx107_0 := (HB.out.cell (World.block_lt_of_cell? w _ hx107_0)).trans hx107_0
   replace hx107_1 := (HB.out.cell (World.block_lt_of_cell? w _ hx107_1)).trans hx107_1
   replace p107 := eq_true p107
   replace q107 := eq_true q107
   try go_wp2_with (first | ((with_reducible refine gate_dst (N := 4) rfl ?_); (try (refine gate_guard (by rfl) ?_; dsimp only)); refine be 4 #[.int .i64 0, .int .i64 0] 74 ?_; intro gb108 hg w29 hbox hb; have BK108 := q0 (hbox); have GW108 := q0 ((bs HB.out hg : w.heap.size ≤ gb108)); have GE108 := q0 ((bs HB.out hg : w.heap.size ≤ gb108)); replace HB := q0 (below_step (qb HB.out) hb); have NB104_108 := q0 ((bl BK104.out hg : gb104 ≠ gb108)); have NB108_104 := q0 ((bg BK104.out hg : gb108 ≠ gb104)); replace BK104 := q0 (kb BK104.out hb); clear hb hbox hg; have hnb30 := NB108_104.out; have hnc30 := NB104_108.out; have hcz31_0 : w29.cell? ⟨gb108, 0, none⟩ = some (.int .i64 0) := (blk_cell BK108.out 0).trans rfl; have hcz31_1 : w29.cell? ⟨gb108, 1, none⟩ = some (.int .i64 0) := (blk_cell BK108.out 1).trans rfl; have hfz31_0 := blk_frozen BK108.out 0; have hfz31_1 := blk_frozen BK108.out 1))
   have n0_ : Aside0 (((w29.setCell ⟨gb108, 0, none⟩ (.int .i64 ((rd_TTie l0_1 x3_2).f0))).setCell ⟨gb108, 1, none⟩ (.int .i64 ((rd_TTie l0_1 x3_2).f1))).heap[gb104]? = some (.cells #[.int .i64 a0_0, .slice (some ad107) l0_1.length c0_1] 31 (0, 0))) := ⟨qf BK104.out⟩
   have n1_ : Aside0 (((w29.setCell ⟨gb108, 0, none⟩ (.int .i64 ((rd_TTie l0_1 x3_2).f0))).setCell ⟨gb108, 1, none⟩ (.int .i64 ((rd_TTie l0_1 x3_2).f1))).heap[gb108]? = some (.cells #[.int .i64 ((rd_TTie l0_1 x3_2).f0), .int .i64 ((rd_TTie l0_1 x3_2).f1)] 74 (0, 0))) := ⟨by (with_reducible repeat (first | refine blk_drewN ?_ _ | refine blk_drew ?_ | refine blk_alloc ?_ _)); refine blk_put (cs := #[.int .i64 ((rd_TTie l0_1 x3_2).f0), .int .i64 0]) ?_ 1 _ rfl; (with_reducible repeat (first | refine blk_drewN ?_ _ | refine blk_drew ?_ | refine blk_alloc ?_ _)); refine blk_put (cs := #[.int .i64 0, .int .i64 0]) ?_ 0 _ rfl; (with_reducible repeat (first | refine blk_drewN ?_ _ | refine blk_drew ?_ | refine blk_alloc ?_ _)); exact BK108.out⟩
   have n2_ : Aside0 (Below w.heap.size w ((w29.setCell ⟨gb108, 0, none⟩ (.int .i64 ((rd_TTie l0_1 x3_2).f0))).setCell ⟨gb108, 1, none⟩ (.int .i64 ((rd_TTie l0_1 x3_2).f1)))) := ⟨qb HB.out⟩
   (try clear BK104)
   (try clear BK108)
   (try clear HB)
   generalize ((w29.setCell ⟨gb108, 0, none⟩ (.int .i64 ((rd_TTie l0_1 x3_2).f0))).setCell ⟨gb108, 1, none⟩ (.int .i64 ((rd_TTie l0_1 x3_2).f1))) = w32 at n0_ n1_ n2_ ⊢
   have BK104 := n0_
   have BK108 := n1_
   have HB := n2_
   clear n0_ n1_ n2_
   replace BK104 := q0 (blk_drew BK104.out)
   replace BK108 := q0 (blk_drew BK108.out)
   replace HB := q0 (below_drew1 HB.out)
   have p109 : 0 ≤ ((ji16) : Int) := of_decide_eq_true qa
   have q109 : (ji16) < (l0_1.length : Int) := of_decide_eq_true qa
   obtain ⟨ad109, e109, hx109_0, hx109_1⟩ := at_TTie HR0_1.out (ji16) p109 q109
   have hw109_1 := hx109_1
   have hw109_0 := hx109_0
   obtain rfl : ad107 = ad109 := (by injection e109)
   replace hx109_0 := (HB.out.cell (World.block_lt_of_cell? w _ hx109_0)).trans hx109_0
   replace hx109_1 := (HB.out.cell (World.block_lt_of_cell? w _ hx109_1)).trans hx109_1
   replace p109 := eq_true p109
   replace q109 := eq_true q109
   refine start_ (n := 34) (S := fun w' => w'.cell? ⟨gb108, 0, none⟩ = some (.int .i64 ((rd_TTie l0_1 x3_2).f0)) ∧ w'.cell? ⟨gb108, 1, none⟩ = some (.int .i64 ((rd_TTie l0_1 x3_2).f1)) ∧ w'.cell? ⟨gb104, 0, none⟩ = some (.int .i64 a0_0) ∧ w'.cell? ⟨gb104, 1, none⟩ = some (.slice (some ad107) l0_1.length c0_1) ∧ w'.cell? (ad107.add (((ji16)).toNat * 2)) = some (.int .i64 ((rd_TTie l0_1 (ji16)).f0)) ∧ w'.cell? ⟨(ad107.add (((ji16)).toNat * 2)).block, (ad107.add (((ji16)).toNat * 2)).off + 1, none⟩ = some (.int .i64 ((rd_TTie l0_1 (ji16)).f1))) (ds := []) (ba 34 0) (by kernel_rfl) rfl (by kernel_rfl) ⟨(blk_cell BK108.out 0).trans rfl, (blk_cell BK108.out 1).trans rfl, (blk_cell BK104.out 0).trans rfl, (blk_cell BK104.out 1).trans rfl, ((HB.out.cell (World.block_lt_of_cell? w _ hw109_0)).trans hw109_0), ((HB.out.cell (World.block_lt_of_cell? w _ hw109_1)).trans hw109_1)⟩ (fun hHeld => ?_); refine with_tabW spec_NetOk.tab7 spec_NetOk.bits7 (fun HT_ HW_ => ?_)
   generalize w32.drew = w33 at BK104 BK108 HB hx109_0 hx109_1 hHeld ⊢
   refine pu 0 (some 27) (ba 34 1) HT_.out ?_
   refine pu 2 (some 29) (ba 34 5) HT_.out ?_
   refine tu 1 (some 28) (ba 34 7) HT_.out HW_.out hHeld ?_
   refine tu 3 (some 30) (ba 34 15) HT_.out HW_.out hHeld ?_
   refine pu 4 (some 31) (ba 34 31) HT_.out ?_
   refine one_ (i := 5) (N := some 32) (ba 34 63) rfl rfl (one_of HT_.out (by kernel_rfl)) (by decide) (fun K hK => ?_)
   refine goes_ Try.func64 (by kernel_rfl) rfl #[.int .i64 ((rd_TTie l0_1 x3_2).f0), .int .i64 0, .int .i64 (wrap64 (a0_0 - 1))] (by rfl) rfl rfl qm ?_
   with_reducible refine (spec_l6In.calls ((rd_TTie l0_1 x3_2).f0) 0 (wrap64 (a0_0 - 1)) true _ A11.out).mono ?_
   rintro e w' ⟨rfl, ⟨nd, rfl⟩⟩
   refine ⟨_, rfl, ?_⟩
   refine hK.out _ _ ⟨(blk_cell BK108.out 0).trans rfl, (blk_cell BK108.out 1).trans rfl, (blk_cell BK104.out 0).trans rfl, (blk_cell BK104.out 1).trans rfl, ((HB.out.cell (World.block_lt_of_cell? w _ hw109_0)).trans hw109_0), ((HB.out.cell (World.block_lt_of_cell? w _ hw109_1)).trans hw109_1)⟩ (fun hHeld => ?_)
   clear hK K
   refine nu 32 ?_
   refine pu 6 (some 33) (ba 34 127) HT_.out ?_
   refine pu 7 (some 34) (ba 34 255) HT_.out ?_
   refine pu 8 (some 35) (ba 34 511) HT_.out ?_
   refine pu 10 (some 37) (ba 34 1535) HT_.out ?_
   refine pu 13 (some 40) (ba 34 9727) HT_.out ?_
   refine tu 9 (some 36) (ba 34 10239) HT_.out HW_.out hHeld ?_
   refine tu 11 (some 38) (ba 34 12287) HT_.out HW_.out hHeld ?_
   refine pu 12 (some 39) (ba 34 16383) HT_.out ?_
   refine tu 14 (some 41) (ba 34 32767) HT_.out HW_.out hHeld ?_
   refine pu 15 (some 42) (ba 34 65535) HT_.out ?_
   refine one_ (i := 16) (N := some 43) (ba 34 131071) rfl rfl (one_of HT_.out (by kernel_rfl)) (by decide) (fun K hK => ?_)
   refine goes_ Try.func64 (by kernel_rfl) rfl #[.int .i64 ((rd_TTie l0_1 x3_2).f1), .int .i64 (wrap64 (((rd_TTie l0_1 x3_2).f0) + 1)), .int .i64 (wrap64 (a0_0 - 1))] (by rfl) rfl rfl qm ?_
   with_reducible refine (spec_l6In.calls ((rd_TTie l0_1 x3_2).f1) (wrap64 (((rd_TTie l0_1 x3_2).f0) + 1)) (wrap64 (a0_0 - 1)) true _ A13.out).mono ?_
   rintro e w' ⟨rfl, ⟨nd, rfl⟩⟩
   refine ⟨_, rfl, ?_⟩
   refine hK.out _ _ ⟨(blk_cell BK108.out 0).trans rfl, (blk_cell BK108.out 1).trans rfl, (blk_cell BK104.out 0).trans rfl, (blk_cell BK104.out 1).trans rfl, ((HB.out.cell (World.block_lt_of_cell? w _ hw109_0)).trans hw109_0), ((HB.out.cell (World.block_lt_of_cell? w _ hw109_1)).trans hw109_1)⟩ (fun hHeld => ?_)
   clear hK K
   refine nu 43 ?_
   refine pu 17 (some 44) (ba 34 262143) HT_.out ?_
   refine pu 18 (some 45) (ba 34 524287) HT_.out ?_
   refine pu 19 (some 46) (ba 34 1048575) HT_.out ?_
   refine pu 20 (some 47) (ba 34 2097151) HT_.out ?_
   refine pu 21 (some 48) (ba 34 4194303) HT_.out ?_
   refine pu 22 (some 49) (ba 34 8388607) HT_.out ?_
   refine pu 23 (some 50) (ba 34 16777215) HT_.out ?_
   refine pu 25 (some 52) (ba 34 50331647) HT_.out ?_
   refine pu 26 (some 53) (ba 34 117440511) HT_.out ?_
   refine tu 24 (some 51) (ba 34 134217727) HT_.out HW_.out hHeld ?_
   refine pu 27 (some 54) (ba 34 268435455) HT_.out ?_
   refine tu 28 (some 55) (ba 34 536870911) HT_.out HW_.out hHeld ?_
   refine tu 29 (some 56) (ba 34 1073741823) HT_.out HW_.out hHeld ?_
   refine one_ (i := 30) (N := some 57) (ba 34 2147483647) rfl rfl (one_of HT_.out (by kernel_rfl)) (by decide) (fun K hK => ?_)
   refine goes_ Try.func78 (by kernel_rfl) rfl #[.agg #[.int .i64 ((rd_TTie l0_1 (ji16)).f0), .int .i64 ((rd_TTie l0_1 (ji16)).f1)], .agg #[.int .i64 ((rd_TTie l0_1 x3_2).f0), .int .i64 ((rd_TTie l0_1 x3_2).f1)]] (by rfl) rfl rfl (by (try simp only [List.map_toArray, List.map_cons, List.map_nil]); first | done | (simp only [hji16]; rfl) | rfl | (simp only [List.length_drop, List.length_take]; rfl)) ?_
   with_reducible refine (spec_l1Less.calls ((rd_TTie l0_1 (ji16)).f0) ((rd_TTie l0_1 (ji16)).f1) ((rd_TTie l0_1 x3_2).f0) ((rd_TTie l0_1 x3_2).f1) false _ A19.out).mono ?_
   rintro e w34 ⟨rfl, hb⟩
   refine ⟨_, rfl, ?_⟩
   replace BK104 := q0 (kb BK104.out hb)
   replace BK108 := q0 (kb BK108.out hb)
   replace HB := q0 (below_step (qb HB.out) hb)
   (try clear hb)
   (try clear hb2)
   (try clear hk)
   (try clear hi)
   refine hK.out _ _ ⟨(blk_cell BK108.out 0).trans rfl, (blk_cell BK108.out 1).trans rfl, (blk_cell BK104.out 0).trans rfl, (blk_cell BK104.out 1).trans rfl, ((HB.out.cell (World.block_lt_of_cell? w _ hw109_0)).trans hw109_0), ((HB.out.cell (World.block_lt_of_cell? w _ hw109_1)).trans hw109_1)⟩ (fun hHeld => ?_)
   clear hK K
   refine nu 57 ?_
   refine pu 31 (some 58) (ba 34 4294967295) HT_.out ?_
   refine pu 32 (some 59) (ba 34 8589934591) HT_.out ?_
   refine pu 33 (some 60) (ba 34 17179869183) HT_.out ?_
   refine done_ (done_of HT_.out (by kernel_rfl)) ?_
   try go_wp2
   go_ret
   exact ⟨by first | rfl | (simp [errW_none, errW_some] <;> rfl) | (simp only [← hji16]; first | rfl | (simp [errW_none, errW_some] <;> rfl)) | (simp [*, errW_none, errW_some] <;> rfl), qb HB.out⟩
 subst c20
 rw [if_pos rfl] at H
 have H' := Aside0.mk H
 clear H
 have hcz21_0 : wr.cell? ⟨gb104, 0, none⟩ = some (.int .i64 a0_0) := (blk_cell BK104.out 0).trans rfl
 have hcz21_1 : wr.cell? ⟨gb104, 1, none⟩ = some (.slice A0_1 l0_1.length c0_1) := (blk_cell BK104.out 1).trans rfl
 have hfz21_0 := blk_frozen BK104.out 0
 have hfz21_1 := blk_frozen BK104.out 1
 have p107 : 0 ≤ (x3_2 : Int) := of_decide_eq_true qa
 have q107 : x3_2 < (l0_1.length : Int) := of_decide_eq_true qa
 obtain ⟨ad107, e107, hx107_0, hx107_1⟩ := at_TTie HR0_1.out x3_2 p107 q107
 cases e107
 replace hx107_0 := (HB.out.cell (World.block_lt_of_cell? w _ hx107_0)).trans hx107_0
 replace hx107_1 := (HB.out.cell (World.block_lt_of_cell? w _ hx107_1)).trans hx107_1
 replace p107 := eq_true p107
 replace q107 := eq_true q107
 try go_wp2_with (first | ((with_reducible refine gate_dst (N := 4) rfl ?_); (try (refine gate_guard (by rfl) ?_; dsimp only)); refine be 4 #[.int .i64 0, .int .i64 0] 74 ?_; intro gb108 hg w22 hbox hb; have BK108 := q0 (hbox); have GW108 := q0 ((bs HB.out hg : w.heap.size ≤ gb108)); have GE108 := q0 ((bs HB.out hg : w.heap.size ≤ gb108)); replace HB := q0 (below_step (qb HB.out) hb); have NB104_108 := q0 ((bl BK104.out hg : gb104 ≠ gb108)); have NB108_104 := q0 ((bg BK104.out hg : gb108 ≠ gb104)); replace BK104 := q0 (kb BK104.out hb); clear hb hbox hg; have hnb23 := NB108_104.out; have hnc23 := NB104_108.out; have hcz24_0 : w22.cell? ⟨gb108, 0, none⟩ = some (.int .i64 0) := (blk_cell BK108.out 0).trans rfl; have hcz24_1 : w22.cell? ⟨gb108, 1, none⟩ = some (.int .i64 0) := (blk_cell BK108.out 1).trans rfl; have hfz24_0 := blk_frozen BK108.out 0; have hfz24_1 := blk_frozen BK108.out 1))
 have n0_ : Aside0 (((w22.setCell ⟨gb108, 0, none⟩ (.int .i64 ((rd_TTie l0_1 x3_2).f0))).setCell ⟨gb108, 1, none⟩ (.int .i64 ((rd_TTie l0_1 x3_2).f1))).heap[gb104]? = some (.cells #[.int .i64 a0_0, .slice (some ad107) l0_1.length c0_1] 31 (0, 0))) := ⟨qf BK104.out⟩
 have n1_ : Aside0 (((w22.setCell ⟨gb108, 0, none⟩ (.int .i64 ((rd_TTie l0_1 x3_2).f0))).setCell ⟨gb108, 1, none⟩ (.int .i64 ((rd_TTie l0_1 x3_2).f1))).heap[gb108]? = some (.cells #[.int .i64 ((rd_TTie l0_1 x3_2).f0), .int .i64 ((rd_TTie l0_1 x3_2).f1)] 74 (0, 0))) := ⟨by (with_reducible repeat (first | refine blk_drewN ?_ _ | refine blk_drew ?_ | refine blk_alloc ?_ _)); refine blk_put (cs := #[.int .i64 ((rd_TTie l0_1 x3_2).f0), .int .i64 0]) ?_ 1 _ rfl; (with_reducible repeat (first | refine blk_drewN ?_ _ | refine blk_drew ?_ | refine blk_alloc ?_ _)); refine blk_put (cs := #[.int .i64 0, .int .i64 0]) ?_ 0 _ rfl; (with_reducible repeat (first | refine blk_drewN ?_ _ | refine blk_drew ?_ | refine blk_alloc ?_ _)); exact BK108.out⟩
 have n2_ : Aside0 (Below w.heap.size w ((w22.setCell ⟨gb108, 0, none⟩ (.int .i64 ((rd_TTie l0_1 x3_2).f0))).setCell ⟨gb108, 1, none⟩ (.int .i64 ((rd_TTie l0_1 x3_2).f1)))) := ⟨qb HB.out⟩
 (try clear BK104)
 (try clear BK108)
 (try clear HB)
 generalize ((w22.setCell ⟨gb108, 0, none⟩ (.int .i64 ((rd_TTie l0_1 x3_2).f0))).setCell ⟨gb108, 1, none⟩ (.int .i64 ((rd_TTie l0_1 x3_2).f1))) = w25 at n0_ n1_ n2_ ⊢
 have BK104 := n0_
 have BK108 := n1_
 have HB := n2_
 clear n0_ n1_ n2_
 replace BK104 := q0 (blk_drew BK104.out)
 replace BK108 := q0 (blk_drew BK108.out)
 replace HB := q0 (below_drew1 HB.out)
 have p109 : 0 ≤ ((ji16) : Int) := of_decide_eq_true qa
 have q109 : (ji16) < (l0_1.length : Int) := of_decide_eq_true qa
 obtain ⟨ad109, e109, hx109_0, hx109_1⟩ := at_TTie HR0_1.out (ji16) p109 q109
 have hw109_1 := hx109_1
 have hw109_0 := hx109_0
 obtain rfl : ad107 = ad109 := (by injection e109)
 replace hx109_0 := (HB.out.cell (World.block_lt_of_cell? w _ hx109_0)).trans hx109_0
 replace hx109_1 := (HB.out.cell (World.block_lt_of_cell? w _ hx109_1)).trans hx109_1
 replace p109 := eq_true p109
 replace q109 := eq_true q109
 refine start_ (n := 34) (S := fun w' => w'.cell? ⟨gb108, 0, none⟩ = some (.int .i64 ((rd_TTie l0_1 x3_2).f0)) ∧ w'.cell? ⟨gb108, 1, none⟩ = some (.int .i64 ((rd_TTie l0_1 x3_2).f1)) ∧ w'.cell? ⟨gb104, 0, none⟩ = some (.int .i64 a0_0) ∧ w'.cell? ⟨gb104, 1, none⟩ = some (.slice (some ad107) l0_1.length c0_1) ∧ w'.cell? (ad107.add (((ji16)).toNat * 2)) = some (.int .i64 ((rd_TTie l0_1 (ji16)).f0)) ∧ w'.cell? ⟨(ad107.add (((ji16)).toNat * 2)).block, (ad107.add (((ji16)).toNat * 2)).off + 1, none⟩ = some (.int .i64 ((rd_TTie l0_1 (ji16)).f1))) (ds := []) (ba 34 0) (by kernel_rfl) rfl (by kernel_rfl) ⟨(blk_cell BK108.out 0).trans rfl, (blk_cell BK108.out 1).trans rfl, (blk_cell BK104.out 0).trans rfl, (blk_cell BK104.out 1).trans rfl, ((HB.out.cell (World.block_lt_of_cell? w _ hw109_0)).trans hw109_0), ((HB.out.cell (World.block_lt_of_cell? w _ hw109_1)).trans hw109_1)⟩ (fun hHeld => ?_); refine with_tabW spec_NetOk.tab7 spec_NetOk.bits7 (fun HT_ HW_ => ?_)
 generalize w25.drew = w26 at BK104 BK108 HB hx109_0 hx109_1 hHeld ⊢
 refine pu 0 (some 27) (ba 34 1) HT_.out ?_
 refine pu 2 (some 29) (ba 34 5) HT_.out ?_
 refine tu 1 (some 28) (ba 34 7) HT_.out HW_.out hHeld ?_
 refine tu 3 (some 30) (ba 34 15) HT_.out HW_.out hHeld ?_
 refine pu 4 (some 31) (ba 34 31) HT_.out ?_
 refine one_ (i := 5) (N := some 32) (ba 34 63) rfl rfl (one_of HT_.out (by kernel_rfl)) (by decide) (fun K hK => ?_)
 refine goes_ Try.func64 (by kernel_rfl) rfl #[.int .i64 ((rd_TTie l0_1 x3_2).f0), .int .i64 0, .int .i64 (wrap64 (a0_0 - 1))] (by rfl) rfl rfl qm ?_
 with_reducible refine (spec_l6In.calls ((rd_TTie l0_1 x3_2).f0) 0 (wrap64 (a0_0 - 1)) true _ A11.out).mono ?_
 rintro e w' ⟨rfl, ⟨nd, rfl⟩⟩
 refine ⟨_, rfl, ?_⟩
 refine hK.out _ _ ⟨(blk_cell BK108.out 0).trans rfl, (blk_cell BK108.out 1).trans rfl, (blk_cell BK104.out 0).trans rfl, (blk_cell BK104.out 1).trans rfl, ((HB.out.cell (World.block_lt_of_cell? w _ hw109_0)).trans hw109_0), ((HB.out.cell (World.block_lt_of_cell? w _ hw109_1)).trans hw109_1)⟩ (fun hHeld => ?_)
 clear hK K
 refine nu 32 ?_
 refine pu 6 (some 33) (ba 34 127) HT_.out ?_
 refine pu 7 (some 34) (ba 34 255) HT_.out ?_
 refine pu 8 (some 35) (ba 34 511) HT_.out ?_
 refine pu 10 (some 37) (ba 34 1535) HT_.out ?_
 refine pu 13 (some 40) (ba 34 9727) HT_.out ?_
 refine tu 9 (some 36) (ba 34 10239) HT_.out HW_.out hHeld ?_
 refine tu 11 (some 38) (ba 34 12287) HT_.out HW_.out hHeld ?_
 refine pu 12 (some 39) (ba 34 16383) HT_.out ?_
 refine tu 14 (some 41) (ba 34 32767) HT_.out HW_.out hHeld ?_
 refine pu 15 (some 42) (ba 34 65535) HT_.out ?_
 refine one_ (i := 16) (N := some 43) (ba 34 131071) rfl rfl (one_of HT_.out (by kernel_rfl)) (by decide) (fun K hK => ?_)
 refine goes_ Try.func64 (by kernel_rfl) rfl #[.int .i64 ((rd_TTie l0_1 x3_2).f1), .int .i64 (wrap64 (((rd_TTie l0_1 x3_2).f0) + 1)), .int .i64 (wrap64 (a0_0 - 1))] (by rfl) rfl rfl qm ?_
 with_reducible refine (spec_l6In.calls ((rd_TTie l0_1 x3_2).f1) (wrap64 (((rd_TTie l0_1 x3_2).f0) + 1)) (wrap64 (a0_0 - 1)) true _ A13.out).mono ?_
 rintro e w' ⟨rfl, ⟨nd, rfl⟩⟩
 refine ⟨_, rfl, ?_⟩
 refine hK.out _ _ ⟨(blk_cell BK108.out 0).trans rfl, (blk_cell BK108.out 1).trans rfl, (blk_cell BK104.out 0).trans rfl, (blk_cell BK104.out 1).trans rfl, ((HB.out.cell (World.block_lt_of_cell? w _ hw109_0)).trans hw109_0), ((HB.out.cell (World.block_lt_of_cell? w _ hw109_1)).trans hw109_1)⟩ (fun hHeld => ?_)
 clear hK K
 refine nu 43 ?_
 refine pu 17 (some 44) (ba 34 262143) HT_.out ?_
 refine pu 18 (some 45) (ba 34 524287) HT_.out ?_
 refine pu 19 (some 46) (ba 34 1048575) HT_.out ?_
 refine pu 20 (some 47) (ba 34 2097151) HT_.out ?_
 refine pu 21 (some 48) (ba 34 4194303) HT_.out ?_
 refine pu 22 (some 49) (ba 34 8388607) HT_.out ?_
 refine pu 23 (some 50) (ba 34 16777215) HT_.out ?_
 refine pu 25 (some 52) (ba 34 50331647) HT_.out ?_
 refine pu 26 (some 53) (ba 34 117440511) HT_.out ?_
 refine tu 24 (some 51) (ba 34 134217727) HT_.out HW_.out hHeld ?_
 refine pu 27 (some 54) (ba 34 268435455) HT_.out ?_
 refine tu 28 (some 55) (ba 34 536870911) HT_.out HW_.out hHeld ?_
 refine tu 29 (some 56) (ba 34 1073741823) HT_.out HW_.out hHeld ?_
 refine one_ (i := 30) (N := some 57) (ba 34 2147483647) rfl rfl (one_of HT_.out (by kernel_rfl)) (by decide) (fun K hK => ?_)
 refine goes_ Try.func78 (by kernel_rfl) rfl #[.agg #[.int .i64 ((rd_TTie l0_1 (ji16)).f0), .int .i64 ((rd_TTie l0_1 (ji16)).f1)], .agg #[.int .i64 ((rd_TTie l0_1 x3_2).f0), .int .i64 ((rd_TTie l0_1 x3_2).f1)]] (by rfl) rfl rfl (by (try simp only [List.map_toArray, List.map_cons, List.map_nil]); first | done | (simp only [hji16]; rfl) | rfl | (simp only [List.length_drop, List.length_take]; rfl)) ?_
 with_reducible refine (spec_l1Less.calls ((rd_TTie l0_1 (ji16)).f0) ((rd_TTie l0_1 (ji16)).f1) ((rd_TTie l0_1 x3_2).f0) ((rd_TTie l0_1 x3_2).f1) true _ A19.out).mono ?_
 rintro e w27 ⟨rfl, hb⟩
 refine ⟨_, rfl, ?_⟩
 replace BK104 := q0 (kb BK104.out hb)
 replace BK108 := q0 (kb BK108.out hb)
 replace HB := q0 (below_step (qb HB.out) hb)
 (try clear hb)
 (try clear hb2)
 (try clear hk)
 (try clear hi)
 refine hK.out _ _ ⟨(blk_cell BK108.out 0).trans rfl, (blk_cell BK108.out 1).trans rfl, (blk_cell BK104.out 0).trans rfl, (blk_cell BK104.out 1).trans rfl, ((HB.out.cell (World.block_lt_of_cell? w _ hw109_0)).trans hw109_0), ((HB.out.cell (World.block_lt_of_cell? w _ hw109_1)).trans hw109_1)⟩ (fun hHeld => ?_)
 clear hK K
 refine nu 57 ?_
 refine pu 31 (some 58) (ba 34 4294967295) HT_.out ?_
 refine pu 32 (some 59) (ba 34 8589934591) HT_.out ?_
 refine pu 33 (some 60) (ba 34 17179869183) HT_.out ?_
 refine done_ (done_of HT_.out (by kernel_rfl)) ?_
 try go_wp2
 go_roundg k2
 case measure => have := HJ1.out; have := HK2.out; omega
 case rel => exact ⟨(wrap64 (x3_2 + 1)), qs, H', ⟨by have := HJ1.out; have := HK2.out; omega⟩, ⟨qk BK104.out⟩, ⟨qb HB.out⟩⟩

set_option maxHeartbeats 8000000 in
set_option maxRecDepth 100000 in
theorem spec_l1Knot.calls (k : Nat) (a0_0 : Int) (A0_1 : Option Addr) (c0_1 : Nat) (l0_1 : List (STie)) (a1 : Int) (r : Bool) (w : World) (hr0_1 : Kd.C kTie w A0_1 l0_1.length l0_1) (hc0_1 : l0_1.length ≤ c0_1) (h : spec_l1Knot.f k a0_0 l0_1 a1 = some r) :
    Calls Try.prog 40 #[.agg #[.int .i64 a0_0, .slice A0_1 l0_1.length c0_1], .int .i64 a1] w fun e w' => e = .returned (.bool r) ∧ Below w.heap.size w w' := by
 have hu31 := Try.underlying31
 have HR0_1 := Aside0.mk hr0_1
 have HC0_1 := Aside0.mk hc0_1
 clear hr0_1 hc0_1
 have HB := q0 (Below.refl w.heap.size w)
 have H : ((spec_NetOk.f k a0_0 l0_1).bind fun t100 => (if t100 = true then ((spec_l6In.f a1 0 (wrap64 (a0_0 - 1))).bind fun t101 => (some t101)) else (some false))) = some r := h
 clear h
 replace H := Option.bind_eq_some_iff.mp H
 obtain ⟨t100, A30, H⟩ := H
 have A3 := Aside0.mk A30
 clear A30
 by_cases c4 : t100 = true
 rotate_left
 · replace c4 := Bool.eq_false_iff.mpr c4
   subst c4
   rw [if_neg nf] at H
   obtain rfl := Option.some.inj H
   go_enter Try.func40, Try.ntmps40
   go_wp2_with (first | ((with_reducible refine gate_dst (N := 2) rfl ?_); refine be 2 #[.int .i64 a0_0, .slice A0_1 l0_1.length c0_1] 31 ?_; intro gb102 hg w10 hbox hb; have BK102 := q0 (hbox); have GW102 := q0 ((bs HB.out hg : w.heap.size ≤ gb102)); have GE102 := q0 ((bs HB.out hg : w.heap.size ≤ gb102)); replace HB := q0 (below_step (qb HB.out) hb); clear hb hbox hg; have hcz11_0 : w10.cell? ⟨gb102, 0, none⟩ = some (.int .i64 a0_0) := (blk_cell BK102.out 0).trans rfl; have hcz11_1 : w10.cell? ⟨gb102, 1, none⟩ = some (.slice A0_1 l0_1.length c0_1) := (blk_cell BK102.out 1).trans rfl; have hfz11_0 := blk_frozen BK102.out 0; have hfz11_1 := blk_frozen BK102.out 1) | ((with_reducible refine gate_callee (f := 57) rfl ?_); refine gl 6 Try.func57 #[.agg #[.int .i64 a0_0, .slice A0_1 l0_1.length c0_1]] ?_; (with_reducible refine (spec_NetOk.calls k a0_0 _ _ l0_1 false _ ?side1 ?side2 A3.out).mono ?_); (case side1 => exact qc (Kd.C_below HR0_1.out HB.out)); (case side2 => exact HC0_1.out); rintro e w12 ⟨rfl, hb⟩; refine ⟨_, rfl, ?_⟩; replace BK102 := q0 (kb BK102.out hb); replace HB := q0 (below_step (qb HB.out) hb); (try clear hb); (try clear hb2); (try clear hk); (try clear hi)))
   go_ret
   exact ⟨qe, qb HB.out⟩
 subst c4
 rw [if_pos rfl] at H
 replace H := Option.bind_eq_some_iff.mp H
 obtain ⟨t101, A50, H⟩ := H
 have A5 := Aside0.mk A50
 clear A50
 obtain rfl := Option.some.inj H
 go_enter Try.func40, Try.ntmps40
 go_wp2_with (first | ((with_reducible refine gate_dst (N := 2) rfl ?_); refine be 2 #[.int .i64 a0_0, .slice A0_1 l0_1.length c0_1] 31 ?_; intro gb102 hg w6 hbox hb; have BK102 := q0 (hbox); have GW102 := q0 ((bs HB.out hg : w.heap.size ≤ gb102)); have GE102 := q0 ((bs HB.out hg : w.heap.size ≤ gb102)); replace HB := q0 (below_step (qb HB.out) hb); clear hb hbox hg; have hcz7_0 : w6.cell? ⟨gb102, 0, none⟩ = some (.int .i64 a0_0) := (blk_cell BK102.out 0).trans rfl; have hcz7_1 : w6.cell? ⟨gb102, 1, none⟩ = some (.slice A0_1 l0_1.length c0_1) := (blk_cell BK102.out 1).trans rfl; have hfz7_0 := blk_frozen BK102.out 0; have hfz7_1 := blk_frozen BK102.out 1) | ((with_reducible refine gate_callee (f := 57) rfl ?_); refine gl 6 Try.func57 #[.agg #[.int .i64 a0_0, .slice A0_1 l0_1.length c0_1]] ?_; (with_reducible refine (spec_NetOk.calls k a0_0 _ _ l0_1 true _ ?side1 ?side2 A3.out).mono ?_); (case side1 => exact qc (Kd.C_below HR0_1.out HB.out)); (case side2 => exact HC0_1.out); rintro e w8 ⟨rfl, hb⟩; refine ⟨_, rfl, ?_⟩; replace BK102 := q0 (kb BK102.out hb); replace HB := q0 (below_step (qb HB.out) hb); (try clear hb); (try clear hb2); (try clear hk); (try clear hi); have hcz9_0 : w8.cell? ⟨gb102, 0, none⟩ = some (.int .i64 a0_0) := (blk_cell BK102.out 0).trans rfl; have hcz9_1 : w8.cell? ⟨gb102, 1, none⟩ = some (.slice A0_1 l0_1.length c0_1) := (blk_cell BK102.out 1).trans rfl; have hfz9_0 := blk_frozen BK102.out 0; have hfz9_1 := blk_frozen BK102.out 1) | (go_at_call 64; (with_reducible refine (spec_l6In.calls a1 0 (wrap64 (a0_0 - 1)) t101 _ A5.out).mono ?_); rintro e w' ⟨rfl, ⟨nd, rfl⟩⟩))
 go_ret
 exact ⟨qe, qb HB.out⟩

set_option maxHeartbeats 8000000 in
set_option maxRecDepth 100000 in
theorem spec_l1Tie.calls (a0 : Int) (a1 : Int) (r1 : Int) (r2 : Int) (w : World) (h : spec_l1Tie.f a0 a1 = some (r1, r2)) :
    Calls Try.prog 83 #[.int .i64 a0, .int .i64 a1] w fun e w' => e = .returned (.agg #[.int .i64 r1, .int .i64 r2]) ∧ Below w.heap.size w w' := by
 have hu74 := Try.underlying74
 have HB := q0 (Below.refl w.heap.size w)
 have H : (if a0 < a1 then (some (a0, a1)) else (some (a1, a0))) = some (r1, r2) := h
 clear h
 by_cases c3 : a0 < a1
 · rw [if_pos c3] at H
   have c3b0 : decide (a0 < a1) = true := decide_eq_true c3
   clear c3
   simp only [Option.some.injEq, Prod.mk.injEq] at H
   obtain ⟨rfl, rfl⟩ := H
   go_enter Try.func83, Try.ntmps83
   go_wp2_with (first | ((with_reducible refine gate_dst (N := 4) rfl ?_); refine be 4 #[.int .i64 0, .int .i64 0] 74 ?_; intro gb100 hg w4 hbox hb; have BK100 := q0 (hbox); have GW100 := q0 ((bs HB.out hg : w.heap.size ≤ gb100)); have GE100 := q0 ((bs HB.out hg : w.heap.size ≤ gb100)); replace HB := q0 (below_step (qb HB.out) hb); clear hb hbox hg; have hcz5_0 : w4.cell? ⟨gb100, 0, none⟩ = some (.int .i64 0) := (blk_cell BK100.out 0).trans rfl; have hcz5_1 : w4.cell? ⟨gb100, 1, none⟩ = some (.int .i64 0) := (blk_cell BK100.out 1).trans rfl; have hfz5_0 := blk_frozen BK100.out 0; have hfz5_1 := blk_frozen BK100.out 1))
   refine bodyPost_ret (results_cell_row rfl _ _ gb100 74 #[.int .i64 a0, .int .i64 a1] (0, 0) _ rfl (by (with_reducible repeat (first | refine blk_drewN ?_ _ | refine blk_drew ?_ | refine blk_alloc ?_ _)); refine blk_put (cs := #[.int .i64 a0, .int .i64 0]) ?_ 1 _ rfl; (with_reducible repeat (first | refine blk_drewN ?_ _ | refine blk_drew ?_ | refine blk_alloc ?_ _)); refine blk_put (cs := #[.int .i64 0, .int .i64 0]) ?_ 0 _ rfl; (with_reducible repeat (first | refine blk_drewN ?_ _ | refine blk_drew ?_ | refine blk_alloc ?_ _)); exact BK100.out) Try.underlying74 rfl (by kernel_rfl)) rfl ?_
   exact ⟨qe, qb HB.out⟩
 rw [if_neg c3] at H
 have c3b0 : decide (a0 < a1) = false := decide_eq_false c3
 clear c3
 simp only [Option.some.injEq, Prod.mk.injEq] at H
 obtain ⟨rfl, rfl⟩ := H
 go_enter Try.func83, Try.ntmps83
 go_wp2_with (first | ((with_reducible refine gate_dst (N := 4) rfl ?_); refine be 4 #[.int .i64 0, .int .i64 0] 74 ?_; intro gb100 hg w6 hbox hb; have BK100 := q0 (hbox); have GW100 := q0 ((bs HB.out hg : w.heap.size ≤ gb100)); have GE100 := q0 ((bs HB.out hg : w.heap.size ≤ gb100)); replace HB := q0 (below_step (qb HB.out) hb); clear hb hbox hg; have hcz7_0 : w6.cell? ⟨gb100, 0, none⟩ = some (.int .i64 0) := (blk_cell BK100.out 0).trans rfl; have hcz7_1 : w6.cell? ⟨gb100, 1, none⟩ = some (.int .i64 0) := (blk_cell BK100.out 1).trans rfl; have hfz7_0 := blk_frozen BK100.out 0; have hfz7_1 := blk_frozen BK100.out 1))
 refine bodyPost_ret (results_cell_row rfl _ _ gb100 74 #[.int .i64 a1, .int .i64 a0] (0, 0) _ rfl (by (with_reducible repeat (first | refine blk_drewN ?_ _ | refine blk_drew ?_ | refine blk_alloc ?_ _)); refine blk_put (cs := #[.int .i64 a1, .int .i64 0]) ?_ 1 _ rfl; (with_reducible repeat (first | refine blk_drewN ?_ _ | refine blk_drew ?_ | refine blk_alloc ?_ _)); refine blk_put (cs := #[.int .i64 0, .int .i64 0]) ?_ 0 _ rfl; (with_reducible repeat (first | refine blk_drewN ?_ _ | refine blk_drew ?_ | refine blk_alloc ?_ _)); exact BK100.out) Try.underlying74 rfl (by kernel_rfl)) rfl ?_
 exact ⟨qe, qb HB.out⟩

attribute [local go_sem high] eqATie
def spec_l1Has.T4 : Bool × List (List Nat × List Nat) := (true, [([], []), ([0], [0]), ([], []), ([1, 2], [1, 2]), ([3], [3]), ([], []), ([], []), ([5, 6], [5, 6]), ([4, 7], [4, 7])])
def spec_l1Has.B4 : List Nat := [0, 1, 0, 7, 15, 0, 0, 96, 255]
theorem spec_l1Has.tab4 : rtab .any (opsOf Try.f65 4) = spec_l1Has.T4 := by kernel_rfl
theorem spec_l1Has.bits4 : waitsOk spec_l1Has.T4.2 spec_l1Has.B4 = true := by kernel_rfl
set_option maxHeartbeats 8000000 in
set_option maxRecDepth 100000 in
theorem spec_l1Has.calls (k : Nat) (a0_0 : Int) (A0_1 : Option Addr) (c0_1 : Nat) (l0_1 : List (STie)) (a1 : Int) (a2 : Int) (r : Bool) (w : World) (hr0_1 : Kd.C kTie w A0_1 l0_1.length l0_1) (hc0_1 : l0_1.length ≤ c0_1) (h : spec_l1Has.f k a0_0 l0_1 a1 a2 = some r) :
    Calls Try.prog 65 #[.agg #[.int .i64 a0_0, .slice A0_1 l0_1.length c0_1], .int .i64 a1, .int .i64 a2] w fun e w' => e = .returned (.bool r) ∧ Below w.heap.size w w' := by
 have hu31 := Try.underlying31
 have hu74 := Try.underlying74
 have HR0_1 := Aside0.mk hr0_1
 have HC0_1 := Aside0.mk hc0_1
 clear hr0_1 hc0_1
 have HB := q0 (Below.refl w.heap.size w)
 have H : (spec_l1Has.l0 k a1 a2 0 a0_0 l0_1) = some r := h
 clear h
 have H' := Aside0.mk H
 clear H
 go_enter Try.func65, Try.ntmps65
 go_wp2_with (first | ((with_reducible refine gate_dst (N := 3) rfl ?_); refine be 3 #[.int .i64 a0_0, .slice A0_1 l0_1.length c0_1] 31 ?_; intro gb102 hg w4 hbox hb; have BK102 := q0 (hbox); have GW102 := q0 ((bs HB.out hg : w.heap.size ≤ gb102)); have GE102 := q0 ((bs HB.out hg : w.heap.size ≤ gb102)); replace HB := q0 (below_step (qb HB.out) hb); clear hb hbox hg))
 go_loopg [7] k (fun kq v7 w' => ∃ (x7_1 : Int), v7 = .int .i64 x7_1 ∧ Aside0 (spec_l1Has.l0 kq a1 a2 x7_1 a0_0 l0_1 = some r) ∧ Aside0 (kq ≤ k) ∧ Aside0 (w'.heap[gb102]? = some (.cells #[.int .i64 a0_0, (.slice A0_1 l0_1.length c0_1)] 31 (0, 0))) ∧ Aside0 (Below w.heap.size w w'))
 case atStart => exact ⟨(0), qs, H', ⟨Nat.le_refl _⟩, ⟨qk BK102.out⟩, ⟨qb HB.out⟩⟩
 clear H'
 try clear p2
 obtain ⟨x7_1, rfl, HA, HK1, BK102, HB⟩ := hrel
 rcases gk with _ | k1
 · exact absurd HA.out (by simp [spec_l1Has.l0])
 have H := HA.out
 clear HA
 simp only [spec_l1Has.l0] at H
 by_cases c5 : x7_1 < (l0_1.length : Int)
 rotate_left
 · rw [if_neg c5] at H
   have c5b0 : decide (x7_1 < (l0_1.length : Int)) = false := decide_eq_false c5
   clear c5
   obtain rfl := Option.some.inj H
   have hcz15_0 : wr.cell? ⟨gb102, 0, none⟩ = some (.int .i64 a0_0) := (blk_cell BK102.out 0).trans rfl
   have hcz15_1 : wr.cell? ⟨gb102, 1, none⟩ = some (.slice A0_1 l0_1.length c0_1) := (blk_cell BK102.out 1).trans rfl
   have hfz15_0 := blk_frozen BK102.out 0
   have hfz15_1 := blk_frozen BK102.out 1
   go_wp2
   go_ret
   exact ⟨qe, qb HB.out⟩
 rw [if_pos c5] at H
 have c5b0 : decide (x7_1 < (l0_1.length : Int)) = true := decide_eq_true c5
 clear c5
 by_cases c6 : 0 ≤ x7_1
 rotate_left
 · rw [if_neg c6] at H
   exact absurd H (by simp)
 rw [if_pos c6] at H
 have c6b0 : decide (0 ≤ x7_1) = true := decide_eq_true c6
 clear c6
 replace H := Option.bind_eq_some_iff.mp H
 obtain ⟨⟨t101, t103⟩, A70, H⟩ := H
 have A7 := Aside0.mk A70
 clear A70
 by_cases c8 : (((rd_TTie l0_1 x7_1).f0) == t101 && (((rd_TTie l0_1 x7_1).f1) == t103)) = true
 · rw [if_pos c8] at H
   have c8b0 : (((rd_TTie l0_1 x7_1).f0) == t101 && (((rd_TTie l0_1 x7_1).f1) == t103)) = true := c8
   (try (have c8b1 : decide (((rd_TTie l0_1 x7_1).f0) = t101 && (((rd_TTie l0_1 x7_1).f1) == t103)) = true := by simpa using c8))
   (try (have c8b2 : (((rd_TTie l0_1 x7_1).f0) == t101 && (((rd_TTie l0_1 x7_1).f1) == t103)) = true := by simpa using c8))
   clear c8
   obtain rfl := Option.some.inj H
   have hcz9_0 : wr.cell? ⟨gb102, 0, none⟩ = some (.int .i64 a0_0) := (blk_cell BK102.out 0).trans rfl
   have hcz9_1 : wr.cell? ⟨gb102, 1, none⟩ = some (.slice A0_1 l0_1.length c0_1) := (blk_cell BK102.out 1).trans rfl
   have hfz9_0 := blk_frozen BK102.out 0
   have hfz9_1 := blk_frozen BK102.out 1
   try go_wp2
   replace BK102 := q0 (blk_drew BK102.out)
   replace HB := q0 (below_drew1 HB.out)
   have p100 : 0 ≤ (x7_1 : Int) := of_decide_eq_true qa
   have q100 : x7_1 < (l0_1.length : Int) := of_decide_eq_true qa
   obtain ⟨ad100, e100, hx100_0, hx100_1⟩ := at_TTie HR0_1.out x7_1 p100 q100
   have hw100_1 := hx100_1
   have hw100_0 := hx100_0
   cases e100
   replace hx100_0 := (HB.out.cell (World.block_lt_of_cell? w _ hx100_0)).trans hx100_0
   replace hx100_1 := (HB.out.cell (World.block_lt_of_cell? w _ hx100_1)).trans hx100_1
   replace p100 := eq_true p100
   replace q100 := eq_true q100
   refine start_ (n := 9) (S := fun w' => w'.cell? ⟨gb102, 0, none⟩ = some (.int .i64 a0_0) ∧ w'.cell? ⟨gb102, 1, none⟩ = some (.slice (some ad100) l0_1.length c0_1) ∧ w'.cell? (ad100.add ((x7_1).toNat * 2)) = some (.int .i64 ((rd_TTie l0_1 x7_1).f0)) ∧ w'.cell? ⟨(ad100.add ((x7_1).toNat * 2)).block, (ad100.add ((x7_1).toNat * 2)).off + 1, none⟩ = some (.int .i64 ((rd_TTie l0_1 x7_1).f1))) (ds := []) (ba 9 0) (by kernel_rfl) rfl (by kernel_rfl) ⟨(blk_cell BK102.out 0).trans rfl, (blk_cell BK102.out 1).trans rfl, ((HB.out.cell (World.block_lt_of_cell? w _ hw100_0)).trans hw100_0), ((HB.out.cell (World.block_lt_of_cell? w _ hw100_1)).trans hw100_1)⟩ (fun hHeld => ?_); refine with_tabW spec_l1Has.tab4 spec_l1Has.bits4 (fun HT_ HW_ => ?_)
   generalize wr.drew = w10 at BK102 HB hx100_0 hx100_1 hHeld ⊢
   refine pu 0 (some 15) (ba 9 1) HT_.out ?_
   refine pu 2 (some 17) (ba 9 5) HT_.out ?_
   refine pu 5 (some 20) (ba 9 37) HT_.out ?_
   refine pu 6 (some 21) (ba 9 101) HT_.out ?_
   refine tu 1 (some 16) (ba 9 103) HT_.out HW_.out hHeld ?_
   refine pu 3 (some 18) (ba 9 111) HT_.out ?_
   refine tu 4 (some 19) (ba 9 127) HT_.out HW_.out hHeld ?_
   refine one_ (i := 7) (N := some 22) (ba 9 255) rfl rfl (one_of HT_.out (by kernel_rfl)) (by decide) (fun K hK => ?_)
   refine goes_ Try.func83 (by kernel_rfl) rfl #[.int .i64 a1, .int .i64 a2] (by rfl) rfl rfl qm ?_
   with_reducible refine (spec_l1Tie.calls a1 a2 t101 t103 _ A7.out).mono ?_
   rintro e w11 ⟨rfl, hb⟩
   refine ⟨_, rfl, ?_⟩
   replace BK102 := q0 (kb BK102.out hb)
   replace HB := q0 (below_step (qb HB.out) hb)
   (try clear hb)
   (try clear hb2)
   (try clear hk)
   (try clear hi)
   refine hK.out _ _ ⟨(blk_cell BK102.out 0).trans rfl, (blk_cell BK102.out 1).trans rfl, ((HB.out.cell (World.block_lt_of_cell? w _ hw100_0)).trans hw100_0), ((HB.out.cell (World.block_lt_of_cell? w _ hw100_1)).trans hw100_1)⟩ (fun hHeld => ?_)
   clear hK K
   refine nu 22 ?_
   refine pu 8 (some 23) (ba 9 511) HT_.out ?_
   refine done_ (done_of HT_.out (by kernel_rfl)) ?_
   try go_wp2
   go_ret
   exact ⟨qe, qb HB.out⟩
 rw [if_neg c8] at H
 have c8b0 : (((rd_TTie l0_1 x7_1).f0) == t101 && (((rd_TTie l0_1 x7_1).f1) == t103)) = false := by simpa using c8
 (try (have c8b1 : decide (((rd_TTie l0_1 x7_1).f0) = t101 && (((rd_TTie l0_1 x7_1).f1) == t103)) = false := by simpa using c8))
 (try (have c8b2 : (((rd_TTie l0_1 x7_1).f0) == t101 && (((rd_TTie l0_1 x7_1).f1) == t103)) = false := by simpa using c8))
 (try (have c8b3 : ¬ (((rd_TTie l0_1 x7_1).f0) = t101 && (((rd_TTie l0_1 x7_1).f1) == t103)) := by simpa using c8))
 clear c8
 have H' := Aside0.mk H
 clear H
 have hcz12_0 : wr.cell? ⟨gb102, 0, none⟩ = some (.int .i64 a0_0) := (blk_cell BK102.out 0).trans rfl
 have hcz12_1 : wr.cell? ⟨gb102, 1, none⟩ = some (.slice A0_1 l0_1.length c0_1) := (blk_cell BK102.out 1).trans rfl
 have hfz12_0 := blk_frozen BK102.out 0
 have hfz12_1 := blk_frozen BK102.out 1
 try go_wp2
 replace BK102 := q0 (blk_drew BK102.out)
 replace HB := q0 (below_drew1 HB.out)
 have p100 : 0 ≤ (x7_1 : Int) := of_decide_eq_true qa
 have q100 : x7_1 < (l0_1.length : Int) := of_decide_eq_true qa
 obtain ⟨ad100, e100, hx100_0, hx100_1⟩ := at_TTie HR0_1.out x7_1 p100 q100
 have hw100_1 := hx100_1
 have hw100_0 := hx100_0
 cases e100
 replace hx100_0 := (HB.out.cell (World.block_lt_of_cell? w _ hx100_0)).trans hx100_0
 replace hx100_1 := (HB.out.cell (World.block_lt_of_cell? w _ hx100_1)).trans hx100_1
 replace p100 := eq_true p100
 replace q100 := eq_true q100
 refine start_ (n := 9) (S := fun w' => w'.cell? ⟨gb102, 0, none⟩ = some (.int .i64 a0_0) ∧ w'.cell? ⟨gb102, 1, none⟩ = some (.slice (some ad100) l0_1.length c0_1) ∧ w'.cell? (ad100.add ((x7_1).toNat * 2)) = some (.int .i64 ((rd_TTie l0_1 x7_1).f0)) ∧ w'.cell? ⟨(ad100.add ((x7_1).toNat * 2)).block, (ad100.add ((x7_1).toNat * 2)).off + 1, none⟩ = some (.int .i64 ((rd_TTie l0_1 x7_1).f1))) (ds := []) (ba 9 0) (by kernel_rfl) rfl (by kernel_rfl) ⟨(blk_cell BK102.out 0).trans rfl, (blk_cell BK102.out 1).trans rfl, ((HB.out.cell (World.block_lt_of_cell? w _ hw100_0)).trans hw100_0), ((HB.out.cell (World.block_lt_of_cell? w _ hw100_1)).trans hw100_1)⟩ (fun hHeld => ?_); refine with_tabW spec_l1Has.tab4 spec_l1Has.bits4 (fun HT_ HW_ => ?_)
 generalize wr.drew = w13 at BK102 HB hx100_0 hx100_1 hHeld ⊢
 refine pu 0 (some 15) (ba 9 1) HT_.out ?_
 refine pu 2 (some 17) (ba 9 5) HT_.out ?_
 refine pu 5 (some 20) (ba 9 37) HT_.out ?_
 refine pu 6 (some 21) (ba 9 101) HT_.out ?_
 refine tu 1 (some 16) (ba 9 103) HT_.out HW_.out hHeld ?_
 refine pu 3 (some 18) (ba 9 111) HT_.out ?_
 refine tu 4 (some 19) (ba 9 127) HT_.out HW_.out hHeld ?_
 refine one_ (i := 7) (N := some 22) (ba 9 255) rfl rfl (one_of HT_.out (by kernel_rfl)) (by decide) (fun K hK => ?_)
 refine goes_ Try.func83 (by kernel_rfl) rfl #[.int .i64 a1, .int .i64 a2] (by rfl) rfl rfl qm ?_
 with_reducible refine (spec_l1Tie.calls a1 a2 t101 t103 _ A7.out).mono ?_
 rintro e w14 ⟨rfl, hb⟩
 refine ⟨_, rfl, ?_⟩
 replace BK102 := q0 (kb BK102.out hb)
 replace HB := q0 (below_step (qb HB.out) hb)
 (try clear hb)
 (try clear hb2)
 (try clear hk)
 (try clear hi)
 refine hK.out _ _ ⟨(blk_cell BK102.out 0).trans rfl, (blk_cell BK102.out 1).trans rfl, ((HB.out.cell (World.block_lt_of_cell? w _ hw100_0)).trans hw100_0), ((HB.out.cell (World.block_lt_of_cell? w _ hw100_1)).trans hw100_1)⟩ (fun hHeld => ?_)
 clear hK K
 refine nu 22 ?_
 refine pu 8 (some 23) (ba 9 511) HT_.out ?_
 refine done_ (done_of HT_.out (by kernel_rfl)) ?_
 try go_wp2
 go_roundg k1
 case measure => have := HK1.out; omega
 case rel => exact ⟨(wrap64 (x7_1 + 1)), qs, H', ⟨by have := HK1.out; omega⟩, ⟨qk BK102.out⟩, ⟨qb HB.out⟩⟩

set_option maxHeartbeats 8000000 in
set_option maxRecDepth 100000 in
theorem spec_l2Next.calls (k : Nat) (a0_0 : Int) (A0_1 : Option Addr) (c0_1 : Nat) (l0_1 : List (STie)) (a1 : Int) (r : List Int) (w : World) (hr0_1 : Kd.C kTie w A0_1 l0_1.length l0_1) (hc0_1 : l0_1.length ≤ c0_1) (h : spec_l2Next.f k a0_0 l0_1 a1 = some r) :
    Calls Try.prog 42 #[.agg #[.int .i64 a0_0, .slice A0_1 l0_1.length c0_1], .int .i64 a1] w fun e w' => ∃ v0_ : Value, e = .returned (v0_) ∧ Kd.R (Kd.int .i64) 3 w' w.heap.size (fun _ => True) v0_ r ∧ Below w.heap.size w w' := by
 have hu31 := Try.underlying31
 have HR0_1 := Aside0.mk hr0_1
 have HC0_1 := Aside0.mk hc0_1
 clear hr0_1 hc0_1
 have HB := q0 (Below.refl w.heap.size w)
 have H : (spec_l2Next.l0 k a1 (([] : List Int)) 0 a0_0 l0_1) = some r := h
 clear h
 obtain ⟨y100, hy100⟩ : ∃ y_ : List Int, y_ = (([] : List Int)) := ⟨_, rfl⟩
 replace H : (spec_l2Next.l0 k a1 y100 0 a0_0 l0_1) = some r := qy H hy100
 have Ny100 := Aside0.mk hy100
 clear hy100
 have H' := Aside0.mk H
 clear H
 go_enter Try.func42, Try.ntmps42
 go_wp2_with (first | ((with_reducible refine gate_dst (N := 2) rfl ?_); refine be 2 #[.int .i64 a0_0, .slice A0_1 l0_1.length c0_1] 31 ?_; intro gb102 hg w3 hbox hb; have BK102 := q0 (hbox); have GW102 := q0 ((bs HB.out hg : w.heap.size ≤ gb102)); have GE102 := q0 ((bs HB.out hg : w.heap.size ≤ gb102)); replace HB := q0 (below_step (qb HB.out) hb); clear hb hbox hg) | ((with_reducible refine gate_dst (N := 7) rfl ?_); refine Kd.R_lit (Kd.int .i64) _ 3 ?hg (N := 7) ?hd (xs := ([] : List Int)) (inner := []) (ok := fun _ => True) (okp := fun _ => True) ?hr ?hp (fun _ hk => hk) trivial (Below.refl _ _) (Nat.le_refl _) (by simp) ?_; (case hd => rfl); (case hg => rfl); (case hr => first | (go_simp; done) | (go_simp; rfl)); (case hp => exact (Reps.none _ _)); intro v103 w4 ho5 hb hg_ hnew_; clear hg_ hnew_; (first | rw [← Ny100.out] at ho5 | (simp only [Int.reduceToNat] at ho5; rw [← Ny100.out] at ho5)); have HO104 := q0 (Kd.R_lower ho5 (below_size (qb HB.out))); replace BK102 := q0 (kb BK102.out hb); replace HB := q0 (below_step (qb HB.out) hb); clear hb ho5))
 go_loopg [5, 6] k (fun kq v5 v6 w' => ∃ (x5_1 : List Int) (x6_1 : Int), v6 = .int .i64 x6_1 ∧ Aside0 (spec_l2Next.l0 kq a1 x5_1 x6_1 a0_0 l0_1 = some r) ∧ Aside0 (kq ≤ k) ∧ Aside0 (Kd.R (Kd.int .i64) 3 w' w.heap.size (fun _ => True) v5 x5_1) ∧ Aside0 (w'.heap[gb102]? = some (.cells #[.int .i64 a0_0, (.slice A0_1 l0_1.length c0_1)] 31 (0, 0))) ∧ Aside0 (Below w.heap.size w w'))
 case atStart => exact ⟨(y100), (0), qs, H', ⟨Nat.le_refl _⟩, ⟨qr HO104.out⟩, ⟨qk BK102.out⟩, ⟨qb HB.out⟩⟩
 clear H'
 try clear p2
 try clear c4
 obtain ⟨x5_1, x6_1, rfl, HA, HK1, HO_5, BK102, HB⟩ := hrel
 rcases gk with _ | k1
 · exact absurd HA.out (by simp [spec_l2Next.l0])
 have H := HA.out
 clear HA
 simp only [spec_l2Next.l0] at H
 by_cases c6 : x6_1 < a0_0
 rotate_left
 · rw [if_neg c6] at H
   have c6b0 : decide (x6_1 < a0_0) = false := decide_eq_false c6
   clear c6
   obtain rfl := Option.some.inj H
   have hcz15_0 : wr.cell? ⟨gb102, 0, none⟩ = some (.int .i64 a0_0) := (blk_cell BK102.out 0).trans rfl
   have hcz15_1 : wr.cell? ⟨gb102, 1, none⟩ = some (.slice A0_1 l0_1.length c0_1) := (blk_cell BK102.out 1).trans rfl
   have hfz15_0 := blk_frozen BK102.out 0
   have hfz15_1 := blk_frozen BK102.out 1
   go_wp2
   go_ret
   exact ⟨_, qe, qr HO_5.out, qb HB.out⟩
 rw [if_pos c6] at H
 have c6b0 : decide (x6_1 < a0_0) = true := decide_eq_true c6
 clear c6
 replace H := Option.bind_eq_some_iff.mp H
 obtain ⟨t101, A70, H⟩ := H
 have A7 := Aside0.mk A70
 clear A70
 by_cases c8 : t101 = true
 rotate_left
 · replace c8 := Bool.eq_false_iff.mpr c8
   subst c8
   rw [if_neg nf] at H
   have H' := Aside0.mk H
   clear H
   have hcz13_0 : wr.cell? ⟨gb102, 0, none⟩ = some (.int .i64 a0_0) := (blk_cell BK102.out 0).trans rfl
   have hcz13_1 : wr.cell? ⟨gb102, 1, none⟩ = some (.slice A0_1 l0_1.length c0_1) := (blk_cell BK102.out 1).trans rfl
   have hfz13_0 := blk_frozen BK102.out 0
   have hfz13_1 := blk_frozen BK102.out 1
   go_wp2_with (first | ((with_reducible refine gate_callee (f := 65) rfl ?_); refine gl 17 Try.func65 #[.agg #[.int .i64 a0_0, .slice A0_1 l0_1.length c0_1], .int .i64 a1, .int .i64 x6_1] ?_; (with_reducible refine (spec_l1Has.calls k1 a0_0 _ _ l0_1 a1 x6_1 false _ ?side1 ?side2 A7.out).mono ?_); (case side1 => exact qc (Kd.C_below HR0_1.out HB.out)); (case side2 => exact HC0_1.out); rintro e w14 ⟨rfl, hb⟩; refine ⟨_, rfl, ?_⟩; replace HO_5 := q0 (Kd.R_below (qr HO_5.out) hb); replace BK102 := q0 (kb BK102.out hb); replace HB := q0 (below_step (qb HB.out) hb); (try clear hb); (try clear hb2); (try clear hk); (try clear hi)))
   go_roundg k1
   case measure => have := HK1.out; omega
   case rel => exact ⟨(x5_1), (wrap64 (x6_1 + 1)), qs, H', ⟨by have := HK1.out; omega⟩, ⟨qr HO_5.out⟩, ⟨qk BK102.out⟩, ⟨qb HB.out⟩⟩
 subst c8
 rw [if_pos rfl] at H
 by_cases c9 : x5_1.length < 17592186044416
 rotate_left
 · rw [if_neg c9] at H
   exact absurd H (by simp)
 rw [if_pos c9] at H
 have LMc9 := Aside0.mk c9
 clear c9
 obtain ⟨y105, hy105⟩ : ∃ y_ : List Int, y_ = (x5_1 ++ [x6_1]) := ⟨_, rfl⟩
 replace H : (spec_l2Next.l0 k1 a1 y105 (wrap64 (x6_1 + 1)) a0_0 l0_1) = some r := qy H hy105
 have Ny105 := Aside0.mk hy105
 clear hy105
 have H' := Aside0.mk H
 clear H
 have hcz10_0 : wr.cell? ⟨gb102, 0, none⟩ = some (.int .i64 a0_0) := (blk_cell BK102.out 0).trans rfl
 have hcz10_1 : wr.cell? ⟨gb102, 1, none⟩ = some (.slice A0_1 l0_1.length c0_1) := (blk_cell BK102.out 1).trans rfl
 have hfz10_0 := blk_frozen BK102.out 0
 have hfz10_1 := blk_frozen BK102.out 1
 go_wp2_with (first | ((with_reducible refine gate_callee (f := 65) rfl ?_); refine gl 17 Try.func65 #[.agg #[.int .i64 a0_0, .slice A0_1 l0_1.length c0_1], .int .i64 a1, .int .i64 x6_1] ?_; (with_reducible refine (spec_l1Has.calls k1 a0_0 _ _ l0_1 a1 x6_1 true _ ?side1 ?side2 A7.out).mono ?_); (case side1 => exact qc (Kd.C_below HR0_1.out HB.out)); (case side2 => exact HC0_1.out); rintro e w11 ⟨rfl, hb⟩; refine ⟨_, rfl, ?_⟩; replace HO_5 := q0 (Kd.R_below (qr HO_5.out) hb); replace BK102 := q0 (kb BK102.out hb); replace HB := q0 (below_step (qb HB.out) hb); (try clear hb); (try clear hb2); (try clear hk); (try clear hi)) | ((with_reducible refine gate_builtin (b := .append) (xs := #[.tmp 18, .tmp 20]) rfl ?_); at_builtin; refine Kd.R_append (Kd.int .i64) (w0 := w) w.heap.size rfl (.tmp 18) (.tmp 20) 26 3 (.int .i64 0) 8 rfl Try.underlying26 info3 rfl (by decide) (by omega) u5 x5_1 x6_1 [.int .i64 x6_1] (fun _ => True) (fun _ => False) rfl rfl ?aP (fun _ hk => hk.elim) ?aF ?aO ?aB ?aS ?aL ?_; (case aP => exact rfl); (case aB => exact (qb HB.out)); (case aF => exact (fun _ _ => trivial)); (case aO => exact (qr HO_5.out)); (case aS => exact (below_size (qb HB.out))); (case aL => have := LMc9.out; omega); intro v106 w12 ho hb hg hat; rw [← Ny105.out] at ho; replace BK102 := q0 (blk_grown (g := gb102) (o := .cells #[.int .i64 a0_0, .slice A0_1 l0_1.length c0_1] 31 (0, 0)) (qk BK102.out) hg (Kd.R_ne HO_5.out BK102.out (by decide))); replace HB := q0 (hb); have HO107 := q0 (ho); clear HO_5; clear ho hb hg hat))
 go_roundg k1
 case measure => have := HK1.out; omega
 case rel => exact ⟨(y105), (wrap64 (x6_1 + 1)), qs, H', ⟨by have := HK1.out; omega⟩, ⟨qr HO107.out⟩, ⟨qk BK102.out⟩, ⟨qb HB.out⟩⟩

def impl_tieOrder.T1 : Bool × List (List Nat × List Nat) := (true, [([], []), ([0], [0]), ([], []), ([2], [2]), ([1, 3], [1, 3]), ([], []), ([5], [5]), ([], []), ([7], [7]), ([6, 8, 4], [6, 8]), ([4, 9], [4, 9]), ([10, 9], [10]), ([11, 11, 0, 1, 2, 3, 4, 5, 6, 7, 8, 9, 10, 11], [11])])
def impl_tieOrder.B1 : List Nat := [0, 1, 0, 4, 15, 0, 32, 0, 128, 511, 1023, 2047, 4095]
theorem impl_tieOrder.tab1 : rtab .any (opsOf Try.f62 1) = impl_tieOrder.T1 := by kernel_rfl
theorem impl_tieOrder.bits1 : waitsOk impl_tieOrder.T1.2 impl_tieOrder.B1 = true := by kernel_rfl
set_option maxHeartbeats 8000000 in
set_option maxRecDepth 100000 in
theorem impl_tieOrder.calls (k : Nat) (a0_0 : Int) (a0_1 : Int) (a1_0 : Int) (a1_1 : Int) (r : Int) (w : World) (h : impl_tieOrder.f k a0_0 a0_1 a1_0 a1_1 = some r) :
    Calls Try.prog 62 #[.agg #[.int .i64 a0_0, .int .i64 a0_1], .agg #[.int .i64 a1_0, .int .i64 a1_1]] w fun e w' => e = .returned (.int .i64 r) ∧ Below w.heap.size w w' := by
 have hu74 := Try.underlying74
 have HB := q0 (Below.refl w.heap.size w)
 have H : ((cmp_Compare_int.f a0_0 a1_0).bind fun t100 => ((cmp_Compare_int.f a0_1 a1_1).bind fun t101 => ((cmp_Or_int.f k (([t100, t101] : List Int))).bind fun t102 => (some t102)))) = some r := h
 clear h
 replace H := Option.bind_eq_some_iff.mp H
 obtain ⟨t100, A30, H⟩ := H
 have A3 := Aside0.mk A30
 clear A30
 replace H := Option.bind_eq_some_iff.mp H
 obtain ⟨t101, A40, H⟩ := H
 have A4 := Aside0.mk A40
 clear A40
 obtain ⟨y103, hy103⟩ : ∃ y_ : List Int, y_ = (([t100, t101] : List Int)) := ⟨_, rfl⟩
 replace H : ((cmp_Or_int.f k y103).bind fun t102 => (some t102)) = some r := qy H hy103
 have Ny103 := Aside0.mk hy103
 clear hy103
 replace H := Option.bind_eq_some_iff.mp H
 obtain ⟨t102, A50, H⟩ := H
 have A5 := Aside0.mk A50
 clear A50
 obtain rfl := Option.some.inj H
 go_enter Try.func62, Try.ntmps62
 try go_wp2_with (first | ((with_reducible refine gate_dst (N := 2) rfl ?_); refine be 2 #[.int .i64 a0_0, .int .i64 a0_1] 74 ?_; intro gb104 hg w6 hbox hb; have BK104 := q0 (hbox); have GW104 := q0 ((bs HB.out hg : w.heap.size ≤ gb104)); have GE104 := q0 ((bs HB.out hg : w.heap.size ≤ gb104)); replace HB := q0 (below_step (qb HB.out) hb); clear hb hbox hg) | ((with_reducible refine gate_dst (N := 3) rfl ?_); refine be 3 #[.int .i64 a1_0, .int .i64 a1_1] 74 ?_; intro gb105 hg w7 hbox hb; have BK105 := q0 (hbox); have GW105 := q0 ((bs HB.out hg : w.heap.size ≤ gb105)); have GE105 := q0 ((bs HB.out hg : w.heap.size ≤ gb105)); replace HB := q0 (below_step (qb HB.out) hb); have NB104_105 := q0 ((bl BK104.out hg : gb104 ≠ gb105)); have NB105_104 := q0 ((bg BK104.out hg : gb105 ≠ gb104)); replace BK104 := q0 (kb BK104.out hb); clear hb hbox hg))
 replace BK104 := q0 (blk_drew BK104.out)
 replace BK105 := q0 (blk_drew BK105.out)
 replace HB := q0 (below_drew1 HB.out)
 refine start_ (n := 13) (S := fun w' => w'.cell? ⟨gb104, 0, none⟩ = some (.int .i64 a0_0) ∧ w'.cell? ⟨gb104, 1, none⟩ = some (.int .i64 a0_1) ∧ w'.cell? ⟨gb105, 0, none⟩ = some (.int .i64 a1_0) ∧ w'.cell? ⟨gb105, 1, none⟩ = some (.int .i64 a1_1)) (ds := []) (ba 13 0) (by kernel_rfl) rfl (by kernel_rfl) ⟨(blk_cell BK104.out 0).trans rfl, (blk_cell BK104.out 1).trans rfl, (blk_cell BK105.out 0).trans rfl, (blk_cell BK105.out 1).trans rfl⟩ (fun hHeld => ?_); refine with_tabW impl_tieOrder.tab1 impl_tieOrder.bits1 (fun HT_ HW_ => ?_)
 generalize w7.drew = w8 at BK104 BK105 HB hHeld ⊢
 refine pu 0 (some 5) (ba 13 1) HT_.out ?_
 refine pu 2 (some 7) (ba 13 5) HT_.out ?_
 refine pu 5 (some 10) (ba 13 37) HT_.out ?_
 refine pu 7 (some 12) (ba 13 165) HT_.out ?_
 refine tu 1 (some 6) (ba 13 167) HT_.out HW_.out hHeld ?_
 refine tu 3 (some 8) (ba 13 175) HT_.out HW_.out hHeld ?_
 refine tu 6 (some 11) (ba 13 239) HT_.out HW_.out hHeld ?_
 refine tu 8 (some 13) (ba 13 495) HT_.out HW_.out hHeld ?_
 refine one_ (i := 4) (N := some 9) (ba 13 511) rfl rfl (one_of HT_.out (by kernel_rfl)) (by decide) (fun K hK => ?_)
 refine goes_ Try.func82 (by kernel_rfl) rfl #[.int .i64 a0_0, .int .i64 a1_0] (by rfl) rfl rfl qm ?_
 with_reducible refine (cmp_Compare_int.calls a0_0 a1_0 t100 _ A3.out).mono ?_
 rintro e w' ⟨rfl, ⟨nd, rfl⟩⟩
 refine ⟨_, rfl, ?_⟩
 refine hK.out _ _ ⟨(blk_cell BK104.out 0).trans rfl, (blk_cell BK104.out 1).trans rfl, (blk_cell BK105.out 0).trans rfl, (blk_cell BK105.out 1).trans rfl⟩ (fun hHeld => ?_)
 clear hK K
 refine nu 9 ?_
 refine one_ (i := 9) (N := some 14) (ba 13 1023) rfl rfl (one_of HT_.out (by kernel_rfl)) (by decide) (fun K hK => ?_)
 refine goes_ Try.func82 (by kernel_rfl) rfl #[.int .i64 a0_1, .int .i64 a1_1] (by rfl) rfl rfl qm ?_
 with_reducible refine (cmp_Compare_int.calls a0_1 a1_1 t101 _ A4.out).mono ?_
 rintro e w' ⟨rfl, ⟨nd, rfl⟩⟩
 refine ⟨_, rfl, ?_⟩
 refine hK.out _ _ ⟨(blk_cell BK104.out 0).trans rfl, (blk_cell BK104.out 1).trans rfl, (blk_cell BK105.out 0).trans rfl, (blk_cell BK105.out 1).trans rfl⟩ (fun hHeld => ?_)
 clear hK K
 refine nu 14 ?_
 refine one_ (i := 10) (N := some 15) (ba 13 2047) rfl rfl (one_of HT_.out (by kernel_rfl)) (by decide) (fun K hK => ?_)
 refine Kd.R_lit_step (Kd.int .i64) _ 3 ?hg (N := 15) ?hd (xs := ([t100, t101] : List Int)) (inner := [.int .i64 t100, .int .i64 t101]) (ok := fun _ => True) (okp := fun _ => True) ?hr ?hp (fun _ hk => hk) trivial (Below.refl _ _) (Nat.le_refl _) (by simp) ?_; (case hd => rfl); (case hg => rfl); (case hr => first | (go_simp; done) | (go_simp; rfl)); (case hp => exact (Reps.one (show Kd.M (Kd.int .i64) _ _ _ t100 [.int .i64 t100] from rfl) (Reps.one (show Kd.M (Kd.int .i64) _ _ _ t101 [.int .i64 t101] from rfl) (Reps.none _ _))))
 intro v106 w9 ho10 hb hg_ hnew_
 clear hg_ hnew_
 (first | rw [← Ny103.out] at ho10 | (simp only [Int.reduceToNat] at ho10; rw [← Ny103.out] at ho10))
 have HO107 := q0 (Kd.R_lower ho10 (below_size (qb HB.out)))
 replace BK104 := q0 (kb BK104.out hb)
 replace BK105 := q0 (kb BK105.out hb)
 replace HB := q0 (below_step (qb HB.out) hb)
 clear hb ho10
 obtain ⟨Ao11, co11, eo11⟩ := Kd.R_slice HO107.out
 (first | subst eo11 | (injection eo11 with f1_ f2_ f3_; have f4_ := f1_.symm; have f5_ := f3_.symm; clear f1_ f2_ f3_; subst f4_; subst f5_))
 refine hK.out _ _ ⟨(blk_cell BK104.out 0).trans rfl, (blk_cell BK104.out 1).trans rfl, (blk_cell BK105.out 0).trans rfl, (blk_cell BK105.out 1).trans rfl⟩ (fun hHeld => ?_)
 clear hK K
 refine nu 15 ?_
 refine one_ (i := 11) (N := some 16) (ba 13 4095) rfl rfl (one_of HT_.out (by kernel_rfl)) (by decide) (fun K hK => ?_)
 refine goes_ Try.func81 (by kernel_rfl) rfl #[.slice Ao11 y103.length co11] (by rfl) rfl rfl qm ?_
 with_reducible refine (cmp_Or_int.calls k _ _ y103 t102 _ ?side1 ?side2 A5.out).mono ?_
 (case side1 => exact qc (Kd.R_reads' HO107.out).2.2)
 (case side2 => exact (Kd.R_reads' HO107.out).2.1)
 rintro e w' ⟨rfl, ⟨nd, rfl⟩⟩
 refine ⟨_, rfl, ?_⟩
 refine hK.out _ _ ⟨(blk_cell BK104.out 0).trans rfl, (blk_cell BK104.out 1).trans rfl, (blk_cell BK105.out 0).trans rfl, (blk_cell BK105.out 1).trans rfl⟩ (fun hHeld => ?_)
 clear hK K
 refine nu 16 ?_
 refine pu 12 (some 4) (ba 13 8191) HT_.out ?_
 refine done_ (done_of HT_.out (by kernel_rfl)) ?_
 try go_wp2
 go_ret
 exact ⟨qe, qb HB.out⟩

def impl_ascending.T4 : Bool × List (List Nat × List Nat) := (true, [([], []), ([], []), ([1], [1]), ([0, 2], [0, 2]), ([3], [3]), ([], []), ([], []), ([5, 6], [5, 6]), ([7], [7]), ([4, 8], [4, 8]), ([9], [9])])
def impl_ascending.B4 : List Nat := [0, 0, 2, 7, 15, 0, 0, 96, 224, 511, 1023]
theorem impl_ascending.tab4 : rtab .any (opsOf Try.f68 4) = impl_ascending.T4 := by kernel_rfl
theorem impl_ascending.bits4 : waitsOk impl_ascending.T4.2 impl_ascending.B4 = true := by kernel_rfl
set_option maxHeartbeats 8000000 in
set_option maxRecDepth 100000 in
theorem impl_ascending.calls (k : Nat) (A0 : Option Addr) (c0 : Nat) (l0 : List (STie)) (r : Bool) (w : World) (hr0 : Kd.C kTie w A0 l0.length l0) (hc0 : l0.length ≤ c0) (h : impl_ascending.f k l0 = some r) :
    Calls Try.prog 68 #[.slice A0 l0.length c0] w fun e w' => e = .returned (.bool r) ∧ Below w.heap.size w w' := by
 have hu74 := Try.underlying74
 have HR0 := Aside0.mk hr0
 have HC0 := Aside0.mk hc0
 clear hr0 hc0
 have HB := q0 (Below.refl w.heap.size w)
 have H : (impl_ascending.l0 k l0 1) = some r := h
 clear h
 have H' := Aside0.mk H
 clear H
 go_enter Try.func68, Try.ntmps68
 go_wp2
 go_loopg [3] k (fun kq v3 w' => ∃ (x3_1 : Int), v3 = .int .i64 x3_1 ∧ Aside0 (impl_ascending.l0 kq l0 x3_1 = some r) ∧ Aside0 (kq ≤ k) ∧ Aside0 (Below w.heap.size w w'))
 case atStart => exact ⟨(1), qs, H', ⟨Nat.le_refl _⟩, ⟨qb HB.out⟩⟩
 clear H'
 obtain ⟨x3_1, rfl, HA, HK1, HB⟩ := hrel
 rcases gk with _ | k1
 · exact absurd HA.out (by simp [impl_ascending.l0])
 have H := HA.out
 clear HA
 simp only [impl_ascending.l0] at H
 by_cases c2 : x3_1 < (l0.length : Int)
 rotate_left
 · rw [if_neg c2] at H
   have c2b0 : decide (x3_1 < (l0.length : Int)) = false := decide_eq_false c2
   clear c2
   obtain rfl := Option.some.inj H
   go_wp2
   go_ret
   exact ⟨qe, qb HB.out⟩
 rw [if_pos c2] at H
 have c2b0 : decide (x3_1 < (l0.length : Int)) = true := decide_eq_true c2
 clear c2
 obtain ⟨ji3, hji3⟩ : ∃ j_ : Int, (wrap64 (x3_1 - 1)) = j_ := ⟨_, rfl⟩
 replace H : (if 0 ≤ (ji3) then (if (ji3) < (l0.length : Int) then (if 0 ≤ x3_1 then ((impl_tieOrder.f k1 ((rd_TTie l0 (ji3)).f0) ((rd_TTie l0 (ji3)).f1) ((rd_TTie l0 x3_1).f0) ((rd_TTie l0 x3_1).f1)).bind fun t100 => (if t100 ≥ 0 then (some false) else (impl_ascending.l0 k1 l0 (wrap64 (x3_1 + 1))))) else (none)) else (none)) else (none)) = some r := by first | (rw [hji3] at H; exact H) | (simp only [hji3] at H ⊢; exact H)
 have hji3w : (IntKind.i64.wrap (x3_1 - 1)) = ji3 := (i64_w _).trans hji3
 by_cases c4 : 0 ≤ (ji3)
 rotate_left
 · rw [if_neg c4] at H
   exact absurd H (by simp)
 rw [if_pos c4] at H
 have c4b0 : decide (0 ≤ (ji3)) = true := decide_eq_true c4
 clear c4
 by_cases c5 : (ji3) < (l0.length : Int)
 rotate_left
 · rw [if_neg c5] at H
   exact absurd H (by simp)
 rw [if_pos c5] at H
 have c5b0 : decide ((ji3) < (l0.length : Int)) = true := decide_eq_true c5
 clear c5
 by_cases c6 : 0 ≤ x3_1
 rotate_left
 · rw [if_neg c6] at H
   exact absurd H (by simp)
 rw [if_pos c6] at H
 have c6b0 : decide (0 ≤ x3_1) = true := decide_eq_true c6
 clear c6
 replace H := Option.bind_eq_some_iff.mp H
 obtain ⟨t100, A70, H⟩ := H
 have A7 := Aside0.mk A70
 clear A70
 by_cases c8 : t100 ≥ 0
 · rw [if_pos c8] at H
   have c8b0 : decide (0 ≤ t100) = true := decide_eq_true c8
   clear c8
   obtain rfl := Option.some.inj H
   try go_wp2
   replace HB := q0 (below_drew1 HB.out)
   have p101 : 0 ≤ ((ji3) : Int) := of_decide_eq_true qa
   have q101 : (ji3) < (l0.length : Int) := of_decide_eq_true qa
   obtain ⟨ad101, e101, hx101_0, hx101_1⟩ := at_TTie HR0.out (ji3) p101 q101
   have hw101_1 := hx101_1
   have hw101_0 := hx101_0
   cases e101
   replace hx101_0 := (HB.out.cell (World.block_lt_of_cell? w _ hx101_0)).trans hx101_0
   replace hx101_1 := (HB.out.cell (World.block_lt_of_cell? w _ hx101_1)).trans hx101_1
   replace p101 := eq_true p101
   replace q101 := eq_true q101
   have p102 : 0 ≤ (x3_1 : Int) := of_decide_eq_true qa
   have q102 : x3_1 < (l0.length : Int) := of_decide_eq_true qa
   obtain ⟨ad102, e102, hx102_0, hx102_1⟩ := at_TTie HR0.out x3_1 p102 q102
   have hw102_1 := hx102_1
   have hw102_0 := hx102_0
   obtain rfl : ad101 = ad102 := (by injection e102)
   replace hx102_0 := (HB.out.cell (World.block_lt_of_cell? w _ hx102_0)).trans hx102_0
   replace hx102_1 := (HB.out.cell (World.block_lt_of_cell? w _ hx102_1)).trans hx102_1
   replace p102 := eq_true p102
   replace q102 := eq_true q102
   refine start_ (n := 11) (S := fun w' => w'.cell? (ad101.add (((ji3)).toNat * 2)) = some (.int .i64 ((rd_TTie l0 (ji3)).f0)) ∧ w'.cell? ⟨(ad101.add (((ji3)).toNat * 2)).block, (ad101.add (((ji3)).toNat * 2)).off + 1, none⟩ = some (.int .i64 ((rd_TTie l0 (ji3)).f1)) ∧ w'.cell? (ad101.add ((x3_1).toNat * 2)) = some (.int .i64 ((rd_TTie l0 x3_1).f0)) ∧ w'.cell? ⟨(ad101.add ((x3_1).toNat * 2)).block, (ad101.add ((x3_1).toNat * 2)).off + 1, none⟩ = some (.int .i64 ((rd_TTie l0 x3_1).f1))) (ds := []) (ba 11 0) (by kernel_rfl) rfl (by kernel_rfl) ⟨((HB.out.cell (World.block_lt_of_cell? w _ hw101_0)).trans hw101_0), ((HB.out.cell (World.block_lt_of_cell? w _ hw101_1)).trans hw101_1), ((HB.out.cell (World.block_lt_of_cell? w _ hw102_0)).trans hw102_0), ((HB.out.cell (World.block_lt_of_cell? w _ hw102_1)).trans hw102_1)⟩ (fun hHeld => ?_); refine with_tabW impl_ascending.tab4 impl_ascending.bits4 (fun HT_ HW_ => ?_)
   generalize wr.drew = w9 at HB hx101_0 hx101_1 hx102_0 hx102_1 hHeld ⊢
   refine pu 0 (some 10) (ba 11 1) HT_.out ?_
   refine pu 1 (some 11) (ba 11 3) HT_.out ?_
   refine pu 2 (some 12) (ba 11 7) HT_.out ?_
   refine pu 3 (some 13) (ba 11 15) HT_.out ?_
   refine pu 5 (some 15) (ba 11 47) HT_.out ?_
   refine pu 6 (some 16) (ba 11 111) HT_.out ?_
   refine pu 7 (some 17) (ba 11 239) HT_.out ?_
   refine tu 4 (some 14) (ba 11 255) HT_.out HW_.out hHeld ?_
   refine tu 8 (some 18) (ba 11 511) HT_.out HW_.out hHeld ?_
   refine one_ (i := 9) (N := some 19) (ba 11 1023) rfl rfl (one_of HT_.out (by kernel_rfl)) (by decide) (fun K hK => ?_)
   refine goes_ Try.func62 (by kernel_rfl) rfl #[.agg #[.int .i64 ((rd_TTie l0 (ji3)).f0), .int .i64 ((rd_TTie l0 (ji3)).f1)], .agg #[.int .i64 ((rd_TTie l0 x3_1).f0), .int .i64 ((rd_TTie l0 x3_1).f1)]] (by rfl) rfl rfl (by (try simp only [List.map_toArray, List.map_cons, List.map_nil]); first | done | (simp only [hji3]; rfl) | rfl | (simp only [List.length_drop, List.length_take]; rfl)) ?_
   with_reducible refine (impl_tieOrder.calls k1 ((rd_TTie l0 (ji3)).f0) ((rd_TTie l0 (ji3)).f1) ((rd_TTie l0 x3_1).f0) ((rd_TTie l0 x3_1).f1) t100 _ A7.out).mono ?_
   rintro e w10 ⟨rfl, hb⟩
   refine ⟨_, rfl, ?_⟩
   replace HB := q0 (below_step (qb HB.out) hb)
   (try clear hb)
   (try clear hb2)
   (try clear hk)
   (try clear hi)
   refine hK.out _ _ ⟨((HB.out.cell (World.block_lt_of_cell? w _ hw101_0)).trans hw101_0), ((HB.out.cell (World.block_lt_of_cell? w _ hw101_1)).trans hw101_1), ((HB.out.cell (World.block_lt_of_cell? w _ hw102_0)).trans hw102_0), ((HB.out.cell (World.block_lt_of_cell? w _ hw102_1)).trans hw102_1)⟩ (fun hHeld => ?_)
   clear hK K
   refine nu 19 ?_
   refine pu 10 (some 20) (ba 11 2047) HT_.out ?_
   refine done_ (done_of HT_.out (by kernel_rfl)) ?_
   try go_wp2
   go_ret
   exact ⟨by first | rfl | (simp [errW_none, errW_some] <;> rfl) | (simp only [← hji3]; first | rfl | (simp [errW_none, errW_some] <;> rfl)) | (simp [*, errW_none, errW_some] <;> rfl), qb HB.out⟩
 rw [if_neg c8] at H
 have c8b0 : decide (0 ≤ t100) = false := decide_eq_false c8
 clear c8
 have H' := Aside0.mk H
 clear H
 try go_wp2
 replace HB := q0 (below_drew1 HB.out)
 have p101 : 0 ≤ ((ji3) : Int) := of_decide_eq_true qa
 have q101 : (ji3) < (l0.length : Int) := of_decide_eq_true qa
 obtain ⟨ad101, e101, hx101_0, hx101_1⟩ := at_TTie HR0.out (ji3) p101 q101
 have hw101_1 := hx101_1
 have hw101_0 := hx101_0
 cases e101
 replace hx101_0 := (HB.out.cell (World.block_lt_of_cell? w _ hx101_0)).trans hx101_0
 replace hx101_1 := (HB.out.cell (World.block_lt_of_cell? w _ hx101_1)).trans hx101_1
 replace p101 := eq_true p101
 replace q101 := eq_true q101
 have p102 : 0 ≤ (x3_1 : Int) := of_decide_eq_true qa
 have q102 : x3_1 < (l0.length : Int) := of_decide_eq_true qa
 obtain ⟨ad102, e102, hx102_0, hx102_1⟩ := at_TTie HR0.out x3_1 p102 q102
 have hw102_1 := hx102_1
 have hw102_0 := hx102_0
 obtain rfl : ad101 = ad102 := (by injection e102)
 replace hx102_0 := (HB.out.cell (World.block_lt_of_cell? w _ hx102_0)).trans hx102_0
 replace hx102_1 := (HB.out.cell (World.block_lt_of_cell? w _ hx102_1)).trans hx102_1
 replace p102 := eq_true p102
 replace q102 := eq_true q102
 refine start_ (n := 11) (S := fun w' => w'.cell? (ad101.add (((ji3)).toNat * 2)) = some (.int .i64 ((rd_TTie l0 (ji3)).f0)) ∧ w'.cell? ⟨(ad101.add (((ji3)).toNat * 2)).block, (ad101.add (((ji3)).toNat * 2)).off + 1, none⟩ = some (.int .i64 ((rd_TTie l0 (ji3)).f1)) ∧ w'.cell? (ad101.add ((x3_1).toNat * 2)) = some (.int .i64 ((rd_TTie l0 x3_1).f0)) ∧ w'.cell? ⟨(ad101.add ((x3_1).toNat * 2)).block, (ad101.add ((x3_1).toNat * 2)).off + 1, none⟩ = some (.int .i64 ((rd_TTie l0 x3_1).f1))) (ds := []) (ba 11 0) (by kernel_rfl) rfl (by kernel_rfl) ⟨((HB.out.cell (World.block_lt_of_cell? w _ hw101_0)).trans hw101_0), ((HB.out.cell (World.block_lt_of_cell? w _ hw101_1)).trans hw101_1), ((HB.out.cell (World.block_lt_of_cell? w _ hw102_0)).trans hw102_0), ((HB.out.cell (World.block_lt_of_cell? w _ hw102_1)).trans hw102_1)⟩ (fun hHeld => ?_); refine with_tabW impl_ascending.tab4 impl_ascending.bits4 (fun HT_ HW_ => ?_)
 generalize wr.drew = w11 at HB hx101_0 hx101_1 hx102_0 hx102_1 hHeld ⊢
 refine pu 0 (some 10) (ba 11 1) HT_.out ?_
 refine pu 1 (some 11) (ba 11 3) HT_.out ?_
 refine pu 2 (some 12) (ba 11 7) HT_.out ?_
 refine pu 3 (some 13) (ba 11 15) HT_.out ?_
 refine pu 5 (some 15) (ba 11 47) HT_.out ?_
 refine pu 6 (some 16) (ba 11 111) HT_.out ?_
 refine pu 7 (some 17) (ba 11 239) HT_.out ?_
 refine tu 4 (some 14) (ba 11 255) HT_.out HW_.out hHeld ?_
 refine tu 8 (some 18) (ba 11 511) HT_.out HW_.out hHeld ?_
 refine one_ (i := 9) (N := some 19) (ba 11 1023) rfl rfl (one_of HT_.out (by kernel_rfl)) (by decide) (fun K hK => ?_)
 refine goes_ Try.func62 (by kernel_rfl) rfl #[.agg #[.int .i64 ((rd_TTie l0 (ji3)).f0), .int .i64 ((rd_TTie l0 (ji3)).f1)], .agg #[.int .i64 ((rd_TTie l0 x3_1).f0), .int .i64 ((rd_TTie l0 x3_1).f1)]] (by rfl) rfl rfl (by (try simp only [List.map_toArray, List.map_cons, List.map_nil]); first | done | (simp only [hji3]; rfl) | rfl | (simp only [List.length_drop, List.length_take]; rfl)) ?_
 with_reducible refine (impl_tieOrder.calls k1 ((rd_TTie l0 (ji3)).f0) ((rd_TTie l0 (ji3)).f1) ((rd_TTie l0 x3_1).f0) ((rd_TTie l0 x3_1).f1) t100 _ A7.out).mono ?_
 rintro e w12 ⟨rfl, hb⟩
 refine ⟨_, rfl, ?_⟩
 replace HB := q0 (below_step (qb HB.out) hb)
 (try clear hb)
 (try clear hb2)
 (try clear hk)
 (try clear hi)
 refine hK.out _ _ ⟨((HB.out.cell (World.block_lt_of_cell? w _ hw101_0)).trans hw101_0), ((HB.out.cell (World.block_lt_of_cell? w _ hw101_1)).trans hw101_1), ((HB.out.cell (World.block_lt_of_cell? w _ hw102_0)).trans hw102_0), ((HB.out.cell (World.block_lt_of_cell? w _ hw102_1)).trans hw102_1)⟩ (fun hHeld => ?_)
 clear hK K
 refine nu 19 ?_
 refine pu 10 (some 20) (ba 11 2047) HT_.out ?_
 refine done_ (done_of HT_.out (by kernel_rfl)) ?_
 try go_wp2
 go_roundg k1
 case measure => have := HK1.out; omega
 case rel => exact ⟨(wrap64 (x3_1 + 1)), qs, H', ⟨by have := HK1.out; omega⟩, ⟨qb HB.out⟩⟩

set_option maxHeartbeats 8000000 in
set_option maxRecDepth 100000 in
theorem impl_NetOk.calls (k : Nat) (a0_0 : Int) (A0_1 : Option Addr) (c0_1 : Nat) (l0_1 : List (STie)) (r : Bool) (w : World) (hr0_1 : Kd.C kTie w A0_1 l0_1.length l0_1) (hc0_1 : l0_1.length ≤ c0_1) (h : impl_NetOk.f k a0_0 l0_1 = some r) :
    Calls Try.prog 47 #[.agg #[.int .i64 a0_0, .slice A0_1 l0_1.length c0_1]] w fun e w' => e = .returned (.bool r) ∧ Below w.heap.size w w' := by
 have hu31 := Try.underlying31
 have hu74 := Try.underlying74
 have HR0_1 := Aside0.mk hr0_1
 have HC0_1 := Aside0.mk hc0_1
 clear hr0_1 hc0_1
 have HB := q0 (Below.refl w.heap.size w)
 have H : (if a0_0 < 0 then (impl_NetOk.j0 k true a0_0 l0_1) else (impl_NetOk.j0 k (decide (a0_0 > 8)) a0_0 l0_1)) = some r := h
 clear h
 have HC2 := Aside0.mk H
 clear H
 go_enter Try.func47, Try.ntmps47
 go_upto_region 1 with (first | ((with_reducible refine gate_dst (N := 1) rfl ?_); refine be 1 #[.int .i64 a0_0, .slice A0_1 l0_1.length c0_1] 31 ?_; intro gb102 hg w3 hbox hb; have BK102 := q0 (hbox); have GW102 := q0 ((bs HB.out hg : w.heap.size ≤ gb102)); have GE102 := q0 ((bs HB.out hg : w.heap.size ≤ gb102)); replace HB := q0 (below_step (qb HB.out) hb); clear hb hbox hg))
 (try simp only [Act.put, List.setIfInBounds_toArray, List.set_cons_zero, List.set_cons_succ])
 go_cut [12] (fun v12 wc => ∃ (kq : Nat) (x12_1 : Bool), v12 = .bool x12_1 ∧ Aside0 (impl_NetOk.j0 kq x12_1 a0_0 l0_1 = some r) ∧ Aside0 (kq ≤ k) ∧ Aside0 (wc.heap[gb102]? = some (.cells #[.int .i64 a0_0, (.slice A0_1 l0_1.length c0_1)] 31 (0, 0))) ∧ Aside0 (Below w.heap.size w wc))
 case first =>
   have H := HC2.out
   clear HC2
   by_cases c4 : a0_0 < 0
   · rw [if_pos c4] at H
     have c4b0 : decide (a0_0 < 0) = true := decide_eq_true c4
     clear c4
     (first | rw [c4b0] | (simp only [i64_w, i32_w]; rw [c4b0]) | skip)
     have H' := Aside0.mk H
     clear H
     have hcz5_0 : w3.cell? ⟨gb102, 0, none⟩ = some (.int .i64 a0_0) := (blk_cell BK102.out 0).trans rfl
     have hcz5_1 : w3.cell? ⟨gb102, 1, none⟩ = some (.slice A0_1 l0_1.length c0_1) := (blk_cell BK102.out 1).trans rfl
     have hfz5_0 := blk_frozen BK102.out 0
     have hfz5_1 := blk_frozen BK102.out 1
     go_wp2
     go_meet
     case rel => exact ⟨_, (true), qs, H', ⟨by first | omega | exact Nat.le_refl _⟩, ⟨qk BK102.out⟩, ⟨qb HB.out⟩⟩
   rw [if_neg c4] at H
   have c4b0 : decide (a0_0 < 0) = false := decide_eq_false c4
   clear c4
   (first | rw [c4b0] | (simp only [i64_w, i32_w]; rw [c4b0]) | skip)
   have H' := Aside0.mk H
   clear H
   have hcz6_0 : w3.cell? ⟨gb102, 0, none⟩ = some (.int .i64 a0_0) := (blk_cell BK102.out 0).trans rfl
   have hcz6_1 : w3.cell? ⟨gb102, 1, none⟩ = some (.slice A0_1 l0_1.length c0_1) := (blk_cell BK102.out 1).trans rfl
   have hfz6_0 := blk_frozen BK102.out 0
   have hfz6_1 := blk_frozen BK102.out 1
   go_wp2
   go_meet
   case rel => exact ⟨_, (decide (a0_0 > 8)), qs, H', ⟨by first | omega | exact Nat.le_refl _⟩, ⟨qk BK102.out⟩, ⟨qb HB.out⟩⟩
 clear HC2
 try clear p2
 try clear c4
 try clear c4b0
 try clear hcz5_0
 try clear hcz5_1
 try clear hcz6_0
 try clear hcz6_1
 try clear hfz5_0
 try clear hfz5_1
 try clear hfz6_0
 try clear hfz6_1
 obtain ⟨kq, x12_1, rfl, HA, HJ1, BK102, HB⟩ := hcut
 rcases kq with _ | kj1
 · exact absurd HA.out (by simp [impl_NetOk.j0])
 have H := HA.out
 clear HA
 simp only [impl_NetOk.j0] at H
 by_cases c7 : x12_1 = true
 · subst c7
   rw [if_pos rfl] at H
   obtain rfl := Option.some.inj H
   go_wp2
   go_ret
   exact ⟨qe, qb HB.out⟩
 replace c7 := Bool.eq_false_iff.mpr c7
 subst c7
 rw [if_neg nf] at H
 have H' := Aside0.mk H
 clear H
 have hcz8_0 : wc.cell? ⟨gb102, 0, none⟩ = some (.int .i64 a0_0) := (blk_cell BK102.out 0).trans rfl
 have hcz8_1 : wc.cell? ⟨gb102, 1, none⟩ = some (.slice A0_1 l0_1.length c0_1) := (blk_cell BK102.out 1).trans rfl
 have hfz8_0 := blk_frozen BK102.out 0
 have hfz8_1 := blk_frozen BK102.out 1
 go_wp2
 go_loopg [16] kj1 (fun kq v16 w' => ∃ (x16_2 : Int), v16 = .int .i64 x16_2 ∧ Aside0 (impl_NetOk.l0 kq l0_1 (l0_1.length : Int) x16_2 a0_0 l0_1 = some r) ∧ Aside0 (kq ≤ kj1) ∧ Aside0 (w'.heap[gb102]? = some (.cells #[.int .i64 a0_0, (.slice A0_1 l0_1.length c0_1)] 31 (0, 0))) ∧ Aside0 (Below w.heap.size w w'))
 case atStart => exact ⟨(0), qs, H', ⟨Nat.le_refl _⟩, ⟨qk BK102.out⟩, ⟨qb HB.out⟩⟩
 clear H'
 try clear p2
 try clear c4
 try clear c4b0
 try clear c7
 try clear hcz5_0
 try clear hcz5_1
 try clear hcz6_0
 try clear hcz6_1
 try clear hcz8_0
 try clear hcz8_1
 try clear hfz5_0
 try clear hfz5_1
 try clear hfz6_0
 try clear hfz6_1
 try clear hfz8_0
 try clear hfz8_1
 try clear p2
 obtain ⟨x16_2, rfl, HA, HK2, BK102, HB⟩ := hrel
 rcases gk with _ | k2
 · exact absurd HA.out (by simp [impl_NetOk.l0])
 have H := HA.out
 clear HA
 simp only [impl_NetOk.l0] at H
 by_cases c9 : x16_2 < (l0_1.length : Int)
 rotate_left
 · rw [if_neg c9] at H
   have c9b0 : decide (x16_2 < (l0_1.length : Int)) = false := decide_eq_false c9
   clear c9
   replace H := Option.bind_eq_some_iff.mp H
   obtain ⟨t101, A104, H⟩ := H
   have A29 := Aside0.mk A104
   clear A104
   obtain rfl := Option.some.inj H
   have hcz30_0 : wr.cell? ⟨gb102, 0, none⟩ = some (.int .i64 a0_0) := (blk_cell BK102.out 0).trans rfl
   have hcz30_1 : wr.cell? ⟨gb102, 1, none⟩ = some (.slice A0_1 l0_1.length c0_1) := (blk_cell BK102.out 1).trans rfl
   have hfz30_0 := blk_frozen BK102.out 0
   have hfz30_1 := blk_frozen BK102.out 1
   go_wp2_with (first | ((with_reducible refine gate_callee (f := 68) rfl ?_); refine gl 40 Try.func68 #[.slice A0_1 l0_1.length c0_1] ?_; (with_reducible refine (impl_ascending.calls k2 _ _ l0_1 t101 _ ?side1 ?side2 A29.out).mono ?_); (case side1 => exact qc (Kd.C_below HR0_1.out HB.out)); (case side2 => exact HC0_1.out); rintro e w31 ⟨rfl, hb⟩; refine ⟨_, rfl, ?_⟩; replace BK102 := q0 (kb BK102.out hb); replace HB := q0 (below_step (qb HB.out) hb); (try clear hb); (try clear hb2); (try clear hk); (try clear hi)))
   go_ret
   exact ⟨qe, qb HB.out⟩
 rw [if_pos c9] at H
 have c9b0 : decide (x16_2 < (l0_1.length : Int)) = true := decide_eq_true c9
 clear c9
 by_cases c10 : 0 ≤ x16_2
 rotate_left
 · rw [if_neg c10] at H
   exact absurd H (by simp)
 rw [if_pos c10] at H
 have c10b0 : decide (0 ≤ x16_2) = true := decide_eq_true c10
 clear c10
 by_cases c11 : x16_2 < (l0_1.length : Int)
 rotate_left
 · rw [if_neg c11] at H
   exact absurd H (by simp)
 rw [if_pos c11] at H
 have c11b0 : decide (x16_2 < (l0_1.length : Int)) = true := decide_eq_true c11
 clear c11
 by_cases c12 : ((rd_TTie l0_1 x16_2).f0) < 0
 · rw [if_pos c12] at H
   have c12b0 : decide (((rd_TTie l0_1 x16_2).f0) < 0) = true := decide_eq_true c12
   clear c12
   obtain rfl := Option.some.inj H
   have p100 : 0 ≤ (x16_2 : Int) := of_decide_eq_true qa
   have q100 : x16_2 < (l0_1.length : Int) := of_decide_eq_true qa
   obtain ⟨ad100, e100, hx100_0, hx100_1⟩ := at_TTie HR0_1.out x16_2 p100 q100
   cases e100
   replace hx100_0 := (HB.out.cell (World.block_lt_of_cell? w _ hx100_0)).trans hx100_0
   replace hx100_1 := (HB.out.cell (World.block_lt_of_cell? w _ hx100_1)).trans hx100_1
   replace p100 := eq_true p100
   replace q100 := eq_true q100
   go_wp2_with (first | ((with_reducible refine gate_dst (N := 4) rfl ?_); refine be 4 #[.int .i64 0, .int .i64 0] 74 ?_; intro gb103 hg w13 hbox hb; have BK103 := q0 (hbox); have GW103 := q0 ((bs HB.out hg : w.heap.size ≤ gb103)); have GE103 := q0 ((bs HB.out hg : w.heap.size ≤ gb103)); replace HB := q0 (below_step (qb HB.out) hb); have NB102_103 := q0 ((bl BK102.out hg : gb102 ≠ gb103)); have NB103_102 := q0 ((bg BK102.out hg : gb103 ≠ gb102)); replace BK102 := q0 (kb BK102.out hb); clear hb hbox hg; have hnb14 := NB103_102.out; have hnc14 := NB102_103.out; have hcz15_0 : w13.cell? ⟨gb103, 0, none⟩ = some (.int .i64 0) := (blk_cell BK103.out 0).trans rfl; have hcz15_1 : w13.cell? ⟨gb103, 1, none⟩ = some (.int .i64 0) := (blk_cell BK103.out 1).trans rfl; have hfz15_0 := blk_frozen BK103.out 0; have hfz15_1 := blk_frozen BK103.out 1))
   go_ret
   exact ⟨qe, qb HB.out⟩
 rw [if_neg c12] at H
 have c12b0 : decide (((rd_TTie l0_1 x16_2).f0) < 0) = false := decide_eq_false c12
 clear c12
 by_cases c16 : ((rd_TTie l0_1 x16_2).f0) ≥ ((rd_TTie l0_1 x16_2).f1)
 · rw [if_pos c16] at H
   have c16b0 : decide (((rd_TTie l0_1 x16_2).f1) ≤ ((rd_TTie l0_1 x16_2).f0)) = true := decide_eq_true c16
   clear c16
   obtain rfl := Option.some.inj H
   have p100 : 0 ≤ (x16_2 : Int) := of_decide_eq_true qa
   have q100 : x16_2 < (l0_1.length : Int) := of_decide_eq_true qa
   obtain ⟨ad100, e100, hx100_0, hx100_1⟩ := at_TTie HR0_1.out x16_2 p100 q100
   cases e100
   replace hx100_0 := (HB.out.cell (World.block_lt_of_cell? w _ hx100_0)).trans hx100_0
   replace hx100_1 := (HB.out.cell (World.block_lt_of_cell? w _ hx100_1)).trans hx100_1
   replace p100 := eq_true p100
   replace q100 := eq_true q100
   go_wp2_with (first | ((with_reducible refine gate_dst (N := 4) rfl ?_); refine be 4 #[.int .i64 0, .int .i64 0] 74 ?_; intro gb103 hg w17 hbox hb; have BK103 := q0 (hbox); have GW103 := q0 ((bs HB.out hg : w.heap.size ≤ gb103)); have GE103 := q0 ((bs HB.out hg : w.heap.size ≤ gb103)); replace HB := q0 (below_step (qb HB.out) hb); have NB102_103 := q0 ((bl BK102.out hg : gb102 ≠ gb103)); have NB103_102 := q0 ((bg BK102.out hg : gb103 ≠ gb102)); replace BK102 := q0 (kb BK102.out hb); clear hb hbox hg; have hnb18 := NB103_102.out; have hnc18 := NB102_103.out; have hcz19_0 : w17.cell? ⟨gb103, 0, none⟩ = some (.int .i64 0) := (blk_cell BK103.out 0).trans rfl; have hcz19_1 : w17.cell? ⟨gb103, 1, none⟩ = some (.int .i64 0) := (blk_cell BK103.out 1).trans rfl; have hfz19_0 := blk_frozen BK103.out 0; have hfz19_1 := blk_frozen BK103.out 1))
   go_ret
   exact ⟨qe, qb HB.out⟩
 rw [if_neg c16] at H
 have c16b0 : decide (((rd_TTie l0_1 x16_2).f1) ≤ ((rd_TTie l0_1 x16_2).f0)) = false := decide_eq_false c16
 clear c16
 by_cases c20 : ((rd_TTie l0_1 x16_2).f1) ≥ a0_0
 · rw [if_pos c20] at H
   have c20b0 : decide (a0_0 ≤ ((rd_TTie l0_1 x16_2).f1)) = true := decide_eq_true c20
   clear c20
   obtain rfl := Option.some.inj H
   have p100 : 0 ≤ (x16_2 : Int) := of_decide_eq_true qa
   have q100 : x16_2 < (l0_1.length : Int) := of_decide_eq_true qa
   obtain ⟨ad100, e100, hx100_0, hx100_1⟩ := at_TTie HR0_1.out x16_2 p100 q100
   cases e100
   replace hx100_0 := (HB.out.cell (World.block_lt_of_cell? w _ hx100_0)).trans hx100_0
   replace hx100_1 := (HB.out.cell (World.block_lt_of_cell? w _ hx100_1)).trans hx100_1
   replace p100 := eq_true p100
   replace q100 := eq_true q100
   go_wp2_with (first | ((with_reducible refine gate_dst (N := 4) rfl ?_); refine be 4 #[.int .i64 0, .int .i64 0] 74 ?_; intro gb103 hg w21 hbox hb; have BK103 := q0 (hbox); have GW103 := q0 ((bs HB.out hg : w.heap.size ≤ gb103)); have GE103 := q0 ((bs HB.out hg : w.heap.size ≤ gb103)); replace HB := q0 (below_step (qb HB.out) hb); have NB102_103 := q0 ((bl BK102.out hg : gb102 ≠ gb103)); have NB103_102 := q0 ((bg BK102.out hg : gb103 ≠ gb102)); replace BK102 := q0 (kb BK102.out hb); clear hb hbox hg; have hnb22 := NB103_102.out; have hnc22 := NB102_103.out; have hcz23_0 : w21.cell? ⟨gb103, 0, none⟩ = some (.int .i64 0) := (blk_cell BK103.out 0).trans rfl; have hcz23_1 : w21.cell? ⟨gb103, 1, none⟩ = some (.int .i64 0) := (blk_cell BK103.out 1).trans rfl; have hfz23_0 := blk_frozen BK103.out 0; have hfz23_1 := blk_frozen BK103.out 1; have hcz24_0 : w21.cell? ⟨gb102, 0, none⟩ = some (.int .i64 a0_0) := (blk_cell BK102.out 0).trans rfl; have hcz24_1 : w21.cell? ⟨gb102, 1, none⟩ = some (.slice (some ad100) l0_1.length c0_1) := (blk_cell BK102.out 1).trans rfl; have hfz24_0 := blk_frozen BK102.out 0; have hfz24_1 := blk_frozen BK102.out 1))
   go_ret
   exact ⟨qe, qb HB.out⟩
 rw [if_neg c20] at H
 have c20b0 : decide (a0_0 ≤ ((rd_TTie l0_1 x16_2).f1)) = false := decide_eq_false c20
 clear c20
 have H' := Aside0.mk H
 clear H
 have p100 : 0 ≤ (x16_2 : Int) := of_decide_eq_true qa
 have q100 : x16_2 < (l0_1.length : Int) := of_decide_eq_true qa
 obtain ⟨ad100, e100, hx100_0, hx100_1⟩ := at_TTie HR0_1.out x16_2 p100 q100
 cases e100
 replace hx100_0 := (HB.out.cell (World.block_lt_of_cell? w _ hx100_0)).trans hx100_0
 replace hx100_1 := (HB.out.cell (World.block_lt_of_cell? w _ hx100_1)).trans hx100_1
 replace p100 := eq_true p100
 replace q100 := eq_true q100
 go_wp2_with (first | ((with_reducible refine gate_dst (N := 4) rfl ?_); refine be 4 #[.int .i64 0, .int .i64 0] 74 ?_; intro gb103 hg w25 hbox hb; have BK103 := q0 (hbox); have GW103 := q0 ((bs HB.out hg : w.heap.size ≤ gb103)); have GE103 := q0 ((bs HB.out hg : w.heap.size ≤ gb103)); replace HB := q0 (below_step (qb HB.out) hb); have NB102_103 := q0 ((bl BK102.out hg : gb102 ≠ gb103)); have NB103_102 := q0 ((bg BK102.out hg : gb103 ≠ gb102)); replace BK102 := q0 (kb BK102.out hb); clear hb hbox hg; have hnb26 := NB103_102.out; have hnc26 := NB102_103.out; have hcz27_0 : w25.cell? ⟨gb103, 0, none⟩ = some (.int .i64 0) := (blk_cell BK103.out 0).trans rfl; have hcz27_1 : w25.cell? ⟨gb103, 1, none⟩ = some (.int .i64 0) := (blk_cell BK103.out 1).trans rfl; have hfz27_0 := blk_frozen BK103.out 0; have hfz27_1 := blk_frozen BK103.out 1; have hcz28_0 : w25.cell? ⟨gb102, 0, none⟩ = some (.int .i64 a0_0) := (blk_cell BK102.out 0).trans rfl; have hcz28_1 : w25.cell? ⟨gb102, 1, none⟩ = some (.slice (some ad100) l0_1.length c0_1) := (blk_cell BK102.out 1).trans rfl; have hfz28_0 := blk_frozen BK102.out 0; have hfz28_1 := blk_frozen BK102.out 1))
 go_roundg k2
 case measure => have := HJ1.out; have := HK2.out; omega
 case rel => exact ⟨(wrap64 (x16_2 + 1)), qs, H', ⟨by have := HJ1.out; have := HK2.out; omega⟩, ⟨qf BK102.out⟩, ⟨qb HB.out⟩⟩

set_option maxHeartbeats 8000000 in
set_option maxRecDepth 100000 in
theorem impl_Net_knot.calls (a0_0 : Int) (A0_1 : Option Addr) (c0_1 : Nat) (l0_1 : List (STie)) (a1 : Int) (r : Bool) (w : World) (hr0_1 : Kd.C kTie w A0_1 l0_1.length l0_1) (hc0_1 : l0_1.length ≤ c0_1) (h : impl_Net_knot.f a0_0 l0_1 a1 = some r) :
    Calls Try.prog 48 #[.agg #[.int .i64 a0_0, .slice A0_1 l0_1.length c0_1], .int .i64 a1] w fun e w' => e = .returned (.bool r) ∧ Below w.heap.size w w' := by
 have hu31 := Try.underlying31
 have HR0_1 := Aside0.mk hr0_1
 have HC0_1 := Aside0.mk hc0_1
 clear hr0_1 hc0_1
 have HB := q0 (Below.refl w.heap.size w)
 have H : (if a1 ≥ 0 then (some (decide (a1 < a0_0))) else (some false)) = some r := h
 clear h
 by_cases c3 : a1 ≥ 0
 · rw [if_pos c3] at H
   have c3b0 : decide (0 ≤ a1) = true := decide_eq_true c3
   clear c3
   obtain rfl := Option.some.inj H
   go_enter Try.func48, Try.ntmps48
   go_wp2_with (first | ((with_reducible refine gate_dst (N := 2) rfl ?_); refine be 2 #[.int .i64 a0_0, .slice A0_1 l0_1.length c0_1] 31 ?_; intro gb100 hg w4 hbox hb; have BK100 := q0 (hbox); have GW100 := q0 ((bs HB.out hg : w.heap.size ≤ gb100)); have GE100 := q0 ((bs HB.out hg : w.heap.size ≤ gb100)); replace HB := q0 (below_step (qb HB.out) hb); clear hb hbox hg; have hcz5_0 : w4.cell? ⟨gb100, 0, none⟩ = some (.int .i64 a0_0) := (blk_cell BK100.out 0).trans rfl; have hcz5_1 : w4.cell? ⟨gb100, 1, none⟩ = some (.slice A0_1 l0_1.length c0_1) := (blk_cell BK100.out 1).trans rfl; have hfz5_0 := blk_frozen BK100.out 0; have hfz5_1 := blk_frozen BK100.out 1))
   go_ret
   exact ⟨qe, qb HB.out⟩
 rw [if_neg c3] at H
 have c3b0 : decide (0 ≤ a1) = false := decide_eq_false c3
 clear c3
 obtain rfl := Option.some.inj H
 go_enter Try.func48, Try.ntmps48
 go_wp2_with (first | ((with_reducible refine gate_dst (N := 2) rfl ?_); refine be 2 #[.int .i64 a0_0, .slice A0_1 l0_1.length c0_1] 31 ?_; intro gb100 hg w6 hbox hb; have BK100 := q0 (hbox); have GW100 := q0 ((bs HB.out hg : w.heap.size ≤ gb100)); have GE100 := q0 ((bs HB.out hg : w.heap.size ≤ gb100)); replace HB := q0 (below_step (qb HB.out) hb); clear hb hbox hg))
 go_ret
 exact ⟨qe, qb HB.out⟩

set_option maxHeartbeats 8000000 in
set_option maxRecDepth 100000 in
theorem impl_tie.calls (a0 : Int) (a1 : Int) (r1 : Int) (r2 : Int) (w : World) (h : impl_tie.f a0 a1 = some (r1, r2)) :
    Calls Try.prog 60 #[.int .i64 a0, .int .i64 a1] w fun e w' => e = .returned (.agg #[.int .i64 r1, .int .i64 r2]) ∧ Below w.heap.size w w' := by
 have hu74 := Try.underlying74
 have HB := q0 (Below.refl w.heap.size w)
 have H : (some (mn a0 a1, mx a0 a1)) = some (r1, r2) := h
 clear h
 obtain ⟨ji3, hji3⟩ : ∃ j_ : Int, (mn a0 a1) = j_ := ⟨_, rfl⟩
 replace H : (some (ji3, mx a0 a1)) = some (r1, r2) := by first | (rw [hji3] at H; exact H) | (simp only [hji3] at H ⊢; exact H)
 have hji3_ : (if a1 < a0 then a1 else a0) = ji3 := hji3
 obtain ⟨ji4, hji4⟩ : ∃ j_ : Int, (mx a0 a1) = j_ := ⟨_, rfl⟩
 replace H : (some (ji3, ji4)) = some (r1, r2) := by first | (rw [hji4] at H; exact H) | (simp only [hji4] at H ⊢; exact H)
 have hji4_ : (if a0 < a1 then a1 else a0) = ji4 := hji4
 simp only [Option.some.injEq, Prod.mk.injEq] at H
 obtain ⟨rfl, rfl⟩ := H
 go_enter Try.func60, Try.ntmps60
 go_wp2_with (first | ((with_reducible refine gate_dst (N := 4) rfl ?_); refine be 4 #[.int .i64 0, .int .i64 0] 74 ?_; intro gb100 hg w5 hbox hb; have BK100 := q0 (hbox); have GW100 := q0 ((bs HB.out hg : w.heap.size ≤ gb100)); have GE100 := q0 ((bs HB.out hg : w.heap.size ≤ gb100)); replace HB := q0 (below_step (qb HB.out) hb); clear hb hbox hg; have hcz6_0 : w5.cell? ⟨gb100, 0, none⟩ = some (.int .i64 0) := (blk_cell BK100.out 0).trans rfl; have hcz6_1 : w5.cell? ⟨gb100, 1, none⟩ = some (.int .i64 0) := (blk_cell BK100.out 1).trans rfl; have hfz6_0 := blk_frozen BK100.out 0; have hfz6_1 := blk_frozen BK100.out 1))
 refine bodyPost_ret (results_cell_row rfl _ _ gb100 74 #[.int .i64 ji3, .int .i64 ji4] (0, 0) _ rfl (by (with_reducible repeat (first | refine blk_drewN ?_ _ | refine blk_drew ?_ | refine blk_alloc ?_ _)); refine blk_put (cs := #[.int .i64 ji3, .int .i64 0]) ?_ 1 _ rfl; (with_reducible repeat (first | refine blk_drewN ?_ _ | refine blk_drew ?_ | refine blk_alloc ?_ _)); refine blk_put (cs := #[.int .i64 0, .int .i64 0]) ?_ 0 _ rfl; (with_reducible repeat (first | refine blk_drewN ?_ _ | refine blk_drew ?_ | refine blk_alloc ?_ _)); exact BK100.out) Try.underlying74 rfl (by kernel_rfl)) rfl ?_
 exact ⟨by first | rfl | (simp [errW_none, errW_some] <;> rfl) | (simp only [← hji3, ← hji4]; first | rfl | (simp [errW_none, errW_some] <;> rfl)) | (simp [*, errW_none, errW_some] <;> rfl), qb HB.out⟩

attribute [local go_sem high] eqATie
set_option maxHeartbeats 8000000 in
set_option maxRecDepth 100000 in
theorem slices_Index_Tie.calls (k : Nat) (A0 : Option Addr) (c0 : Nat) (l0 : List (STie)) (a1_0 : Int) (a1_1 : Int) (r : Int) (w : World) (hr0 : Kd.C kTie w A0 l0.length l0) (hc0 : l0.length ≤ c0) (h : slices_Index_Tie.f k l0 a1_0 a1_1 = some r) :
    Calls Try.prog 87 #[.slice A0 l0.length c0, .agg #[.int .i64 a1_0, .int .i64 a1_1]] w fun e w' => e = .returned (.int .i64 r) ∧ Below w.heap.size w w' := by
 have hu74 := Try.underlying74
 have HR0 := Aside0.mk hr0
 have HC0 := Aside0.mk hc0
 clear hr0 hc0
 have HB := q0 (Below.refl w.heap.size w)
 have H : (slices_Index_Tie.l0 k l0 (l0.length : Int) 0 a1_0 a1_1) = some r := h
 clear h
 have H' := Aside0.mk H
 clear H
 go_enter Try.func87, Try.ntmps87
 go_wp2_with (first | ((with_reducible refine gate_dst (N := 3) rfl ?_); refine be 3 #[.int .i64 a1_0, .int .i64 a1_1] 74 ?_; intro gb101 hg w3 hbox hb; have BK101 := q0 (hbox); have GW101 := q0 ((bs HB.out hg : w.heap.size ≤ gb101)); have GE101 := q0 ((bs HB.out hg : w.heap.size ≤ gb101)); replace HB := q0 (below_step (qb HB.out) hb); clear hb hbox hg))
 repeat (go_quiet (first | ((with_reducible refine gate_dst (N := 3) rfl ?_); refine be 3 #[.int .i64 a1_0, .int .i64 a1_1] 74 ?_; intro gb101 hg w3 hbox hb; have BK101 := q0 (hbox); have GW101 := q0 ((bs HB.out hg : w.heap.size ≤ gb101)); have GE101 := q0 ((bs HB.out hg : w.heap.size ≤ gb101)); replace HB := q0 (below_step (qb HB.out) hb); clear hb hbox hg)); try go_wp2_with (first | ((with_reducible refine gate_dst (N := 3) rfl ?_); refine be 3 #[.int .i64 a1_0, .int .i64 a1_1] 74 ?_; intro gb101 hg w3 hbox hb; have BK101 := q0 (hbox); have GW101 := q0 ((bs HB.out hg : w.heap.size ≤ gb101)); have GE101 := q0 ((bs HB.out hg : w.heap.size ≤ gb101)); replace HB := q0 (below_step (qb HB.out) hb); clear hb hbox hg)))
 go_loopg [8] k (fun kq v8 w' => ∃ (x8_1 : Int), v8 = .int .i64 x8_1 ∧ Aside0 (slices_Index_Tie.l0 kq l0 (l0.length : Int) x8_1 a1_0 a1_1 = some r) ∧ Aside0 (kq ≤ k) ∧ Aside0 (w'.heap[gb101]? = some (.cells #[.int .i64 a1_0, .int .i64 a1_1] 74 (0, 0))) ∧ Aside0 (Below w.heap.size w w'))
 case atStart => exact ⟨(0), qs, H', ⟨Nat.le_refl _⟩, ⟨qk BK101.out⟩, ⟨qb HB.out⟩⟩
 clear H'
 try clear p2
 obtain ⟨x8_1, rfl, HA, HK1, BK101, HB⟩ := hrel
 rcases gk with _ | k1
 · exact absurd HA.out (by simp [slices_Index_Tie.l0])
 have H := HA.out
 clear HA
 simp only [slices_Index_Tie.l0] at H
 by_cases c4 : x8_1 < (l0.length : Int)
 rotate_left
 · rw [if_neg c4] at H
   have c4b0 : decide (x8_1 < (l0.length : Int)) = false := decide_eq_false c4
   clear c4
   obtain rfl := Option.some.inj H
   go_wp2
   repeat (go_quiet (fail); try go_wp2)
   go_ret
   exact ⟨qe, qb HB.out⟩
 rw [if_pos c4] at H
 have c4b0 : decide (x8_1 < (l0.length : Int)) = true := decide_eq_true c4
 clear c4
 by_cases c5 : 0 ≤ x8_1
 rotate_left
 · rw [if_neg c5] at H
   exact absurd H (by simp)
 rw [if_pos c5] at H
 have c5b0 : decide (0 ≤ x8_1) = true := decide_eq_true c5
 clear c5
 by_cases c6 : x8_1 < (l0.length : Int)
 rotate_left
 · rw [if_neg c6] at H
   exact absurd H (by simp)
 rw [if_pos c6] at H
 have c6b0 : decide (x8_1 < (l0.length : Int)) = true := decide_eq_true c6
 clear c6
 by_cases c7 : (a1_0 == ((rd_TTie l0 x8_1).f0) && (a1_1 == ((rd_TTie l0 x8_1).f1))) = true
 · rw [if_pos c7] at H
   have c7b0 : (a1_0 == ((rd_TTie l0 x8_1).f0) && (a1_1 == ((rd_TTie l0 x8_1).f1))) = true := c7
   (try (have c7b1 : decide (a1_0 = ((rd_TTie l0 x8_1).f0) && (a1_1 == ((rd_TTie l0 x8_1).f1))) = true := by simpa using c7))
   (try (have c7b2 : (a1_0 == ((rd_TTie l0 x8_1).f0) && (a1_1 == ((rd_TTie l0 x8_1).f1))) = true := by simpa using c7))
   clear c7
   obtain rfl := Option.some.inj H
   have hcz8_0 : wr.cell? ⟨gb101, 0, none⟩ = some (.int .i64 a1_0) := (blk_cell BK101.out 0).trans rfl
   have hcz8_1 : wr.cell? ⟨gb101, 1, none⟩ = some (.int .i64 a1_1) := (blk_cell BK101.out 1).trans rfl
   have hfz8_0 := blk_frozen BK101.out 0
   have hfz8_1 := blk_frozen BK101.out 1
   have p100 : 0 ≤ (x8_1 : Int) := of_decide_eq_true qa
   have q100 : x8_1 < (l0.length : Int) := of_decide_eq_true qa
   obtain ⟨ad100, e100, hx100_0, hx100_1⟩ := at_TTie HR0.out x8_1 p100 q100
   cases e100
   replace hx100_0 := (HB.out.cell (World.block_lt_of_cell? w _ hx100_0)).trans hx100_0
   replace hx100_1 := (HB.out.cell (World.block_lt_of_cell? w _ hx100_1)).trans hx100_1
   replace p100 := eq_true p100
   replace q100 := eq_true q100
   go_wp2
   repeat (go_quiet (fail); try go_wp2)
   go_ret
   exact ⟨qe, qb HB.out⟩
 rw [if_neg c7] at H
 have c7b0 : (a1_0 == ((rd_TTie l0 x8_1).f0) && (a1_1 == ((rd_TTie l0 x8_1).f1))) = false := by simpa using c7
 (try (have c7b1 : decide (a1_0 = ((rd_TTie l0 x8_1).f0) && (a1_1 == ((rd_TTie l0 x8_1).f1))) = false := by simpa using c7))
 (try (have c7b2 : (a1_0 == ((rd_TTie l0 x8_1).f0) && (a1_1 == ((rd_TTie l0 x8_1).f1))) = false := by simpa using c7))
 (try (have c7b3 : ¬ (a1_0 = ((rd_TTie l0 x8_1).f0) && (a1_1 == ((rd_TTie l0 x8_1).f1))) := by simpa using c7))
 clear c7
 have H' := Aside0.mk H
 clear H
 have hcz9_0 : wr.cell? ⟨gb101, 0, none⟩ = some (.int .i64 a1_0) := (blk_cell BK101.out 0).trans rfl
 have hcz9_1 : wr.cell? ⟨gb101, 1, none⟩ = some (.int .i64 a1_1) := (blk_cell BK101.out 1).trans rfl
 have hfz9_0 := blk_frozen BK101.out 0
 have hfz9_1 := blk_frozen BK101.out 1
 have p100 : 0 ≤ (x8_1 : Int) := of_decide_eq_true qa
 have q100 : x8_1 < (l0.length : Int) := of_decide_eq_true qa
 obtain ⟨ad100, e100, hx100_0, hx100_1⟩ := at_TTie HR0.out x8_1 p100 q100
 cases e100
 replace hx100_0 := (HB.out.cell (World.block_lt_of_cell? w _ hx100_0)).trans hx100_0
 replace hx100_1 := (HB.out.cell (World.block_lt_of_cell? w _ hx100_1)).trans hx100_1
 replace p100 := eq_true p100
 replace q100 := eq_true q100
 go_wp2
 repeat (go_quiet (fail); try go_wp2)
 go_roundg k1
 case measure => have := HK1.out; omega
 case rel => exact ⟨(wrap64 (x8_1 + 1)), qs, H', ⟨by have := HK1.out; omega⟩, ⟨qk BK101.out⟩, ⟨qb HB.out⟩⟩

set_option maxHeartbeats 8000000 in
set_option maxRecDepth 100000 in
theorem slices_Contains_Tie.calls (k : Nat) (A0 : Option Addr) (c0 : Nat) (l0 : List (STie)) (a1_0 : Int) (a1_1 : Int) (r : Bool) (w : World) (hr0 : Kd.C kTie w A0 l0.length l0) (hc0 : l0.length ≤ c0) (h : slices_Contains_Tie.f k l0 a1_0 a1_1 = some r) :
    Calls Try.prog 74 #[.slice A0 l0.length c0, .agg #[.int .i64 a1_0, .int .i64 a1_1]] w fun e w' => e = .returned (.bool r) ∧ Below w.heap.size w w' := by
 have hu74 := Try.underlying74
 have HR0 := Aside0.mk hr0
 have HC0 := Aside0.mk hc0
 clear hr0 hc0
 have HB := q0 (Below.refl w.heap.size w)
 have H : ((slices_Index_Tie.f k l0 a1_0 a1_1).bind fun t100 => (some (decide (t100 ≥ 0)))) = some r := h
 clear h
 replace H := Option.bind_eq_some_iff.mp H
 obtain ⟨t100, A30, H⟩ := H
 have A3 := Aside0.mk A30
 clear A30
 obtain rfl := Option.some.inj H
 go_enter Try.func74, Try.ntmps74
 go_wp2_with (first | ((with_reducible refine gate_dst (N := 3) rfl ?_); refine be 3 #[.int .i64 a1_0, .int .i64 a1_1] 74 ?_; intro gb101 hg w4 hbox hb; have BK101 := q0 (hbox); have GW101 := q0 ((bs HB.out hg : w.heap.size ≤ gb101)); have GE101 := q0 ((bs HB.out hg : w.heap.size ≤ gb101)); replace HB := q0 (below_step (qb HB.out) hb); clear hb hbox hg; have hcz5_0 : w4.cell? ⟨gb101, 0, none⟩ = some (.int .i64 a1_0) := (blk_cell BK101.out 0).trans rfl; have hcz5_1 : w4.cell? ⟨gb101, 1, none⟩ = some (.int .i64 a1_1) := (blk_cell BK101.out 1).trans rfl; have hfz5_0 := blk_frozen BK101.out 0; have hfz5_1 := blk_frozen BK101.out 1) | ((with_reducible refine gate_callee (f := 87) rfl ?_); refine gl 7 Try.func87 #[.slice A0 l0.length c0, .agg #[.int .i64 a1_0, .int .i64 a1_1]] ?_; (with_reducible refine (slices_Index_Tie.calls k _ _ l0 a1_0 a1_1 t100 _ ?side1 ?side2 A3.out).mono ?_); (case side1 => exact qc (Kd.C_below HR0.out HB.out)); (case side2 => exact HC0.out); rintro e w6 ⟨rfl, hb⟩; refine ⟨_, rfl, ?_⟩; replace BK101 := q0 (kb BK101.out hb); replace HB := q0 (below_step (qb HB.out) hb); (try clear hb); (try clear hb2); (try clear hk); (try clear hi)))
 go_ret
 exact ⟨qe, qb HB.out⟩

set_option maxHeartbeats 8000000 in
set_option maxRecDepth 100000 in
theorem impl_Net_has.calls (k : Nat) (a0_0 : Int) (A0_1 : Option Addr) (c0_1 : Nat) (l0_1 : List (STie)) (a1 : Int) (a2 : Int) (r : Bool) (w : World) (hr0_1 : Kd.C kTie w A0_1 l0_1.length l0_1) (hc0_1 : l0_1.length ≤ c0_1) (h : impl_Net_has.f k a0_0 l0_1 a1 a2 = some r) :
    Calls Try.prog 52 #[.agg #[.int .i64 a0_0, .slice A0_1 l0_1.length c0_1], .int .i64 a1, .int .i64 a2] w fun e w' => e = .returned (.bool r) ∧ Below w.heap.size w w' := by
 have hu31 := Try.underlying31
 have HR0_1 := Aside0.mk hr0_1
 have HC0_1 := Aside0.mk hc0_1
 clear hr0_1 hc0_1
 have HB := q0 (Below.refl w.heap.size w)
 have H : ((impl_tie.f a1 a2).bind fun bt100 => ((slices_Contains_Tie.f k l0_1 bt100.1 bt100.2).bind fun t101 => (some t101))) = some r := h
 clear h
 replace H := Option.bind_eq_some_iff.mp H
 obtain ⟨⟨t100, t102⟩, A40, H⟩ := H
 have A4 := Aside0.mk A40
 clear A40
 replace H := Option.bind_eq_some_iff.mp H
 obtain ⟨t101, A50, H⟩ := H
 have A5 := Aside0.mk A50
 clear A50
 obtain rfl := Option.some.inj H
 go_enter Try.func52, Try.ntmps52
 try go_wp2_with (first | ((with_reducible refine gate_dst (N := 3) rfl ?_); refine be 3 #[.int .i64 a0_0, .slice A0_1 l0_1.length c0_1] 31 ?_; intro gb103 hg w6 hbox hb; have BK103 := q0 (hbox); have GW103 := q0 ((bs HB.out hg : w.heap.size ≤ gb103)); have GE103 := q0 ((bs HB.out hg : w.heap.size ≤ gb103)); replace HB := q0 (below_step (qb HB.out) hb); clear hb hbox hg))
 replace BK103 := q0 (blk_drew BK103.out)
 replace HB := q0 (below_drew1 HB.out)
 refine start_ (n := 7) (S := fun w' => w'.cell? ⟨gb103, 0, none⟩ = some (.int .i64 a0_0) ∧ w'.cell? ⟨gb103, 1, none⟩ = some (.slice A0_1 l0_1.length c0_1)) (ds := []) (ba 7 0) (by kernel_rfl) rfl (by kernel_rfl) ⟨(blk_cell BK103.out 0).trans rfl, (blk_cell BK103.out 1).trans rfl⟩ (fun hHeld => ?_)
 generalize w6.drew = w7 at BK103 HB hHeld ⊢
 refine pw 0 (some 7) (ba 7 1) ?_
 refine pw 2 (some 9) (ba 7 5) ?_
 refine pw 3 (some 10) (ba 7 13) ?_
 refine tw 1 (some 8) (ba 7 15) hHeld ?_
 refine one_ (i := 4) (N := some 11) (ba 7 31) rfl rfl (by kernel_rfl) (by decide) (fun K hK => ?_)
 refine goes_ Try.func60 (by kernel_rfl) rfl #[.int .i64 a1, .int .i64 a2] (by rfl) rfl rfl qm ?_
 with_reducible refine (impl_tie.calls a1 a2 t100 t102 _ A4.out).mono ?_
 rintro e w8 ⟨rfl, hb⟩
 refine ⟨_, rfl, ?_⟩
 replace BK103 := q0 (kb BK103.out hb)
 replace HB := q0 (below_step (qb HB.out) hb)
 (try clear hb)
 (try clear hb2)
 (try clear hk)
 (try clear hi)
 refine hK.out _ _ ⟨(blk_cell BK103.out 0).trans rfl, (blk_cell BK103.out 1).trans rfl⟩ (fun hHeld => ?_)
 clear hK K
 refine nu 11 ?_
 refine one_ (i := 5) (N := some 12) (ba 7 63) rfl rfl (by kernel_rfl) (by decide) (fun K hK => ?_)
 refine goes_ Try.func74 (by kernel_rfl) rfl #[.slice A0_1 l0_1.length c0_1, .agg #[.int .i64 t100, .int .i64 t102]] (by rfl) rfl rfl qm ?_
 with_reducible refine (slices_Contains_Tie.calls k _ _ l0_1 t100 t102 t101 _ ?side1 ?side2 A5.out).mono ?_
 (case side1 => exact qc (Kd.C_below HR0_1.out HB.out))
 (case side2 => exact HC0_1.out)
 rintro e w9 ⟨rfl, hb⟩
 refine ⟨_, rfl, ?_⟩
 replace BK103 := q0 (kb BK103.out hb)
 replace HB := q0 (below_step (qb HB.out) hb)
 (try clear hb)
 (try clear hb2)
 (try clear hk)
 (try clear hi)
 refine hK.out _ _ ⟨(blk_cell BK103.out 0).trans rfl, (blk_cell BK103.out 1).trans rfl⟩ (fun hHeld => ?_)
 clear hK K
 refine nu 12 ?_
 refine pw 6 (some 6) (ba 7 127) ?_
 refine done_ (by kernel_rfl) ?_
 try go_wp2
 go_ret
 exact ⟨qe, qb HB.out⟩

set_option maxHeartbeats 8000000 in
set_option maxRecDepth 100000 in
theorem slices_Index_int.calls (k : Nat) (A0 : Option Addr) (c0 : Nat) (l0 : List Int) (a1 : Int) (r : Int) (w : World) (hr0 : Kd.C (Kd.int .i64) w A0 l0.length l0) (hc0 : l0.length ≤ c0) (h : slices_Index_int.f k l0 a1 = some r) :
    Calls Try.prog 90 #[.slice A0 l0.length c0, .int .i64 a1] w fun e w' => e = .returned (.int .i64 r) ∧ Drawn0 w w' := by
 have HR0 := Aside0.mk hr0
 have HC0 := Aside0.mk hc0
 clear hr0 hc0
 have H : (slices_Index_int.l0 k l0 a1 (l0.length : Int) 0) = some r := h
 clear h
 have H' := Aside0.mk H
 clear H
 go_enter Try.func90, Try.ntmps90
 go_wp2
 go_loopg [8] k (fun kq v8 w' => ∃ (x8_1 : Int), v8 = .int .i64 x8_1 ∧ Aside0 (slices_Index_int.l0 kq l0 a1 (l0.length : Int) x8_1 = some r) ∧ Aside0 (kq ≤ k) ∧ Drawn0 w w')
 case atStart => exact ⟨(0), qs, H', ⟨Nat.le_refl _⟩, by repeat (first | exact Drawn0.refl _ | apply Drawn0.step)⟩
 clear H'
 try clear p2
 obtain ⟨x8_1, rfl, HA, HK1, ⟨m1, rfl⟩⟩ := hrel
 rcases gk with _ | k1
 · exact absurd HA.out (by simp [slices_Index_int.l0])
 have H := HA.out
 clear HA
 simp only [slices_Index_int.l0] at H
 by_cases c3 : x8_1 < (l0.length : Int)
 rotate_left
 · rw [if_neg c3] at H
   have c3b0 : decide (x8_1 < (l0.length : Int)) = false := decide_eq_false c3
   clear c3
   obtain rfl := Option.some.inj H
   go_wp2
   go_ret
   exact ⟨by first | rfl | (simp; done) | (simp [*]; done), by repeat (first | exact Drawn0.refl _ | apply Drawn0.step)⟩
 rw [if_pos c3] at H
 have c3b0 : decide (x8_1 < (l0.length : Int)) = true := decide_eq_true c3
 clear c3
 by_cases c4 : 0 ≤ x8_1
 rotate_left
 · rw [if_neg c4] at H
   exact absurd H (by simp)
 rw [if_pos c4] at H
 have c4b0 : decide (0 ≤ x8_1) = true := decide_eq_true c4
 clear c4
 by_cases c5 : x8_1 < (l0.length : Int)
 rotate_left
 · rw [if_neg c5] at H
   exact absurd H (by simp)
 rw [if_pos c5] at H
 have c5b0 : decide (x8_1 < (l0.length : Int)) = true := decide_eq_true c5
 clear c5
 by_cases c6 : a1 = (rd l0 x8_1)
 · rw [if_pos c6] at H
   have c6b0 : (a1 == (rd l0 x8_1)) = true := beq_iff_eq.mpr c6
   have c6b1 : (a1 != (rd l0 x8_1)) = false := bne_eq_false_iff_eq.mpr c6
   clear c6
   obtain rfl := Option.some.inj H
   have p100 : 0 ≤ (x8_1 : Int) := of_decide_eq_true qa
   have q100 : x8_1 < (l0.length : Int) := of_decide_eq_true qa
   obtain ⟨ad100, e100, hx100_0⟩ := Kd.at_int HR0.out x8_1 p100 q100
   cases e100
   replace p100 := eq_true p100
   replace q100 := eq_true q100
   go_wp2
   go_ret
   exact ⟨by first | rfl | (simp; done) | (simp [*]; done), by repeat (first | exact Drawn0.refl _ | apply Drawn0.step)⟩
 rw [if_neg c6] at H
 have c6b0 : (a1 == (rd l0 x8_1)) = false := beq_eq_false_iff_ne.mpr c6
 have c6b1 : (a1 != (rd l0 x8_1)) = true := bne_iff_ne.mpr c6
 have H' := Aside0.mk H
 clear H
 have p100 : 0 ≤ (x8_1 : Int) := of_decide_eq_true qa
 have q100 : x8_1 < (l0.length : Int) := of_decide_eq_true qa
 obtain ⟨ad100, e100, hx100_0⟩ := Kd.at_int HR0.out x8_1 p100 q100
 cases e100
 replace p100 := eq_true p100
 replace q100 := eq_true q100
 go_wp2
 go_roundg k1
 case measure => have := HK1.out; omega
 case rel => exact ⟨(wrap64 (x8_1 + 1)), qs, H', ⟨by have := HK1.out; omega⟩, by repeat (first | exact Drawn0.refl _ | apply Drawn0.step)⟩

set_option maxHeartbeats 8000000 in
set_option maxRecDepth 100000 in
theorem slices_Contains_int.calls (k : Nat) (A0 : Option Addr) (c0 : Nat) (l0 : List Int) (a1 : Int) (r : Bool) (w : World) (hr0 : Kd.C (Kd.int .i64) w A0 l0.length l0) (hc0 : l0.length ≤ c0) (h : slices_Contains_int.f k l0 a1 = some r) :
    Calls Try.prog 77 #[.slice A0 l0.length c0, .int .i64 a1] w fun e w' => e = .returned (.bool r) ∧ Drawn0 w w' := by
 have HR0 := Aside0.mk hr0
 have HC0 := Aside0.mk hc0
 clear hr0 hc0
 have H : ((slices_Index_int.f k l0 a1).bind fun t100 => (some (decide (t100 ≥ 0)))) = some r := h
 clear h
 replace H := Option.bind_eq_some_iff.mp H
 obtain ⟨t100, A30, H⟩ := H
 have A3 := Aside0.mk A30
 clear A30
 obtain rfl := Option.some.inj H
 go_enter Try.func77, Try.ntmps77
 go_wp2_with (first | ((with_reducible refine gate_callee (f := 90) rfl ?_); refine gl 7 Try.func90 #[.slice A0 l0.length c0, .int .i64 a1] ?_; (with_reducible refine (slices_Index_int.calls k _ _ l0 a1 t100 _ ?side1 ?side2 A3.out).mono ?_); (case side1 => repeat (first | exact HR0.out | (with_reducible refine Kd.C_alloc ?_ _) | (with_reducible refine Kd.C_drewN ?_ _) | (with_reducible refine Kd.C_drew ?_))); (case side2 => exact HC0.out); rintro e w' ⟨rfl, ⟨nd, rfl⟩⟩; refine ⟨_, rfl, ?_⟩))
 go_ret
 exact ⟨by first | rfl | (simp; done) | (simp [*]; done), by repeat (first | exact Drawn0.refl _ | apply Drawn0.step)⟩

set_option maxHeartbeats 8000000 in
set_option maxRecDepth 100000 in
theorem slices_Clone_int.calls (A0 : Option Addr) (c0 : Nat) (l0 : List Int) (r : List Int) (w : World) (hr0 : Kd.C (Kd.int .i64) w A0 l0.length l0) (hc0 : l0.length ≤ c0) (h : slices_Clone_int.f l0 = some r) :
    Calls Try.prog 84 #[.slice A0 l0.length c0] w fun e w' => ∃ v0_ : Value, e = .returned (v0_) ∧ Kd.R (Kd.int .i64) 3 w' w.heap.size (fun _ => True) v0_ r ∧ Below w.heap.size w w' := by
 have q26 : ∀ (w : World) (a : Option Addr) (n c n2 c2 : Nat), (binOp .eql 26 (.slice a n c) (.slice none n2 c2)).run Try.prog w = .ok (.bool a.isNone) w := fun w a n c n2 c2 => Go.Lib.run_eql_slice_nil w _ _ a n c n2 c2 Try.underlying26
 rcases A0 with _ | a0_
 · have hl0 : l0 = [] := by
     cases l0 with
     | nil => rfl
     | cons x l =>
       obtain ⟨ad, c, e, _⟩ := Kd.C_get hr0 0 0 (by omega) (by simp only [List.length_cons]; omega)
       cases e
   subst hl0
   obtain rfl : r = [] := by simp [slices_Clone_int.f] at h; exact h
   go_enter Try.func84, Try.ntmps84
   go_wp2
   go_ret
   exact ⟨_, rfl, Kd.R_nil _ _ _ _ _, Below.refl _ _⟩
 have HR0 := Aside0.mk hr0
 have HC0 := Aside0.mk hc0
 clear hr0 hc0
 have HB := q0 (Below.refl w.heap.size w)
 have H : ((some (([] : List Int) : List Int)).bind fun y100 => (if y100.length + l0.length < 17592186044416 then (some (y100 ++ l0)) else (none))) = some r := h
 clear h
 obtain ⟨y100, hy100⟩ : ∃ y_ : List Int, y_ = (([] : List Int)) := ⟨_, rfl⟩
 replace H : (if y100.length + l0.length < 17592186044416 then (some (y100 ++ l0)) else (none)) = some r := qy H hy100
 have Ny100 := Aside0.mk hy100
 clear hy100
 by_cases c2 : y100.length + l0.length < 17592186044416
 rotate_left
 · rw [if_neg c2] at H
   exact absurd H (by simp)
 rw [if_pos c2] at H
 have LMc2 := Aside0.mk c2
 clear c2
 obtain ⟨y101, hy101⟩ : ∃ y_ : List Int, y_ = (y100 ++ l0) := ⟨_, rfl⟩
 replace H : (some y101) = some r := qy H hy101
 have Ny101 := Aside0.mk hy101
 clear hy101
 obtain rfl := Option.some.inj H
 go_enter Try.func84, Try.ntmps84
 go_wp2_with (first | ((with_reducible refine gate_dst (N := 5) rfl ?_); refine Kd.R_lit (Kd.int .i64) _ 3 ?hg (N := 5) ?hd (xs := ([] : List Int)) (inner := []) (ok := fun _ => True) (okp := fun _ => True) ?hr ?hp (fun _ hk => hk) trivial (Below.refl _ _) (Nat.le_refl _) (by simp) ?_; (case hd => rfl); (case hg => rfl); (case hr => first | (go_simp; done) | (go_simp; rfl)); (case hp => exact (Reps.none _ _)); intro v102 w3 ho4 hb hg_ hnew_; clear hg_ hnew_; (first | rw [← Ny100.out] at ho4 | (simp only [Int.reduceToNat] at ho4; rw [← Ny100.out] at ho4)); have HO103 := q0 (Kd.R_lower ho4 (below_size (qb HB.out))); replace HB := q0 (below_step (qb HB.out) hb); clear hb ho4) | ((with_reducible refine gate_builtin (b := .append) (xs := #[.tmp 5, .tmp 6]) rfl ?_); at_builtin; refine Kd.R_append_rows (Kd.int .i64) (w0 := w) w.heap.size rfl (.tmp 5) (.tmp 6) 26 3 (.int .i64 0) 8 rfl Try.underlying26 info3 rfl (by decide) (by omega) v102 y100 l0 _ _ _ (fun _ => True) (fun _ => False) rfl rfl ?aO ?aR (fun _ _ h => h) (fun _ h => h.elim) ?aF ?aB ?aS ?aL ?_; (case aR => repeat (first | exact (Kd.C_below HR0.out HB.out) | (with_reducible refine Kd.C_alloc ?_ _) | (with_reducible refine Kd.C_drewN ?_ _) | (with_reducible refine Kd.C_drew ?_))); (case aB => exact (qb HB.out)); (case aF => exact (fun _ _ => trivial)); (case aO => exact (qr HO103.out)); (case aS => exact (below_size (qb HB.out))); (case aL => have := LMc2.out; omega); intro v104 w5 ho hb hg hat; rw [← Ny101.out] at ho; replace HB := q0 (hb); have HO105 := q0 (ho); clear HO103; clear ho hb hg hat))
 go_ret
 exact ⟨_, qe, qr HO105.out, qb HB.out⟩

def impl_Net_ways.T8 : Bool × List (List Nat × List Nat) := (true, [([], []), ([], []), ([1], [1]), ([], []), ([3], [3]), ([2, 4, 2], [2, 4]), ([], []), ([], []), ([0, 5, 6, 7, 5], [0, 5, 6, 7]), ([8, 8, 0, 1, 2, 3, 4, 5, 6, 7, 8], [7, 8])])
def impl_Net_ways.B8 : List Nat := [0, 0, 2, 0, 8, 30, 0, 0, 255, 511]
theorem impl_Net_ways.tab8 : rtab .any (opsOf Try.f69 8) = impl_Net_ways.T8 := by kernel_rfl
theorem impl_Net_ways.bits8 : waitsOk impl_Net_ways.T8.2 impl_Net_ways.B8 = true := by kernel_rfl
set_option maxHeartbeats 8000000 in
set_option maxRecDepth 100000 in
theorem impl_Net_ways.calls (k : Nat) : ∀ (a0_0 : Int) (A0_1 : Option Addr) (c0_1 : Nat) (l0_1 : List (STie)) (A1 : Option Addr) (c1 : Nat) (l1 : List Int) (a2 : Int) (P3_ : Nat → Prop) (u107_ : Value) (l3 : List (List Int)) (r : List (List Int)) (w0 w : World) (hB : Below w0.heap.size w0 w) (hr0_1 : ∀ W_, Kept w W_ (fun k_ => P3_ k_) → Kd.C kTie W_ A0_1 l0_1.length l0_1) (hc0_1 : l0_1.length ≤ c0_1) (hr1 : ∀ W_, Kept w W_ (fun k_ => P3_ k_) → Kd.C (Kd.int .i64) W_ A1 l1.length l1) (hc1 : l1.length ≤ c1) (ho3 : Kd.S (Kd.slice 3 (Kd.int .i64)) 26 w w0.heap.size P3_ u107_ l3) (h : impl_Net_ways.f k a0_0 l0_1 l1 a2 l3 = some r),
    Calls Try.prog 69 #[.agg #[.int .i64 a0_0, .slice A0_1 l0_1.length c0_1], .slice A1 l1.length c1, .int .i64 a2, u107_] w fun e w' => ∃ v0_ : Value, e = .returned (v0_) ∧ Kd.S (Kd.slice 3 (Kd.int .i64)) 26 w' w0.heap.size (fun k_ => (P3_ k_ ∨ w.heap.size ≤ k_)) v0_ r ∧ Below w0.heap.size w0 w' ∧ Kept w w' (fun k_ => P3_ k_) := by
 induction k using Nat.strongRecOn with
 | _ k ih =>
 intro a0_0 A0_1 c0_1 l0_1 A1 c1 l1 a2 P3_ u107_ l3 r w0 w hB hr0_1 hc0_1 hr1 hc1 ho3 h
 cases k with
 | zero => exact absurd h (by simp [impl_Net_ways.f])
 | succ k =>
 simp only [impl_Net_ways.f] at h
 have hu31 := Try.underlying31
 have HR0_1 := Aside0.mk hr0_1
 have HC0_1 := Aside0.mk hc0_1
 clear hr0_1 hc0_1
 have HR1 := Aside0.mk hr1
 have HC1 := Aside0.mk hc1
 clear hr1 hc1
 have HO3 := q0 (show Kd.S (Kd.slice 3 (Kd.int .i64)) 26 w w0.heap.size (fun k_ => (P3_ k_ ∨ w.heap.size ≤ k_)) u107_ l3 from Kd.S_mono ho3 (fun k_ hk => (.inl hk)))
 have HK := q0 (Kept.refl w (fun k_ => P3_ k_))
 have HW0 := Aside0.mk hB.size
 have HB := Aside0.mk hB
 clear hB
 have H : (if 0 ≤ (wrap64 ((l1.length : Int) - 1)) then (if (wrap64 ((l1.length : Int) - 1)) < (l1.length : Int) then (if (rd l1 (wrap64 ((l1.length : Int) - 1))) = a2 then ((slices_Clone_int.f l1).bind fun t106 => (if l3.length < 5864062014805 then (some (l3 ++ [t106])) else (none))) else (impl_Net_ways.l0 k l1 a2 l3 (rd l1 (wrap64 ((l1.length : Int) - 1))) a0_0 0 a0_0 l0_1)) else (none)) else (none)) = some r := h
 clear h
 obtain ⟨ji5, hji5⟩ : ∃ j_ : Int, (wrap64 ((l1.length : Int) - 1)) = j_ := ⟨_, rfl⟩
 replace H : (if 0 ≤ (ji5) then (if (ji5) < (l1.length : Int) then (if (rd l1 (ji5)) = a2 then ((slices_Clone_int.f l1).bind fun t106 => (if l3.length < 5864062014805 then (some (l3 ++ [t106])) else (none))) else (impl_Net_ways.l0 k l1 a2 l3 (rd l1 (ji5)) a0_0 0 a0_0 l0_1)) else (none)) else (none)) = some r := by first | (rw [hji5] at H; exact H) | (simp only [hji5] at H ⊢; exact H)
 have hji5w : (IntKind.i64.wrap ((l1.length : Int) - 1)) = ji5 := (i64_w _).trans hji5
 by_cases c6 : 0 ≤ (ji5)
 rotate_left
 · rw [if_neg c6] at H
   exact absurd H (by simp)
 rw [if_pos c6] at H
 have c6b0 : decide (0 ≤ (ji5)) = true := decide_eq_true c6
 clear c6
 by_cases c7 : (ji5) < (l1.length : Int)
 rotate_left
 · rw [if_neg c7] at H
   exact absurd H (by simp)
 rw [if_pos c7] at H
 have c7b0 : decide ((ji5) < (l1.length : Int)) = true := decide_eq_true c7
 clear c7
 by_cases c8 : (rd l1 (ji5)) = a2
 · rw [if_pos c8] at H
   have c8b0 : ((rd l1 (ji5)) == a2) = true := beq_iff_eq.mpr c8
   have c8b1 : ((rd l1 (ji5)) != a2) = false := bne_eq_false_iff_eq.mpr c8
   clear c8
   replace H := Option.bind_eq_some_iff.mp H
   obtain ⟨t106, A106, H⟩ := H
   have A9 := Aside0.mk A106
   clear A106
   by_cases c9 : l3.length < 5864062014805
   rotate_left
   · rw [if_neg c9] at H
     exact absurd H (by simp)
   rw [if_pos c9] at H
   have LMc9 := Aside0.mk c9
   clear c9
   obtain ⟨y108, hy108⟩ : ∃ y_ : List (List Int), y_ = (l3 ++ [t106]) := ⟨_, rfl⟩
   replace H : (some y108) = some r := qy H hy108
   have Ny108 := Aside0.mk hy108
   clear hy108
   obtain rfl := Option.some.inj H
   go_enter Try.func69, Try.ntmps69
   go_wp2_with (first | ((with_reducible refine gate_dst (N := 4) rfl ?_); refine be 4 #[.int .i64 a0_0, .slice A0_1 l0_1.length c0_1] 31 ?_; intro gb109 hg w10 hbox hb; replace HO3 := q0 (Kd.S_below (qv HO3.out) hb); have BK109 := q0 (hbox); have GW109 := q0 ((by rw [hg]; exact (by first | exact HK.out.1 | exact (qp HK.out).1) : w.heap.size ≤ gb109)); replace HK := q0 (Kept.below (S := (fun k_ => P3_ k_)) (qp HK.out) hb); have GE109 := q0 ((bs HB.out hg : w0.heap.size ≤ gb109)); replace HB := q0 (below_step (qb HB.out) hb); clear hb hbox hg; have p100 : 0 ≤ ((ji5) : Int) := of_decide_eq_true qa; have q100 : (ji5) < (l1.length : Int) := of_decide_eq_true qa; obtain ⟨ad100, e100, hx100_0⟩ := Kd.at_int (Kd.C_kept_now HR1.out HK.out) (ji5) p100 q100; cases e100; replace p100 := eq_true p100; replace q100 := eq_true q100) | ((with_reducible refine gate_callee (f := 84) rfl ?_); refine gl 22 Try.func84 #[.slice (some ad100) l1.length c1] ?_; (with_reducible refine (slices_Clone_int.calls _ _ l1 t106 _ ?side1 ?side2 A9.out).mono ?_); (case side1 => exact Kd.C_kept_now HR1.out (qp HK.out)); (case side2 => exact HC1.out); rintro e w11 ⟨v110, rfl, ho0, hb⟩; refine ⟨_, rfl, ?_⟩; have HO111 := q0 (Kd.R_lower (Kd.R_new' (Kd.R_newM (M := (fun k_ => (P3_ k_ ∨ w.heap.size ≤ k_))) ho0 (by first | exact HK.out.1 | exact (qp HK.out).1) (fun k_ h_ => .inr h_)) (Kd.S_lt (qv HO3.out))) (below_size (qb HB.out))); replace HO3 := q0 (Kd.S_elder' (qv HO3.out) (Kd.R_base ho0) hb); replace BK109 := q0 (kb BK109.out hb); replace HK := q0 (Kept.below (S := (fun k_ => P3_ k_)) (qp HK.out) hb); replace HB := q0 (below_step (qb HB.out) hb); clear hb ho0; obtain ⟨Ao14, co14, eo14⟩ := Kd.R_slice HO111.out; subst eo14) | ((with_reducible refine gate_builtin (b := .append) (xs := #[.tmp 20, .tmp 23]) rfl ?_); at_builtin; refine Kd.S_append (Kd.slice 3 (Kd.int .i64)) (w0 := w0) w0.heap.size rfl (.tmp 20) (.tmp 23) 38 26 (.slice none 0 0) 24 rfl Try.underlying38 info26 rfl (by decide) (by omega) u107_ l3 t106 [.slice Ao14 t106.length co14] (fun k_ => (P3_ k_ ∨ w.heap.size ≤ k_)) (fun k_ => some k_ = (.slice Ao14 t106.length co14 : Value).ownBlock) rfl rfl ?aP (fun k_ hk_ => by have h_ := HO111.out.1 k_ hk_.symm; exact ⟨h_.1.1, h_.2⟩) ?aF ?aO ?aB ?aS ?aL ?_; (case aP => exact Kd.M_row (Kd.R_tight rfl HO111.out)); (case aB => exact (qb HB.out)); (case aF => exact (fun k_ hk => .inr (Nat.le_trans (by first | exact HK.out.1 | exact (qp HK.out).1) hk))); (case aO => exact (qv HO3.out)); (case aS => exact (below_size (qb HB.out))); (case aL => have := LMc9.out; omega); intro v112 w13 ho hb hg hat; rw [← Ny108.out] at ho; replace HB := q0 (hb); replace HK := q0 (Kept.of_grown (S := (fun k_ => P3_ k_)) hg (qp HK.out) (fun k_ e_ => ((Kd.S_R HO3.out).1 k_ e_).1)); have HO113 := q0 (ho); clear HO3; clear ho hb hg hat))
   go_ret
   exact ⟨_, by first | rfl | (simp only [← hji5]; first | rfl | (simp; done)) | (simp [*]; done), qv HO113.out, qb HB.out, qp HK.out⟩
 rw [if_neg c8] at H
 have c8b0 : ((rd l1 (ji5)) == a2) = false := beq_eq_false_iff_ne.mpr c8
 have c8b1 : ((rd l1 (ji5)) != a2) = true := bne_iff_ne.mpr c8
 have H' := Aside0.mk H
 clear H
 go_enter Try.func69, Try.ntmps69
 go_wp2_with (first | ((with_reducible refine gate_dst (N := 4) rfl ?_); refine be 4 #[.int .i64 a0_0, .slice A0_1 l0_1.length c0_1] 31 ?_; intro gb109 hg w15 hbox hb; replace HO3 := q0 (Kd.S_below (qv HO3.out) hb); have BK109 := q0 (hbox); have GW109 := q0 ((by rw [hg]; exact (by first | exact HK.out.1 | exact (qp HK.out).1) : w.heap.size ≤ gb109)); replace HK := q0 (Kept.below (S := (fun k_ => P3_ k_)) (qp HK.out) hb); have GE109 := q0 ((bs HB.out hg : w0.heap.size ≤ gb109)); replace HB := q0 (below_step (qb HB.out) hb); clear hb hbox hg; have p100 : 0 ≤ ((ji5) : Int) := of_decide_eq_true qa; have q100 : (ji5) < (l1.length : Int) := of_decide_eq_true qa; obtain ⟨ad100, e100, hx100_0⟩ := Kd.at_int (Kd.C_kept_now HR1.out HK.out) (ji5) p100 q100; cases e100; replace p100 := eq_true p100; replace q100 := eq_true q100; have hcz16_0 : w15.cell? ⟨gb109, 0, none⟩ = some (.int .i64 a0_0) := (blk_cell BK109.out 0).trans rfl; have hcz16_1 : w15.cell? ⟨gb109, 1, none⟩ = some (.slice A0_1 l0_1.length c0_1) := (blk_cell BK109.out 1).trans rfl; have hfz16_0 := blk_frozen BK109.out 0; have hfz16_1 := blk_frozen BK109.out 1))
 go_loopg [3, 27] k (fun kq v3 v27 w' => ∃ (x3_1 : List (List Int)) (x27_1 : Int), v27 = .int .i64 x27_1 ∧ Aside0 (impl_Net_ways.l0 kq l1 a2 x3_1 (rd l1 (ji5)) a0_0 x27_1 a0_0 l0_1 = some r) ∧ Aside0 (kq ≤ k) ∧ Aside0 (Kd.S (Kd.slice 3 (Kd.int .i64)) 26 w' w0.heap.size (fun k_ => (P3_ k_ ∨ w.heap.size ≤ k_)) v3 x3_1) ∧ Aside0 (w'.heap[gb109]? = some (.cells #[.int .i64 a0_0, (.slice A0_1 l0_1.length c0_1)] 31 (0, 0))) ∧ Aside0 (Kept w w' (fun k_ => P3_ k_)) ∧ Aside0 (Below w0.heap.size w0 w'))
 case atStart => exact ⟨(l3), (0), qs, H', ⟨Nat.le_refl _⟩, ⟨qv HO3.out⟩, ⟨qk BK109.out⟩, ⟨qp HK.out⟩, ⟨qb HB.out⟩⟩
 clear H'
 try clear c1
 try clear p2
 try clear q2
 try clear hx2
 try clear c6
 try clear c6b0
 try clear p6
 try clear c7
 try clear c7b0
 try clear c8
 try clear c8b0
 try clear c8b1
 try clear c9
 try clear hcz16_0
 try clear hcz16_1
 try clear hfz16_0
 try clear hfz16_1
 try clear hx100_0
 try clear p100
 try clear q100
 obtain ⟨x3_1, x27_1, rfl, HA, HK1, HO_3, BK109, HK, HB⟩ := hrel
 rcases gk with _ | k1
 · exact absurd HA.out (by simp [impl_Net_ways.l0])
 have H := HA.out
 clear HA
 simp only [impl_Net_ways.l0] at H
 by_cases c17 : x27_1 < a0_0
 rotate_left
 · rw [if_neg c17] at H
   have c17b0 : decide (x27_1 < a0_0) = false := decide_eq_false c17
   clear c17
   obtain rfl := Option.some.inj H
   go_wp2
   go_ret
   exact ⟨_, by first | rfl | (simp [errW_none, errW_some] <;> rfl) | (simp only [← hji5]; first | rfl | (simp [errW_none, errW_some] <;> rfl)) | (simp [*, errW_none, errW_some] <;> rfl), qv HO_3.out, qb HB.out, qp HK.out⟩
 rw [if_pos c17] at H
 have c17b0 : decide (x27_1 < a0_0) = true := decide_eq_true c17
 clear c17
 have HC18 := Aside0.mk H
 clear H
 go_upto_region 7 with (fail)
 go_cut [39] (fun v39 wc => ∃ (kq : Nat) (x39_17 : Bool), v39 = .bool x39_17 ∧ Aside0 (impl_Net_ways.j1 kq l1 a2 x3_1 (rd l1 (ji5)) x27_1 a0_0 x27_1 x39_17 a0_0 l0_1 = some r) ∧ Aside0 (kq ≤ k1) ∧ Aside0 (Kd.S (Kd.slice 3 (Kd.int .i64)) 26 wc w0.heap.size (fun k_ => (P3_ k_ ∨ w.heap.size ≤ k_)) u3 x3_1) ∧ Aside0 (wc.heap[gb109]? = some (.cells #[.int .i64 a0_0, (.slice A0_1 l0_1.length c0_1)] 31 (0, 0))) ∧ Aside0 (Kept w wc (fun k_ => P3_ k_)) ∧ Aside0 (Below w0.heap.size w0 wc))
 case first =>
   have H := HC18.out
   clear HC18
   replace H := Option.bind_eq_some_iff.mp H
   obtain ⟨t101, A114, H⟩ := H
   have A19 := Aside0.mk A114
   clear A114
   by_cases c20 : t101 = true
   rotate_left
   · replace c20 := Bool.eq_false_iff.mpr c20
     subst c20
     rw [if_neg nf] at H
     have H' := Aside0.mk H
     clear H
     have hcz24_0 : wr.cell? ⟨gb109, 0, none⟩ = some (.int .i64 a0_0) := (blk_cell BK109.out 0).trans rfl
     have hcz24_1 : wr.cell? ⟨gb109, 1, none⟩ = some (.slice A0_1 l0_1.length c0_1) := (blk_cell BK109.out 1).trans rfl
     have hfz24_0 := blk_frozen BK109.out 0
     have hfz24_1 := blk_frozen BK109.out 1
     go_wp2_with (first | ((with_reducible refine gate_callee (f := 52) rfl ?_); refine goesL_ (some 33) rfl rfl Try.func52 (by kernel_rfl) rfl #[.agg #[.int .i64 a0_0, .slice A0_1 l0_1.length c0_1], .int .i64 (rd l1 (ji5)), .int .i64 x27_1] rfl (by (try simp only [List.map_toArray, List.map_cons, List.map_nil]); first | done | (simp only [hji5]; rfl) | rfl | (simp only [List.length_drop, List.length_take]; rfl)) ?_; (with_reducible refine (impl_Net_has.calls k1 a0_0 _ _ l0_1 (rd l1 (ji5)) x27_1 false _ ?side1 ?side2 A19.out).mono ?_); (case side1 => exact Kd.C_kept_now HR0_1.out (qp HK.out)); (case side2 => exact HC0_1.out); rintro e w25 ⟨rfl, hb⟩; refine ⟨_, rfl, ?_⟩; replace HO_3 := q0 (Kd.S_below (qv HO_3.out) hb); replace BK109 := q0 (kb BK109.out hb); replace HK := q0 (Kept.below (S := (fun k_ => P3_ k_)) (qp HK.out) hb); replace HB := q0 (below_step (qb HB.out) hb); (try clear hb); (try clear hb2); (try clear hk); (try clear hi)))
     go_meet
     case rel => exact ⟨_, (false), qs, H', ⟨by have := HK1.out; first | omega | exact Nat.le_refl _⟩, ⟨qv HO_3.out⟩, ⟨qk BK109.out⟩, ⟨qp HK.out⟩, ⟨qb HB.out⟩⟩
   subst c20
   rw [if_pos rfl] at H
   replace H := Option.bind_eq_some_iff.mp H
   obtain ⟨t102, A115, H⟩ := H
   have A21 := Aside0.mk A115
   clear A115
   have H' := Aside0.mk H
   clear H
   have hcz22_0 : wr.cell? ⟨gb109, 0, none⟩ = some (.int .i64 a0_0) := (blk_cell BK109.out 0).trans rfl
   have hcz22_1 : wr.cell? ⟨gb109, 1, none⟩ = some (.slice A0_1 l0_1.length c0_1) := (blk_cell BK109.out 1).trans rfl
   have hfz22_0 := blk_frozen BK109.out 0
   have hfz22_1 := blk_frozen BK109.out 1
   go_wp2_with (first | ((with_reducible refine gate_callee (f := 52) rfl ?_); refine goesL_ (some 33) rfl rfl Try.func52 (by kernel_rfl) rfl #[.agg #[.int .i64 a0_0, .slice A0_1 l0_1.length c0_1], .int .i64 (rd l1 (ji5)), .int .i64 x27_1] rfl (by (try simp only [List.map_toArray, List.map_cons, List.map_nil]); first | done | (simp only [hji5]; rfl) | rfl | (simp only [List.length_drop, List.length_take]; rfl)) ?_; (with_reducible refine (impl_Net_has.calls k1 a0_0 _ _ l0_1 (rd l1 (ji5)) x27_1 true _ ?side1 ?side2 A19.out).mono ?_); (case side1 => exact Kd.C_kept_now HR0_1.out (qp HK.out)); (case side2 => exact HC0_1.out); rintro e w23 ⟨rfl, hb⟩; refine ⟨_, rfl, ?_⟩; replace HO_3 := q0 (Kd.S_below (qv HO_3.out) hb); replace BK109 := q0 (kb BK109.out hb); replace HK := q0 (Kept.below (S := (fun k_ => P3_ k_)) (qp HK.out) hb); replace HB := q0 (below_step (qb HB.out) hb); (try clear hb); (try clear hb2); (try clear hk); (try clear hi)) | (go_at_call 77; (with_reducible refine (slices_Contains_int.calls k1 _ _ l1 x27_1 t102 _ ?side1 ?side2 A21.out).mono ?_); (case side1 => exact Kd.C_kept_now HR1.out (qp HK.out)); (case side2 => exact HC1.out); rintro e w' ⟨rfl, ⟨nd, rfl⟩⟩))
   go_meet
   case rel => exact ⟨_, (!t102), qs, H', ⟨by have := HK1.out; first | omega | exact Nat.le_refl _⟩, ⟨qv HO_3.out⟩, ⟨qk BK109.out⟩, ⟨qp HK.out⟩, ⟨qb HB.out⟩⟩
 clear HC18
 try clear c1
 try clear c2
 try clear p2
 try clear q2
 try clear hx2
 try clear c5
 try clear c6
 try clear c6b0
 try clear p6
 try clear c7
 try clear c7b0
 try clear c8
 try clear c8b0
 try clear c8b1
 try clear c9
 try clear c17
 try clear c17b0
 try clear c20
 try clear p23
 try clear q23
 try clear hx23
 try clear hcz16_0
 try clear hcz16_1
 try clear hcz22_0
 try clear hcz22_1
 try clear hcz24_0
 try clear hcz24_1
 try clear hfz16_0
 try clear hfz16_1
 try clear hfz22_0
 try clear hfz22_1
 try clear hfz24_0
 try clear hfz24_1
 try clear hx100_0
 try clear p2
 try clear p100
 try clear p6
 try clear q2
 try clear q100
 obtain ⟨kq, x39_17, rfl, HA, HJ17, HO_3, BK109, HK, HB⟩ := hcut
 rcases kq with _ | kj17
 · exact absurd HA.out (by simp [impl_Net_ways.j1])
 have H := HA.out
 clear HA
 simp only [impl_Net_ways.j1] at H
 by_cases c26 : x39_17 = true
 rotate_left
 · replace c26 := Bool.eq_false_iff.mpr c26
   subst c26
   rw [if_neg nf] at H
   have H' := Aside0.mk H
   clear H
   go_wp2
   go_roundg kj17
   case measure => have := HK1.out; have := HJ17.out; omega
   case rel => exact ⟨(x3_1), (wrap64 (x27_1 + 1)), qs, H', ⟨by have := HK1.out; have := HJ17.out; omega⟩, ⟨qv HO_3.out⟩, ⟨qk BK109.out⟩, ⟨qp HK.out⟩, ⟨qb HB.out⟩⟩
 subst c26
 rw [if_pos rfl] at H
 replace H := Option.bind_eq_some_iff.mp H
 obtain ⟨t103, A116, H⟩ := H
 have A27 := Aside0.mk A116
 clear A116
 obtain ⟨y104, hy104⟩ : ∃ y_ : List Int, y_ = (([x27_1] : List Int)) := ⟨_, rfl⟩
 replace H : (if t103.length + y104.length < 17592186044416 then ((impl_Net_ways.f kj17 a0_0 l0_1 (t103 ++ y104) a2 x3_1).bind fun t105 => (impl_Net_ways.l0 kj17 l1 a2 t105 (rd l1 (ji5)) a0_0 (wrap64 (x27_1 + 1)) a0_0 l0_1)) else (none)) = some r := qy H hy104
 have Ny104 := Aside0.mk hy104
 clear hy104
 by_cases c28 : t103.length + y104.length < 17592186044416
 rotate_left
 · rw [if_neg c28] at H
   exact absurd H (by simp)
 rw [if_pos c28] at H
 have LMc28 := Aside0.mk c28
 clear c28
 obtain ⟨y117, hy117⟩ : ∃ y_ : List Int, y_ = (t103 ++ y104) := ⟨_, rfl⟩
 replace H : ((impl_Net_ways.f kj17 a0_0 l0_1 y117 a2 x3_1).bind fun t105 => (impl_Net_ways.l0 kj17 l1 a2 t105 (rd l1 (ji5)) a0_0 (wrap64 (x27_1 + 1)) a0_0 l0_1)) = some r := qy H hy117
 have Ny117 := Aside0.mk hy117
 clear hy117
 replace H := Option.bind_eq_some_iff.mp H
 obtain ⟨t105, A118, H⟩ := H
 have A29 := Aside0.mk A118
 clear A118
 have H' := Aside0.mk H
 clear H
 obtain ⟨Ao30, co30, eo30⟩ := Kd.S_slice HO_3.out
 subst eo30
 try go_wp2
 replace HO_3 := q0 (Kd.S_drew HO_3.out)
 replace BK109 := q0 (blk_drew BK109.out)
 replace HK := q0 (Kept.drew HK.out)
 replace HB := q0 (below_drew1 HB.out)
 refine start_ (n := 10) (S := fun w' => w'.cell? ⟨gb109, 0, none⟩ = some (.int .i64 a0_0) ∧ w'.cell? ⟨gb109, 1, none⟩ = some (.slice A0_1 l0_1.length c0_1)) (ds := []) (ba 10 0) (by kernel_rfl) rfl (by kernel_rfl) ⟨(blk_cell BK109.out 0).trans rfl, (blk_cell BK109.out 1).trans rfl⟩ (fun hHeld => ?_); refine with_tabW impl_Net_ways.tab8 impl_Net_ways.bits8 (fun HT_ HW_ => ?_)
 generalize wc.drew = w31 at HO_3 BK109 HK HB hHeld ⊢
 refine pu 1 (some 41) (ba 10 2) HT_.out ?_
 refine pu 3 (some 43) (ba 10 10) HT_.out ?_
 refine pu 6 (some 46) (ba 10 74) HT_.out ?_
 refine pu 7 (some 47) (ba 10 202) HT_.out ?_
 refine tu 0 (some 40) (ba 10 203) HT_.out HW_.out hHeld ?_
 refine join_ (σ := Value × Value) 3 (ba 10 223) (fun s_ => [(42, s_.1), (44, s_.2)]) (fun s_ w' => (w'.cell? ⟨gb109, 0, none⟩ = some (.int .i64 a0_0) ∧ w'.cell? ⟨gb109, 1, none⟩ = some (.slice A0_1 l0_1.length c0_1)) ∧ (Kd.R (Kd.int .i64) 3 w' w0.heap.size (fun k_ => (P3_ k_ ∨ w.heap.size ≤ k_) ∧ some k_ ≠ (s_.2 : Value).ownBlock ∧ some k_ ≠ (.slice Ao30 x3_1.length co30 : Value).ownBlock) s_.1 t103) ∧ (Kd.R (Kd.int .i64) 3 w' w0.heap.size (fun k_ => (P3_ k_ ∨ w.heap.size ≤ k_) ∧ some k_ ≠ (s_.1 : Value).ownBlock ∧ some k_ ≠ (.slice Ao30 x3_1.length co30 : Value).ownBlock) s_.2 y104) ∧ (Kd.S (Kd.slice 3 (Kd.int .i64)) 26 w' w0.heap.size (fun k_ => (P3_ k_ ∨ w.heap.size ≤ k_) ∧ some k_ ≠ (s_.1 : Value).ownBlock ∧ some k_ ≠ (s_.2 : Value).ownBlock) (.slice Ao30 x3_1.length co30) x3_1) ∧ (w'.heap[gb109]? = some (.cells #[.int .i64 a0_0, .slice A0_1 l0_1.length c0_1] 31 (0, 0))) ∧ (Kept w w' (fun k_ => P3_ k_)) ∧ (Below w0.heap.size w0 w')) ?_ ?_
 rotate_left
 · intro hCont
   refine two_ (i := 2) (j := 4) (Ni := some 42) (Nj := some 44) (ba 10 207) (ba 10 219) rfl rfl rfl rfl (two_of HT_.out (by kernel_rfl)) (by decide) (by decide) (fun K hK => ?_) (fun K hK => ?_)
   · skip
     refine goes_ Try.func84 (by kernel_rfl) rfl #[.slice (some ad100) l1.length c1] (by rfl) rfl rfl qm ?_
     with_reducible refine (slices_Clone_int.calls _ _ l1 t103 _ ?side1 ?side2 A27.out).mono ?_
     (case side1 => exact Kd.C_kept_now HR1.out (qp HK.out))
     (case side2 => exact HC1.out)
     rintro e w32 ⟨v119, rfl, ho0, hb⟩
     refine ⟨_, rfl, ?_⟩
     have HO120 := q0 (Kd.R_lower (Kd.R_new' (Kd.R_newM (M := fun k_ => (P3_ k_ ∨ w.heap.size ≤ k_)) ho0 (by first | exact HK.out.1 | exact (qp HK.out).1) (fun k_ h_ => .inr h_)) (Kd.S_lt (qv HO_3.out))) (below_size (qb HB.out)))
     replace HO_3 := q0 (Kd.S_elder' (qv HO_3.out) (Kd.R_base ho0) hb)
     replace BK109 := q0 (kb BK109.out hb)
     replace HK := q0 (Kept.below (S := (fun k_ => P3_ k_)) (qp HK.out) hb)
     replace HB := q0 (below_step (qb HB.out) hb)
     (try clear hb)
     (try clear hb2)
     (try clear hk)
     (try clear hi)
     (try clear ho0)
     refine hK.out _ _ ⟨(blk_cell BK109.out 0).trans rfl, (blk_cell BK109.out 1).trans rfl⟩ (fun hHeld => ?_)
     clear hK K
     refine nu 42 ?_
     refine one_ (i := 4) (N := some 44) (ba 10 223) rfl rfl (one_of HT_.out (by kernel_rfl)) (by decide) (fun K hK => ?_)
     refine Kd.R_lit_step (Kd.int .i64) _ 3 ?hg (N := 44) ?hd (xs := ([x27_1] : List Int)) (inner := [.int .i64 x27_1]) (ok := fun _ => True) (okp := fun _ => True) ?hr ?hp (fun _ hk => hk) trivial (Below.refl _ _) (Nat.le_refl _) (by simp) ?_; (case hd => rfl); (case hg => rfl); (case hr => first | (go_simp; done) | (go_simp; rfl)); (case hp => exact (Reps.one (show Kd.M (Kd.int .i64) _ _ _ x27_1 [.int .i64 x27_1] from rfl) (Reps.none _ _)))
     intro v121 w33 ho34 hb hg_ hnew_
     clear hg_ hnew_
     (first | rw [← Ny104.out] at ho34 | (simp only [Int.reduceToNat] at ho34; rw [← Ny104.out] at ho34))
     have HO122 := q0 (Kd.R_lower (Kd.R_new' (Kd.R_new' (Kd.R_newM (M := fun k_ => (P3_ k_ ∨ w.heap.size ≤ k_)) ho34 (by first | exact HK.out.1 | exact (qp HK.out).1) (fun k_ h_ => .inr h_)) (Kd.S_lt (qv HO_3.out))) (Kd.R_lt (qr HO120.out))) (below_size (qb HB.out)))
     replace HO_3 := q0 (Kd.S_elder' (qv HO_3.out) (Kd.R_base ho34) hb)
     replace HO120 := q0 (Kd.R_elder' (qr HO120.out) (Kd.R_base ho34) hb)
     replace BK109 := q0 (kb BK109.out hb)
     replace HK := q0 (Kept.below (S := (fun k_ => P3_ k_)) (qp HK.out) hb)
     replace HB := q0 (below_step (qb HB.out) hb)
     clear hb ho34
     refine hK.out _ _ ⟨(blk_cell BK109.out 0).trans rfl, (blk_cell BK109.out 1).trans rfl⟩ (fun hHeld => ?_)
     clear hK K
     refine nu 44 ?_
     exact norm_ (by simp only [putAll, Act.put, List.setIfInBounds_toArray, List.set_cons_zero, List.set_cons_succ]) (hCont (v119, v121) _ ⟨hHeld, (by (with_reducible repeat (first | apply Kd.R_alloc | apply Kd.R_drewN | apply Kd.R_drew)); exact Kd.R_mono HO120.out (fun _ hk => ⟨hk.1.1.1, ⟨hk.2, hk.1.2⟩⟩)), (by (with_reducible repeat (first | apply Kd.R_alloc | apply Kd.R_drewN | apply Kd.R_drew)); exact Kd.R_mono HO122.out (fun _ hk => ⟨hk.1.1.1, ⟨hk.2, hk.1.2⟩⟩)), (by (with_reducible repeat (first | apply Kd.S_alloc | apply Kd.S_drewN | apply Kd.S_drew)); exact Kd.S_mono HO_3.out (fun _ hk => ⟨hk.1.1, ⟨hk.1.2, hk.2⟩⟩)), (qk BK109.out), (qp HK.out), (qb HB.out)⟩)
   · skip
     refine Kd.R_lit_step (Kd.int .i64) _ 3 ?hg (N := 44) ?hd (xs := ([x27_1] : List Int)) (inner := [.int .i64 x27_1]) (ok := fun _ => True) (okp := fun _ => True) ?hr ?hp (fun _ hk => hk) trivial (Below.refl _ _) (Nat.le_refl _) (by simp) ?_; (case hd => rfl); (case hg => rfl); (case hr => first | (go_simp; done) | (go_simp; rfl)); (case hp => exact (Reps.one (show Kd.M (Kd.int .i64) _ _ _ x27_1 [.int .i64 x27_1] from rfl) (Reps.none _ _)))
     intro v121 w32 ho33 hb hg_ hnew_
     clear hg_ hnew_
     (first | rw [← Ny104.out] at ho33 | (simp only [Int.reduceToNat] at ho33; rw [← Ny104.out] at ho33))
     have HO122 := q0 (Kd.R_lower (Kd.R_new' (Kd.R_newM (M := fun k_ => (P3_ k_ ∨ w.heap.size ≤ k_)) ho33 (by first | exact HK.out.1 | exact (qp HK.out).1) (fun k_ h_ => .inr h_)) (Kd.S_lt (qv HO_3.out))) (below_size (qb HB.out)))
     replace HO_3 := q0 (Kd.S_elder' (qv HO_3.out) (Kd.R_base ho33) hb)
     replace BK109 := q0 (kb BK109.out hb)
     replace HK := q0 (Kept.below (S := (fun k_ => P3_ k_)) (qp HK.out) hb)
     replace HB := q0 (below_step (qb HB.out) hb)
     clear hb ho33
     refine hK.out _ _ ⟨(blk_cell BK109.out 0).trans rfl, (blk_cell BK109.out 1).trans rfl⟩ (fun hHeld => ?_)
     clear hK K
     refine nu 44 ?_
     refine one_ (i := 2) (N := some 42) (ba 10 223) rfl rfl (one_of HT_.out (by kernel_rfl)) (by decide) (fun K hK => ?_)
     refine goes_ Try.func84 (by kernel_rfl) rfl #[.slice (some ad100) l1.length c1] (by rfl) rfl rfl qm ?_
     with_reducible refine (slices_Clone_int.calls _ _ l1 t103 _ ?side1 ?side2 A27.out).mono ?_
     (case side1 => exact Kd.C_kept_now HR1.out (qp HK.out))
     (case side2 => exact HC1.out)
     rintro e w34 ⟨v119, rfl, ho0, hb⟩
     refine ⟨_, rfl, ?_⟩
     have HO120 := q0 (Kd.R_lower (Kd.R_new' (Kd.R_new' (Kd.R_newM (M := fun k_ => (P3_ k_ ∨ w.heap.size ≤ k_)) ho0 (by first | exact HK.out.1 | exact (qp HK.out).1) (fun k_ h_ => .inr h_)) (Kd.S_lt (qv HO_3.out))) (Kd.R_lt (qr HO122.out))) (below_size (qb HB.out)))
     replace HO_3 := q0 (Kd.S_elder' (qv HO_3.out) (Kd.R_base ho0) hb)
     replace HO122 := q0 (Kd.R_elder' (qr HO122.out) (Kd.R_base ho0) hb)
     replace BK109 := q0 (kb BK109.out hb)
     replace HK := q0 (Kept.below (S := (fun k_ => P3_ k_)) (qp HK.out) hb)
     replace HB := q0 (below_step (qb HB.out) hb)
     (try clear hb)
     (try clear hb2)
     (try clear hk)
     (try clear hi)
     (try clear ho0)
     refine hK.out _ _ ⟨(blk_cell BK109.out 0).trans rfl, (blk_cell BK109.out 1).trans rfl⟩ (fun hHeld => ?_)
     clear hK K
     refine nu 42 ?_
     exact norm_ (by simp only [putAll, Act.put, List.setIfInBounds_toArray, List.set_cons_zero, List.set_cons_succ]) (hCont (v119, v121) _ ⟨hHeld, (by (with_reducible repeat (first | apply Kd.R_alloc | apply Kd.R_drewN | apply Kd.R_drew)); exact Kd.R_mono HO120.out (fun _ hk => ⟨hk.1.1.1, ⟨hk.2, hk.1.2⟩⟩)), (by (with_reducible repeat (first | apply Kd.R_alloc | apply Kd.R_drewN | apply Kd.R_drew)); exact Kd.R_mono HO122.out (fun _ hk => ⟨hk.1.1.1, ⟨hk.2, hk.1.2⟩⟩)), (by (with_reducible repeat (first | apply Kd.S_alloc | apply Kd.S_drewN | apply Kd.S_drew)); exact Kd.S_mono HO_3.out (fun _ hk => ⟨hk.1.1, ⟨hk.2, hk.1.2⟩⟩)), (qk BK109.out), (qp HK.out), (qb HB.out)⟩)
 rintro ⟨v119, v121⟩ w35 ⟨hS_, h0_, h1_, h2_, h3_, h4_, h5_⟩
 have n0_ : Aside0 (Kd.R (Kd.int .i64) 3 w35 w0.heap.size (fun k_ => (P3_ k_ ∨ w.heap.size ≤ k_) ∧ some k_ ≠ (v121 : Value).ownBlock ∧ some k_ ≠ (.slice Ao30 x3_1.length co30 : Value).ownBlock) v119 t103) := ⟨h0_⟩
 have n1_ : Aside0 (Kd.R (Kd.int .i64) 3 w35 w0.heap.size (fun k_ => (P3_ k_ ∨ w.heap.size ≤ k_) ∧ some k_ ≠ (v119 : Value).ownBlock ∧ some k_ ≠ (.slice Ao30 x3_1.length co30 : Value).ownBlock) v121 y104) := ⟨h1_⟩
 have n2_ : Aside0 (Kd.S (Kd.slice 3 (Kd.int .i64)) 26 w35 w0.heap.size (fun k_ => (P3_ k_ ∨ w.heap.size ≤ k_) ∧ some k_ ≠ (v119 : Value).ownBlock ∧ some k_ ≠ (v121 : Value).ownBlock) (.slice Ao30 x3_1.length co30) x3_1) := ⟨h2_⟩
 have n3_ : Aside0 (w35.heap[gb109]? = some (.cells #[.int .i64 a0_0, .slice A0_1 l0_1.length c0_1] 31 (0, 0))) := ⟨h3_⟩
 have n4_ : Aside0 (Kept w w35 (fun k_ => P3_ k_)) := ⟨h4_⟩
 have n5_ : Aside0 (Below w0.heap.size w0 w35) := ⟨h5_⟩
 clear HO_3
 clear BK109
 clear HK
 clear HB
 clear h0_ h1_ h2_ h3_ h4_ h5_
 have HO120 := n0_
 have HO122 := n1_
 have HO_3 := n2_
 have BK109 := n3_
 have HK := n4_
 have HB := n5_
 clear n0_ n1_ n2_ n3_ n4_ n5_
 have hHeld : w35.cell? ⟨gb109, 0, none⟩ = some (.int .i64 a0_0) ∧ w35.cell? ⟨gb109, 1, none⟩ = some (.slice A0_1 l0_1.length c0_1) := hS_
 obtain ⟨Ao37, co37, eo37⟩ := Kd.R_slice HO122.out
 (first | subst eo37 | (injection eo37 with f1_ f2_ f3_; have f4_ := f1_.symm; have f5_ := f3_.symm; clear f1_ f2_ f3_; subst f4_; subst f5_))
 refine norm_ (a' := ?_) ?_ ?_
 rotate_left
 · simp only [putAll, Act.put, List.setIfInBounds_toArray, List.set_cons_zero, List.set_cons_succ]
   rfl
 refine one_ (i := 5) (N := some 45) (ba 10 255) rfl rfl (one_of HT_.out (by kernel_rfl)) (by decide) (fun K hK => ?_)
 refine Kd.R_append_rows_step (Kd.int .i64) (w0 := w0) w0.heap.size (by rfl) (.tmp 42) (.tmp 44) 26 3 (.int .i64 0) 8 rfl Try.underlying26 info3 rfl (by decide) (by omega) v119 t103 y104 _ _ _ (fun k_ => (P3_ k_ ∨ w.heap.size ≤ k_) ∧ some k_ ≠ (.slice Ao30 x3_1.length co30 : Value).ownBlock ∧ some k_ ≠ (.slice Ao37 y104.length co37 : Value).ownBlock) (fun _ => False) rfl rfl ?aO ?aR (fun _ _ h => h) (fun _ h => h.elim) ?aF ?aB ?aS ?aL ?_
 (case aR => repeat (first | exact (Kd.R_reads' HO122.out).2.2 | (with_reducible refine Kd.C_alloc ?_ _) | (with_reducible refine Kd.C_drewN ?_ _) | (with_reducible refine Kd.C_drew ?_)))
 (case aB => exact (qb HB.out))
 (case aF => exact (fun k_ hk => ⟨(.inr (Nat.le_trans (by first | exact HK.out.1 | exact (qp HK.out).1) hk)), Kd.fresh' (Kd.S_lt (qv HO_3.out)) k_ hk, Kd.fresh' (Kd.R_lt (qr HO122.out)) k_ hk⟩))
 (case aO => exact (by (with_reducible repeat (first | apply Kd.R_alloc | apply Kd.R_drewN | apply Kd.R_drew)); exact Kd.R_mono HO120.out (fun _ hk => ⟨hk.1, ⟨hk.2.2, hk.2.1⟩⟩)))
 (case aS => exact (below_size (qb HB.out)))
 (case aL => have := LMc28.out; omega)
 intro v123 w36 ho hb hg hat
 rw [← Ny117.out] at ho
 replace HO_3 := q0 (Kd.S_after (ok := (fun k_ => (P3_ k_ ∨ w.heap.size ≤ k_) ∧ some k_ ≠ (.slice Ao37 y104.length co37 : Value).ownBlock)) (by (with_reducible repeat (first | apply Kd.S_alloc | apply Kd.S_drewN | apply Kd.S_drew)); exact Kd.S_mono HO_3.out (fun _ hk => ⟨⟨hk.1, hk.2.2⟩, hk.2.1⟩)) hg hat)
 replace BK109 := q0 (blk_grown (g := gb109) (o := .cells #[.int .i64 a0_0, .slice A0_1 l0_1.length c0_1] 31 (0, 0)) (qk BK109.out) hg (Kd.R_ne HO120.out BK109.out (by decide)))
 replace HO122 := q0 (Kd.R_after (ok := (fun k_ => (P3_ k_ ∨ w.heap.size ≤ k_) ∧ some k_ ≠ (.slice Ao30 x3_1.length co30 : Value).ownBlock)) (by (with_reducible repeat (first | apply Kd.R_alloc | apply Kd.R_drewN | apply Kd.R_drew)); exact Kd.R_mono HO122.out (fun _ hk => ⟨⟨hk.1, hk.2.2⟩, hk.2.1⟩)) hg hat)
 replace HB := q0 (hb)
 replace HK := q0 (Kept.of_grown (S := (fun k_ => P3_ k_)) hg (qp HK.out) (fun k_ e_ => (HO120.out.1 k_ e_).1))
 have HO124 := q0 (ho)
 clear HO120
 clear ho hb hg hat
 obtain ⟨Ao38, co38, eo38⟩ := Kd.R_slice HO124.out
 (first | subst eo38 | (injection eo38 with f1_ f2_ f3_; have f4_ := f1_.symm; have f5_ := f3_.symm; clear f1_ f2_ f3_; subst f4_; subst f5_))
 refine hK.out _ _ ⟨(blk_cell BK109.out 0).trans rfl, (blk_cell BK109.out 1).trans rfl⟩ (fun hHeld => ?_)
 clear hK K
 refine nu 45 ?_
 refine one_ (i := 8) (N := some 48) (ba 10 511) rfl rfl (one_of HT_.out (by kernel_rfl)) (by decide) (fun K hK => ?_)
 refine goes_ Try.func69 (by kernel_rfl) rfl #[.agg #[.int .i64 a0_0, .slice A0_1 l0_1.length c0_1], .slice Ao38 y117.length co38, .int .i64 a2, .slice Ao30 x3_1.length co30] (by rfl) rfl rfl qm ?_
 with_reducible refine (ih kj17 (by have := HK1.out; have := HJ17.out; omega) a0_0 _ _ l0_1 _ _ y117 a2 (fun k_ => (((P3_ k_ ∨ w.heap.size ≤ k_) ∧ some k_ ≠ (.slice Ao37 y104.length co37 : Value).ownBlock) ∧ some k_ ≠ (.slice Ao38 y117.length co38 : Value).ownBlock) ∧ k_ ≠ gb109) (.slice Ao30 x3_1.length co30) x3_1 t105 w0 _ ?side1 ?side2 ?side3 ?side4 ?side5 ?side6 A29.out).mono ?_
 (case side1 => exact qb HB.out)
 (case side2 => exact Kd.C_kept_call HR0_1.out (qp HK.out) (fun k_ hs_ => hs_.1.1.1))
 (case side3 => exact HC0_1.out)
 (case side4 => exact Kd.C_kept_own (Kd.R_tight rfl HO124.out) (fun k_ hk_ hs_ => hs_.1.2 hk_))
 (case side5 => exact (Kd.R_reads' HO124.out).2.1)
 (case side6 => exact Kd.S_types (qv HO_3.out) BK109.out (by decide))
 rintro e w39 ⟨v125, rfl, ho0, hb, hkp⟩
 refine ⟨_, rfl, ?_⟩
 replace BK109 := q0 (blk_kept (qk BK109.out) hkp (fun hs_ => hs_.2 rfl))
 have HO126 := q0 (Kd.S_mono (ok' := fun k_ => (P3_ k_ ∨ w.heap.size ≤ k_)) ho0 (fun k_ hk_ => Or.elim hk_ (fun hs_ => hs_.1.1.1) (fun hn_ => .inr (Nat.le_trans (by first | exact HK.out.1 | exact (qp HK.out).1) hn_))))
 replace HK := q0 (Kept.then_ (S := (fun k_ => P3_ k_)) (qp HK.out) hkp (fun k_ hs_ => hs_.1.1.1))
 replace HB := q0 (hb)
 clear HO_3 HO122 HO124
 clear hb hkp ho0
 refine hK.out _ _ ⟨(blk_cell BK109.out 0).trans rfl, (blk_cell BK109.out 1).trans rfl⟩ (fun hHeld => ?_)
 clear hK K
 refine nu 48 ?_
 refine pu 9 (some 3) (ba 10 1023) HT_.out ?_
 refine done_ (done_of HT_.out (by kernel_rfl)) ?_
 try go_wp2
 go_roundg kj17
 case measure => have := HK1.out; have := HJ17.out; omega
 case rel => exact ⟨(t105), (wrap64 (x27_1 + 1)), qs, H', ⟨by have := HK1.out; have := HJ17.out; omega⟩, ⟨qv HO126.out⟩, ⟨qk BK109.out⟩, ⟨qp HK.out⟩, ⟨qb HB.out⟩⟩

set_option maxHeartbeats 8000000 in
set_option maxRecDepth 100000 in
theorem impl_Net_all.calls (k : Nat) (a0_0 : Int) (A0_1 : Option Addr) (c0_1 : Nat) (l0_1 : List (STie)) (a1 : Int) (a2 : Int) (r : List (List Int)) (w : World) (hr0_1 : Kd.C kTie w A0_1 l0_1.length l0_1) (hc0_1 : l0_1.length ≤ c0_1) (h : impl_Net_all.f k a0_0 l0_1 a1 a2 = some r) :
    Calls Try.prog 49 #[.agg #[.int .i64 a0_0, .slice A0_1 l0_1.length c0_1], .int .i64 a1, .int .i64 a2] w fun e w' => ∃ v0_ : Value, e = .returned (v0_) ∧ Kd.S (Kd.slice 3 (Kd.int .i64)) 26 w' w.heap.size (fun _ => True) v0_ r ∧ Below w.heap.size w w' := by
 have hu31 := Try.underlying31
 have HR0_1 := Aside0.mk hr0_1
 have HC0_1 := Aside0.mk hc0_1
 clear hr0_1 hc0_1
 have HB := q0 (Below.refl w.heap.size w)
 unfold impl_Net_all.f at h
 obtain ⟨t100, A1, h⟩ := Option.bind_eq_some_iff.mp h
 obtain ⟨t101, A2, h⟩ := Option.bind_eq_some_iff.mp h
 obtain rfl := Option.some.inj h
 clear h
 have A3 := Aside0.mk A1
 have A4 := Aside0.mk A2
 clear A1 A2
 go_enter Try.func49, Try.ntmps49
 go_wp2_with (first | ((with_reducible refine gate_dst (N := 3) rfl ?_); refine be 3 #[.int .i64 a0_0, .slice A0_1 l0_1.length c0_1] 31 ?_; intro gb101 hg w3 hbox hb; have BK101 := q0 (hbox); have GE101 := q0 ((bs HB.out hg : w.heap.size ≤ gb101)); replace HB := q0 (below_step (qb HB.out) hb); clear hb hbox hg; have hcz1_0 : w3.cell? ⟨gb101, 0, none⟩ = some (.int .i64 a0_0) := (blk_cell BK101.out 0).trans rfl; have hcz1_1 : w3.cell? ⟨gb101, 1, none⟩ = some (.slice A0_1 l0_1.length c0_1) := (blk_cell BK101.out 1).trans rfl; have hfz1_0 := blk_frozen BK101.out 0; have hfz1_1 := blk_frozen BK101.out 1) | ((with_reducible refine gate_dst (N := 10) rfl ?_); refine Kd.R_lit (Kd.int .i64) _ 3 ?hg (N := 10) ?hd (xs := ([a1] : List Int)) (inner := [.int .i64 a1]) (ok := fun _ => True) (okp := fun _ => True) ?hr ?hp (fun _ hk => hk) trivial (Below.refl _ _) (Nat.le_refl _) (by simp) ?_; (case hd => rfl); (case hg => rfl); (case hr => first | (go_simp; done) | (go_simp; rfl)); (case hp => exact (Reps.one (show Kd.M (Kd.int .i64) _ _ _ a1 [.int .i64 a1] from rfl) (Reps.none _ _))); intro v102 w4 ho4 hb hg_ hnew_; clear hg_ hnew_; have HO103 := q0 (Kd.R_lower ho4 (below_size (qb HB.out))); replace BK101 := q0 (kb BK101.out hb); replace HB := q0 (below_step (qb HB.out) hb); clear hb ho4; obtain ⟨Ao10, co10, eo10⟩ := Kd.R_slice HO103.out; subst eo10) | ((with_reducible refine gate_dst (N := 12) rfl ?_); refine Kd.S_lit (Kd.slice 3 (Kd.int .i64)) _ 26 ?hg (N := 12) ?hd (xs := ([] : List (List Int))) (inner := []) (ok := fun _ => True) (okp := fun _ => True) ?hr ?hp (fun _ hk => hk) trivial (Below.refl _ _) (Nat.le_refl _) (by simp) ?_; (case hd => rfl); (case hg => rfl); (case hr => first | (go_simp; done) | (go_simp; rfl)); (case hp => exact (Reps.none _ _)); intro v104 w5 ho5 hb hg_ hnew_; clear hg_ hnew_; have HO105 := q0 (Kd.S_lower ho5 (below_size (qb HB.out))); replace HO103 := q0 (Kd.R_elder' (qr HO103.out) (Kd.S_base ho5) hb); replace BK101 := q0 (kb BK101.out hb); replace HB := q0 (below_step (qb HB.out) hb); clear hb ho5) | ((with_reducible refine gate_callee (f := 69) rfl ?_); refine gl 13 Try.func69 #[.agg #[.int .i64 a0_0, .slice A0_1 l0_1.length c0_1], .slice Ao10 ([a1] : List Int).length co10, .int .i64 a2, v104] ?_; (with_reducible refine (impl_Net_ways.calls k a0_0 _ _ l0_1 _ _ ([a1] : List Int) a2 (fun k_ => some k_ = v104.ownBlock) v104 ([] : List (List Int)) t100 w _ ?side1 ?side2 ?side3 ?side4 ?side5 ?side6 A3.out).mono ?_); (case side1 => exact qb HB.out); (case side2 => exact Kd.C_kept_came (Kd.heap_iso _ (Kd.heap_pair (Kd.heap_int .i64) (Kd.heap_int .i64))) HR0_1.out (qb HB.out) (fun k_ h_ => Kd.S_base HO105.out k_ h_.symm)); (case side3 => exact HC0_1.out); (case side4 => exact Kd.C_kept_own (ok := fun k_ => True ∧ some k_ ≠ v104.ownBlock) (qr HO103.out) (fun k_ hk_ hs_ => hk_.2 hs_)); (case side5 => exact (Kd.R_reads' HO103.out).2.1); (case side6 => exact S_void (qv HO105.out)); rintro e w6 ⟨v106, rfl, ho0, hb, hkp⟩; refine ⟨_, rfl, ?_⟩; have HO107 := q0 (Kd.S_mono (ok' := fun _ => True) ho0 (fun _ _ => trivial)); clear BK101; replace HB := q0 (hb); clear HO105 HO103; clear hb hkp ho0) | ((with_reducible refine gate_callee (f := 70) rfl ?_); refine gl 15 Try.func70 #[v106, .func (.func 71) #[] #[]] ?_; (with_reducible refine (slices_SortFunc_Row.calls k v106 t100 t101 w _ ?side1 ?side2 A4.out).mono ?_); (case side1 => exact qb HB.out); (case side2 => exact qv HO107.out); rintro e w7 ⟨rfl, ho0, hb⟩; refine ⟨_, rfl, ?_⟩; replace HO107 := q0 ho0; replace HB := q0 hb; clear ho0 hb))
 go_ret
 exact ⟨_, rfl, qv HO107.out, qb HB.out⟩

set_option maxHeartbeats 8000000 in
set_option maxRecDepth 100000 in
theorem impl_WayAll.calls (k : Nat) (a0_0 : Int) (A0_1 : Option Addr) (c0_1 : Nat) (l0_1 : List (STie)) (a1 : Int) (a2 : Int) (r : List (List Int)) (w : World) (hr0_1 : Kd.C kTie w A0_1 l0_1.length l0_1) (hc0_1 : l0_1.length ≤ c0_1) (h : impl_WayAll.f k a0_0 l0_1 a1 a2 = some r) :
    Calls Try.prog 23 #[.agg #[.int .i64 a0_0, .slice A0_1 l0_1.length c0_1], .int .i64 a1, .int .i64 a2] w fun e w' => ∃ v0_ : Value, e = .returned (v0_) ∧ Kd.S (Kd.slice 3 (Kd.int .i64)) 26 w' w.heap.size (fun _ => True) v0_ r ∧ Below w.heap.size w w' := by
 have hu31 := Try.underlying31
 have HR0_1 := Aside0.mk hr0_1
 have HC0_1 := Aside0.mk hc0_1
 clear hr0_1 hc0_1
 have HB := q0 (Below.refl w.heap.size w)
 have H : ((impl_NetOk.f k a0_0 l0_1).bind fun t100 => (if t100 = true then ((impl_Net_knot.f a0_0 l0_1 a1).bind fun t101 => (if t101 = true then ((impl_Net_knot.f a0_0 l0_1 a2).bind fun t102 => (if t102 = true then ((impl_Net_all.f k a0_0 l0_1 a1 a2).bind fun t103 => (some t103)) else (some (([] : List (List Int)))))) else (some (([] : List (List Int)))))) else (some (([] : List (List Int)))))) = some r := h
 clear h
 replace H := Option.bind_eq_some_iff.mp H
 obtain ⟨t100, A40, H⟩ := H
 have A4 := Aside0.mk A40
 clear A40
 by_cases c5 : t100 = true
 rotate_left
 · replace c5 := Bool.eq_false_iff.mpr c5
   subst c5
   rw [if_neg nf] at H
   obtain ⟨y114, hy114⟩ : ∃ y_ : List (List Int), y_ = (([] : List (List Int))) := ⟨_, rfl⟩
   replace H : (some y114) = some r := qy H hy114
   have Ny114 := Aside0.mk hy114
   clear hy114
   obtain rfl := Option.some.inj H
   go_enter Try.func23, Try.ntmps23
   go_wp2_with (first | ((with_reducible refine gate_dst (N := 3) rfl ?_); refine be 3 #[.int .i64 a0_0, .slice A0_1 l0_1.length c0_1] 31 ?_; intro gb105 hg w36 hbox hb; have BK105 := q0 (hbox); have GW105 := q0 ((bs HB.out hg : w.heap.size ≤ gb105)); have GE105 := q0 ((bs HB.out hg : w.heap.size ≤ gb105)); replace HB := q0 (below_step (qb HB.out) hb); clear hb hbox hg; have hcz37_0 : w36.cell? ⟨gb105, 0, none⟩ = some (.int .i64 a0_0) := (blk_cell BK105.out 0).trans rfl; have hcz37_1 : w36.cell? ⟨gb105, 1, none⟩ = some (.slice A0_1 l0_1.length c0_1) := (blk_cell BK105.out 1).trans rfl; have hfz37_0 := blk_frozen BK105.out 0; have hfz37_1 := blk_frozen BK105.out 1) | ((with_reducible refine gate_callee (f := 47) rfl ?_); refine gl 8 Try.func47 #[.agg #[.int .i64 a0_0, .slice A0_1 l0_1.length c0_1]] ?_; (with_reducible refine (impl_NetOk.calls k a0_0 _ _ l0_1 false _ ?side1 ?side2 A4.out).mono ?_); (case side1 => exact qc (Kd.C_below HR0_1.out HB.out)); (case side2 => exact HC0_1.out); rintro e w38 ⟨rfl, hb⟩; refine ⟨_, rfl, ?_⟩; replace BK105 := q0 (kb BK105.out hb); replace HB := q0 (below_step (qb HB.out) hb); (try clear hb); (try clear hb2); (try clear hk); (try clear hi)) | ((with_reducible refine gate_dst (N := 22) rfl ?_); refine Kd.S_lit (Kd.slice 3 (Kd.int .i64)) _ 26 ?hg (N := 22) ?hd (xs := ([] : List (List Int))) (inner := []) (ok := fun _ => True) (okp := fun _ => True) ?hr ?hp (fun _ hk => hk) trivial (Below.refl _ _) (Nat.le_refl _) (by simp) ?_; (case hd => rfl); (case hg => rfl); (case hr => first | (go_simp; done) | (go_simp; rfl)); (case hp => exact (Reps.none _ _)); intro v115 w39 ho40 hb hg_ hnew_; clear hg_ hnew_; (first | rw [← Ny114.out] at ho40 | (simp only [Int.reduceToNat] at ho40; rw [← Ny114.out] at ho40)); have HO116 := q0 (Kd.S_lower ho40 (below_size (qb HB.out))); replace BK105 := q0 (kb BK105.out hb); replace HB := q0 (below_step (qb HB.out) hb); clear hb ho40))
   go_ret
   exact ⟨_, qe, qv HO116.out, qb HB.out⟩
 subst c5
 rw [if_pos rfl] at H
 replace H := Option.bind_eq_some_iff.mp H
 obtain ⟨t101, A60, H⟩ := H
 have A6 := Aside0.mk A60
 clear A60
 by_cases c7 : t101 = true
 rotate_left
 · replace c7 := Bool.eq_false_iff.mpr c7
   subst c7
   rw [if_neg nf] at H
   obtain ⟨y111, hy111⟩ : ∃ y_ : List (List Int), y_ = (([] : List (List Int))) := ⟨_, rfl⟩
   replace H : (some y111) = some r := qy H hy111
   have Ny111 := Aside0.mk hy111
   clear hy111
   obtain rfl := Option.some.inj H
   go_enter Try.func23, Try.ntmps23
   go_wp2_with (first | ((with_reducible refine gate_dst (N := 3) rfl ?_); refine be 3 #[.int .i64 a0_0, .slice A0_1 l0_1.length c0_1] 31 ?_; intro gb105 hg w29 hbox hb; have BK105 := q0 (hbox); have GW105 := q0 ((bs HB.out hg : w.heap.size ≤ gb105)); have GE105 := q0 ((bs HB.out hg : w.heap.size ≤ gb105)); replace HB := q0 (below_step (qb HB.out) hb); clear hb hbox hg; have hcz30_0 : w29.cell? ⟨gb105, 0, none⟩ = some (.int .i64 a0_0) := (blk_cell BK105.out 0).trans rfl; have hcz30_1 : w29.cell? ⟨gb105, 1, none⟩ = some (.slice A0_1 l0_1.length c0_1) := (blk_cell BK105.out 1).trans rfl; have hfz30_0 := blk_frozen BK105.out 0; have hfz30_1 := blk_frozen BK105.out 1) | ((with_reducible refine gate_callee (f := 47) rfl ?_); refine gl 8 Try.func47 #[.agg #[.int .i64 a0_0, .slice A0_1 l0_1.length c0_1]] ?_; (with_reducible refine (impl_NetOk.calls k a0_0 _ _ l0_1 true _ ?side1 ?side2 A4.out).mono ?_); (case side1 => exact qc (Kd.C_below HR0_1.out HB.out)); (case side2 => exact HC0_1.out); rintro e w31 ⟨rfl, hb⟩; refine ⟨_, rfl, ?_⟩; replace BK105 := q0 (kb BK105.out hb); replace HB := q0 (below_step (qb HB.out) hb); (try clear hb); (try clear hb2); (try clear hk); (try clear hi); have hcz32_0 : w31.cell? ⟨gb105, 0, none⟩ = some (.int .i64 a0_0) := (blk_cell BK105.out 0).trans rfl; have hcz32_1 : w31.cell? ⟨gb105, 1, none⟩ = some (.slice A0_1 l0_1.length c0_1) := (blk_cell BK105.out 1).trans rfl; have hfz32_0 := blk_frozen BK105.out 0; have hfz32_1 := blk_frozen BK105.out 1) | (go_at_call 48; (with_reducible refine (impl_Net_knot.calls a0_0 _ _ l0_1 a1 false _ ?side1 ?side2 A6.out).mono ?_); (case side1 => exact qc (Kd.C_below HR0_1.out HB.out)); (case side2 => exact HC0_1.out); rintro e w33 ⟨rfl, hb⟩; replace BK105 := q0 (kb BK105.out hb); replace HB := q0 (below_step (qb HB.out) hb); (try clear hb); (try clear hb2); (try clear hk); (try clear hi)) | ((with_reducible refine gate_dst (N := 22) rfl ?_); refine Kd.S_lit (Kd.slice 3 (Kd.int .i64)) _ 26 ?hg (N := 22) ?hd (xs := ([] : List (List Int))) (inner := []) (ok := fun _ => True) (okp := fun _ => True) ?hr ?hp (fun _ hk => hk) trivial (Below.refl _ _) (Nat.le_refl _) (by simp) ?_; (case hd => rfl); (case hg => rfl); (case hr => first | (go_simp; done) | (go_simp; rfl)); (case hp => exact (Reps.none _ _)); intro v112 w34 ho35 hb hg_ hnew_; clear hg_ hnew_; (first | rw [← Ny111.out] at ho35 | (simp only [Int.reduceToNat] at ho35; rw [← Ny111.out] at ho35)); have HO113 := q0 (Kd.S_lower ho35 (below_size (qb HB.out))); replace BK105 := q0 (kb BK105.out hb); replace HB := q0 (below_step (qb HB.out) hb); clear hb ho35))
   go_ret
   exact ⟨_, qe, qv HO113.out, qb HB.out⟩
 subst c7
 rw [if_pos rfl] at H
 replace H := Option.bind_eq_some_iff.mp H
 obtain ⟨t102, A80, H⟩ := H
 have A8 := Aside0.mk A80
 clear A80
 by_cases c9 : t102 = true
 · subst c9
   rw [if_pos rfl] at H
   replace H := Option.bind_eq_some_iff.mp H
   obtain ⟨t103, A104, H⟩ := H
   have A10 := Aside0.mk A104
   clear A104
   obtain rfl := Option.some.inj H
   go_enter Try.func23, Try.ntmps23
   go_wp2_with (first | ((with_reducible refine gate_dst (N := 3) rfl ?_); refine be 3 #[.int .i64 a0_0, .slice A0_1 l0_1.length c0_1] 31 ?_; intro gb105 hg w11 hbox hb; have BK105 := q0 (hbox); have GW105 := q0 ((bs HB.out hg : w.heap.size ≤ gb105)); have GE105 := q0 ((bs HB.out hg : w.heap.size ≤ gb105)); replace HB := q0 (below_step (qb HB.out) hb); clear hb hbox hg; have hcz12_0 : w11.cell? ⟨gb105, 0, none⟩ = some (.int .i64 a0_0) := (blk_cell BK105.out 0).trans rfl; have hcz12_1 : w11.cell? ⟨gb105, 1, none⟩ = some (.slice A0_1 l0_1.length c0_1) := (blk_cell BK105.out 1).trans rfl; have hfz12_0 := blk_frozen BK105.out 0; have hfz12_1 := blk_frozen BK105.out 1) | ((with_reducible refine gate_callee (f := 47) rfl ?_); refine gl 8 Try.func47 #[.agg #[.int .i64 a0_0, .slice A0_1 l0_1.length c0_1]] ?_; (with_reducible refine (impl_NetOk.calls k a0_0 _ _ l0_1 true _ ?side1 ?side2 A4.out).mono ?_); (case side1 => exact qc (Kd.C_below HR0_1.out HB.out)); (case side2 => exact HC0_1.out); rintro e w13 ⟨rfl, hb⟩; refine ⟨_, rfl, ?_⟩; replace BK105 := q0 (kb BK105.out hb); replace HB := q0 (below_step (qb HB.out) hb); (try clear hb); (try clear hb2); (try clear hk); (try clear hi); have hcz14_0 : w13.cell? ⟨gb105, 0, none⟩ = some (.int .i64 a0_0) := (blk_cell BK105.out 0).trans rfl; have hcz14_1 : w13.cell? ⟨gb105, 1, none⟩ = some (.slice A0_1 l0_1.length c0_1) := (blk_cell BK105.out 1).trans rfl; have hfz14_0 := blk_frozen BK105.out 0; have hfz14_1 := blk_frozen BK105.out 1) | (go_at_call 48; (with_reducible refine (impl_Net_knot.calls a0_0 _ _ l0_1 a1 true _ ?side1 ?side2 A6.out).mono ?_); (case side1 => exact qc (Kd.C_below HR0_1.out HB.out)); (case side2 => exact HC0_1.out); rintro e w15 ⟨rfl, hb⟩; replace BK105 := q0 (kb BK105.out hb); replace HB := q0 (below_step (qb HB.out) hb); (try clear hb); (try clear hb2); (try clear hk); (try clear hi); have hcz16_0 : w15.cell? ⟨gb105, 0, none⟩ = some (.int .i64 a0_0) := (blk_cell BK105.out 0).trans rfl; have hcz16_1 : w15.cell? ⟨gb105, 1, none⟩ = some (.slice A0_1 l0_1.length c0_1) := (blk_cell BK105.out 1).trans rfl; have hfz16_0 := blk_frozen BK105.out 0; have hfz16_1 := blk_frozen BK105.out 1) | (go_at_call 48; (with_reducible refine (impl_Net_knot.calls a0_0 _ _ l0_1 a2 true _ ?side1 ?side2 A8.out).mono ?_); (case side1 => exact qc (Kd.C_below HR0_1.out HB.out)); (case side2 => exact HC0_1.out); rintro e w17 ⟨rfl, hb⟩; replace BK105 := q0 (kb BK105.out hb); replace HB := q0 (below_step (qb HB.out) hb); (try clear hb); (try clear hb2); (try clear hk); (try clear hi); have hcz18_0 : w17.cell? ⟨gb105, 0, none⟩ = some (.int .i64 a0_0) := (blk_cell BK105.out 0).trans rfl; have hcz18_1 : w17.cell? ⟨gb105, 1, none⟩ = some (.slice A0_1 l0_1.length c0_1) := (blk_cell BK105.out 1).trans rfl; have hfz18_0 := blk_frozen BK105.out 0; have hfz18_1 := blk_frozen BK105.out 1) | ((with_reducible refine gate_callee (f := 49) rfl ?_); refine gl 26 Try.func49 #[.agg #[.int .i64 a0_0, .slice A0_1 l0_1.length c0_1], .int .i64 a1, .int .i64 a2] ?_; (with_reducible refine (impl_Net_all.calls k a0_0 _ _ l0_1 a1 a2 t103 _ ?side1 ?side2 A10.out).mono ?_); (case side1 => exact qc (Kd.C_below HR0_1.out HB.out)); (case side2 => exact HC0_1.out); rintro e w19 ⟨v106, rfl, ho0, hb⟩; refine ⟨_, rfl, ?_⟩; have HO107 := q0 (Kd.S_lower ho0 (below_size (qb HB.out))); replace BK105 := q0 (kb BK105.out hb); replace HB := q0 (below_step (qb HB.out) hb); (try clear hb); (try clear hb2); (try clear hk); (try clear hi); (try clear ho0)))
   go_ret
   exact ⟨_, qe, qv HO107.out, qb HB.out⟩
 replace c9 := Bool.eq_false_iff.mpr c9
 subst c9
 rw [if_neg nf] at H
 obtain ⟨y108, hy108⟩ : ∃ y_ : List (List Int), y_ = (([] : List (List Int))) := ⟨_, rfl⟩
 replace H : (some y108) = some r := qy H hy108
 have Ny108 := Aside0.mk hy108
 clear hy108
 obtain rfl := Option.some.inj H
 go_enter Try.func23, Try.ntmps23
 go_wp2_with (first | ((with_reducible refine gate_dst (N := 3) rfl ?_); refine be 3 #[.int .i64 a0_0, .slice A0_1 l0_1.length c0_1] 31 ?_; intro gb105 hg w20 hbox hb; have BK105 := q0 (hbox); have GW105 := q0 ((bs HB.out hg : w.heap.size ≤ gb105)); have GE105 := q0 ((bs HB.out hg : w.heap.size ≤ gb105)); replace HB := q0 (below_step (qb HB.out) hb); clear hb hbox hg; have hcz21_0 : w20.cell? ⟨gb105, 0, none⟩ = some (.int .i64 a0_0) := (blk_cell BK105.out 0).trans rfl; have hcz21_1 : w20.cell? ⟨gb105, 1, none⟩ = some (.slice A0_1 l0_1.length c0_1) := (blk_cell BK105.out 1).trans rfl; have hfz21_0 := blk_frozen BK105.out 0; have hfz21_1 := blk_frozen BK105.out 1) | ((with_reducible refine gate_callee (f := 47) rfl ?_); refine gl 8 Try.func47 #[.agg #[.int .i64 a0_0, .slice A0_1 l0_1.length c0_1]] ?_; (with_reducible refine (impl_NetOk.calls k a0_0 _ _ l0_1 true _ ?side1 ?side2 A4.out).mono ?_); (case side1 => exact qc (Kd.C_below HR0_1.out HB.out)); (case side2 => exact HC0_1.out); rintro e w22 ⟨rfl, hb⟩; refine ⟨_, rfl, ?_⟩; replace BK105 := q0 (kb BK105.out hb); replace HB := q0 (below_step (qb HB.out) hb); (try clear hb); (try clear hb2); (try clear hk); (try clear hi); have hcz23_0 : w22.cell? ⟨gb105, 0, none⟩ = some (.int .i64 a0_0) := (blk_cell BK105.out 0).trans rfl; have hcz23_1 : w22.cell? ⟨gb105, 1, none⟩ = some (.slice A0_1 l0_1.length c0_1) := (blk_cell BK105.out 1).trans rfl; have hfz23_0 := blk_frozen BK105.out 0; have hfz23_1 := blk_frozen BK105.out 1) | (go_at_call 48; (with_reducible refine (impl_Net_knot.calls a0_0 _ _ l0_1 a1 true _ ?side1 ?side2 A6.out).mono ?_); (case side1 => exact qc (Kd.C_below HR0_1.out HB.out)); (case side2 => exact HC0_1.out); rintro e w24 ⟨rfl, hb⟩; replace BK105 := q0 (kb BK105.out hb); replace HB := q0 (below_step (qb HB.out) hb); (try clear hb); (try clear hb2); (try clear hk); (try clear hi); have hcz25_0 : w24.cell? ⟨gb105, 0, none⟩ = some (.int .i64 a0_0) := (blk_cell BK105.out 0).trans rfl; have hcz25_1 : w24.cell? ⟨gb105, 1, none⟩ = some (.slice A0_1 l0_1.length c0_1) := (blk_cell BK105.out 1).trans rfl; have hfz25_0 := blk_frozen BK105.out 0; have hfz25_1 := blk_frozen BK105.out 1) | (go_at_call 48; (with_reducible refine (impl_Net_knot.calls a0_0 _ _ l0_1 a2 false _ ?side1 ?side2 A8.out).mono ?_); (case side1 => exact qc (Kd.C_below HR0_1.out HB.out)); (case side2 => exact HC0_1.out); rintro e w26 ⟨rfl, hb⟩; replace BK105 := q0 (kb BK105.out hb); replace HB := q0 (below_step (qb HB.out) hb); (try clear hb); (try clear hb2); (try clear hk); (try clear hi)) | ((with_reducible refine gate_dst (N := 22) rfl ?_); refine Kd.S_lit (Kd.slice 3 (Kd.int .i64)) _ 26 ?hg (N := 22) ?hd (xs := ([] : List (List Int))) (inner := []) (ok := fun _ => True) (okp := fun _ => True) ?hr ?hp (fun _ hk => hk) trivial (Below.refl _ _) (Nat.le_refl _) (by simp) ?_; (case hd => rfl); (case hg => rfl); (case hr => first | (go_simp; done) | (go_simp; rfl)); (case hp => exact (Reps.none _ _)); intro v109 w27 ho28 hb hg_ hnew_; clear hg_ hnew_; (first | rw [← Ny108.out] at ho28 | (simp only [Int.reduceToNat] at ho28; rw [← Ny108.out] at ho28)); have HO110 := q0 (Kd.S_lower ho28 (below_size (qb HB.out))); replace BK105 := q0 (kb BK105.out hb); replace HB := q0 (below_step (qb HB.out) hb); clear hb ho28))
 go_ret
 exact ⟨_, qe, qv HO110.out, qb HB.out⟩

end Go.Proofs.Ytmfmeenfhdohcaa.P
