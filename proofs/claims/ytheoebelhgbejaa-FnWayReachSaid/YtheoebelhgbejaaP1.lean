import Derived.Test.YtheoebelhgbejaaP0
namespace Go.Proofs.Ytheoebelhgbejaa.P
open Go.RowKit Go.Proofs.YtheoebelhgbejaaW.PrintWords Go.Proofs.YtheoebelhgbejaaW.PrintLast Go.Proofs.YtheoebelhgbejaaW.PrintMore
attribute [local go_sem] max2_int min2_int max_two min_two max_three min_three max_four min_four
set_option linter.unusedVariables false
set_option linter.unusedSimpArgs false
attribute [local go_sem high] eqATie
set_option maxHeartbeats 8000000 in
set_option maxRecDepth 100000 in
theorem spec_l6In.calls (a0 : Int) (a1 : Int) (a2 : Int) (r : Bool) (w : World) (h : spec_l6In.f a0 a1 a2 = some r) :
    Calls Try.prog 76 #[.int .i64 a0, .int .i64 a1, .int .i64 a2] w fun e w' => e = .returned (.bool r) ∧ Drawn0 w w' := by
 have H : (if a0 ≥ a1 then (some (decide (a0 ≤ a2))) else (some false)) = some r := h
 clear h
 by_cases c4 : a0 ≥ a1
 · rw [if_pos c4] at H
   have c4b0 : decide (a1 ≤ a0) = true := decide_eq_true c4
   clear c4
   obtain rfl := Option.some.inj H
   go_enter Try.func76, Try.ntmps76
   go_wp2
   go_ret
   exact ⟨by first | rfl | (simp; done) | (simp [*]; done), by repeat (first | exact Drawn0.refl _ | apply Drawn0.step)⟩
 rw [if_neg c4] at H
 have c4b0 : decide (a1 ≤ a0) = false := decide_eq_false c4
 clear c4
 obtain rfl := Option.some.inj H
 go_enter Try.func76, Try.ntmps76
 go_wp2
 go_ret
 exact ⟨by first | rfl | (simp; done) | (simp [*]; done), by repeat (first | exact Drawn0.refl _ | apply Drawn0.step)⟩

set_option maxHeartbeats 8000000 in
set_option maxRecDepth 100000 in
theorem spec_l1Less.calls (a0_0 : Int) (a0_1 : Int) (a1_0 : Int) (a1_1 : Int) (r : Bool) (w : World) (h : spec_l1Less.f a0_0 a0_1 a1_0 a1_1 = some r) :
    Calls Try.prog 77 #[.agg #[.int .i64 a0_0, .int .i64 a0_1], .agg #[.int .i64 a1_0, .int .i64 a1_1]] w fun e w' => e = .returned (.bool r) ∧ Below w.heap.size w w' := by
 have hu44 := Try.underlying44
 have HB := q0 (Below.refl w.heap.size w)
 have H : (if a0_0 < a1_0 then (some true) else (if a0_0 = a1_0 then (some (decide (a0_1 < a1_1))) else (some false))) = some r := h
 clear h
 by_cases c3 : a0_0 < a1_0
 · rw [if_pos c3] at H
   have c3b0 : decide (a0_0 < a1_0) = true := decide_eq_true c3
   clear c3
   obtain rfl := Option.some.inj H
   go_enter Try.func77, Try.ntmps77
   go_wp2_with (first | ((with_reducible refine gate_dst (N := 2) rfl ?_); refine be 2 #[.int .i64 a0_0, .int .i64 a0_1] 44 ?_; intro gb100 hg w4 hbox hb; have n0_ := q0 (below_step (qb HB.out) hb); have n1_ := q0 (hbox); have n2_ := q0 ((bs HB.out hg : w.heap.size ≤ gb100)); have n3_ := q0 ((bs HB.out hg : w.heap.size ≤ gb100)); clear HB; have HB := n0_; have BK100 := n1_; have GW100 := n2_; have GE100 := n3_; clear n0_ n1_ n2_ n3_ hb hbox hg) | ((with_reducible refine gate_dst (N := 3) rfl ?_); refine be 3 #[.int .i64 a1_0, .int .i64 a1_1] 44 ?_; intro gb101 hg w5 hbox hb; have n0_ := q0 (kb BK100.out hb); have n1_ := q0 (below_step (qb HB.out) hb); have n2_ := q0 (hbox); have n3_ := q0 ((bs HB.out hg : w.heap.size ≤ gb101)); have n4_ := q0 ((bs HB.out hg : w.heap.size ≤ gb101)); have n5_ := q0 ((bl BK100.out hg : gb100 ≠ gb101)); have n6_ := q0 ((bg BK100.out hg : gb101 ≠ gb100)); clear BK100 HB; have BK100 := n0_; have HB := n1_; have BK101 := n2_; have GW101 := n3_; have GE101 := n4_; have NB100_101 := n5_; have NB101_100 := n6_; clear n0_ n1_ n2_ n3_ n4_ n5_ n6_ hb hbox hg; have hnb6 := NB100_101.out; have hnc6 := NB101_100.out; have hcz7_0 : w5.cell? ⟨gb100, 0, none⟩ = some (.int .i64 a0_0) := (blk_cell BK100.out 0).trans rfl; have hcz7_1 : w5.cell? ⟨gb100, 1, none⟩ = some (.int .i64 a0_1) := (blk_cell BK100.out 1).trans rfl; have hfz7_0 := blk_frozen BK100.out 0; have hfz7_1 := blk_frozen BK100.out 1; have hcz8_0 : w5.cell? ⟨gb101, 0, none⟩ = some (.int .i64 a1_0) := (blk_cell BK101.out 0).trans rfl; have hcz8_1 : w5.cell? ⟨gb101, 1, none⟩ = some (.int .i64 a1_1) := (blk_cell BK101.out 1).trans rfl; have hfz8_0 := blk_frozen BK101.out 0; have hfz8_1 := blk_frozen BK101.out 1))
   go_ret
   exact ⟨qe, qb HB.out⟩
 rw [if_neg c3] at H
 have c3b0 : decide (a0_0 < a1_0) = false := decide_eq_false c3
 clear c3
 by_cases c9 : a0_0 = a1_0
 rotate_left
 · rw [if_neg c9] at H
   have c9b0 : (a0_0 == a1_0) = false := beq_eq_false_iff_ne.mpr c9
   have c9b1 : (a0_0 != a1_0) = true := bne_iff_ne.mpr c9
   obtain rfl := Option.some.inj H
   go_enter Try.func77, Try.ntmps77
   go_wp2_with (first | ((with_reducible refine gate_dst (N := 2) rfl ?_); refine be 2 #[.int .i64 a0_0, .int .i64 a0_1] 44 ?_; intro gb100 hg w15 hbox hb; have n0_ := q0 (below_step (qb HB.out) hb); have n1_ := q0 (hbox); have n2_ := q0 ((bs HB.out hg : w.heap.size ≤ gb100)); have n3_ := q0 ((bs HB.out hg : w.heap.size ≤ gb100)); clear HB; have HB := n0_; have BK100 := n1_; have GW100 := n2_; have GE100 := n3_; clear n0_ n1_ n2_ n3_ hb hbox hg) | ((with_reducible refine gate_dst (N := 3) rfl ?_); refine be 3 #[.int .i64 a1_0, .int .i64 a1_1] 44 ?_; intro gb101 hg w16 hbox hb; have n0_ := q0 (kb BK100.out hb); have n1_ := q0 (below_step (qb HB.out) hb); have n2_ := q0 (hbox); have n3_ := q0 ((bs HB.out hg : w.heap.size ≤ gb101)); have n4_ := q0 ((bs HB.out hg : w.heap.size ≤ gb101)); have n5_ := q0 ((bl BK100.out hg : gb100 ≠ gb101)); have n6_ := q0 ((bg BK100.out hg : gb101 ≠ gb100)); clear BK100 HB; have BK100 := n0_; have HB := n1_; have BK101 := n2_; have GW101 := n3_; have GE101 := n4_; have NB100_101 := n5_; have NB101_100 := n6_; clear n0_ n1_ n2_ n3_ n4_ n5_ n6_ hb hbox hg; have hnb17 := NB100_101.out; have hnc17 := NB101_100.out; have hcz18_0 : w16.cell? ⟨gb100, 0, none⟩ = some (.int .i64 a0_0) := (blk_cell BK100.out 0).trans rfl; have hcz18_1 : w16.cell? ⟨gb100, 1, none⟩ = some (.int .i64 a0_1) := (blk_cell BK100.out 1).trans rfl; have hfz18_0 := blk_frozen BK100.out 0; have hfz18_1 := blk_frozen BK100.out 1; have hcz19_0 : w16.cell? ⟨gb101, 0, none⟩ = some (.int .i64 a1_0) := (blk_cell BK101.out 0).trans rfl; have hcz19_1 : w16.cell? ⟨gb101, 1, none⟩ = some (.int .i64 a1_1) := (blk_cell BK101.out 1).trans rfl; have hfz19_0 := blk_frozen BK101.out 0; have hfz19_1 := blk_frozen BK101.out 1))
   go_ret
   exact ⟨qe, qb HB.out⟩
 rw [if_pos c9] at H
 have c9b0 : (a0_0 == a1_0) = true := beq_iff_eq.mpr c9
 have c9b1 : (a0_0 != a1_0) = false := bne_eq_false_iff_eq.mpr c9
 clear c9
 obtain rfl := Option.some.inj H
 go_enter Try.func77, Try.ntmps77
 go_wp2_with (first | ((with_reducible refine gate_dst (N := 2) rfl ?_); refine be 2 #[.int .i64 a0_0, .int .i64 a0_1] 44 ?_; intro gb100 hg w10 hbox hb; have n0_ := q0 (below_step (qb HB.out) hb); have n1_ := q0 (hbox); have n2_ := q0 ((bs HB.out hg : w.heap.size ≤ gb100)); have n3_ := q0 ((bs HB.out hg : w.heap.size ≤ gb100)); clear HB; have HB := n0_; have BK100 := n1_; have GW100 := n2_; have GE100 := n3_; clear n0_ n1_ n2_ n3_ hb hbox hg) | ((with_reducible refine gate_dst (N := 3) rfl ?_); refine be 3 #[.int .i64 a1_0, .int .i64 a1_1] 44 ?_; intro gb101 hg w11 hbox hb; have n0_ := q0 (kb BK100.out hb); have n1_ := q0 (below_step (qb HB.out) hb); have n2_ := q0 (hbox); have n3_ := q0 ((bs HB.out hg : w.heap.size ≤ gb101)); have n4_ := q0 ((bs HB.out hg : w.heap.size ≤ gb101)); have n5_ := q0 ((bl BK100.out hg : gb100 ≠ gb101)); have n6_ := q0 ((bg BK100.out hg : gb101 ≠ gb100)); clear BK100 HB; have BK100 := n0_; have HB := n1_; have BK101 := n2_; have GW101 := n3_; have GE101 := n4_; have NB100_101 := n5_; have NB101_100 := n6_; clear n0_ n1_ n2_ n3_ n4_ n5_ n6_ hb hbox hg; have hnb12 := NB100_101.out; have hnc12 := NB101_100.out; have hcz13_0 : w11.cell? ⟨gb100, 0, none⟩ = some (.int .i64 a0_0) := (blk_cell BK100.out 0).trans rfl; have hcz13_1 : w11.cell? ⟨gb100, 1, none⟩ = some (.int .i64 a0_1) := (blk_cell BK100.out 1).trans rfl; have hfz13_0 := blk_frozen BK100.out 0; have hfz13_1 := blk_frozen BK100.out 1; have hcz14_0 : w11.cell? ⟨gb101, 0, none⟩ = some (.int .i64 a1_0) := (blk_cell BK101.out 0).trans rfl; have hcz14_1 : w11.cell? ⟨gb101, 1, none⟩ = some (.int .i64 a1_1) := (blk_cell BK101.out 1).trans rfl; have hfz14_0 := blk_frozen BK101.out 0; have hfz14_1 := blk_frozen BK101.out 1))
 go_ret
 exact ⟨qe, qb HB.out⟩

def spec_NetOk.T7 : Bool × List (List Nat × List Nat) := (true, [([], []), ([0], [0]), ([], []), ([2], [2]), ([3], [3]), ([1, 4], [1, 4]), ([5], [5]), ([6, 5], [6]), ([7], [7]), ([8, 7], [7, 8]), ([7], [7]), ([10, 7], [7, 10]), ([11, 7], [7, 11]), ([7], [7]), ([13, 7], [7, 13]), ([14, 7], [7, 14]), ([9, 12, 15, 7, 7], [7, 9, 12, 15]), ([16, 7], [7, 16]), ([7, 17], [7, 17]), ([18, 16], [18]), ([19], [19]), ([20, 19], [19, 20]), ([21, 19, 19], [19, 21]), ([22], [22]), ([23, 22], [22, 23]), ([22], [22]), ([25, 22], [22, 25]), ([24, 26, 22], [22, 24, 26]), ([27, 22], [22, 27]), ([22], [22]), ([28, 29, 22, 22], [22, 28, 29]), ([30, 22], [22, 30]), ([22, 31, 19], [19, 22, 31]), ([19, 32], [19, 32])])
def spec_NetOk.B7 : List Nat := [0, 1, 0, 4, 12, 31, 63, 127, 255, 511, 255, 1279, 3327, 255, 8447, 24831, 65535, 131071, 262143, 524287, 1048575, 2097151, 4194303, 8388607, 16777215, 8388607, 41943039, 134217727, 268435455, 8388607, 1073741823, 2147483647, 4294967295, 8589934591]
theorem spec_NetOk.tab7 : rtab .any (opsOf Try.f49 7) = spec_NetOk.T7 := by kernel_rfl
theorem spec_NetOk.bits7 : waitsOk spec_NetOk.T7.2 spec_NetOk.B7 = true := by kernel_rfl
set_option maxHeartbeats 8000000 in
set_option maxRecDepth 100000 in
theorem spec_NetOk.calls (k : Nat) (a0_0 : Int) (A0_1 : Option Addr) (c0_1 : Nat) (l0_1 : List (STie)) (r : Bool) (w : World) (hr0_1 : Kd.C kTie w A0_1 l0_1.length l0_1) (hc0_1 : l0_1.length ≤ c0_1) (h : spec_NetOk.f k a0_0 l0_1 = some r) :
    Calls Try.prog 49 #[.agg #[.int .i64 a0_0, .slice A0_1 l0_1.length c0_1]] w fun e w' => e = .returned (.bool r) ∧ Below w.heap.size w w' := by
 have hu30 := Try.underlying30
 have hu44 := Try.underlying44
 have HR0_1 := Aside0.mk hr0_1
 have HC0_1 := Aside0.mk hc0_1
 clear hr0_1 hc0_1
 have HB := q0 (Below.refl w.heap.size w)
 have H : ((spec_l6In.f a0_0 0 8).bind fun t100 => (if t100 = true then (spec_NetOk.j0 k (decide ((l0_1.length : Int) > 64)) a0_0 l0_1) else (spec_NetOk.j0 k true a0_0 l0_1))) = some r := h
 clear h
 have HC2 := Aside0.mk H
 clear H
 go_enter Try.func49, Try.ntmps49
 go_upto_region 1 with (first | ((with_reducible refine gate_dst (N := 1) rfl ?_); (try (refine gate_guard (by rfl) ?_; dsimp only)); refine be 1 #[.int .i64 a0_0, .slice A0_1 l0_1.length c0_1] 30 ?_; intro gb104 hg w3 hbox hb; have n0_ := q0 (below_step (qb HB.out) hb); have n1_ := q0 (hbox); have n2_ := q0 ((bs HB.out hg : w.heap.size ≤ gb104)); have n3_ := q0 ((bs HB.out hg : w.heap.size ≤ gb104)); clear HB; have HB := n0_; have BK104 := n1_; have GW104 := n2_; have GE104 := n3_; clear n0_ n1_ n2_ n3_ hb hbox hg))
 (try simp only [Act.put, List.setIfInBounds_toArray, List.set_cons_zero, List.set_cons_succ])
 go_cut [14] (fun v14 wc => ∃ (kq : Nat) (x14_1 : Bool), v14 = .bool x14_1 ∧ Aside0 (spec_NetOk.j0 kq x14_1 a0_0 l0_1 = some r) ∧ Aside0 (kq ≤ k) ∧ Aside0 (wc.heap[gb104]? = some (.cells #[.int .i64 a0_0, (.slice A0_1 l0_1.length c0_1)] 30 (0, 0))) ∧ Aside0 (Below w.heap.size w wc))
 case first =>
   have H := HC2.out
   clear HC2
   replace H := Option.bind_eq_some_iff.mp H
   obtain ⟨t100, A40, H⟩ := H
   replace H : (if t100 = true then (spec_NetOk.j0 k (decide ((l0_1.length : Int) > 64)) a0_0 l0_1) else (spec_NetOk.j0 k true a0_0 l0_1)) = some r := H
   have A4 := Aside0.mk A40
   clear A40
   by_cases c5 : t100 = true
   · subst c5
     have H1 : (spec_NetOk.j0 k (decide ((l0_1.length : Int) > 64)) a0_0 l0_1) = some r := by rw [if_pos rfl] at H; exact H
     clear H
     have H := H1
     clear H1
     have H' := Aside0.mk H
     clear H
     have hcz6_0 : w3.cell? ⟨gb104, 0, none⟩ = some (.int .i64 a0_0) := (blk_cell BK104.out 0).trans rfl
     have hcz6_1 : w3.cell? ⟨gb104, 1, none⟩ = some (.slice A0_1 l0_1.length c0_1) := (blk_cell BK104.out 1).trans rfl
     have hfz6_0 := blk_frozen BK104.out 0
     have hfz6_1 := blk_frozen BK104.out 1
     go_wp2_with (first | ((with_reducible refine gate_callee (f := 76) rfl ?_); refine goesL_ (some 7) rfl rfl Try.func76 (by kernel_rfl) rfl #[.int .i64 a0_0, .int .i64 0, .int .i64 8] rfl qm ?_; (with_reducible refine (spec_l6In.calls a0_0 0 8 true _ A4.out).mono ?_); rintro e w' ⟨rfl, ⟨nd, rfl⟩⟩; refine ⟨_, rfl, ?_⟩))
     go_meet
     case rel => exact ⟨_, (decide ((l0_1.length : Int) > 64)), qs, H', ⟨by first | omega | exact Nat.le_refl _⟩, ⟨qk BK104.out⟩, ⟨qb HB.out⟩⟩
   replace c5 := Bool.eq_false_iff.mpr c5
   subst c5
   have H1 : (spec_NetOk.j0 k true a0_0 l0_1) = some r := by rw [if_neg (show ¬ (false = true) by decide)] at H; exact H
   clear H
   have H := H1
   clear H1
   have H' := Aside0.mk H
   clear H
   have hcz7_0 : w3.cell? ⟨gb104, 0, none⟩ = some (.int .i64 a0_0) := (blk_cell BK104.out 0).trans rfl
   have hcz7_1 : w3.cell? ⟨gb104, 1, none⟩ = some (.slice A0_1 l0_1.length c0_1) := (blk_cell BK104.out 1).trans rfl
   have hfz7_0 := blk_frozen BK104.out 0
   have hfz7_1 := blk_frozen BK104.out 1
   go_wp2_with (first | ((with_reducible refine gate_callee (f := 76) rfl ?_); refine goesL_ (some 7) rfl rfl Try.func76 (by kernel_rfl) rfl #[.int .i64 a0_0, .int .i64 0, .int .i64 8] rfl qm ?_; (with_reducible refine (spec_l6In.calls a0_0 0 8 false _ A4.out).mono ?_); rintro e w' ⟨rfl, ⟨nd, rfl⟩⟩; refine ⟨_, rfl, ?_⟩))
   go_meet
   case rel => exact ⟨_, (true), qs, H', ⟨by first | omega | exact Nat.le_refl _⟩, ⟨qk BK104.out⟩, ⟨qb HB.out⟩⟩
 clear HC2
 try clear p2
 try clear c4
 try clear c5
 try clear c7
 try clear hcz6_0
 try clear hcz6_1
 try clear hcz7_0
 try clear hcz7_1
 try clear hfz6_0
 try clear hfz6_1
 try clear hfz7_0
 try clear hfz7_1
 obtain ⟨kq, x14_1, rfl, HA, HJ1, BK104, HB⟩ := hcut
 rcases kq with _ | kj1
 · exact absurd HA.out (by simp [spec_NetOk.j0])
 have H := HA.out
 clear HA
 simp only [spec_NetOk.j0] at H
 by_cases c8 : x14_1 = true
 · subst c8
   have H1 : (some false) = some r := by rw [if_pos rfl] at H; exact H
   clear H
   have H := H1
   clear H1
   obtain rfl := Option.some.inj H
   go_wp2
   go_ret
   exact ⟨qe, qb HB.out⟩
 replace c8 := Bool.eq_false_iff.mpr c8
 subst c8
 have H1 : (spec_NetOk.l0 kj1 0 a0_0 l0_1) = some r := by rw [if_neg (show ¬ (false = true) by decide)] at H; exact H
 clear H
 have H := H1
 clear H1
 have H' := Aside0.mk H
 clear H
 go_wp2
 go_loopg [3] kj1 (fun kq v3 w' => ∃ (x3_2 : Int), v3 = .int .i64 x3_2 ∧ Aside0 (spec_NetOk.l0 kq x3_2 a0_0 l0_1 = some r) ∧ Aside0 (kq ≤ kj1) ∧ Aside0 (w'.heap[gb104]? = some (.cells #[.int .i64 a0_0, (.slice A0_1 l0_1.length c0_1)] 30 (0, 0))) ∧ Aside0 (Below w.heap.size w w'))
 case atStart => exact ⟨(0), qs, H', ⟨Nat.le_refl _⟩, ⟨qk BK104.out⟩, ⟨qb HB.out⟩⟩
 clear H'
 try clear p2
 try clear c4
 try clear c5
 try clear c7
 try clear c8
 try clear hcz6_0
 try clear hcz6_1
 try clear hcz7_0
 try clear hcz7_1
 try clear hfz6_0
 try clear hfz6_1
 try clear hfz7_0
 try clear hfz7_1
 try clear p2
 obtain ⟨x3_2, rfl, HA, HK2, BK104, HB⟩ := hrel
 rcases gk with _ | k2
 · exact absurd HA.out (by simp [spec_NetOk.l0])
 have H := HA.out
 clear HA
 simp only [spec_NetOk.l0] at H
 by_cases c9 : x3_2 < (l0_1.length : Int)
 rotate_left
 · rw [if_neg c9] at H
   have c9b0 : decide (x3_2 < (l0_1.length : Int)) = false := decide_eq_false c9
   clear c9
   obtain rfl := Option.some.inj H
   have hcz53_0 : wr.cell? ⟨gb104, 0, none⟩ = some (.int .i64 a0_0) := (blk_cell BK104.out 0).trans rfl
   have hcz53_1 : wr.cell? ⟨gb104, 1, none⟩ = some (.slice A0_1 l0_1.length c0_1) := (blk_cell BK104.out 1).trans rfl
   have hfz53_0 := blk_frozen BK104.out 0
   have hfz53_1 := blk_frozen BK104.out 1
   go_wp2
   go_ret
   exact ⟨qe, qb HB.out⟩
 rw [if_pos c9] at H
 have c9b0 : decide (x3_2 < (l0_1.length : Int)) = true := decide_eq_true c9
 clear c9
 by_cases c10 : 0 ≤ x3_2
 rotate_left
 · rw [if_neg c10] at H
   exact absurd H (by simp)
 rw [if_pos c10] at H
 have c10b0 : decide (0 ≤ x3_2) = true := decide_eq_true c10
 clear c10
 replace H := Option.bind_eq_some_iff.mp H
 obtain ⟨t101, A102, H⟩ := H
 replace H : (if t101 = true then ((spec_l6In.f ((rd_TTie l0_1 x3_2).f1) (wrap64 (((rd_TTie l0_1 x3_2).f0) + 1)) (wrap64 (a0_0 - 1))).bind fun t102 => (if t102 = true then (if x3_2 > 0 then (if 0 ≤ (wrap64 (x3_2 - 1)) then (if (wrap64 (x3_2 - 1)) < (l0_1.length : Int) then ((spec_l1Less.f ((rd_TTie l0_1 (wrap64 (x3_2 - 1))).f0) ((rd_TTie l0_1 (wrap64 (x3_2 - 1))).f1) ((rd_TTie l0_1 x3_2).f0) ((rd_TTie l0_1 x3_2).f1)).bind fun t103 => (if t103 = true then (spec_NetOk.l0 k2 (wrap64 (x3_2 + 1)) a0_0 l0_1) else (some false))) else (none)) else (none)) else (spec_NetOk.l0 k2 (wrap64 (x3_2 + 1)) a0_0 l0_1)) else (some false))) else (some false)) = some r := H
 have A11 := Aside0.mk A102
 clear A102
 by_cases c12 : t101 = true
 rotate_left
 · replace c12 := Bool.eq_false_iff.mpr c12
   subst c12
   have H1 : (some false) = some r := by rw [if_neg (show ¬ (false = true) by decide)] at H; exact H
   clear H
   have H := H1
   clear H1
   obtain rfl := Option.some.inj H
   have hcz47_0 : wr.cell? ⟨gb104, 0, none⟩ = some (.int .i64 a0_0) := (blk_cell BK104.out 0).trans rfl
   have hcz47_1 : wr.cell? ⟨gb104, 1, none⟩ = some (.slice A0_1 l0_1.length c0_1) := (blk_cell BK104.out 1).trans rfl
   have hfz47_0 := blk_frozen BK104.out 0
   have hfz47_1 := blk_frozen BK104.out 1
   have p107 : 0 ≤ (x3_2 : Int) := of_decide_eq_true qa
   have q107 : x3_2 < (l0_1.length : Int) := of_decide_eq_true qa
   obtain ⟨ad107, e107, hx107_0, hx107_1⟩ := at_TTie HR0_1.out x3_2 p107 q107
   cases e107
   replace hx107_0 := (HB.out.cell (World.block_lt_of_cell? w _ hx107_0)).trans hx107_0
   replace hx107_1 := (HB.out.cell (World.block_lt_of_cell? w _ hx107_1)).trans hx107_1
   replace p107 := eq_true p107
   replace q107 := eq_true q107
   try go_wp2_with (first | ((with_reducible refine gate_dst (N := 4) rfl ?_); (try (refine gate_guard (by rfl) ?_; dsimp only)); refine be 4 #[.int .i64 0, .int .i64 0] 44 ?_; intro gb108 hg w48 hbox hb; have n0_ := q0 (kb BK104.out hb); have n1_ := q0 (below_step (qb HB.out) hb); have n2_ := q0 (hbox); have n3_ := q0 ((bs HB.out hg : w.heap.size ≤ gb108)); have n4_ := q0 ((bs HB.out hg : w.heap.size ≤ gb108)); have n5_ := q0 ((bl BK104.out hg : gb104 ≠ gb108)); have n6_ := q0 ((bg BK104.out hg : gb108 ≠ gb104)); clear BK104 HB; have BK104 := n0_; have HB := n1_; have BK108 := n2_; have GW108 := n3_; have GE108 := n4_; have NB104_108 := n5_; have NB108_104 := n6_; clear n0_ n1_ n2_ n3_ n4_ n5_ n6_ hb hbox hg; have hnb49 := NB108_104.out; have hnc49 := NB104_108.out; have hcz50_0 : w48.cell? ⟨gb108, 0, none⟩ = some (.int .i64 0) := (blk_cell BK108.out 0).trans rfl; have hcz50_1 : w48.cell? ⟨gb108, 1, none⟩ = some (.int .i64 0) := (blk_cell BK108.out 1).trans rfl; have hfz50_0 := blk_frozen BK108.out 0; have hfz50_1 := blk_frozen BK108.out 1))
   have n0_ : Aside0 (((w48.setCell ⟨gb108, 0, none⟩ (.int .i64 ((rd_TTie l0_1 x3_2).f0))).setCell ⟨gb108, 1, none⟩ (.int .i64 ((rd_TTie l0_1 x3_2).f1))).heap[gb104]? = some (.cells #[.int .i64 a0_0, .slice (some ad107) l0_1.length c0_1] 30 (0, 0))) := ⟨qf BK104.out⟩
   have n1_ : Aside0 (((w48.setCell ⟨gb108, 0, none⟩ (.int .i64 ((rd_TTie l0_1 x3_2).f0))).setCell ⟨gb108, 1, none⟩ (.int .i64 ((rd_TTie l0_1 x3_2).f1))).heap[gb108]? = some (.cells #[.int .i64 ((rd_TTie l0_1 x3_2).f0), .int .i64 ((rd_TTie l0_1 x3_2).f1)] 44 (0, 0))) := ⟨by (with_reducible repeat (first | refine blk_drewN ?_ _ | refine blk_drew ?_ | refine blk_alloc ?_ _)); refine blk_put (cs := #[.int .i64 ((rd_TTie l0_1 x3_2).f0), .int .i64 0]) ?_ 1 _ rfl; (with_reducible repeat (first | refine blk_drewN ?_ _ | refine blk_drew ?_ | refine blk_alloc ?_ _)); refine blk_put (cs := #[.int .i64 0, .int .i64 0]) ?_ 0 _ rfl; (with_reducible repeat (first | refine blk_drewN ?_ _ | refine blk_drew ?_ | refine blk_alloc ?_ _)); exact BK108.out⟩
   have n2_ : Aside0 (Below w.heap.size w ((w48.setCell ⟨gb108, 0, none⟩ (.int .i64 ((rd_TTie l0_1 x3_2).f0))).setCell ⟨gb108, 1, none⟩ (.int .i64 ((rd_TTie l0_1 x3_2).f1)))) := ⟨qb HB.out⟩
   (try clear BK104)
   (try clear BK108)
   (try clear HB)
   generalize ((w48.setCell ⟨gb108, 0, none⟩ (.int .i64 ((rd_TTie l0_1 x3_2).f0))).setCell ⟨gb108, 1, none⟩ (.int .i64 ((rd_TTie l0_1 x3_2).f1))) = w51 at n0_ n1_ n2_ ⊢
   have BK104 := n0_
   have BK108 := n1_
   have HB := n2_
   clear n0_ n1_ n2_
   have n0_ := q0 (blk_drew BK104.out)
   have n1_ := q0 (blk_drew BK108.out)
   have n2_ := q0 (below_drew1 HB.out)
   clear BK104
   clear BK108
   clear HB
   have BK104 := n0_
   have BK108 := n1_
   have HB := n2_
   clear n0_ n1_ n2_
   refine start_ (n := 34) (S := fun w' => w'.cell? ⟨gb108, 0, none⟩ = some (.int .i64 ((rd_TTie l0_1 x3_2).f0)) ∧ w'.cell? ⟨gb108, 1, none⟩ = some (.int .i64 ((rd_TTie l0_1 x3_2).f1)) ∧ w'.cell? ⟨gb104, 0, none⟩ = some (.int .i64 a0_0) ∧ w'.cell? ⟨gb104, 1, none⟩ = some (.slice (some ad107) l0_1.length c0_1)) (ds := []) (ba 34 0) (by kernel_rfl) rfl (by kernel_rfl) ⟨(blk_cell BK108.out 0).trans rfl, (blk_cell BK108.out 1).trans rfl, (blk_cell BK104.out 0).trans rfl, (blk_cell BK104.out 1).trans rfl⟩ (fun hHeld => ?_); refine with_tabW spec_NetOk.tab7 spec_NetOk.bits7 (fun HT_ HW_ => ?_)
   generalize w51.drew = w52 at BK104 BK108 HB hHeld ⊢
   refine pu 0 (some 27) (ba 34 1) HT_.out ?_
   refine pu 2 (some 29) (ba 34 5) HT_.out ?_
   refine tu 1 (some 28) (ba 34 7) HT_.out HW_.out hHeld ?_
   refine tu 3 (some 30) (ba 34 15) HT_.out HW_.out hHeld ?_
   refine pu 4 (some 31) (ba 34 31) HT_.out ?_
   refine one_ (i := 5) (N := some 32) (ba 34 63) rfl rfl (one_of HT_.out (by kernel_rfl)) (by decide) (fun K hK => ?_)
   refine goes_ Try.func76 (by kernel_rfl) rfl #[.int .i64 ((rd_TTie l0_1 x3_2).f0), .int .i64 0, .int .i64 (wrap64 (a0_0 - 1))] (by rfl) rfl rfl qm ?_
   with_reducible refine (spec_l6In.calls ((rd_TTie l0_1 x3_2).f0) 0 (wrap64 (a0_0 - 1)) false _ A11.out).mono ?_
   rintro e w' ⟨rfl, ⟨nd, rfl⟩⟩
   refine ⟨_, rfl, ?_⟩
   refine hK.out _ _ ⟨(blk_cell BK108.out 0).trans rfl, (blk_cell BK108.out 1).trans rfl, (blk_cell BK104.out 0).trans rfl, (blk_cell BK104.out 1).trans rfl⟩ (fun hHeld => ?_)
   clear hK K
   refine nu 32 ?_
   refine pu 6 (some 33) (ba 34 127) HT_.out ?_
   refine pu 7 (some 34) (ba 34 255) HT_.out ?_
   refine pv 8 (some 35) (ba 34 511) HT_.out ?_
   refine pv 9 (some 36) (ba 34 1023) HT_.out ?_
   refine pv 10 (some 37) (ba 34 2047) HT_.out ?_
   refine pv 11 (some 38) (ba 34 4095) HT_.out ?_
   refine pv 12 (some 39) (ba 34 8191) HT_.out ?_
   refine pv 13 (some 40) (ba 34 16383) HT_.out ?_
   refine pv 14 (some 41) (ba 34 32767) HT_.out ?_
   refine pv 15 (some 42) (ba 34 65535) HT_.out ?_
   refine pv 16 (some 43) (ba 34 131071) HT_.out ?_
   refine pv 17 (some 44) (ba 34 262143) HT_.out ?_
   refine pu 18 (some 45) (ba 34 524287) HT_.out ?_
   refine pu 19 (some 46) (ba 34 1048575) HT_.out ?_
   refine pv 20 (some 47) (ba 34 2097151) HT_.out ?_
   refine pv 21 (some 48) (ba 34 4194303) HT_.out ?_
   refine pv 22 (some 49) (ba 34 8388607) HT_.out ?_
   refine pv 23 (some 50) (ba 34 16777215) HT_.out ?_
   refine pv 24 (some 51) (ba 34 33554431) HT_.out ?_
   refine pv 25 (some 52) (ba 34 67108863) HT_.out ?_
   refine pv 26 (some 53) (ba 34 134217727) HT_.out ?_
   refine pv 27 (some 54) (ba 34 268435455) HT_.out ?_
   refine pv 28 (some 55) (ba 34 536870911) HT_.out ?_
   refine pv 29 (some 56) (ba 34 1073741823) HT_.out ?_
   refine pv 30 (some 57) (ba 34 2147483647) HT_.out ?_
   refine pv 31 (some 58) (ba 34 4294967295) HT_.out ?_
   refine pv 32 (some 59) (ba 34 8589934591) HT_.out ?_
   refine pu 33 (some 60) (ba 34 17179869183) HT_.out ?_
   refine done_ (done_of HT_.out (by kernel_rfl)) ?_
   try go_wp2
   go_ret
   exact ⟨qe, qb HB.out⟩
 subst c12
 have H1 : ((spec_l6In.f ((rd_TTie l0_1 x3_2).f1) (wrap64 (((rd_TTie l0_1 x3_2).f0) + 1)) (wrap64 (a0_0 - 1))).bind fun t102 => (if t102 = true then (if x3_2 > 0 then (if 0 ≤ (wrap64 (x3_2 - 1)) then (if (wrap64 (x3_2 - 1)) < (l0_1.length : Int) then ((spec_l1Less.f ((rd_TTie l0_1 (wrap64 (x3_2 - 1))).f0) ((rd_TTie l0_1 (wrap64 (x3_2 - 1))).f1) ((rd_TTie l0_1 x3_2).f0) ((rd_TTie l0_1 x3_2).f1)).bind fun t103 => (if t103 = true then (spec_NetOk.l0 k2 (wrap64 (x3_2 + 1)) a0_0 l0_1) else (some false))) else (none)) else (none)) else (spec_NetOk.l0 k2 (wrap64 (x3_2 + 1)) a0_0 l0_1)) else (some false))) = some r := by rw [if_pos rfl] at H; exact H
 clear H
 have H := H1
 clear H1
 replace H := Option.bind_eq_some_iff.mp H
 obtain ⟨t102, A105, H⟩ := H
 replace H : (if t102 = true then (if x3_2 > 0 then (if 0 ≤ (wrap64 (x3_2 - 1)) then (if (wrap64 (x3_2 - 1)) < (l0_1.length : Int) then ((spec_l1Less.f ((rd_TTie l0_1 (wrap64 (x3_2 - 1))).f0) ((rd_TTie l0_1 (wrap64 (x3_2 - 1))).f1) ((rd_TTie l0_1 x3_2).f0) ((rd_TTie l0_1 x3_2).f1)).bind fun t103 => (if t103 = true then (spec_NetOk.l0 k2 (wrap64 (x3_2 + 1)) a0_0 l0_1) else (some false))) else (none)) else (none)) else (spec_NetOk.l0 k2 (wrap64 (x3_2 + 1)) a0_0 l0_1)) else (some false)) = some r := H
 have A13 := Aside0.mk A105
 clear A105
 by_cases c14 : t102 = true
 rotate_left
 · replace c14 := Bool.eq_false_iff.mpr c14
   subst c14
   have H1 : (some false) = some r := by rw [if_neg (show ¬ (false = true) by decide)] at H; exact H
   clear H
   have H := H1
   clear H1
   obtain rfl := Option.some.inj H
   have hcz41_0 : wr.cell? ⟨gb104, 0, none⟩ = some (.int .i64 a0_0) := (blk_cell BK104.out 0).trans rfl
   have hcz41_1 : wr.cell? ⟨gb104, 1, none⟩ = some (.slice A0_1 l0_1.length c0_1) := (blk_cell BK104.out 1).trans rfl
   have hfz41_0 := blk_frozen BK104.out 0
   have hfz41_1 := blk_frozen BK104.out 1
   have p107 : 0 ≤ (x3_2 : Int) := of_decide_eq_true qa
   have q107 : x3_2 < (l0_1.length : Int) := of_decide_eq_true qa
   obtain ⟨ad107, e107, hx107_0, hx107_1⟩ := at_TTie HR0_1.out x3_2 p107 q107
   cases e107
   replace hx107_0 := (HB.out.cell (World.block_lt_of_cell? w _ hx107_0)).trans hx107_0
   replace hx107_1 := (HB.out.cell (World.block_lt_of_cell? w _ hx107_1)).trans hx107_1
   replace p107 := eq_true p107
   replace q107 := eq_true q107
   try go_wp2_with (first | ((with_reducible refine gate_dst (N := 4) rfl ?_); (try (refine gate_guard (by rfl) ?_; dsimp only)); refine be 4 #[.int .i64 0, .int .i64 0] 44 ?_; intro gb108 hg w42 hbox hb; have n0_ := q0 (kb BK104.out hb); have n1_ := q0 (below_step (qb HB.out) hb); have n2_ := q0 (hbox); have n3_ := q0 ((bs HB.out hg : w.heap.size ≤ gb108)); have n4_ := q0 ((bs HB.out hg : w.heap.size ≤ gb108)); have n5_ := q0 ((bl BK104.out hg : gb104 ≠ gb108)); have n6_ := q0 ((bg BK104.out hg : gb108 ≠ gb104)); clear BK104 HB; have BK104 := n0_; have HB := n1_; have BK108 := n2_; have GW108 := n3_; have GE108 := n4_; have NB104_108 := n5_; have NB108_104 := n6_; clear n0_ n1_ n2_ n3_ n4_ n5_ n6_ hb hbox hg; have hnb43 := NB108_104.out; have hnc43 := NB104_108.out; have hcz44_0 : w42.cell? ⟨gb108, 0, none⟩ = some (.int .i64 0) := (blk_cell BK108.out 0).trans rfl; have hcz44_1 : w42.cell? ⟨gb108, 1, none⟩ = some (.int .i64 0) := (blk_cell BK108.out 1).trans rfl; have hfz44_0 := blk_frozen BK108.out 0; have hfz44_1 := blk_frozen BK108.out 1))
   have n0_ : Aside0 (((w42.setCell ⟨gb108, 0, none⟩ (.int .i64 ((rd_TTie l0_1 x3_2).f0))).setCell ⟨gb108, 1, none⟩ (.int .i64 ((rd_TTie l0_1 x3_2).f1))).heap[gb104]? = some (.cells #[.int .i64 a0_0, .slice (some ad107) l0_1.length c0_1] 30 (0, 0))) := ⟨qf BK104.out⟩
   have n1_ : Aside0 (((w42.setCell ⟨gb108, 0, none⟩ (.int .i64 ((rd_TTie l0_1 x3_2).f0))).setCell ⟨gb108, 1, none⟩ (.int .i64 ((rd_TTie l0_1 x3_2).f1))).heap[gb108]? = some (.cells #[.int .i64 ((rd_TTie l0_1 x3_2).f0), .int .i64 ((rd_TTie l0_1 x3_2).f1)] 44 (0, 0))) := ⟨by (with_reducible repeat (first | refine blk_drewN ?_ _ | refine blk_drew ?_ | refine blk_alloc ?_ _)); refine blk_put (cs := #[.int .i64 ((rd_TTie l0_1 x3_2).f0), .int .i64 0]) ?_ 1 _ rfl; (with_reducible repeat (first | refine blk_drewN ?_ _ | refine blk_drew ?_ | refine blk_alloc ?_ _)); refine blk_put (cs := #[.int .i64 0, .int .i64 0]) ?_ 0 _ rfl; (with_reducible repeat (first | refine blk_drewN ?_ _ | refine blk_drew ?_ | refine blk_alloc ?_ _)); exact BK108.out⟩
   have n2_ : Aside0 (Below w.heap.size w ((w42.setCell ⟨gb108, 0, none⟩ (.int .i64 ((rd_TTie l0_1 x3_2).f0))).setCell ⟨gb108, 1, none⟩ (.int .i64 ((rd_TTie l0_1 x3_2).f1)))) := ⟨qb HB.out⟩
   (try clear BK104)
   (try clear BK108)
   (try clear HB)
   generalize ((w42.setCell ⟨gb108, 0, none⟩ (.int .i64 ((rd_TTie l0_1 x3_2).f0))).setCell ⟨gb108, 1, none⟩ (.int .i64 ((rd_TTie l0_1 x3_2).f1))) = w45 at n0_ n1_ n2_ ⊢
   have BK104 := n0_
   have BK108 := n1_
   have HB := n2_
   clear n0_ n1_ n2_
   have n0_ := q0 (blk_drew BK104.out)
   have n1_ := q0 (blk_drew BK108.out)
   have n2_ := q0 (below_drew1 HB.out)
   clear BK104
   clear BK108
   clear HB
   have BK104 := n0_
   have BK108 := n1_
   have HB := n2_
   clear n0_ n1_ n2_
   refine start_ (n := 34) (S := fun w' => w'.cell? ⟨gb108, 0, none⟩ = some (.int .i64 ((rd_TTie l0_1 x3_2).f0)) ∧ w'.cell? ⟨gb108, 1, none⟩ = some (.int .i64 ((rd_TTie l0_1 x3_2).f1)) ∧ w'.cell? ⟨gb104, 0, none⟩ = some (.int .i64 a0_0) ∧ w'.cell? ⟨gb104, 1, none⟩ = some (.slice (some ad107) l0_1.length c0_1)) (ds := []) (ba 34 0) (by kernel_rfl) rfl (by kernel_rfl) ⟨(blk_cell BK108.out 0).trans rfl, (blk_cell BK108.out 1).trans rfl, (blk_cell BK104.out 0).trans rfl, (blk_cell BK104.out 1).trans rfl⟩ (fun hHeld => ?_); refine with_tabW spec_NetOk.tab7 spec_NetOk.bits7 (fun HT_ HW_ => ?_)
   generalize w45.drew = w46 at BK104 BK108 HB hHeld ⊢
   refine pu 0 (some 27) (ba 34 1) HT_.out ?_
   refine pu 2 (some 29) (ba 34 5) HT_.out ?_
   refine tu 1 (some 28) (ba 34 7) HT_.out HW_.out hHeld ?_
   refine tu 3 (some 30) (ba 34 15) HT_.out HW_.out hHeld ?_
   refine pu 4 (some 31) (ba 34 31) HT_.out ?_
   refine one_ (i := 5) (N := some 32) (ba 34 63) rfl rfl (one_of HT_.out (by kernel_rfl)) (by decide) (fun K hK => ?_)
   refine goes_ Try.func76 (by kernel_rfl) rfl #[.int .i64 ((rd_TTie l0_1 x3_2).f0), .int .i64 0, .int .i64 (wrap64 (a0_0 - 1))] (by rfl) rfl rfl qm ?_
   with_reducible refine (spec_l6In.calls ((rd_TTie l0_1 x3_2).f0) 0 (wrap64 (a0_0 - 1)) true _ A11.out).mono ?_
   rintro e w' ⟨rfl, ⟨nd, rfl⟩⟩
   refine ⟨_, rfl, ?_⟩
   refine hK.out _ _ ⟨(blk_cell BK108.out 0).trans rfl, (blk_cell BK108.out 1).trans rfl, (blk_cell BK104.out 0).trans rfl, (blk_cell BK104.out 1).trans rfl⟩ (fun hHeld => ?_)
   clear hK K
   refine nu 32 ?_
   refine pu 6 (some 33) (ba 34 127) HT_.out ?_
   refine pu 7 (some 34) (ba 34 255) HT_.out ?_
   refine pu 8 (some 35) (ba 34 511) HT_.out ?_
   refine pu 10 (some 37) (ba 34 1535) HT_.out ?_
   refine pu 13 (some 40) (ba 34 9727) HT_.out ?_
   refine tu 9 (some 36) (ba 34 10239) HT_.out HW_.out hHeld ?_
   refine tu 11 (some 38) (ba 34 12287) HT_.out HW_.out hHeld ?_
   refine pu 12 (some 39) (ba 34 16383) HT_.out ?_
   refine tu 14 (some 41) (ba 34 32767) HT_.out HW_.out hHeld ?_
   refine pu 15 (some 42) (ba 34 65535) HT_.out ?_
   refine one_ (i := 16) (N := some 43) (ba 34 131071) rfl rfl (one_of HT_.out (by kernel_rfl)) (by decide) (fun K hK => ?_)
   refine goes_ Try.func76 (by kernel_rfl) rfl #[.int .i64 ((rd_TTie l0_1 x3_2).f1), .int .i64 (wrap64 (((rd_TTie l0_1 x3_2).f0) + 1)), .int .i64 (wrap64 (a0_0 - 1))] (by rfl) rfl rfl qm ?_
   with_reducible refine (spec_l6In.calls ((rd_TTie l0_1 x3_2).f1) (wrap64 (((rd_TTie l0_1 x3_2).f0) + 1)) (wrap64 (a0_0 - 1)) false _ A13.out).mono ?_
   rintro e w' ⟨rfl, ⟨nd, rfl⟩⟩
   refine ⟨_, rfl, ?_⟩
   refine hK.out _ _ ⟨(blk_cell BK108.out 0).trans rfl, (blk_cell BK108.out 1).trans rfl, (blk_cell BK104.out 0).trans rfl, (blk_cell BK104.out 1).trans rfl⟩ (fun hHeld => ?_)
   clear hK K
   refine nu 43 ?_
   refine pu 17 (some 44) (ba 34 262143) HT_.out ?_
   refine pu 18 (some 45) (ba 34 524287) HT_.out ?_
   refine pu 19 (some 46) (ba 34 1048575) HT_.out ?_
   refine pv 20 (some 47) (ba 34 2097151) HT_.out ?_
   refine pv 21 (some 48) (ba 34 4194303) HT_.out ?_
   refine pv 22 (some 49) (ba 34 8388607) HT_.out ?_
   refine pv 23 (some 50) (ba 34 16777215) HT_.out ?_
   refine pv 24 (some 51) (ba 34 33554431) HT_.out ?_
   refine pv 25 (some 52) (ba 34 67108863) HT_.out ?_
   refine pv 26 (some 53) (ba 34 134217727) HT_.out ?_
   refine pv 27 (some 54) (ba 34 268435455) HT_.out ?_
   refine pv 28 (some 55) (ba 34 536870911) HT_.out ?_
   refine pv 29 (some 56) (ba 34 1073741823) HT_.out ?_
   refine pv 30 (some 57) (ba 34 2147483647) HT_.out ?_
   refine pv 31 (some 58) (ba 34 4294967295) HT_.out ?_
   refine pv 32 (some 59) (ba 34 8589934591) HT_.out ?_
   refine pu 33 (some 60) (ba 34 17179869183) HT_.out ?_
   refine done_ (done_of HT_.out (by kernel_rfl)) ?_
   try go_wp2
   go_ret
   exact ⟨qe, qb HB.out⟩
 subst c14
 have H1 : (if x3_2 > 0 then (if 0 ≤ (wrap64 (x3_2 - 1)) then (if (wrap64 (x3_2 - 1)) < (l0_1.length : Int) then ((spec_l1Less.f ((rd_TTie l0_1 (wrap64 (x3_2 - 1))).f0) ((rd_TTie l0_1 (wrap64 (x3_2 - 1))).f1) ((rd_TTie l0_1 x3_2).f0) ((rd_TTie l0_1 x3_2).f1)).bind fun t103 => (if t103 = true then (spec_NetOk.l0 k2 (wrap64 (x3_2 + 1)) a0_0 l0_1) else (some false))) else (none)) else (none)) else (spec_NetOk.l0 k2 (wrap64 (x3_2 + 1)) a0_0 l0_1)) = some r := by rw [if_pos rfl] at H; exact H
 clear H
 have H := H1
 clear H1
 by_cases c15 : x3_2 > 0
 rotate_left
 · rw [if_neg c15] at H
   have c15b0 : decide (0 < x3_2) = false := decide_eq_false c15
   clear c15
   have H' := Aside0.mk H
   clear H
   have hcz35_0 : wr.cell? ⟨gb104, 0, none⟩ = some (.int .i64 a0_0) := (blk_cell BK104.out 0).trans rfl
   have hcz35_1 : wr.cell? ⟨gb104, 1, none⟩ = some (.slice A0_1 l0_1.length c0_1) := (blk_cell BK104.out 1).trans rfl
   have hfz35_0 := blk_frozen BK104.out 0
   have hfz35_1 := blk_frozen BK104.out 1
   have p107 : 0 ≤ (x3_2 : Int) := of_decide_eq_true qa
   have q107 : x3_2 < (l0_1.length : Int) := of_decide_eq_true qa
   obtain ⟨ad107, e107, hx107_0, hx107_1⟩ := at_TTie HR0_1.out x3_2 p107 q107
   cases e107
   replace hx107_0 := (HB.out.cell (World.block_lt_of_cell? w _ hx107_0)).trans hx107_0
   replace hx107_1 := (HB.out.cell (World.block_lt_of_cell? w _ hx107_1)).trans hx107_1
   replace p107 := eq_true p107
   replace q107 := eq_true q107
   try go_wp2_with (first | ((with_reducible refine gate_dst (N := 4) rfl ?_); (try (refine gate_guard (by rfl) ?_; dsimp only)); refine be 4 #[.int .i64 0, .int .i64 0] 44 ?_; intro gb108 hg w36 hbox hb; have n0_ := q0 (kb BK104.out hb); have n1_ := q0 (below_step (qb HB.out) hb); have n2_ := q0 (hbox); have n3_ := q0 ((bs HB.out hg : w.heap.size ≤ gb108)); have n4_ := q0 ((bs HB.out hg : w.heap.size ≤ gb108)); have n5_ := q0 ((bl BK104.out hg : gb104 ≠ gb108)); have n6_ := q0 ((bg BK104.out hg : gb108 ≠ gb104)); clear BK104 HB; have BK104 := n0_; have HB := n1_; have BK108 := n2_; have GW108 := n3_; have GE108 := n4_; have NB104_108 := n5_; have NB108_104 := n6_; clear n0_ n1_ n2_ n3_ n4_ n5_ n6_ hb hbox hg; have hnb37 := NB108_104.out; have hnc37 := NB104_108.out; have hcz38_0 : w36.cell? ⟨gb108, 0, none⟩ = some (.int .i64 0) := (blk_cell BK108.out 0).trans rfl; have hcz38_1 : w36.cell? ⟨gb108, 1, none⟩ = some (.int .i64 0) := (blk_cell BK108.out 1).trans rfl; have hfz38_0 := blk_frozen BK108.out 0; have hfz38_1 := blk_frozen BK108.out 1))
   have n0_ : Aside0 (((w36.setCell ⟨gb108, 0, none⟩ (.int .i64 ((rd_TTie l0_1 x3_2).f0))).setCell ⟨gb108, 1, none⟩ (.int .i64 ((rd_TTie l0_1 x3_2).f1))).heap[gb104]? = some (.cells #[.int .i64 a0_0, .slice (some ad107) l0_1.length c0_1] 30 (0, 0))) := ⟨qf BK104.out⟩
   have n1_ : Aside0 (((w36.setCell ⟨gb108, 0, none⟩ (.int .i64 ((rd_TTie l0_1 x3_2).f0))).setCell ⟨gb108, 1, none⟩ (.int .i64 ((rd_TTie l0_1 x3_2).f1))).heap[gb108]? = some (.cells #[.int .i64 ((rd_TTie l0_1 x3_2).f0), .int .i64 ((rd_TTie l0_1 x3_2).f1)] 44 (0, 0))) := ⟨by (with_reducible repeat (first | refine blk_drewN ?_ _ | refine blk_drew ?_ | refine blk_alloc ?_ _)); refine blk_put (cs := #[.int .i64 ((rd_TTie l0_1 x3_2).f0), .int .i64 0]) ?_ 1 _ rfl; (with_reducible repeat (first | refine blk_drewN ?_ _ | refine blk_drew ?_ | refine blk_alloc ?_ _)); refine blk_put (cs := #[.int .i64 0, .int .i64 0]) ?_ 0 _ rfl; (with_reducible repeat (first | refine blk_drewN ?_ _ | refine blk_drew ?_ | refine blk_alloc ?_ _)); exact BK108.out⟩
   have n2_ : Aside0 (Below w.heap.size w ((w36.setCell ⟨gb108, 0, none⟩ (.int .i64 ((rd_TTie l0_1 x3_2).f0))).setCell ⟨gb108, 1, none⟩ (.int .i64 ((rd_TTie l0_1 x3_2).f1)))) := ⟨qb HB.out⟩
   (try clear BK104)
   (try clear BK108)
   (try clear HB)
   generalize ((w36.setCell ⟨gb108, 0, none⟩ (.int .i64 ((rd_TTie l0_1 x3_2).f0))).setCell ⟨gb108, 1, none⟩ (.int .i64 ((rd_TTie l0_1 x3_2).f1))) = w39 at n0_ n1_ n2_ ⊢
   have BK104 := n0_
   have BK108 := n1_
   have HB := n2_
   clear n0_ n1_ n2_
   have n0_ := q0 (blk_drew BK104.out)
   have n1_ := q0 (blk_drew BK108.out)
   have n2_ := q0 (below_drew1 HB.out)
   clear BK104
   clear BK108
   clear HB
   have BK104 := n0_
   have BK108 := n1_
   have HB := n2_
   clear n0_ n1_ n2_
   refine start_ (n := 34) (S := fun w' => w'.cell? ⟨gb108, 0, none⟩ = some (.int .i64 ((rd_TTie l0_1 x3_2).f0)) ∧ w'.cell? ⟨gb108, 1, none⟩ = some (.int .i64 ((rd_TTie l0_1 x3_2).f1)) ∧ w'.cell? ⟨gb104, 0, none⟩ = some (.int .i64 a0_0) ∧ w'.cell? ⟨gb104, 1, none⟩ = some (.slice (some ad107) l0_1.length c0_1)) (ds := []) (ba 34 0) (by kernel_rfl) rfl (by kernel_rfl) ⟨(blk_cell BK108.out 0).trans rfl, (blk_cell BK108.out 1).trans rfl, (blk_cell BK104.out 0).trans rfl, (blk_cell BK104.out 1).trans rfl⟩ (fun hHeld => ?_); refine with_tabW spec_NetOk.tab7 spec_NetOk.bits7 (fun HT_ HW_ => ?_)
   generalize w39.drew = w40 at BK104 BK108 HB hHeld ⊢
   refine pu 0 (some 27) (ba 34 1) HT_.out ?_
   refine pu 2 (some 29) (ba 34 5) HT_.out ?_
   refine tu 1 (some 28) (ba 34 7) HT_.out HW_.out hHeld ?_
   refine tu 3 (some 30) (ba 34 15) HT_.out HW_.out hHeld ?_
   refine pu 4 (some 31) (ba 34 31) HT_.out ?_
   refine one_ (i := 5) (N := some 32) (ba 34 63) rfl rfl (one_of HT_.out (by kernel_rfl)) (by decide) (fun K hK => ?_)
   refine goes_ Try.func76 (by kernel_rfl) rfl #[.int .i64 ((rd_TTie l0_1 x3_2).f0), .int .i64 0, .int .i64 (wrap64 (a0_0 - 1))] (by rfl) rfl rfl qm ?_
   with_reducible refine (spec_l6In.calls ((rd_TTie l0_1 x3_2).f0) 0 (wrap64 (a0_0 - 1)) true _ A11.out).mono ?_
   rintro e w' ⟨rfl, ⟨nd, rfl⟩⟩
   refine ⟨_, rfl, ?_⟩
   refine hK.out _ _ ⟨(blk_cell BK108.out 0).trans rfl, (blk_cell BK108.out 1).trans rfl, (blk_cell BK104.out 0).trans rfl, (blk_cell BK104.out 1).trans rfl⟩ (fun hHeld => ?_)
   clear hK K
   refine nu 32 ?_
   refine pu 6 (some 33) (ba 34 127) HT_.out ?_
   refine pu 7 (some 34) (ba 34 255) HT_.out ?_
   refine pu 8 (some 35) (ba 34 511) HT_.out ?_
   refine pu 10 (some 37) (ba 34 1535) HT_.out ?_
   refine pu 13 (some 40) (ba 34 9727) HT_.out ?_
   refine tu 9 (some 36) (ba 34 10239) HT_.out HW_.out hHeld ?_
   refine tu 11 (some 38) (ba 34 12287) HT_.out HW_.out hHeld ?_
   refine pu 12 (some 39) (ba 34 16383) HT_.out ?_
   refine tu 14 (some 41) (ba 34 32767) HT_.out HW_.out hHeld ?_
   refine pu 15 (some 42) (ba 34 65535) HT_.out ?_
   refine one_ (i := 16) (N := some 43) (ba 34 131071) rfl rfl (one_of HT_.out (by kernel_rfl)) (by decide) (fun K hK => ?_)
   refine goes_ Try.func76 (by kernel_rfl) rfl #[.int .i64 ((rd_TTie l0_1 x3_2).f1), .int .i64 (wrap64 (((rd_TTie l0_1 x3_2).f0) + 1)), .int .i64 (wrap64 (a0_0 - 1))] (by rfl) rfl rfl qm ?_
   with_reducible refine (spec_l6In.calls ((rd_TTie l0_1 x3_2).f1) (wrap64 (((rd_TTie l0_1 x3_2).f0) + 1)) (wrap64 (a0_0 - 1)) true _ A13.out).mono ?_
   rintro e w' ⟨rfl, ⟨nd, rfl⟩⟩
   refine ⟨_, rfl, ?_⟩
   refine hK.out _ _ ⟨(blk_cell BK108.out 0).trans rfl, (blk_cell BK108.out 1).trans rfl, (blk_cell BK104.out 0).trans rfl, (blk_cell BK104.out 1).trans rfl⟩ (fun hHeld => ?_)
   clear hK K
   refine nu 43 ?_
   refine pu 17 (some 44) (ba 34 262143) HT_.out ?_
   refine pu 18 (some 45) (ba 34 524287) HT_.out ?_
   refine pu 19 (some 46) (ba 34 1048575) HT_.out ?_
   refine pu 20 (some 47) (ba 34 2097151) HT_.out ?_
   refine pu 21 (some 48) (ba 34 4194303) HT_.out ?_
   refine pu 22 (some 49) (ba 34 8388607) HT_.out ?_
   refine pv 23 (some 50) (ba 34 16777215) HT_.out ?_
   refine pv 24 (some 51) (ba 34 33554431) HT_.out ?_
   refine pv 25 (some 52) (ba 34 67108863) HT_.out ?_
   refine pv 26 (some 53) (ba 34 134217727) HT_.out ?_
   refine pv 27 (some 54) (ba 34 268435455) HT_.out ?_
   refine pv 28 (some 55) (ba 34 536870911) HT_.out ?_
   refine pv 29 (some 56) (ba 34 1073741823) HT_.out ?_
   refine pv 30 (some 57) (ba 34 2147483647) HT_.out ?_
   refine pv 31 (some 58) (ba 34 4294967295) HT_.out ?_
   refine pu 32 (some 59) (ba 34 8589934591) HT_.out ?_
   refine pu 33 (some 60) (ba 34 17179869183) HT_.out ?_
   refine done_ (done_of HT_.out (by kernel_rfl)) ?_
   try go_wp2
   go_roundg k2
   case measure => have := HJ1.out; have := HK2.out; omega
   case rel => exact ⟨(wrap64 (x3_2 + 1)), qs, H', ⟨by have := HJ1.out; have := HK2.out; omega⟩, ⟨qk BK104.out⟩, ⟨qb HB.out⟩⟩
 rw [if_pos c15] at H
 have c15b0 : decide (0 < x3_2) = true := decide_eq_true c15
 clear c15
 obtain ⟨ji16, hji16⟩ : ∃ j_ : Int, (wrap64 (x3_2 - 1)) = j_ := ⟨_, rfl⟩
 replace H : (if 0 ≤ (ji16) then (if (ji16) < (l0_1.length : Int) then ((spec_l1Less.f ((rd_TTie l0_1 (ji16)).f0) ((rd_TTie l0_1 (ji16)).f1) ((rd_TTie l0_1 x3_2).f0) ((rd_TTie l0_1 x3_2).f1)).bind fun t103 => (if t103 = true then (spec_NetOk.l0 k2 (wrap64 (x3_2 + 1)) a0_0 l0_1) else (some false))) else (none)) else (none)) = some r := by first | (rw [hji16] at H; exact H) | (simp only [hji16] at H ⊢; exact H)
 (try rw [hji16] at A11)
 (try rw [hji16] at A13)
 have hji16w : (IntKind.i64.wrap (x3_2 - 1)) = ji16 := (i64_w _).trans hji16
 by_cases c17 : 0 ≤ (ji16)
 rotate_left
 · rw [if_neg c17] at H
   exact absurd H (by simp)
 rw [if_pos c17] at H
 have c17b0 : decide (0 ≤ (ji16)) = true := decide_eq_true c17
 clear c17
 by_cases c18 : (ji16) < (l0_1.length : Int)
 rotate_left
 · rw [if_neg c18] at H
   exact absurd H (by simp)
 rw [if_pos c18] at H
 have c18b0 : decide ((ji16) < (l0_1.length : Int)) = true := decide_eq_true c18
 clear c18
 replace H := Option.bind_eq_some_iff.mp H
 obtain ⟨t103, A106, H⟩ := H
 replace H : (if t103 = true then (spec_NetOk.l0 k2 (wrap64 (x3_2 + 1)) a0_0 l0_1) else (some false)) = some r := H
 have A19 := Aside0.mk A106
 clear A106
 by_cases c20 : t103 = true
 rotate_left
 · replace c20 := Bool.eq_false_iff.mpr c20
   subst c20
   have H1 : (some false) = some r := by rw [if_neg (show ¬ (false = true) by decide)] at H; exact H
   clear H
   have H := H1
   clear H1
   obtain rfl := Option.some.inj H
   have hcz28_0 : wr.cell? ⟨gb104, 0, none⟩ = some (.int .i64 a0_0) := (blk_cell BK104.out 0).trans rfl
   have hcz28_1 : wr.cell? ⟨gb104, 1, none⟩ = some (.slice A0_1 l0_1.length c0_1) := (blk_cell BK104.out 1).trans rfl
   have hfz28_0 := blk_frozen BK104.out 0
   have hfz28_1 := blk_frozen BK104.out 1
   have p107 : 0 ≤ (x3_2 : Int) := of_decide_eq_true qa
   have q107 : x3_2 < (l0_1.length : Int) := of_decide_eq_true qa
   obtain ⟨ad107, e107, hx107_0, hx107_1⟩ := at_TTie HR0_1.out x3_2 p107 q107
   cases e107
   replace hx107_0 := (HB.out.cell (World.block_lt_of_cell? w _ hx107_0)).trans hx107_0
   replace hx107_1 := (HB.out.cell (World.block_lt_of_cell? w _ hx107_1)).trans hx107_1
   replace p107 := eq_true p107
   replace q107 := eq_true q107
   try go_wp2_with (first | ((with_reducible refine gate_dst (N := 4) rfl ?_); (try (refine gate_guard (by rfl) ?_; dsimp only)); refine be 4 #[.int .i64 0, .int .i64 0] 44 ?_; intro gb108 hg w29 hbox hb; have n0_ := q0 (kb BK104.out hb); have n1_ := q0 (below_step (qb HB.out) hb); have n2_ := q0 (hbox); have n3_ := q0 ((bs HB.out hg : w.heap.size ≤ gb108)); have n4_ := q0 ((bs HB.out hg : w.heap.size ≤ gb108)); have n5_ := q0 ((bl BK104.out hg : gb104 ≠ gb108)); have n6_ := q0 ((bg BK104.out hg : gb108 ≠ gb104)); clear BK104 HB; have BK104 := n0_; have HB := n1_; have BK108 := n2_; have GW108 := n3_; have GE108 := n4_; have NB104_108 := n5_; have NB108_104 := n6_; clear n0_ n1_ n2_ n3_ n4_ n5_ n6_ hb hbox hg; have hnb30 := NB108_104.out; have hnc30 := NB104_108.out; have hcz31_0 : w29.cell? ⟨gb108, 0, none⟩ = some (.int .i64 0) := (blk_cell BK108.out 0).trans rfl; have hcz31_1 : w29.cell? ⟨gb108, 1, none⟩ = some (.int .i64 0) := (blk_cell BK108.out 1).trans rfl; have hfz31_0 := blk_frozen BK108.out 0; have hfz31_1 := blk_frozen BK108.out 1))
   have n0_ : Aside0 (((w29.setCell ⟨gb108, 0, none⟩ (.int .i64 ((rd_TTie l0_1 x3_2).f0))).setCell ⟨gb108, 1, none⟩ (.int .i64 ((rd_TTie l0_1 x3_2).f1))).heap[gb104]? = some (.cells #[.int .i64 a0_0, .slice (some ad107) l0_1.length c0_1] 30 (0, 0))) := ⟨qf BK104.out⟩
   have n1_ : Aside0 (((w29.setCell ⟨gb108, 0, none⟩ (.int .i64 ((rd_TTie l0_1 x3_2).f0))).setCell ⟨gb108, 1, none⟩ (.int .i64 ((rd_TTie l0_1 x3_2).f1))).heap[gb108]? = some (.cells #[.int .i64 ((rd_TTie l0_1 x3_2).f0), .int .i64 ((rd_TTie l0_1 x3_2).f1)] 44 (0, 0))) := ⟨by (with_reducible repeat (first | refine blk_drewN ?_ _ | refine blk_drew ?_ | refine blk_alloc ?_ _)); refine blk_put (cs := #[.int .i64 ((rd_TTie l0_1 x3_2).f0), .int .i64 0]) ?_ 1 _ rfl; (with_reducible repeat (first | refine blk_drewN ?_ _ | refine blk_drew ?_ | refine blk_alloc ?_ _)); refine blk_put (cs := #[.int .i64 0, .int .i64 0]) ?_ 0 _ rfl; (with_reducible repeat (first | refine blk_drewN ?_ _ | refine blk_drew ?_ | refine blk_alloc ?_ _)); exact BK108.out⟩
   have n2_ : Aside0 (Below w.heap.size w ((w29.setCell ⟨gb108, 0, none⟩ (.int .i64 ((rd_TTie l0_1 x3_2).f0))).setCell ⟨gb108, 1, none⟩ (.int .i64 ((rd_TTie l0_1 x3_2).f1)))) := ⟨qb HB.out⟩
   (try clear BK104)
   (try clear BK108)
   (try clear HB)
   generalize ((w29.setCell ⟨gb108, 0, none⟩ (.int .i64 ((rd_TTie l0_1 x3_2).f0))).setCell ⟨gb108, 1, none⟩ (.int .i64 ((rd_TTie l0_1 x3_2).f1))) = w32 at n0_ n1_ n2_ ⊢
   have BK104 := n0_
   have BK108 := n1_
   have HB := n2_
   clear n0_ n1_ n2_
   have n0_ := q0 (blk_drew BK104.out)
   have n1_ := q0 (blk_drew BK108.out)
   have n2_ := q0 (below_drew1 HB.out)
   clear BK104
   clear BK108
   clear HB
   have BK104 := n0_
   have BK108 := n1_
   have HB := n2_
   clear n0_ n1_ n2_
   have p109 : 0 ≤ ((ji16) : Int) := of_decide_eq_true qa
   have q109 : (ji16) < (l0_1.length : Int) := of_decide_eq_true qa
   obtain ⟨ad109, e109, hx109_0, hx109_1⟩ := at_TTie HR0_1.out (ji16) p109 q109
   have hw109_1 := hx109_1
   have hw109_0 := hx109_0
   obtain rfl : ad107 = ad109 := (by injection e109)
   replace hx109_0 := (HB.out.cell (World.block_lt_of_cell? w _ hx109_0)).trans hx109_0
   replace hx109_1 := (HB.out.cell (World.block_lt_of_cell? w _ hx109_1)).trans hx109_1
   replace p109 := eq_true p109
   replace q109 := eq_true q109
   refine start_ (n := 34) (S := fun w' => w'.cell? ⟨gb108, 0, none⟩ = some (.int .i64 ((rd_TTie l0_1 x3_2).f0)) ∧ w'.cell? ⟨gb108, 1, none⟩ = some (.int .i64 ((rd_TTie l0_1 x3_2).f1)) ∧ w'.cell? ⟨gb104, 0, none⟩ = some (.int .i64 a0_0) ∧ w'.cell? ⟨gb104, 1, none⟩ = some (.slice (some ad107) l0_1.length c0_1) ∧ w'.cell? (ad107.add (((ji16)).toNat * 2)) = some (.int .i64 ((rd_TTie l0_1 (ji16)).f0)) ∧ w'.cell? ⟨(ad107.add (((ji16)).toNat * 2)).block, (ad107.add (((ji16)).toNat * 2)).off + 1, none⟩ = some (.int .i64 ((rd_TTie l0_1 (ji16)).f1))) (ds := []) (ba 34 0) (by kernel_rfl) rfl (by kernel_rfl) ⟨(blk_cell BK108.out 0).trans rfl, (blk_cell BK108.out 1).trans rfl, (blk_cell BK104.out 0).trans rfl, (blk_cell BK104.out 1).trans rfl, ((HB.out.cell (World.block_lt_of_cell? w _ hw109_0)).trans hw109_0), ((HB.out.cell (World.block_lt_of_cell? w _ hw109_1)).trans hw109_1)⟩ (fun hHeld => ?_); refine with_tabW spec_NetOk.tab7 spec_NetOk.bits7 (fun HT_ HW_ => ?_)
   generalize w32.drew = w33 at BK104 BK108 HB hx109_0 hx109_1 hHeld ⊢
   refine pu 0 (some 27) (ba 34 1) HT_.out ?_
   refine pu 2 (some 29) (ba 34 5) HT_.out ?_
   refine tu 1 (some 28) (ba 34 7) HT_.out HW_.out hHeld ?_
   refine tu 3 (some 30) (ba 34 15) HT_.out HW_.out hHeld ?_
   refine pu 4 (some 31) (ba 34 31) HT_.out ?_
   refine one_ (i := 5) (N := some 32) (ba 34 63) rfl rfl (one_of HT_.out (by kernel_rfl)) (by decide) (fun K hK => ?_)
   refine goes_ Try.func76 (by kernel_rfl) rfl #[.int .i64 ((rd_TTie l0_1 x3_2).f0), .int .i64 0, .int .i64 (wrap64 (a0_0 - 1))] (by rfl) rfl rfl qm ?_
   with_reducible refine (spec_l6In.calls ((rd_TTie l0_1 x3_2).f0) 0 (wrap64 (a0_0 - 1)) true _ A11.out).mono ?_
   rintro e w' ⟨rfl, ⟨nd, rfl⟩⟩
   refine ⟨_, rfl, ?_⟩
   refine hK.out _ _ ⟨(blk_cell BK108.out 0).trans rfl, (blk_cell BK108.out 1).trans rfl, (blk_cell BK104.out 0).trans rfl, (blk_cell BK104.out 1).trans rfl, ((HB.out.cell (World.block_lt_of_cell? w _ hw109_0)).trans hw109_0), ((HB.out.cell (World.block_lt_of_cell? w _ hw109_1)).trans hw109_1)⟩ (fun hHeld => ?_)
   clear hK K
   refine nu 32 ?_
   refine pu 6 (some 33) (ba 34 127) HT_.out ?_
   refine pu 7 (some 34) (ba 34 255) HT_.out ?_
   refine pu 8 (some 35) (ba 34 511) HT_.out ?_
   refine pu 10 (some 37) (ba 34 1535) HT_.out ?_
   refine pu 13 (some 40) (ba 34 9727) HT_.out ?_
   refine tu 9 (some 36) (ba 34 10239) HT_.out HW_.out hHeld ?_
   refine tu 11 (some 38) (ba 34 12287) HT_.out HW_.out hHeld ?_
   refine pu 12 (some 39) (ba 34 16383) HT_.out ?_
   refine tu 14 (some 41) (ba 34 32767) HT_.out HW_.out hHeld ?_
   refine pu 15 (some 42) (ba 34 65535) HT_.out ?_
   refine one_ (i := 16) (N := some 43) (ba 34 131071) rfl rfl (one_of HT_.out (by kernel_rfl)) (by decide) (fun K hK => ?_)
   refine goes_ Try.func76 (by kernel_rfl) rfl #[.int .i64 ((rd_TTie l0_1 x3_2).f1), .int .i64 (wrap64 (((rd_TTie l0_1 x3_2).f0) + 1)), .int .i64 (wrap64 (a0_0 - 1))] (by rfl) rfl rfl qm ?_
   with_reducible refine (spec_l6In.calls ((rd_TTie l0_1 x3_2).f1) (wrap64 (((rd_TTie l0_1 x3_2).f0) + 1)) (wrap64 (a0_0 - 1)) true _ A13.out).mono ?_
   rintro e w' ⟨rfl, ⟨nd, rfl⟩⟩
   refine ⟨_, rfl, ?_⟩
   refine hK.out _ _ ⟨(blk_cell BK108.out 0).trans rfl, (blk_cell BK108.out 1).trans rfl, (blk_cell BK104.out 0).trans rfl, (blk_cell BK104.out 1).trans rfl, ((HB.out.cell (World.block_lt_of_cell? w _ hw109_0)).trans hw109_0), ((HB.out.cell (World.block_lt_of_cell? w _ hw109_1)).trans hw109_1)⟩ (fun hHeld => ?_)
   clear hK K
   refine nu 43 ?_
   refine pu 17 (some 44) (ba 34 262143) HT_.out ?_
   refine pu 18 (some 45) (ba 34 524287) HT_.out ?_
   refine pu 19 (some 46) (ba 34 1048575) HT_.out ?_
   refine pu 20 (some 47) (ba 34 2097151) HT_.out ?_
   refine pu 21 (some 48) (ba 34 4194303) HT_.out ?_
   refine pu 22 (some 49) (ba 34 8388607) HT_.out ?_
   refine pu 23 (some 50) (ba 34 16777215) HT_.out ?_
   refine pu 25 (some 52) (ba 34 50331647) HT_.out ?_
   refine pu 26 (some 53) (ba 34 117440511) HT_.out ?_
   refine tu 24 (some 51) (ba 34 134217727) HT_.out HW_.out hHeld ?_
   refine pu 27 (some 54) (ba 34 268435455) HT_.out ?_
   refine tu 28 (some 55) (ba 34 536870911) HT_.out HW_.out hHeld ?_
   refine tu 29 (some 56) (ba 34 1073741823) HT_.out HW_.out hHeld ?_
   refine one_ (i := 30) (N := some 57) (ba 34 2147483647) rfl rfl (one_of HT_.out (by kernel_rfl)) (by decide) (fun K hK => ?_)
   refine goes_ Try.func77 (by kernel_rfl) rfl #[.agg #[.int .i64 ((rd_TTie l0_1 (ji16)).f0), .int .i64 ((rd_TTie l0_1 (ji16)).f1)], .agg #[.int .i64 ((rd_TTie l0_1 x3_2).f0), .int .i64 ((rd_TTie l0_1 x3_2).f1)]] (by rfl) rfl rfl (by (try simp only [List.map_toArray, List.map_cons, List.map_nil]); first | done | (simp only [hji16]; rfl) | rfl | (simp only [List.length_drop, List.length_take]; rfl)) ?_
   with_reducible refine (spec_l1Less.calls ((rd_TTie l0_1 (ji16)).f0) ((rd_TTie l0_1 (ji16)).f1) ((rd_TTie l0_1 x3_2).f0) ((rd_TTie l0_1 x3_2).f1) false _ A19.out).mono ?_
   rintro e w34 ⟨rfl, hb⟩
   refine ⟨_, rfl, ?_⟩
   have n0_ := q0 (kb BK104.out hb)
   have n1_ := q0 (kb BK108.out hb)
   have n2_ := q0 (below_step (qb HB.out) hb)
   clear BK104
   clear BK108
   clear HB
   have BK104 := n0_
   have BK108 := n1_
   have HB := n2_
   clear n0_ n1_ n2_
   (try clear hb)
   (try clear hb2)
   (try clear hk)
   (try clear hi)
   refine hK.out _ _ ⟨(blk_cell BK108.out 0).trans rfl, (blk_cell BK108.out 1).trans rfl, (blk_cell BK104.out 0).trans rfl, (blk_cell BK104.out 1).trans rfl, ((HB.out.cell (World.block_lt_of_cell? w _ hw109_0)).trans hw109_0), ((HB.out.cell (World.block_lt_of_cell? w _ hw109_1)).trans hw109_1)⟩ (fun hHeld => ?_)
   clear hK K
   refine nu 57 ?_
   refine pu 31 (some 58) (ba 34 4294967295) HT_.out ?_
   refine pu 32 (some 59) (ba 34 8589934591) HT_.out ?_
   refine pu 33 (some 60) (ba 34 17179869183) HT_.out ?_
   refine done_ (done_of HT_.out (by kernel_rfl)) ?_
   try go_wp2
   go_ret
   exact ⟨by first | rfl | (simp [errW_none, errW_some] <;> rfl) | (simp only [← hji16]; first | rfl | (simp [errW_none, errW_some] <;> rfl)) | (simp [*, errW_none, errW_some] <;> rfl), qb HB.out⟩
 subst c20
 have H1 : (spec_NetOk.l0 k2 (wrap64 (x3_2 + 1)) a0_0 l0_1) = some r := by rw [if_pos rfl] at H; exact H
 clear H
 have H := H1
 clear H1
 have H' := Aside0.mk H
 clear H
 have hcz21_0 : wr.cell? ⟨gb104, 0, none⟩ = some (.int .i64 a0_0) := (blk_cell BK104.out 0).trans rfl
 have hcz21_1 : wr.cell? ⟨gb104, 1, none⟩ = some (.slice A0_1 l0_1.length c0_1) := (blk_cell BK104.out 1).trans rfl
 have hfz21_0 := blk_frozen BK104.out 0
 have hfz21_1 := blk_frozen BK104.out 1
 have p107 : 0 ≤ (x3_2 : Int) := of_decide_eq_true qa
 have q107 : x3_2 < (l0_1.length : Int) := of_decide_eq_true qa
 obtain ⟨ad107, e107, hx107_0, hx107_1⟩ := at_TTie HR0_1.out x3_2 p107 q107
 cases e107
 replace hx107_0 := (HB.out.cell (World.block_lt_of_cell? w _ hx107_0)).trans hx107_0
 replace hx107_1 := (HB.out.cell (World.block_lt_of_cell? w _ hx107_1)).trans hx107_1
 replace p107 := eq_true p107
 replace q107 := eq_true q107
 try go_wp2_with (first | ((with_reducible refine gate_dst (N := 4) rfl ?_); (try (refine gate_guard (by rfl) ?_; dsimp only)); refine be 4 #[.int .i64 0, .int .i64 0] 44 ?_; intro gb108 hg w22 hbox hb; have n0_ := q0 (kb BK104.out hb); have n1_ := q0 (below_step (qb HB.out) hb); have n2_ := q0 (hbox); have n3_ := q0 ((bs HB.out hg : w.heap.size ≤ gb108)); have n4_ := q0 ((bs HB.out hg : w.heap.size ≤ gb108)); have n5_ := q0 ((bl BK104.out hg : gb104 ≠ gb108)); have n6_ := q0 ((bg BK104.out hg : gb108 ≠ gb104)); clear BK104 HB; have BK104 := n0_; have HB := n1_; have BK108 := n2_; have GW108 := n3_; have GE108 := n4_; have NB104_108 := n5_; have NB108_104 := n6_; clear n0_ n1_ n2_ n3_ n4_ n5_ n6_ hb hbox hg; have hnb23 := NB108_104.out; have hnc23 := NB104_108.out; have hcz24_0 : w22.cell? ⟨gb108, 0, none⟩ = some (.int .i64 0) := (blk_cell BK108.out 0).trans rfl; have hcz24_1 : w22.cell? ⟨gb108, 1, none⟩ = some (.int .i64 0) := (blk_cell BK108.out 1).trans rfl; have hfz24_0 := blk_frozen BK108.out 0; have hfz24_1 := blk_frozen BK108.out 1))
 have n0_ : Aside0 (((w22.setCell ⟨gb108, 0, none⟩ (.int .i64 ((rd_TTie l0_1 x3_2).f0))).setCell ⟨gb108, 1, none⟩ (.int .i64 ((rd_TTie l0_1 x3_2).f1))).heap[gb104]? = some (.cells #[.int .i64 a0_0, .slice (some ad107) l0_1.length c0_1] 30 (0, 0))) := ⟨qf BK104.out⟩
 have n1_ : Aside0 (((w22.setCell ⟨gb108, 0, none⟩ (.int .i64 ((rd_TTie l0_1 x3_2).f0))).setCell ⟨gb108, 1, none⟩ (.int .i64 ((rd_TTie l0_1 x3_2).f1))).heap[gb108]? = some (.cells #[.int .i64 ((rd_TTie l0_1 x3_2).f0), .int .i64 ((rd_TTie l0_1 x3_2).f1)] 44 (0, 0))) := ⟨by (with_reducible repeat (first | refine blk_drewN ?_ _ | refine blk_drew ?_ | refine blk_alloc ?_ _)); refine blk_put (cs := #[.int .i64 ((rd_TTie l0_1 x3_2).f0), .int .i64 0]) ?_ 1 _ rfl; (with_reducible repeat (first | refine blk_drewN ?_ _ | refine blk_drew ?_ | refine blk_alloc ?_ _)); refine blk_put (cs := #[.int .i64 0, .int .i64 0]) ?_ 0 _ rfl; (with_reducible repeat (first | refine blk_drewN ?_ _ | refine blk_drew ?_ | refine blk_alloc ?_ _)); exact BK108.out⟩
 have n2_ : Aside0 (Below w.heap.size w ((w22.setCell ⟨gb108, 0, none⟩ (.int .i64 ((rd_TTie l0_1 x3_2).f0))).setCell ⟨gb108, 1, none⟩ (.int .i64 ((rd_TTie l0_1 x3_2).f1)))) := ⟨qb HB.out⟩
 (try clear BK104)
 (try clear BK108)
 (try clear HB)
 generalize ((w22.setCell ⟨gb108, 0, none⟩ (.int .i64 ((rd_TTie l0_1 x3_2).f0))).setCell ⟨gb108, 1, none⟩ (.int .i64 ((rd_TTie l0_1 x3_2).f1))) = w25 at n0_ n1_ n2_ ⊢
 have BK104 := n0_
 have BK108 := n1_
 have HB := n2_
 clear n0_ n1_ n2_
 have n0_ := q0 (blk_drew BK104.out)
 have n1_ := q0 (blk_drew BK108.out)
 have n2_ := q0 (below_drew1 HB.out)
 clear BK104
 clear BK108
 clear HB
 have BK104 := n0_
 have BK108 := n1_
 have HB := n2_
 clear n0_ n1_ n2_
 have p109 : 0 ≤ ((ji16) : Int) := of_decide_eq_true qa
 have q109 : (ji16) < (l0_1.length : Int) := of_decide_eq_true qa
 obtain ⟨ad109, e109, hx109_0, hx109_1⟩ := at_TTie HR0_1.out (ji16) p109 q109
 have hw109_1 := hx109_1
 have hw109_0 := hx109_0
 obtain rfl : ad107 = ad109 := (by injection e109)
 replace hx109_0 := (HB.out.cell (World.block_lt_of_cell? w _ hx109_0)).trans hx109_0
 replace hx109_1 := (HB.out.cell (World.block_lt_of_cell? w _ hx109_1)).trans hx109_1
 replace p109 := eq_true p109
 replace q109 := eq_true q109
 refine start_ (n := 34) (S := fun w' => w'.cell? ⟨gb108, 0, none⟩ = some (.int .i64 ((rd_TTie l0_1 x3_2).f0)) ∧ w'.cell? ⟨gb108, 1, none⟩ = some (.int .i64 ((rd_TTie l0_1 x3_2).f1)) ∧ w'.cell? ⟨gb104, 0, none⟩ = some (.int .i64 a0_0) ∧ w'.cell? ⟨gb104, 1, none⟩ = some (.slice (some ad107) l0_1.length c0_1) ∧ w'.cell? (ad107.add (((ji16)).toNat * 2)) = some (.int .i64 ((rd_TTie l0_1 (ji16)).f0)) ∧ w'.cell? ⟨(ad107.add (((ji16)).toNat * 2)).block, (ad107.add (((ji16)).toNat * 2)).off + 1, none⟩ = some (.int .i64 ((rd_TTie l0_1 (ji16)).f1))) (ds := []) (ba 34 0) (by kernel_rfl) rfl (by kernel_rfl) ⟨(blk_cell BK108.out 0).trans rfl, (blk_cell BK108.out 1).trans rfl, (blk_cell BK104.out 0).trans rfl, (blk_cell BK104.out 1).trans rfl, ((HB.out.cell (World.block_lt_of_cell? w _ hw109_0)).trans hw109_0), ((HB.out.cell (World.block_lt_of_cell? w _ hw109_1)).trans hw109_1)⟩ (fun hHeld => ?_); refine with_tabW spec_NetOk.tab7 spec_NetOk.bits7 (fun HT_ HW_ => ?_)
 generalize w25.drew = w26 at BK104 BK108 HB hx109_0 hx109_1 hHeld ⊢
 refine pu 0 (some 27) (ba 34 1) HT_.out ?_
 refine pu 2 (some 29) (ba 34 5) HT_.out ?_
 refine tu 1 (some 28) (ba 34 7) HT_.out HW_.out hHeld ?_
 refine tu 3 (some 30) (ba 34 15) HT_.out HW_.out hHeld ?_
 refine pu 4 (some 31) (ba 34 31) HT_.out ?_
 refine one_ (i := 5) (N := some 32) (ba 34 63) rfl rfl (one_of HT_.out (by kernel_rfl)) (by decide) (fun K hK => ?_)
 refine goes_ Try.func76 (by kernel_rfl) rfl #[.int .i64 ((rd_TTie l0_1 x3_2).f0), .int .i64 0, .int .i64 (wrap64 (a0_0 - 1))] (by rfl) rfl rfl qm ?_
 with_reducible refine (spec_l6In.calls ((rd_TTie l0_1 x3_2).f0) 0 (wrap64 (a0_0 - 1)) true _ A11.out).mono ?_
 rintro e w' ⟨rfl, ⟨nd, rfl⟩⟩
 refine ⟨_, rfl, ?_⟩
 refine hK.out _ _ ⟨(blk_cell BK108.out 0).trans rfl, (blk_cell BK108.out 1).trans rfl, (blk_cell BK104.out 0).trans rfl, (blk_cell BK104.out 1).trans rfl, ((HB.out.cell (World.block_lt_of_cell? w _ hw109_0)).trans hw109_0), ((HB.out.cell (World.block_lt_of_cell? w _ hw109_1)).trans hw109_1)⟩ (fun hHeld => ?_)
 clear hK K
 refine nu 32 ?_
 refine pu 6 (some 33) (ba 34 127) HT_.out ?_
 refine pu 7 (some 34) (ba 34 255) HT_.out ?_
 refine pu 8 (some 35) (ba 34 511) HT_.out ?_
 refine pu 10 (some 37) (ba 34 1535) HT_.out ?_
 refine pu 13 (some 40) (ba 34 9727) HT_.out ?_
 refine tu 9 (some 36) (ba 34 10239) HT_.out HW_.out hHeld ?_
 refine tu 11 (some 38) (ba 34 12287) HT_.out HW_.out hHeld ?_
 refine pu 12 (some 39) (ba 34 16383) HT_.out ?_
 refine tu 14 (some 41) (ba 34 32767) HT_.out HW_.out hHeld ?_
 refine pu 15 (some 42) (ba 34 65535) HT_.out ?_
 refine one_ (i := 16) (N := some 43) (ba 34 131071) rfl rfl (one_of HT_.out (by kernel_rfl)) (by decide) (fun K hK => ?_)
 refine goes_ Try.func76 (by kernel_rfl) rfl #[.int .i64 ((rd_TTie l0_1 x3_2).f1), .int .i64 (wrap64 (((rd_TTie l0_1 x3_2).f0) + 1)), .int .i64 (wrap64 (a0_0 - 1))] (by rfl) rfl rfl qm ?_
 with_reducible refine (spec_l6In.calls ((rd_TTie l0_1 x3_2).f1) (wrap64 (((rd_TTie l0_1 x3_2).f0) + 1)) (wrap64 (a0_0 - 1)) true _ A13.out).mono ?_
 rintro e w' ⟨rfl, ⟨nd, rfl⟩⟩
 refine ⟨_, rfl, ?_⟩
 refine hK.out _ _ ⟨(blk_cell BK108.out 0).trans rfl, (blk_cell BK108.out 1).trans rfl, (blk_cell BK104.out 0).trans rfl, (blk_cell BK104.out 1).trans rfl, ((HB.out.cell (World.block_lt_of_cell? w _ hw109_0)).trans hw109_0), ((HB.out.cell (World.block_lt_of_cell? w _ hw109_1)).trans hw109_1)⟩ (fun hHeld => ?_)
 clear hK K
 refine nu 43 ?_
 refine pu 17 (some 44) (ba 34 262143) HT_.out ?_
 refine pu 18 (some 45) (ba 34 524287) HT_.out ?_
 refine pu 19 (some 46) (ba 34 1048575) HT_.out ?_
 refine pu 20 (some 47) (ba 34 2097151) HT_.out ?_
 refine pu 21 (some 48) (ba 34 4194303) HT_.out ?_
 refine pu 22 (some 49) (ba 34 8388607) HT_.out ?_
 refine pu 23 (some 50) (ba 34 16777215) HT_.out ?_
 refine pu 25 (some 52) (ba 34 50331647) HT_.out ?_
 refine pu 26 (some 53) (ba 34 117440511) HT_.out ?_
 refine tu 24 (some 51) (ba 34 134217727) HT_.out HW_.out hHeld ?_
 refine pu 27 (some 54) (ba 34 268435455) HT_.out ?_
 refine tu 28 (some 55) (ba 34 536870911) HT_.out HW_.out hHeld ?_
 refine tu 29 (some 56) (ba 34 1073741823) HT_.out HW_.out hHeld ?_
 refine one_ (i := 30) (N := some 57) (ba 34 2147483647) rfl rfl (one_of HT_.out (by kernel_rfl)) (by decide) (fun K hK => ?_)
 refine goes_ Try.func77 (by kernel_rfl) rfl #[.agg #[.int .i64 ((rd_TTie l0_1 (ji16)).f0), .int .i64 ((rd_TTie l0_1 (ji16)).f1)], .agg #[.int .i64 ((rd_TTie l0_1 x3_2).f0), .int .i64 ((rd_TTie l0_1 x3_2).f1)]] (by rfl) rfl rfl (by (try simp only [List.map_toArray, List.map_cons, List.map_nil]); first | done | (simp only [hji16]; rfl) | rfl | (simp only [List.length_drop, List.length_take]; rfl)) ?_
 with_reducible refine (spec_l1Less.calls ((rd_TTie l0_1 (ji16)).f0) ((rd_TTie l0_1 (ji16)).f1) ((rd_TTie l0_1 x3_2).f0) ((rd_TTie l0_1 x3_2).f1) true _ A19.out).mono ?_
 rintro e w27 ⟨rfl, hb⟩
 refine ⟨_, rfl, ?_⟩
 have n0_ := q0 (kb BK104.out hb)
 have n1_ := q0 (kb BK108.out hb)
 have n2_ := q0 (below_step (qb HB.out) hb)
 clear BK104
 clear BK108
 clear HB
 have BK104 := n0_
 have BK108 := n1_
 have HB := n2_
 clear n0_ n1_ n2_
 (try clear hb)
 (try clear hb2)
 (try clear hk)
 (try clear hi)
 refine hK.out _ _ ⟨(blk_cell BK108.out 0).trans rfl, (blk_cell BK108.out 1).trans rfl, (blk_cell BK104.out 0).trans rfl, (blk_cell BK104.out 1).trans rfl, ((HB.out.cell (World.block_lt_of_cell? w _ hw109_0)).trans hw109_0), ((HB.out.cell (World.block_lt_of_cell? w _ hw109_1)).trans hw109_1)⟩ (fun hHeld => ?_)
 clear hK K
 refine nu 57 ?_
 refine pu 31 (some 58) (ba 34 4294967295) HT_.out ?_
 refine pu 32 (some 59) (ba 34 8589934591) HT_.out ?_
 refine pu 33 (some 60) (ba 34 17179869183) HT_.out ?_
 refine done_ (done_of HT_.out (by kernel_rfl)) ?_
 try go_wp2
 go_roundg k2
 case measure => have := HJ1.out; have := HK2.out; omega
 case rel => exact ⟨(wrap64 (x3_2 + 1)), qs, H', ⟨by have := HJ1.out; have := HK2.out; omega⟩, ⟨qk BK104.out⟩, ⟨qb HB.out⟩⟩

set_option maxHeartbeats 8000000 in
set_option maxRecDepth 100000 in
theorem spec_l1Knot.calls (k : Nat) (a0_0 : Int) (A0_1 : Option Addr) (c0_1 : Nat) (l0_1 : List (STie)) (a1 : Int) (r : Bool) (w : World) (hr0_1 : Kd.C kTie w A0_1 l0_1.length l0_1) (hc0_1 : l0_1.length ≤ c0_1) (h : spec_l1Knot.f k a0_0 l0_1 a1 = some r) :
    Calls Try.prog 53 #[.agg #[.int .i64 a0_0, .slice A0_1 l0_1.length c0_1], .int .i64 a1] w fun e w' => e = .returned (.bool r) ∧ Below w.heap.size w w' := by
 have hu30 := Try.underlying30
 have HR0_1 := Aside0.mk hr0_1
 have HC0_1 := Aside0.mk hc0_1
 clear hr0_1 hc0_1
 have HB := q0 (Below.refl w.heap.size w)
 have H : ((spec_NetOk.f k a0_0 l0_1).bind fun t100 => (if t100 = true then ((spec_l6In.f a1 0 (wrap64 (a0_0 - 1))).bind fun t101 => (some t101)) else (some false))) = some r := h
 clear h
 replace H := Option.bind_eq_some_iff.mp H
 obtain ⟨t100, A30, H⟩ := H
 replace H : (if t100 = true then ((spec_l6In.f a1 0 (wrap64 (a0_0 - 1))).bind fun t101 => (some t101)) else (some false)) = some r := H
 have A3 := Aside0.mk A30
 clear A30
 by_cases c4 : t100 = true
 rotate_left
 · replace c4 := Bool.eq_false_iff.mpr c4
   subst c4
   have H1 : (some false) = some r := by rw [if_neg (show ¬ (false = true) by decide)] at H; exact H
   clear H
   have H := H1
   clear H1
   obtain rfl := Option.some.inj H
   go_enter Try.func53, Try.ntmps53
   go_wp2_with (first | ((with_reducible refine gate_dst (N := 2) rfl ?_); refine be 2 #[.int .i64 a0_0, .slice A0_1 l0_1.length c0_1] 30 ?_; intro gb102 hg w10 hbox hb; have n0_ := q0 (below_step (qb HB.out) hb); have n1_ := q0 (hbox); have n2_ := q0 ((bs HB.out hg : w.heap.size ≤ gb102)); have n3_ := q0 ((bs HB.out hg : w.heap.size ≤ gb102)); clear HB; have HB := n0_; have BK102 := n1_; have GW102 := n2_; have GE102 := n3_; clear n0_ n1_ n2_ n3_ hb hbox hg; have hcz11_0 : w10.cell? ⟨gb102, 0, none⟩ = some (.int .i64 a0_0) := (blk_cell BK102.out 0).trans rfl; have hcz11_1 : w10.cell? ⟨gb102, 1, none⟩ = some (.slice A0_1 l0_1.length c0_1) := (blk_cell BK102.out 1).trans rfl; have hfz11_0 := blk_frozen BK102.out 0; have hfz11_1 := blk_frozen BK102.out 1) | ((with_reducible refine gate_callee (f := 49) rfl ?_); refine goesL_ (some 6) rfl rfl Try.func49 (by kernel_rfl) rfl #[.agg #[.int .i64 a0_0, .slice A0_1 l0_1.length c0_1]] rfl qm ?_; (with_reducible refine (spec_NetOk.calls k a0_0 _ _ l0_1 false _ ?side1 ?side2 A3.out).mono ?_); (case side1 => exact qc (Kd.C_below HR0_1.out HB.out)); (case side2 => exact HC0_1.out); rintro e w12 ⟨rfl, hb⟩; refine ⟨_, rfl, ?_⟩; have n0_ := q0 (kb BK102.out hb); have n1_ := q0 (below_step (qb HB.out) hb); clear BK102 HB; have BK102 := n0_; have HB := n1_; clear n0_ n1_; (try clear hb); (try clear hb2); (try clear hk); (try clear hi)))
   go_ret
   exact ⟨qe, qb HB.out⟩
 subst c4
 have H1 : ((spec_l6In.f a1 0 (wrap64 (a0_0 - 1))).bind fun t101 => (some t101)) = some r := by rw [if_pos rfl] at H; exact H
 clear H
 have H := H1
 clear H1
 replace H := Option.bind_eq_some_iff.mp H
 obtain ⟨t101, A50, H⟩ := H
 replace H : (some t101) = some r := H
 have A5 := Aside0.mk A50
 clear A50
 obtain rfl := Option.some.inj H
 go_enter Try.func53, Try.ntmps53
 go_wp2_with (first | ((with_reducible refine gate_dst (N := 2) rfl ?_); refine be 2 #[.int .i64 a0_0, .slice A0_1 l0_1.length c0_1] 30 ?_; intro gb102 hg w6 hbox hb; have n0_ := q0 (below_step (qb HB.out) hb); have n1_ := q0 (hbox); have n2_ := q0 ((bs HB.out hg : w.heap.size ≤ gb102)); have n3_ := q0 ((bs HB.out hg : w.heap.size ≤ gb102)); clear HB; have HB := n0_; have BK102 := n1_; have GW102 := n2_; have GE102 := n3_; clear n0_ n1_ n2_ n3_ hb hbox hg; have hcz7_0 : w6.cell? ⟨gb102, 0, none⟩ = some (.int .i64 a0_0) := (blk_cell BK102.out 0).trans rfl; have hcz7_1 : w6.cell? ⟨gb102, 1, none⟩ = some (.slice A0_1 l0_1.length c0_1) := (blk_cell BK102.out 1).trans rfl; have hfz7_0 := blk_frozen BK102.out 0; have hfz7_1 := blk_frozen BK102.out 1) | ((with_reducible refine gate_callee (f := 49) rfl ?_); refine goesL_ (some 6) rfl rfl Try.func49 (by kernel_rfl) rfl #[.agg #[.int .i64 a0_0, .slice A0_1 l0_1.length c0_1]] rfl qm ?_; (with_reducible refine (spec_NetOk.calls k a0_0 _ _ l0_1 true _ ?side1 ?side2 A3.out).mono ?_); (case side1 => exact qc (Kd.C_below HR0_1.out HB.out)); (case side2 => exact HC0_1.out); rintro e w8 ⟨rfl, hb⟩; refine ⟨_, rfl, ?_⟩; have n0_ := q0 (kb BK102.out hb); have n1_ := q0 (below_step (qb HB.out) hb); clear BK102 HB; have BK102 := n0_; have HB := n1_; clear n0_ n1_; (try clear hb); (try clear hb2); (try clear hk); (try clear hi); have hcz9_0 : w8.cell? ⟨gb102, 0, none⟩ = some (.int .i64 a0_0) := (blk_cell BK102.out 0).trans rfl; have hcz9_1 : w8.cell? ⟨gb102, 1, none⟩ = some (.slice A0_1 l0_1.length c0_1) := (blk_cell BK102.out 1).trans rfl; have hfz9_0 := blk_frozen BK102.out 0; have hfz9_1 := blk_frozen BK102.out 1) | (go_at_call 76; (with_reducible refine (spec_l6In.calls a1 0 (wrap64 (a0_0 - 1)) t101 _ A5.out).mono ?_); rintro e w' ⟨rfl, ⟨nd, rfl⟩⟩))
 go_ret
 exact ⟨qe, qb HB.out⟩

set_option maxHeartbeats 8000000 in
set_option maxRecDepth 100000 in
theorem spec_l1Tie.calls (a0 : Int) (a1 : Int) (r1 : Int) (r2 : Int) (w : World) (h : spec_l1Tie.f a0 a1 = some (r1, r2)) :
    Calls Try.prog 64 #[.int .i64 a0, .int .i64 a1] w fun e w' => e = .returned (.agg #[.int .i64 r1, .int .i64 r2]) ∧ Below w.heap.size w w' := by
 have hu44 := Try.underlying44
 have HB := q0 (Below.refl w.heap.size w)
 have H : (if a0 < a1 then (some (a0, a1)) else (some (a1, a0))) = some (r1, r2) := h
 clear h
 by_cases c3 : a0 < a1
 · rw [if_pos c3] at H
   have c3b0 : decide (a0 < a1) = true := decide_eq_true c3
   clear c3
   simp only [Option.some.injEq, Prod.mk.injEq] at H
   obtain ⟨rfl, rfl⟩ := H
   go_enter Try.func64, Try.ntmps64
   go_wp2_with (first | ((with_reducible refine gate_dst (N := 4) rfl ?_); refine be 4 #[.int .i64 0, .int .i64 0] 44 ?_; intro gb100 hg w4 hbox hb; have n0_ := q0 (below_step (qb HB.out) hb); have n1_ := q0 (hbox); have n2_ := q0 ((bs HB.out hg : w.heap.size ≤ gb100)); have n3_ := q0 ((bs HB.out hg : w.heap.size ≤ gb100)); clear HB; have HB := n0_; have BK100 := n1_; have GW100 := n2_; have GE100 := n3_; clear n0_ n1_ n2_ n3_ hb hbox hg; have hcz5_0 : w4.cell? ⟨gb100, 0, none⟩ = some (.int .i64 0) := (blk_cell BK100.out 0).trans rfl; have hcz5_1 : w4.cell? ⟨gb100, 1, none⟩ = some (.int .i64 0) := (blk_cell BK100.out 1).trans rfl; have hfz5_0 := blk_frozen BK100.out 0; have hfz5_1 := blk_frozen BK100.out 1))
   refine bodyPost_ret (results_cell_row rfl _ _ gb100 44 #[.int .i64 a0, .int .i64 a1] (0, 0) _ rfl (by (with_reducible repeat (first | refine blk_drewN ?_ _ | refine blk_drew ?_ | refine blk_alloc ?_ _)); refine blk_put (cs := #[.int .i64 a0, .int .i64 0]) ?_ 1 _ rfl; (with_reducible repeat (first | refine blk_drewN ?_ _ | refine blk_drew ?_ | refine blk_alloc ?_ _)); refine blk_put (cs := #[.int .i64 0, .int .i64 0]) ?_ 0 _ rfl; (with_reducible repeat (first | refine blk_drewN ?_ _ | refine blk_drew ?_ | refine blk_alloc ?_ _)); exact BK100.out) Try.underlying44 rfl (by kernel_rfl)) rfl ?_
   exact ⟨qe, qb HB.out⟩
 rw [if_neg c3] at H
 have c3b0 : decide (a0 < a1) = false := decide_eq_false c3
 clear c3
 simp only [Option.some.injEq, Prod.mk.injEq] at H
 obtain ⟨rfl, rfl⟩ := H
 go_enter Try.func64, Try.ntmps64
 go_wp2_with (first | ((with_reducible refine gate_dst (N := 4) rfl ?_); refine be 4 #[.int .i64 0, .int .i64 0] 44 ?_; intro gb100 hg w6 hbox hb; have n0_ := q0 (below_step (qb HB.out) hb); have n1_ := q0 (hbox); have n2_ := q0 ((bs HB.out hg : w.heap.size ≤ gb100)); have n3_ := q0 ((bs HB.out hg : w.heap.size ≤ gb100)); clear HB; have HB := n0_; have BK100 := n1_; have GW100 := n2_; have GE100 := n3_; clear n0_ n1_ n2_ n3_ hb hbox hg; have hcz7_0 : w6.cell? ⟨gb100, 0, none⟩ = some (.int .i64 0) := (blk_cell BK100.out 0).trans rfl; have hcz7_1 : w6.cell? ⟨gb100, 1, none⟩ = some (.int .i64 0) := (blk_cell BK100.out 1).trans rfl; have hfz7_0 := blk_frozen BK100.out 0; have hfz7_1 := blk_frozen BK100.out 1))
 refine bodyPost_ret (results_cell_row rfl _ _ gb100 44 #[.int .i64 a1, .int .i64 a0] (0, 0) _ rfl (by (with_reducible repeat (first | refine blk_drewN ?_ _ | refine blk_drew ?_ | refine blk_alloc ?_ _)); refine blk_put (cs := #[.int .i64 a1, .int .i64 0]) ?_ 1 _ rfl; (with_reducible repeat (first | refine blk_drewN ?_ _ | refine blk_drew ?_ | refine blk_alloc ?_ _)); refine blk_put (cs := #[.int .i64 0, .int .i64 0]) ?_ 0 _ rfl; (with_reducible repeat (first | refine blk_drewN ?_ _ | refine blk_drew ?_ | refine blk_alloc ?_ _)); exact BK100.out) Try.underlying44 rfl (by kernel_rfl)) rfl ?_
 exact ⟨qe, qb HB.out⟩

attribute [local go_sem high] eqATie
def spec_l1Has.T4 : Bool × List (List Nat × List Nat) := (true, [([], []), ([0], [0]), ([], []), ([1, 2], [1, 2]), ([3], [3]), ([], []), ([], []), ([5, 6], [5, 6]), ([4, 7], [4, 7])])
def spec_l1Has.B4 : List Nat := [0, 1, 0, 7, 15, 0, 0, 96, 255]
theorem spec_l1Has.tab4 : rtab .any (opsOf Try.f79 4) = spec_l1Has.T4 := by kernel_rfl
theorem spec_l1Has.bits4 : waitsOk spec_l1Has.T4.2 spec_l1Has.B4 = true := by kernel_rfl
set_option maxHeartbeats 8000000 in
set_option maxRecDepth 100000 in
theorem spec_l1Has.calls (k : Nat) (a0_0 : Int) (A0_1 : Option Addr) (c0_1 : Nat) (l0_1 : List (STie)) (a1 : Int) (a2 : Int) (r : Bool) (w : World) (hr0_1 : Kd.C kTie w A0_1 l0_1.length l0_1) (hc0_1 : l0_1.length ≤ c0_1) (h : spec_l1Has.f k a0_0 l0_1 a1 a2 = some r) :
    Calls Try.prog 79 #[.agg #[.int .i64 a0_0, .slice A0_1 l0_1.length c0_1], .int .i64 a1, .int .i64 a2] w fun e w' => e = .returned (.bool r) ∧ Below w.heap.size w w' := by
 have hu30 := Try.underlying30
 have hu44 := Try.underlying44
 have HR0_1 := Aside0.mk hr0_1
 have HC0_1 := Aside0.mk hc0_1
 clear hr0_1 hc0_1
 have HB := q0 (Below.refl w.heap.size w)
 have H : (spec_l1Has.l0 k a1 a2 0 a0_0 l0_1) = some r := h
 clear h
 have H' := Aside0.mk H
 clear H
 go_enter Try.func79, Try.ntmps79
 go_wp2_with (first | ((with_reducible refine gate_dst (N := 3) rfl ?_); refine be 3 #[.int .i64 a0_0, .slice A0_1 l0_1.length c0_1] 30 ?_; intro gb102 hg w4 hbox hb; have n0_ := q0 (below_step (qb HB.out) hb); have n1_ := q0 (hbox); have n2_ := q0 ((bs HB.out hg : w.heap.size ≤ gb102)); have n3_ := q0 ((bs HB.out hg : w.heap.size ≤ gb102)); clear HB; have HB := n0_; have BK102 := n1_; have GW102 := n2_; have GE102 := n3_; clear n0_ n1_ n2_ n3_ hb hbox hg))
 go_loopg [7] k (fun kq v7 w' => ∃ (x7_1 : Int), v7 = .int .i64 x7_1 ∧ Aside0 (spec_l1Has.l0 kq a1 a2 x7_1 a0_0 l0_1 = some r) ∧ Aside0 (kq ≤ k) ∧ Aside0 (w'.heap[gb102]? = some (.cells #[.int .i64 a0_0, (.slice A0_1 l0_1.length c0_1)] 30 (0, 0))) ∧ Aside0 (Below w.heap.size w w'))
 case atStart => exact ⟨(0), qs, H', ⟨Nat.le_refl _⟩, ⟨qk BK102.out⟩, ⟨qb HB.out⟩⟩
 clear H'
 try clear p2
 obtain ⟨x7_1, rfl, HA, HK1, BK102, HB⟩ := hrel
 rcases gk with _ | k1
 · exact absurd HA.out (by simp [spec_l1Has.l0])
 have H := HA.out
 clear HA
 simp only [spec_l1Has.l0] at H
 by_cases c5 : x7_1 < (l0_1.length : Int)
 rotate_left
 · rw [if_neg c5] at H
   have c5b0 : decide (x7_1 < (l0_1.length : Int)) = false := decide_eq_false c5
   clear c5
   obtain rfl := Option.some.inj H
   have hcz15_0 : wr.cell? ⟨gb102, 0, none⟩ = some (.int .i64 a0_0) := (blk_cell BK102.out 0).trans rfl
   have hcz15_1 : wr.cell? ⟨gb102, 1, none⟩ = some (.slice A0_1 l0_1.length c0_1) := (blk_cell BK102.out 1).trans rfl
   have hfz15_0 := blk_frozen BK102.out 0
   have hfz15_1 := blk_frozen BK102.out 1
   go_wp2
   go_ret
   exact ⟨qe, qb HB.out⟩
 rw [if_pos c5] at H
 have c5b0 : decide (x7_1 < (l0_1.length : Int)) = true := decide_eq_true c5
 clear c5
 by_cases c6 : 0 ≤ x7_1
 rotate_left
 · rw [if_neg c6] at H
   exact absurd H (by simp)
 rw [if_pos c6] at H
 have c6b0 : decide (0 ≤ x7_1) = true := decide_eq_true c6
 clear c6
 replace H := Option.bind_eq_some_iff.mp H
 obtain ⟨⟨t101, t103⟩, A70, H⟩ := H
 replace H : (if (((rd_TTie l0_1 x7_1).f0) == t101 && (((rd_TTie l0_1 x7_1).f1) == t103)) = true then (some true) else (spec_l1Has.l0 k1 a1 a2 (wrap64 (x7_1 + 1)) a0_0 l0_1)) = some r := H
 have A7 := Aside0.mk A70
 clear A70
 by_cases c8 : (((rd_TTie l0_1 x7_1).f0) == t101 && (((rd_TTie l0_1 x7_1).f1) == t103)) = true
 · rw [if_pos c8] at H
   have c8b0 : (((rd_TTie l0_1 x7_1).f0) == t101 && (((rd_TTie l0_1 x7_1).f1) == t103)) = true := c8
   (try (have c8b1 : decide (((rd_TTie l0_1 x7_1).f0) = t101 && (((rd_TTie l0_1 x7_1).f1) == t103)) = true := by simpa using c8))
   (try (have c8b2 : (((rd_TTie l0_1 x7_1).f0) == t101 && (((rd_TTie l0_1 x7_1).f1) == t103)) = true := by simpa using c8))
   clear c8
   obtain rfl := Option.some.inj H
   have hcz9_0 : wr.cell? ⟨gb102, 0, none⟩ = some (.int .i64 a0_0) := (blk_cell BK102.out 0).trans rfl
   have hcz9_1 : wr.cell? ⟨gb102, 1, none⟩ = some (.slice A0_1 l0_1.length c0_1) := (blk_cell BK102.out 1).trans rfl
   have hfz9_0 := blk_frozen BK102.out 0
   have hfz9_1 := blk_frozen BK102.out 1
   try go_wp2
   have n0_ := q0 (blk_drew BK102.out)
   have n1_ := q0 (below_drew1 HB.out)
   clear BK102
   clear HB
   have BK102 := n0_
   have HB := n1_
   clear n0_ n1_
   have p100 : 0 ≤ (x7_1 : Int) := of_decide_eq_true qa
   have q100 : x7_1 < (l0_1.length : Int) := of_decide_eq_true qa
   obtain ⟨ad100, e100, hx100_0, hx100_1⟩ := at_TTie HR0_1.out x7_1 p100 q100
   have hw100_1 := hx100_1
   have hw100_0 := hx100_0
   cases e100
   replace hx100_0 := (HB.out.cell (World.block_lt_of_cell? w _ hx100_0)).trans hx100_0
   replace hx100_1 := (HB.out.cell (World.block_lt_of_cell? w _ hx100_1)).trans hx100_1
   replace p100 := eq_true p100
   replace q100 := eq_true q100
   refine start_ (n := 9) (S := fun w' => w'.cell? ⟨gb102, 0, none⟩ = some (.int .i64 a0_0) ∧ w'.cell? ⟨gb102, 1, none⟩ = some (.slice (some ad100) l0_1.length c0_1) ∧ w'.cell? (ad100.add ((x7_1).toNat * 2)) = some (.int .i64 ((rd_TTie l0_1 x7_1).f0)) ∧ w'.cell? ⟨(ad100.add ((x7_1).toNat * 2)).block, (ad100.add ((x7_1).toNat * 2)).off + 1, none⟩ = some (.int .i64 ((rd_TTie l0_1 x7_1).f1))) (ds := []) (ba 9 0) (by kernel_rfl) rfl (by kernel_rfl) ⟨(blk_cell BK102.out 0).trans rfl, (blk_cell BK102.out 1).trans rfl, ((HB.out.cell (World.block_lt_of_cell? w _ hw100_0)).trans hw100_0), ((HB.out.cell (World.block_lt_of_cell? w _ hw100_1)).trans hw100_1)⟩ (fun hHeld => ?_); refine with_tabW spec_l1Has.tab4 spec_l1Has.bits4 (fun HT_ HW_ => ?_)
   generalize wr.drew = w10 at BK102 HB hx100_0 hx100_1 hHeld ⊢
   refine pu 0 (some 15) (ba 9 1) HT_.out ?_
   refine pu 2 (some 17) (ba 9 5) HT_.out ?_
   refine pu 5 (some 20) (ba 9 37) HT_.out ?_
   refine pu 6 (some 21) (ba 9 101) HT_.out ?_
   refine tu 1 (some 16) (ba 9 103) HT_.out HW_.out hHeld ?_
   refine pu 3 (some 18) (ba 9 111) HT_.out ?_
   refine tu 4 (some 19) (ba 9 127) HT_.out HW_.out hHeld ?_
   refine one_ (i := 7) (N := some 22) (ba 9 255) rfl rfl (one_of HT_.out (by kernel_rfl)) (by decide) (fun K hK => ?_)
   refine goes_ Try.func64 (by kernel_rfl) rfl #[.int .i64 a1, .int .i64 a2] (by rfl) rfl rfl qm ?_
   with_reducible refine (spec_l1Tie.calls a1 a2 t101 t103 _ A7.out).mono ?_
   rintro e w11 ⟨rfl, hb⟩
   refine ⟨_, rfl, ?_⟩
   have n0_ := q0 (kb BK102.out hb)
   have n1_ := q0 (below_step (qb HB.out) hb)
   clear BK102
   clear HB
   have BK102 := n0_
   have HB := n1_
   clear n0_ n1_
   (try clear hb)
   (try clear hb2)
   (try clear hk)
   (try clear hi)
   refine hK.out _ _ ⟨(blk_cell BK102.out 0).trans rfl, (blk_cell BK102.out 1).trans rfl, ((HB.out.cell (World.block_lt_of_cell? w _ hw100_0)).trans hw100_0), ((HB.out.cell (World.block_lt_of_cell? w _ hw100_1)).trans hw100_1)⟩ (fun hHeld => ?_)
   clear hK K
   refine nu 22 ?_
   refine pu 8 (some 23) (ba 9 511) HT_.out ?_
   refine done_ (done_of HT_.out (by kernel_rfl)) ?_
   try go_wp2
   go_ret
   exact ⟨qe, qb HB.out⟩
 rw [if_neg c8] at H
 have c8b0 : (((rd_TTie l0_1 x7_1).f0) == t101 && (((rd_TTie l0_1 x7_1).f1) == t103)) = false := by simpa using c8
 (try (have c8b1 : decide (((rd_TTie l0_1 x7_1).f0) = t101 && (((rd_TTie l0_1 x7_1).f1) == t103)) = false := by simpa using c8))
 (try (have c8b2 : (((rd_TTie l0_1 x7_1).f0) == t101 && (((rd_TTie l0_1 x7_1).f1) == t103)) = false := by simpa using c8))
 (try (have c8b3 : ¬ (((rd_TTie l0_1 x7_1).f0) = t101 && (((rd_TTie l0_1 x7_1).f1) == t103)) := by simpa using c8))
 clear c8
 have H' := Aside0.mk H
 clear H
 have hcz12_0 : wr.cell? ⟨gb102, 0, none⟩ = some (.int .i64 a0_0) := (blk_cell BK102.out 0).trans rfl
 have hcz12_1 : wr.cell? ⟨gb102, 1, none⟩ = some (.slice A0_1 l0_1.length c0_1) := (blk_cell BK102.out 1).trans rfl
 have hfz12_0 := blk_frozen BK102.out 0
 have hfz12_1 := blk_frozen BK102.out 1
 try go_wp2
 have n0_ := q0 (blk_drew BK102.out)
 have n1_ := q0 (below_drew1 HB.out)
 clear BK102
 clear HB
 have BK102 := n0_
 have HB := n1_
 clear n0_ n1_
 have p100 : 0 ≤ (x7_1 : Int) := of_decide_eq_true qa
 have q100 : x7_1 < (l0_1.length : Int) := of_decide_eq_true qa
 obtain ⟨ad100, e100, hx100_0, hx100_1⟩ := at_TTie HR0_1.out x7_1 p100 q100
 have hw100_1 := hx100_1
 have hw100_0 := hx100_0
 cases e100
 replace hx100_0 := (HB.out.cell (World.block_lt_of_cell? w _ hx100_0)).trans hx100_0
 replace hx100_1 := (HB.out.cell (World.block_lt_of_cell? w _ hx100_1)).trans hx100_1
 replace p100 := eq_true p100
 replace q100 := eq_true q100
 refine start_ (n := 9) (S := fun w' => w'.cell? ⟨gb102, 0, none⟩ = some (.int .i64 a0_0) ∧ w'.cell? ⟨gb102, 1, none⟩ = some (.slice (some ad100) l0_1.length c0_1) ∧ w'.cell? (ad100.add ((x7_1).toNat * 2)) = some (.int .i64 ((rd_TTie l0_1 x7_1).f0)) ∧ w'.cell? ⟨(ad100.add ((x7_1).toNat * 2)).block, (ad100.add ((x7_1).toNat * 2)).off + 1, none⟩ = some (.int .i64 ((rd_TTie l0_1 x7_1).f1))) (ds := []) (ba 9 0) (by kernel_rfl) rfl (by kernel_rfl) ⟨(blk_cell BK102.out 0).trans rfl, (blk_cell BK102.out 1).trans rfl, ((HB.out.cell (World.block_lt_of_cell? w _ hw100_0)).trans hw100_0), ((HB.out.cell (World.block_lt_of_cell? w _ hw100_1)).trans hw100_1)⟩ (fun hHeld => ?_); refine with_tabW spec_l1Has.tab4 spec_l1Has.bits4 (fun HT_ HW_ => ?_)
 generalize wr.drew = w13 at BK102 HB hx100_0 hx100_1 hHeld ⊢
 refine pu 0 (some 15) (ba 9 1) HT_.out ?_
 refine pu 2 (some 17) (ba 9 5) HT_.out ?_
 refine pu 5 (some 20) (ba 9 37) HT_.out ?_
 refine pu 6 (some 21) (ba 9 101) HT_.out ?_
 refine tu 1 (some 16) (ba 9 103) HT_.out HW_.out hHeld ?_
 refine pu 3 (some 18) (ba 9 111) HT_.out ?_
 refine tu 4 (some 19) (ba 9 127) HT_.out HW_.out hHeld ?_
 refine one_ (i := 7) (N := some 22) (ba 9 255) rfl rfl (one_of HT_.out (by kernel_rfl)) (by decide) (fun K hK => ?_)
 refine goes_ Try.func64 (by kernel_rfl) rfl #[.int .i64 a1, .int .i64 a2] (by rfl) rfl rfl qm ?_
 with_reducible refine (spec_l1Tie.calls a1 a2 t101 t103 _ A7.out).mono ?_
 rintro e w14 ⟨rfl, hb⟩
 refine ⟨_, rfl, ?_⟩
 have n0_ := q0 (kb BK102.out hb)
 have n1_ := q0 (below_step (qb HB.out) hb)
 clear BK102
 clear HB
 have BK102 := n0_
 have HB := n1_
 clear n0_ n1_
 (try clear hb)
 (try clear hb2)
 (try clear hk)
 (try clear hi)
 refine hK.out _ _ ⟨(blk_cell BK102.out 0).trans rfl, (blk_cell BK102.out 1).trans rfl, ((HB.out.cell (World.block_lt_of_cell? w _ hw100_0)).trans hw100_0), ((HB.out.cell (World.block_lt_of_cell? w _ hw100_1)).trans hw100_1)⟩ (fun hHeld => ?_)
 clear hK K
 refine nu 22 ?_
 refine pu 8 (some 23) (ba 9 511) HT_.out ?_
 refine done_ (done_of HT_.out (by kernel_rfl)) ?_
 try go_wp2
 go_roundg k1
 case measure => have := HK1.out; omega
 case rel => exact ⟨(wrap64 (x7_1 + 1)), qs, H', ⟨by have := HK1.out; omega⟩, ⟨qk BK102.out⟩, ⟨qb HB.out⟩⟩

set_option maxHeartbeats 8000000 in
set_option maxRecDepth 100000 in
theorem cmp_Or_int.calls (k : Nat) (A0 : Option Addr) (c0 : Nat) (l0 : List Int) (r : Int) (w : World) (hr0 : Kd.C (Kd.int .i64) w A0 l0.length l0) (hc0 : l0.length ≤ c0) (h : cmp_Or_int.f k l0 = some r) :
    Calls Try.prog 90 #[.slice A0 l0.length c0] w fun e w' => e = .returned (.int .i64 r) ∧ Drawn0 w w' := by
 have HR0 := Aside0.mk hr0
 have HC0 := Aside0.mk hc0
 clear hr0 hc0
 have H : (cmp_Or_int.l0 k 0 l0 (l0.length : Int) 0) = some r := h
 clear h
 have H' := Aside0.mk H
 clear H
 go_enter Try.func90, Try.ntmps90
 go_wp2
 go_loopg [8] k (fun kq v8 w' => ∃ (x8_1 : Int), v8 = .int .i64 x8_1 ∧ Aside0 (cmp_Or_int.l0 kq 0 l0 (l0.length : Int) x8_1 = some r) ∧ Aside0 (kq ≤ k) ∧ Drawn0 w w')
 case atStart => exact ⟨(0), qs, H', ⟨Nat.le_refl _⟩, by repeat (first | exact Drawn0.refl _ | apply Drawn0.step)⟩
 clear H'
 obtain ⟨x8_1, rfl, HA, HK1, ⟨m1, rfl⟩⟩ := hrel
 rcases gk with _ | k1
 · exact absurd HA.out (by simp [cmp_Or_int.l0])
 have H := HA.out
 clear HA
 simp only [cmp_Or_int.l0] at H
 by_cases c2 : x8_1 < (l0.length : Int)
 rotate_left
 · rw [if_neg c2] at H
   have c2b0 : decide (x8_1 < (l0.length : Int)) = false := decide_eq_false c2
   clear c2
   obtain rfl := Option.some.inj H
   go_wp2
   go_ret
   exact ⟨by first | rfl | (simp; done) | (simp [*]; done), by repeat (first | exact Drawn0.refl _ | apply Drawn0.step)⟩
 rw [if_pos c2] at H
 have c2b0 : decide (x8_1 < (l0.length : Int)) = true := decide_eq_true c2
 clear c2
 by_cases c3 : 0 ≤ x8_1
 rotate_left
 · rw [if_neg c3] at H
   exact absurd H (by simp)
 rw [if_pos c3] at H
 have c3b0 : decide (0 ≤ x8_1) = true := decide_eq_true c3
 clear c3
 by_cases c4 : x8_1 < (l0.length : Int)
 rotate_left
 · rw [if_neg c4] at H
   exact absurd H (by simp)
 rw [if_pos c4] at H
 have c4b0 : decide (x8_1 < (l0.length : Int)) = true := decide_eq_true c4
 clear c4
 by_cases c5 : (rd l0 x8_1) = 0
 rotate_left
 · rw [if_neg c5] at H
   have c5b0 : ((rd l0 x8_1) == 0) = false := beq_eq_false_iff_ne.mpr c5
   have c5b1 : ((rd l0 x8_1) != 0) = true := bne_iff_ne.mpr c5
   obtain rfl := Option.some.inj H
   have p100 : 0 ≤ (x8_1 : Int) := of_decide_eq_true qa
   have q100 : x8_1 < (l0.length : Int) := of_decide_eq_true qa
   obtain ⟨ad100, e100, hx100_0⟩ := Kd.at_int HR0.out x8_1 p100 q100
   cases e100
   replace p100 := eq_true p100
   replace q100 := eq_true q100
   go_wp2
   go_ret
   exact ⟨by first | rfl | (simp; done) | (simp [*]; done), by repeat (first | exact Drawn0.refl _ | apply Drawn0.step)⟩
 rw [if_pos c5] at H
 have c5b0 : ((rd l0 x8_1) == 0) = true := beq_iff_eq.mpr c5
 have c5b1 : ((rd l0 x8_1) != 0) = false := bne_eq_false_iff_eq.mpr c5
 clear c5
 have H' := Aside0.mk H
 clear H
 have p100 : 0 ≤ (x8_1 : Int) := of_decide_eq_true qa
 have q100 : x8_1 < (l0.length : Int) := of_decide_eq_true qa
 obtain ⟨ad100, e100, hx100_0⟩ := Kd.at_int HR0.out x8_1 p100 q100
 cases e100
 replace p100 := eq_true p100
 replace q100 := eq_true q100
 go_wp2
 go_roundg k1
 case measure => have := HK1.out; omega
 case rel => exact ⟨(wrap64 (x8_1 + 1)), qs, H', ⟨by have := HK1.out; omega⟩, by repeat (first | exact Drawn0.refl _ | apply Drawn0.step)⟩

set_option maxHeartbeats 8000000 in
set_option maxRecDepth 100000 in
theorem cmp_isNaN_int.calls (a0 : Int) (r : Bool) (w : World) (h : cmp_isNaN_int.f a0 = some r) :
    Calls Try.prog 93 #[.int .i64 a0] w fun e w' => e = .returned (.bool r) ∧ Drawn0 w w' := by
 have H : (some (a0 != a0)) = some r := h
 clear h
 obtain rfl := Option.some.inj H
 go_enter Try.func93, Try.ntmps93
 go_wp2
 go_ret
 exact ⟨by first | rfl | (simp; done) | (simp [*]; done), by repeat (first | exact Drawn0.refl _ | apply Drawn0.step)⟩

set_option maxHeartbeats 8000000 in
set_option maxRecDepth 100000 in
theorem cmp_Compare_int.calls (a0 : Int) (a1 : Int) (r : Int) (w : World) (h : cmp_Compare_int.f a0 a1 = some r) :
    Calls Try.prog 91 #[.int .i64 a0, .int .i64 a1] w fun e w' => e = .returned (.int .i64 r) ∧ Drawn0 w w' := by
 have H : ((cmp_isNaN_int.f a0).bind fun t100 => ((cmp_isNaN_int.f a1).bind fun t101 => (if t100 = true then (if t101 = true then (some 0) else (some (-1))) else (if t101 = true then (some 1) else (if a0 < a1 then (some (-1)) else (if a0 > a1 then (some 1) else (some 0))))))) = some r := h
 clear h
 replace H := Option.bind_eq_some_iff.mp H
 obtain ⟨t100, A30, H⟩ := H
 replace H : ((cmp_isNaN_int.f a1).bind fun t101 => (if t100 = true then (if t101 = true then (some 0) else (some (-1))) else (if t101 = true then (some 1) else (if a0 < a1 then (some (-1)) else (if a0 > a1 then (some 1) else (some 0)))))) = some r := H
 have A3 := Aside0.mk A30
 clear A30
 replace H := Option.bind_eq_some_iff.mp H
 obtain ⟨t101, A40, H⟩ := H
 replace H : (if t100 = true then (if t101 = true then (some 0) else (some (-1))) else (if t101 = true then (some 1) else (if a0 < a1 then (some (-1)) else (if a0 > a1 then (some 1) else (some 0))))) = some r := H
 have A4 := Aside0.mk A40
 clear A40
 by_cases c5 : t100 = true
 · subst c5
   have H1 : (if t101 = true then (some 0) else (some (-1))) = some r := by rw [if_pos rfl] at H; exact H
   clear H
   have H := H1
   clear H1
   by_cases c6 : t101 = true
   · subst c6
     have H1 : (some 0) = some r := by rw [if_pos rfl] at H; exact H
     clear H
     have H := H1
     clear H1
     obtain rfl := Option.some.inj H
     go_enter Try.func91, Try.ntmps91
     go_wp2_with (first | ((with_reducible refine gate_callee (f := 93) rfl ?_); refine goesL_ (some 8) rfl rfl Try.func93 (by kernel_rfl) rfl #[.int .i64 a0] rfl qm ?_; (with_reducible refine (cmp_isNaN_int.calls a0 true _ A3.out).mono ?_); rintro e w' ⟨rfl, ⟨nd, rfl⟩⟩; refine ⟨_, rfl, ?_⟩) | ((with_reducible refine gate_callee (f := 93) rfl ?_); refine goesL_ (some 10) rfl rfl Try.func93 (by kernel_rfl) rfl #[.int .i64 a1] rfl qm ?_; (with_reducible refine (cmp_isNaN_int.calls a1 true _ A4.out).mono ?_); rintro e w' ⟨rfl, ⟨nd, rfl⟩⟩; refine ⟨_, rfl, ?_⟩))
     go_ret
     exact ⟨by first | rfl | (simp; done) | (simp [*]; done), by repeat (first | exact Drawn0.refl _ | apply Drawn0.step)⟩
   replace c6 := Bool.eq_false_iff.mpr c6
   subst c6
   have H1 : (some (-1)) = some r := by rw [if_neg (show ¬ (false = true) by decide)] at H; exact H
   clear H
   have H := H1
   clear H1
   obtain rfl := Option.some.inj H
   go_enter Try.func91, Try.ntmps91
   go_wp2_with (first | ((with_reducible refine gate_callee (f := 93) rfl ?_); refine goesL_ (some 8) rfl rfl Try.func93 (by kernel_rfl) rfl #[.int .i64 a0] rfl qm ?_; (with_reducible refine (cmp_isNaN_int.calls a0 true _ A3.out).mono ?_); rintro e w' ⟨rfl, ⟨nd, rfl⟩⟩; refine ⟨_, rfl, ?_⟩) | ((with_reducible refine gate_callee (f := 93) rfl ?_); refine goesL_ (some 10) rfl rfl Try.func93 (by kernel_rfl) rfl #[.int .i64 a1] rfl qm ?_; (with_reducible refine (cmp_isNaN_int.calls a1 false _ A4.out).mono ?_); rintro e w' ⟨rfl, ⟨nd, rfl⟩⟩; refine ⟨_, rfl, ?_⟩))
   go_ret
   exact ⟨by first | rfl | (simp; done) | (simp [*]; done), by repeat (first | exact Drawn0.refl _ | apply Drawn0.step)⟩
 replace c5 := Bool.eq_false_iff.mpr c5
 subst c5
 have H1 : (if t101 = true then (some 1) else (if a0 < a1 then (some (-1)) else (if a0 > a1 then (some 1) else (some 0)))) = some r := by rw [if_neg (show ¬ (false = true) by decide)] at H; exact H
 clear H
 have H := H1
 clear H1
 by_cases c7 : t101 = true
 · subst c7
   have H1 : (some 1) = some r := by rw [if_pos rfl] at H; exact H
   clear H
   have H := H1
   clear H1
   obtain rfl := Option.some.inj H
   go_enter Try.func91, Try.ntmps91
   go_wp2_with (first | ((with_reducible refine gate_callee (f := 93) rfl ?_); refine goesL_ (some 8) rfl rfl Try.func93 (by kernel_rfl) rfl #[.int .i64 a0] rfl qm ?_; (with_reducible refine (cmp_isNaN_int.calls a0 false _ A3.out).mono ?_); rintro e w' ⟨rfl, ⟨nd, rfl⟩⟩; refine ⟨_, rfl, ?_⟩) | ((with_reducible refine gate_callee (f := 93) rfl ?_); refine goesL_ (some 10) rfl rfl Try.func93 (by kernel_rfl) rfl #[.int .i64 a1] rfl qm ?_; (with_reducible refine (cmp_isNaN_int.calls a1 true _ A4.out).mono ?_); rintro e w' ⟨rfl, ⟨nd, rfl⟩⟩; refine ⟨_, rfl, ?_⟩))
   go_ret
   exact ⟨by first | rfl | (simp; done) | (simp [*]; done), by repeat (first | exact Drawn0.refl _ | apply Drawn0.step)⟩
 replace c7 := Bool.eq_false_iff.mpr c7
 subst c7
 have H1 : (if a0 < a1 then (some (-1)) else (if a0 > a1 then (some 1) else (some 0))) = some r := by rw [if_neg (show ¬ (false = true) by decide)] at H; exact H
 clear H
 have H := H1
 clear H1
 by_cases c8 : a0 < a1
 · rw [if_pos c8] at H
   have c8b0 : decide (a0 < a1) = true := decide_eq_true c8
   clear c8
   obtain rfl := Option.some.inj H
   go_enter Try.func91, Try.ntmps91
   go_wp2_with (first | ((with_reducible refine gate_callee (f := 93) rfl ?_); refine goesL_ (some 8) rfl rfl Try.func93 (by kernel_rfl) rfl #[.int .i64 a0] rfl qm ?_; (with_reducible refine (cmp_isNaN_int.calls a0 false _ A3.out).mono ?_); rintro e w' ⟨rfl, ⟨nd, rfl⟩⟩; refine ⟨_, rfl, ?_⟩) | ((with_reducible refine gate_callee (f := 93) rfl ?_); refine goesL_ (some 10) rfl rfl Try.func93 (by kernel_rfl) rfl #[.int .i64 a1] rfl qm ?_; (with_reducible refine (cmp_isNaN_int.calls a1 false _ A4.out).mono ?_); rintro e w' ⟨rfl, ⟨nd, rfl⟩⟩; refine ⟨_, rfl, ?_⟩))
   go_ret
   exact ⟨by first | rfl | (simp; done) | (simp [*]; done), by repeat (first | exact Drawn0.refl _ | apply Drawn0.step)⟩
 rw [if_neg c8] at H
 have c8b0 : decide (a0 < a1) = false := decide_eq_false c8
 clear c8
 by_cases c9 : a0 > a1
 · rw [if_pos c9] at H
   have c9b0 : decide (a1 < a0) = true := decide_eq_true c9
   clear c9
   obtain rfl := Option.some.inj H
   go_enter Try.func91, Try.ntmps91
   go_wp2_with (first | ((with_reducible refine gate_callee (f := 93) rfl ?_); refine goesL_ (some 8) rfl rfl Try.func93 (by kernel_rfl) rfl #[.int .i64 a0] rfl qm ?_; (with_reducible refine (cmp_isNaN_int.calls a0 false _ A3.out).mono ?_); rintro e w' ⟨rfl, ⟨nd, rfl⟩⟩; refine ⟨_, rfl, ?_⟩) | ((with_reducible refine gate_callee (f := 93) rfl ?_); refine goesL_ (some 10) rfl rfl Try.func93 (by kernel_rfl) rfl #[.int .i64 a1] rfl qm ?_; (with_reducible refine (cmp_isNaN_int.calls a1 false _ A4.out).mono ?_); rintro e w' ⟨rfl, ⟨nd, rfl⟩⟩; refine ⟨_, rfl, ?_⟩))
   go_ret
   exact ⟨by first | rfl | (simp; done) | (simp [*]; done), by repeat (first | exact Drawn0.refl _ | apply Drawn0.step)⟩
 rw [if_neg c9] at H
 have c9b0 : decide (a1 < a0) = false := decide_eq_false c9
 clear c9
 obtain rfl := Option.some.inj H
 go_enter Try.func91, Try.ntmps91
 go_wp2_with (first | ((with_reducible refine gate_callee (f := 93) rfl ?_); refine goesL_ (some 8) rfl rfl Try.func93 (by kernel_rfl) rfl #[.int .i64 a0] rfl qm ?_; (with_reducible refine (cmp_isNaN_int.calls a0 false _ A3.out).mono ?_); rintro e w' ⟨rfl, ⟨nd, rfl⟩⟩; refine ⟨_, rfl, ?_⟩) | ((with_reducible refine gate_callee (f := 93) rfl ?_); refine goesL_ (some 10) rfl rfl Try.func93 (by kernel_rfl) rfl #[.int .i64 a1] rfl qm ?_; (with_reducible refine (cmp_isNaN_int.calls a1 false _ A4.out).mono ?_); rintro e w' ⟨rfl, ⟨nd, rfl⟩⟩; refine ⟨_, rfl, ?_⟩))
 go_ret
 exact ⟨by first | rfl | (simp; done) | (simp [*]; done), by repeat (first | exact Drawn0.refl _ | apply Drawn0.step)⟩

def impl_tieOrder.T1 : Bool × List (List Nat × List Nat) := (true, [([], []), ([0], [0]), ([], []), ([2], [2]), ([1, 3], [1, 3]), ([], []), ([5], [5]), ([], []), ([7], [7]), ([6, 8, 4], [6, 8]), ([4, 9], [4, 9]), ([10, 9], [10]), ([11, 11, 0, 1, 2, 3, 4, 5, 6, 7, 8, 9, 10, 11], [11])])
def impl_tieOrder.B1 : List Nat := [0, 1, 0, 4, 15, 0, 32, 0, 128, 511, 1023, 2047, 4095]
theorem impl_tieOrder.tab1 : rtab .any (opsOf Try.f84 1) = impl_tieOrder.T1 := by kernel_rfl
theorem impl_tieOrder.bits1 : waitsOk impl_tieOrder.T1.2 impl_tieOrder.B1 = true := by kernel_rfl
set_option maxHeartbeats 8000000 in
set_option maxRecDepth 100000 in
theorem impl_tieOrder.calls (k : Nat) (a0_0 : Int) (a0_1 : Int) (a1_0 : Int) (a1_1 : Int) (r : Int) (w : World) (h : impl_tieOrder.f k a0_0 a0_1 a1_0 a1_1 = some r) :
    Calls Try.prog 84 #[.agg #[.int .i64 a0_0, .int .i64 a0_1], .agg #[.int .i64 a1_0, .int .i64 a1_1]] w fun e w' => e = .returned (.int .i64 r) ∧ Below w.heap.size w w' := by
 have hu44 := Try.underlying44
 have HB := q0 (Below.refl w.heap.size w)
 have H : ((cmp_Compare_int.f a0_0 a1_0).bind fun t100 => ((cmp_Compare_int.f a0_1 a1_1).bind fun t101 => ((cmp_Or_int.f k (([t100, t101] : List Int))).bind fun t102 => (some t102)))) = some r := h
 clear h
 replace H := Option.bind_eq_some_iff.mp H
 obtain ⟨t100, A30, H⟩ := H
 replace H : ((cmp_Compare_int.f a0_1 a1_1).bind fun t101 => ((cmp_Or_int.f k (([t100, t101] : List Int))).bind fun t102 => (some t102))) = some r := H
 have A3 := Aside0.mk A30
 clear A30
 replace H := Option.bind_eq_some_iff.mp H
 obtain ⟨t101, A40, H⟩ := H
 replace H : ((cmp_Or_int.f k (([t100, t101] : List Int))).bind fun t102 => (some t102)) = some r := H
 have A4 := Aside0.mk A40
 clear A40
 obtain ⟨y103, hy103⟩ : ∃ y_ : List Int, y_ = (([t100, t101] : List Int)) := ⟨_, rfl⟩
 replace H : ((cmp_Or_int.f k y103).bind fun t102 => (some t102)) = some r := by first | (rw [hy103]; with_reducible exact H) | (have H2_ := (Option.bind_some _ _).symm.trans H; rw [hy103]; with_reducible exact H2_) | (have H2_ := (Option.bind_some _ _).symm.trans H; with_reducible exact H2_) | with_reducible exact H | (rw [hy103]; exact H) | exact H
 have Ny103 := Aside0.mk hy103
 clear hy103
 replace H := Option.bind_eq_some_iff.mp H
 obtain ⟨t102, A50, H⟩ := H
 replace H : (some t102) = some r := H
 have A5 := Aside0.mk A50
 clear A50
 obtain rfl := Option.some.inj H
 go_enter Try.func84, Try.ntmps84
 try go_wp2_with (first | ((with_reducible refine gate_dst (N := 2) rfl ?_); refine be 2 #[.int .i64 a0_0, .int .i64 a0_1] 44 ?_; intro gb104 hg w6 hbox hb; have n0_ := q0 (below_step (qb HB.out) hb); have n1_ := q0 (hbox); have n2_ := q0 ((bs HB.out hg : w.heap.size ≤ gb104)); have n3_ := q0 ((bs HB.out hg : w.heap.size ≤ gb104)); clear HB; have HB := n0_; have BK104 := n1_; have GW104 := n2_; have GE104 := n3_; clear n0_ n1_ n2_ n3_ hb hbox hg) | ((with_reducible refine gate_dst (N := 3) rfl ?_); refine be 3 #[.int .i64 a1_0, .int .i64 a1_1] 44 ?_; intro gb105 hg w7 hbox hb; have n0_ := q0 (kb BK104.out hb); have n1_ := q0 (below_step (qb HB.out) hb); have n2_ := q0 (hbox); have n3_ := q0 ((bs HB.out hg : w.heap.size ≤ gb105)); have n4_ := q0 ((bs HB.out hg : w.heap.size ≤ gb105)); have n5_ := q0 ((bl BK104.out hg : gb104 ≠ gb105)); have n6_ := q0 ((bg BK104.out hg : gb105 ≠ gb104)); clear BK104 HB; have BK104 := n0_; have HB := n1_; have BK105 := n2_; have GW105 := n3_; have GE105 := n4_; have NB104_105 := n5_; have NB105_104 := n6_; clear n0_ n1_ n2_ n3_ n4_ n5_ n6_ hb hbox hg))
 have n0_ := q0 (blk_drew BK104.out)
 have n1_ := q0 (blk_drew BK105.out)
 have n2_ := q0 (below_drew1 HB.out)
 clear BK104
 clear BK105
 clear HB
 have BK104 := n0_
 have BK105 := n1_
 have HB := n2_
 clear n0_ n1_ n2_
 refine start_ (n := 13) (S := fun w' => w'.cell? ⟨gb104, 0, none⟩ = some (.int .i64 a0_0) ∧ w'.cell? ⟨gb104, 1, none⟩ = some (.int .i64 a0_1) ∧ w'.cell? ⟨gb105, 0, none⟩ = some (.int .i64 a1_0) ∧ w'.cell? ⟨gb105, 1, none⟩ = some (.int .i64 a1_1)) (ds := []) (ba 13 0) (by kernel_rfl) rfl (by kernel_rfl) ⟨(blk_cell BK104.out 0).trans rfl, (blk_cell BK104.out 1).trans rfl, (blk_cell BK105.out 0).trans rfl, (blk_cell BK105.out 1).trans rfl⟩ (fun hHeld => ?_); refine with_tabW impl_tieOrder.tab1 impl_tieOrder.bits1 (fun HT_ HW_ => ?_)
 generalize w7.drew = w8 at BK104 BK105 HB hHeld ⊢
 refine pu 0 (some 5) (ba 13 1) HT_.out ?_
 refine pu 2 (some 7) (ba 13 5) HT_.out ?_
 refine pu 5 (some 10) (ba 13 37) HT_.out ?_
 refine pu 7 (some 12) (ba 13 165) HT_.out ?_
 refine tu 1 (some 6) (ba 13 167) HT_.out HW_.out hHeld ?_
 refine tu 3 (some 8) (ba 13 175) HT_.out HW_.out hHeld ?_
 refine tu 6 (some 11) (ba 13 239) HT_.out HW_.out hHeld ?_
 refine tu 8 (some 13) (ba 13 495) HT_.out HW_.out hHeld ?_
 refine one_ (i := 4) (N := some 9) (ba 13 511) rfl rfl (one_of HT_.out (by kernel_rfl)) (by decide) (fun K hK => ?_)
 refine goes_ Try.func91 (by kernel_rfl) rfl #[.int .i64 a0_0, .int .i64 a1_0] (by rfl) rfl rfl qm ?_
 with_reducible refine (cmp_Compare_int.calls a0_0 a1_0 t100 _ A3.out).mono ?_
 rintro e w' ⟨rfl, ⟨nd, rfl⟩⟩
 refine ⟨_, rfl, ?_⟩
 refine hK.out _ _ ⟨(blk_cell BK104.out 0).trans rfl, (blk_cell BK104.out 1).trans rfl, (blk_cell BK105.out 0).trans rfl, (blk_cell BK105.out 1).trans rfl⟩ (fun hHeld => ?_)
 clear hK K
 refine nu 9 ?_
 refine one_ (i := 9) (N := some 14) (ba 13 1023) rfl rfl (one_of HT_.out (by kernel_rfl)) (by decide) (fun K hK => ?_)
 refine goes_ Try.func91 (by kernel_rfl) rfl #[.int .i64 a0_1, .int .i64 a1_1] (by rfl) rfl rfl qm ?_
 with_reducible refine (cmp_Compare_int.calls a0_1 a1_1 t101 _ A4.out).mono ?_
 rintro e w' ⟨rfl, ⟨nd, rfl⟩⟩
 refine ⟨_, rfl, ?_⟩
 refine hK.out _ _ ⟨(blk_cell BK104.out 0).trans rfl, (blk_cell BK104.out 1).trans rfl, (blk_cell BK105.out 0).trans rfl, (blk_cell BK105.out 1).trans rfl⟩ (fun hHeld => ?_)
 clear hK K
 refine nu 14 ?_
 refine one_ (i := 10) (N := some 15) (ba 13 2047) rfl rfl (one_of HT_.out (by kernel_rfl)) (by decide) (fun K hK => ?_)
 refine Kd.R_lit_step (Kd.int .i64) _ 3 ?hg (N := 15) ?hd (xs := ([t100, t101] : List Int)) (inner := [.int .i64 t100, .int .i64 t101]) (ok := fun _ => True) (okp := fun _ => True) ?hr ?hp (fun _ hk => hk) trivial (Below.refl _ _) (Nat.le_refl _) (by simp) ?_; (case hd => rfl); (case hg => rfl); (case hr => first | (go_simp; done) | (go_simp; rfl)); (case hp => exact (Reps.one (show Kd.M (Kd.int .i64) _ _ _ t100 [.int .i64 t100] from rfl) (Reps.one (show Kd.M (Kd.int .i64) _ _ _ t101 [.int .i64 t101] from rfl) (Reps.none _ _))))
 intro v106 w9 ho10 hb hg_ hnew_
 clear hg_ hnew_
 (first | rw [← Ny103.out] at ho10 | (simp only [Int.reduceToNat] at ho10; rw [← Ny103.out] at ho10))
 have n0_ := q0 (Kd.R_lower ho10 (below_size (qb HB.out)))
 have n1_ := q0 (kb BK104.out hb)
 have n2_ := q0 (kb BK105.out hb)
 have n3_ := q0 (below_step (qb HB.out) hb)
 clear BK104
 clear BK105
 clear HB
 have HO107 := n0_
 have BK104 := n1_
 have BK105 := n2_
 have HB := n3_
 clear n0_ n1_ n2_ n3_
 clear hb ho10
 obtain ⟨Ao11, co11, eo11⟩ := Kd.R_slice HO107.out
 (first | subst eo11 | (injection eo11 with f1_ f2_ f3_; have f4_ := f1_.symm; have f5_ := f3_.symm; clear f1_ f2_ f3_; subst f4_; subst f5_))
 refine hK.out _ _ ⟨(blk_cell BK104.out 0).trans rfl, (blk_cell BK104.out 1).trans rfl, (blk_cell BK105.out 0).trans rfl, (blk_cell BK105.out 1).trans rfl⟩ (fun hHeld => ?_)
 clear hK K
 refine nu 15 ?_
 refine one_ (i := 11) (N := some 16) (ba 13 4095) rfl rfl (one_of HT_.out (by kernel_rfl)) (by decide) (fun K hK => ?_)
 refine goes_ Try.func90 (by kernel_rfl) rfl #[.slice Ao11 y103.length co11] (by rfl) rfl rfl qm ?_
 with_reducible refine (cmp_Or_int.calls k _ _ y103 t102 _ ?side1 ?side2 A5.out).mono ?_
 (case side1 => exact qc (Kd.R_reads' HO107.out).2.2)
 (case side2 => exact (Kd.R_reads' HO107.out).2.1)
 rintro e w' ⟨rfl, ⟨nd, rfl⟩⟩
 refine ⟨_, rfl, ?_⟩
 refine hK.out _ _ ⟨(blk_cell BK104.out 0).trans rfl, (blk_cell BK104.out 1).trans rfl, (blk_cell BK105.out 0).trans rfl, (blk_cell BK105.out 1).trans rfl⟩ (fun hHeld => ?_)
 clear hK K
 refine nu 16 ?_
 refine pu 12 (some 4) (ba 13 8191) HT_.out ?_
 refine done_ (done_of HT_.out (by kernel_rfl)) ?_
 try go_wp2
 go_ret
 exact ⟨qe, qb HB.out⟩

def impl_ascending.T4 : Bool × List (List Nat × List Nat) := (true, [([], []), ([], []), ([1], [1]), ([0, 2], [0, 2]), ([3], [3]), ([], []), ([], []), ([5, 6], [5, 6]), ([7], [7]), ([4, 8], [4, 8]), ([9], [9])])
def impl_ascending.B4 : List Nat := [0, 0, 2, 7, 15, 0, 0, 96, 224, 511, 1023]
theorem impl_ascending.tab4 : rtab .any (opsOf Try.f68 4) = impl_ascending.T4 := by kernel_rfl
theorem impl_ascending.bits4 : waitsOk impl_ascending.T4.2 impl_ascending.B4 = true := by kernel_rfl
set_option maxHeartbeats 8000000 in
set_option maxRecDepth 100000 in
theorem impl_ascending.calls (k : Nat) (A0 : Option Addr) (c0 : Nat) (l0 : List (STie)) (r : Bool) (w : World) (hr0 : Kd.C kTie w A0 l0.length l0) (hc0 : l0.length ≤ c0) (h : impl_ascending.f k l0 = some r) :
    Calls Try.prog 68 #[.slice A0 l0.length c0] w fun e w' => e = .returned (.bool r) ∧ Below w.heap.size w w' := by
 have hu44 := Try.underlying44
 have HR0 := Aside0.mk hr0
 have HC0 := Aside0.mk hc0
 clear hr0 hc0
 have HB := q0 (Below.refl w.heap.size w)
 have H : (impl_ascending.l0 k l0 1) = some r := h
 clear h
 have H' := Aside0.mk H
 clear H
 go_enter Try.func68, Try.ntmps68
 go_wp2
 go_loopg [3] k (fun kq v3 w' => ∃ (x3_1 : Int), v3 = .int .i64 x3_1 ∧ Aside0 (impl_ascending.l0 kq l0 x3_1 = some r) ∧ Aside0 (kq ≤ k) ∧ Aside0 (Below w.heap.size w w'))
 case atStart => exact ⟨(1), qs, H', ⟨Nat.le_refl _⟩, ⟨qb HB.out⟩⟩
 clear H'
 obtain ⟨x3_1, rfl, HA, HK1, HB⟩ := hrel
 rcases gk with _ | k1
 · exact absurd HA.out (by simp [impl_ascending.l0])
 have H := HA.out
 clear HA
 simp only [impl_ascending.l0] at H
 by_cases c2 : x3_1 < (l0.length : Int)
 rotate_left
 · rw [if_neg c2] at H
   have c2b0 : decide (x3_1 < (l0.length : Int)) = false := decide_eq_false c2
   clear c2
   obtain rfl := Option.some.inj H
   go_wp2
   go_ret
   exact ⟨qe, qb HB.out⟩
 rw [if_pos c2] at H
 have c2b0 : decide (x3_1 < (l0.length : Int)) = true := decide_eq_true c2
 clear c2
 obtain ⟨ji3, hji3⟩ : ∃ j_ : Int, (wrap64 (x3_1 - 1)) = j_ := ⟨_, rfl⟩
 replace H : (if 0 ≤ (ji3) then (if (ji3) < (l0.length : Int) then (if 0 ≤ x3_1 then ((impl_tieOrder.f k1 ((rd_TTie l0 (ji3)).f0) ((rd_TTie l0 (ji3)).f1) ((rd_TTie l0 x3_1).f0) ((rd_TTie l0 x3_1).f1)).bind fun t100 => (if t100 ≥ 0 then (some false) else (impl_ascending.l0 k1 l0 (wrap64 (x3_1 + 1))))) else (none)) else (none)) else (none)) = some r := by first | (rw [hji3] at H; exact H) | (simp only [hji3] at H ⊢; exact H)
 have hji3w : (IntKind.i64.wrap (x3_1 - 1)) = ji3 := (i64_w _).trans hji3
 by_cases c4 : 0 ≤ (ji3)
 rotate_left
 · rw [if_neg c4] at H
   exact absurd H (by simp)
 rw [if_pos c4] at H
 have c4b0 : decide (0 ≤ (ji3)) = true := decide_eq_true c4
 clear c4
 by_cases c5 : (ji3) < (l0.length : Int)
 rotate_left
 · rw [if_neg c5] at H
   exact absurd H (by simp)
 rw [if_pos c5] at H
 have c5b0 : decide ((ji3) < (l0.length : Int)) = true := decide_eq_true c5
 clear c5
 by_cases c6 : 0 ≤ x3_1
 rotate_left
 · rw [if_neg c6] at H
   exact absurd H (by simp)
 rw [if_pos c6] at H
 have c6b0 : decide (0 ≤ x3_1) = true := decide_eq_true c6
 clear c6
 replace H := Option.bind_eq_some_iff.mp H
 obtain ⟨t100, A70, H⟩ := H
 replace H : (if t100 ≥ 0 then (some false) else (impl_ascending.l0 k1 l0 (wrap64 (x3_1 + 1)))) = some r := H
 have A7 := Aside0.mk A70
 clear A70
 by_cases c8 : t100 ≥ 0
 · rw [if_pos c8] at H
   have c8b0 : decide (0 ≤ t100) = true := decide_eq_true c8
   clear c8
   obtain rfl := Option.some.inj H
   try go_wp2
   have n0_ := q0 (below_drew1 HB.out)
   clear HB
   have HB := n0_
   clear n0_
   have p101 : 0 ≤ ((ji3) : Int) := of_decide_eq_true qa
   have q101 : (ji3) < (l0.length : Int) := of_decide_eq_true qa
   obtain ⟨ad101, e101, hx101_0, hx101_1⟩ := at_TTie HR0.out (ji3) p101 q101
   have hw101_1 := hx101_1
   have hw101_0 := hx101_0
   cases e101
   replace hx101_0 := (HB.out.cell (World.block_lt_of_cell? w _ hx101_0)).trans hx101_0
   replace hx101_1 := (HB.out.cell (World.block_lt_of_cell? w _ hx101_1)).trans hx101_1
   replace p101 := eq_true p101
   replace q101 := eq_true q101
   have p102 : 0 ≤ (x3_1 : Int) := of_decide_eq_true qa
   have q102 : x3_1 < (l0.length : Int) := of_decide_eq_true qa
   obtain ⟨ad102, e102, hx102_0, hx102_1⟩ := at_TTie HR0.out x3_1 p102 q102
   have hw102_1 := hx102_1
   have hw102_0 := hx102_0
   obtain rfl : ad101 = ad102 := (by injection e102)
   replace hx102_0 := (HB.out.cell (World.block_lt_of_cell? w _ hx102_0)).trans hx102_0
   replace hx102_1 := (HB.out.cell (World.block_lt_of_cell? w _ hx102_1)).trans hx102_1
   replace p102 := eq_true p102
   replace q102 := eq_true q102
   refine start_ (n := 11) (S := fun w' => w'.cell? (ad101.add (((ji3)).toNat * 2)) = some (.int .i64 ((rd_TTie l0 (ji3)).f0)) ∧ w'.cell? ⟨(ad101.add (((ji3)).toNat * 2)).block, (ad101.add (((ji3)).toNat * 2)).off + 1, none⟩ = some (.int .i64 ((rd_TTie l0 (ji3)).f1)) ∧ w'.cell? (ad101.add ((x3_1).toNat * 2)) = some (.int .i64 ((rd_TTie l0 x3_1).f0)) ∧ w'.cell? ⟨(ad101.add ((x3_1).toNat * 2)).block, (ad101.add ((x3_1).toNat * 2)).off + 1, none⟩ = some (.int .i64 ((rd_TTie l0 x3_1).f1))) (ds := []) (ba 11 0) (by kernel_rfl) rfl (by kernel_rfl) ⟨((HB.out.cell (World.block_lt_of_cell? w _ hw101_0)).trans hw101_0), ((HB.out.cell (World.block_lt_of_cell? w _ hw101_1)).trans hw101_1), ((HB.out.cell (World.block_lt_of_cell? w _ hw102_0)).trans hw102_0), ((HB.out.cell (World.block_lt_of_cell? w _ hw102_1)).trans hw102_1)⟩ (fun hHeld => ?_); refine with_tabW impl_ascending.tab4 impl_ascending.bits4 (fun HT_ HW_ => ?_)
   generalize wr.drew = w9 at HB hx101_0 hx101_1 hx102_0 hx102_1 hHeld ⊢
   refine pu 0 (some 10) (ba 11 1) HT_.out ?_
   refine pu 1 (some 11) (ba 11 3) HT_.out ?_
   refine pu 2 (some 12) (ba 11 7) HT_.out ?_
   refine pu 3 (some 13) (ba 11 15) HT_.out ?_
   refine pu 5 (some 15) (ba 11 47) HT_.out ?_
   refine pu 6 (some 16) (ba 11 111) HT_.out ?_
   refine pu 7 (some 17) (ba 11 239) HT_.out ?_
   refine tu 4 (some 14) (ba 11 255) HT_.out HW_.out hHeld ?_
   refine tu 8 (some 18) (ba 11 511) HT_.out HW_.out hHeld ?_
   refine one_ (i := 9) (N := some 19) (ba 11 1023) rfl rfl (one_of HT_.out (by kernel_rfl)) (by decide) (fun K hK => ?_)
   refine goes_ Try.func84 (by kernel_rfl) rfl #[.agg #[.int .i64 ((rd_TTie l0 (ji3)).f0), .int .i64 ((rd_TTie l0 (ji3)).f1)], .agg #[.int .i64 ((rd_TTie l0 x3_1).f0), .int .i64 ((rd_TTie l0 x3_1).f1)]] (by rfl) rfl rfl (by (try simp only [List.map_toArray, List.map_cons, List.map_nil]); first | done | (simp only [hji3]; rfl) | rfl | (simp only [List.length_drop, List.length_take]; rfl)) ?_
   with_reducible refine (impl_tieOrder.calls k1 ((rd_TTie l0 (ji3)).f0) ((rd_TTie l0 (ji3)).f1) ((rd_TTie l0 x3_1).f0) ((rd_TTie l0 x3_1).f1) t100 _ A7.out).mono ?_
   rintro e w10 ⟨rfl, hb⟩
   refine ⟨_, rfl, ?_⟩
   have n0_ := q0 (below_step (qb HB.out) hb)
   clear HB
   have HB := n0_
   clear n0_
   (try clear hb)
   (try clear hb2)
   (try clear hk)
   (try clear hi)
   refine hK.out _ _ ⟨((HB.out.cell (World.block_lt_of_cell? w _ hw101_0)).trans hw101_0), ((HB.out.cell (World.block_lt_of_cell? w _ hw101_1)).trans hw101_1), ((HB.out.cell (World.block_lt_of_cell? w _ hw102_0)).trans hw102_0), ((HB.out.cell (World.block_lt_of_cell? w _ hw102_1)).trans hw102_1)⟩ (fun hHeld => ?_)
   clear hK K
   refine nu 19 ?_
   refine pu 10 (some 20) (ba 11 2047) HT_.out ?_
   refine done_ (done_of HT_.out (by kernel_rfl)) ?_
   try go_wp2
   go_ret
   exact ⟨by first | rfl | (simp [errW_none, errW_some] <;> rfl) | (simp only [← hji3]; first | rfl | (simp [errW_none, errW_some] <;> rfl)) | (simp [*, errW_none, errW_some] <;> rfl), qb HB.out⟩
 rw [if_neg c8] at H
 have c8b0 : decide (0 ≤ t100) = false := decide_eq_false c8
 clear c8
 have H' := Aside0.mk H
 clear H
 try go_wp2
 have n0_ := q0 (below_drew1 HB.out)
 clear HB
 have HB := n0_
 clear n0_
 have p101 : 0 ≤ ((ji3) : Int) := of_decide_eq_true qa
 have q101 : (ji3) < (l0.length : Int) := of_decide_eq_true qa
 obtain ⟨ad101, e101, hx101_0, hx101_1⟩ := at_TTie HR0.out (ji3) p101 q101
 have hw101_1 := hx101_1
 have hw101_0 := hx101_0
 cases e101
 replace hx101_0 := (HB.out.cell (World.block_lt_of_cell? w _ hx101_0)).trans hx101_0
 replace hx101_1 := (HB.out.cell (World.block_lt_of_cell? w _ hx101_1)).trans hx101_1
 replace p101 := eq_true p101
 replace q101 := eq_true q101
 have p102 : 0 ≤ (x3_1 : Int) := of_decide_eq_true qa
 have q102 : x3_1 < (l0.length : Int) := of_decide_eq_true qa
 obtain ⟨ad102, e102, hx102_0, hx102_1⟩ := at_TTie HR0.out x3_1 p102 q102
 have hw102_1 := hx102_1
 have hw102_0 := hx102_0
 obtain rfl : ad101 = ad102 := (by injection e102)
 replace hx102_0 := (HB.out.cell (World.block_lt_of_cell? w _ hx102_0)).trans hx102_0
 replace hx102_1 := (HB.out.cell (World.block_lt_of_cell? w _ hx102_1)).trans hx102_1
 replace p102 := eq_true p102
 replace q102 := eq_true q102
 refine start_ (n := 11) (S := fun w' => w'.cell? (ad101.add (((ji3)).toNat * 2)) = some (.int .i64 ((rd_TTie l0 (ji3)).f0)) ∧ w'.cell? ⟨(ad101.add (((ji3)).toNat * 2)).block, (ad101.add (((ji3)).toNat * 2)).off + 1, none⟩ = some (.int .i64 ((rd_TTie l0 (ji3)).f1)) ∧ w'.cell? (ad101.add ((x3_1).toNat * 2)) = some (.int .i64 ((rd_TTie l0 x3_1).f0)) ∧ w'.cell? ⟨(ad101.add ((x3_1).toNat * 2)).block, (ad101.add ((x3_1).toNat * 2)).off + 1, none⟩ = some (.int .i64 ((rd_TTie l0 x3_1).f1))) (ds := []) (ba 11 0) (by kernel_rfl) rfl (by kernel_rfl) ⟨((HB.out.cell (World.block_lt_of_cell? w _ hw101_0)).trans hw101_0), ((HB.out.cell (World.block_lt_of_cell? w _ hw101_1)).trans hw101_1), ((HB.out.cell (World.block_lt_of_cell? w _ hw102_0)).trans hw102_0), ((HB.out.cell (World.block_lt_of_cell? w _ hw102_1)).trans hw102_1)⟩ (fun hHeld => ?_); refine with_tabW impl_ascending.tab4 impl_ascending.bits4 (fun HT_ HW_ => ?_)
 generalize wr.drew = w11 at HB hx101_0 hx101_1 hx102_0 hx102_1 hHeld ⊢
 refine pu 0 (some 10) (ba 11 1) HT_.out ?_
 refine pu 1 (some 11) (ba 11 3) HT_.out ?_
 refine pu 2 (some 12) (ba 11 7) HT_.out ?_
 refine pu 3 (some 13) (ba 11 15) HT_.out ?_
 refine pu 5 (some 15) (ba 11 47) HT_.out ?_
 refine pu 6 (some 16) (ba 11 111) HT_.out ?_
 refine pu 7 (some 17) (ba 11 239) HT_.out ?_
 refine tu 4 (some 14) (ba 11 255) HT_.out HW_.out hHeld ?_
 refine tu 8 (some 18) (ba 11 511) HT_.out HW_.out hHeld ?_
 refine one_ (i := 9) (N := some 19) (ba 11 1023) rfl rfl (one_of HT_.out (by kernel_rfl)) (by decide) (fun K hK => ?_)
 refine goes_ Try.func84 (by kernel_rfl) rfl #[.agg #[.int .i64 ((rd_TTie l0 (ji3)).f0), .int .i64 ((rd_TTie l0 (ji3)).f1)], .agg #[.int .i64 ((rd_TTie l0 x3_1).f0), .int .i64 ((rd_TTie l0 x3_1).f1)]] (by rfl) rfl rfl (by (try simp only [List.map_toArray, List.map_cons, List.map_nil]); first | done | (simp only [hji3]; rfl) | rfl | (simp only [List.length_drop, List.length_take]; rfl)) ?_
 with_reducible refine (impl_tieOrder.calls k1 ((rd_TTie l0 (ji3)).f0) ((rd_TTie l0 (ji3)).f1) ((rd_TTie l0 x3_1).f0) ((rd_TTie l0 x3_1).f1) t100 _ A7.out).mono ?_
 rintro e w12 ⟨rfl, hb⟩
 refine ⟨_, rfl, ?_⟩
 have n0_ := q0 (below_step (qb HB.out) hb)
 clear HB
 have HB := n0_
 clear n0_
 (try clear hb)
 (try clear hb2)
 (try clear hk)
 (try clear hi)
 refine hK.out _ _ ⟨((HB.out.cell (World.block_lt_of_cell? w _ hw101_0)).trans hw101_0), ((HB.out.cell (World.block_lt_of_cell? w _ hw101_1)).trans hw101_1), ((HB.out.cell (World.block_lt_of_cell? w _ hw102_0)).trans hw102_0), ((HB.out.cell (World.block_lt_of_cell? w _ hw102_1)).trans hw102_1)⟩ (fun hHeld => ?_)
 clear hK K
 refine nu 19 ?_
 refine pu 10 (some 20) (ba 11 2047) HT_.out ?_
 refine done_ (done_of HT_.out (by kernel_rfl)) ?_
 try go_wp2
 go_roundg k1
 case measure => have := HK1.out; omega
 case rel => exact ⟨(wrap64 (x3_1 + 1)), qs, H', ⟨by have := HK1.out; omega⟩, ⟨qb HB.out⟩⟩

set_option maxHeartbeats 8000000 in
set_option maxRecDepth 100000 in
theorem impl_NetOk.calls (k : Nat) (a0_0 : Int) (A0_1 : Option Addr) (c0_1 : Nat) (l0_1 : List (STie)) (r : Bool) (w : World) (hr0_1 : Kd.C kTie w A0_1 l0_1.length l0_1) (hc0_1 : l0_1.length ≤ c0_1) (h : impl_NetOk.f k a0_0 l0_1 = some r) :
    Calls Try.prog 38 #[.agg #[.int .i64 a0_0, .slice A0_1 l0_1.length c0_1]] w fun e w' => e = .returned (.bool r) ∧ Below w.heap.size w w' := by
 have hu30 := Try.underlying30
 have hu44 := Try.underlying44
 have HR0_1 := Aside0.mk hr0_1
 have HC0_1 := Aside0.mk hc0_1
 clear hr0_1 hc0_1
 have HB := q0 (Below.refl w.heap.size w)
 have H : (if a0_0 < 0 then (impl_NetOk.j0 k true a0_0 l0_1) else (impl_NetOk.j0 k (decide (a0_0 > 8)) a0_0 l0_1)) = some r := h
 clear h
 have HC2 := Aside0.mk H
 clear H
 go_enter Try.func38, Try.ntmps38
 go_upto_region 1 with (first | ((with_reducible refine gate_dst (N := 1) rfl ?_); refine be 1 #[.int .i64 a0_0, .slice A0_1 l0_1.length c0_1] 30 ?_; intro gb102 hg w3 hbox hb; have n0_ := q0 (below_step (qb HB.out) hb); have n1_ := q0 (hbox); have n2_ := q0 ((bs HB.out hg : w.heap.size ≤ gb102)); have n3_ := q0 ((bs HB.out hg : w.heap.size ≤ gb102)); clear HB; have HB := n0_; have BK102 := n1_; have GW102 := n2_; have GE102 := n3_; clear n0_ n1_ n2_ n3_ hb hbox hg))
 (try simp only [Act.put, List.setIfInBounds_toArray, List.set_cons_zero, List.set_cons_succ])
 go_cut [12] (fun v12 wc => ∃ (kq : Nat) (x12_1 : Bool), v12 = .bool x12_1 ∧ Aside0 (impl_NetOk.j0 kq x12_1 a0_0 l0_1 = some r) ∧ Aside0 (kq ≤ k) ∧ Aside0 (wc.heap[gb102]? = some (.cells #[.int .i64 a0_0, (.slice A0_1 l0_1.length c0_1)] 30 (0, 0))) ∧ Aside0 (Below w.heap.size w wc))
 case first =>
   have H := HC2.out
   clear HC2
   by_cases c4 : a0_0 < 0
   · rw [if_pos c4] at H
     have c4b0 : decide (a0_0 < 0) = true := decide_eq_true c4
     clear c4
     (first | rw [c4b0] | (simp only [i64_w, i32_w]; rw [c4b0]) | skip)
     have H' := Aside0.mk H
     clear H
     have hcz5_0 : w3.cell? ⟨gb102, 0, none⟩ = some (.int .i64 a0_0) := (blk_cell BK102.out 0).trans rfl
     have hcz5_1 : w3.cell? ⟨gb102, 1, none⟩ = some (.slice A0_1 l0_1.length c0_1) := (blk_cell BK102.out 1).trans rfl
     have hfz5_0 := blk_frozen BK102.out 0
     have hfz5_1 := blk_frozen BK102.out 1
     go_wp2
     go_meet
     case rel => exact ⟨_, (true), qs, H', ⟨by first | omega | exact Nat.le_refl _⟩, ⟨qk BK102.out⟩, ⟨qb HB.out⟩⟩
   rw [if_neg c4] at H
   have c4b0 : decide (a0_0 < 0) = false := decide_eq_false c4
   clear c4
   (first | rw [c4b0] | (simp only [i64_w, i32_w]; rw [c4b0]) | skip)
   have H' := Aside0.mk H
   clear H
   have hcz6_0 : w3.cell? ⟨gb102, 0, none⟩ = some (.int .i64 a0_0) := (blk_cell BK102.out 0).trans rfl
   have hcz6_1 : w3.cell? ⟨gb102, 1, none⟩ = some (.slice A0_1 l0_1.length c0_1) := (blk_cell BK102.out 1).trans rfl
   have hfz6_0 := blk_frozen BK102.out 0
   have hfz6_1 := blk_frozen BK102.out 1
   go_wp2
   go_meet
   case rel => exact ⟨_, (decide (a0_0 > 8)), qs, H', ⟨by first | omega | exact Nat.le_refl _⟩, ⟨qk BK102.out⟩, ⟨qb HB.out⟩⟩
 clear HC2
 try clear p2
 try clear c3
 try clear c4
 try clear c4b0
 try clear hcz5_0
 try clear hcz5_1
 try clear hcz6_0
 try clear hcz6_1
 try clear hfz5_0
 try clear hfz5_1
 try clear hfz6_0
 try clear hfz6_1
 obtain ⟨kq, x12_1, rfl, HA, HJ1, BK102, HB⟩ := hcut
 rcases kq with _ | kj1
 · exact absurd HA.out (by simp [impl_NetOk.j0])
 have H := HA.out
 clear HA
 simp only [impl_NetOk.j0] at H
 by_cases c7 : x12_1 = true
 · subst c7
   have H1 : (some false) = some r := by rw [if_pos rfl] at H; exact H
   clear H
   have H := H1
   clear H1
   obtain rfl := Option.some.inj H
   go_wp2
   go_ret
   exact ⟨qe, qb HB.out⟩
 replace c7 := Bool.eq_false_iff.mpr c7
 subst c7
 have H1 : (impl_NetOk.l0 kj1 l0_1 (l0_1.length : Int) 0 a0_0 l0_1) = some r := by rw [if_neg (show ¬ (false = true) by decide)] at H; exact H
 clear H
 have H := H1
 clear H1
 have H' := Aside0.mk H
 clear H
 have hcz8_0 : wc.cell? ⟨gb102, 0, none⟩ = some (.int .i64 a0_0) := (blk_cell BK102.out 0).trans rfl
 have hcz8_1 : wc.cell? ⟨gb102, 1, none⟩ = some (.slice A0_1 l0_1.length c0_1) := (blk_cell BK102.out 1).trans rfl
 have hfz8_0 := blk_frozen BK102.out 0
 have hfz8_1 := blk_frozen BK102.out 1
 go_wp2
 go_loopg [16] kj1 (fun kq v16 w' => ∃ (x16_2 : Int), v16 = .int .i64 x16_2 ∧ Aside0 (impl_NetOk.l0 kq l0_1 (l0_1.length : Int) x16_2 a0_0 l0_1 = some r) ∧ Aside0 (kq ≤ kj1) ∧ Aside0 (w'.heap[gb102]? = some (.cells #[.int .i64 a0_0, (.slice A0_1 l0_1.length c0_1)] 30 (0, 0))) ∧ Aside0 (Below w.heap.size w w'))
 case atStart => exact ⟨(0), qs, H', ⟨Nat.le_refl _⟩, ⟨qk BK102.out⟩, ⟨qb HB.out⟩⟩
 clear H'
 try clear p2
 try clear c3
 try clear c4
 try clear c4b0
 try clear c7
 try clear hcz5_0
 try clear hcz5_1
 try clear hcz6_0
 try clear hcz6_1
 try clear hcz8_0
 try clear hcz8_1
 try clear hfz5_0
 try clear hfz5_1
 try clear hfz6_0
 try clear hfz6_1
 try clear hfz8_0
 try clear hfz8_1
 try clear p2
 obtain ⟨x16_2, rfl, HA, HK2, BK102, HB⟩ := hrel
 rcases gk with _ | k2
 · exact absurd HA.out (by simp [impl_NetOk.l0])
 have H := HA.out
 clear HA
 simp only [impl_NetOk.l0] at H
 by_cases c9 : x16_2 < (l0_1.length : Int)
 rotate_left
 · rw [if_neg c9] at H
   have c9b0 : decide (x16_2 < (l0_1.length : Int)) = false := decide_eq_false c9
   clear c9
   replace H := Option.bind_eq_some_iff.mp H
   obtain ⟨t101, A104, H⟩ := H
   replace H : (some t101) = some r := H
   have A29 := Aside0.mk A104
   clear A104
   obtain rfl := Option.some.inj H
   have hcz30_0 : wr.cell? ⟨gb102, 0, none⟩ = some (.int .i64 a0_0) := (blk_cell BK102.out 0).trans rfl
   have hcz30_1 : wr.cell? ⟨gb102, 1, none⟩ = some (.slice A0_1 l0_1.length c0_1) := (blk_cell BK102.out 1).trans rfl
   have hfz30_0 := blk_frozen BK102.out 0
   have hfz30_1 := blk_frozen BK102.out 1
   go_wp2_with (first | ((with_reducible refine gate_callee (f := 68) rfl ?_); refine goesL_ (some 40) rfl rfl Try.func68 (by kernel_rfl) rfl #[.slice A0_1 l0_1.length c0_1] rfl qm ?_; (with_reducible refine (impl_ascending.calls k2 _ _ l0_1 t101 _ ?side1 ?side2 A29.out).mono ?_); (case side1 => exact qc (Kd.C_below HR0_1.out HB.out)); (case side2 => exact HC0_1.out); rintro e w31 ⟨rfl, hb⟩; refine ⟨_, rfl, ?_⟩; have n0_ := q0 (kb BK102.out hb); have n1_ := q0 (below_step (qb HB.out) hb); clear BK102 HB; have BK102 := n0_; have HB := n1_; clear n0_ n1_; (try clear hb); (try clear hb2); (try clear hk); (try clear hi)))
   go_ret
   exact ⟨qe, qb HB.out⟩
 rw [if_pos c9] at H
 have c9b0 : decide (x16_2 < (l0_1.length : Int)) = true := decide_eq_true c9
 clear c9
 by_cases c10 : 0 ≤ x16_2
 rotate_left
 · rw [if_neg c10] at H
   exact absurd H (by simp)
 rw [if_pos c10] at H
 have c10b0 : decide (0 ≤ x16_2) = true := decide_eq_true c10
 clear c10
 by_cases c11 : x16_2 < (l0_1.length : Int)
 rotate_left
 · rw [if_neg c11] at H
   exact absurd H (by simp)
 rw [if_pos c11] at H
 have c11b0 : decide (x16_2 < (l0_1.length : Int)) = true := decide_eq_true c11
 clear c11
 by_cases c12 : ((rd_TTie l0_1 x16_2).f0) < 0
 · rw [if_pos c12] at H
   have c12b0 : decide (((rd_TTie l0_1 x16_2).f0) < 0) = true := decide_eq_true c12
   clear c12
   obtain rfl := Option.some.inj H
   have p100 : 0 ≤ (x16_2 : Int) := of_decide_eq_true qa
   have q100 : x16_2 < (l0_1.length : Int) := of_decide_eq_true qa
   obtain ⟨ad100, e100, hx100_0, hx100_1⟩ := at_TTie HR0_1.out x16_2 p100 q100
   cases e100
   replace hx100_0 := (HB.out.cell (World.block_lt_of_cell? w _ hx100_0)).trans hx100_0
   replace hx100_1 := (HB.out.cell (World.block_lt_of_cell? w _ hx100_1)).trans hx100_1
   replace p100 := eq_true p100
   replace q100 := eq_true q100
   go_wp2_with (first | ((with_reducible refine gate_dst (N := 4) rfl ?_); refine be 4 #[.int .i64 0, .int .i64 0] 44 ?_; intro gb103 hg w13 hbox hb; have n0_ := q0 (kb BK102.out hb); have n1_ := q0 (below_step (qb HB.out) hb); have n2_ := q0 (hbox); have n3_ := q0 ((bs HB.out hg : w.heap.size ≤ gb103)); have n4_ := q0 ((bs HB.out hg : w.heap.size ≤ gb103)); have n5_ := q0 ((bl BK102.out hg : gb102 ≠ gb103)); have n6_ := q0 ((bg BK102.out hg : gb103 ≠ gb102)); clear BK102 HB; have BK102 := n0_; have HB := n1_; have BK103 := n2_; have GW103 := n3_; have GE103 := n4_; have NB102_103 := n5_; have NB103_102 := n6_; clear n0_ n1_ n2_ n3_ n4_ n5_ n6_ hb hbox hg; have hnb14 := NB103_102.out; have hnc14 := NB102_103.out; have hcz15_0 : w13.cell? ⟨gb103, 0, none⟩ = some (.int .i64 0) := (blk_cell BK103.out 0).trans rfl; have hcz15_1 : w13.cell? ⟨gb103, 1, none⟩ = some (.int .i64 0) := (blk_cell BK103.out 1).trans rfl; have hfz15_0 := blk_frozen BK103.out 0; have hfz15_1 := blk_frozen BK103.out 1))
   go_ret
   exact ⟨qe, qb HB.out⟩
 rw [if_neg c12] at H
 have c12b0 : decide (((rd_TTie l0_1 x16_2).f0) < 0) = false := decide_eq_false c12
 clear c12
 by_cases c16 : ((rd_TTie l0_1 x16_2).f0) ≥ ((rd_TTie l0_1 x16_2).f1)
 · rw [if_pos c16] at H
   have c16b0 : decide (((rd_TTie l0_1 x16_2).f1) ≤ ((rd_TTie l0_1 x16_2).f0)) = true := decide_eq_true c16
   clear c16
   obtain rfl := Option.some.inj H
   have p100 : 0 ≤ (x16_2 : Int) := of_decide_eq_true qa
   have q100 : x16_2 < (l0_1.length : Int) := of_decide_eq_true qa
   obtain ⟨ad100, e100, hx100_0, hx100_1⟩ := at_TTie HR0_1.out x16_2 p100 q100
   cases e100
   replace hx100_0 := (HB.out.cell (World.block_lt_of_cell? w _ hx100_0)).trans hx100_0
   replace hx100_1 := (HB.out.cell (World.block_lt_of_cell? w _ hx100_1)).trans hx100_1
   replace p100 := eq_true p100
   replace q100 := eq_true q100
   go_wp2_with (first | ((with_reducible refine gate_dst (N := 4) rfl ?_); refine be 4 #[.int .i64 0, .int .i64 0] 44 ?_; intro gb103 hg w17 hbox hb; have n0_ := q0 (kb BK102.out hb); have n1_ := q0 (below_step (qb HB.out) hb); have n2_ := q0 (hbox); have n3_ := q0 ((bs HB.out hg : w.heap.size ≤ gb103)); have n4_ := q0 ((bs HB.out hg : w.heap.size ≤ gb103)); have n5_ := q0 ((bl BK102.out hg : gb102 ≠ gb103)); have n6_ := q0 ((bg BK102.out hg : gb103 ≠ gb102)); clear BK102 HB; have BK102 := n0_; have HB := n1_; have BK103 := n2_; have GW103 := n3_; have GE103 := n4_; have NB102_103 := n5_; have NB103_102 := n6_; clear n0_ n1_ n2_ n3_ n4_ n5_ n6_ hb hbox hg; have hnb18 := NB103_102.out; have hnc18 := NB102_103.out; have hcz19_0 : w17.cell? ⟨gb103, 0, none⟩ = some (.int .i64 0) := (blk_cell BK103.out 0).trans rfl; have hcz19_1 : w17.cell? ⟨gb103, 1, none⟩ = some (.int .i64 0) := (blk_cell BK103.out 1).trans rfl; have hfz19_0 := blk_frozen BK103.out 0; have hfz19_1 := blk_frozen BK103.out 1))
   go_ret
   exact ⟨qe, qb HB.out⟩
 rw [if_neg c16] at H
 have c16b0 : decide (((rd_TTie l0_1 x16_2).f1) ≤ ((rd_TTie l0_1 x16_2).f0)) = false := decide_eq_false c16
 clear c16
 by_cases c20 : ((rd_TTie l0_1 x16_2).f1) ≥ a0_0
 · rw [if_pos c20] at H
   have c20b0 : decide (a0_0 ≤ ((rd_TTie l0_1 x16_2).f1)) = true := decide_eq_true c20
   clear c20
   obtain rfl := Option.some.inj H
   have p100 : 0 ≤ (x16_2 : Int) := of_decide_eq_true qa
   have q100 : x16_2 < (l0_1.length : Int) := of_decide_eq_true qa
   obtain ⟨ad100, e100, hx100_0, hx100_1⟩ := at_TTie HR0_1.out x16_2 p100 q100
   cases e100
   replace hx100_0 := (HB.out.cell (World.block_lt_of_cell? w _ hx100_0)).trans hx100_0
   replace hx100_1 := (HB.out.cell (World.block_lt_of_cell? w _ hx100_1)).trans hx100_1
   replace p100 := eq_true p100
   replace q100 := eq_true q100
   go_wp2_with (first | ((with_reducible refine gate_dst (N := 4) rfl ?_); refine be 4 #[.int .i64 0, .int .i64 0] 44 ?_; intro gb103 hg w21 hbox hb; have n0_ := q0 (kb BK102.out hb); have n1_ := q0 (below_step (qb HB.out) hb); have n2_ := q0 (hbox); have n3_ := q0 ((bs HB.out hg : w.heap.size ≤ gb103)); have n4_ := q0 ((bs HB.out hg : w.heap.size ≤ gb103)); have n5_ := q0 ((bl BK102.out hg : gb102 ≠ gb103)); have n6_ := q0 ((bg BK102.out hg : gb103 ≠ gb102)); clear BK102 HB; have BK102 := n0_; have HB := n1_; have BK103 := n2_; have GW103 := n3_; have GE103 := n4_; have NB102_103 := n5_; have NB103_102 := n6_; clear n0_ n1_ n2_ n3_ n4_ n5_ n6_ hb hbox hg; have hnb22 := NB103_102.out; have hnc22 := NB102_103.out; have hcz23_0 : w21.cell? ⟨gb103, 0, none⟩ = some (.int .i64 0) := (blk_cell BK103.out 0).trans rfl; have hcz23_1 : w21.cell? ⟨gb103, 1, none⟩ = some (.int .i64 0) := (blk_cell BK103.out 1).trans rfl; have hfz23_0 := blk_frozen BK103.out 0; have hfz23_1 := blk_frozen BK103.out 1; have hcz24_0 : w21.cell? ⟨gb102, 0, none⟩ = some (.int .i64 a0_0) := (blk_cell BK102.out 0).trans rfl; have hcz24_1 : w21.cell? ⟨gb102, 1, none⟩ = some (.slice (some ad100) l0_1.length c0_1) := (blk_cell BK102.out 1).trans rfl; have hfz24_0 := blk_frozen BK102.out 0; have hfz24_1 := blk_frozen BK102.out 1))
   go_ret
   exact ⟨qe, qb HB.out⟩
 rw [if_neg c20] at H
 have c20b0 : decide (a0_0 ≤ ((rd_TTie l0_1 x16_2).f1)) = false := decide_eq_false c20
 clear c20
 have H' := Aside0.mk H
 clear H
 have p100 : 0 ≤ (x16_2 : Int) := of_decide_eq_true qa
 have q100 : x16_2 < (l0_1.length : Int) := of_decide_eq_true qa
 obtain ⟨ad100, e100, hx100_0, hx100_1⟩ := at_TTie HR0_1.out x16_2 p100 q100
 cases e100
 replace hx100_0 := (HB.out.cell (World.block_lt_of_cell? w _ hx100_0)).trans hx100_0
 replace hx100_1 := (HB.out.cell (World.block_lt_of_cell? w _ hx100_1)).trans hx100_1
 replace p100 := eq_true p100
 replace q100 := eq_true q100
 go_wp2_with (first | ((with_reducible refine gate_dst (N := 4) rfl ?_); refine be 4 #[.int .i64 0, .int .i64 0] 44 ?_; intro gb103 hg w25 hbox hb; have n0_ := q0 (kb BK102.out hb); have n1_ := q0 (below_step (qb HB.out) hb); have n2_ := q0 (hbox); have n3_ := q0 ((bs HB.out hg : w.heap.size ≤ gb103)); have n4_ := q0 ((bs HB.out hg : w.heap.size ≤ gb103)); have n5_ := q0 ((bl BK102.out hg : gb102 ≠ gb103)); have n6_ := q0 ((bg BK102.out hg : gb103 ≠ gb102)); clear BK102 HB; have BK102 := n0_; have HB := n1_; have BK103 := n2_; have GW103 := n3_; have GE103 := n4_; have NB102_103 := n5_; have NB103_102 := n6_; clear n0_ n1_ n2_ n3_ n4_ n5_ n6_ hb hbox hg; have hnb26 := NB103_102.out; have hnc26 := NB102_103.out; have hcz27_0 : w25.cell? ⟨gb103, 0, none⟩ = some (.int .i64 0) := (blk_cell BK103.out 0).trans rfl; have hcz27_1 : w25.cell? ⟨gb103, 1, none⟩ = some (.int .i64 0) := (blk_cell BK103.out 1).trans rfl; have hfz27_0 := blk_frozen BK103.out 0; have hfz27_1 := blk_frozen BK103.out 1; have hcz28_0 : w25.cell? ⟨gb102, 0, none⟩ = some (.int .i64 a0_0) := (blk_cell BK102.out 0).trans rfl; have hcz28_1 : w25.cell? ⟨gb102, 1, none⟩ = some (.slice (some ad100) l0_1.length c0_1) := (blk_cell BK102.out 1).trans rfl; have hfz28_0 := blk_frozen BK102.out 0; have hfz28_1 := blk_frozen BK102.out 1))
 go_roundg k2
 case measure => have := HJ1.out; have := HK2.out; omega
 case rel => exact ⟨(wrap64 (x16_2 + 1)), qs, H', ⟨by have := HJ1.out; have := HK2.out; omega⟩, ⟨qf BK102.out⟩, ⟨qb HB.out⟩⟩

end Go.Proofs.Ytheoebelhgbejaa.P
