import Derived.Test.YtheoebelhgbejaaP0
import Derived.Test.YtheoebelhgbejaaP1
import Derived.Test.YtheoebelhgbejaaP2
import Derived.Test.YtheoebelhgbejaaP3
import Derived.Test.YtheoebelhgbejaaP6
import Derived.Test.YtheoebelhgbejaaP7
import Derived.Test.YtheoebelhgbejaaP9
import Derived.Test.YtheoebelhgbejaaP10
import Derived.Test.YtheoebelhgbejaaP13
namespace Go.Proofs.Ytheoebelhgbejaa.P
open Go.RowKit Go.Proofs.YtheoebelhgbejaaW.PrintWords Go.Proofs.YtheoebelhgbejaaW.PrintLast Go.Proofs.YtheoebelhgbejaaW.PrintMore
attribute [local go_sem] max2_int min2_int max_two min_two max_three min_three max_four min_four
set_option linter.unusedVariables false
set_option linter.unusedSimpArgs false
attribute [local go_sem high] eqATie
set_option maxHeartbeats 8000000 in
set_option maxRecDepth 100000 in
theorem spec_l2Has.calls (k : Nat) (A0 : Option Addr) (c0 : Nat) (l0 : List Int) (a1 : Int) (r : Bool) (w : World) (hr0 : Kd.C (Kd.int .i64) w A0 l0.length l0) (hc0 : l0.length ≤ c0) (h : spec_l2Has.f k l0 a1 = some r) :
    Calls Try.prog 75 #[.slice A0 l0.length c0, .int .i64 a1] w fun e w' => e = .returned (.bool r) ∧ Drawn0 w w' := by
 have HR0 := Aside0.mk hr0
 have HC0 := Aside0.mk hc0
 clear hr0 hc0
 have H : (spec_l2Has.l0 k l0 a1 0) = some r := h
 clear h
 have H' := Aside0.mk H
 clear H
 go_enter Try.func75, Try.ntmps75
 go_wp2
 go_loopg [5] k (fun kq v5 w' => ∃ (x5_1 : Int), v5 = .int .i64 x5_1 ∧ Aside0 (spec_l2Has.l0 kq l0 a1 x5_1 = some r) ∧ Aside0 (kq ≤ k) ∧ Drawn0 w w')
 case atStart => exact ⟨(0), qs, H', ⟨Nat.le_refl _⟩, by repeat (first | exact Drawn0.refl _ | apply Drawn0.step)⟩
 clear H'
 try clear p2
 obtain ⟨x5_1, rfl, HA, HK1, ⟨m1, rfl⟩⟩ := hrel
 rcases gk with _ | k1
 · exact absurd HA.out (by simp [spec_l2Has.l0])
 have H := HA.out
 clear HA
 simp only [spec_l2Has.l0] at H
 by_cases c3 : x5_1 < (l0.length : Int)
 rotate_left
 · rw [if_neg c3] at H
   have c3b0 : decide (x5_1 < (l0.length : Int)) = false := decide_eq_false c3
   clear c3
   obtain rfl := Option.some.inj H
   go_wp2
   go_ret
   exact ⟨by first | rfl | (simp; done) | (simp [*]; done), by repeat (first | exact Drawn0.refl _ | apply Drawn0.step)⟩
 rw [if_pos c3] at H
 have c3b0 : decide (x5_1 < (l0.length : Int)) = true := decide_eq_true c3
 clear c3
 by_cases c4 : 0 ≤ x5_1
 rotate_left
 · rw [if_neg c4] at H
   exact absurd H (by simp)
 rw [if_pos c4] at H
 have c4b0 : decide (0 ≤ x5_1) = true := decide_eq_true c4
 clear c4
 by_cases c5 : (rd l0 x5_1) = a1
 · rw [if_pos c5] at H
   have c5b0 : ((rd l0 x5_1) == a1) = true := beq_iff_eq.mpr c5
   have c5b1 : ((rd l0 x5_1) != a1) = false := bne_eq_false_iff_eq.mpr c5
   clear c5
   obtain rfl := Option.some.inj H
   have p100 : 0 ≤ (x5_1 : Int) := of_decide_eq_true qa
   have q100 : x5_1 < (l0.length : Int) := of_decide_eq_true qa
   obtain ⟨ad100, e100, hx100_0⟩ := Kd.at_int HR0.out x5_1 p100 q100
   cases e100
   replace p100 := eq_true p100
   replace q100 := eq_true q100
   go_wp2
   go_ret
   exact ⟨by first | rfl | (simp; done) | (simp [*]; done), by repeat (first | exact Drawn0.refl _ | apply Drawn0.step)⟩
 rw [if_neg c5] at H
 have c5b0 : ((rd l0 x5_1) == a1) = false := beq_eq_false_iff_ne.mpr c5
 have c5b1 : ((rd l0 x5_1) != a1) = true := bne_iff_ne.mpr c5
 have H' := Aside0.mk H
 clear H
 have p100 : 0 ≤ (x5_1 : Int) := of_decide_eq_true qa
 have q100 : x5_1 < (l0.length : Int) := of_decide_eq_true qa
 obtain ⟨ad100, e100, hx100_0⟩ := Kd.at_int HR0.out x5_1 p100 q100
 cases e100
 replace p100 := eq_true p100
 replace q100 := eq_true q100
 go_wp2
 go_roundg k1
 case measure => have := HK1.out; omega
 case rel => exact ⟨(wrap64 (x5_1 + 1)), qs, H', ⟨by have := HK1.out; omega⟩, by repeat (first | exact Drawn0.refl _ | apply Drawn0.step)⟩

def spec_l71Walk.T6 : Bool × List (List Nat × List Nat) := (true, [([], []), ([], []), ([], []), ([2], [2]), ([3], [3]), ([1, 4], [1, 4]), ([5], [5]), ([0, 6], [0, 6])])
def spec_l71Walk.B6 : List Nat := [0, 0, 0, 4, 12, 30, 62, 127]
theorem spec_l71Walk.tab6 : rtab .any (opsOf Try.f72 6) = spec_l71Walk.T6 := by kernel_rfl
theorem spec_l71Walk.bits6 : waitsOk spec_l71Walk.T6.2 spec_l71Walk.B6 = true := by kernel_rfl
def spec_l71Walk.T7 : Bool × List (List Nat × List Nat) := (true, [([], []), ([], []), ([], []), ([2], [2]), ([3], [3]), ([1, 4], [1, 4]), ([5], [5]), ([0, 6], [0, 6]), ([7, 7, 0, 1, 2, 3, 4, 5, 6, 7], [7])])
def spec_l71Walk.B7 : List Nat := [0, 0, 0, 4, 12, 30, 62, 127, 255]
theorem spec_l71Walk.tab7 : rtab .any (opsOf Try.f72 7) = spec_l71Walk.T7 := by kernel_rfl
theorem spec_l71Walk.bits7 : waitsOk spec_l71Walk.T7.2 spec_l71Walk.B7 = true := by kernel_rfl
set_option maxHeartbeats 8000000 in
set_option maxRecDepth 100000 in
theorem spec_l71Walk.calls (k : Nat) (g : Nat) (s0_0 : List Int) (s0_1 : Int) (a1_0 : Int) (A1_1 : Option Addr) (c1_1 : Nat) (l1_1 : List (STie)) (r1 : List Int) (r2 : Int) (w0 w : World) (hI : IsSRd w0 w g s0_0 s0_1) (hB : Below w0.heap.size w0 w) (hr1_1 : ∀ W_, KeepBut w W_ g none → Kd.C kTie W_ A1_1 l1_1.length l1_1) (hc1_1 : l1_1.length ≤ c1_1) (h : spec_l71Walk.f k s0_0 s0_1 a1_0 l1_1 = some (r1, r2)) :
    Calls Try.prog 72 #[.pointer (some ⟨g, 0, none⟩), .agg #[.int .i64 a1_0, .slice A1_1 l1_1.length c1_1]] w fun e w' => ∃ v0_ : Value, e = .returned (v0_) ∧ Kd.R (Kd.int .i64) 3 w' w.heap.size (fun _ => True) v0_ r1 ∧ IsSRd w0 w' g s0_0 r2 ∧ Below w0.heap.size w0 w' ∧ KeepBut w w' g none := by
 have hu30 := Try.underlying30
 have HR1_1 := Aside0.mk hr1_1
 have HC1_1 := Aside0.mk hc1_1
 clear hr1_1 hc1_1
 have HI0 := Aside0.mk hI
 have HK := q0 (KeepBut.refl w g none)
 have HL := Aside0.mk hB.size
 clear hI
 have HW0 := Aside0.mk hB.size
 have HB := Aside0.mk hB
 clear hB
 have H : ((spec_l71Knot.f k s0_0 s0_1 a1_0 l1_1).bind fun bt105 => ((spec_l6Rd_pick.f k s0_0 bt105.2 7).bind fun bt111 => (spec_l71Walk.l0 k (([bt105.1] : List Int)) bt111.1 s0_0 bt111.2 a1_0 l1_1))) = some (r1, r2) := h
 clear h
 replace H := Option.bind_eq_some_iff.mp H
 obtain ⟨⟨t105, t112⟩, A30, H⟩ := H
 replace H : ((spec_l6Rd_pick.f k s0_0 t112 7).bind fun bt111 => (spec_l71Walk.l0 k (([t105] : List Int)) bt111.1 s0_0 bt111.2 a1_0 l1_1)) = some (r1, r2) := H
 have A3 := Aside0.mk A30
 clear A30
 obtain ⟨y113, hy113⟩ : ∃ y_ : List Int, y_ = (([t105] : List Int)) := ⟨_, rfl⟩
 replace H : ((spec_l6Rd_pick.f k s0_0 t112 7).bind fun bt111 => (spec_l71Walk.l0 k y113 bt111.1 s0_0 bt111.2 a1_0 l1_1)) = some (r1, r2) := by first | (rw [hy113]; with_reducible exact H) | (have H2_ := (Option.bind_some _ _).symm.trans H; rw [hy113]; with_reducible exact H2_) | (have H2_ := (Option.bind_some _ _).symm.trans H; with_reducible exact H2_) | with_reducible exact H | (rw [hy113]; exact H) | exact H
 have Ny113 := Aside0.mk hy113
 clear hy113
 replace H := Option.bind_eq_some_iff.mp H
 obtain ⟨⟨t111, t114⟩, A40, H⟩ := H
 replace H : (spec_l71Walk.l0 k y113 t111 s0_0 t114 a1_0 l1_1) = some (r1, r2) := H
 have A4 := Aside0.mk A40
 clear A40
 have HC5 := Aside0.mk H
 clear H
 go_enter Try.func72, Try.ntmps72
 go_upto_block 0 with (first | ((with_reducible refine gate_dst (N := 3) rfl ?_); refine be 3 #[.int .i64 a1_0, .slice A1_1 l1_1.length c1_1] 30 ?_; intro gb115 hg w6 hbox hb; have n0_ := q0 (IsSRd.below (qi HI0.out) hb); have n1_ := q0 (KeepBut.trans (qh HK.out) (KeepBut.of_below hb g none) (.inl rfl)); have n2_ := q0 (below_step (qj HB.out HI0.out) hb); have n3_ := q0 (hbox); have n4_ := q0 ((by rw [hg]; exact (keep_size (w := w) (g := g) (row := none) (qh HK.out)) : w.heap.size ≤ gb115)); have n5_ := q0 ((Nat.le_trans HW0.out (by rw [hg]; exact (keep_size (w := w) (g := g) (row := none) (qh HK.out)) : w.heap.size ≤ gb115) : w0.heap.size ≤ gb115)); have n6_ := q0 ((by rw [hg]; exact Nat.ne_of_lt (IsSRd.lt (show IsSRd w0 _ g s0_0 s0_1 from qi HI0.out)) : g ≠ gb115)); have n7_ := q0 ((by rw [hg]; exact Nat.ne_of_gt (IsSRd.lt (show IsSRd w0 _ g s0_0 s0_1 from qi HI0.out)) : gb115 ≠ g)); clear HI0 HK HB; have HI0 := n0_; have HK := n1_; have HB := n2_; have BK115 := n3_; have GW115 := n4_; have GE115 := n5_; have NB0_115 := n6_; have NB115_0 := n7_; clear n0_ n1_ n2_ n3_ n4_ n5_ n6_ n7_ hb hbox hg; have hnb7 := NB115_0.out; have hnc7 := NB0_115.out; have hcz8_0 : w6.cell? ⟨gb115, 0, none⟩ = some (.int .i64 a1_0) := (blk_cell BK115.out 0).trans rfl; have hcz8_1 : w6.cell? ⟨gb115, 1, none⟩ = some (.slice A1_1 l1_1.length c1_1) := (blk_cell BK115.out 1).trans rfl; have hfz8_0 := blk_frozen BK115.out 0; have hfz8_1 := blk_frozen BK115.out 1) | ((with_reducible refine gate_callee (f := 78) rfl ?_); refine goesL_ (some 11) rfl rfl Try.func78 (by kernel_rfl) rfl #[.pointer (some ⟨g, 0, none⟩), .agg #[.int .i64 a1_0, .slice A1_1 l1_1.length c1_1]] rfl qm ?_; (with_reducible refine (spec_l71Knot.calls k g s0_0 s0_1 a1_0 _ _ l1_1 t105 t112 w0 _ ?side1 ?side2 ?side3 ?side4 A3.out).mono ?_); (case side1 => repeat (first | (with_reducible first | exact HI0.out | apply IsSRd.alloc | apply IsSRd.drewN | apply IsSRd.drew | apply IsSRd.set_1 | refine IsSRd.far ?_ NB0_115.out _) | exact HI0.out)); (case side2 => repeat (first | (with_reducible first | exact HB.out | apply below_alloc | apply pw_below_drewN | apply below_drew1 | refine below_set ?_ (IsSRd.ge HI0.out) | refine below_set ?_ GE115.out) | exact HB.out)); (case side3 => exact Kd.C_foot_step HR1_1.out (qh HK.out)); (case side4 => exact HC1_1.out); rintro e w9 ⟨rfl, hi, hb, hk⟩; refine ⟨_, rfl, ?_⟩; have n0_ := q0 (KeepBut.blk hk (g' := gb115) (o := .cells #[.int .i64 a1_0, .slice A1_1 l1_1.length c1_1] 30 (0, 0)) (qk BK115.out) NB115_0.out (by simp)); have n1_ := q0 (KeepBut.trans (qh HK.out) hk (.inl rfl)); have n2_ := q0 (hb); have n3_ := q0 (hi); clear BK115 HK HB HI0; have BK115 := n0_; have HK := n1_; have HB := n2_; have HI0 := n3_; clear n0_ n1_ n2_ n3_; (try clear hb); (try clear hb2); (try clear hk); (try clear hi)) | ((with_reducible refine gate_dst (N := 12) rfl ?_); refine Kd.R_lit (Kd.int .i64) _ 3 ?hg (N := 12) ?hd (xs := ([t105] : List Int)) (inner := [.int .i64 t105]) (ok := fun _ => True) (okp := fun _ => True) ?hr ?hp (fun _ hk => hk) trivial (Below.refl _ _) (Nat.le_refl _) (by simp) ?_; (case hd => rfl); (case hg => rfl); (case hr => first | (go_simp; done) | (go_simp; rfl)); (case hp => exact (Reps.one (show Kd.M (Kd.int .i64) _ _ _ t105 [.int .i64 t105] from rfl) (Reps.none _ _))); intro v116 w10 ho11 hb hg_ hnew_; clear hg_ hnew_; (first | rw [← Ny113.out] at ho11 | (simp only [Int.reduceToNat] at ho11; rw [← Ny113.out] at ho11)); have n0_ := q0 (Kd.R_lower ho11 (keep_size (w := w) (g := g) (row := none) (qh HK.out))); have n1_ := q0 (IsSRd.below (qi HI0.out) hb); have n2_ := q0 (kb BK115.out hb); have n3_ := q0 (KeepBut.trans (qh HK.out) (KeepBut.of_below hb g none) (.inl rfl)); have n4_ := q0 (below_step (qj HB.out HI0.out) hb); clear HI0 BK115 HK HB; have HO117 := n0_; have HI0 := n1_; have BK115 := n2_; have HK := n3_; have HB := n4_; clear n0_ n1_ n2_ n3_ n4_ hb ho11) | ((with_reducible refine gate_callee (f := 81) rfl ?_); refine goesL_ (some 14) rfl rfl Try.func81 (by kernel_rfl) rfl #[.pointer (some ⟨g, 0, none⟩), .int .i64 7] rfl qm ?_; (with_reducible refine (spec_l6Rd_pick.calls k g s0_0 t112 7 t111 t114 w0 _ ?side1 ?side2 A4.out).mono ?_); (case side1 => repeat (first | (with_reducible first | exact HI0.out | apply IsSRd.alloc | apply IsSRd.drewN | apply IsSRd.drew | apply IsSRd.set_1 | refine IsSRd.far ?_ NB0_115.out _) | exact HI0.out)); (case side2 => repeat (first | (with_reducible first | exact HB.out | apply below_alloc | apply pw_below_drewN | apply below_drew1 | refine below_set ?_ (IsSRd.ge HI0.out) | refine below_set ?_ GE115.out) | exact HB.out)); rintro e w12 ⟨rfl, hi, hb, hk⟩; refine ⟨_, rfl, ?_⟩; have n0_ := q0 (KeepBut.blk hk (g' := gb115) (o := .cells #[.int .i64 a1_0, .slice A1_1 l1_1.length c1_1] 30 (0, 0)) (qk BK115.out) NB115_0.out (by simp)); have n1_ := q0 (Kd.R_mono (Kd.R_keep (IsSRd.apart (show IsSRd w0 _ g s0_0 t112 from qi HI0.out) (qr HO117.out) (by decide)) hk (fun _ h => h.2)) (fun _ h => h.1)); have n2_ := q0 (KeepBut.trans (qh HK.out) hk (.inl rfl)); have n3_ := q0 (hb); have n4_ := q0 (hi); clear BK115 HO117 HK HB HI0; have BK115 := n0_; have HO117 := n1_; have HK := n2_; have HB := n3_; have HI0 := n4_; clear n0_ n1_ n2_ n3_ n4_; (try clear hb); (try clear hb2); (try clear hk); (try clear hi)))
 (try simp only [Act.put, List.setIfInBounds_toArray, List.set_cons_zero, List.set_cons_succ])
 go_cut [5] (fun v5 wc => ∃ (kq : Nat) (x5_4 : List Int) (x101_4 : Int), Aside0 (spec_l71Walk.j2 kq x5_4 s0_0 x101_4 = some (r1, r2)) ∧ Aside0 (kq ≤ k) ∧ Aside0 (Kd.R (Kd.int .i64) 3 wc w.heap.size (fun _ => True) v5 x5_4) ∧ Aside0 (wc.heap[gb115]? = some (.cells #[.int .i64 a1_0, (.slice A1_1 l1_1.length c1_1)] 30 (0, 0))) ∧ Aside0 (IsSRd w0 wc g s0_0 x101_4) ∧ Aside0 (KeepBut w wc g none) ∧ Aside0 (Below w0.heap.size w0 wc))
 case first =>
   have H := HC5.out
   clear HC5
   have H' := Aside0.mk H
   clear H
   go_wp2
   go_loopg [5, 6] k (fun kq v5 v6 w' => ∃ (x5_1 : List Int) (x6_1 : Int) (x101_1 : Int), v6 = .int .i64 x6_1 ∧ Aside0 (spec_l71Walk.l0 kq x5_1 x6_1 s0_0 x101_1 a1_0 l1_1 = some (r1, r2)) ∧ Aside0 (kq ≤ k) ∧ Aside0 (Kd.R (Kd.int .i64) 3 w' w.heap.size (fun _ => True) v5 x5_1) ∧ Aside0 (w'.heap[gb115]? = some (.cells #[.int .i64 a1_0, (.slice A1_1 l1_1.length c1_1)] 30 (0, 0))) ∧ Aside0 (IsSRd w0 w' g s0_0 x101_1) ∧ Aside0 (KeepBut w w' g none) ∧ Aside0 (Below w0.heap.size w0 w'))
   case atStart => exact ⟨(y113), (t111), (t114), qs, H', ⟨Nat.le_refl _⟩, ⟨qr HO117.out⟩, ⟨qk BK115.out⟩, ⟨qi HI0.out⟩, ⟨qh HK.out⟩, ⟨qj HB.out HI0.out⟩⟩
   clear H'
   try clear c1
   try clear p2
   try clear c7
   try clear c8
   try clear hcz8_0
   try clear hcz8_1
   try clear hfz8_0
   try clear hfz8_1
   obtain ⟨x5_1, x6_1, x101_1, rfl, HA, HK1, HO_5, BK115, HI0, HK, HB⟩ := hrel
   rcases gk with _ | k1
   · exact absurd HA.out (by simp [spec_l71Walk.l0])
   have H := HA.out
   clear HA
   simp only [spec_l71Walk.l0] at H
   by_cases c13 : x6_1 > 0
   rotate_left
   · rw [if_neg c13] at H
     have c13b0 : decide (0 < x6_1) = false := decide_eq_false c13
     clear c13
     (first | rw [c13b0] | (simp only [i64_w, i32_w]; rw [c13b0]) | skip)
     have H' := Aside0.mk H
     clear H
     go_wp2
     go_meet
     case rel => exact ⟨_, (x5_1), (x101_1), H', ⟨by have := HK1.out; first | omega | exact Nat.le_refl _⟩, ⟨qr HO_5.out⟩, ⟨qk BK115.out⟩, ⟨qi HI0.out⟩, ⟨qh HK.out⟩, ⟨qj HB.out HI0.out⟩⟩
   rw [if_pos c13] at H
   have c13b0 : decide (0 < x6_1) = true := decide_eq_true c13
   clear c13
   (first | rw [c13b0] | (simp only [i64_w, i32_w]; rw [c13b0]) | skip)
   obtain ⟨y118, hy118⟩ : ∃ y_ : List Int, y_ = (([] : List Int)) := ⟨_, rfl⟩
   replace H : (if 0 ≤ (wrap64 ((x5_1.length : Int) - 1)) then (if (wrap64 ((x5_1.length : Int) - 1)) < (x5_1.length : Int) then ((spec_l1Knot.f k1 a1_0 l1_1 (rd x5_1 (wrap64 ((x5_1.length : Int) - 1)))).bind fun t106 => (if t106 = true then ((spec_l2Next.f k1 a1_0 l1_1 (rd x5_1 (wrap64 ((x5_1.length : Int) - 1)))).bind fun t107 => (spec_l71Walk.j1 k1 x5_1 x6_1 t107 s0_0 x101_1 a1_0 l1_1)) else (spec_l71Walk.j1 k1 x5_1 x6_1 y118 s0_0 x101_1 a1_0 l1_1))) else (none)) else (none)) = some (r1, r2) := by first | (rw [hy118]; with_reducible exact H) | (have H2_ := (Option.bind_some _ _).symm.trans H; rw [hy118]; with_reducible exact H2_) | (have H2_ := (Option.bind_some _ _).symm.trans H; with_reducible exact H2_) | with_reducible exact H | (rw [hy118]; exact H) | exact H
   have Ny118 := Aside0.mk hy118
   clear hy118
   obtain ⟨ji14, hji14⟩ : ∃ j_ : Int, (wrap64 ((x5_1.length : Int) - 1)) = j_ := ⟨_, rfl⟩
   replace H : (if 0 ≤ (ji14) then (if (ji14) < (x5_1.length : Int) then ((spec_l1Knot.f k1 a1_0 l1_1 (rd x5_1 (ji14))).bind fun t106 => (if t106 = true then ((spec_l2Next.f k1 a1_0 l1_1 (rd x5_1 (ji14))).bind fun t107 => (spec_l71Walk.j1 k1 x5_1 x6_1 t107 s0_0 x101_1 a1_0 l1_1)) else (spec_l71Walk.j1 k1 x5_1 x6_1 y118 s0_0 x101_1 a1_0 l1_1))) else (none)) else (none)) = some (r1, r2) := by first | (rw [hji14] at H; exact H) | (simp only [hji14] at H ⊢; exact H)
   have hji14w : (IntKind.i64.wrap ((x5_1.length : Int) - 1)) = ji14 := (i64_w _).trans hji14
   by_cases c15 : 0 ≤ (ji14)
   rotate_left
   · rw [if_neg c15] at H
     exact absurd H (by simp)
   rw [if_pos c15] at H
   have c15b0 : decide (0 ≤ (ji14)) = true := decide_eq_true c15
   clear c15
   by_cases c16 : (ji14) < (x5_1.length : Int)
   rotate_left
   · rw [if_neg c16] at H
     exact absurd H (by simp)
   rw [if_pos c16] at H
   have c16b0 : decide ((ji14) < (x5_1.length : Int)) = true := decide_eq_true c16
   clear c16
   replace H := Option.bind_eq_some_iff.mp H
   obtain ⟨t106, A119, H⟩ := H
   replace H : (if t106 = true then ((spec_l2Next.f k1 a1_0 l1_1 (rd x5_1 (ji14))).bind fun t107 => (spec_l71Walk.j1 k1 x5_1 x6_1 t107 s0_0 x101_1 a1_0 l1_1)) else (spec_l71Walk.j1 k1 x5_1 x6_1 y118 s0_0 x101_1 a1_0 l1_1)) = some (r1, r2) := H
   have A17 := Aside0.mk A119
   clear A119
   have HC18 := Aside0.mk H
   clear H
   try go_wp2_with (first | ((with_reducible refine gate_dst (N := 19) rfl ?_); refine Kd.R_lit (Kd.int .i64) _ 3 ?hg (N := 19) ?hd (xs := ([] : List Int)) (inner := []) (ok := fun _ => True) (okp := fun _ => True) ?hr ?hp (fun _ hk => hk) trivial (Below.refl _ _) (Nat.le_refl _) (by simp) ?_; (case hd => rfl); (case hg => rfl); (case hr => first | (go_simp; done) | (go_simp; rfl)); (case hp => exact (Reps.none _ _)); intro v120 w19 ho20 hb hg_ hnew_; clear hg_ hnew_; (first | rw [← Ny118.out] at ho20 | (simp only [Int.reduceToNat] at ho20; rw [← Ny118.out] at ho20)); have n0_ := q0 (Kd.R_elder' (qr HO_5.out) (Kd.R_base ho20) hb); have n1_ := q0 (Kd.R_lower (Kd.R_new' ho20 (Kd.R_lt (qr HO_5.out))) (keep_size (w := w) (g := g) (row := none) (qh HK.out))); have n2_ := q0 (kb BK115.out hb); have n3_ := q0 (IsSRd.below (qi HI0.out) hb); have n4_ := q0 (KeepBut.trans (qh HK.out) (KeepBut.of_below hb g none) (.inl rfl)); have n5_ := q0 (below_step (qj HB.out HI0.out) hb); clear HO_5 BK115 HI0 HK HB; have HO_5 := n0_; have HO121 := n1_; have BK115 := n2_; have HI0 := n3_; have HK := n4_; have HB := n5_; clear n0_ n1_ n2_ n3_ n4_ n5_ hb ho20))
   have n0_ := q0 (Kd.R_drew HO_5.out)
   have n1_ := q0 (Kd.R_drew HO121.out)
   have n2_ := q0 (blk_drew BK115.out)
   have n3_ := q0 (IsSRd.drew HI0.out)
   have n4_ := q0 (keep_drew HK.out)
   have n5_ := q0 (below_drew1 HB.out)
   clear HO_5
   clear HO121
   clear BK115
   clear HI0
   clear HK
   clear HB
   have HO_5 := n0_
   have HO121 := n1_
   have BK115 := n2_
   have HI0 := n3_
   have HK := n4_
   have HB := n5_
   clear n0_ n1_ n2_ n3_ n4_ n5_
   obtain ⟨Ao22, co22, eo22⟩ := Kd.R_slice HO_5.out
   (first | subst eo22 | (injection eo22 with f1_ f2_ f3_; have f4_ := f1_.symm; have f5_ := f3_.symm; clear f1_ f2_ f3_; subst f4_; subst f5_))
   have p122 : 0 ≤ ((ji14) : Int) := of_decide_eq_true qa
   have q122 : (ji14) < (x5_1.length : Int) := of_decide_eq_true qa
   obtain ⟨ad122, e122, hx122_0⟩ := Kd.at_int (Kd.R_reads' HO_5.out).2.2 (ji14) p122 q122
   cases e122
   replace p122 := eq_true p122
   replace q122 := eq_true q122
   refine start_ (n := 8) (S := fun w' => w'.cell? ⟨gb115, 0, none⟩ = some (.int .i64 a1_0) ∧ w'.cell? ⟨gb115, 1, none⟩ = some (.slice A1_1 l1_1.length c1_1) ∧ w'.cell? (ad122.add ((ji14)).toNat) = some (.int .i64 (rd x5_1 (ji14)))) (ds := []) (ba 8 0) (by kernel_rfl) rfl (by kernel_rfl) ⟨(blk_cell BK115.out 0).trans rfl, (blk_cell BK115.out 1).trans rfl, hx122_0⟩ (fun hHeld => ?_); refine with_tabW spec_l71Walk.tab6 spec_l71Walk.bits6 (fun HT_ HW_ => ?_)
   generalize w19.drew = w21 at HO_5 HO121 BK115 HI0 HK HB hx122_0 hHeld ⊢
   refine pu 1 (some 21) (ba 8 2) HT_.out ?_
   refine pu 2 (some 22) (ba 8 6) HT_.out ?_
   refine pu 3 (some 23) (ba 8 14) HT_.out ?_
   refine pu 4 (some 24) (ba 8 30) HT_.out ?_
   refine pu 5 (some 25) (ba 8 62) HT_.out ?_
   refine tu 0 (some 20) (ba 8 63) HT_.out HW_.out hHeld ?_
   refine tu 6 (some 26) (ba 8 127) HT_.out HW_.out hHeld ?_
   refine one_ (i := 7) (N := some 27) (ba 8 255) rfl rfl (one_of HT_.out (by kernel_rfl)) (by decide) (fun K hK => ?_)
   refine goes_ Try.func53 (by kernel_rfl) rfl #[.agg #[.int .i64 a1_0, .slice A1_1 l1_1.length c1_1], .int .i64 (rd x5_1 (ji14))] (by rfl) rfl rfl (by (try simp only [List.map_toArray, List.map_cons, List.map_nil]); first | done | (simp only [hji14]; rfl) | rfl | (simp only [List.length_drop, List.length_take]; rfl)) ?_
   with_reducible refine (spec_l1Knot.calls k1 a1_0 _ _ l1_1 (rd x5_1 (ji14)) t106 _ ?side1 ?side2 A17.out).mono ?_
   (case side1 => exact Kd.C_foot_now HR1_1.out (qh HK.out))
   (case side2 => exact HC1_1.out)
   rintro e w23 ⟨rfl, hb⟩
   have HS2_ := (hb.cell (World.block_lt_of_cell? _ _ (hHeld.2.2))).trans (hHeld.2.2)
   refine ⟨_, rfl, ?_⟩
   have n0_ := q0 (Kd.R_below (qr HO_5.out) hb)
   have n1_ := q0 (Kd.R_below (qr HO121.out) hb)
   have n2_ := q0 (kb BK115.out hb)
   have n3_ := q0 (IsSRd.below (qi HI0.out) hb)
   have n4_ := q0 (KeepBut.trans (qh HK.out) (KeepBut.of_below hb g none) (.inl rfl))
   have n5_ := q0 (below_step (qj HB.out HI0.out) hb)
   clear HO_5
   clear HO121
   clear BK115
   clear HI0
   clear HK
   clear HB
   have HO_5 := n0_
   have HO121 := n1_
   have BK115 := n2_
   have HI0 := n3_
   have HK := n4_
   have HB := n5_
   clear n0_ n1_ n2_ n3_ n4_ n5_
   (try clear hb)
   (try clear hb2)
   (try clear hk)
   (try clear hi)
   refine hK.out _ _ ⟨(blk_cell BK115.out 0).trans rfl, (blk_cell BK115.out 1).trans rfl, HS2_⟩ (fun hHeld => ?_)
   clear hK K
   refine nu 27 ?_
   refine done_ (done_of HT_.out (by kernel_rfl)) ?_
   go_upto_if 27 with (fail)
   go_cut [7] (fun v7 wc => ∃ (kq : Nat) (x7_17 : List Int), Aside0 (spec_l71Walk.j1 kq x5_1 x6_1 x7_17 s0_0 x101_1 a1_0 l1_1 = some (r1, r2)) ∧ Aside0 (kq ≤ k1) ∧ Aside0 (Kd.R (Kd.int .i64) 3 wc w.heap.size (fun k_ => some k_ ≠ (v7 : Value).ownBlock) (.slice (some ad122) x5_1.length co22) x5_1) ∧ Aside0 (Kd.R (Kd.int .i64) 3 wc w.heap.size (fun k_ => some k_ ≠ ((.slice (some ad122) x5_1.length co22) : Value).ownBlock) v7 x7_17) ∧ Aside0 (wc.heap[gb115]? = some (.cells #[.int .i64 a1_0, (.slice A1_1 l1_1.length c1_1)] 30 (0, 0))) ∧ Aside0 (IsSRd w0 wc g s0_0 x101_1) ∧ Aside0 (KeepBut w wc g none) ∧ Aside0 (Below w0.heap.size w0 wc))
   case first =>
     have H := HC18.out
     clear HC18
     by_cases c24 : t106 = true
     rotate_left
     · replace c24 := Bool.eq_false_iff.mpr c24
       subst c24
       have H1 : (spec_l71Walk.j1 k1 x5_1 x6_1 y118 s0_0 x101_1 a1_0 l1_1) = some (r1, r2) := by rw [if_neg (show ¬ (false = true) by decide)] at H; exact H
       clear H
       have H := H1
       clear H1
       have H' := Aside0.mk H
       clear H
       go_wp2
       go_meet
       case rel => exact ⟨_, (y118), H', ⟨by have := HK1.out; first | omega | exact Nat.le_refl _⟩, ⟨by (with_reducible repeat (first | apply Kd.R_alloc | apply Kd.R_drewN | apply Kd.R_drew)); exact Kd.R_mono HO_5.out (fun _ hk => hk.2)⟩, ⟨by (with_reducible repeat (first | apply Kd.R_alloc | apply Kd.R_drewN | apply Kd.R_drew)); exact Kd.R_mono HO121.out (fun _ hk => hk.2)⟩, ⟨qk BK115.out⟩, ⟨qi HI0.out⟩, ⟨qh HK.out⟩, ⟨qj HB.out HI0.out⟩⟩
     subst c24
     have H1 : ((spec_l2Next.f k1 a1_0 l1_1 (rd x5_1 (ji14))).bind fun t107 => (spec_l71Walk.j1 k1 x5_1 x6_1 t107 s0_0 x101_1 a1_0 l1_1)) = some (r1, r2) := by rw [if_pos rfl] at H; exact H
     clear H
     have H := H1
     clear H1
     replace H := Option.bind_eq_some_iff.mp H
     obtain ⟨t107, A123, H⟩ := H
     replace H : (spec_l71Walk.j1 k1 x5_1 x6_1 t107 s0_0 x101_1 a1_0 l1_1) = some (r1, r2) := H
     have A25 := Aside0.mk A123
     clear A123
     have H' := Aside0.mk H
     clear H
     try go_wp2
     have n0_ := q0 (Kd.R_drew HO_5.out)
     have n1_ := q0 (Kd.R_drew HO121.out)
     have n2_ := q0 (blk_drew BK115.out)
     have n3_ := q0 (IsSRd.drew HI0.out)
     have n4_ := q0 (keep_drew HK.out)
     have n5_ := q0 (below_drew1 HB.out)
     clear HO_5
     clear HO121
     clear BK115
     clear HI0
     clear HK
     clear HB
     have HO_5 := n0_
     have HO121 := n1_
     have BK115 := n2_
     have HI0 := n3_
     have HK := n4_
     have HB := n5_
     clear n0_ n1_ n2_ n3_ n4_ n5_
     have p124 : 0 ≤ ((ji14) : Int) := of_decide_eq_true qa
     have q124 : (ji14) < (x5_1.length : Int) := of_decide_eq_true qa
     obtain ⟨ad124, e124, hx124_0⟩ := Kd.at_int (Kd.R_reads' HO_5.out).2.2 (ji14) p124 q124
     obtain rfl : ad122 = ad124 := (by injection e124)
     replace p124 := eq_true p124
     replace q124 := eq_true q124
     refine start_ (n := 9) (S := fun w' => w'.cell? ⟨gb115, 0, none⟩ = some (.int .i64 a1_0) ∧ w'.cell? ⟨gb115, 1, none⟩ = some (.slice A1_1 l1_1.length c1_1) ∧ w'.cell? (ad122.add ((ji14)).toNat) = some (.int .i64 (rd x5_1 (ji14)))) (ds := []) (ba 9 0) (by kernel_rfl) rfl (by kernel_rfl) ⟨(blk_cell BK115.out 0).trans rfl, (blk_cell BK115.out 1).trans rfl, hx124_0⟩ (fun hHeld => ?_); refine with_tabW spec_l71Walk.tab7 spec_l71Walk.bits7 (fun HT_ HW_ => ?_)
     generalize w23.drew = w26 at HO_5 HO121 BK115 HI0 HK HB hx124_0 hHeld ⊢
     refine pu 1 (some 29) (ba 9 2) HT_.out ?_
     refine pu 2 (some 30) (ba 9 6) HT_.out ?_
     refine pu 3 (some 31) (ba 9 14) HT_.out ?_
     refine pu 4 (some 32) (ba 9 30) HT_.out ?_
     refine pu 5 (some 33) (ba 9 62) HT_.out ?_
     refine tu 0 (some 28) (ba 9 63) HT_.out HW_.out hHeld ?_
     refine tu 6 (some 34) (ba 9 127) HT_.out HW_.out hHeld ?_
     refine one_ (i := 7) (N := some 35) (ba 9 255) rfl rfl (one_of HT_.out (by kernel_rfl)) (by decide) (fun K hK => ?_)
     refine goes_ Try.func54 (by kernel_rfl) rfl #[.agg #[.int .i64 a1_0, .slice A1_1 l1_1.length c1_1], .int .i64 (rd x5_1 (ji14))] (by rfl) rfl rfl (by (try simp only [List.map_toArray, List.map_cons, List.map_nil]); first | done | (simp only [hji14]; rfl) | rfl | (simp only [List.length_drop, List.length_take]; rfl)) ?_
     with_reducible refine (spec_l2Next.calls k1 a1_0 _ _ l1_1 (rd x5_1 (ji14)) t107 _ ?side1 ?side2 A25.out).mono ?_
     (case side1 => exact Kd.C_foot_now HR1_1.out (qh HK.out))
     (case side2 => exact HC1_1.out)
     rintro e w27 ⟨v125, rfl, ho0, hb⟩
     have HS2_ := (hb.cell (World.block_lt_of_cell? _ _ (hHeld.2.2))).trans (hHeld.2.2)
     refine ⟨_, rfl, ?_⟩
     have n0_ := q0 (Kd.R_elder' (qr HO_5.out) (Kd.R_base ho0) hb)
     have n1_ := q0 (Kd.R_elder' (qr HO121.out) (Kd.R_base ho0) hb)
     have n2_ := q0 (Kd.R_lower (Kd.R_new' (Kd.R_new' ho0 (Kd.R_lt (qr HO_5.out))) (Kd.R_lt (qr HO121.out))) (keep_size (w := w) (g := g) (row := none) (qh HK.out)))
     have n3_ := q0 (kb BK115.out hb)
     have n4_ := q0 (IsSRd.below (qi HI0.out) hb)
     have n5_ := q0 (KeepBut.trans (qh HK.out) (KeepBut.of_below hb g none) (.inl rfl))
     have n6_ := q0 (below_step (qj HB.out HI0.out) hb)
     clear HO_5
     clear HO121
     clear BK115
     clear HI0
     clear HK
     clear HB
     have HO_5 := n0_
     have HO121 := n1_
     have HO126 := n2_
     have BK115 := n3_
     have HI0 := n4_
     have HK := n5_
     have HB := n6_
     clear n0_ n1_ n2_ n3_ n4_ n5_ n6_
     (try clear hb)
     (try clear hb2)
     (try clear hk)
     (try clear hi)
     (try clear ho0)
     refine hK.out _ _ ⟨(blk_cell BK115.out 0).trans rfl, (blk_cell BK115.out 1).trans rfl, HS2_⟩ (fun hHeld => ?_)
     clear hK K
     refine nu 35 ?_
     refine pu 8 (some 7) (ba 9 511) HT_.out ?_
     refine done_ (done_of HT_.out (by kernel_rfl)) ?_
     try go_wp2
     go_meet
     case rel => exact ⟨_, (t107), H', ⟨by have := HK1.out; first | omega | exact Nat.le_refl _⟩, ⟨by (with_reducible repeat (first | apply Kd.R_alloc | apply Kd.R_drewN | apply Kd.R_drew)); exact Kd.R_mono HO_5.out (fun _ hk => hk.2)⟩, ⟨by (with_reducible repeat (first | apply Kd.R_alloc | apply Kd.R_drewN | apply Kd.R_drew)); exact Kd.R_mono HO126.out (fun _ hk => hk.1.2)⟩, ⟨qk BK115.out⟩, ⟨qi HI0.out⟩, ⟨qh HK.out⟩, ⟨qj HB.out HI0.out⟩⟩
   clear HC18
   try clear c1
   try clear c2
   try clear p2
   try clear c5
   try clear p6
   try clear c7
   try clear c8
   try clear p8
   try clear q8
   try clear hx8
   try clear c13
   try clear c13b0
   try clear c15
   try clear c15b0
   try clear c16
   try clear c16b0
   try clear c24
   try clear hcz8_0
   try clear hcz8_1
   try clear hfz8_0
   try clear hfz8_1
   try clear hx122_0
   try clear hx124_0
   try clear p2
   try clear p122
   try clear p124
   try clear q122
   try clear q124
   obtain ⟨kq, x7_17, HA, HJ17, HO_5, HO_7, BK115, HI0, HK, HB⟩ := hcut
   rcases kq with _ | kj17
   · exact absurd HA.out (by simp [spec_l71Walk.j1])
   have H := HA.out
   clear HA
   simp only [spec_l71Walk.j1] at H
   by_cases c28 : (x7_17.length : Int) = 0
   · rw [if_pos c28] at H
     have c28b0 : ((x7_17.length : Int) == 0) = true := beq_iff_eq.mpr c28
     have c28b1 : ((x7_17.length : Int) != 0) = false := bne_eq_false_iff_eq.mpr c28
     clear c28
     have H' := Aside0.mk H
     clear H
     obtain ⟨Ao29, co29, eo29⟩ := Kd.R_slice HO_7.out
     subst eo29
     go_wp2
     go_meet
     case rel => exact ⟨_, (x5_1), (x101_1), H', ⟨by have := HK1.out; have := HJ17.out; first | omega | exact Nat.le_refl _⟩, ⟨by (with_reducible repeat (first | apply Kd.R_alloc | apply Kd.R_drewN | apply Kd.R_drew)); exact Kd.R_mono HO_5.out (fun _ hk => trivial)⟩, ⟨qk BK115.out⟩, ⟨qi HI0.out⟩, ⟨qh HK.out⟩, ⟨qj HB.out HI0.out⟩⟩
   rw [if_neg c28] at H
   have c28b0 : ((x7_17.length : Int) == 0) = false := beq_eq_false_iff_ne.mpr c28
   have c28b1 : ((x7_17.length : Int) != 0) = true := bne_iff_ne.mpr c28
   have c28b2 : ¬ (x7_17 = []) := fun h_ => c28 (by rw [h_]; rfl)
   replace H := Option.bind_eq_some_iff.mp H
   obtain ⟨⟨t108, t127⟩, A128, H⟩ := H
   replace H : (if 0 ≤ t108 then (if t108 < (x7_17.length : Int) then ((spec_l2Has.f kj17 x5_1 (rd x7_17 t108)).bind fun t109 => (if t109 = true then ((spec_l6Rd_pick.f kj17 s0_0 t127 6).bind fun bt110 => (if bt110.1 > 0 then (spec_l71Walk.l0 kj17 x5_1 (wrap64 (x6_1 - 1)) s0_0 bt110.2 a1_0 l1_1) else (if x5_1.length < 17592186044416 then (spec_l71Walk.l0 kj17 (x5_1 ++ [rd x7_17 t108]) (wrap64 (x6_1 - 1)) s0_0 bt110.2 a1_0 l1_1) else (none)))) else (if x5_1.length < 17592186044416 then (spec_l71Walk.l0 kj17 (x5_1 ++ [rd x7_17 t108]) (wrap64 (x6_1 - 1)) s0_0 t127 a1_0 l1_1) else (none)))) else (none)) else (none)) = some (r1, r2) := H
   have A30 := Aside0.mk A128
   clear A128
   by_cases c31 : 0 ≤ t108
   rotate_left
   · rw [if_neg c31] at H
     exact absurd H (by simp)
   rw [if_pos c31] at H
   have c31b0 : decide (0 ≤ t108) = true := decide_eq_true c31
   clear c31
   by_cases c32 : t108 < (x7_17.length : Int)
   rotate_left
   · rw [if_neg c32] at H
     exact absurd H (by simp)
   rw [if_pos c32] at H
   have c32b0 : decide (t108 < (x7_17.length : Int)) = true := decide_eq_true c32
   clear c32
   replace H := Option.bind_eq_some_iff.mp H
   obtain ⟨t109, A129, H⟩ := H
   replace H : (if t109 = true then ((spec_l6Rd_pick.f kj17 s0_0 t127 6).bind fun bt110 => (if bt110.1 > 0 then (spec_l71Walk.l0 kj17 x5_1 (wrap64 (x6_1 - 1)) s0_0 bt110.2 a1_0 l1_1) else (if x5_1.length < 17592186044416 then (spec_l71Walk.l0 kj17 (x5_1 ++ [rd x7_17 t108]) (wrap64 (x6_1 - 1)) s0_0 bt110.2 a1_0 l1_1) else (none)))) else (if x5_1.length < 17592186044416 then (spec_l71Walk.l0 kj17 (x5_1 ++ [rd x7_17 t108]) (wrap64 (x6_1 - 1)) s0_0 t127 a1_0 l1_1) else (none))) = some (r1, r2) := H
   have A33 := Aside0.mk A129
   clear A129
   by_cases c34 : t109 = true
   rotate_left
   · replace c34 := Bool.eq_false_iff.mpr c34
     subst c34
     have H1 : (if x5_1.length < 17592186044416 then (spec_l71Walk.l0 kj17 (x5_1 ++ [rd x7_17 t108]) (wrap64 (x6_1 - 1)) s0_0 t127 a1_0 l1_1) else (none)) = some (r1, r2) := by rw [if_neg (show ¬ (false = true) by decide)] at H; exact H
     clear H
     have H := H1
     clear H1
     by_cases c45 : x5_1.length < 17592186044416
     rotate_left
     · rw [if_neg c45] at H
       exact absurd H (by simp)
     rw [if_pos c45] at H
     have LMc45 := Aside0.mk c45
     clear c45
     obtain ⟨y136, hy136⟩ : ∃ y_ : List Int, y_ = (x5_1 ++ [rd x7_17 t108]) := ⟨_, rfl⟩
     replace H : (spec_l71Walk.l0 kj17 y136 (wrap64 (x6_1 - 1)) s0_0 t127 a1_0 l1_1) = some (r1, r2) := by first | (rw [hy136]; with_reducible exact H) | (have H2_ := (Option.bind_some _ _).symm.trans H; rw [hy136]; with_reducible exact H2_) | (have H2_ := (Option.bind_some _ _).symm.trans H; with_reducible exact H2_) | with_reducible exact H | (rw [hy136]; exact H) | exact H
     have Ny136 := Aside0.mk hy136
     clear hy136
     have H' := Aside0.mk H
     clear H
     obtain ⟨Ao46, co46, eo46⟩ := Kd.R_slice HO_7.out
     subst eo46
     go_wp2_with (first | ((with_reducible refine gate_callee (f := 81) rfl ?_); refine goesL_ (some 43) rfl rfl Try.func81 (by kernel_rfl) rfl #[.pointer (some ⟨g, 0, none⟩), .int .i64 (x7_17.length : Int)] rfl qm ?_; (with_reducible refine (spec_l6Rd_pick.calls kj17 g s0_0 x101_1 (x7_17.length : Int) t108 t127 w0 _ ?side1 ?side2 A30.out).mono ?_); (case side1 => repeat (first | (with_reducible first | exact HI0.out | apply IsSRd.alloc | apply IsSRd.drewN | apply IsSRd.drew | apply IsSRd.set_1 | refine IsSRd.far ?_ NB0_115.out _) | exact HI0.out)); (case side2 => repeat (first | (with_reducible first | exact HB.out | apply below_alloc | apply pw_below_drewN | apply below_drew1 | refine below_set ?_ (IsSRd.ge HI0.out) | refine below_set ?_ GE115.out) | exact HB.out)); rintro e w47 ⟨rfl, hi, hb, hk⟩; refine ⟨_, rfl, ?_⟩; have n0_ := q0 (Kd.R_mono (Kd.R_keep (IsSRd.apart (show IsSRd w0 _ g s0_0 x101_1 from qi HI0.out) (qr HO_5.out) (by decide)) hk (fun _ h => h.2)) (fun _ h => h.1)); have n1_ := q0 (Kd.R_mono (Kd.R_keep (IsSRd.apart (show IsSRd w0 _ g s0_0 x101_1 from qi HI0.out) (qr HO_7.out) (by decide)) hk (fun _ h => h.2)) (fun _ h => h.1)); have n2_ := q0 (KeepBut.blk hk (g' := gb115) (o := .cells #[.int .i64 a1_0, .slice A1_1 l1_1.length c1_1] 30 (0, 0)) (qk BK115.out) NB115_0.out (by simp)); have n3_ := q0 (KeepBut.trans (qh HK.out) hk (.inl rfl)); have n4_ := q0 (hb); have n5_ := q0 (hi); clear HO_5 HO_7 BK115 HK HB HI0; have HO_5 := n0_; have HO_7 := n1_; have BK115 := n2_; have HK := n3_; have HB := n4_; have HI0 := n5_; clear n0_ n1_ n2_ n3_ n4_ n5_; (try clear hb); (try clear hb2); (try clear hk); (try clear hi); have p132 : 0 ≤ (t108 : Int) := of_decide_eq_true qa; have q132 : t108 < (x7_17.length : Int) := of_decide_eq_true qa; obtain ⟨ad132, e132, hx132_0⟩ := Kd.at_int (Kd.R_reads' HO_7.out).2.2 t108 p132 q132; cases e132; replace p132 := eq_true p132; replace q132 := eq_true q132) | ((with_reducible refine gate_callee (f := 75) rfl ?_); refine goesL_ (some 48) rfl rfl Try.func75 (by kernel_rfl) rfl #[.slice (some ad122) x5_1.length co22, .int .i64 (rd x7_17 t108)] rfl qm ?_; (with_reducible refine (spec_l2Has.calls kj17 _ _ x5_1 (rd x7_17 t108) false _ ?side1 ?side2 A33.out).mono ?_); (case side1 => exact qc (Kd.R_reads' HO_5.out).2.2); (case side2 => exact (Kd.R_reads' HO_5.out).2.1); rintro e w' ⟨rfl, ⟨nd, rfl⟩⟩; refine ⟨_, rfl, ?_⟩) | ((with_reducible refine gate_builtin (b := .append) (xs := #[.tmp 54, .tmp 56]) rfl ?_); at_builtin; refine Kd.R_append (Kd.int .i64) w.heap.size rfl (.tmp 54) (.tmp 56) 26 3 (.int .i64 0) 8 rfl Try.underlying26 info3 rfl (by decide) (by omega) (.slice (some ad122) x5_1.length co22) x5_1 (rd x7_17 t108) [.int .i64 (rd x7_17 t108)] (fun k_ => some k_ ≠ (.slice (some ad132) x7_17.length co46 : Value).ownBlock) (fun _ => False) rfl rfl ?aP (fun _ hk => hk.elim) ?aF ?aO (Below.refl _ _) ?aS ?aL ?_; (case aP => exact rfl); (case aF => exact (fun k_ hk => Kd.fresh' (Kd.R_lt (qr HO_7.out)) k_ hk)); (case aO => exact (qr HO_5.out)); (case aS => exact (keep_size (w := w) (g := g) (row := none) (qh HK.out))); (case aL => have := LMc45.out; omega); intro v137 w48 ho hb hg hat; rw [← Ny136.out] at ho; have n0_ := q0 (Kd.R_after (ok := (fun _ => True)) (by (with_reducible repeat (first | apply Kd.R_alloc | apply Kd.R_drewN | apply Kd.R_drew)); exact Kd.R_mono HO_7.out (fun _ hk => ⟨trivial, hk⟩)) hg hat); have n1_ := q0 (blk_grown (g := gb115) (o := .cells #[.int .i64 a1_0, .slice A1_1 l1_1.length c1_1] 30 (0, 0)) (qk BK115.out) hg (Kd.R_ne HO_5.out BK115.out (by decide))); have n2_ := q0 (IsSRd.grown (qi HI0.out) hg (IsSRd.own_ne HI0.out HO_5.out (by decide))); have n3_ := q0 (below_weaken (qj HB.out HI0.out) HL.out hb); have n4_ := q0 (KeepBut.trans (qh HK.out) (KeepBut.of_grown hg g) (Kd.R_base2 HO_5.out)); have n5_ := q0 (ho); clear HO_7 BK115 HI0 HB HK HO_5; have HO_7 := n0_; have BK115 := n1_; have HI0 := n2_; have HB := n3_; have HK := n4_; have HO138 := n5_; clear n0_ n1_ n2_ n3_ n4_ n5_ ho hb hg hat))
     go_roundg kj17
     case measure => have := HK1.out; have := HJ17.out; omega
     case rel => exact ⟨(y136), (wrap64 (x6_1 - 1)), (t127), qs, H', ⟨by have := HK1.out; have := HJ17.out; omega⟩, ⟨by (with_reducible repeat (first | apply Kd.R_alloc | apply Kd.R_drewN | apply Kd.R_drew)); exact Kd.R_mono HO138.out (fun _ hk => trivial)⟩, ⟨qk BK115.out⟩, ⟨qi HI0.out⟩, ⟨qh HK.out⟩, ⟨qj HB.out HI0.out⟩⟩
   subst c34
   have H1 : ((spec_l6Rd_pick.f kj17 s0_0 t127 6).bind fun bt110 => (if bt110.1 > 0 then (spec_l71Walk.l0 kj17 x5_1 (wrap64 (x6_1 - 1)) s0_0 bt110.2 a1_0 l1_1) else (if x5_1.length < 17592186044416 then (spec_l71Walk.l0 kj17 (x5_1 ++ [rd x7_17 t108]) (wrap64 (x6_1 - 1)) s0_0 bt110.2 a1_0 l1_1) else (none)))) = some (r1, r2) := by rw [if_pos rfl] at H; exact H
   clear H
   have H := H1
   clear H1
   replace H := Option.bind_eq_some_iff.mp H
   obtain ⟨⟨t110, t130⟩, A131, H⟩ := H
   replace H : (if t110 > 0 then (spec_l71Walk.l0 kj17 x5_1 (wrap64 (x6_1 - 1)) s0_0 t130 a1_0 l1_1) else (if x5_1.length < 17592186044416 then (spec_l71Walk.l0 kj17 (x5_1 ++ [rd x7_17 t108]) (wrap64 (x6_1 - 1)) s0_0 t130 a1_0 l1_1) else (none))) = some (r1, r2) := H
   have A35 := Aside0.mk A131
   clear A131
   by_cases c36 : t110 > 0
   · rw [if_pos c36] at H
     have c36b0 : decide (0 < t110) = true := decide_eq_true c36
     clear c36
     have H' := Aside0.mk H
     clear H
     obtain ⟨Ao37, co37, eo37⟩ := Kd.R_slice HO_7.out
     subst eo37
     go_wp2_with (first | ((with_reducible refine gate_callee (f := 81) rfl ?_); refine goesL_ (some 43) rfl rfl Try.func81 (by kernel_rfl) rfl #[.pointer (some ⟨g, 0, none⟩), .int .i64 (x7_17.length : Int)] rfl qm ?_; (with_reducible refine (spec_l6Rd_pick.calls kj17 g s0_0 x101_1 (x7_17.length : Int) t108 t127 w0 _ ?side1 ?side2 A30.out).mono ?_); (case side1 => repeat (first | (with_reducible first | exact HI0.out | apply IsSRd.alloc | apply IsSRd.drewN | apply IsSRd.drew | apply IsSRd.set_1 | refine IsSRd.far ?_ NB0_115.out _) | exact HI0.out)); (case side2 => repeat (first | (with_reducible first | exact HB.out | apply below_alloc | apply pw_below_drewN | apply below_drew1 | refine below_set ?_ (IsSRd.ge HI0.out) | refine below_set ?_ GE115.out) | exact HB.out)); rintro e w38 ⟨rfl, hi, hb, hk⟩; refine ⟨_, rfl, ?_⟩; have n0_ := q0 (Kd.R_mono (Kd.R_keep (IsSRd.apart (show IsSRd w0 _ g s0_0 x101_1 from qi HI0.out) (qr HO_5.out) (by decide)) hk (fun _ h => h.2)) (fun _ h => h.1)); have n1_ := q0 (Kd.R_mono (Kd.R_keep (IsSRd.apart (show IsSRd w0 _ g s0_0 x101_1 from qi HI0.out) (qr HO_7.out) (by decide)) hk (fun _ h => h.2)) (fun _ h => h.1)); have n2_ := q0 (KeepBut.blk hk (g' := gb115) (o := .cells #[.int .i64 a1_0, .slice A1_1 l1_1.length c1_1] 30 (0, 0)) (qk BK115.out) NB115_0.out (by simp)); have n3_ := q0 (KeepBut.trans (qh HK.out) hk (.inl rfl)); have n4_ := q0 (hb); have n5_ := q0 (hi); clear HO_5 HO_7 BK115 HK HB HI0; have HO_5 := n0_; have HO_7 := n1_; have BK115 := n2_; have HK := n3_; have HB := n4_; have HI0 := n5_; clear n0_ n1_ n2_ n3_ n4_ n5_; (try clear hb); (try clear hb2); (try clear hk); (try clear hi); have p132 : 0 ≤ (t108 : Int) := of_decide_eq_true qa; have q132 : t108 < (x7_17.length : Int) := of_decide_eq_true qa; obtain ⟨ad132, e132, hx132_0⟩ := Kd.at_int (Kd.R_reads' HO_7.out).2.2 t108 p132 q132; cases e132; replace p132 := eq_true p132; replace q132 := eq_true q132) | ((with_reducible refine gate_callee (f := 75) rfl ?_); refine goesL_ (some 48) rfl rfl Try.func75 (by kernel_rfl) rfl #[.slice (some ad122) x5_1.length co22, .int .i64 (rd x7_17 t108)] rfl qm ?_; (with_reducible refine (spec_l2Has.calls kj17 _ _ x5_1 (rd x7_17 t108) true _ ?side1 ?side2 A33.out).mono ?_); (case side1 => exact qc (Kd.R_reads' HO_5.out).2.2); (case side2 => exact (Kd.R_reads' HO_5.out).2.1); rintro e w' ⟨rfl, ⟨nd, rfl⟩⟩; refine ⟨_, rfl, ?_⟩) | (go_at_call 81; (with_reducible refine (spec_l6Rd_pick.calls kj17 g s0_0 t127 6 t110 t130 w0 _ ?side1 ?side2 A35.out).mono ?_); (case side1 => repeat (first | (with_reducible first | exact HI0.out | apply IsSRd.alloc | apply IsSRd.drewN | apply IsSRd.drew | apply IsSRd.set_1 | refine IsSRd.far ?_ NB0_115.out _) | exact HI0.out)); (case side2 => repeat (first | (with_reducible first | exact HB.out | apply below_alloc | apply pw_below_drewN | apply below_drew1 | refine below_set ?_ (IsSRd.ge HI0.out) | refine below_set ?_ GE115.out) | exact HB.out)); rintro e w39 ⟨rfl, hi, hb, hk⟩; have n0_ := q0 (Kd.R_mono (Kd.R_keep (IsSRd.apart (show IsSRd w0 _ g s0_0 t127 from qi HI0.out) (qr HO_5.out) (by decide)) hk (fun _ h => h.2)) (fun _ h => h.1)); have n1_ := q0 (Kd.R_mono (Kd.R_keep (IsSRd.apart (show IsSRd w0 _ g s0_0 t127 from qi HI0.out) (qr HO_7.out) (by decide)) hk (fun _ h => h.2)) (fun _ h => h.1)); have n2_ := q0 (KeepBut.blk hk (g' := gb115) (o := .cells #[.int .i64 a1_0, .slice A1_1 l1_1.length c1_1] 30 (0, 0)) (qk BK115.out) NB115_0.out (by simp)); have n3_ := q0 (KeepBut.trans (qh HK.out) hk (.inl rfl)); have n4_ := q0 (hb); have n5_ := q0 (hi); clear HO_5 HO_7 BK115 HK HB HI0; have HO_5 := n0_; have HO_7 := n1_; have BK115 := n2_; have HK := n3_; have HB := n4_; have HI0 := n5_; clear n0_ n1_ n2_ n3_ n4_ n5_; (try clear hb); (try clear hb2); (try clear hk); (try clear hi)))
     go_roundg kj17
     case measure => have := HK1.out; have := HJ17.out; omega
     case rel => exact ⟨(x5_1), (wrap64 (x6_1 - 1)), (t130), qs, H', ⟨by have := HK1.out; have := HJ17.out; omega⟩, ⟨by (with_reducible repeat (first | apply Kd.R_alloc | apply Kd.R_drewN | apply Kd.R_drew)); exact Kd.R_mono HO_5.out (fun _ hk => trivial)⟩, ⟨qk BK115.out⟩, ⟨qi HI0.out⟩, ⟨qh HK.out⟩, ⟨qj HB.out HI0.out⟩⟩
   rw [if_neg c36] at H
   have c36b0 : decide (0 < t110) = false := decide_eq_false c36
   clear c36
   by_cases c40 : x5_1.length < 17592186044416
   rotate_left
   · rw [if_neg c40] at H
     exact absurd H (by simp)
   rw [if_pos c40] at H
   have LMc40 := Aside0.mk c40
   clear c40
   obtain ⟨y133, hy133⟩ : ∃ y_ : List Int, y_ = (x5_1 ++ [rd x7_17 t108]) := ⟨_, rfl⟩
   replace H : (spec_l71Walk.l0 kj17 y133 (wrap64 (x6_1 - 1)) s0_0 t130 a1_0 l1_1) = some (r1, r2) := by first | (rw [hy133]; with_reducible exact H) | (have H2_ := (Option.bind_some _ _).symm.trans H; rw [hy133]; with_reducible exact H2_) | (have H2_ := (Option.bind_some _ _).symm.trans H; with_reducible exact H2_) | with_reducible exact H | (rw [hy133]; exact H) | exact H
   have Ny133 := Aside0.mk hy133
   clear hy133
   have H' := Aside0.mk H
   clear H
   obtain ⟨Ao41, co41, eo41⟩ := Kd.R_slice HO_7.out
   subst eo41
   go_wp2_with (first | ((with_reducible refine gate_callee (f := 81) rfl ?_); refine goesL_ (some 43) rfl rfl Try.func81 (by kernel_rfl) rfl #[.pointer (some ⟨g, 0, none⟩), .int .i64 (x7_17.length : Int)] rfl qm ?_; (with_reducible refine (spec_l6Rd_pick.calls kj17 g s0_0 x101_1 (x7_17.length : Int) t108 t127 w0 _ ?side1 ?side2 A30.out).mono ?_); (case side1 => repeat (first | (with_reducible first | exact HI0.out | apply IsSRd.alloc | apply IsSRd.drewN | apply IsSRd.drew | apply IsSRd.set_1 | refine IsSRd.far ?_ NB0_115.out _) | exact HI0.out)); (case side2 => repeat (first | (with_reducible first | exact HB.out | apply below_alloc | apply pw_below_drewN | apply below_drew1 | refine below_set ?_ (IsSRd.ge HI0.out) | refine below_set ?_ GE115.out) | exact HB.out)); rintro e w42 ⟨rfl, hi, hb, hk⟩; refine ⟨_, rfl, ?_⟩; have n0_ := q0 (Kd.R_mono (Kd.R_keep (IsSRd.apart (show IsSRd w0 _ g s0_0 x101_1 from qi HI0.out) (qr HO_5.out) (by decide)) hk (fun _ h => h.2)) (fun _ h => h.1)); have n1_ := q0 (Kd.R_mono (Kd.R_keep (IsSRd.apart (show IsSRd w0 _ g s0_0 x101_1 from qi HI0.out) (qr HO_7.out) (by decide)) hk (fun _ h => h.2)) (fun _ h => h.1)); have n2_ := q0 (KeepBut.blk hk (g' := gb115) (o := .cells #[.int .i64 a1_0, .slice A1_1 l1_1.length c1_1] 30 (0, 0)) (qk BK115.out) NB115_0.out (by simp)); have n3_ := q0 (KeepBut.trans (qh HK.out) hk (.inl rfl)); have n4_ := q0 (hb); have n5_ := q0 (hi); clear HO_5 HO_7 BK115 HK HB HI0; have HO_5 := n0_; have HO_7 := n1_; have BK115 := n2_; have HK := n3_; have HB := n4_; have HI0 := n5_; clear n0_ n1_ n2_ n3_ n4_ n5_; (try clear hb); (try clear hb2); (try clear hk); (try clear hi); have p132 : 0 ≤ (t108 : Int) := of_decide_eq_true qa; have q132 : t108 < (x7_17.length : Int) := of_decide_eq_true qa; obtain ⟨ad132, e132, hx132_0⟩ := Kd.at_int (Kd.R_reads' HO_7.out).2.2 t108 p132 q132; cases e132; replace p132 := eq_true p132; replace q132 := eq_true q132) | ((with_reducible refine gate_callee (f := 75) rfl ?_); refine goesL_ (some 48) rfl rfl Try.func75 (by kernel_rfl) rfl #[.slice (some ad122) x5_1.length co22, .int .i64 (rd x7_17 t108)] rfl qm ?_; (with_reducible refine (spec_l2Has.calls kj17 _ _ x5_1 (rd x7_17 t108) true _ ?side1 ?side2 A33.out).mono ?_); (case side1 => exact qc (Kd.R_reads' HO_5.out).2.2); (case side2 => exact (Kd.R_reads' HO_5.out).2.1); rintro e w' ⟨rfl, ⟨nd, rfl⟩⟩; refine ⟨_, rfl, ?_⟩) | (go_at_call 81; (with_reducible refine (spec_l6Rd_pick.calls kj17 g s0_0 t127 6 t110 t130 w0 _ ?side1 ?side2 A35.out).mono ?_); (case side1 => repeat (first | (with_reducible first | exact HI0.out | apply IsSRd.alloc | apply IsSRd.drewN | apply IsSRd.drew | apply IsSRd.set_1 | refine IsSRd.far ?_ NB0_115.out _) | exact HI0.out)); (case side2 => repeat (first | (with_reducible first | exact HB.out | apply below_alloc | apply pw_below_drewN | apply below_drew1 | refine below_set ?_ (IsSRd.ge HI0.out) | refine below_set ?_ GE115.out) | exact HB.out)); rintro e w43 ⟨rfl, hi, hb, hk⟩; have n0_ := q0 (Kd.R_mono (Kd.R_keep (IsSRd.apart (show IsSRd w0 _ g s0_0 t127 from qi HI0.out) (qr HO_5.out) (by decide)) hk (fun _ h => h.2)) (fun _ h => h.1)); have n1_ := q0 (Kd.R_mono (Kd.R_keep (IsSRd.apart (show IsSRd w0 _ g s0_0 t127 from qi HI0.out) (qr HO_7.out) (by decide)) hk (fun _ h => h.2)) (fun _ h => h.1)); have n2_ := q0 (KeepBut.blk hk (g' := gb115) (o := .cells #[.int .i64 a1_0, .slice A1_1 l1_1.length c1_1] 30 (0, 0)) (qk BK115.out) NB115_0.out (by simp)); have n3_ := q0 (KeepBut.trans (qh HK.out) hk (.inl rfl)); have n4_ := q0 (hb); have n5_ := q0 (hi); clear HO_5 HO_7 BK115 HK HB HI0; have HO_5 := n0_; have HO_7 := n1_; have BK115 := n2_; have HK := n3_; have HB := n4_; have HI0 := n5_; clear n0_ n1_ n2_ n3_ n4_ n5_; (try clear hb); (try clear hb2); (try clear hk); (try clear hi)) | ((with_reducible refine gate_builtin (b := .append) (xs := #[.tmp 54, .tmp 56]) rfl ?_); at_builtin; refine Kd.R_append (Kd.int .i64) w.heap.size rfl (.tmp 54) (.tmp 56) 26 3 (.int .i64 0) 8 rfl Try.underlying26 info3 rfl (by decide) (by omega) (.slice (some ad122) x5_1.length co22) x5_1 (rd x7_17 t108) [.int .i64 (rd x7_17 t108)] (fun k_ => some k_ ≠ (.slice (some ad132) x7_17.length co41 : Value).ownBlock) (fun _ => False) rfl rfl ?aP (fun _ hk => hk.elim) ?aF ?aO (Below.refl _ _) ?aS ?aL ?_; (case aP => exact rfl); (case aF => exact (fun k_ hk => Kd.fresh' (Kd.R_lt (qr HO_7.out)) k_ hk)); (case aO => exact (qr HO_5.out)); (case aS => exact (keep_size (w := w) (g := g) (row := none) (qh HK.out))); (case aL => have := LMc40.out; omega); intro v134 w44 ho hb hg hat; rw [← Ny133.out] at ho; have n0_ := q0 (Kd.R_after (ok := (fun _ => True)) (by (with_reducible repeat (first | apply Kd.R_alloc | apply Kd.R_drewN | apply Kd.R_drew)); exact Kd.R_mono HO_7.out (fun _ hk => ⟨trivial, hk⟩)) hg hat); have n1_ := q0 (blk_grown (g := gb115) (o := .cells #[.int .i64 a1_0, .slice A1_1 l1_1.length c1_1] 30 (0, 0)) (qk BK115.out) hg (Kd.R_ne HO_5.out BK115.out (by decide))); have n2_ := q0 (IsSRd.grown (qi HI0.out) hg (IsSRd.own_ne HI0.out HO_5.out (by decide))); have n3_ := q0 (below_weaken (qj HB.out HI0.out) HL.out hb); have n4_ := q0 (KeepBut.trans (qh HK.out) (KeepBut.of_grown hg g) (Kd.R_base2 HO_5.out)); have n5_ := q0 (ho); clear HO_7 BK115 HI0 HB HK HO_5; have HO_7 := n0_; have BK115 := n1_; have HI0 := n2_; have HB := n3_; have HK := n4_; have HO135 := n5_; clear n0_ n1_ n2_ n3_ n4_ n5_ ho hb hg hat))
   go_roundg kj17
   case measure => have := HK1.out; have := HJ17.out; omega
   case rel => exact ⟨(y133), (wrap64 (x6_1 - 1)), (t130), qs, H', ⟨by have := HK1.out; have := HJ17.out; omega⟩, ⟨by (with_reducible repeat (first | apply Kd.R_alloc | apply Kd.R_drewN | apply Kd.R_drew)); exact Kd.R_mono HO135.out (fun _ hk => trivial)⟩, ⟨qk BK115.out⟩, ⟨qi HI0.out⟩, ⟨qh HK.out⟩, ⟨qj HB.out HI0.out⟩⟩
 clear HC5
 try clear c1
 try clear c2
 try clear p2
 try clear c3
 try clear c4
 try clear c5
 try clear p6
 try clear c7
 try clear c8
 try clear p8
 try clear q8
 try clear hx8
 try clear c13
 try clear c13b0
 try clear c15
 try clear c15b0
 try clear c16
 try clear c16b0
 try clear c24
 try clear c28
 try clear c28b0
 try clear c28b1
 try clear c28b2
 try clear c31
 try clear c31b0
 try clear c32
 try clear c32b0
 try clear c34
 try clear c36
 try clear c36b0
 try clear c40
 try clear c45
 try clear hcz8_0
 try clear hcz8_1
 try clear hfz8_0
 try clear hfz8_1
 try clear hx122_0
 try clear hx124_0
 try clear hx132_0
 try clear p2
 try clear p6
 try clear p8
 try clear p122
 try clear p124
 try clear p132
 try clear q8
 try clear q122
 try clear q124
 try clear q132
 obtain ⟨kq, x5_4, x101_4, HA, HJ4, HO_5, BK115, HI0, HK, HB⟩ := hcut
 rcases kq with _ | kj4
 · exact absurd HA.out (by simp [spec_l71Walk.j2])
 have H := HA.out
 clear HA
 simp only [spec_l71Walk.j2] at H
 replace H := Option.bind_eq_some_iff.mp H
 obtain ⟨⟨t102, t139⟩, A140, H⟩ := H
 replace H : (if t102 = 0 then ((spec_l6Rd_pick.f kj4 s0_0 t139 (x5_4.length : Int)).bind fun bt103 => ((spec_l6Rd_pick.f kj4 s0_0 bt103.2 9).bind fun bt104 => (if 0 ≤ bt103.1 then (if bt103.1 < (x5_4.length : Int) then (some ((x5_4.set (bt103.1 : Int).toNat bt104.1), bt104.2)) else (none)) else (none)))) else (if t102 = 1 then (some ((([] : List Int)), t139)) else (some (x5_4, t139)))) = some (r1, r2) := H
 have A49 := Aside0.mk A140
 clear A140
 by_cases c50 : t102 = 0
 rotate_left
 · rw [if_neg c50] at H
   have c50b0 : (t102 == 0) = false := beq_eq_false_iff_ne.mpr c50
   have c50b1 : (t102 != 0) = true := bne_iff_ne.mpr c50
   by_cases c62 : t102 = 1
   rotate_left
   · rw [if_neg c62] at H
     have c62b0 : (t102 == 1) = false := beq_eq_false_iff_ne.mpr c62
     have c62b1 : (t102 != 1) = true := bne_iff_ne.mpr c62
     simp only [Option.some.injEq, Prod.mk.injEq] at H
     obtain ⟨rfl, rfl⟩ := H
     go_wp2_with (first | ((with_reducible refine gate_callee (f := 81) rfl ?_); refine goesL_ (some 59) rfl rfl Try.func81 (by kernel_rfl) rfl #[.pointer (some ⟨g, 0, none⟩), .int .i64 16] rfl qm ?_; (with_reducible refine (spec_l6Rd_pick.calls kj4 g s0_0 x101_4 16 t102 t139 w0 _ ?side1 ?side2 A49.out).mono ?_); (case side1 => repeat (first | (with_reducible first | exact HI0.out | apply IsSRd.alloc | apply IsSRd.drewN | apply IsSRd.drew | apply IsSRd.set_1 | refine IsSRd.far ?_ NB0_115.out _) | exact HI0.out)); (case side2 => repeat (first | (with_reducible first | exact HB.out | apply below_alloc | apply pw_below_drewN | apply below_drew1 | refine below_set ?_ (IsSRd.ge HI0.out) | refine below_set ?_ GE115.out) | exact HB.out)); rintro e w66 ⟨rfl, hi, hb, hk⟩; refine ⟨_, rfl, ?_⟩; have n0_ := q0 (Kd.R_mono (Kd.R_keep (IsSRd.apart (show IsSRd w0 _ g s0_0 x101_4 from qi HI0.out) (qr HO_5.out) (by decide)) hk (fun _ h => h.2)) (fun _ h => h.1)); have n1_ := q0 (KeepBut.blk hk (g' := gb115) (o := .cells #[.int .i64 a1_0, .slice A1_1 l1_1.length c1_1] 30 (0, 0)) (qk BK115.out) NB115_0.out (by simp)); have n2_ := q0 (KeepBut.trans (qh HK.out) hk (.inl rfl)); have n3_ := q0 (hb); have n4_ := q0 (hi); clear HO_5 BK115 HK HB HI0; have HO_5 := n0_; have BK115 := n1_; have HK := n2_; have HB := n3_; have HI0 := n4_; clear n0_ n1_ n2_ n3_ n4_; (try clear hb); (try clear hb2); (try clear hk); (try clear hi)))
     go_ret
     exact ⟨_, qe, by (with_reducible repeat (first | apply Kd.R_alloc | apply Kd.R_drewN | apply Kd.R_drew)); exact HO_5.out, by repeat (first | (with_reducible first | exact HI0.out | apply IsSRd.alloc | apply IsSRd.drewN | apply IsSRd.drew | apply IsSRd.set_1 | refine IsSRd.far ?_ NB0_115.out _) | exact HI0.out), by repeat (first | (with_reducible first | exact HB.out | apply below_alloc | apply pw_below_drewN | apply below_drew1 | refine below_set ?_ (IsSRd.ge HI0.out) | refine below_set ?_ GE115.out) | exact HB.out), by repeat (first | (with_reducible first | exact HK.out | apply KeepBut.set_ | apply keep_drewN | apply keep_drew | apply keep_alloc | refine keep_far ?_ GW115.out _) | exact HK.out)⟩
   rw [if_pos c62] at H
   have c62b0 : (t102 == 1) = true := beq_iff_eq.mpr c62
   have c62b1 : (t102 != 1) = false := bne_eq_false_iff_eq.mpr c62
   clear c62
   obtain ⟨y146, hy146⟩ : ∃ y_ : List Int, y_ = (([] : List Int)) := ⟨_, rfl⟩
   replace H : (some (y146, t139)) = some (r1, r2) := by first | (rw [hy146]; with_reducible exact H) | (have H2_ := (Option.bind_some _ _).symm.trans H; rw [hy146]; with_reducible exact H2_) | (have H2_ := (Option.bind_some _ _).symm.trans H; with_reducible exact H2_) | with_reducible exact H | (rw [hy146]; exact H) | exact H
   have Ny146 := Aside0.mk hy146
   clear hy146
   simp only [Option.some.injEq, Prod.mk.injEq] at H
   obtain ⟨rfl, rfl⟩ := H
   go_wp2_with (first | ((with_reducible refine gate_callee (f := 81) rfl ?_); refine goesL_ (some 59) rfl rfl Try.func81 (by kernel_rfl) rfl #[.pointer (some ⟨g, 0, none⟩), .int .i64 16] rfl qm ?_; (with_reducible refine (spec_l6Rd_pick.calls kj4 g s0_0 x101_4 16 t102 t139 w0 _ ?side1 ?side2 A49.out).mono ?_); (case side1 => repeat (first | (with_reducible first | exact HI0.out | apply IsSRd.alloc | apply IsSRd.drewN | apply IsSRd.drew | apply IsSRd.set_1 | refine IsSRd.far ?_ NB0_115.out _) | exact HI0.out)); (case side2 => repeat (first | (with_reducible first | exact HB.out | apply below_alloc | apply pw_below_drewN | apply below_drew1 | refine below_set ?_ (IsSRd.ge HI0.out) | refine below_set ?_ GE115.out) | exact HB.out)); rintro e w63 ⟨rfl, hi, hb, hk⟩; refine ⟨_, rfl, ?_⟩; have n0_ := q0 (Kd.R_mono (Kd.R_keep (IsSRd.apart (show IsSRd w0 _ g s0_0 x101_4 from qi HI0.out) (qr HO_5.out) (by decide)) hk (fun _ h => h.2)) (fun _ h => h.1)); have n1_ := q0 (KeepBut.blk hk (g' := gb115) (o := .cells #[.int .i64 a1_0, .slice A1_1 l1_1.length c1_1] 30 (0, 0)) (qk BK115.out) NB115_0.out (by simp)); have n2_ := q0 (KeepBut.trans (qh HK.out) hk (.inl rfl)); have n3_ := q0 (hb); have n4_ := q0 (hi); clear HO_5 BK115 HK HB HI0; have HO_5 := n0_; have BK115 := n1_; have HK := n2_; have HB := n3_; have HI0 := n4_; clear n0_ n1_ n2_ n3_ n4_; (try clear hb); (try clear hb2); (try clear hk); (try clear hi)) | ((with_reducible refine gate_dst (N := 72) rfl ?_); refine Kd.R_lit (Kd.int .i64) _ 3 ?hg (N := 72) ?hd (xs := ([] : List Int)) (inner := []) (ok := fun _ => True) (okp := fun _ => True) ?hr ?hp (fun _ hk => hk) trivial (Below.refl _ _) (Nat.le_refl _) (by simp) ?_; (case hd => rfl); (case hg => rfl); (case hr => first | (go_simp; done) | (go_simp; rfl)); (case hp => exact (Reps.none _ _)); intro v147 w64 ho65 hb hg_ hnew_; clear hg_ hnew_; (first | rw [← Ny146.out] at ho65 | (simp only [Int.reduceToNat] at ho65; rw [← Ny146.out] at ho65)); have n0_ := q0 (Kd.R_elder' (qr HO_5.out) (Kd.R_base ho65) hb); have n1_ := q0 (Kd.R_lower (Kd.R_new' ho65 (Kd.R_lt (qr HO_5.out))) (keep_size (w := w) (g := g) (row := none) (qh HK.out))); have n2_ := q0 (kb BK115.out hb); have n3_ := q0 (IsSRd.below (qi HI0.out) hb); have n4_ := q0 (KeepBut.trans (qh HK.out) (KeepBut.of_below hb g none) (.inl rfl)); have n5_ := q0 (below_step (qj HB.out HI0.out) hb); clear HO_5 BK115 HI0 HK HB; have HO_5 := n0_; have HO148 := n1_; have BK115 := n2_; have HI0 := n3_; have HK := n4_; have HB := n5_; clear n0_ n1_ n2_ n3_ n4_ n5_ hb ho65))
   go_ret
   exact ⟨_, qe, by (with_reducible repeat (first | apply Kd.R_alloc | apply Kd.R_drewN | apply Kd.R_drew)); exact Kd.R_mono HO148.out (fun _ hk => trivial), by repeat (first | (with_reducible first | exact HI0.out | apply IsSRd.alloc | apply IsSRd.drewN | apply IsSRd.drew | apply IsSRd.set_1 | refine IsSRd.far ?_ NB0_115.out _) | exact HI0.out), by repeat (first | (with_reducible first | exact HB.out | apply below_alloc | apply pw_below_drewN | apply below_drew1 | refine below_set ?_ (IsSRd.ge HI0.out) | refine below_set ?_ GE115.out) | exact HB.out), by repeat (first | (with_reducible first | exact HK.out | apply KeepBut.set_ | apply keep_drewN | apply keep_drew | apply keep_alloc | refine keep_far ?_ GW115.out _) | exact HK.out)⟩
 rw [if_pos c50] at H
 have c50b0 : (t102 == 0) = true := beq_iff_eq.mpr c50
 have c50b1 : (t102 != 0) = false := bne_eq_false_iff_eq.mpr c50
 clear c50
 replace H := Option.bind_eq_some_iff.mp H
 obtain ⟨⟨t103, t141⟩, A142, H⟩ := H
 replace H : ((spec_l6Rd_pick.f kj4 s0_0 t141 9).bind fun bt104 => (if 0 ≤ t103 then (if t103 < (x5_4.length : Int) then (some ((x5_4.set (t103 : Int).toNat bt104.1), bt104.2)) else (none)) else (none))) = some (r1, r2) := H
 have A51 := Aside0.mk A142
 clear A142
 replace H := Option.bind_eq_some_iff.mp H
 obtain ⟨⟨t104, t143⟩, A144, H⟩ := H
 replace H : (if 0 ≤ t103 then (if t103 < (x5_4.length : Int) then (some ((x5_4.set (t103 : Int).toNat t104), t143)) else (none)) else (none)) = some (r1, r2) := H
 have A52 := Aside0.mk A144
 clear A144
 by_cases c53 : 0 ≤ t103
 rotate_left
 · rw [if_neg c53] at H
   exact absurd H (by simp)
 rw [if_pos c53] at H
 have c53b0 : decide (0 ≤ t103) = true := decide_eq_true c53
 clear c53
 by_cases c54 : t103 < (x5_4.length : Int)
 rotate_left
 · rw [if_neg c54] at H
   exact absurd H (by simp)
 rw [if_pos c54] at H
 have c54b0 : decide (t103 < (x5_4.length : Int)) = true := decide_eq_true c54
 clear c54
 obtain ⟨y145, hy145⟩ : ∃ y_ : List Int, y_ = (x5_4.set (t103 : Int).toNat t104) := ⟨_, rfl⟩
 replace H : (some (y145, t143)) = some (r1, r2) := by first | (rw [hy145]; with_reducible exact H) | (have H2_ := (Option.bind_some _ _).symm.trans H; rw [hy145]; with_reducible exact H2_) | (have H2_ := (Option.bind_some _ _).symm.trans H; with_reducible exact H2_) | with_reducible exact H | (rw [hy145]; exact H) | exact H
 have Ny145 := Aside0.mk hy145
 clear hy145
 simp only [Option.some.injEq, Prod.mk.injEq] at H
 obtain ⟨rfl, rfl⟩ := H
 go_wp2_with (first | ((with_reducible refine gate_callee (f := 81) rfl ?_); refine goesL_ (some 59) rfl rfl Try.func81 (by kernel_rfl) rfl #[.pointer (some ⟨g, 0, none⟩), .int .i64 16] rfl qm ?_; (with_reducible refine (spec_l6Rd_pick.calls kj4 g s0_0 x101_4 16 t102 t139 w0 _ ?side1 ?side2 A49.out).mono ?_); (case side1 => repeat (first | (with_reducible first | exact HI0.out | apply IsSRd.alloc | apply IsSRd.drewN | apply IsSRd.drew | apply IsSRd.set_1 | refine IsSRd.far ?_ NB0_115.out _) | exact HI0.out)); (case side2 => repeat (first | (with_reducible first | exact HB.out | apply below_alloc | apply pw_below_drewN | apply below_drew1 | refine below_set ?_ (IsSRd.ge HI0.out) | refine below_set ?_ GE115.out) | exact HB.out)); rintro e w56 ⟨rfl, hi, hb, hk⟩; refine ⟨_, rfl, ?_⟩; have n0_ := q0 (Kd.R_mono (Kd.R_keep (IsSRd.apart (show IsSRd w0 _ g s0_0 x101_4 from qi HI0.out) (qr HO_5.out) (by decide)) hk (fun _ h => h.2)) (fun _ h => h.1)); have n1_ := q0 (KeepBut.blk hk (g' := gb115) (o := .cells #[.int .i64 a1_0, .slice A1_1 l1_1.length c1_1] 30 (0, 0)) (qk BK115.out) NB115_0.out (by simp)); have n2_ := q0 (KeepBut.trans (qh HK.out) hk (.inl rfl)); have n3_ := q0 (hb); have n4_ := q0 (hi); clear HO_5 BK115 HK HB HI0; have HO_5 := n0_; have BK115 := n1_; have HK := n2_; have HB := n3_; have HI0 := n4_; clear n0_ n1_ n2_ n3_ n4_; (try clear hb); (try clear hb2); (try clear hk); (try clear hi); obtain ⟨Ao57, co57, eo57⟩ := Kd.R_slice HO_5.out; subst eo57) | ((with_reducible refine gate_callee (f := 81) rfl ?_); refine goesL_ (some 66) rfl rfl Try.func81 (by kernel_rfl) rfl #[.pointer (some ⟨g, 0, none⟩), .int .i64 (x5_4.length : Int)] rfl qm ?_; (with_reducible refine (spec_l6Rd_pick.calls kj4 g s0_0 t139 (x5_4.length : Int) t103 t141 w0 _ ?side1 ?side2 A51.out).mono ?_); (case side1 => repeat (first | (with_reducible first | exact HI0.out | apply IsSRd.alloc | apply IsSRd.drewN | apply IsSRd.drew | apply IsSRd.set_1 | refine IsSRd.far ?_ NB0_115.out _) | exact HI0.out)); (case side2 => repeat (first | (with_reducible first | exact HB.out | apply below_alloc | apply pw_below_drewN | apply below_drew1 | refine below_set ?_ (IsSRd.ge HI0.out) | refine below_set ?_ GE115.out) | exact HB.out)); rintro e w58 ⟨rfl, hi, hb, hk⟩; refine ⟨_, rfl, ?_⟩; have n0_ := q0 (Kd.R_mono (Kd.R_keep (IsSRd.apart (show IsSRd w0 _ g s0_0 t139 from qi HI0.out) (qr HO_5.out) (by decide)) hk (fun _ h => h.2)) (fun _ h => h.1)); have n1_ := q0 (KeepBut.blk hk (g' := gb115) (o := .cells #[.int .i64 a1_0, .slice A1_1 l1_1.length c1_1] 30 (0, 0)) (qk BK115.out) NB115_0.out (by simp)); have n2_ := q0 (KeepBut.trans (qh HK.out) hk (.inl rfl)); have n3_ := q0 (hb); have n4_ := q0 (hi); clear HO_5 BK115 HK HB HI0; have HO_5 := n0_; have BK115 := n1_; have HK := n2_; have HB := n3_; have HI0 := n4_; clear n0_ n1_ n2_ n3_ n4_; (try clear hb); (try clear hb2); (try clear hk); (try clear hi)) | ((with_reducible refine gate_callee (f := 81) rfl ?_); refine goesL_ (some 68) rfl rfl Try.func81 (by kernel_rfl) rfl #[.pointer (some ⟨g, 0, none⟩), .int .i64 9] rfl qm ?_; (with_reducible refine (spec_l6Rd_pick.calls kj4 g s0_0 t141 9 t104 t143 w0 _ ?side1 ?side2 A52.out).mono ?_); (case side1 => repeat (first | (with_reducible first | exact HI0.out | apply IsSRd.alloc | apply IsSRd.drewN | apply IsSRd.drew | apply IsSRd.set_1 | refine IsSRd.far ?_ NB0_115.out _) | exact HI0.out)); (case side2 => repeat (first | (with_reducible first | exact HB.out | apply below_alloc | apply pw_below_drewN | apply below_drew1 | refine below_set ?_ (IsSRd.ge HI0.out) | refine below_set ?_ GE115.out) | exact HB.out)); rintro e w59 ⟨rfl, hi, hb, hk⟩; refine ⟨_, rfl, ?_⟩; have n0_ := q0 (Kd.R_mono (Kd.R_keep (IsSRd.apart (show IsSRd w0 _ g s0_0 t141 from qi HI0.out) (qr HO_5.out) (by decide)) hk (fun _ h => h.2)) (fun _ h => h.1)); have n1_ := q0 (KeepBut.blk hk (g' := gb115) (o := .cells #[.int .i64 a1_0, .slice A1_1 l1_1.length c1_1] 30 (0, 0)) (qk BK115.out) NB115_0.out (by simp)); have n2_ := q0 (KeepBut.trans (qh HK.out) hk (.inl rfl)); have n3_ := q0 (hb); have n4_ := q0 (hi); clear HO_5 BK115 HK HB HI0; have HO_5 := n0_; have BK115 := n1_; have HK := n2_; have HB := n3_; have HI0 := n4_; clear n0_ n1_ n2_ n3_ n4_; (try clear hb); (try clear hb2); (try clear hk); (try clear hi); have p55 : 0 ≤ (t103 : Int) := of_decide_eq_true qa; have q55 : (t103 : Int) < ((x5_4.length : Int) : Int) := of_decide_eq_true qa; obtain ⟨go55, co55, eo55, gb55, gl55, cl55, HG55⟩ := Kd.R_form HO_5.out (by omega); (first | cases eo55 | (injection eo55 with ea_ en_ ec_; (first | subst ea_ | (injection ea_ with ea_; subst ea_)); subst ec_; clear en_)); have GB55 := Aside0.mk gb55; have GG55 := Aside0.mk HG55; clear gb55 gl55 HG55; obtain ⟨hx55_0, hf55_0⟩ := Kd.R_celln 0 HO_5.out (t103 : Int) p55 q55; replace p55 := eq_true p55; replace q55 := eq_true q55; obtain ⟨hy60_, hz60_⟩ := Kd.R_celln 0 HO_5.out (t103 : Int) (of_decide_eq_true qa) (of_decide_eq_true qa); have HP60 := Kd.R_putg HO_5.out (t103 : Int) t104) | ((with_reducible refine gate_store (t := 3) (p := 69) rfl ?_); refine store_event (t := 3) (p := 69) (v := ?vo_w61) (w1 := (w59.setCell ⟨go55, (t103 : Int).toNat, none⟩ (.int .i64 t104))) ?hg ?ho ?hn ?hr ?_; (case ho => rfl); (case hg => rfl); (case hn => rfl); (case hr => first | (go_simp; done) | (go_simp; rfl)); intro w61 hw; have hg : w59.grownBy w61 (some go55) := (by rw [hw]; exact HP60.2); have hp_ : Kd.R (Kd.int .i64) 3 w61 w.heap.size (fun _ => True) (.slice (some ⟨go55, 0, none⟩) x5_4.length co57) y145 := (by rw [hw, Ny145.out]; exact HP60.1); clear HP60; have n0_ := q0 (hp_); have n1_ := q0 (blk_grown (g := gb115) (o := .cells #[.int .i64 a1_0, .slice A1_1 l1_1.length c1_1] 30 (0, 0)) (qk BK115.out) hg (Kd.R_ne HO_5.out BK115.out (by decide))); have n2_ := q0 (IsSRd.grown (qi HI0.out) hg (IsSRd.own_ne HI0.out HO_5.out (by decide))); have n3_ := q0 ((by rw [hw]; exact below_set (HB.out) (Nat.le_trans HL.out GB55.out) : Below w0.heap.size w0 w61)); have n4_ := q0 (KeepBut.trans (qh HK.out) (KeepBut.of_grown hg g) (Kd.R_base2 HO_5.out)); clear HO_5 BK115 HI0 HB HK; have HO_5 := n0_; have BK115 := n1_; have HI0 := n2_; have HB := n3_; have HK := n4_; clear n0_ n1_ n2_ n3_ n4_ hg hw hp_))
 go_ret
 exact ⟨_, qe, by (with_reducible repeat (first | apply Kd.R_alloc | apply Kd.R_drewN | apply Kd.R_drew)); exact HO_5.out, by repeat (first | (with_reducible first | exact HI0.out | apply IsSRd.alloc | apply IsSRd.drewN | apply IsSRd.drew | apply IsSRd.set_1 | refine IsSRd.far ?_ NB0_115.out _) | exact HI0.out), by repeat (first | (with_reducible first | exact HB.out | apply below_alloc | apply pw_below_drewN | apply below_drew1 | refine below_set ?_ (IsSRd.ge HI0.out) | refine below_set ?_ GE115.out) | exact HB.out), by repeat (first | (with_reducible first | exact HK.out | apply KeepBut.set_ | apply keep_drewN | apply keep_drew | apply keep_alloc | refine keep_far ?_ GW115.out _) | exact HK.out)⟩

set_option maxHeartbeats 8000000 in
set_option maxRecDepth 100000 in
theorem spec_DrawWayOk.calls (k : Nat) (A0 : Option Addr) (c0 : Nat) (l0 : List Int) (r1 : Int) (r2 : List (STie)) (r3 : List Int) (w : World) (hr0 : Kd.C (Kd.int .u8) w A0 l0.length l0) (hc0 : l0.length ≤ c0) (h : spec_DrawWayOk.f k l0 = some (r1, r2, r3)) :
    Calls Try.prog 45 #[.slice A0 l0.length c0] w fun e w' => ∃ v1_ v2_ : Value, e = .returned (.tuple #[.agg #[.int .i64 r1, v1_], v2_]) ∧ Kd.R kTie 44 w' w.heap.size (fun _ => True) v1_ r2 ∧ Kd.R (Kd.int .i64) 3 w' w.heap.size (fun _ => True) v2_ r3 ∧ Below w.heap.size w w' := by
 have hu30 := Try.underlying30
 have HR0 := Aside0.mk hr0
 have HC0 := Aside0.mk hc0
 clear hr0 hc0
 have HB := q0 (Below.refl w.heap.size w)
 have H : ((spec_l6Open.f l0).bind fun bt100 => ((spec_l71Any.f k bt100.1 bt100.2).bind fun bt101 => ((spec_l71Walk.f k bt100.1 bt101.2.2 bt101.1 bt101.2.1).bind fun bt102 => (some (bt101.1, bt101.2.1, bt102.1))))) = some (r1, r2, r3) := h
 clear h
 replace H := Option.bind_eq_some_iff.mp H
 obtain ⟨⟨t100, t103⟩, A20, H⟩ := H
 replace H : ((spec_l71Any.f k t100 t103).bind fun bt101 => ((spec_l71Walk.f k t100 bt101.2.2 bt101.1 bt101.2.1).bind fun bt102 => (some (bt101.1, bt101.2.1, bt102.1)))) = some (r1, r2, r3) := H
 have A2 := Aside0.mk A20
 clear A20
 replace H := Option.bind_eq_some_iff.mp H
 obtain ⟨⟨t101, t104, t105⟩, A30, H⟩ := H
 replace H : ((spec_l71Walk.f k t100 t105 t101 t104).bind fun bt102 => (some (t101, t104, bt102.1))) = some (r1, r2, r3) := H
 have A3 := Aside0.mk A30
 clear A30
 replace H := Option.bind_eq_some_iff.mp H
 obtain ⟨⟨t102, t106⟩, A40, H⟩ := H
 replace H : (some (t101, t104, t102)) = some (r1, r2, r3) := H
 have A4 := Aside0.mk A40
 clear A40
 simp only [Option.some.injEq, Prod.mk.injEq] at H
 obtain ⟨rfl, rfl, rfl⟩ := H
 go_enter Try.func45, Try.ntmps45
 try go_wp2_with (first | ((with_reducible refine gate_dst (N := 2) rfl ?_); refine be 2 #[.int .i64 0, .slice none 0 0] 30 ?_; intro gb107 hg w5 hbox hb; have n0_ := q0 (below_step (qb HB.out) hb); have n1_ := q0 (hbox); have n2_ := q0 ((bs HB.out hg : w.heap.size ≤ gb107)); have n3_ := q0 ((bs HB.out hg : w.heap.size ≤ gb107)); clear HB; have HB := n0_; have BK107 := n1_; have GW107 := n2_; have GE107 := n3_; clear n0_ n1_ n2_ n3_ hb hbox hg) | ((with_reducible refine gate_callee (f := 62) rfl ?_); refine goesL_ (some 7) rfl rfl Try.func62 (by kernel_rfl) rfl #[.slice A0 l0.length c0] rfl qm ?_; (with_reducible refine (spec_l6Open.calls _ _ l0 t100 t103 w _ ?side1 ?side2 ?side3 A2.out).mono ?_); (case side1 => exact qb HB.out); (case side2 => exact HR0.out); (case side3 => exact HC0.out); rintro e w6 ⟨g108, rfl, hi, hb, hb2⟩; refine ⟨_, rfl, ?_⟩; have n0_ := q0 (kb BK107.out hb2); have n1_ := q0 (hb); have n2_ := q0 (hi); have n3_ := q0 (IsSRd.ne_blk hi (kb BK107.out hb2) (by decide)); have n4_ := q0 (Ne.symm (IsSRd.ne_blk hi (kb BK107.out hb2) (by decide))); clear BK107 HB; have BK107 := n0_; have HB := n1_; have HI108 := n2_; have NB108_107 := n3_; have NB107_108 := n4_; clear n0_ n1_ n2_ n3_ n4_; (try clear hb); (try clear hb2); (try clear hk); (try clear hi)) | ((with_reducible refine gate_callee (f := 61) rfl ?_); refine goesL_ (some 9) rfl rfl Try.func61 (by kernel_rfl) rfl #[.pointer (some ⟨g108, 0, none⟩)] rfl qm ?_; (with_reducible refine (spec_l71Any.calls k g108 t100 t103 t101 t104 t105 w _ ?side1 ?side2 A3.out).mono ?_); (case side1 => repeat (first | (with_reducible first | exact HI108.out | apply IsSRd.alloc | apply IsSRd.drewN | apply IsSRd.drew | apply IsSRd.set_1 | refine IsSRd.far ?_ NB108_107.out _) | exact HI108.out)); (case side2 => repeat (first | (with_reducible first | exact HB.out | apply below_alloc | apply pw_below_drewN | apply below_drew1 | refine below_set ?_ (IsSRd.ge HI108.out) | refine below_set ?_ GE107.out) | exact HB.out)); rintro e w7 ⟨v109, rfl, ho0, hi, hb, hk⟩; refine ⟨_, rfl, ?_⟩; have n0_ := q0 (KeepBut.blk hk (g' := gb107) (o := .cells #[.int .i64 0, .slice none 0 0] 30 (0, 0)) (qk BK107.out) NB107_108.out (by simp)); have n1_ := q0 (Kd.R_lower ho0 (below_size (qj HB.out HI108.out))); have n2_ := q0 (hb); have n3_ := q0 (hi); clear BK107 HB HI108; have BK107 := n0_; have HO110 := n1_; have HB := n2_; have HI108 := n3_; clear n0_ n1_ n2_ n3_; (try clear hb); (try clear hb2); (try clear hk); (try clear hi); (try clear ho0)) | ((with_reducible refine gate_dst (N := 5) rfl ?_); refine be 5 #[.int .i64 0, .slice none 0 0] 30 ?_; intro gb111 hg w8 hbox hb; have n0_ := q0 (Kd.R_below (qr HO110.out) hb); have n1_ := q0 (kb BK107.out hb); have n2_ := q0 (IsSRd.below (qi HI108.out) hb); have n3_ := q0 (below_step (qj HB.out HI108.out) hb); have n4_ := q0 (hbox); have n5_ := q0 ((by rw [hg]; exact (below_size (qj HB.out HI108.out)) : w.heap.size ≤ gb111)); have n6_ := q0 ((by rw [hg]; exact (below_size (qj HB.out HI108.out)) : w.heap.size ≤ gb111)); have n7_ := q0 ((bl BK107.out hg : gb107 ≠ gb111)); have n8_ := q0 ((bg BK107.out hg : gb111 ≠ gb107)); have n9_ := q0 ((by rw [hg]; exact Nat.ne_of_lt (IsSRd.lt (show IsSRd w _ g108 t100 t105 from qi HI108.out)) : g108 ≠ gb111)); have n10_ := q0 ((by rw [hg]; exact Nat.ne_of_gt (IsSRd.lt (show IsSRd w _ g108 t100 t105 from qi HI108.out)) : gb111 ≠ g108)); clear HO110 BK107 HI108 HB; have HO110 := n0_; have BK107 := n1_; have HI108 := n2_; have HB := n3_; have BK111 := n4_; have GW111 := n5_; have GE111 := n6_; have NB107_111 := n7_; have NB111_107 := n8_; have NB108_111 := n9_; have NB111_108 := n10_; clear n0_ n1_ n2_ n3_ n4_ n5_ n6_ n7_ n8_ n9_ n10_ hb hbox hg; have hnb9 := NB111_107.out; have hnc9 := NB107_111.out; have hnb10 := NB111_108.out; have hnc10 := NB108_111.out; have hcz11_0 : w8.cell? ⟨gb111, 0, none⟩ = some (.int .i64 0) := (blk_cell BK111.out 0).trans rfl; have hcz11_1 : w8.cell? ⟨gb111, 1, none⟩ = some (.slice none 0 0) := (blk_cell BK111.out 1).trans rfl; have hfz11_0 := blk_frozen BK111.out 0; have hfz11_1 := blk_frozen BK111.out 1; obtain ⟨Ao12, co12, eo12⟩ := Kd.R_slice HO110.out; subst eo12))
 have n0_ : Aside0 (Kd.R kTie 44 ((w8.setCell ⟨gb111, 0, none⟩ (.int .i64 t101)).setCell ⟨gb111, 1, none⟩ (.slice Ao12 t104.length co12)) w.heap.size (fun _ => True) (.slice Ao12 t104.length co12) t104) := ⟨by (with_reducible repeat (first | apply Kd.R_alloc | apply Kd.R_drewN | apply Kd.R_drew)); exact Kd.R_mono (Kd.R_far (p := ⟨gb111, 1, none⟩) (Kd.R_far (p := ⟨gb111, 0, none⟩) (Kd.R_types HO110.out BK111.out (by decide)) (fun _ hk => hk.2) (.int .i64 t101)) (fun _ hk => hk.2) (.slice Ao12 t104.length co12)) (fun _ hk => trivial)⟩
 have n1_ : Aside0 (((w8.setCell ⟨gb111, 0, none⟩ (.int .i64 t101)).setCell ⟨gb111, 1, none⟩ (.slice Ao12 t104.length co12)).heap[gb107]? = some (.cells #[.int .i64 0, .slice none 0 0] 30 (0, 0))) := ⟨qf BK107.out⟩
 have n2_ : Aside0 (((w8.setCell ⟨gb111, 0, none⟩ (.int .i64 t101)).setCell ⟨gb111, 1, none⟩ (.slice Ao12 t104.length co12)).heap[gb111]? = some (.cells #[.int .i64 t101, .slice Ao12 t104.length co12] 30 (0, 0))) := ⟨by (with_reducible repeat (first | refine blk_drewN ?_ _ | refine blk_drew ?_ | refine blk_alloc ?_ _)); refine blk_put (cs := #[.int .i64 t101, .slice none 0 0]) ?_ 1 _ rfl; (with_reducible repeat (first | refine blk_drewN ?_ _ | refine blk_drew ?_ | refine blk_alloc ?_ _)); refine blk_put (cs := #[.int .i64 0, .slice none 0 0]) ?_ 0 _ rfl; (with_reducible repeat (first | refine blk_drewN ?_ _ | refine blk_drew ?_ | refine blk_alloc ?_ _)); exact BK111.out⟩
 have n3_ : Aside0 (IsSRd w ((w8.setCell ⟨gb111, 0, none⟩ (.int .i64 t101)).setCell ⟨gb111, 1, none⟩ (.slice Ao12 t104.length co12)) g108 t100 t105) := ⟨qi HI108.out⟩
 have n4_ : Aside0 (Below w.heap.size w ((w8.setCell ⟨gb111, 0, none⟩ (.int .i64 t101)).setCell ⟨gb111, 1, none⟩ (.slice Ao12 t104.length co12))) := ⟨qj HB.out HI108.out⟩
 (try clear HO110)
 (try clear BK107)
 (try clear BK111)
 (try clear HI108)
 (try clear HB)
 generalize ((w8.setCell ⟨gb111, 0, none⟩ (.int .i64 t101)).setCell ⟨gb111, 1, none⟩ (.slice Ao12 t104.length co12)) = w13 at n0_ n1_ n2_ n3_ n4_ ⊢
 have HO110 := n0_
 have BK107 := n1_
 have BK111 := n2_
 have HI108 := n3_
 have HB := n4_
 clear n0_ n1_ n2_ n3_ n4_
 have n0_ := q0 (Kd.R_drew HO110.out)
 have n1_ := q0 (blk_drew BK107.out)
 have n2_ := q0 (blk_drew BK111.out)
 have n3_ := q0 (IsSRd.drew HI108.out)
 have n4_ := q0 (below_drew1 HB.out)
 clear HO110
 clear BK107
 clear BK111
 clear HI108
 clear HB
 have HO110 := n0_
 have BK107 := n1_
 have BK111 := n2_
 have HI108 := n3_
 have HB := n4_
 clear n0_ n1_ n2_ n3_ n4_
 refine start_ (n := 6) (S := fun w' => w'.cell? ⟨gb111, 0, none⟩ = some (.int .i64 t101) ∧ w'.cell? ⟨gb111, 1, none⟩ = some (.slice Ao12 t104.length co12)) (ds := []) (ba 6 0) (by kernel_rfl) rfl (by kernel_rfl) ⟨(blk_cell BK111.out 0).trans rfl, (blk_cell BK111.out 1).trans rfl⟩ (fun hHeld => ?_)
 generalize w13.drew = w14 at HO110 BK107 BK111 HI108 HB hHeld ⊢
 refine pw 1 (some 11) (ba 6 2) ?_
 refine tw 0 (some 10) (ba 6 3) hHeld ?_
 refine tw 2 (some 12) (ba 6 7) hHeld ?_
 refine one_ (i := 3) (N := some 13) (ba 6 15) rfl rfl (by kernel_rfl) (by decide) (fun K hK => ?_)
 refine goes_ Try.func72 (by kernel_rfl) rfl #[.pointer (some ⟨g108, 0, none⟩), .agg #[.int .i64 t101, .slice Ao12 t104.length co12]] (by rfl) rfl rfl qm ?_
 with_reducible refine (spec_l71Walk.calls k g108 t100 t105 t101 _ _ t104 t102 t106 w _ ?side1 ?side2 ?side3 ?side4 A4.out).mono ?_
 (case side1 => repeat (first | (with_reducible first | exact HI108.out | apply IsSRd.alloc | apply IsSRd.drewN | apply IsSRd.drew | apply IsSRd.set_1 | refine IsSRd.far ?_ NB108_107.out _ | refine IsSRd.far ?_ NB108_111.out _) | exact HI108.out))
 (case side2 => repeat (first | (with_reducible first | exact HB.out | apply below_alloc | apply pw_below_drewN | apply below_drew1 | refine below_set ?_ (IsSRd.ge HI108.out) | refine below_set ?_ GE107.out | refine below_set ?_ GE111.out) | exact HB.out))
 (case side3 => exact Kd.C_foot_own (IsSRd.apart (show IsSRd w _ g108 t100 t105 from qi HI108.out) (qr HO110.out) (by decide)) (fun _ h_ => h_.2))
 (case side4 => exact (Kd.R_reads' HO110.out).2.1)
 rintro e w15 ⟨v112, rfl, ho0, hi, hb, hk⟩
 refine ⟨_, rfl, ?_⟩
 have n0_ := q0 (KeepBut.blk hk (g' := gb107) (o := .cells #[.int .i64 0, .slice none 0 0] 30 (0, 0)) (qk BK107.out) NB107_108.out (by simp))
 have n1_ := q0 (Kd.R_mono (Kd.R_keep (IsSRd.apart (show IsSRd w _ g108 t100 t105 from qi HI108.out) (qr HO110.out) (by decide)) hk (fun _ h => h.2)) (fun _ h => h.1))
 have n2_ := q0 (KeepBut.blk hk (g' := gb111) (o := .cells #[.int .i64 t101, .slice Ao12 t104.length co12] 30 (0, 0)) (qk BK111.out) NB111_108.out (by simp))
 have n3_ := q0 (Kd.R_lower ho0 (below_size (qj HB.out HI108.out)))
 have n4_ := q0 (hb)
 have n5_ := q0 (hi)
 clear BK107
 clear HO110
 clear BK111
 clear HB
 clear HI108
 have BK107 := n0_
 have HO110 := n1_
 have BK111 := n2_
 have HO113 := n3_
 have HB := n4_
 have HI108 := n5_
 clear n0_ n1_ n2_ n3_ n4_ n5_
 (try clear hb)
 (try clear hb2)
 (try clear hk)
 (try clear hi)
 (try clear ho0)
 refine hK.out _ _ ⟨(blk_cell BK111.out 0).trans rfl, (blk_cell BK111.out 1).trans rfl⟩ (fun hHeld => ?_)
 clear hK K
 refine nu 13 ?_
 refine one_ (i := 4) (N := none) (ba 6 31) rfl rfl (by kernel_rfl) (by decide) (fun K hK => ?_)
 have hs16 : w15.cell? ⟨gb107, 0, none⟩ = some (.int .i64 0) := (blk_cell BK107.out 0).trans rfl
 have hfs16 := blk_frozen BK107.out 0
 have hns16_1 := NB111_107.out
 have hms16_1 := NB107_111.out
 have hs17 : w15.cell? ⟨gb107, 1, none⟩ = some (.slice none 0 0) := (blk_cell BK107.out 1).trans rfl
 have hfs17 := blk_frozen BK107.out 1
 have hns17_1 := NB111_107.out
 have hms17_1 := NB107_111.out
 refine skip_ (w1 := ?_) (by rfl) rfl ?_ ?_
 rotate_left
 · go_simp
   rfl
 refine hK.out _ _ ⟨((cell_far (p := ⟨gb107, _, none⟩) NB111_107.out _).trans (((cell_far (p := ⟨gb107, _, none⟩) NB111_107.out _).trans (hHeld.1)))), ((cell_far (p := ⟨gb107, _, none⟩) NB111_107.out _).trans (((cell_far (p := ⟨gb107, _, none⟩) NB111_107.out _).trans (hHeld.2))))⟩ (fun hHeld => ?_)
 clear hK K
 refine pw 5 (some 3) (ba 6 63) ?_
 refine done_ (by kernel_rfl) ?_
 try go_wp2
 refine bodyPost_ret (results_ct rfl _ _ gb107 30 #[.int .i64 t101, .slice Ao12 t104.length co12] (0, 0) _ rfl (by (with_reducible repeat (first | refine blk_drewN ?_ _ | refine blk_drew ?_ | refine blk_alloc ?_ _)); refine blk_put (cs := #[.int .i64 t101, .slice none 0 0]) ?_ 1 _ rfl; (with_reducible repeat (first | refine blk_drewN ?_ _ | refine blk_drew ?_ | refine blk_alloc ?_ _)); refine blk_put (cs := #[.int .i64 0, .slice none 0 0]) ?_ 0 _ rfl; (with_reducible repeat (first | refine blk_drewN ?_ _ | refine blk_drew ?_ | refine blk_alloc ?_ _)); exact BK107.out) Try.underlying30 rfl (by kernel_rfl)) rfl ?_
 exact ⟨_, _, qe, by (with_reducible repeat (first | apply Kd.R_alloc | apply Kd.R_drewN | apply Kd.R_drew)); exact Kd.R_mono (Kd.R_far (p := ⟨gb107, 1, none⟩) (Kd.R_far (p := ⟨gb107, 0, none⟩) (Kd.R_types HO110.out BK107.out (by decide)) (fun _ hk => hk.2) (.int .i64 t101)) (fun _ hk => hk.2) (.slice Ao12 t104.length co12)) (fun _ hk => trivial), by (with_reducible repeat (first | apply Kd.R_alloc | apply Kd.R_drewN | apply Kd.R_drew)); exact Kd.R_mono (Kd.R_far (p := ⟨gb107, 1, none⟩) (Kd.R_far (p := ⟨gb107, 0, none⟩) (Kd.R_types HO113.out BK107.out (by decide)) (fun _ hk => hk.2) (.int .i64 t101)) (fun _ hk => hk.2) (.slice Ao12 t104.length co12)) (fun _ hk => trivial), qj HB.out HI108.out⟩

def impl_Net_walk.T4 : Bool × List (List Nat × List Nat) := (true, [([], []), ([], []), ([0, 1], [0, 1]), ([2], [2]), ([3, 2], [3]), ([4], [4]), ([5, 4], [4, 5]), ([6, 4, 4], [4, 6]), ([7], [7]), ([7], [7]), ([7], [7]), ([10, 7], [7, 10]), ([9, 11, 7], [7, 9, 11]), ([12, 7], [7, 12]), ([7], [7]), ([8, 13, 14, 7, 7], [7, 8, 13, 14]), ([15, 7], [7, 15]), ([7, 16, 4], [4, 7, 16]), ([4, 17], [4, 17])])
def impl_Net_walk.B4 : List Nat := [0, 0, 3, 7, 15, 31, 63, 127, 255, 255, 255, 1279, 3839, 7935, 255, 32767, 65535, 131071, 262143]
theorem impl_Net_walk.tab4 : rtab .any (opsOf Try.f73 4) = impl_Net_walk.T4 := by kernel_rfl
theorem impl_Net_walk.bits4 : waitsOk impl_Net_walk.T4.2 impl_Net_walk.B4 = true := by kernel_rfl
set_option maxHeartbeats 8000000 in
set_option maxRecDepth 100000 in
theorem impl_Net_walk.calls (k : Nat) (a0_0 : Int) (A0_1 : Option Addr) (c0_1 : Nat) (l0_1 : List (STie)) (A1 : Option Addr) (c1 : Nat) (l1 : List Int) (r : Bool) (w : World) (hr0_1 : Kd.C kTie w A0_1 l0_1.length l0_1) (hc0_1 : l0_1.length ≤ c0_1) (hr1 : Kd.C (Kd.int .i64) w A1 l1.length l1) (hc1 : l1.length ≤ c1) (h : impl_Net_walk.f k a0_0 l0_1 l1 = some r) :
    Calls Try.prog 73 #[.agg #[.int .i64 a0_0, .slice A0_1 l0_1.length c0_1], .slice A1 l1.length c1] w fun e w' => e = .returned (.bool r) ∧ Below w.heap.size w w' := by
 have hu30 := Try.underlying30
 have HR0_1 := Aside0.mk hr0_1
 have HC0_1 := Aside0.mk hc0_1
 clear hr0_1 hc0_1
 have HR1 := Aside0.mk hr1
 have HC1 := Aside0.mk hc1
 clear hr1 hc1
 have HB := q0 (Below.refl w.heap.size w)
 have H : (impl_Net_walk.l0 k l1 l1 (l1.length : Int) 0 a0_0 l0_1) = some r := h
 clear h
 have H' := Aside0.mk H
 clear H
 go_enter Try.func73, Try.ntmps73
 go_wp2_with (first | ((with_reducible refine gate_dst (N := 2) rfl ?_); refine be 2 #[.int .i64 a0_0, .slice A0_1 l0_1.length c0_1] 30 ?_; intro gb103 hg w3 hbox hb; have n0_ := q0 (below_step (qb HB.out) hb); have n1_ := q0 (hbox); have n2_ := q0 ((bs HB.out hg : w.heap.size ≤ gb103)); have n3_ := q0 ((bs HB.out hg : w.heap.size ≤ gb103)); clear HB; have HB := n0_; have BK103 := n1_; have GW103 := n2_; have GE103 := n3_; clear n0_ n1_ n2_ n3_ hb hbox hg))
 go_loopg [9] k (fun kq v9 w' => ∃ (x9_1 : Int), v9 = .int .i64 x9_1 ∧ Aside0 (impl_Net_walk.l0 kq l1 l1 (l1.length : Int) x9_1 a0_0 l0_1 = some r) ∧ Aside0 (kq ≤ k) ∧ Aside0 (w'.heap[gb103]? = some (.cells #[.int .i64 a0_0, (.slice A0_1 l0_1.length c0_1)] 30 (0, 0))) ∧ Aside0 (Below w.heap.size w w'))
 case atStart => exact ⟨(0), qs, H', ⟨Nat.le_refl _⟩, ⟨qk BK103.out⟩, ⟨qb HB.out⟩⟩
 clear H'
 try clear c1
 try clear p2
 obtain ⟨x9_1, rfl, HA, HK1, BK103, HB⟩ := hrel
 rcases gk with _ | k1
 · exact absurd HA.out (by simp [impl_Net_walk.l0])
 have H := HA.out
 clear HA
 simp only [impl_Net_walk.l0] at H
 by_cases c4 : x9_1 < (l1.length : Int)
 rotate_left
 · rw [if_neg c4] at H
   have c4b0 : decide (x9_1 < (l1.length : Int)) = false := decide_eq_false c4
   clear c4
   obtain rfl := Option.some.inj H
   go_wp2
   go_ret
   exact ⟨qe, qb HB.out⟩
 rw [if_pos c4] at H
 have c4b0 : decide (x9_1 < (l1.length : Int)) = true := decide_eq_true c4
 clear c4
 by_cases c5 : 0 ≤ x9_1
 rotate_left
 · rw [if_neg c5] at H
   exact absurd H (by simp)
 rw [if_pos c5] at H
 have c5b0 : decide (0 ≤ x9_1) = true := decide_eq_true c5
 clear c5
 by_cases c6 : x9_1 < (l1.length : Int)
 rotate_left
 · rw [if_neg c6] at H
   exact absurd H (by simp)
 rw [if_pos c6] at H
 have c6b0 : decide (x9_1 < (l1.length : Int)) = true := decide_eq_true c6
 clear c6
 replace H := Option.bind_eq_some_iff.mp H
 obtain ⟨t101, A70, H⟩ := H
 replace H : (if t101 = true then (if x9_1 > 0 then (if 0 ≤ (wrap64 (x9_1 - 1)) then (if (wrap64 (x9_1 - 1)) < (l1.length : Int) then ((impl_Net_has.f k1 a0_0 l0_1 (rd l1 (wrap64 (x9_1 - 1))) (rd l1 x9_1)).bind fun t102 => (if t102 = true then (impl_Net_walk.l0 k1 l1 l1 (l1.length : Int) (wrap64 (x9_1 + 1)) a0_0 l0_1) else (some false))) else (none)) else (none)) else (impl_Net_walk.l0 k1 l1 l1 (l1.length : Int) (wrap64 (x9_1 + 1)) a0_0 l0_1)) else (some false)) = some r := H
 have A7 := Aside0.mk A70
 clear A70
 by_cases c8 : t101 = true
 rotate_left
 · replace c8 := Bool.eq_false_iff.mpr c8
   subst c8
   have H1 : (some false) = some r := by rw [if_neg (show ¬ (false = true) by decide)] at H; exact H
   clear H
   have H := H1
   clear H1
   obtain rfl := Option.some.inj H
   have p100 : 0 ≤ (x9_1 : Int) := of_decide_eq_true qa
   have q100 : x9_1 < (l1.length : Int) := of_decide_eq_true qa
   obtain ⟨ad100, e100, hx100_0⟩ := Kd.at_int HR1.out x9_1 p100 q100
   cases e100
   replace hx100_0 := (HB.out.cell (World.block_lt_of_cell? w _ hx100_0)).trans hx100_0
   replace p100 := eq_true p100
   replace q100 := eq_true q100
   try go_wp2
   have n0_ := q0 (blk_drew BK103.out)
   have n1_ := q0 (below_drew1 HB.out)
   clear BK103
   clear HB
   have BK103 := n0_
   have HB := n1_
   clear n0_ n1_
   refine start_ (n := 19) (S := fun w' => w'.cell? ⟨gb103, 0, none⟩ = some (.int .i64 a0_0) ∧ w'.cell? ⟨gb103, 1, none⟩ = some (.slice A0_1 l0_1.length c0_1)) (ds := []) (ba 19 0) (by kernel_rfl) rfl (by kernel_rfl) ⟨(blk_cell BK103.out 0).trans rfl, (blk_cell BK103.out 1).trans rfl⟩ (fun hHeld => ?_); refine with_tabW impl_Net_walk.tab4 impl_Net_walk.bits4 (fun HT_ HW_ => ?_)
   generalize wr.drew = w23 at BK103 HB hHeld ⊢
   refine pu 1 (some 15) (ba 19 2) HT_.out ?_
   refine tu 0 (some 14) (ba 19 3) HT_.out HW_.out hHeld ?_
   refine one_ (i := 2) (N := some 16) (ba 19 7) rfl rfl (one_of HT_.out (by kernel_rfl)) (by decide) (fun K hK => ?_)
   refine goes_ Try.func55 (by kernel_rfl) rfl #[.agg #[.int .i64 a0_0, .slice A0_1 l0_1.length c0_1], .int .i64 (rd l1 x9_1)] (by rfl) rfl rfl qm ?_
   with_reducible refine (impl_Net_knot.calls a0_0 _ _ l0_1 (rd l1 x9_1) false _ ?side1 ?side2 A7.out).mono ?_
   (case side1 => exact qc (Kd.C_below HR0_1.out HB.out))
   (case side2 => exact HC0_1.out)
   rintro e w24 ⟨rfl, hb⟩
   refine ⟨_, rfl, ?_⟩
   have n0_ := q0 (kb BK103.out hb)
   have n1_ := q0 (below_step (qb HB.out) hb)
   clear BK103
   clear HB
   have BK103 := n0_
   have HB := n1_
   clear n0_ n1_
   (try clear hb)
   (try clear hb2)
   (try clear hk)
   (try clear hi)
   refine hK.out _ _ ⟨(blk_cell BK103.out 0).trans rfl, (blk_cell BK103.out 1).trans rfl⟩ (fun hHeld => ?_)
   clear hK K
   refine nu 16 ?_
   refine pu 3 (some 17) (ba 19 15) HT_.out ?_
   refine pu 4 (some 18) (ba 19 31) HT_.out ?_
   refine pv 5 (some 19) (ba 19 63) HT_.out ?_
   refine pv 6 (some 20) (ba 19 127) HT_.out ?_
   refine pv 7 (some 21) (ba 19 255) HT_.out ?_
   refine pv 8 (some 22) (ba 19 511) HT_.out ?_
   refine pv 9 (some 23) (ba 19 1023) HT_.out ?_
   refine pv 10 (some 24) (ba 19 2047) HT_.out ?_
   refine pv 11 (some 25) (ba 19 4095) HT_.out ?_
   refine pv 12 (some 26) (ba 19 8191) HT_.out ?_
   refine pv 13 (some 27) (ba 19 16383) HT_.out ?_
   refine pv 14 (some 28) (ba 19 32767) HT_.out ?_
   refine pv 15 (some 29) (ba 19 65535) HT_.out ?_
   refine pv 16 (some 30) (ba 19 131071) HT_.out ?_
   refine pv 17 (some 31) (ba 19 262143) HT_.out ?_
   refine pu 18 (some 32) (ba 19 524287) HT_.out ?_
   refine done_ (done_of HT_.out (by kernel_rfl)) ?_
   try go_wp2
   go_ret
   exact ⟨qe, qb HB.out⟩
 subst c8
 have H1 : (if x9_1 > 0 then (if 0 ≤ (wrap64 (x9_1 - 1)) then (if (wrap64 (x9_1 - 1)) < (l1.length : Int) then ((impl_Net_has.f k1 a0_0 l0_1 (rd l1 (wrap64 (x9_1 - 1))) (rd l1 x9_1)).bind fun t102 => (if t102 = true then (impl_Net_walk.l0 k1 l1 l1 (l1.length : Int) (wrap64 (x9_1 + 1)) a0_0 l0_1) else (some false))) else (none)) else (none)) else (impl_Net_walk.l0 k1 l1 l1 (l1.length : Int) (wrap64 (x9_1 + 1)) a0_0 l0_1)) = some r := by rw [if_pos rfl] at H; exact H
 clear H
 have H := H1
 clear H1
 by_cases c9 : x9_1 > 0
 rotate_left
 · rw [if_neg c9] at H
   have c9b0 : decide (0 < x9_1) = false := decide_eq_false c9
   clear c9
   have H' := Aside0.mk H
   clear H
   have p100 : 0 ≤ (x9_1 : Int) := of_decide_eq_true qa
   have q100 : x9_1 < (l1.length : Int) := of_decide_eq_true qa
   obtain ⟨ad100, e100, hx100_0⟩ := Kd.at_int HR1.out x9_1 p100 q100
   cases e100
   replace hx100_0 := (HB.out.cell (World.block_lt_of_cell? w _ hx100_0)).trans hx100_0
   replace p100 := eq_true p100
   replace q100 := eq_true q100
   try go_wp2
   have n0_ := q0 (blk_drew BK103.out)
   have n1_ := q0 (below_drew1 HB.out)
   clear BK103
   clear HB
   have BK103 := n0_
   have HB := n1_
   clear n0_ n1_
   refine start_ (n := 19) (S := fun w' => w'.cell? ⟨gb103, 0, none⟩ = some (.int .i64 a0_0) ∧ w'.cell? ⟨gb103, 1, none⟩ = some (.slice A0_1 l0_1.length c0_1)) (ds := []) (ba 19 0) (by kernel_rfl) rfl (by kernel_rfl) ⟨(blk_cell BK103.out 0).trans rfl, (blk_cell BK103.out 1).trans rfl⟩ (fun hHeld => ?_); refine with_tabW impl_Net_walk.tab4 impl_Net_walk.bits4 (fun HT_ HW_ => ?_)
   generalize wr.drew = w21 at BK103 HB hHeld ⊢
   refine pu 1 (some 15) (ba 19 2) HT_.out ?_
   refine tu 0 (some 14) (ba 19 3) HT_.out HW_.out hHeld ?_
   refine one_ (i := 2) (N := some 16) (ba 19 7) rfl rfl (one_of HT_.out (by kernel_rfl)) (by decide) (fun K hK => ?_)
   refine goes_ Try.func55 (by kernel_rfl) rfl #[.agg #[.int .i64 a0_0, .slice A0_1 l0_1.length c0_1], .int .i64 (rd l1 x9_1)] (by rfl) rfl rfl qm ?_
   with_reducible refine (impl_Net_knot.calls a0_0 _ _ l0_1 (rd l1 x9_1) true _ ?side1 ?side2 A7.out).mono ?_
   (case side1 => exact qc (Kd.C_below HR0_1.out HB.out))
   (case side2 => exact HC0_1.out)
   rintro e w22 ⟨rfl, hb⟩
   refine ⟨_, rfl, ?_⟩
   have n0_ := q0 (kb BK103.out hb)
   have n1_ := q0 (below_step (qb HB.out) hb)
   clear BK103
   clear HB
   have BK103 := n0_
   have HB := n1_
   clear n0_ n1_
   (try clear hb)
   (try clear hb2)
   (try clear hk)
   (try clear hi)
   refine hK.out _ _ ⟨(blk_cell BK103.out 0).trans rfl, (blk_cell BK103.out 1).trans rfl⟩ (fun hHeld => ?_)
   clear hK K
   refine nu 16 ?_
   refine pu 3 (some 17) (ba 19 15) HT_.out ?_
   refine pu 4 (some 18) (ba 19 31) HT_.out ?_
   refine pu 5 (some 19) (ba 19 63) HT_.out ?_
   refine pu 6 (some 20) (ba 19 127) HT_.out ?_
   refine pu 7 (some 21) (ba 19 255) HT_.out ?_
   refine pv 8 (some 22) (ba 19 511) HT_.out ?_
   refine pv 9 (some 23) (ba 19 1023) HT_.out ?_
   refine pv 10 (some 24) (ba 19 2047) HT_.out ?_
   refine pv 11 (some 25) (ba 19 4095) HT_.out ?_
   refine pv 12 (some 26) (ba 19 8191) HT_.out ?_
   refine pv 13 (some 27) (ba 19 16383) HT_.out ?_
   refine pv 14 (some 28) (ba 19 32767) HT_.out ?_
   refine pv 15 (some 29) (ba 19 65535) HT_.out ?_
   refine pv 16 (some 30) (ba 19 131071) HT_.out ?_
   refine pu 17 (some 31) (ba 19 262143) HT_.out ?_
   refine pu 18 (some 32) (ba 19 524287) HT_.out ?_
   refine done_ (done_of HT_.out (by kernel_rfl)) ?_
   try go_wp2
   go_roundg k1
   case measure => have := HK1.out; omega
   case rel => exact ⟨(wrap64 (x9_1 + 1)), qs, H', ⟨by have := HK1.out; omega⟩, ⟨qk BK103.out⟩, ⟨qb HB.out⟩⟩
 rw [if_pos c9] at H
 have c9b0 : decide (0 < x9_1) = true := decide_eq_true c9
 clear c9
 obtain ⟨ji10, hji10⟩ : ∃ j_ : Int, (wrap64 (x9_1 - 1)) = j_ := ⟨_, rfl⟩
 replace H : (if 0 ≤ (ji10) then (if (ji10) < (l1.length : Int) then ((impl_Net_has.f k1 a0_0 l0_1 (rd l1 (ji10)) (rd l1 x9_1)).bind fun t102 => (if t102 = true then (impl_Net_walk.l0 k1 l1 l1 (l1.length : Int) (wrap64 (x9_1 + 1)) a0_0 l0_1) else (some false))) else (none)) else (none)) = some r := by first | (rw [hji10] at H; exact H) | (simp only [hji10] at H ⊢; exact H)
 (try rw [hji10] at A7)
 have hji10w : (IntKind.i64.wrap (x9_1 - 1)) = ji10 := (i64_w _).trans hji10
 by_cases c11 : 0 ≤ (ji10)
 rotate_left
 · rw [if_neg c11] at H
   exact absurd H (by simp)
 rw [if_pos c11] at H
 have c11b0 : decide (0 ≤ (ji10)) = true := decide_eq_true c11
 clear c11
 by_cases c12 : (ji10) < (l1.length : Int)
 rotate_left
 · rw [if_neg c12] at H
   exact absurd H (by simp)
 rw [if_pos c12] at H
 have c12b0 : decide ((ji10) < (l1.length : Int)) = true := decide_eq_true c12
 clear c12
 replace H := Option.bind_eq_some_iff.mp H
 obtain ⟨t102, A104, H⟩ := H
 replace H : (if t102 = true then (impl_Net_walk.l0 k1 l1 l1 (l1.length : Int) (wrap64 (x9_1 + 1)) a0_0 l0_1) else (some false)) = some r := H
 have A13 := Aside0.mk A104
 clear A104
 by_cases c14 : t102 = true
 rotate_left
 · replace c14 := Bool.eq_false_iff.mpr c14
   subst c14
   have H1 : (some false) = some r := by rw [if_neg (show ¬ (false = true) by decide)] at H; exact H
   clear H
   have H := H1
   clear H1
   obtain rfl := Option.some.inj H
   have p100 : 0 ≤ (x9_1 : Int) := of_decide_eq_true qa
   have q100 : x9_1 < (l1.length : Int) := of_decide_eq_true qa
   obtain ⟨ad100, e100, hx100_0⟩ := Kd.at_int HR1.out x9_1 p100 q100
   cases e100
   replace hx100_0 := (HB.out.cell (World.block_lt_of_cell? w _ hx100_0)).trans hx100_0
   replace p100 := eq_true p100
   replace q100 := eq_true q100
   try go_wp2
   have n0_ := q0 (blk_drew BK103.out)
   have n1_ := q0 (below_drew1 HB.out)
   clear BK103
   clear HB
   have BK103 := n0_
   have HB := n1_
   clear n0_ n1_
   have p105 : 0 ≤ ((ji10) : Int) := of_decide_eq_true qa
   have q105 : (ji10) < (l1.length : Int) := of_decide_eq_true qa
   obtain ⟨ad105, e105, hx105_0⟩ := Kd.at_int HR1.out (ji10) p105 q105
   have hw105_0 := hx105_0
   obtain rfl : ad100 = ad105 := (by injection e105)
   replace hx105_0 := (HB.out.cell (World.block_lt_of_cell? w _ hx105_0)).trans hx105_0
   replace p105 := eq_true p105
   replace q105 := eq_true q105
   refine start_ (n := 19) (S := fun w' => w'.cell? ⟨gb103, 0, none⟩ = some (.int .i64 a0_0) ∧ w'.cell? ⟨gb103, 1, none⟩ = some (.slice A0_1 l0_1.length c0_1) ∧ w'.cell? (ad100.add ((ji10)).toNat) = some (.int .i64 (rd l1 (ji10)))) (ds := []) (ba 19 0) (by kernel_rfl) rfl (by kernel_rfl) ⟨(blk_cell BK103.out 0).trans rfl, (blk_cell BK103.out 1).trans rfl, ((HB.out.cell (World.block_lt_of_cell? w _ hw105_0)).trans hw105_0)⟩ (fun hHeld => ?_); refine with_tabW impl_Net_walk.tab4 impl_Net_walk.bits4 (fun HT_ HW_ => ?_)
   generalize wr.drew = w18 at BK103 HB hx105_0 hHeld ⊢
   refine pu 1 (some 15) (ba 19 2) HT_.out ?_
   refine tu 0 (some 14) (ba 19 3) HT_.out HW_.out hHeld ?_
   refine one_ (i := 2) (N := some 16) (ba 19 7) rfl rfl (one_of HT_.out (by kernel_rfl)) (by decide) (fun K hK => ?_)
   refine goes_ Try.func55 (by kernel_rfl) rfl #[.agg #[.int .i64 a0_0, .slice A0_1 l0_1.length c0_1], .int .i64 (rd l1 x9_1)] (by rfl) rfl rfl qm ?_
   with_reducible refine (impl_Net_knot.calls a0_0 _ _ l0_1 (rd l1 x9_1) true _ ?side1 ?side2 A7.out).mono ?_
   (case side1 => exact qc (Kd.C_below HR0_1.out HB.out))
   (case side2 => exact HC0_1.out)
   rintro e w19 ⟨rfl, hb⟩
   refine ⟨_, rfl, ?_⟩
   have n0_ := q0 (kb BK103.out hb)
   have n1_ := q0 (below_step (qb HB.out) hb)
   clear BK103
   clear HB
   have BK103 := n0_
   have HB := n1_
   clear n0_ n1_
   (try clear hb)
   (try clear hb2)
   (try clear hk)
   (try clear hi)
   refine hK.out _ _ ⟨(blk_cell BK103.out 0).trans rfl, (blk_cell BK103.out 1).trans rfl, ((HB.out.cell (World.block_lt_of_cell? w _ hw105_0)).trans hw105_0)⟩ (fun hHeld => ?_)
   clear hK K
   refine nu 16 ?_
   refine pu 3 (some 17) (ba 19 15) HT_.out ?_
   refine pu 4 (some 18) (ba 19 31) HT_.out ?_
   refine pu 5 (some 19) (ba 19 63) HT_.out ?_
   refine pu 6 (some 20) (ba 19 127) HT_.out ?_
   refine pu 7 (some 21) (ba 19 255) HT_.out ?_
   refine pu 9 (some 23) (ba 19 767) HT_.out ?_
   refine pu 10 (some 24) (ba 19 1791) HT_.out ?_
   refine pu 11 (some 25) (ba 19 3839) HT_.out ?_
   refine pu 12 (some 26) (ba 19 7935) HT_.out ?_
   refine pu 14 (some 28) (ba 19 24319) HT_.out ?_
   refine tu 8 (some 22) (ba 19 24575) HT_.out HW_.out hHeld ?_
   refine tu 13 (some 27) (ba 19 32767) HT_.out HW_.out hHeld ?_
   refine one_ (i := 15) (N := some 29) (ba 19 65535) rfl rfl (one_of HT_.out (by kernel_rfl)) (by decide) (fun K hK => ?_)
   refine goes_ Try.func69 (by kernel_rfl) rfl #[.agg #[.int .i64 a0_0, .slice A0_1 l0_1.length c0_1], .int .i64 (rd l1 (ji10)), .int .i64 (rd l1 x9_1)] (by rfl) rfl rfl (by (try simp only [List.map_toArray, List.map_cons, List.map_nil]); first | done | (simp only [hji10]; rfl) | rfl | (simp only [List.length_drop, List.length_take]; rfl)) ?_
   with_reducible refine (impl_Net_has.calls k1 a0_0 _ _ l0_1 (rd l1 (ji10)) (rd l1 x9_1) false _ ?side1 ?side2 A13.out).mono ?_
   (case side1 => exact qc (Kd.C_below HR0_1.out HB.out))
   (case side2 => exact HC0_1.out)
   rintro e w20 ⟨rfl, hb⟩
   refine ⟨_, rfl, ?_⟩
   have n0_ := q0 (kb BK103.out hb)
   have n1_ := q0 (below_step (qb HB.out) hb)
   clear BK103
   clear HB
   have BK103 := n0_
   have HB := n1_
   clear n0_ n1_
   (try clear hb)
   (try clear hb2)
   (try clear hk)
   (try clear hi)
   refine hK.out _ _ ⟨(blk_cell BK103.out 0).trans rfl, (blk_cell BK103.out 1).trans rfl, ((HB.out.cell (World.block_lt_of_cell? w _ hw105_0)).trans hw105_0)⟩ (fun hHeld => ?_)
   clear hK K
   refine nu 29 ?_
   refine pu 16 (some 30) (ba 19 131071) HT_.out ?_
   refine pu 17 (some 31) (ba 19 262143) HT_.out ?_
   refine pu 18 (some 32) (ba 19 524287) HT_.out ?_
   refine done_ (done_of HT_.out (by kernel_rfl)) ?_
   try go_wp2
   go_ret
   exact ⟨by first | rfl | (simp [errW_none, errW_some] <;> rfl) | (simp only [← hji10]; first | rfl | (simp [errW_none, errW_some] <;> rfl)) | (simp [*, errW_none, errW_some] <;> rfl), qb HB.out⟩
 subst c14
 have H1 : (impl_Net_walk.l0 k1 l1 l1 (l1.length : Int) (wrap64 (x9_1 + 1)) a0_0 l0_1) = some r := by rw [if_pos rfl] at H; exact H
 clear H
 have H := H1
 clear H1
 have H' := Aside0.mk H
 clear H
 have p100 : 0 ≤ (x9_1 : Int) := of_decide_eq_true qa
 have q100 : x9_1 < (l1.length : Int) := of_decide_eq_true qa
 obtain ⟨ad100, e100, hx100_0⟩ := Kd.at_int HR1.out x9_1 p100 q100
 cases e100
 replace hx100_0 := (HB.out.cell (World.block_lt_of_cell? w _ hx100_0)).trans hx100_0
 replace p100 := eq_true p100
 replace q100 := eq_true q100
 try go_wp2
 have n0_ := q0 (blk_drew BK103.out)
 have n1_ := q0 (below_drew1 HB.out)
 clear BK103
 clear HB
 have BK103 := n0_
 have HB := n1_
 clear n0_ n1_
 have p105 : 0 ≤ ((ji10) : Int) := of_decide_eq_true qa
 have q105 : (ji10) < (l1.length : Int) := of_decide_eq_true qa
 obtain ⟨ad105, e105, hx105_0⟩ := Kd.at_int HR1.out (ji10) p105 q105
 have hw105_0 := hx105_0
 obtain rfl : ad100 = ad105 := (by injection e105)
 replace hx105_0 := (HB.out.cell (World.block_lt_of_cell? w _ hx105_0)).trans hx105_0
 replace p105 := eq_true p105
 replace q105 := eq_true q105
 refine start_ (n := 19) (S := fun w' => w'.cell? ⟨gb103, 0, none⟩ = some (.int .i64 a0_0) ∧ w'.cell? ⟨gb103, 1, none⟩ = some (.slice A0_1 l0_1.length c0_1) ∧ w'.cell? (ad100.add ((ji10)).toNat) = some (.int .i64 (rd l1 (ji10)))) (ds := []) (ba 19 0) (by kernel_rfl) rfl (by kernel_rfl) ⟨(blk_cell BK103.out 0).trans rfl, (blk_cell BK103.out 1).trans rfl, ((HB.out.cell (World.block_lt_of_cell? w _ hw105_0)).trans hw105_0)⟩ (fun hHeld => ?_); refine with_tabW impl_Net_walk.tab4 impl_Net_walk.bits4 (fun HT_ HW_ => ?_)
 generalize wr.drew = w15 at BK103 HB hx105_0 hHeld ⊢
 refine pu 1 (some 15) (ba 19 2) HT_.out ?_
 refine tu 0 (some 14) (ba 19 3) HT_.out HW_.out hHeld ?_
 refine one_ (i := 2) (N := some 16) (ba 19 7) rfl rfl (one_of HT_.out (by kernel_rfl)) (by decide) (fun K hK => ?_)
 refine goes_ Try.func55 (by kernel_rfl) rfl #[.agg #[.int .i64 a0_0, .slice A0_1 l0_1.length c0_1], .int .i64 (rd l1 x9_1)] (by rfl) rfl rfl qm ?_
 with_reducible refine (impl_Net_knot.calls a0_0 _ _ l0_1 (rd l1 x9_1) true _ ?side1 ?side2 A7.out).mono ?_
 (case side1 => exact qc (Kd.C_below HR0_1.out HB.out))
 (case side2 => exact HC0_1.out)
 rintro e w16 ⟨rfl, hb⟩
 refine ⟨_, rfl, ?_⟩
 have n0_ := q0 (kb BK103.out hb)
 have n1_ := q0 (below_step (qb HB.out) hb)
 clear BK103
 clear HB
 have BK103 := n0_
 have HB := n1_
 clear n0_ n1_
 (try clear hb)
 (try clear hb2)
 (try clear hk)
 (try clear hi)
 refine hK.out _ _ ⟨(blk_cell BK103.out 0).trans rfl, (blk_cell BK103.out 1).trans rfl, ((HB.out.cell (World.block_lt_of_cell? w _ hw105_0)).trans hw105_0)⟩ (fun hHeld => ?_)
 clear hK K
 refine nu 16 ?_
 refine pu 3 (some 17) (ba 19 15) HT_.out ?_
 refine pu 4 (some 18) (ba 19 31) HT_.out ?_
 refine pu 5 (some 19) (ba 19 63) HT_.out ?_
 refine pu 6 (some 20) (ba 19 127) HT_.out ?_
 refine pu 7 (some 21) (ba 19 255) HT_.out ?_
 refine pu 9 (some 23) (ba 19 767) HT_.out ?_
 refine pu 10 (some 24) (ba 19 1791) HT_.out ?_
 refine pu 11 (some 25) (ba 19 3839) HT_.out ?_
 refine pu 12 (some 26) (ba 19 7935) HT_.out ?_
 refine pu 14 (some 28) (ba 19 24319) HT_.out ?_
 refine tu 8 (some 22) (ba 19 24575) HT_.out HW_.out hHeld ?_
 refine tu 13 (some 27) (ba 19 32767) HT_.out HW_.out hHeld ?_
 refine one_ (i := 15) (N := some 29) (ba 19 65535) rfl rfl (one_of HT_.out (by kernel_rfl)) (by decide) (fun K hK => ?_)
 refine goes_ Try.func69 (by kernel_rfl) rfl #[.agg #[.int .i64 a0_0, .slice A0_1 l0_1.length c0_1], .int .i64 (rd l1 (ji10)), .int .i64 (rd l1 x9_1)] (by rfl) rfl rfl (by (try simp only [List.map_toArray, List.map_cons, List.map_nil]); first | done | (simp only [hji10]; rfl) | rfl | (simp only [List.length_drop, List.length_take]; rfl)) ?_
 with_reducible refine (impl_Net_has.calls k1 a0_0 _ _ l0_1 (rd l1 (ji10)) (rd l1 x9_1) true _ ?side1 ?side2 A13.out).mono ?_
 (case side1 => exact qc (Kd.C_below HR0_1.out HB.out))
 (case side2 => exact HC0_1.out)
 rintro e w17 ⟨rfl, hb⟩
 refine ⟨_, rfl, ?_⟩
 have n0_ := q0 (kb BK103.out hb)
 have n1_ := q0 (below_step (qb HB.out) hb)
 clear BK103
 clear HB
 have BK103 := n0_
 have HB := n1_
 clear n0_ n1_
 (try clear hb)
 (try clear hb2)
 (try clear hk)
 (try clear hi)
 refine hK.out _ _ ⟨(blk_cell BK103.out 0).trans rfl, (blk_cell BK103.out 1).trans rfl, ((HB.out.cell (World.block_lt_of_cell? w _ hw105_0)).trans hw105_0)⟩ (fun hHeld => ?_)
 clear hK K
 refine nu 29 ?_
 refine pu 16 (some 30) (ba 19 131071) HT_.out ?_
 refine pu 17 (some 31) (ba 19 262143) HT_.out ?_
 refine pu 18 (some 32) (ba 19 524287) HT_.out ?_
 refine done_ (done_of HT_.out (by kernel_rfl)) ?_
 try go_wp2
 go_roundg k1
 case measure => have := HK1.out; omega
 case rel => exact ⟨(wrap64 (x9_1 + 1)), qs, H', ⟨by have := HK1.out; omega⟩, ⟨qk BK103.out⟩, ⟨qb HB.out⟩⟩

set_option maxHeartbeats 8000000 in
set_option maxRecDepth 100000 in
theorem slices_Index_int.calls (k : Nat) (A0 : Option Addr) (c0 : Nat) (l0 : List Int) (a1 : Int) (r : Int) (w : World) (hr0 : Kd.C (Kd.int .i64) w A0 l0.length l0) (hc0 : l0.length ≤ c0) (h : slices_Index_int.f k l0 a1 = some r) :
    Calls Try.prog 92 #[.slice A0 l0.length c0, .int .i64 a1] w fun e w' => e = .returned (.int .i64 r) ∧ Drawn0 w w' := by
 have HR0 := Aside0.mk hr0
 have HC0 := Aside0.mk hc0
 clear hr0 hc0
 have H : (slices_Index_int.l0 k l0 a1 (l0.length : Int) 0) = some r := h
 clear h
 have H' := Aside0.mk H
 clear H
 go_enter Try.func92, Try.ntmps92
 go_wp2
 go_loopg [8] k (fun kq v8 w' => ∃ (x8_1 : Int), v8 = .int .i64 x8_1 ∧ Aside0 (slices_Index_int.l0 kq l0 a1 (l0.length : Int) x8_1 = some r) ∧ Aside0 (kq ≤ k) ∧ Drawn0 w w')
 case atStart => exact ⟨(0), qs, H', ⟨Nat.le_refl _⟩, by repeat (first | exact Drawn0.refl _ | apply Drawn0.step)⟩
 clear H'
 try clear p2
 obtain ⟨x8_1, rfl, HA, HK1, ⟨m1, rfl⟩⟩ := hrel
 rcases gk with _ | k1
 · exact absurd HA.out (by simp [slices_Index_int.l0])
 have H := HA.out
 clear HA
 simp only [slices_Index_int.l0] at H
 by_cases c3 : x8_1 < (l0.length : Int)
 rotate_left
 · rw [if_neg c3] at H
   have c3b0 : decide (x8_1 < (l0.length : Int)) = false := decide_eq_false c3
   clear c3
   obtain rfl := Option.some.inj H
   go_wp2
   go_ret
   exact ⟨by first | rfl | (simp; done) | (simp [*]; done), by repeat (first | exact Drawn0.refl _ | apply Drawn0.step)⟩
 rw [if_pos c3] at H
 have c3b0 : decide (x8_1 < (l0.length : Int)) = true := decide_eq_true c3
 clear c3
 by_cases c4 : 0 ≤ x8_1
 rotate_left
 · rw [if_neg c4] at H
   exact absurd H (by simp)
 rw [if_pos c4] at H
 have c4b0 : decide (0 ≤ x8_1) = true := decide_eq_true c4
 clear c4
 by_cases c5 : x8_1 < (l0.length : Int)
 rotate_left
 · rw [if_neg c5] at H
   exact absurd H (by simp)
 rw [if_pos c5] at H
 have c5b0 : decide (x8_1 < (l0.length : Int)) = true := decide_eq_true c5
 clear c5
 by_cases c6 : a1 = (rd l0 x8_1)
 · rw [if_pos c6] at H
   have c6b0 : (a1 == (rd l0 x8_1)) = true := beq_iff_eq.mpr c6
   have c6b1 : (a1 != (rd l0 x8_1)) = false := bne_eq_false_iff_eq.mpr c6
   clear c6
   obtain rfl := Option.some.inj H
   have p100 : 0 ≤ (x8_1 : Int) := of_decide_eq_true qa
   have q100 : x8_1 < (l0.length : Int) := of_decide_eq_true qa
   obtain ⟨ad100, e100, hx100_0⟩ := Kd.at_int HR0.out x8_1 p100 q100
   cases e100
   replace p100 := eq_true p100
   replace q100 := eq_true q100
   go_wp2
   go_ret
   exact ⟨by first | rfl | (simp; done) | (simp [*]; done), by repeat (first | exact Drawn0.refl _ | apply Drawn0.step)⟩
 rw [if_neg c6] at H
 have c6b0 : (a1 == (rd l0 x8_1)) = false := beq_eq_false_iff_ne.mpr c6
 have c6b1 : (a1 != (rd l0 x8_1)) = true := bne_iff_ne.mpr c6
 have H' := Aside0.mk H
 clear H
 have p100 : 0 ≤ (x8_1 : Int) := of_decide_eq_true qa
 have q100 : x8_1 < (l0.length : Int) := of_decide_eq_true qa
 obtain ⟨ad100, e100, hx100_0⟩ := Kd.at_int HR0.out x8_1 p100 q100
 cases e100
 replace p100 := eq_true p100
 replace q100 := eq_true q100
 go_wp2
 go_roundg k1
 case measure => have := HK1.out; omega
 case rel => exact ⟨(wrap64 (x8_1 + 1)), qs, H', ⟨by have := HK1.out; omega⟩, by repeat (first | exact Drawn0.refl _ | apply Drawn0.step)⟩

set_option maxHeartbeats 8000000 in
set_option maxRecDepth 100000 in
theorem slices_Contains_int.calls (k : Nat) (A0 : Option Addr) (c0 : Nat) (l0 : List Int) (a1 : Int) (r : Bool) (w : World) (hr0 : Kd.C (Kd.int .i64) w A0 l0.length l0) (hc0 : l0.length ≤ c0) (h : slices_Contains_int.f k l0 a1 = some r) :
    Calls Try.prog 87 #[.slice A0 l0.length c0, .int .i64 a1] w fun e w' => e = .returned (.bool r) ∧ Drawn0 w w' := by
 have HR0 := Aside0.mk hr0
 have HC0 := Aside0.mk hc0
 clear hr0 hc0
 have H : ((slices_Index_int.f k l0 a1).bind fun t100 => (some (decide (t100 ≥ 0)))) = some r := h
 clear h
 replace H := Option.bind_eq_some_iff.mp H
 obtain ⟨t100, A30, H⟩ := H
 replace H : (some (decide (t100 ≥ 0))) = some r := H
 have A3 := Aside0.mk A30
 clear A30
 obtain rfl := Option.some.inj H
 go_enter Try.func87, Try.ntmps87
 go_wp2_with (first | ((with_reducible refine gate_callee (f := 92) rfl ?_); refine goesL_ (some 7) rfl rfl Try.func92 (by kernel_rfl) rfl #[.slice A0 l0.length c0, .int .i64 a1] rfl qm ?_; (with_reducible refine (slices_Index_int.calls k _ _ l0 a1 t100 _ ?side1 ?side2 A3.out).mono ?_); (case side1 => repeat (first | exact HR0.out | (with_reducible refine Kd.C_alloc ?_ _) | (with_reducible refine Kd.C_drewN ?_ _) | (with_reducible refine Kd.C_drew ?_))); (case side2 => exact HC0.out); rintro e w' ⟨rfl, ⟨nd, rfl⟩⟩; refine ⟨_, rfl, ?_⟩))
 go_ret
 exact ⟨by first | rfl | (simp; done) | (simp [*]; done), by repeat (first | exact Drawn0.refl _ | apply Drawn0.step)⟩

set_option maxHeartbeats 8000000 in
set_option maxRecDepth 100000 in
theorem impl_different.calls (k : Nat) (A0 : Option Addr) (c0 : Nat) (l0 : List Int) (r : Bool) (w : World) (hr0 : Kd.C (Kd.int .i64) w A0 l0.length l0) (hc0 : l0.length ≤ c0) (h : impl_different.f k l0 = some r) :
    Calls Try.prog 74 #[.slice A0 l0.length c0] w fun e w' => e = .returned (.bool r) ∧ Drawn0 w w' := by
 have HR0 := Aside0.mk hr0
 have HC0 := Aside0.mk hc0
 clear hr0 hc0
 have H : (impl_different.l0 k l0 l0 (l0.length : Int) 0) = some r := h
 clear h
 have H' := Aside0.mk H
 clear H
 go_enter Try.func74, Try.ntmps74
 go_wp2
 go_loopg [7] k (fun kq v7 w' => ∃ (x7_1 : Int), v7 = .int .i64 x7_1 ∧ Aside0 (impl_different.l0 kq l0 l0 (l0.length : Int) x7_1 = some r) ∧ Aside0 (kq ≤ k) ∧ Drawn0 w w')
 case atStart => exact ⟨(0), qs, H', ⟨Nat.le_refl _⟩, by repeat (first | exact Drawn0.refl _ | apply Drawn0.step)⟩
 clear H'
 obtain ⟨x7_1, rfl, HA, HK1, ⟨m1, rfl⟩⟩ := hrel
 rcases gk with _ | k1
 · exact absurd HA.out (by simp [impl_different.l0])
 have H := HA.out
 clear HA
 simp only [impl_different.l0] at H
 by_cases c2 : x7_1 < (l0.length : Int)
 rotate_left
 · rw [if_neg c2] at H
   have c2b0 : decide (x7_1 < (l0.length : Int)) = false := decide_eq_false c2
   clear c2
   obtain rfl := Option.some.inj H
   go_wp2
   go_ret
   exact ⟨by first | rfl | (simp; done) | (simp [*]; done), by repeat (first | exact Drawn0.refl _ | apply Drawn0.step)⟩
 rw [if_pos c2] at H
 have c2b0 : decide (x7_1 < (l0.length : Int)) = true := decide_eq_true c2
 clear c2
 by_cases c3 : 0 ≤ x7_1
 rotate_left
 · rw [if_neg c3] at H
   exact absurd H (by simp)
 rw [if_pos c3] at H
 have c3b0 : decide (0 ≤ x7_1) = true := decide_eq_true c3
 clear c3
 by_cases c4 : x7_1 < (l0.length : Int)
 rotate_left
 · rw [if_neg c4] at H
   exact absurd H (by simp)
 rw [if_pos c4] at H
 have c4b0 : decide (x7_1 < (l0.length : Int)) = true := decide_eq_true c4
 clear c4
 have c5b0 := eq_true (of_decide_eq_true qa : 0 ≤ x7_1)
 by_cases c6 : x7_1 ≤ (l0.length : Int)
 rotate_left
 · rw [if_neg c6] at H
   exact absurd H (by simp)
 rw [if_pos c6] at H
 have c6b0 := eq_true c6
 have c6b1 : decide (x7_1 ≤ (l0.length : Int)) = true := decide_eq_true c6
 clear c6
 replace H := Option.bind_eq_some_iff.mp H
 obtain ⟨t100, A70, H⟩ := H
 replace H : (if t100 = true then (some false) else (impl_different.l0 k1 l0 l0 (l0.length : Int) (wrap64 (x7_1 + 1)))) = some r := H
 have A7 := Aside0.mk A70
 clear A70
 by_cases c8 : t100 = true
 · subst c8
   have H1 : (some false) = some r := by rw [if_pos rfl] at H; exact H
   clear H
   have H := H1
   clear H1
   obtain rfl := Option.some.inj H
   have p101 : 0 ≤ (x7_1 : Int) := of_decide_eq_true qa
   have q101 : x7_1 < (l0.length : Int) := of_decide_eq_true qa
   obtain ⟨ad101, e101, hx101_0⟩ := Kd.at_int HR0.out x7_1 p101 q101
   cases e101
   replace p101 := eq_true p101
   replace q101 := eq_true q101
   obtain ⟨i09, hi09, _, hsz9, _⟩ := info_parts info3
   obtain ⟨hcut9, hA9, hC9⟩ := print_take_of (P := Try.prog) (Value.int .i64) 0 26 3 .i64 Try.underlying26 hi09 hsz9 (some ad101) c0 l0 x7_1 (of_decide_eq_true qa) (of_decide_eq_true qa) HC0.out
   have HR102 := q0 (Kd.C_of_reads (h1 := fun _ => rfl) (hA9 _ (Kd.reads_of_C HR0.out)))
   have HC102 := Aside0.mk hC9
   clear hA9 hC9 hi09 hsz9
   go_wp2_with (first | ((with_reducible refine gate_callee (f := 87) rfl ?_); refine goesL_ (some 16) rfl rfl Try.func87 (by kernel_rfl) rfl #[.slice (some ad101) (l0.take (x7_1 : Int).toNat).length c0, .int .i64 (rd l0 x7_1)] rfl (by (try simp only [List.map_toArray, List.map_cons, List.map_nil]); first | done | (rw [show (l0.take (x7_1 : Int).toNat).length = x7_1.toNat from (by rw [List.length_take]; have h_ : (x7_1 : Int) ≤ (l0.length : Int) := of_decide_eq_true qa; omega)] <;> rfl) | rfl | (simp only [List.length_drop, List.length_take]; rfl)) ?_; (with_reducible refine (slices_Contains_int.calls k1 _ _ (l0.take (x7_1 : Int).toNat) (rd l0 x7_1) true _ ?side1 ?side2 A7.out).mono ?_); (case side1 => repeat (first | exact HR102.out | (with_reducible refine Kd.C_alloc ?_ _) | (with_reducible refine Kd.C_drewN ?_ _) | (with_reducible refine Kd.C_drew ?_))); (case side2 => exact HC102.out); rintro e w' ⟨rfl, ⟨nd, rfl⟩⟩; refine ⟨_, rfl, ?_⟩))
   go_ret
   exact ⟨by first | rfl | (simp; done) | (simp [*]; done), by repeat (first | exact Drawn0.refl _ | apply Drawn0.step)⟩
 replace c8 := Bool.eq_false_iff.mpr c8
 subst c8
 have H1 : (impl_different.l0 k1 l0 l0 (l0.length : Int) (wrap64 (x7_1 + 1))) = some r := by rw [if_neg (show ¬ (false = true) by decide)] at H; exact H
 clear H
 have H := H1
 clear H1
 have H' := Aside0.mk H
 clear H
 have p101 : 0 ≤ (x7_1 : Int) := of_decide_eq_true qa
 have q101 : x7_1 < (l0.length : Int) := of_decide_eq_true qa
 obtain ⟨ad101, e101, hx101_0⟩ := Kd.at_int HR0.out x7_1 p101 q101
 cases e101
 replace p101 := eq_true p101
 replace q101 := eq_true q101
 obtain ⟨i103, hi103, _, hsz10, _⟩ := info_parts info3
 obtain ⟨hcut10, hA10, hC10⟩ := print_take_of (P := Try.prog) (Value.int .i64) 0 26 3 .i64 Try.underlying26 hi103 hsz10 (some ad101) c0 l0 x7_1 (of_decide_eq_true qa) (of_decide_eq_true qa) HC0.out
 have HR102 := q0 (Kd.C_of_reads (h1 := fun _ => rfl) (hA10 _ (Kd.reads_of_C HR0.out)))
 have HC102 := Aside0.mk hC10
 clear hA10 hC10 hi103 hsz10
 go_wp2_with (first | ((with_reducible refine gate_callee (f := 87) rfl ?_); refine goesL_ (some 16) rfl rfl Try.func87 (by kernel_rfl) rfl #[.slice (some ad101) (l0.take (x7_1 : Int).toNat).length c0, .int .i64 (rd l0 x7_1)] rfl (by (try simp only [List.map_toArray, List.map_cons, List.map_nil]); first | done | (rw [show (l0.take (x7_1 : Int).toNat).length = x7_1.toNat from (by rw [List.length_take]; have h_ : (x7_1 : Int) ≤ (l0.length : Int) := of_decide_eq_true qa; omega)] <;> rfl) | rfl | (simp only [List.length_drop, List.length_take]; rfl)) ?_; (with_reducible refine (slices_Contains_int.calls k1 _ _ (l0.take (x7_1 : Int).toNat) (rd l0 x7_1) false _ ?side1 ?side2 A7.out).mono ?_); (case side1 => repeat (first | exact HR102.out | (with_reducible refine Kd.C_alloc ?_ _) | (with_reducible refine Kd.C_drewN ?_ _) | (with_reducible refine Kd.C_drew ?_))); (case side2 => exact HC102.out); rintro e w' ⟨rfl, ⟨nd, rfl⟩⟩; refine ⟨_, rfl, ?_⟩))
 go_roundg k1
 case measure => have := HK1.out; omega
 case rel => exact ⟨(wrap64 (x7_1 + 1)), qs, H', ⟨by have := HK1.out; omega⟩, by repeat (first | exact Drawn0.refl _ | apply Drawn0.step)⟩

set_option maxHeartbeats 8000000 in
set_option maxRecDepth 100000 in
theorem impl_WayOk.calls (k : Nat) (a0_0 : Int) (A0_1 : Option Addr) (c0_1 : Nat) (l0_1 : List (STie)) (A1 : Option Addr) (c1 : Nat) (l1 : List Int) (r : Bool) (w : World) (hr0_1 : Kd.C kTie w A0_1 l0_1.length l0_1) (hc0_1 : l0_1.length ≤ c0_1) (hr1 : Kd.C (Kd.int .i64) w A1 l1.length l1) (hc1 : l1.length ≤ c1) (h : impl_WayOk.f k a0_0 l0_1 l1 = some r) :
    Calls Try.prog 46 #[.agg #[.int .i64 a0_0, .slice A0_1 l0_1.length c0_1], .slice A1 l1.length c1] w fun e w' => e = .returned (.bool r) ∧ Below w.heap.size w w' := by
 have hu30 := Try.underlying30
 have HR0_1 := Aside0.mk hr0_1
 have HC0_1 := Aside0.mk hc0_1
 clear hr0_1 hc0_1
 have HR1 := Aside0.mk hr1
 have HC1 := Aside0.mk hc1
 clear hr1 hc1
 have HB := q0 (Below.refl w.heap.size w)
 have H : ((impl_NetOk.f k a0_0 l0_1).bind fun t100 => (if t100 = true then (if (l1.length : Int) > 0 then ((impl_Net_walk.f k a0_0 l0_1 l1).bind fun t101 => (if t101 = true then ((impl_different.f k l1).bind fun t102 => (some t102)) else (some false))) else (some false)) else (some false))) = some r := h
 clear h
 replace H := Option.bind_eq_some_iff.mp H
 obtain ⟨t100, A30, H⟩ := H
 replace H : (if t100 = true then (if (l1.length : Int) > 0 then ((impl_Net_walk.f k a0_0 l0_1 l1).bind fun t101 => (if t101 = true then ((impl_different.f k l1).bind fun t102 => (some t102)) else (some false))) else (some false)) else (some false)) = some r := H
 have A3 := Aside0.mk A30
 clear A30
 by_cases c4 : t100 = true
 rotate_left
 · replace c4 := Bool.eq_false_iff.mpr c4
   subst c4
   have H1 : (some false) = some r := by rw [if_neg (show ¬ (false = true) by decide)] at H; exact H
   clear H
   have H := H1
   clear H1
   obtain rfl := Option.some.inj H
   go_enter Try.func46, Try.ntmps46
   go_wp2_with (first | ((with_reducible refine gate_dst (N := 2) rfl ?_); (try (refine gate_guard (by rfl) ?_; dsimp only)); refine be 2 #[.int .i64 a0_0, .slice A0_1 l0_1.length c0_1] 30 ?_; intro gb103 hg w22 hbox hb; have n0_ := q0 (below_step (qb HB.out) hb); have n1_ := q0 (hbox); have n2_ := q0 ((bs HB.out hg : w.heap.size ≤ gb103)); have n3_ := q0 ((bs HB.out hg : w.heap.size ≤ gb103)); clear HB; have HB := n0_; have BK103 := n1_; have GW103 := n2_; have GE103 := n3_; clear n0_ n1_ n2_ n3_ hb hbox hg; have hcz23_0 : w22.cell? ⟨gb103, 0, none⟩ = some (.int .i64 a0_0) := (blk_cell BK103.out 0).trans rfl; have hcz23_1 : w22.cell? ⟨gb103, 1, none⟩ = some (.slice A0_1 l0_1.length c0_1) := (blk_cell BK103.out 1).trans rfl; have hfz23_0 := blk_frozen BK103.out 0; have hfz23_1 := blk_frozen BK103.out 1) | ((with_reducible refine gate_callee (f := 38) rfl ?_); refine goesL_ (some 6) rfl rfl Try.func38 (by kernel_rfl) rfl #[.agg #[.int .i64 a0_0, .slice A0_1 l0_1.length c0_1]] rfl qm ?_; (with_reducible refine (impl_NetOk.calls k a0_0 _ _ l0_1 false _ ?side1 ?side2 A3.out).mono ?_); (case side1 => exact qc (Kd.C_below HR0_1.out HB.out)); (case side2 => exact HC0_1.out); rintro e w24 ⟨rfl, hb⟩; refine ⟨_, rfl, ?_⟩; have n0_ := q0 (kb BK103.out hb); have n1_ := q0 (below_step (qb HB.out) hb); clear BK103 HB; have BK103 := n0_; have HB := n1_; clear n0_ n1_; (try clear hb); (try clear hb2); (try clear hk); (try clear hi)))
   go_ret
   exact ⟨qe, qb HB.out⟩
 subst c4
 have H1 : (if (l1.length : Int) > 0 then ((impl_Net_walk.f k a0_0 l0_1 l1).bind fun t101 => (if t101 = true then ((impl_different.f k l1).bind fun t102 => (some t102)) else (some false))) else (some false)) = some r := by rw [if_pos rfl] at H; exact H
 clear H
 have H := H1
 clear H1
 by_cases c5 : (l1.length : Int) > 0
 rotate_left
 · rw [if_neg c5] at H
   have c5b0 : decide (0 < (l1.length : Int)) = false := decide_eq_false c5
   have c5b1 : decide (0 < l1.length) = false := decide_eq_false (by omega)
   clear c5
   obtain rfl := Option.some.inj H
   go_enter Try.func46, Try.ntmps46
   go_wp2_with (first | ((with_reducible refine gate_dst (N := 2) rfl ?_); (try (refine gate_guard (by rfl) ?_; dsimp only)); refine be 2 #[.int .i64 a0_0, .slice A0_1 l0_1.length c0_1] 30 ?_; intro gb103 hg w19 hbox hb; have n0_ := q0 (below_step (qb HB.out) hb); have n1_ := q0 (hbox); have n2_ := q0 ((bs HB.out hg : w.heap.size ≤ gb103)); have n3_ := q0 ((bs HB.out hg : w.heap.size ≤ gb103)); clear HB; have HB := n0_; have BK103 := n1_; have GW103 := n2_; have GE103 := n3_; clear n0_ n1_ n2_ n3_ hb hbox hg; have hcz20_0 : w19.cell? ⟨gb103, 0, none⟩ = some (.int .i64 a0_0) := (blk_cell BK103.out 0).trans rfl; have hcz20_1 : w19.cell? ⟨gb103, 1, none⟩ = some (.slice A0_1 l0_1.length c0_1) := (blk_cell BK103.out 1).trans rfl; have hfz20_0 := blk_frozen BK103.out 0; have hfz20_1 := blk_frozen BK103.out 1) | ((with_reducible refine gate_callee (f := 38) rfl ?_); refine goesL_ (some 6) rfl rfl Try.func38 (by kernel_rfl) rfl #[.agg #[.int .i64 a0_0, .slice A0_1 l0_1.length c0_1]] rfl qm ?_; (with_reducible refine (impl_NetOk.calls k a0_0 _ _ l0_1 true _ ?side1 ?side2 A3.out).mono ?_); (case side1 => exact qc (Kd.C_below HR0_1.out HB.out)); (case side2 => exact HC0_1.out); rintro e w21 ⟨rfl, hb⟩; refine ⟨_, rfl, ?_⟩; have n0_ := q0 (kb BK103.out hb); have n1_ := q0 (below_step (qb HB.out) hb); clear BK103 HB; have BK103 := n0_; have HB := n1_; clear n0_ n1_; (try clear hb); (try clear hb2); (try clear hk); (try clear hi)))
   go_ret
   exact ⟨qe, qb HB.out⟩
 rw [if_pos c5] at H
 have c5b0 : decide (0 < (l1.length : Int)) = true := decide_eq_true c5
 have c5b1 : decide (0 < l1.length) = true := decide_eq_true (by omega)
 clear c5
 replace H := Option.bind_eq_some_iff.mp H
 obtain ⟨t101, A60, H⟩ := H
 replace H : (if t101 = true then ((impl_different.f k l1).bind fun t102 => (some t102)) else (some false)) = some r := H
 have A6 := Aside0.mk A60
 clear A60
 by_cases c7 : t101 = true
 rotate_left
 · replace c7 := Bool.eq_false_iff.mpr c7
   subst c7
   have H1 : (some false) = some r := by rw [if_neg (show ¬ (false = true) by decide)] at H; exact H
   clear H
   have H := H1
   clear H1
   obtain rfl := Option.some.inj H
   go_enter Try.func46, Try.ntmps46
   go_wp2_with (first | ((with_reducible refine gate_dst (N := 2) rfl ?_); (try (refine gate_guard (by rfl) ?_; dsimp only)); refine be 2 #[.int .i64 a0_0, .slice A0_1 l0_1.length c0_1] 30 ?_; intro gb103 hg w14 hbox hb; have n0_ := q0 (below_step (qb HB.out) hb); have n1_ := q0 (hbox); have n2_ := q0 ((bs HB.out hg : w.heap.size ≤ gb103)); have n3_ := q0 ((bs HB.out hg : w.heap.size ≤ gb103)); clear HB; have HB := n0_; have BK103 := n1_; have GW103 := n2_; have GE103 := n3_; clear n0_ n1_ n2_ n3_ hb hbox hg; have hcz15_0 : w14.cell? ⟨gb103, 0, none⟩ = some (.int .i64 a0_0) := (blk_cell BK103.out 0).trans rfl; have hcz15_1 : w14.cell? ⟨gb103, 1, none⟩ = some (.slice A0_1 l0_1.length c0_1) := (blk_cell BK103.out 1).trans rfl; have hfz15_0 := blk_frozen BK103.out 0; have hfz15_1 := blk_frozen BK103.out 1) | ((with_reducible refine gate_callee (f := 38) rfl ?_); refine goesL_ (some 6) rfl rfl Try.func38 (by kernel_rfl) rfl #[.agg #[.int .i64 a0_0, .slice A0_1 l0_1.length c0_1]] rfl qm ?_; (with_reducible refine (impl_NetOk.calls k a0_0 _ _ l0_1 true _ ?side1 ?side2 A3.out).mono ?_); (case side1 => exact qc (Kd.C_below HR0_1.out HB.out)); (case side2 => exact HC0_1.out); rintro e w16 ⟨rfl, hb⟩; refine ⟨_, rfl, ?_⟩; have n0_ := q0 (kb BK103.out hb); have n1_ := q0 (below_step (qb HB.out) hb); clear BK103 HB; have BK103 := n0_; have HB := n1_; clear n0_ n1_; (try clear hb); (try clear hb2); (try clear hk); (try clear hi); have hcz17_0 : w16.cell? ⟨gb103, 0, none⟩ = some (.int .i64 a0_0) := (blk_cell BK103.out 0).trans rfl; have hcz17_1 : w16.cell? ⟨gb103, 1, none⟩ = some (.slice A0_1 l0_1.length c0_1) := (blk_cell BK103.out 1).trans rfl; have hfz17_0 := blk_frozen BK103.out 0; have hfz17_1 := blk_frozen BK103.out 1) | (go_at_call 73; (with_reducible refine (impl_Net_walk.calls k a0_0 _ _ l0_1 _ _ l1 false _ ?side1 ?side2 ?side3 ?side4 A6.out).mono ?_); (case side1 => exact qc (Kd.C_below HR0_1.out HB.out)); (case side2 => exact HC0_1.out); (case side3 => exact qc (Kd.C_below HR1.out HB.out)); (case side4 => exact HC1.out); rintro e w18 ⟨rfl, hb⟩; have n0_ := q0 (kb BK103.out hb); have n1_ := q0 (below_step (qb HB.out) hb); clear BK103 HB; have BK103 := n0_; have HB := n1_; clear n0_ n1_; (try clear hb); (try clear hb2); (try clear hk); (try clear hi)))
   go_ret
   exact ⟨qe, qb HB.out⟩
 subst c7
 have H1 : ((impl_different.f k l1).bind fun t102 => (some t102)) = some r := by rw [if_pos rfl] at H; exact H
 clear H
 have H := H1
 clear H1
 replace H := Option.bind_eq_some_iff.mp H
 obtain ⟨t102, A80, H⟩ := H
 replace H : (some t102) = some r := H
 have A8 := Aside0.mk A80
 clear A80
 obtain rfl := Option.some.inj H
 go_enter Try.func46, Try.ntmps46
 go_wp2_with (first | ((with_reducible refine gate_dst (N := 2) rfl ?_); (try (refine gate_guard (by rfl) ?_; dsimp only)); refine be 2 #[.int .i64 a0_0, .slice A0_1 l0_1.length c0_1] 30 ?_; intro gb103 hg w9 hbox hb; have n0_ := q0 (below_step (qb HB.out) hb); have n1_ := q0 (hbox); have n2_ := q0 ((bs HB.out hg : w.heap.size ≤ gb103)); have n3_ := q0 ((bs HB.out hg : w.heap.size ≤ gb103)); clear HB; have HB := n0_; have BK103 := n1_; have GW103 := n2_; have GE103 := n3_; clear n0_ n1_ n2_ n3_ hb hbox hg; have hcz10_0 : w9.cell? ⟨gb103, 0, none⟩ = some (.int .i64 a0_0) := (blk_cell BK103.out 0).trans rfl; have hcz10_1 : w9.cell? ⟨gb103, 1, none⟩ = some (.slice A0_1 l0_1.length c0_1) := (blk_cell BK103.out 1).trans rfl; have hfz10_0 := blk_frozen BK103.out 0; have hfz10_1 := blk_frozen BK103.out 1) | ((with_reducible refine gate_callee (f := 38) rfl ?_); refine goesL_ (some 6) rfl rfl Try.func38 (by kernel_rfl) rfl #[.agg #[.int .i64 a0_0, .slice A0_1 l0_1.length c0_1]] rfl qm ?_; (with_reducible refine (impl_NetOk.calls k a0_0 _ _ l0_1 true _ ?side1 ?side2 A3.out).mono ?_); (case side1 => exact qc (Kd.C_below HR0_1.out HB.out)); (case side2 => exact HC0_1.out); rintro e w11 ⟨rfl, hb⟩; refine ⟨_, rfl, ?_⟩; have n0_ := q0 (kb BK103.out hb); have n1_ := q0 (below_step (qb HB.out) hb); clear BK103 HB; have BK103 := n0_; have HB := n1_; clear n0_ n1_; (try clear hb); (try clear hb2); (try clear hk); (try clear hi); have hcz12_0 : w11.cell? ⟨gb103, 0, none⟩ = some (.int .i64 a0_0) := (blk_cell BK103.out 0).trans rfl; have hcz12_1 : w11.cell? ⟨gb103, 1, none⟩ = some (.slice A0_1 l0_1.length c0_1) := (blk_cell BK103.out 1).trans rfl; have hfz12_0 := blk_frozen BK103.out 0; have hfz12_1 := blk_frozen BK103.out 1) | (go_at_call 73; (with_reducible refine (impl_Net_walk.calls k a0_0 _ _ l0_1 _ _ l1 true _ ?side1 ?side2 ?side3 ?side4 A6.out).mono ?_); (case side1 => exact qc (Kd.C_below HR0_1.out HB.out)); (case side2 => exact HC0_1.out); (case side3 => exact qc (Kd.C_below HR1.out HB.out)); (case side4 => exact HC1.out); rintro e w13 ⟨rfl, hb⟩; have n0_ := q0 (kb BK103.out hb); have n1_ := q0 (below_step (qb HB.out) hb); clear BK103 HB; have BK103 := n0_; have HB := n1_; clear n0_ n1_; (try clear hb); (try clear hb2); (try clear hk); (try clear hi)) | (go_at_call 74; (with_reducible refine (impl_different.calls k _ _ l1 t102 _ ?side1 ?side2 A8.out).mono ?_); (case side1 => exact qc (Kd.C_below HR1.out HB.out)); (case side2 => exact HC1.out); rintro e w' ⟨rfl, ⟨nd, rfl⟩⟩))
 go_ret
 exact ⟨qe, qb HB.out⟩

def spec_WayOk.T6 : Bool × List (List Nat × List Nat) := (true, [([], []), ([], []), ([], []), ([1, 2], [1, 2]), ([3], [3]), ([0, 4], [0, 4]), ([5], [5]), ([6, 5], [6]), ([7], [7]), ([7], [7]), ([8, 9, 7], [7, 8, 9]), ([7], [7]), ([7], [7]), ([11, 12, 7], [7, 11, 12]), ([13, 7], [7, 13]), ([10, 14, 7, 7], [7, 10, 14]), ([7, 15], [7, 15]), ([16, 15], [16]), ([17], [17]), ([18, 17], [17, 18]), ([19, 17, 17], [17, 19]), ([20], [20]), ([20], [20]), ([20], [20]), ([23, 20], [20, 23]), ([22, 24, 20], [20, 22, 24]), ([25, 20], [20, 25]), ([20], [20]), ([20], [20]), ([27, 28, 20], [20, 27, 28]), ([29, 20], [20, 29]), ([21, 26, 30, 20, 20], [20, 21, 26, 30]), ([31, 20], [20, 31]), ([20, 32, 17], [17, 20, 32]), ([17, 33], [17, 33])])
def spec_WayOk.B6 : List Nat := [0, 0, 0, 6, 14, 31, 63, 127, 255, 255, 1023, 255, 255, 6399, 14591, 32767, 65535, 131071, 262143, 524287, 1048575, 2097151, 2097151, 2097151, 10485759, 31457279, 65011711, 2097151, 2097151, 404750335, 941621247, 2147483647, 4294967295, 8589934591, 17179869183]
theorem spec_WayOk.tab6 : rtab .any (opsOf Try.f47 6) = spec_WayOk.T6 := by kernel_rfl
theorem spec_WayOk.bits6 : waitsOk spec_WayOk.T6.2 spec_WayOk.B6 = true := by kernel_rfl
set_option maxHeartbeats 8000000 in
set_option maxRecDepth 100000 in
theorem spec_WayOk.calls (k : Nat) (a0_0 : Int) (A0_1 : Option Addr) (c0_1 : Nat) (l0_1 : List (STie)) (A1 : Option Addr) (c1 : Nat) (l1 : List Int) (r : Bool) (w : World) (hr0_1 : Kd.C kTie w A0_1 l0_1.length l0_1) (hc0_1 : l0_1.length ≤ c0_1) (hr1 : Kd.C (Kd.int .i64) w A1 l1.length l1) (hc1 : l1.length ≤ c1) (h : spec_WayOk.f k a0_0 l0_1 l1 = some r) :
    Calls Try.prog 47 #[.agg #[.int .i64 a0_0, .slice A0_1 l0_1.length c0_1], .slice A1 l1.length c1] w fun e w' => e = .returned (.bool r) ∧ Below w.heap.size w w' := by
 have hu30 := Try.underlying30
 have HR0_1 := Aside0.mk hr0_1
 have HC0_1 := Aside0.mk hc0_1
 clear hr0_1 hc0_1
 have HR1 := Aside0.mk hr1
 have HC1 := Aside0.mk hc1
 clear hr1 hc1
 have HB := q0 (Below.refl w.heap.size w)
 have H : ((spec_NetOk.f k a0_0 l0_1).bind fun t100 => (if t100 = true then (spec_WayOk.j0 k l1 (decide ((l1.length : Int) < 1)) a0_0 l0_1) else (spec_WayOk.j0 k l1 true a0_0 l0_1))) = some r := h
 clear h
 have HC3 := Aside0.mk H
 clear H
 go_enter Try.func47, Try.ntmps47
 go_upto_region 1 with (first | ((with_reducible refine gate_dst (N := 2) rfl ?_); (try (refine gate_guard (by rfl) ?_; dsimp only)); refine be 2 #[.int .i64 a0_0, .slice A0_1 l0_1.length c0_1] 30 ?_; intro gb104 hg w4 hbox hb; have n0_ := q0 (below_step (qb HB.out) hb); have n1_ := q0 (hbox); have n2_ := q0 ((bs HB.out hg : w.heap.size ≤ gb104)); have n3_ := q0 ((bs HB.out hg : w.heap.size ≤ gb104)); clear HB; have HB := n0_; have BK104 := n1_; have GW104 := n2_; have GE104 := n3_; clear n0_ n1_ n2_ n3_ hb hbox hg))
 (try simp only [Act.put, List.setIfInBounds_toArray, List.set_cons_zero, List.set_cons_succ])
 go_cut [13] (fun v13 wc => ∃ (kq : Nat) (x13_2 : Bool), v13 = .bool x13_2 ∧ Aside0 (spec_WayOk.j0 kq l1 x13_2 a0_0 l0_1 = some r) ∧ Aside0 (kq ≤ k) ∧ Aside0 (wc.heap[gb104]? = some (.cells #[.int .i64 a0_0, (.slice A0_1 l0_1.length c0_1)] 30 (0, 0))) ∧ Aside0 (Below w.heap.size w wc))
 case first =>
   have H := HC3.out
   clear HC3
   replace H := Option.bind_eq_some_iff.mp H
   obtain ⟨t100, A50, H⟩ := H
   replace H : (if t100 = true then (spec_WayOk.j0 k l1 (decide ((l1.length : Int) < 1)) a0_0 l0_1) else (spec_WayOk.j0 k l1 true a0_0 l0_1)) = some r := H
   have A5 := Aside0.mk A50
   clear A50
   by_cases c6 : t100 = true
   · subst c6
     have H1 : (spec_WayOk.j0 k l1 (decide ((l1.length : Int) < 1)) a0_0 l0_1) = some r := by rw [if_pos rfl] at H; exact H
     clear H
     have H := H1
     clear H1
     have H' := Aside0.mk H
     clear H
     have hcz7_0 : w4.cell? ⟨gb104, 0, none⟩ = some (.int .i64 a0_0) := (blk_cell BK104.out 0).trans rfl
     have hcz7_1 : w4.cell? ⟨gb104, 1, none⟩ = some (.slice A0_1 l0_1.length c0_1) := (blk_cell BK104.out 1).trans rfl
     have hfz7_0 := blk_frozen BK104.out 0
     have hfz7_1 := blk_frozen BK104.out 1
     go_wp2_with (first | ((with_reducible refine gate_callee (f := 49) rfl ?_); refine goesL_ (some 7) rfl rfl Try.func49 (by kernel_rfl) rfl #[.agg #[.int .i64 a0_0, .slice A0_1 l0_1.length c0_1]] rfl qm ?_; (with_reducible refine (spec_NetOk.calls k a0_0 _ _ l0_1 true _ ?side1 ?side2 A5.out).mono ?_); (case side1 => exact qc (Kd.C_below HR0_1.out HB.out)); (case side2 => exact HC0_1.out); rintro e w8 ⟨rfl, hb⟩; refine ⟨_, rfl, ?_⟩; have n0_ := q0 (kb BK104.out hb); have n1_ := q0 (below_step (qb HB.out) hb); clear BK104 HB; have BK104 := n0_; have HB := n1_; clear n0_ n1_; (try clear hb); (try clear hb2); (try clear hk); (try clear hi)))
     go_meet
     case rel => exact ⟨_, (decide ((l1.length : Int) < 1)), qs, H', ⟨by first | omega | exact Nat.le_refl _⟩, ⟨qk BK104.out⟩, ⟨qb HB.out⟩⟩
   replace c6 := Bool.eq_false_iff.mpr c6
   subst c6
   have H1 : (spec_WayOk.j0 k l1 true a0_0 l0_1) = some r := by rw [if_neg (show ¬ (false = true) by decide)] at H; exact H
   clear H
   have H := H1
   clear H1
   have H' := Aside0.mk H
   clear H
   have hcz9_0 : w4.cell? ⟨gb104, 0, none⟩ = some (.int .i64 a0_0) := (blk_cell BK104.out 0).trans rfl
   have hcz9_1 : w4.cell? ⟨gb104, 1, none⟩ = some (.slice A0_1 l0_1.length c0_1) := (blk_cell BK104.out 1).trans rfl
   have hfz9_0 := blk_frozen BK104.out 0
   have hfz9_1 := blk_frozen BK104.out 1
   go_wp2_with (first | ((with_reducible refine gate_callee (f := 49) rfl ?_); refine goesL_ (some 7) rfl rfl Try.func49 (by kernel_rfl) rfl #[.agg #[.int .i64 a0_0, .slice A0_1 l0_1.length c0_1]] rfl qm ?_; (with_reducible refine (spec_NetOk.calls k a0_0 _ _ l0_1 false _ ?side1 ?side2 A5.out).mono ?_); (case side1 => exact qc (Kd.C_below HR0_1.out HB.out)); (case side2 => exact HC0_1.out); rintro e w10 ⟨rfl, hb⟩; refine ⟨_, rfl, ?_⟩; have n0_ := q0 (kb BK104.out hb); have n1_ := q0 (below_step (qb HB.out) hb); clear BK104 HB; have BK104 := n0_; have HB := n1_; clear n0_ n1_; (try clear hb); (try clear hb2); (try clear hk); (try clear hi)))
   go_meet
   case rel => exact ⟨_, (true), qs, H', ⟨by first | omega | exact Nat.le_refl _⟩, ⟨qk BK104.out⟩, ⟨qb HB.out⟩⟩
 clear HC3
 try clear c1
 try clear p2
 try clear c4
 try clear c6
 try clear hcz7_0
 try clear hcz7_1
 try clear hcz9_0
 try clear hcz9_1
 try clear hfz7_0
 try clear hfz7_1
 try clear hfz9_0
 try clear hfz9_1
 obtain ⟨kq, x13_2, rfl, HA, HJ2, BK104, HB⟩ := hcut
 rcases kq with _ | kj2
 · exact absurd HA.out (by simp [spec_WayOk.j0])
 have H := HA.out
 clear HA
 simp only [spec_WayOk.j0] at H
 by_cases c11 : x13_2 = true
 · subst c11
   have H1 : (some false) = some r := by rw [if_pos rfl] at H; exact H
   clear H
   have H := H1
   clear H1
   obtain rfl := Option.some.inj H
   go_wp2
   go_ret
   exact ⟨qe, qb HB.out⟩
 replace c11 := Bool.eq_false_iff.mpr c11
 subst c11
 have H1 : (spec_WayOk.l0 kj2 l1 0 a0_0 l0_1) = some r := by rw [if_neg (show ¬ (false = true) by decide)] at H; exact H
 clear H
 have H := H1
 clear H1
 have H' := Aside0.mk H
 clear H
 go_wp2
 go_loopg [5] kj2 (fun kq v5 w' => ∃ (x5_2 : Int), v5 = .int .i64 x5_2 ∧ Aside0 (spec_WayOk.l0 kq l1 x5_2 a0_0 l0_1 = some r) ∧ Aside0 (kq ≤ kj2) ∧ Aside0 (w'.heap[gb104]? = some (.cells #[.int .i64 a0_0, (.slice A0_1 l0_1.length c0_1)] 30 (0, 0))) ∧ Aside0 (Below w.heap.size w w'))
 case atStart => exact ⟨(0), qs, H', ⟨Nat.le_refl _⟩, ⟨qk BK104.out⟩, ⟨qb HB.out⟩⟩
 clear H'
 try clear c1
 try clear p2
 try clear c4
 try clear c6
 try clear c11
 try clear hcz7_0
 try clear hcz7_1
 try clear hcz9_0
 try clear hcz9_1
 try clear hfz7_0
 try clear hfz7_1
 try clear hfz9_0
 try clear hfz9_1
 try clear p2
 obtain ⟨x5_2, rfl, HA, HK2, BK104, HB⟩ := hrel
 rcases gk with _ | k2
 · exact absurd HA.out (by simp [spec_WayOk.l0])
 have H := HA.out
 clear HA
 simp only [spec_WayOk.l0] at H
 by_cases c12 : x5_2 < (l1.length : Int)
 rotate_left
 · rw [if_neg c12] at H
   have c12b0 : decide (x5_2 < (l1.length : Int)) = false := decide_eq_false c12
   clear c12
   obtain rfl := Option.some.inj H
   go_wp2
   go_ret
   exact ⟨qe, qb HB.out⟩
 rw [if_pos c12] at H
 have c12b0 : decide (x5_2 < (l1.length : Int)) = true := decide_eq_true c12
 clear c12
 by_cases c13 : 0 ≤ x5_2
 rotate_left
 · rw [if_neg c13] at H
   exact absurd H (by simp)
 rw [if_pos c13] at H
 have c13b0 : decide (0 ≤ x5_2) = true := decide_eq_true c13
 clear c13
 replace H := Option.bind_eq_some_iff.mp H
 obtain ⟨t101, A105, H⟩ := H
 replace H : (if t101 = true then (if x5_2 ≤ (l1.length : Int) then ((spec_l2Has.f k2 (l1.take (x5_2 : Int).toNat) (rd l1 x5_2)).bind fun t102 => (if t102 = true then (some false) else (if x5_2 > 0 then (if 0 ≤ (wrap64 (x5_2 - 1)) then (if (wrap64 (x5_2 - 1)) < (l1.length : Int) then ((spec_NetHas.f k2 a0_0 l0_1 (rd l1 (wrap64 (x5_2 - 1))) (rd l1 x5_2)).bind fun t103 => (if t103 = true then (spec_WayOk.l0 k2 l1 (wrap64 (x5_2 + 1)) a0_0 l0_1) else (some false))) else (none)) else (none)) else (spec_WayOk.l0 k2 l1 (wrap64 (x5_2 + 1)) a0_0 l0_1)))) else (none)) else (some false)) = some r := H
 have A14 := Aside0.mk A105
 clear A105
 by_cases c15 : t101 = true
 rotate_left
 · replace c15 := Bool.eq_false_iff.mpr c15
   subst c15
   have H1 : (some false) = some r := by rw [if_neg (show ¬ (false = true) by decide)] at H; exact H
   clear H
   have H := H1
   clear H1
   obtain rfl := Option.some.inj H
   try go_wp2
   have n0_ := q0 (blk_drew BK104.out)
   have n1_ := q0 (below_drew1 HB.out)
   clear BK104
   clear HB
   have BK104 := n0_
   have HB := n1_
   clear n0_ n1_
   have p107 : 0 ≤ (x5_2 : Int) := of_decide_eq_true qa
   have q107 : x5_2 < (l1.length : Int) := of_decide_eq_true qa
   obtain ⟨ad107, e107, hx107_0⟩ := Kd.at_int HR1.out x5_2 p107 q107
   have hw107_0 := hx107_0
   cases e107
   replace hx107_0 := (HB.out.cell (World.block_lt_of_cell? w _ hx107_0)).trans hx107_0
   replace p107 := eq_true p107
   replace q107 := eq_true q107
   refine start_ (n := 35) (S := fun w' => w'.cell? ⟨gb104, 0, none⟩ = some (.int .i64 a0_0) ∧ w'.cell? ⟨gb104, 1, none⟩ = some (.slice A0_1 l0_1.length c0_1) ∧ w'.cell? (ad107.add (x5_2).toNat) = some (.int .i64 (rd l1 x5_2))) (ds := []) (ba 35 0) (by kernel_rfl) rfl (by kernel_rfl) ⟨(blk_cell BK104.out 0).trans rfl, (blk_cell BK104.out 1).trans rfl, ((HB.out.cell (World.block_lt_of_cell? w _ hw107_0)).trans hw107_0)⟩ (fun hHeld => ?_); refine with_tabW spec_WayOk.tab6 spec_WayOk.bits6 (fun HT_ HW_ => ?_)
   generalize wr.drew = w40 at BK104 HB hx107_0 hHeld ⊢
   refine pu 1 (some 21) (ba 35 2) HT_.out ?_
   refine pu 2 (some 22) (ba 35 6) HT_.out ?_
   refine pu 3 (some 23) (ba 35 14) HT_.out ?_
   refine tu 0 (some 20) (ba 35 15) HT_.out HW_.out hHeld ?_
   refine tu 4 (some 24) (ba 35 31) HT_.out HW_.out hHeld ?_
   refine one_ (i := 5) (N := some 25) (ba 35 63) rfl rfl (one_of HT_.out (by kernel_rfl)) (by decide) (fun K hK => ?_)
   refine goes_ Try.func53 (by kernel_rfl) rfl #[.agg #[.int .i64 a0_0, .slice A0_1 l0_1.length c0_1], .int .i64 (rd l1 x5_2)] (by rfl) rfl rfl qm ?_
   with_reducible refine (spec_l1Knot.calls k2 a0_0 _ _ l0_1 (rd l1 x5_2) false _ ?side1 ?side2 A14.out).mono ?_
   (case side1 => exact qc (Kd.C_below HR0_1.out HB.out))
   (case side2 => exact HC0_1.out)
   rintro e w41 ⟨rfl, hb⟩
   refine ⟨_, rfl, ?_⟩
   have n0_ := q0 (kb BK104.out hb)
   have n1_ := q0 (below_step (qb HB.out) hb)
   clear BK104
   clear HB
   have BK104 := n0_
   have HB := n1_
   clear n0_ n1_
   (try clear hb)
   (try clear hb2)
   (try clear hk)
   (try clear hi)
   refine hK.out _ _ ⟨(blk_cell BK104.out 0).trans rfl, (blk_cell BK104.out 1).trans rfl, ((HB.out.cell (World.block_lt_of_cell? w _ hw107_0)).trans hw107_0)⟩ (fun hHeld => ?_)
   clear hK K
   refine nu 25 ?_
   refine pu 6 (some 26) (ba 35 127) HT_.out ?_
   refine pu 7 (some 27) (ba 35 255) HT_.out ?_
   refine pv 8 (some 28) (ba 35 511) HT_.out ?_
   refine pv 9 (some 29) (ba 35 1023) HT_.out ?_
   refine pv 10 (some 30) (ba 35 2047) HT_.out ?_
   refine pv 11 (some 31) (ba 35 4095) HT_.out ?_
   refine pv 12 (some 32) (ba 35 8191) HT_.out ?_
   refine pv 13 (some 33) (ba 35 16383) HT_.out ?_
   refine pv 14 (some 34) (ba 35 32767) HT_.out ?_
   refine pv 15 (some 35) (ba 35 65535) HT_.out ?_
   refine pu 16 (some 36) (ba 35 131071) HT_.out ?_
   refine pu 17 (some 37) (ba 35 262143) HT_.out ?_
   refine pv 18 (some 38) (ba 35 524287) HT_.out ?_
   refine pv 19 (some 39) (ba 35 1048575) HT_.out ?_
   refine pv 20 (some 40) (ba 35 2097151) HT_.out ?_
   refine pv 21 (some 41) (ba 35 4194303) HT_.out ?_
   refine pv 22 (some 42) (ba 35 8388607) HT_.out ?_
   refine pv 23 (some 43) (ba 35 16777215) HT_.out ?_
   refine pv 24 (some 44) (ba 35 33554431) HT_.out ?_
   refine pv 25 (some 45) (ba 35 67108863) HT_.out ?_
   refine pv 26 (some 46) (ba 35 134217727) HT_.out ?_
   refine pv 27 (some 47) (ba 35 268435455) HT_.out ?_
   refine pv 28 (some 48) (ba 35 536870911) HT_.out ?_
   refine pv 29 (some 49) (ba 35 1073741823) HT_.out ?_
   refine pv 30 (some 50) (ba 35 2147483647) HT_.out ?_
   refine pv 31 (some 51) (ba 35 4294967295) HT_.out ?_
   refine pv 32 (some 52) (ba 35 8589934591) HT_.out ?_
   refine pv 33 (some 53) (ba 35 17179869183) HT_.out ?_
   refine pu 34 (some 54) (ba 35 34359738367) HT_.out ?_
   refine done_ (done_of HT_.out (by kernel_rfl)) ?_
   try go_wp2
   go_ret
   exact ⟨qe, qb HB.out⟩
 subst c15
 have H1 : (if x5_2 ≤ (l1.length : Int) then ((spec_l2Has.f k2 (l1.take (x5_2 : Int).toNat) (rd l1 x5_2)).bind fun t102 => (if t102 = true then (some false) else (if x5_2 > 0 then (if 0 ≤ (wrap64 (x5_2 - 1)) then (if (wrap64 (x5_2 - 1)) < (l1.length : Int) then ((spec_NetHas.f k2 a0_0 l0_1 (rd l1 (wrap64 (x5_2 - 1))) (rd l1 x5_2)).bind fun t103 => (if t103 = true then (spec_WayOk.l0 k2 l1 (wrap64 (x5_2 + 1)) a0_0 l0_1) else (some false))) else (none)) else (none)) else (spec_WayOk.l0 k2 l1 (wrap64 (x5_2 + 1)) a0_0 l0_1)))) else (none)) = some r := by rw [if_pos rfl] at H; exact H
 clear H
 have H := H1
 clear H1
 have c16b0 := eq_true (of_decide_eq_true qa : 0 ≤ x5_2)
 by_cases c17 : x5_2 ≤ (l1.length : Int)
 rotate_left
 · rw [if_neg c17] at H
   exact absurd H (by simp)
 rw [if_pos c17] at H
 have c17b0 := eq_true c17
 have c17b1 : decide (x5_2 ≤ (l1.length : Int)) = true := decide_eq_true c17
 clear c17
 replace H := Option.bind_eq_some_iff.mp H
 obtain ⟨t102, A106, H⟩ := H
 replace H : (if t102 = true then (some false) else (if x5_2 > 0 then (if 0 ≤ (wrap64 (x5_2 - 1)) then (if (wrap64 (x5_2 - 1)) < (l1.length : Int) then ((spec_NetHas.f k2 a0_0 l0_1 (rd l1 (wrap64 (x5_2 - 1))) (rd l1 x5_2)).bind fun t103 => (if t103 = true then (spec_WayOk.l0 k2 l1 (wrap64 (x5_2 + 1)) a0_0 l0_1) else (some false))) else (none)) else (none)) else (spec_WayOk.l0 k2 l1 (wrap64 (x5_2 + 1)) a0_0 l0_1))) = some r := H
 have A18 := Aside0.mk A106
 clear A106
 by_cases c19 : t102 = true
 · subst c19
   have H1 : (some false) = some r := by rw [if_pos rfl] at H; exact H
   clear H
   have H := H1
   clear H1
   obtain rfl := Option.some.inj H
   try go_wp2
   have n0_ := q0 (blk_drew BK104.out)
   have n1_ := q0 (below_drew1 HB.out)
   clear BK104
   clear HB
   have BK104 := n0_
   have HB := n1_
   clear n0_ n1_
   have p107 : 0 ≤ (x5_2 : Int) := of_decide_eq_true qa
   have q107 : x5_2 < (l1.length : Int) := of_decide_eq_true qa
   obtain ⟨ad107, e107, hx107_0⟩ := Kd.at_int HR1.out x5_2 p107 q107
   have hw107_0 := hx107_0
   cases e107
   replace hx107_0 := (HB.out.cell (World.block_lt_of_cell? w _ hx107_0)).trans hx107_0
   replace p107 := eq_true p107
   replace q107 := eq_true q107
   have p108 : 0 ≤ (x5_2 : Int) := of_decide_eq_true qa
   have q108 : x5_2 < (l1.length : Int) := of_decide_eq_true qa
   obtain ⟨ad108, e108, hx108_0⟩ := Kd.at_int HR1.out x5_2 p108 q108
   have hw108_0 := hx108_0
   obtain rfl : ad107 = ad108 := (by injection e108)
   replace hx108_0 := (HB.out.cell (World.block_lt_of_cell? w _ hx108_0)).trans hx108_0
   replace p108 := eq_true p108
   replace q108 := eq_true q108
   refine start_ (n := 35) (S := fun w' => w'.cell? ⟨gb104, 0, none⟩ = some (.int .i64 a0_0) ∧ w'.cell? ⟨gb104, 1, none⟩ = some (.slice A0_1 l0_1.length c0_1) ∧ w'.cell? (ad107.add (x5_2).toNat) = some (.int .i64 (rd l1 x5_2)) ∧ w'.cell? (ad107.add (x5_2).toNat) = some (.int .i64 (rd l1 x5_2))) (ds := []) (ba 35 0) (by kernel_rfl) rfl (by kernel_rfl) ⟨(blk_cell BK104.out 0).trans rfl, (blk_cell BK104.out 1).trans rfl, ((HB.out.cell (World.block_lt_of_cell? w _ hw107_0)).trans hw107_0), ((HB.out.cell (World.block_lt_of_cell? w _ hw108_0)).trans hw108_0)⟩ (fun hHeld => ?_); refine with_tabW spec_WayOk.tab6 spec_WayOk.bits6 (fun HT_ HW_ => ?_)
   generalize wr.drew = w20 at BK104 HB hx107_0 hx108_0 hHeld ⊢
   refine pu 1 (some 21) (ba 35 2) HT_.out ?_
   refine pu 2 (some 22) (ba 35 6) HT_.out ?_
   refine pu 3 (some 23) (ba 35 14) HT_.out ?_
   refine tu 0 (some 20) (ba 35 15) HT_.out HW_.out hHeld ?_
   refine tu 4 (some 24) (ba 35 31) HT_.out HW_.out hHeld ?_
   refine one_ (i := 5) (N := some 25) (ba 35 63) rfl rfl (one_of HT_.out (by kernel_rfl)) (by decide) (fun K hK => ?_)
   refine goes_ Try.func53 (by kernel_rfl) rfl #[.agg #[.int .i64 a0_0, .slice A0_1 l0_1.length c0_1], .int .i64 (rd l1 x5_2)] (by rfl) rfl rfl qm ?_
   with_reducible refine (spec_l1Knot.calls k2 a0_0 _ _ l0_1 (rd l1 x5_2) true _ ?side1 ?side2 A14.out).mono ?_
   (case side1 => exact qc (Kd.C_below HR0_1.out HB.out))
   (case side2 => exact HC0_1.out)
   rintro e w21 ⟨rfl, hb⟩
   refine ⟨_, rfl, ?_⟩
   have n0_ := q0 (kb BK104.out hb)
   have n1_ := q0 (below_step (qb HB.out) hb)
   clear BK104
   clear HB
   have BK104 := n0_
   have HB := n1_
   clear n0_ n1_
   (try clear hb)
   (try clear hb2)
   (try clear hk)
   (try clear hi)
   obtain ⟨i109, hi109, _, hsz22, _⟩ := info_parts info3
   obtain ⟨hcut22, hA22, hC22⟩ := print_take_of (P := Try.prog) (Value.int .i64) 0 26 3 .i64 Try.underlying26 hi109 hsz22 (some ad107) c1 l1 x5_2 (of_decide_eq_true qa) (of_decide_eq_true qa) HC1.out
   have HR110 := q0 (Kd.C_of_reads (h1 := fun _ => rfl) (hA22 _ (Kd.reads_of_C HR1.out)))
   have HC110 := Aside0.mk hC22
   clear hA22 hC22 hi109 hsz22
   refine hK.out _ _ ⟨(blk_cell BK104.out 0).trans rfl, (blk_cell BK104.out 1).trans rfl, ((HB.out.cell (World.block_lt_of_cell? w _ hw107_0)).trans hw107_0), ((HB.out.cell (World.block_lt_of_cell? w _ hw108_0)).trans hw108_0)⟩ (fun hHeld => ?_)
   clear hK K
   refine nu 25 ?_
   refine pu 6 (some 26) (ba 35 127) HT_.out ?_
   refine pu 7 (some 27) (ba 35 255) HT_.out ?_
   refine pu 8 (some 28) (ba 35 511) HT_.out ?_
   refine pu 9 (some 29) (ba 35 1023) HT_.out ?_
   refine pu 10 (some 30) (ba 35 2047) HT_.out ?_
   refine pu 11 (some 31) (ba 35 4095) HT_.out ?_
   refine pu 12 (some 32) (ba 35 8191) HT_.out ?_
   refine pu 13 (some 33) (ba 35 16383) HT_.out ?_
   refine tu 14 (some 34) (ba 35 32767) HT_.out HW_.out hHeld ?_
   refine one_ (i := 15) (N := some 35) (ba 35 65535) rfl rfl (one_of HT_.out (by kernel_rfl)) (by decide) (fun K hK => ?_)
   refine goes_ Try.func75 (by kernel_rfl) rfl #[.slice (some ad107) (l1.take (x5_2 : Int).toNat).length c1, .int .i64 (rd l1 x5_2)] (by rfl) rfl rfl (by (try simp only [List.map_toArray, List.map_cons, List.map_nil]); first | done | (rw [show (l1.take (x5_2 : Int).toNat).length = x5_2.toNat from (by rw [List.length_take]; have h_ : (x5_2 : Int) ≤ (l1.length : Int) := of_decide_eq_true qa; omega)] <;> rfl) | rfl | (simp only [List.length_drop, List.length_take]; rfl)) ?_
   with_reducible refine (spec_l2Has.calls k2 _ _ (l1.take (x5_2 : Int).toNat) (rd l1 x5_2) true _ ?side1 ?side2 A18.out).mono ?_
   (case side1 => exact qc (Kd.C_below HR110.out HB.out))
   (case side2 => exact HC110.out)
   rintro e w' ⟨rfl, ⟨nd, rfl⟩⟩
   refine ⟨_, rfl, ?_⟩
   refine hK.out _ _ ⟨(blk_cell BK104.out 0).trans rfl, (blk_cell BK104.out 1).trans rfl, ((HB.out.cell (World.block_lt_of_cell? w _ hw107_0)).trans hw107_0), ((HB.out.cell (World.block_lt_of_cell? w _ hw108_0)).trans hw108_0)⟩ (fun hHeld => ?_)
   clear hK K
   refine nu 35 ?_
   refine pu 16 (some 36) (ba 35 131071) HT_.out ?_
   refine pu 17 (some 37) (ba 35 262143) HT_.out ?_
   refine pv 18 (some 38) (ba 35 524287) HT_.out ?_
   refine pv 19 (some 39) (ba 35 1048575) HT_.out ?_
   refine pv 20 (some 40) (ba 35 2097151) HT_.out ?_
   refine pv 21 (some 41) (ba 35 4194303) HT_.out ?_
   refine pv 22 (some 42) (ba 35 8388607) HT_.out ?_
   refine pv 23 (some 43) (ba 35 16777215) HT_.out ?_
   refine pv 24 (some 44) (ba 35 33554431) HT_.out ?_
   refine pv 25 (some 45) (ba 35 67108863) HT_.out ?_
   refine pv 26 (some 46) (ba 35 134217727) HT_.out ?_
   refine pv 27 (some 47) (ba 35 268435455) HT_.out ?_
   refine pv 28 (some 48) (ba 35 536870911) HT_.out ?_
   refine pv 29 (some 49) (ba 35 1073741823) HT_.out ?_
   refine pv 30 (some 50) (ba 35 2147483647) HT_.out ?_
   refine pv 31 (some 51) (ba 35 4294967295) HT_.out ?_
   refine pv 32 (some 52) (ba 35 8589934591) HT_.out ?_
   refine pv 33 (some 53) (ba 35 17179869183) HT_.out ?_
   refine pu 34 (some 54) (ba 35 34359738367) HT_.out ?_
   refine done_ (done_of HT_.out (by kernel_rfl)) ?_
   try go_wp2
   go_ret
   exact ⟨qe, qb HB.out⟩
 replace c19 := Bool.eq_false_iff.mpr c19
 subst c19
 have H1 : (if x5_2 > 0 then (if 0 ≤ (wrap64 (x5_2 - 1)) then (if (wrap64 (x5_2 - 1)) < (l1.length : Int) then ((spec_NetHas.f k2 a0_0 l0_1 (rd l1 (wrap64 (x5_2 - 1))) (rd l1 x5_2)).bind fun t103 => (if t103 = true then (spec_WayOk.l0 k2 l1 (wrap64 (x5_2 + 1)) a0_0 l0_1) else (some false))) else (none)) else (none)) else (spec_WayOk.l0 k2 l1 (wrap64 (x5_2 + 1)) a0_0 l0_1)) = some r := by rw [if_neg (show ¬ (false = true) by decide)] at H; exact H
 clear H
 have H := H1
 clear H1
 by_cases c23 : x5_2 > 0
 rotate_left
 · rw [if_neg c23] at H
   have c23b0 : decide (0 < x5_2) = false := decide_eq_false c23
   clear c23
   have H' := Aside0.mk H
   clear H
   try go_wp2
   have n0_ := q0 (blk_drew BK104.out)
   have n1_ := q0 (below_drew1 HB.out)
   clear BK104
   clear HB
   have BK104 := n0_
   have HB := n1_
   clear n0_ n1_
   have p107 : 0 ≤ (x5_2 : Int) := of_decide_eq_true qa
   have q107 : x5_2 < (l1.length : Int) := of_decide_eq_true qa
   obtain ⟨ad107, e107, hx107_0⟩ := Kd.at_int HR1.out x5_2 p107 q107
   have hw107_0 := hx107_0
   cases e107
   replace hx107_0 := (HB.out.cell (World.block_lt_of_cell? w _ hx107_0)).trans hx107_0
   replace p107 := eq_true p107
   replace q107 := eq_true q107
   have p108 : 0 ≤ (x5_2 : Int) := of_decide_eq_true qa
   have q108 : x5_2 < (l1.length : Int) := of_decide_eq_true qa
   obtain ⟨ad108, e108, hx108_0⟩ := Kd.at_int HR1.out x5_2 p108 q108
   have hw108_0 := hx108_0
   obtain rfl : ad107 = ad108 := (by injection e108)
   replace hx108_0 := (HB.out.cell (World.block_lt_of_cell? w _ hx108_0)).trans hx108_0
   replace p108 := eq_true p108
   replace q108 := eq_true q108
   refine start_ (n := 35) (S := fun w' => w'.cell? ⟨gb104, 0, none⟩ = some (.int .i64 a0_0) ∧ w'.cell? ⟨gb104, 1, none⟩ = some (.slice A0_1 l0_1.length c0_1) ∧ w'.cell? (ad107.add (x5_2).toNat) = some (.int .i64 (rd l1 x5_2)) ∧ w'.cell? (ad107.add (x5_2).toNat) = some (.int .i64 (rd l1 x5_2))) (ds := []) (ba 35 0) (by kernel_rfl) rfl (by kernel_rfl) ⟨(blk_cell BK104.out 0).trans rfl, (blk_cell BK104.out 1).trans rfl, ((HB.out.cell (World.block_lt_of_cell? w _ hw107_0)).trans hw107_0), ((HB.out.cell (World.block_lt_of_cell? w _ hw108_0)).trans hw108_0)⟩ (fun hHeld => ?_); refine with_tabW spec_WayOk.tab6 spec_WayOk.bits6 (fun HT_ HW_ => ?_)
   generalize wr.drew = w37 at BK104 HB hx107_0 hx108_0 hHeld ⊢
   refine pu 1 (some 21) (ba 35 2) HT_.out ?_
   refine pu 2 (some 22) (ba 35 6) HT_.out ?_
   refine pu 3 (some 23) (ba 35 14) HT_.out ?_
   refine tu 0 (some 20) (ba 35 15) HT_.out HW_.out hHeld ?_
   refine tu 4 (some 24) (ba 35 31) HT_.out HW_.out hHeld ?_
   refine one_ (i := 5) (N := some 25) (ba 35 63) rfl rfl (one_of HT_.out (by kernel_rfl)) (by decide) (fun K hK => ?_)
   refine goes_ Try.func53 (by kernel_rfl) rfl #[.agg #[.int .i64 a0_0, .slice A0_1 l0_1.length c0_1], .int .i64 (rd l1 x5_2)] (by rfl) rfl rfl qm ?_
   with_reducible refine (spec_l1Knot.calls k2 a0_0 _ _ l0_1 (rd l1 x5_2) true _ ?side1 ?side2 A14.out).mono ?_
   (case side1 => exact qc (Kd.C_below HR0_1.out HB.out))
   (case side2 => exact HC0_1.out)
   rintro e w38 ⟨rfl, hb⟩
   refine ⟨_, rfl, ?_⟩
   have n0_ := q0 (kb BK104.out hb)
   have n1_ := q0 (below_step (qb HB.out) hb)
   clear BK104
   clear HB
   have BK104 := n0_
   have HB := n1_
   clear n0_ n1_
   (try clear hb)
   (try clear hb2)
   (try clear hk)
   (try clear hi)
   obtain ⟨i116, hi116, _, hsz39, _⟩ := info_parts info3
   obtain ⟨hcut39, hA39, hC39⟩ := print_take_of (P := Try.prog) (Value.int .i64) 0 26 3 .i64 Try.underlying26 hi116 hsz39 (some ad107) c1 l1 x5_2 (of_decide_eq_true qa) (of_decide_eq_true qa) HC1.out
   have HR110 := q0 (Kd.C_of_reads (h1 := fun _ => rfl) (hA39 _ (Kd.reads_of_C HR1.out)))
   have HC110 := Aside0.mk hC39
   clear hA39 hC39 hi116 hsz39
   refine hK.out _ _ ⟨(blk_cell BK104.out 0).trans rfl, (blk_cell BK104.out 1).trans rfl, ((HB.out.cell (World.block_lt_of_cell? w _ hw107_0)).trans hw107_0), ((HB.out.cell (World.block_lt_of_cell? w _ hw108_0)).trans hw108_0)⟩ (fun hHeld => ?_)
   clear hK K
   refine nu 25 ?_
   refine pu 6 (some 26) (ba 35 127) HT_.out ?_
   refine pu 7 (some 27) (ba 35 255) HT_.out ?_
   refine pu 8 (some 28) (ba 35 511) HT_.out ?_
   refine pu 9 (some 29) (ba 35 1023) HT_.out ?_
   refine pu 10 (some 30) (ba 35 2047) HT_.out ?_
   refine pu 11 (some 31) (ba 35 4095) HT_.out ?_
   refine pu 12 (some 32) (ba 35 8191) HT_.out ?_
   refine pu 13 (some 33) (ba 35 16383) HT_.out ?_
   refine tu 14 (some 34) (ba 35 32767) HT_.out HW_.out hHeld ?_
   refine one_ (i := 15) (N := some 35) (ba 35 65535) rfl rfl (one_of HT_.out (by kernel_rfl)) (by decide) (fun K hK => ?_)
   refine goes_ Try.func75 (by kernel_rfl) rfl #[.slice (some ad107) (l1.take (x5_2 : Int).toNat).length c1, .int .i64 (rd l1 x5_2)] (by rfl) rfl rfl (by (try simp only [List.map_toArray, List.map_cons, List.map_nil]); first | done | (rw [show (l1.take (x5_2 : Int).toNat).length = x5_2.toNat from (by rw [List.length_take]; have h_ : (x5_2 : Int) ≤ (l1.length : Int) := of_decide_eq_true qa; omega)] <;> rfl) | rfl | (simp only [List.length_drop, List.length_take]; rfl)) ?_
   with_reducible refine (spec_l2Has.calls k2 _ _ (l1.take (x5_2 : Int).toNat) (rd l1 x5_2) false _ ?side1 ?side2 A18.out).mono ?_
   (case side1 => exact qc (Kd.C_below HR110.out HB.out))
   (case side2 => exact HC110.out)
   rintro e w' ⟨rfl, ⟨nd, rfl⟩⟩
   refine ⟨_, rfl, ?_⟩
   refine hK.out _ _ ⟨(blk_cell BK104.out 0).trans rfl, (blk_cell BK104.out 1).trans rfl, ((HB.out.cell (World.block_lt_of_cell? w _ hw107_0)).trans hw107_0), ((HB.out.cell (World.block_lt_of_cell? w _ hw108_0)).trans hw108_0)⟩ (fun hHeld => ?_)
   clear hK K
   refine nu 35 ?_
   refine pu 16 (some 36) (ba 35 131071) HT_.out ?_
   refine pu 17 (some 37) (ba 35 262143) HT_.out ?_
   refine pu 18 (some 38) (ba 35 524287) HT_.out ?_
   refine pu 19 (some 39) (ba 35 1048575) HT_.out ?_
   refine pu 20 (some 40) (ba 35 2097151) HT_.out ?_
   refine pv 21 (some 41) (ba 35 4194303) HT_.out ?_
   refine pv 22 (some 42) (ba 35 8388607) HT_.out ?_
   refine pv 23 (some 43) (ba 35 16777215) HT_.out ?_
   refine pv 24 (some 44) (ba 35 33554431) HT_.out ?_
   refine pv 25 (some 45) (ba 35 67108863) HT_.out ?_
   refine pv 26 (some 46) (ba 35 134217727) HT_.out ?_
   refine pv 27 (some 47) (ba 35 268435455) HT_.out ?_
   refine pv 28 (some 48) (ba 35 536870911) HT_.out ?_
   refine pv 29 (some 49) (ba 35 1073741823) HT_.out ?_
   refine pv 30 (some 50) (ba 35 2147483647) HT_.out ?_
   refine pv 31 (some 51) (ba 35 4294967295) HT_.out ?_
   refine pv 32 (some 52) (ba 35 8589934591) HT_.out ?_
   refine pu 33 (some 53) (ba 35 17179869183) HT_.out ?_
   refine pu 34 (some 54) (ba 35 34359738367) HT_.out ?_
   refine done_ (done_of HT_.out (by kernel_rfl)) ?_
   try go_wp2
   go_roundg k2
   case measure => have := HJ2.out; have := HK2.out; omega
   case rel => exact ⟨(wrap64 (x5_2 + 1)), qs, H', ⟨by have := HJ2.out; have := HK2.out; omega⟩, ⟨qk BK104.out⟩, ⟨qb HB.out⟩⟩
 rw [if_pos c23] at H
 have c23b0 : decide (0 < x5_2) = true := decide_eq_true c23
 clear c23
 obtain ⟨ji24, hji24⟩ : ∃ j_ : Int, (wrap64 (x5_2 - 1)) = j_ := ⟨_, rfl⟩
 replace H : (if 0 ≤ (ji24) then (if (ji24) < (l1.length : Int) then ((spec_NetHas.f k2 a0_0 l0_1 (rd l1 (ji24)) (rd l1 x5_2)).bind fun t103 => (if t103 = true then (spec_WayOk.l0 k2 l1 (wrap64 (x5_2 + 1)) a0_0 l0_1) else (some false))) else (none)) else (none)) = some r := by first | (rw [hji24] at H; exact H) | (simp only [hji24] at H ⊢; exact H)
 (try rw [hji24] at A14)
 (try rw [hji24] at A18)
 have hji24w : (IntKind.i64.wrap (x5_2 - 1)) = ji24 := (i64_w _).trans hji24
 by_cases c25 : 0 ≤ (ji24)
 rotate_left
 · rw [if_neg c25] at H
   exact absurd H (by simp)
 rw [if_pos c25] at H
 have c25b0 : decide (0 ≤ (ji24)) = true := decide_eq_true c25
 clear c25
 by_cases c26 : (ji24) < (l1.length : Int)
 rotate_left
 · rw [if_neg c26] at H
   exact absurd H (by simp)
 rw [if_pos c26] at H
 have c26b0 : decide ((ji24) < (l1.length : Int)) = true := decide_eq_true c26
 clear c26
 replace H := Option.bind_eq_some_iff.mp H
 obtain ⟨t103, A111, H⟩ := H
 replace H : (if t103 = true then (spec_WayOk.l0 k2 l1 (wrap64 (x5_2 + 1)) a0_0 l0_1) else (some false)) = some r := H
 have A27 := Aside0.mk A111
 clear A111
 by_cases c28 : t103 = true
 rotate_left
 · replace c28 := Bool.eq_false_iff.mpr c28
   subst c28
   have H1 : (some false) = some r := by rw [if_neg (show ¬ (false = true) by decide)] at H; exact H
   clear H
   have H := H1
   clear H1
   obtain rfl := Option.some.inj H
   try go_wp2
   have n0_ := q0 (blk_drew BK104.out)
   have n1_ := q0 (below_drew1 HB.out)
   clear BK104
   clear HB
   have BK104 := n0_
   have HB := n1_
   clear n0_ n1_
   have p107 : 0 ≤ (x5_2 : Int) := of_decide_eq_true qa
   have q107 : x5_2 < (l1.length : Int) := of_decide_eq_true qa
   obtain ⟨ad107, e107, hx107_0⟩ := Kd.at_int HR1.out x5_2 p107 q107
   have hw107_0 := hx107_0
   cases e107
   replace hx107_0 := (HB.out.cell (World.block_lt_of_cell? w _ hx107_0)).trans hx107_0
   replace p107 := eq_true p107
   replace q107 := eq_true q107
   have p108 : 0 ≤ (x5_2 : Int) := of_decide_eq_true qa
   have q108 : x5_2 < (l1.length : Int) := of_decide_eq_true qa
   obtain ⟨ad108, e108, hx108_0⟩ := Kd.at_int HR1.out x5_2 p108 q108
   have hw108_0 := hx108_0
   obtain rfl : ad107 = ad108 := (by injection e108)
   replace hx108_0 := (HB.out.cell (World.block_lt_of_cell? w _ hx108_0)).trans hx108_0
   replace p108 := eq_true p108
   replace q108 := eq_true q108
   have p112 : 0 ≤ ((ji24) : Int) := of_decide_eq_true qa
   have q112 : (ji24) < (l1.length : Int) := of_decide_eq_true qa
   obtain ⟨ad112, e112, hx112_0⟩ := Kd.at_int HR1.out (ji24) p112 q112
   have hw112_0 := hx112_0
   obtain rfl : ad107 = ad112 := (by injection e112)
   replace hx112_0 := (HB.out.cell (World.block_lt_of_cell? w _ hx112_0)).trans hx112_0
   replace p112 := eq_true p112
   replace q112 := eq_true q112
   have p113 : 0 ≤ (x5_2 : Int) := of_decide_eq_true qa
   have q113 : x5_2 < (l1.length : Int) := of_decide_eq_true qa
   obtain ⟨ad113, e113, hx113_0⟩ := Kd.at_int HR1.out x5_2 p113 q113
   have hw113_0 := hx113_0
   obtain rfl : ad107 = ad113 := (by injection e113)
   replace hx113_0 := (HB.out.cell (World.block_lt_of_cell? w _ hx113_0)).trans hx113_0
   replace p113 := eq_true p113
   replace q113 := eq_true q113
   refine start_ (n := 35) (S := fun w' => w'.cell? ⟨gb104, 0, none⟩ = some (.int .i64 a0_0) ∧ w'.cell? ⟨gb104, 1, none⟩ = some (.slice A0_1 l0_1.length c0_1) ∧ w'.cell? (ad107.add (x5_2).toNat) = some (.int .i64 (rd l1 x5_2)) ∧ w'.cell? (ad107.add (x5_2).toNat) = some (.int .i64 (rd l1 x5_2)) ∧ w'.cell? (ad107.add ((ji24)).toNat) = some (.int .i64 (rd l1 (ji24))) ∧ w'.cell? (ad107.add (x5_2).toNat) = some (.int .i64 (rd l1 x5_2))) (ds := []) (ba 35 0) (by kernel_rfl) rfl (by kernel_rfl) ⟨(blk_cell BK104.out 0).trans rfl, (blk_cell BK104.out 1).trans rfl, ((HB.out.cell (World.block_lt_of_cell? w _ hw107_0)).trans hw107_0), ((HB.out.cell (World.block_lt_of_cell? w _ hw108_0)).trans hw108_0), ((HB.out.cell (World.block_lt_of_cell? w _ hw112_0)).trans hw112_0), ((HB.out.cell (World.block_lt_of_cell? w _ hw113_0)).trans hw113_0)⟩ (fun hHeld => ?_); refine with_tabW spec_WayOk.tab6 spec_WayOk.bits6 (fun HT_ HW_ => ?_)
   generalize wr.drew = w33 at BK104 HB hx107_0 hx108_0 hx112_0 hx113_0 hHeld ⊢
   refine pu 1 (some 21) (ba 35 2) HT_.out ?_
   refine pu 2 (some 22) (ba 35 6) HT_.out ?_
   refine pu 3 (some 23) (ba 35 14) HT_.out ?_
   refine tu 0 (some 20) (ba 35 15) HT_.out HW_.out hHeld ?_
   refine tu 4 (some 24) (ba 35 31) HT_.out HW_.out hHeld ?_
   refine one_ (i := 5) (N := some 25) (ba 35 63) rfl rfl (one_of HT_.out (by kernel_rfl)) (by decide) (fun K hK => ?_)
   refine goes_ Try.func53 (by kernel_rfl) rfl #[.agg #[.int .i64 a0_0, .slice A0_1 l0_1.length c0_1], .int .i64 (rd l1 x5_2)] (by rfl) rfl rfl qm ?_
   with_reducible refine (spec_l1Knot.calls k2 a0_0 _ _ l0_1 (rd l1 x5_2) true _ ?side1 ?side2 A14.out).mono ?_
   (case side1 => exact qc (Kd.C_below HR0_1.out HB.out))
   (case side2 => exact HC0_1.out)
   rintro e w34 ⟨rfl, hb⟩
   refine ⟨_, rfl, ?_⟩
   have n0_ := q0 (kb BK104.out hb)
   have n1_ := q0 (below_step (qb HB.out) hb)
   clear BK104
   clear HB
   have BK104 := n0_
   have HB := n1_
   clear n0_ n1_
   (try clear hb)
   (try clear hb2)
   (try clear hk)
   (try clear hi)
   obtain ⟨i115, hi115, _, hsz35, _⟩ := info_parts info3
   obtain ⟨hcut35, hA35, hC35⟩ := print_take_of (P := Try.prog) (Value.int .i64) 0 26 3 .i64 Try.underlying26 hi115 hsz35 (some ad107) c1 l1 x5_2 (of_decide_eq_true qa) (of_decide_eq_true qa) HC1.out
   have HR110 := q0 (Kd.C_of_reads (h1 := fun _ => rfl) (hA35 _ (Kd.reads_of_C HR1.out)))
   have HC110 := Aside0.mk hC35
   clear hA35 hC35 hi115 hsz35
   refine hK.out _ _ ⟨(blk_cell BK104.out 0).trans rfl, (blk_cell BK104.out 1).trans rfl, ((HB.out.cell (World.block_lt_of_cell? w _ hw107_0)).trans hw107_0), ((HB.out.cell (World.block_lt_of_cell? w _ hw108_0)).trans hw108_0), ((HB.out.cell (World.block_lt_of_cell? w _ hw112_0)).trans hw112_0), ((HB.out.cell (World.block_lt_of_cell? w _ hw113_0)).trans hw113_0)⟩ (fun hHeld => ?_)
   clear hK K
   refine nu 25 ?_
   refine pu 6 (some 26) (ba 35 127) HT_.out ?_
   refine pu 7 (some 27) (ba 35 255) HT_.out ?_
   refine pu 8 (some 28) (ba 35 511) HT_.out ?_
   refine pu 9 (some 29) (ba 35 1023) HT_.out ?_
   refine pu 10 (some 30) (ba 35 2047) HT_.out ?_
   refine pu 11 (some 31) (ba 35 4095) HT_.out ?_
   refine pu 12 (some 32) (ba 35 8191) HT_.out ?_
   refine pu 13 (some 33) (ba 35 16383) HT_.out ?_
   refine tu 14 (some 34) (ba 35 32767) HT_.out HW_.out hHeld ?_
   refine one_ (i := 15) (N := some 35) (ba 35 65535) rfl rfl (one_of HT_.out (by kernel_rfl)) (by decide) (fun K hK => ?_)
   refine goes_ Try.func75 (by kernel_rfl) rfl #[.slice (some ad107) (l1.take (x5_2 : Int).toNat).length c1, .int .i64 (rd l1 x5_2)] (by rfl) rfl rfl (by (try simp only [List.map_toArray, List.map_cons, List.map_nil]); first | done | (rw [show (l1.take (x5_2 : Int).toNat).length = x5_2.toNat from (by rw [List.length_take]; have h_ : (x5_2 : Int) ≤ (l1.length : Int) := of_decide_eq_true qa; omega)] <;> rfl) | rfl | (simp only [List.length_drop, List.length_take]; rfl)) ?_
   with_reducible refine (spec_l2Has.calls k2 _ _ (l1.take (x5_2 : Int).toNat) (rd l1 x5_2) false _ ?side1 ?side2 A18.out).mono ?_
   (case side1 => exact qc (Kd.C_below HR110.out HB.out))
   (case side2 => exact HC110.out)
   rintro e w' ⟨rfl, ⟨nd, rfl⟩⟩
   refine ⟨_, rfl, ?_⟩
   refine hK.out _ _ ⟨(blk_cell BK104.out 0).trans rfl, (blk_cell BK104.out 1).trans rfl, ((HB.out.cell (World.block_lt_of_cell? w _ hw107_0)).trans hw107_0), ((HB.out.cell (World.block_lt_of_cell? w _ hw108_0)).trans hw108_0), ((HB.out.cell (World.block_lt_of_cell? w _ hw112_0)).trans hw112_0), ((HB.out.cell (World.block_lt_of_cell? w _ hw113_0)).trans hw113_0)⟩ (fun hHeld => ?_)
   clear hK K
   refine nu 35 ?_
   refine pu 16 (some 36) (ba 35 131071) HT_.out ?_
   refine pu 17 (some 37) (ba 35 262143) HT_.out ?_
   refine pu 18 (some 38) (ba 35 524287) HT_.out ?_
   refine pu 19 (some 39) (ba 35 1048575) HT_.out ?_
   refine pu 20 (some 40) (ba 35 2097151) HT_.out ?_
   refine pu 22 (some 42) (ba 35 6291455) HT_.out ?_
   refine pu 23 (some 43) (ba 35 14680063) HT_.out ?_
   refine pu 24 (some 44) (ba 35 31457279) HT_.out ?_
   refine pu 25 (some 45) (ba 35 65011711) HT_.out ?_
   refine pu 27 (some 47) (ba 35 199229439) HT_.out ?_
   refine pu 28 (some 48) (ba 35 467664895) HT_.out ?_
   refine pu 29 (some 49) (ba 35 1004535807) HT_.out ?_
   refine tu 21 (some 41) (ba 35 1006632959) HT_.out HW_.out hHeld ?_
   refine tu 26 (some 46) (ba 35 1073741823) HT_.out HW_.out hHeld ?_
   refine tu 30 (some 50) (ba 35 2147483647) HT_.out HW_.out hHeld ?_
   refine one_ (i := 31) (N := some 51) (ba 35 4294967295) rfl rfl (one_of HT_.out (by kernel_rfl)) (by decide) (fun K hK => ?_)
   refine goes_ Try.func56 (by kernel_rfl) rfl #[.agg #[.int .i64 a0_0, .slice A0_1 l0_1.length c0_1], .int .i64 (rd l1 (ji24)), .int .i64 (rd l1 x5_2)] (by rfl) rfl rfl (by (try simp only [List.map_toArray, List.map_cons, List.map_nil]); first | done | (simp only [hji24]; rfl) | rfl | (simp only [List.length_drop, List.length_take]; rfl)) ?_
   with_reducible refine (spec_NetHas.calls k2 a0_0 _ _ l0_1 (rd l1 (ji24)) (rd l1 x5_2) false _ ?side1 ?side2 A27.out).mono ?_
   (case side1 => exact qc (Kd.C_below HR0_1.out (qb HB.out)))
   (case side2 => exact HC0_1.out)
   rintro e w36 ⟨rfl, hb⟩
   refine ⟨_, rfl, ?_⟩
   have n0_ := q0 (kb BK104.out hb)
   have n1_ := q0 (below_step (qb HB.out) hb)
   clear BK104
   clear HB
   have BK104 := n0_
   have HB := n1_
   clear n0_ n1_
   (try clear hb)
   (try clear hb2)
   (try clear hk)
   (try clear hi)
   refine hK.out _ _ ⟨(blk_cell BK104.out 0).trans rfl, (blk_cell BK104.out 1).trans rfl, ((HB.out.cell (World.block_lt_of_cell? w _ hw107_0)).trans hw107_0), ((HB.out.cell (World.block_lt_of_cell? w _ hw108_0)).trans hw108_0), ((HB.out.cell (World.block_lt_of_cell? w _ hw112_0)).trans hw112_0), ((HB.out.cell (World.block_lt_of_cell? w _ hw113_0)).trans hw113_0)⟩ (fun hHeld => ?_)
   clear hK K
   refine nu 51 ?_
   refine pu 32 (some 52) (ba 35 8589934591) HT_.out ?_
   refine pu 33 (some 53) (ba 35 17179869183) HT_.out ?_
   refine pu 34 (some 54) (ba 35 34359738367) HT_.out ?_
   refine done_ (done_of HT_.out (by kernel_rfl)) ?_
   try go_wp2
   go_ret
   exact ⟨by first | rfl | (simp [errW_none, errW_some] <;> rfl) | (simp only [← hji24]; first | rfl | (simp [errW_none, errW_some] <;> rfl)) | (simp [*, errW_none, errW_some] <;> rfl), qb HB.out⟩
 subst c28
 have H1 : (spec_WayOk.l0 k2 l1 (wrap64 (x5_2 + 1)) a0_0 l0_1) = some r := by rw [if_pos rfl] at H; exact H
 clear H
 have H := H1
 clear H1
 have H' := Aside0.mk H
 clear H
 try go_wp2
 have n0_ := q0 (blk_drew BK104.out)
 have n1_ := q0 (below_drew1 HB.out)
 clear BK104
 clear HB
 have BK104 := n0_
 have HB := n1_
 clear n0_ n1_
 have p107 : 0 ≤ (x5_2 : Int) := of_decide_eq_true qa
 have q107 : x5_2 < (l1.length : Int) := of_decide_eq_true qa
 obtain ⟨ad107, e107, hx107_0⟩ := Kd.at_int HR1.out x5_2 p107 q107
 have hw107_0 := hx107_0
 cases e107
 replace hx107_0 := (HB.out.cell (World.block_lt_of_cell? w _ hx107_0)).trans hx107_0
 replace p107 := eq_true p107
 replace q107 := eq_true q107
 have p108 : 0 ≤ (x5_2 : Int) := of_decide_eq_true qa
 have q108 : x5_2 < (l1.length : Int) := of_decide_eq_true qa
 obtain ⟨ad108, e108, hx108_0⟩ := Kd.at_int HR1.out x5_2 p108 q108
 have hw108_0 := hx108_0
 obtain rfl : ad107 = ad108 := (by injection e108)
 replace hx108_0 := (HB.out.cell (World.block_lt_of_cell? w _ hx108_0)).trans hx108_0
 replace p108 := eq_true p108
 replace q108 := eq_true q108
 have p112 : 0 ≤ ((ji24) : Int) := of_decide_eq_true qa
 have q112 : (ji24) < (l1.length : Int) := of_decide_eq_true qa
 obtain ⟨ad112, e112, hx112_0⟩ := Kd.at_int HR1.out (ji24) p112 q112
 have hw112_0 := hx112_0
 obtain rfl : ad107 = ad112 := (by injection e112)
 replace hx112_0 := (HB.out.cell (World.block_lt_of_cell? w _ hx112_0)).trans hx112_0
 replace p112 := eq_true p112
 replace q112 := eq_true q112
 have p113 : 0 ≤ (x5_2 : Int) := of_decide_eq_true qa
 have q113 : x5_2 < (l1.length : Int) := of_decide_eq_true qa
 obtain ⟨ad113, e113, hx113_0⟩ := Kd.at_int HR1.out x5_2 p113 q113
 have hw113_0 := hx113_0
 obtain rfl : ad107 = ad113 := (by injection e113)
 replace hx113_0 := (HB.out.cell (World.block_lt_of_cell? w _ hx113_0)).trans hx113_0
 replace p113 := eq_true p113
 replace q113 := eq_true q113
 refine start_ (n := 35) (S := fun w' => w'.cell? ⟨gb104, 0, none⟩ = some (.int .i64 a0_0) ∧ w'.cell? ⟨gb104, 1, none⟩ = some (.slice A0_1 l0_1.length c0_1) ∧ w'.cell? (ad107.add (x5_2).toNat) = some (.int .i64 (rd l1 x5_2)) ∧ w'.cell? (ad107.add (x5_2).toNat) = some (.int .i64 (rd l1 x5_2)) ∧ w'.cell? (ad107.add ((ji24)).toNat) = some (.int .i64 (rd l1 (ji24))) ∧ w'.cell? (ad107.add (x5_2).toNat) = some (.int .i64 (rd l1 x5_2))) (ds := []) (ba 35 0) (by kernel_rfl) rfl (by kernel_rfl) ⟨(blk_cell BK104.out 0).trans rfl, (blk_cell BK104.out 1).trans rfl, ((HB.out.cell (World.block_lt_of_cell? w _ hw107_0)).trans hw107_0), ((HB.out.cell (World.block_lt_of_cell? w _ hw108_0)).trans hw108_0), ((HB.out.cell (World.block_lt_of_cell? w _ hw112_0)).trans hw112_0), ((HB.out.cell (World.block_lt_of_cell? w _ hw113_0)).trans hw113_0)⟩ (fun hHeld => ?_); refine with_tabW spec_WayOk.tab6 spec_WayOk.bits6 (fun HT_ HW_ => ?_)
 generalize wr.drew = w29 at BK104 HB hx107_0 hx108_0 hx112_0 hx113_0 hHeld ⊢
 refine pu 1 (some 21) (ba 35 2) HT_.out ?_
 refine pu 2 (some 22) (ba 35 6) HT_.out ?_
 refine pu 3 (some 23) (ba 35 14) HT_.out ?_
 refine tu 0 (some 20) (ba 35 15) HT_.out HW_.out hHeld ?_
 refine tu 4 (some 24) (ba 35 31) HT_.out HW_.out hHeld ?_
 refine one_ (i := 5) (N := some 25) (ba 35 63) rfl rfl (one_of HT_.out (by kernel_rfl)) (by decide) (fun K hK => ?_)
 refine goes_ Try.func53 (by kernel_rfl) rfl #[.agg #[.int .i64 a0_0, .slice A0_1 l0_1.length c0_1], .int .i64 (rd l1 x5_2)] (by rfl) rfl rfl qm ?_
 with_reducible refine (spec_l1Knot.calls k2 a0_0 _ _ l0_1 (rd l1 x5_2) true _ ?side1 ?side2 A14.out).mono ?_
 (case side1 => exact qc (Kd.C_below HR0_1.out HB.out))
 (case side2 => exact HC0_1.out)
 rintro e w30 ⟨rfl, hb⟩
 refine ⟨_, rfl, ?_⟩
 have n0_ := q0 (kb BK104.out hb)
 have n1_ := q0 (below_step (qb HB.out) hb)
 clear BK104
 clear HB
 have BK104 := n0_
 have HB := n1_
 clear n0_ n1_
 (try clear hb)
 (try clear hb2)
 (try clear hk)
 (try clear hi)
 obtain ⟨i114, hi114, _, hsz31, _⟩ := info_parts info3
 obtain ⟨hcut31, hA31, hC31⟩ := print_take_of (P := Try.prog) (Value.int .i64) 0 26 3 .i64 Try.underlying26 hi114 hsz31 (some ad107) c1 l1 x5_2 (of_decide_eq_true qa) (of_decide_eq_true qa) HC1.out
 have HR110 := q0 (Kd.C_of_reads (h1 := fun _ => rfl) (hA31 _ (Kd.reads_of_C HR1.out)))
 have HC110 := Aside0.mk hC31
 clear hA31 hC31 hi114 hsz31
 refine hK.out _ _ ⟨(blk_cell BK104.out 0).trans rfl, (blk_cell BK104.out 1).trans rfl, ((HB.out.cell (World.block_lt_of_cell? w _ hw107_0)).trans hw107_0), ((HB.out.cell (World.block_lt_of_cell? w _ hw108_0)).trans hw108_0), ((HB.out.cell (World.block_lt_of_cell? w _ hw112_0)).trans hw112_0), ((HB.out.cell (World.block_lt_of_cell? w _ hw113_0)).trans hw113_0)⟩ (fun hHeld => ?_)
 clear hK K
 refine nu 25 ?_
 refine pu 6 (some 26) (ba 35 127) HT_.out ?_
 refine pu 7 (some 27) (ba 35 255) HT_.out ?_
 refine pu 8 (some 28) (ba 35 511) HT_.out ?_
 refine pu 9 (some 29) (ba 35 1023) HT_.out ?_
 refine pu 10 (some 30) (ba 35 2047) HT_.out ?_
 refine pu 11 (some 31) (ba 35 4095) HT_.out ?_
 refine pu 12 (some 32) (ba 35 8191) HT_.out ?_
 refine pu 13 (some 33) (ba 35 16383) HT_.out ?_
 refine tu 14 (some 34) (ba 35 32767) HT_.out HW_.out hHeld ?_
 refine one_ (i := 15) (N := some 35) (ba 35 65535) rfl rfl (one_of HT_.out (by kernel_rfl)) (by decide) (fun K hK => ?_)
 refine goes_ Try.func75 (by kernel_rfl) rfl #[.slice (some ad107) (l1.take (x5_2 : Int).toNat).length c1, .int .i64 (rd l1 x5_2)] (by rfl) rfl rfl (by (try simp only [List.map_toArray, List.map_cons, List.map_nil]); first | done | (rw [show (l1.take (x5_2 : Int).toNat).length = x5_2.toNat from (by rw [List.length_take]; have h_ : (x5_2 : Int) ≤ (l1.length : Int) := of_decide_eq_true qa; omega)] <;> rfl) | rfl | (simp only [List.length_drop, List.length_take]; rfl)) ?_
 with_reducible refine (spec_l2Has.calls k2 _ _ (l1.take (x5_2 : Int).toNat) (rd l1 x5_2) false _ ?side1 ?side2 A18.out).mono ?_
 (case side1 => exact qc (Kd.C_below HR110.out HB.out))
 (case side2 => exact HC110.out)
 rintro e w' ⟨rfl, ⟨nd, rfl⟩⟩
 refine ⟨_, rfl, ?_⟩
 refine hK.out _ _ ⟨(blk_cell BK104.out 0).trans rfl, (blk_cell BK104.out 1).trans rfl, ((HB.out.cell (World.block_lt_of_cell? w _ hw107_0)).trans hw107_0), ((HB.out.cell (World.block_lt_of_cell? w _ hw108_0)).trans hw108_0), ((HB.out.cell (World.block_lt_of_cell? w _ hw112_0)).trans hw112_0), ((HB.out.cell (World.block_lt_of_cell? w _ hw113_0)).trans hw113_0)⟩ (fun hHeld => ?_)
 clear hK K
 refine nu 35 ?_
 refine pu 16 (some 36) (ba 35 131071) HT_.out ?_
 refine pu 17 (some 37) (ba 35 262143) HT_.out ?_
 refine pu 18 (some 38) (ba 35 524287) HT_.out ?_
 refine pu 19 (some 39) (ba 35 1048575) HT_.out ?_
 refine pu 20 (some 40) (ba 35 2097151) HT_.out ?_
 refine pu 22 (some 42) (ba 35 6291455) HT_.out ?_
 refine pu 23 (some 43) (ba 35 14680063) HT_.out ?_
 refine pu 24 (some 44) (ba 35 31457279) HT_.out ?_
 refine pu 25 (some 45) (ba 35 65011711) HT_.out ?_
 refine pu 27 (some 47) (ba 35 199229439) HT_.out ?_
 refine pu 28 (some 48) (ba 35 467664895) HT_.out ?_
 refine pu 29 (some 49) (ba 35 1004535807) HT_.out ?_
 refine tu 21 (some 41) (ba 35 1006632959) HT_.out HW_.out hHeld ?_
 refine tu 26 (some 46) (ba 35 1073741823) HT_.out HW_.out hHeld ?_
 refine tu 30 (some 50) (ba 35 2147483647) HT_.out HW_.out hHeld ?_
 refine one_ (i := 31) (N := some 51) (ba 35 4294967295) rfl rfl (one_of HT_.out (by kernel_rfl)) (by decide) (fun K hK => ?_)
 refine goes_ Try.func56 (by kernel_rfl) rfl #[.agg #[.int .i64 a0_0, .slice A0_1 l0_1.length c0_1], .int .i64 (rd l1 (ji24)), .int .i64 (rd l1 x5_2)] (by rfl) rfl rfl (by (try simp only [List.map_toArray, List.map_cons, List.map_nil]); first | done | (simp only [hji24]; rfl) | rfl | (simp only [List.length_drop, List.length_take]; rfl)) ?_
 with_reducible refine (spec_NetHas.calls k2 a0_0 _ _ l0_1 (rd l1 (ji24)) (rd l1 x5_2) true _ ?side1 ?side2 A27.out).mono ?_
 (case side1 => exact qc (Kd.C_below HR0_1.out (qb HB.out)))
 (case side2 => exact HC0_1.out)
 rintro e w32 ⟨rfl, hb⟩
 refine ⟨_, rfl, ?_⟩
 have n0_ := q0 (kb BK104.out hb)
 have n1_ := q0 (below_step (qb HB.out) hb)
 clear BK104
 clear HB
 have BK104 := n0_
 have HB := n1_
 clear n0_ n1_
 (try clear hb)
 (try clear hb2)
 (try clear hk)
 (try clear hi)
 refine hK.out _ _ ⟨(blk_cell BK104.out 0).trans rfl, (blk_cell BK104.out 1).trans rfl, ((HB.out.cell (World.block_lt_of_cell? w _ hw107_0)).trans hw107_0), ((HB.out.cell (World.block_lt_of_cell? w _ hw108_0)).trans hw108_0), ((HB.out.cell (World.block_lt_of_cell? w _ hw112_0)).trans hw112_0), ((HB.out.cell (World.block_lt_of_cell? w _ hw113_0)).trans hw113_0)⟩ (fun hHeld => ?_)
 clear hK K
 refine nu 51 ?_
 refine pu 32 (some 52) (ba 35 8589934591) HT_.out ?_
 refine pu 33 (some 53) (ba 35 17179869183) HT_.out ?_
 refine pu 34 (some 54) (ba 35 34359738367) HT_.out ?_
 refine done_ (done_of HT_.out (by kernel_rfl)) ?_
 try go_wp2
 go_roundg k2
 case measure => have := HJ2.out; have := HK2.out; omega
 case rel => exact ⟨(wrap64 (x5_2 + 1)), qs, H', ⟨by have := HJ2.out; have := HK2.out; omega⟩, ⟨qk BK104.out⟩, ⟨qb HB.out⟩⟩

set_option maxHeartbeats 8000000 in
set_option maxRecDepth 100000 in
theorem laws_loBack.calls (k : Nat) (A0 : Option Addr) (c0 : Nat) (l0 : List Int) (r : List Int) (w : World) (hr0 : Kd.C (Kd.int .i64) w A0 l0.length l0) (hc0 : l0.length ≤ c0) (h : laws_loBack.f k l0 = some r) :
    Calls Try.prog 48 #[.slice A0 l0.length c0] w fun e w' => ∃ v0_ : Value, e = .returned (v0_) ∧ Kd.R (Kd.int .i64) 3 w' w.heap.size (fun _ => True) v0_ r ∧ Below w.heap.size w w' := by
 have HR0 := Aside0.mk hr0
 have HC0 := Aside0.mk hc0
 clear hr0 hc0
 have HB := q0 (Below.refl w.heap.size w)
 have H : (laws_loBack.l0 k l0 (([] : List Int)) (wrap64 ((l0.length : Int) - 1))) = some r := h
 clear h
 obtain ⟨y100, hy100⟩ : ∃ y_ : List Int, y_ = (([] : List Int)) := ⟨_, rfl⟩
 replace H : (laws_loBack.l0 k l0 y100 (wrap64 ((l0.length : Int) - 1))) = some r := by first | (rw [hy100]; with_reducible exact H) | (have H2_ := (Option.bind_some _ _).symm.trans H; rw [hy100]; with_reducible exact H2_) | (have H2_ := (Option.bind_some _ _).symm.trans H; with_reducible exact H2_) | with_reducible exact H | (rw [hy100]; exact H) | exact H
 have Ny100 := Aside0.mk hy100
 clear hy100
 have H' := Aside0.mk H
 clear H
 go_enter Try.func48, Try.ntmps48
 go_wp2_with (first | ((with_reducible refine gate_dst (N := 5) rfl ?_); refine Kd.R_lit (Kd.int .i64) _ 3 ?hg (N := 5) ?hd (xs := ([] : List Int)) (inner := []) (ok := fun _ => True) (okp := fun _ => True) ?hr ?hp (fun _ hk => hk) trivial (Below.refl _ _) (Nat.le_refl _) (by simp) ?_; (case hd => rfl); (case hg => rfl); (case hr => first | (go_simp; done) | (go_simp; rfl)); (case hp => exact (Reps.none _ _)); intro v101 w2 ho3 hb hg_ hnew_; clear hg_ hnew_; (first | rw [← Ny100.out] at ho3 | (simp only [Int.reduceToNat] at ho3; rw [← Ny100.out] at ho3)); have n0_ := q0 (Kd.R_lower ho3 (below_size (qb HB.out))); have n1_ := q0 (below_step (qb HB.out) hb); clear HB; have HO102 := n0_; have HB := n1_; clear n0_ n1_ hb ho3))
 go_loopg [3, 4] k (fun kq v3 v4 w' => ∃ (x3_1 : List Int) (x4_1 : Int), v4 = .int .i64 x4_1 ∧ Aside0 (laws_loBack.l0 kq l0 x3_1 x4_1 = some r) ∧ Aside0 (kq ≤ k) ∧ Aside0 (Kd.R (Kd.int .i64) 3 w' w.heap.size (fun _ => True) v3 x3_1) ∧ Aside0 (Below w.heap.size w w'))
 case atStart => exact ⟨(y100), (wrap64 ((l0.length : Int) - 1)), qs, H', ⟨Nat.le_refl _⟩, ⟨qr HO102.out⟩, ⟨qb HB.out⟩⟩
 clear H'
 try clear p2
 obtain ⟨x3_1, x4_1, rfl, HA, HK1, HO_3, HB⟩ := hrel
 rcases gk with _ | k1
 · exact absurd HA.out (by simp [laws_loBack.l0])
 have H := HA.out
 clear HA
 simp only [laws_loBack.l0] at H
 by_cases c4 : x4_1 ≥ 0
 rotate_left
 · rw [if_neg c4] at H
   have c4b0 : decide (0 ≤ x4_1) = false := decide_eq_false c4
   clear c4
   obtain rfl := Option.some.inj H
   go_wp2
   go_ret
   exact ⟨_, qe, by (with_reducible repeat (first | apply Kd.R_alloc | apply Kd.R_drewN | apply Kd.R_drew)); exact HO_3.out, qb HB.out⟩
 rw [if_pos c4] at H
 have c4b0 : decide (0 ≤ x4_1) = true := decide_eq_true c4
 clear c4
 by_cases c5 : 0 ≤ x4_1
 rotate_left
 · rw [if_neg c5] at H
   exact absurd H (by simp)
 rw [if_pos c5] at H
 have c5b0 : decide (0 ≤ x4_1) = true := decide_eq_true c5
 clear c5
 by_cases c6 : x4_1 < (l0.length : Int)
 rotate_left
 · rw [if_neg c6] at H
   exact absurd H (by simp)
 rw [if_pos c6] at H
 have c6b0 : decide (x4_1 < (l0.length : Int)) = true := decide_eq_true c6
 clear c6
 by_cases c7 : x3_1.length < 17592186044416
 rotate_left
 · rw [if_neg c7] at H
   exact absurd H (by simp)
 rw [if_pos c7] at H
 have LMc7 := Aside0.mk c7
 clear c7
 obtain ⟨y103, hy103⟩ : ∃ y_ : List Int, y_ = (x3_1 ++ [rd l0 x4_1]) := ⟨_, rfl⟩
 replace H : (laws_loBack.l0 k1 l0 y103 (wrap64 (x4_1 - 1))) = some r := by first | (rw [hy103]; with_reducible exact H) | (have H2_ := (Option.bind_some _ _).symm.trans H; rw [hy103]; with_reducible exact H2_) | (have H2_ := (Option.bind_some _ _).symm.trans H; with_reducible exact H2_) | with_reducible exact H | (rw [hy103]; exact H) | exact H
 have Ny103 := Aside0.mk hy103
 clear hy103
 have H' := Aside0.mk H
 clear H
 have p104 : 0 ≤ (x4_1 : Int) := of_decide_eq_true qa
 have q104 : x4_1 < (l0.length : Int) := of_decide_eq_true qa
 obtain ⟨ad104, e104, hx104_0⟩ := Kd.at_int HR0.out x4_1 p104 q104
 cases e104
 replace hx104_0 := (HB.out.cell (World.block_lt_of_cell? w _ hx104_0)).trans hx104_0
 replace p104 := eq_true p104
 replace q104 := eq_true q104
 go_wp2_with (first | ((with_reducible refine gate_builtin (b := .append) (xs := #[.tmp 13, .tmp 18]) rfl ?_); at_builtin; refine Kd.R_append (Kd.int .i64) (w0 := w) w.heap.size rfl (.tmp 13) (.tmp 18) 26 3 (.int .i64 0) 8 rfl Try.underlying26 info3 rfl (by decide) (by omega) u3 x3_1 (rd l0 x4_1) [.int .i64 (rd l0 x4_1)] (fun _ => True) (fun _ => False) rfl rfl ?aP (fun _ hk => hk.elim) ?aF ?aO ?aB ?aS ?aL ?_; (case aP => exact rfl); (case aB => exact (qb HB.out)); (case aF => exact (fun _ _ => trivial)); (case aO => exact (qr HO_3.out)); (case aS => exact (below_size (qb HB.out))); (case aL => have := LMc7.out; omega); intro v105 w8 ho hb hg hat; rw [← Ny103.out] at ho; have n0_ := q0 (hb); have n1_ := q0 (ho); clear HB HO_3; have HB := n0_; have HO106 := n1_; clear n0_ n1_ ho hb hg hat))
 go_roundg k1
 case measure => have := HK1.out; omega
 case rel => exact ⟨(y103), (wrap64 (x4_1 - 1)), qs, H', ⟨by have := HK1.out; omega⟩, ⟨qr HO106.out⟩, ⟨qb HB.out⟩⟩

def laws_FnWayOk.T5 : Bool × List (List Nat × List Nat) := (true, [([], []), ([], []), ([], []), ([1, 2], [1, 2]), ([0, 3], [0, 3]), ([4, 3], [4]), ([5], [5]), ([5], [5]), ([7, 5, 5], [5, 7]), ([6, 8, 8, 5], [5, 6, 8]), ([5], [5]), ([9, 10, 5], [5, 9, 10]), ([5, 11], [5, 11]), ([12, 9], [12]), ([13], [13]), ([14, 13], [13, 14]), ([13, 15], [13, 15])])
def laws_FnWayOk.B5 : List Nat := [0, 0, 0, 6, 15, 31, 63, 63, 191, 511, 63, 2047, 4095, 8191, 16383, 32767, 65535]
theorem laws_FnWayOk.tab5 : rtab .any (opsOf Try.f11 5) = laws_FnWayOk.T5 := by kernel_rfl
theorem laws_FnWayOk.bits5 : waitsOk laws_FnWayOk.T5.2 laws_FnWayOk.B5 = true := by kernel_rfl
def laws_FnWayOk.T6 : Bool × List (List Nat × List Nat) := (true, [([], []), ([], []), ([], []), ([1, 2], [1, 2]), ([0, 3], [0, 3]), ([4, 3], [4]), ([5], [5]), ([5], [5]), ([7, 5, 5], [5, 7]), ([6, 8, 8, 5], [5, 6, 8]), ([5], [5]), ([9, 10, 5], [5, 9, 10]), ([5, 11], [5, 11]), ([12, 9, 0, 1, 2, 3, 4, 5, 6, 7, 8, 9, 10, 11, 12], [12])])
def laws_FnWayOk.B6 : List Nat := [0, 0, 0, 6, 15, 31, 63, 63, 191, 511, 63, 2047, 4095, 8191]
theorem laws_FnWayOk.tab6 : rtab .any (opsOf Try.f11 6) = laws_FnWayOk.T6 := by kernel_rfl
theorem laws_FnWayOk.bits6 : waitsOk laws_FnWayOk.T6.2 laws_FnWayOk.B6 = true := by kernel_rfl
def laws_FnWayOk.T8 : Bool × List (List Nat × List Nat) := (true, [([], []), ([], []), ([], []), ([1, 2], [1, 2]), ([0, 3], [0, 3]), ([4, 4], [4]), ([5], [5]), ([5], [5]), ([5], [5]), ([8, 5], [5, 8]), ([7, 9, 5], [5, 7, 9]), ([6, 10, 5, 5], [5, 6, 10]), ([5, 11], [5, 11]), ([12, 11, 0, 1, 2, 3, 4, 5, 6, 7, 8, 9, 10, 11, 12], [12])])
def laws_FnWayOk.B8 : List Nat := [0, 0, 0, 6, 15, 31, 63, 63, 63, 319, 959, 2047, 4095, 8191]
theorem laws_FnWayOk.tab8 : rtab .any (opsOf Try.f11 8) = laws_FnWayOk.T8 := by kernel_rfl
theorem laws_FnWayOk.bits8 : waitsOk laws_FnWayOk.T8.2 laws_FnWayOk.B8 = true := by kernel_rfl
set_option maxHeartbeats 8000000 in
set_option maxRecDepth 100000 in
theorem laws_FnWayOk.calls (k : Nat) (A0 : Option Addr) (c0 : Nat) (l0 : List Int) (A1 : Option Addr) (c1 : Nat) (l1 : List Int) (r : Bool) (w : World) (hr0 : Kd.C (Kd.int .u8) w A0 l0.length l0) (hc0 : l0.length ≤ c0) (hr1 : Kd.C (Kd.int .u8) w A1 l1.length l1) (hc1 : l1.length ≤ c1) (h : laws_FnWayOk.f k l0 l1 = some r) :
    Calls Try.prog 11 #[.slice A0 l0.length c0, .slice A1 l1.length c1] w fun e w' => e = .returned (.bool r) ∧ Below w.heap.size w w' := by
 have hu30 := Try.underlying30
 have HR0 := Aside0.mk hr0
 have HC0 := Aside0.mk hc0
 clear hr0 hc0
 have HR1 := Aside0.mk hr1
 have HC1 := Aside0.mk hc1
 clear hr1 hc1
 have HB := q0 (Below.refl w.heap.size w)
 have H : (if (l0.length : Int) > 1048576 then (laws_FnWayOk.j0 k l0 l1 true) else (laws_FnWayOk.j0 k l0 l1 (decide ((l1.length : Int) > 1048576)))) = some r := h
 clear h
 have HC3 := Aside0.mk H
 clear H
 go_enter Try.func11, Try.ntmps11
 go_upto_region 1 with (fail)
 go_cut [16] (fun v16 wc => ∃ (kq : Nat) (x16_2 : Bool), v16 = .bool x16_2 ∧ Aside0 (laws_FnWayOk.j0 kq l0 l1 x16_2 = some r) ∧ Aside0 (kq ≤ k) ∧ Aside0 (Below w.heap.size w wc))
 case first =>
   have H := HC3.out
   clear HC3
   by_cases c4 : (l0.length : Int) > 1048576
   · rw [if_pos c4] at H
     have c4b0 : decide (1048576 < (l0.length : Int)) = true := decide_eq_true c4
     have c4b1 : decide (1048576 < l0.length) = true := decide_eq_true (by omega)
     clear c4
     (first | rw [c4b0] | (simp only [i64_w, i32_w]; rw [c4b0]) | skip)
     have H' := Aside0.mk H
     clear H
     go_wp2
     go_meet
     case rel => exact ⟨_, (true), qs, H', ⟨by first | omega | exact Nat.le_refl _⟩, ⟨qb HB.out⟩⟩
   rw [if_neg c4] at H
   have c4b0 : decide (1048576 < (l0.length : Int)) = false := decide_eq_false c4
   have c4b1 : decide (1048576 < l0.length) = false := decide_eq_false (by omega)
   clear c4
   (first | rw [c4b0] | (simp only [i64_w, i32_w]; rw [c4b0]) | skip)
   have H' := Aside0.mk H
   clear H
   go_wp2
   go_meet
   case rel => exact ⟨_, (decide ((l1.length : Int) > 1048576)), qs, H', ⟨by first | omega | exact Nat.le_refl _⟩, ⟨qb HB.out⟩⟩
 clear HC3
 try clear c1
 try clear p2
 try clear c4
 try clear c4b0
 try clear c4b1
 obtain ⟨kq, x16_2, rfl, HA, HJ2, HB⟩ := hcut
 rcases kq with _ | kj2
 · exact absurd HA.out (by simp [laws_FnWayOk.j0])
 have H := HA.out
 clear HA
 simp only [laws_FnWayOk.j0] at H
 by_cases c5 : x16_2 = true
 · subst c5
   have H1 : (some true) = some r := by rw [if_pos rfl] at H; exact H
   clear H
   have H := H1
   clear H1
   obtain rfl := Option.some.inj H
   go_wp2
   go_ret
   exact ⟨qe, qb HB.out⟩
 replace c5 := Bool.eq_false_iff.mpr c5
 subst c5
 have H1 : ((spec_DrawWayOk.f kj2 l0).bind fun bt100 => ((impl_WayOk.f kj2 bt100.1 bt100.2.1 bt100.2.2).bind fun t101 => ((spec_WayOk.f kj2 bt100.1 bt100.2.1 bt100.2.2).bind fun t102 => (if (t101 != t102) = true then (laws_FnWayOk.j1 kj2 l1 bt100.2.2 t101 true bt100.1 bt100.2.1) else ((laws_loBack.f kj2 bt100.2.2).bind fun t103 => ((impl_WayOk.f kj2 bt100.1 bt100.2.1 t103).bind fun t104 => (if (t104 != t101) = true then (laws_FnWayOk.j1 kj2 l1 bt100.2.2 t101 true bt100.1 bt100.2.1) else (laws_FnWayOk.j1 kj2 l1 bt100.2.2 t101 (!t101) bt100.1 bt100.2.1)))))))) = some r := by rw [if_neg (show ¬ (false = true) by decide)] at H; exact H
 clear H
 have H := H1
 clear H1
 replace H := Option.bind_eq_some_iff.mp H
 obtain ⟨⟨t100, t110, t111⟩, A60, H⟩ := H
 replace H : ((impl_WayOk.f kj2 t100 t110 t111).bind fun t101 => ((spec_WayOk.f kj2 t100 t110 t111).bind fun t102 => (if (t101 != t102) = true then (laws_FnWayOk.j1 kj2 l1 t111 t101 true t100 t110) else ((laws_loBack.f kj2 t111).bind fun t103 => ((impl_WayOk.f kj2 t100 t110 t103).bind fun t104 => (if (t104 != t101) = true then (laws_FnWayOk.j1 kj2 l1 t111 t101 true t100 t110) else (laws_FnWayOk.j1 kj2 l1 t111 t101 (!t101) t100 t110))))))) = some r := H
 have A6 := Aside0.mk A60
 clear A60
 replace H := Option.bind_eq_some_iff.mp H
 obtain ⟨t101, A70, H⟩ := H
 replace H : ((spec_WayOk.f kj2 t100 t110 t111).bind fun t102 => (if (t101 != t102) = true then (laws_FnWayOk.j1 kj2 l1 t111 t101 true t100 t110) else ((laws_loBack.f kj2 t111).bind fun t103 => ((impl_WayOk.f kj2 t100 t110 t103).bind fun t104 => (if (t104 != t101) = true then (laws_FnWayOk.j1 kj2 l1 t111 t101 true t100 t110) else (laws_FnWayOk.j1 kj2 l1 t111 t101 (!t101) t100 t110)))))) = some r := H
 have A7 := Aside0.mk A70
 clear A70
 have HC8 := Aside0.mk H
 clear H
 go_upto_region 5 with (first | ((with_reducible refine gate_callee (f := 45) rfl ?_); refine goesL_ (some 19) rfl rfl Try.func45 (by kernel_rfl) rfl #[.slice A0 l0.length c0] rfl qm ?_; (with_reducible refine (spec_DrawWayOk.calls kj2 _ _ l0 t100 t110 t111 _ ?side1 ?side2 A6.out).mono ?_); (case side1 => exact qc (Kd.C_below HR0.out HB.out)); (case side2 => exact HC0.out); rintro e w9 ⟨v112, v113, rfl, ho0, ho1, hb⟩; refine ⟨_, rfl, ?_⟩; have n0_ := q0 (Kd.R_lower ho0 (below_size (qb HB.out))); have n1_ := q0 (Kd.R_lower ho1 (below_size (qb HB.out))); have n2_ := q0 (below_step (qb HB.out) hb); clear HB; have HO114 := n0_; have HO115 := n1_; have HB := n2_; clear n0_ n1_ n2_; (try clear hb); (try clear hb2); (try clear hk); (try clear hi); (try clear ho0); (try clear ho1)) | ((with_reducible refine gate_dst (N := 5) rfl ?_); (try (refine gate_guard (by rfl) ?_; dsimp only)); refine be 5 #[.int .i64 0, .slice none 0 0] 30 ?_; intro gb116 hg w10 hbox hb; have n0_ := q0 (Kd.R_below (qr HO114.out) hb); have n1_ := q0 (Kd.R_below (qr HO115.out) hb); have n2_ := q0 (below_step (qb HB.out) hb); have n3_ := q0 (hbox); have n4_ := q0 ((bs HB.out hg : w.heap.size ≤ gb116)); have n5_ := q0 ((bs HB.out hg : w.heap.size ≤ gb116)); clear HO114 HO115 HB; have HO114 := n0_; have HO115 := n1_; have HB := n2_; have BK116 := n3_; have GW116 := n4_; have GE116 := n5_; clear n0_ n1_ n2_ n3_ n4_ n5_ hb hbox hg; have hcz11_0 : w10.cell? ⟨gb116, 0, none⟩ = some (.int .i64 0) := (blk_cell BK116.out 0).trans rfl; have hcz11_1 : w10.cell? ⟨gb116, 1, none⟩ = some (.slice none 0 0) := (blk_cell BK116.out 1).trans rfl; have hfz11_0 := blk_frozen BK116.out 0; have hfz11_1 := blk_frozen BK116.out 1; obtain ⟨Ao12, co12, eo12⟩ := Kd.R_slice HO114.out; subst eo12; obtain ⟨Ao13, co13, eo13⟩ := Kd.R_slice HO115.out; subst eo13) | ((with_reducible refine gate_callee (f := 46) rfl ?_); refine goesL_ (some 24) rfl rfl Try.func46 (by kernel_rfl) rfl #[.agg #[.int .i64 t100, .slice Ao12 t110.length co12], .slice Ao13 t111.length co13] rfl qm ?_; (with_reducible refine (impl_WayOk.calls kj2 t100 _ _ t110 _ _ t111 t101 _ ?side1 ?side2 ?side3 ?side4 A7.out).mono ?_); (case side1 => refine (Kd.R_reads' (e := 44) (base := w.heap.size) (ok := fun k_ => True) (n := t110.length) (c := co12) ?_).2.2; exact (by (with_reducible repeat (first | apply Kd.R_alloc | apply Kd.R_drewN | apply Kd.R_drew)); exact (Kd.R_mono (Kd.R_far (p := ⟨gb116, 1, none⟩) (Kd.R_far (p := ⟨gb116, 0, none⟩) (Kd.R_types HO114.out BK116.out (by decide)) (fun _ hk => hk.2) (.int .i64 t100)) (fun _ hk => hk.2) (.slice Ao12 t110.length co12)) (fun _ h_ => h_.1)))); (case side2 => exact (Kd.R_reads' HO114.out).2.1); (case side3 => refine (Kd.R_reads' (e := 3) (base := w.heap.size) (ok := fun k_ => True) (n := t111.length) (c := co13) ?_).2.2; exact (by (with_reducible repeat (first | apply Kd.R_alloc | apply Kd.R_drewN | apply Kd.R_drew)); exact (Kd.R_mono (Kd.R_far (p := ⟨gb116, 1, none⟩) (Kd.R_far (p := ⟨gb116, 0, none⟩) (Kd.R_types HO115.out BK116.out (by decide)) (fun _ hk => hk.2) (.int .i64 t100)) (fun _ hk => hk.2) (.slice Ao12 t110.length co12)) (fun _ h_ => h_.1)))); (case side4 => exact (Kd.R_reads' HO115.out).2.1); rintro e w14 ⟨rfl, hb⟩; refine ⟨_, rfl, ?_⟩; have n0_ := q0 (Kd.R_below (by (with_reducible repeat (first | apply Kd.R_alloc | apply Kd.R_drewN | apply Kd.R_drew)); exact (Kd.R_mono (Kd.R_far (p := ⟨gb116, 1, none⟩) (Kd.R_far (p := ⟨gb116, 0, none⟩) (Kd.R_types HO114.out BK116.out (by decide)) (fun _ hk => hk.2) (.int .i64 t100)) (fun _ hk => hk.2) (.slice Ao12 t110.length co12)) (fun _ h_ => h_.1))) hb); have n1_ := q0 (Kd.R_below (by (with_reducible repeat (first | apply Kd.R_alloc | apply Kd.R_drewN | apply Kd.R_drew)); exact (Kd.R_mono (Kd.R_far (p := ⟨gb116, 1, none⟩) (Kd.R_far (p := ⟨gb116, 0, none⟩) (Kd.R_types HO115.out BK116.out (by decide)) (fun _ hk => hk.2) (.int .i64 t100)) (fun _ hk => hk.2) (.slice Ao12 t110.length co12)) (fun _ h_ => h_.1))) hb); have n2_ := q0 (blk_below (g := gb116) (o := .cells #[.int .i64 t100, .slice Ao12 t110.length co12] 30 (0, 0)) (by (with_reducible repeat (first | refine blk_drewN ?_ _ | refine blk_drew ?_ | refine blk_alloc ?_ _)); refine blk_put (cs := #[.int .i64 t100, .slice none 0 0]) ?_ 1 _ rfl; (with_reducible repeat (first | refine blk_drewN ?_ _ | refine blk_drew ?_ | refine blk_alloc ?_ _)); refine blk_put (cs := #[.int .i64 0, .slice none 0 0]) ?_ 0 _ rfl; (with_reducible repeat (first | refine blk_drewN ?_ _ | refine blk_drew ?_ | refine blk_alloc ?_ _)); exact BK116.out) hb); have n3_ := q0 (below_step (qb HB.out) hb); clear HO114 HO115 BK116 HB; have HO114 := n0_; have HO115 := n1_; have BK116 := n2_; have HB := n3_; clear n0_ n1_ n2_ n3_; (try clear hb); (try clear hb2); (try clear hk); (try clear hi)))
 (try simp only [Act.put, List.setIfInBounds_toArray, List.set_cons_zero, List.set_cons_succ])
 go_cut [41] (fun v41 wc => ∃ (kq : Nat) (x41_7 : Bool), v41 = .bool x41_7 ∧ Aside0 (laws_FnWayOk.j1 kq l1 t111 t101 x41_7 t100 t110 = some r) ∧ Aside0 (kq ≤ kj2) ∧ Aside0 (Kd.R (Kd.int .i64) 3 wc w.heap.size (fun _ => True) (.slice Ao13 t111.length co13) t111) ∧ Aside0 (Kd.R kTie 44 wc w.heap.size (fun _ => True) (.slice Ao12 t110.length co12) t110) ∧ Aside0 (wc.heap[gb116]? = some (.cells #[.int .i64 t100, (.slice Ao12 t110.length co12)] 30 (0, 0))) ∧ Aside0 (Below w.heap.size w wc))
 case first =>
   have H := HC8.out
   clear HC8
   replace H := Option.bind_eq_some_iff.mp H
   obtain ⟨t102, A117, H⟩ := H
   replace H : (if (t101 != t102) = true then (laws_FnWayOk.j1 kj2 l1 t111 t101 true t100 t110) else ((laws_loBack.f kj2 t111).bind fun t103 => ((impl_WayOk.f kj2 t100 t110 t103).bind fun t104 => (if (t104 != t101) = true then (laws_FnWayOk.j1 kj2 l1 t111 t101 true t100 t110) else (laws_FnWayOk.j1 kj2 l1 t111 t101 (!t101) t100 t110))))) = some r := H
   have A15 := Aside0.mk A117
   clear A117
   by_cases c16 : (t101 != t102) = true
   · rw [if_pos c16] at H
     have c16b0 : (t101 != t102) = true := c16
     (try (have c16b1 : decide (t101 = t102) = false := by simpa using c16))
     (try (have c16b2 : (t101 == t102) = false := by simpa using c16))
     (try (have c16b3 : ¬ (t101 = t102) := by simpa using c16))
     clear c16
     (first | rw [c16b0] | (simp only [i64_w, i32_w]; rw [c16b0]) | skip)
     have H' := Aside0.mk H
     clear H
     try go_wp2
     have n0_ := q0 (Kd.R_drew HO114.out)
     have n1_ := q0 (Kd.R_drew HO115.out)
     have n2_ := q0 (blk_drew BK116.out)
     have n3_ := q0 (below_drew1 HB.out)
     clear HO114
     clear HO115
     clear BK116
     clear HB
     have HO114 := n0_
     have HO115 := n1_
     have BK116 := n2_
     have HB := n3_
     clear n0_ n1_ n2_ n3_
     refine start_ (n := 17) (S := fun w' => w'.cell? ⟨gb116, 0, none⟩ = some (.int .i64 t100) ∧ w'.cell? ⟨gb116, 1, none⟩ = some (.slice Ao12 t110.length co12)) (ds := []) (ba 17 0) (by kernel_rfl) rfl (by kernel_rfl) ⟨(blk_cell BK116.out 0).trans rfl, (blk_cell BK116.out 1).trans rfl⟩ (fun hHeld => ?_); refine with_tabW laws_FnWayOk.tab5 laws_FnWayOk.bits5 (fun HT_ HW_ => ?_)
     generalize w14.drew = w17 at HO114 HO115 BK116 HB hHeld ⊢
     refine pu 0 (some 25) (ba 17 1) HT_.out ?_
     refine pu 2 (some 27) (ba 17 5) HT_.out ?_
     refine tu 1 (some 26) (ba 17 7) HT_.out HW_.out hHeld ?_
     refine one_ (i := 3) (N := some 28) (ba 17 15) rfl rfl (one_of HT_.out (by kernel_rfl)) (by decide) (fun K hK => ?_)
     refine goes_ Try.func47 (by kernel_rfl) rfl #[.agg #[.int .i64 t100, .slice Ao12 t110.length co12], .slice Ao13 t111.length co13] (by rfl) rfl rfl qm ?_
     with_reducible refine (spec_WayOk.calls kj2 t100 _ _ t110 _ _ t111 t102 _ ?side1 ?side2 ?side3 ?side4 A15.out).mono ?_
     (case side1 => exact qc (Kd.R_reads' HO114.out).2.2)
     (case side2 => exact (Kd.R_reads' HO114.out).2.1)
     (case side3 => exact qc (Kd.R_reads' HO115.out).2.2)
     (case side4 => exact (Kd.R_reads' HO115.out).2.1)
     rintro e w18 ⟨rfl, hb⟩
     refine ⟨_, rfl, ?_⟩
     have n0_ := q0 (Kd.R_below (qr HO114.out) hb)
     have n1_ := q0 (Kd.R_below (qr HO115.out) hb)
     have n2_ := q0 (kb BK116.out hb)
     have n3_ := q0 (below_step (qb HB.out) hb)
     clear HO114
     clear HO115
     clear BK116
     clear HB
     have HO114 := n0_
     have HO115 := n1_
     have BK116 := n2_
     have HB := n3_
     clear n0_ n1_ n2_ n3_
     (try clear hb)
     (try clear hb2)
     (try clear hk)
     (try clear hi)
     refine hK.out _ _ ⟨(blk_cell BK116.out 0).trans rfl, (blk_cell BK116.out 1).trans rfl⟩ (fun hHeld => ?_)
     clear hK K
     refine nu 28 ?_
     refine pu 4 (some 29) (ba 17 31) HT_.out ?_
     refine pu 5 (some 30) (ba 17 63) HT_.out ?_
     refine pv 6 (some 31) (ba 17 127) HT_.out ?_
     refine pv 7 (some 32) (ba 17 255) HT_.out ?_
     refine pv 8 (some 33) (ba 17 511) HT_.out ?_
     refine pv 9 (some 34) (ba 17 1023) HT_.out ?_
     refine pv 10 (some 35) (ba 17 2047) HT_.out ?_
     refine pv 11 (some 36) (ba 17 4095) HT_.out ?_
     refine pu 12 (some 37) (ba 17 8191) HT_.out ?_
     refine pu 13 (some 38) (ba 17 16383) HT_.out ?_
     refine pv 14 (some 39) (ba 17 32767) HT_.out ?_
     refine pv 15 (some 40) (ba 17 65535) HT_.out ?_
     refine pu 16 (some 41) (ba 17 131071) HT_.out ?_
     refine done_ (done_of HT_.out (by kernel_rfl)) ?_
     try go_wp2
     go_meet
     case rel => exact ⟨_, (true), qs, H', ⟨by have := HJ2.out; first | omega | exact Nat.le_refl _⟩, ⟨qr HO115.out⟩, ⟨qr HO114.out⟩, ⟨qk BK116.out⟩, ⟨qb HB.out⟩⟩
   rw [if_neg c16] at H
   have c16b0 : (t101 != t102) = false := by simpa using c16
   (try (have c16b1 : decide (t101 = t102) = true := by simpa using c16))
   (try (have c16b2 : (t101 == t102) = true := by simpa using c16))
   clear c16
   (first | rw [c16b0] | (simp only [i64_w, i32_w]; rw [c16b0]) | skip)
   replace H := Option.bind_eq_some_iff.mp H
   obtain ⟨t103, A118, H⟩ := H
   replace H : ((impl_WayOk.f kj2 t100 t110 t103).bind fun t104 => (if (t104 != t101) = true then (laws_FnWayOk.j1 kj2 l1 t111 t101 true t100 t110) else (laws_FnWayOk.j1 kj2 l1 t111 t101 (!t101) t100 t110))) = some r := H
   have A19 := Aside0.mk A118
   clear A118
   replace H := Option.bind_eq_some_iff.mp H
   obtain ⟨t104, A119, H⟩ := H
   replace H : (if (t104 != t101) = true then (laws_FnWayOk.j1 kj2 l1 t111 t101 true t100 t110) else (laws_FnWayOk.j1 kj2 l1 t111 t101 (!t101) t100 t110)) = some r := H
   have A20 := Aside0.mk A119
   clear A119
   by_cases c21 : (t104 != t101) = true
   · rw [if_pos c21] at H
     have c21b0 : (t104 != t101) = true := c21
     (try (have c21b1 : decide (t104 = t101) = false := by simpa using c21))
     (try (have c21b2 : (t104 == t101) = false := by simpa using c21))
     (try (have c21b3 : ¬ (t104 = t101) := by simpa using c21))
     clear c21
     have H' := Aside0.mk H
     clear H
     try go_wp2
     have n0_ := q0 (Kd.R_drew HO114.out)
     have n1_ := q0 (Kd.R_drew HO115.out)
     have n2_ := q0 (blk_drew BK116.out)
     have n3_ := q0 (below_drew1 HB.out)
     clear HO114
     clear HO115
     clear BK116
     clear HB
     have HO114 := n0_
     have HO115 := n1_
     have BK116 := n2_
     have HB := n3_
     clear n0_ n1_ n2_ n3_
     refine start_ (n := 17) (S := fun w' => w'.cell? ⟨gb116, 0, none⟩ = some (.int .i64 t100) ∧ w'.cell? ⟨gb116, 1, none⟩ = some (.slice Ao12 t110.length co12)) (ds := []) (ba 17 0) (by kernel_rfl) rfl (by kernel_rfl) ⟨(blk_cell BK116.out 0).trans rfl, (blk_cell BK116.out 1).trans rfl⟩ (fun hHeld => ?_); refine with_tabW laws_FnWayOk.tab5 laws_FnWayOk.bits5 (fun HT_ HW_ => ?_)
     generalize w14.drew = w22 at HO114 HO115 BK116 HB hHeld ⊢
     refine pu 0 (some 25) (ba 17 1) HT_.out ?_
     refine pu 2 (some 27) (ba 17 5) HT_.out ?_
     refine tu 1 (some 26) (ba 17 7) HT_.out HW_.out hHeld ?_
     refine one_ (i := 3) (N := some 28) (ba 17 15) rfl rfl (one_of HT_.out (by kernel_rfl)) (by decide) (fun K hK => ?_)
     refine goes_ Try.func47 (by kernel_rfl) rfl #[.agg #[.int .i64 t100, .slice Ao12 t110.length co12], .slice Ao13 t111.length co13] (by rfl) rfl rfl qm ?_
     with_reducible refine (spec_WayOk.calls kj2 t100 _ _ t110 _ _ t111 t102 _ ?side1 ?side2 ?side3 ?side4 A15.out).mono ?_
     (case side1 => exact qc (Kd.R_reads' HO114.out).2.2)
     (case side2 => exact (Kd.R_reads' HO114.out).2.1)
     (case side3 => exact qc (Kd.R_reads' HO115.out).2.2)
     (case side4 => exact (Kd.R_reads' HO115.out).2.1)
     rintro e w23 ⟨rfl, hb⟩
     refine ⟨_, rfl, ?_⟩
     have n0_ := q0 (Kd.R_below (qr HO114.out) hb)
     have n1_ := q0 (Kd.R_below (qr HO115.out) hb)
     have n2_ := q0 (kb BK116.out hb)
     have n3_ := q0 (below_step (qb HB.out) hb)
     clear HO114
     clear HO115
     clear BK116
     clear HB
     have HO114 := n0_
     have HO115 := n1_
     have BK116 := n2_
     have HB := n3_
     clear n0_ n1_ n2_ n3_
     (try clear hb)
     (try clear hb2)
     (try clear hk)
     (try clear hi)
     refine hK.out _ _ ⟨(blk_cell BK116.out 0).trans rfl, (blk_cell BK116.out 1).trans rfl⟩ (fun hHeld => ?_)
     clear hK K
     refine nu 28 ?_
     refine pu 4 (some 29) (ba 17 31) HT_.out ?_
     refine pu 5 (some 30) (ba 17 63) HT_.out ?_
     refine pu 7 (some 32) (ba 17 191) HT_.out ?_
     refine pu 10 (some 35) (ba 17 1215) HT_.out ?_
     refine tu 6 (some 31) (ba 17 1279) HT_.out HW_.out hHeld ?_
     refine one_ (i := 8) (N := some 33) (ba 17 1535) rfl rfl (one_of HT_.out (by kernel_rfl)) (by decide) (fun K hK => ?_)
     refine goes_ Try.func48 (by kernel_rfl) rfl #[.slice Ao13 t111.length co13] (by rfl) rfl rfl qm ?_
     with_reducible refine (laws_loBack.calls kj2 _ _ t111 t103 _ ?side1 ?side2 A19.out).mono ?_
     (case side1 => exact qc (Kd.R_reads' HO115.out).2.2)
     (case side2 => exact (Kd.R_reads' HO115.out).2.1)
     rintro e w24 ⟨v120, rfl, ho0, hb⟩
     refine ⟨_, rfl, ?_⟩
     have n0_ := q0 (Kd.R_below (qr HO114.out) hb)
     have n1_ := q0 (Kd.R_elder' (qr HO115.out) (Kd.R_base ho0) hb)
     have n2_ := q0 (Kd.R_lower (Kd.R_new' ho0 (Kd.R_lt (qr HO115.out))) (below_size (qb HB.out)))
     have n3_ := q0 (kb BK116.out hb)
     have n4_ := q0 (below_step (qb HB.out) hb)
     clear HO114
     clear HO115
     clear BK116
     clear HB
     have HO114 := n0_
     have HO115 := n1_
     have HO121 := n2_
     have BK116 := n3_
     have HB := n4_
     clear n0_ n1_ n2_ n3_ n4_
     (try clear hb)
     (try clear hb2)
     (try clear hk)
     (try clear hi)
     (try clear ho0)
     obtain ⟨Ao25, co25, eo25⟩ := Kd.R_slice HO121.out
     (first | subst eo25 | (injection eo25 with f1_ f2_ f3_; have f4_ := f1_.symm; have f5_ := f3_.symm; clear f1_ f2_ f3_; subst f4_; subst f5_))
     refine hK.out _ _ ⟨(blk_cell BK116.out 0).trans rfl, (blk_cell BK116.out 1).trans rfl⟩ (fun hHeld => ?_)
     clear hK K
     refine nu 33 ?_
     refine one_ (i := 9) (N := some 34) (ba 17 2047) rfl rfl (one_of HT_.out (by kernel_rfl)) (by decide) (fun K hK => ?_)
     refine goes_ Try.func46 (by kernel_rfl) rfl #[.agg #[.int .i64 t100, .slice Ao12 t110.length co12], .slice Ao25 t103.length co25] (by rfl) rfl rfl qm ?_
     with_reducible refine (impl_WayOk.calls kj2 t100 _ _ t110 _ _ t103 t104 _ ?side1 ?side2 ?side3 ?side4 A20.out).mono ?_
     (case side1 => exact qc (Kd.R_reads' HO114.out).2.2)
     (case side2 => exact (Kd.R_reads' HO114.out).2.1)
     (case side3 => exact qc (Kd.R_reads' HO121.out).2.2)
     (case side4 => exact (Kd.R_reads' HO121.out).2.1)
     rintro e w26 ⟨rfl, hb⟩
     refine ⟨_, rfl, ?_⟩
     have n0_ := q0 (Kd.R_below (qr HO114.out) hb)
     have n1_ := q0 (Kd.R_below (qr HO115.out) hb)
     have n2_ := q0 (Kd.R_below (qr HO121.out) hb)
     have n3_ := q0 (kb BK116.out hb)
     have n4_ := q0 (below_step (qb HB.out) hb)
     clear HO114
     clear HO115
     clear HO121
     clear BK116
     clear HB
     have HO114 := n0_
     have HO115 := n1_
     have HO121 := n2_
     have BK116 := n3_
     have HB := n4_
     clear n0_ n1_ n2_ n3_ n4_
     (try clear hb)
     (try clear hb2)
     (try clear hk)
     (try clear hi)
     refine hK.out _ _ ⟨(blk_cell BK116.out 0).trans rfl, (blk_cell BK116.out 1).trans rfl⟩ (fun hHeld => ?_)
     clear hK K
     refine nu 34 ?_
     refine pu 11 (some 36) (ba 17 4095) HT_.out ?_
     refine pu 12 (some 37) (ba 17 8191) HT_.out ?_
     refine pu 13 (some 38) (ba 17 16383) HT_.out ?_
     refine pv 14 (some 39) (ba 17 32767) HT_.out ?_
     refine pv 15 (some 40) (ba 17 65535) HT_.out ?_
     refine pu 16 (some 41) (ba 17 131071) HT_.out ?_
     refine done_ (done_of HT_.out (by kernel_rfl)) ?_
     try go_wp2
     go_meet
     case rel => exact ⟨_, (true), qs, H', ⟨by have := HJ2.out; first | omega | exact Nat.le_refl _⟩, ⟨by (with_reducible repeat (first | apply Kd.R_alloc | apply Kd.R_drewN | apply Kd.R_drew)); exact Kd.R_mono HO115.out (fun _ hk => trivial)⟩, ⟨qr HO114.out⟩, ⟨qk BK116.out⟩, ⟨qb HB.out⟩⟩
   rw [if_neg c21] at H
   have c21b0 : (t104 != t101) = false := by simpa using c21
   (try (have c21b1 : decide (t104 = t101) = true := by simpa using c21))
   (try (have c21b2 : (t104 == t101) = true := by simpa using c21))
   clear c21
   have H' := Aside0.mk H
   clear H
   try go_wp2
   have n0_ := q0 (Kd.R_drew HO114.out)
   have n1_ := q0 (Kd.R_drew HO115.out)
   have n2_ := q0 (blk_drew BK116.out)
   have n3_ := q0 (below_drew1 HB.out)
   clear HO114
   clear HO115
   clear BK116
   clear HB
   have HO114 := n0_
   have HO115 := n1_
   have BK116 := n2_
   have HB := n3_
   clear n0_ n1_ n2_ n3_
   refine start_ (n := 17) (S := fun w' => w'.cell? ⟨gb116, 0, none⟩ = some (.int .i64 t100) ∧ w'.cell? ⟨gb116, 1, none⟩ = some (.slice Ao12 t110.length co12)) (ds := []) (ba 17 0) (by kernel_rfl) rfl (by kernel_rfl) ⟨(blk_cell BK116.out 0).trans rfl, (blk_cell BK116.out 1).trans rfl⟩ (fun hHeld => ?_); refine with_tabW laws_FnWayOk.tab5 laws_FnWayOk.bits5 (fun HT_ HW_ => ?_)
   generalize w14.drew = w27 at HO114 HO115 BK116 HB hHeld ⊢
   refine pu 0 (some 25) (ba 17 1) HT_.out ?_
   refine pu 2 (some 27) (ba 17 5) HT_.out ?_
   refine tu 1 (some 26) (ba 17 7) HT_.out HW_.out hHeld ?_
   refine one_ (i := 3) (N := some 28) (ba 17 15) rfl rfl (one_of HT_.out (by kernel_rfl)) (by decide) (fun K hK => ?_)
   refine goes_ Try.func47 (by kernel_rfl) rfl #[.agg #[.int .i64 t100, .slice Ao12 t110.length co12], .slice Ao13 t111.length co13] (by rfl) rfl rfl qm ?_
   with_reducible refine (spec_WayOk.calls kj2 t100 _ _ t110 _ _ t111 t102 _ ?side1 ?side2 ?side3 ?side4 A15.out).mono ?_
   (case side1 => exact qc (Kd.R_reads' HO114.out).2.2)
   (case side2 => exact (Kd.R_reads' HO114.out).2.1)
   (case side3 => exact qc (Kd.R_reads' HO115.out).2.2)
   (case side4 => exact (Kd.R_reads' HO115.out).2.1)
   rintro e w28 ⟨rfl, hb⟩
   refine ⟨_, rfl, ?_⟩
   have n0_ := q0 (Kd.R_below (qr HO114.out) hb)
   have n1_ := q0 (Kd.R_below (qr HO115.out) hb)
   have n2_ := q0 (kb BK116.out hb)
   have n3_ := q0 (below_step (qb HB.out) hb)
   clear HO114
   clear HO115
   clear BK116
   clear HB
   have HO114 := n0_
   have HO115 := n1_
   have BK116 := n2_
   have HB := n3_
   clear n0_ n1_ n2_ n3_
   (try clear hb)
   (try clear hb2)
   (try clear hk)
   (try clear hi)
   refine hK.out _ _ ⟨(blk_cell BK116.out 0).trans rfl, (blk_cell BK116.out 1).trans rfl⟩ (fun hHeld => ?_)
   clear hK K
   refine nu 28 ?_
   refine pu 4 (some 29) (ba 17 31) HT_.out ?_
   refine pu 5 (some 30) (ba 17 63) HT_.out ?_
   refine pu 7 (some 32) (ba 17 191) HT_.out ?_
   refine pu 10 (some 35) (ba 17 1215) HT_.out ?_
   refine tu 6 (some 31) (ba 17 1279) HT_.out HW_.out hHeld ?_
   refine one_ (i := 8) (N := some 33) (ba 17 1535) rfl rfl (one_of HT_.out (by kernel_rfl)) (by decide) (fun K hK => ?_)
   refine goes_ Try.func48 (by kernel_rfl) rfl #[.slice Ao13 t111.length co13] (by rfl) rfl rfl qm ?_
   with_reducible refine (laws_loBack.calls kj2 _ _ t111 t103 _ ?side1 ?side2 A19.out).mono ?_
   (case side1 => exact qc (Kd.R_reads' HO115.out).2.2)
   (case side2 => exact (Kd.R_reads' HO115.out).2.1)
   rintro e w29 ⟨v120, rfl, ho0, hb⟩
   refine ⟨_, rfl, ?_⟩
   have n0_ := q0 (Kd.R_below (qr HO114.out) hb)
   have n1_ := q0 (Kd.R_elder' (qr HO115.out) (Kd.R_base ho0) hb)
   have n2_ := q0 (Kd.R_lower (Kd.R_new' ho0 (Kd.R_lt (qr HO115.out))) (below_size (qb HB.out)))
   have n3_ := q0 (kb BK116.out hb)
   have n4_ := q0 (below_step (qb HB.out) hb)
   clear HO114
   clear HO115
   clear BK116
   clear HB
   have HO114 := n0_
   have HO115 := n1_
   have HO121 := n2_
   have BK116 := n3_
   have HB := n4_
   clear n0_ n1_ n2_ n3_ n4_
   (try clear hb)
   (try clear hb2)
   (try clear hk)
   (try clear hi)
   (try clear ho0)
   obtain ⟨Ao30, co30, eo30⟩ := Kd.R_slice HO121.out
   (first | subst eo30 | (injection eo30 with f1_ f2_ f3_; have f4_ := f1_.symm; have f5_ := f3_.symm; clear f1_ f2_ f3_; subst f4_; subst f5_))
   refine hK.out _ _ ⟨(blk_cell BK116.out 0).trans rfl, (blk_cell BK116.out 1).trans rfl⟩ (fun hHeld => ?_)
   clear hK K
   refine nu 33 ?_
   refine one_ (i := 9) (N := some 34) (ba 17 2047) rfl rfl (one_of HT_.out (by kernel_rfl)) (by decide) (fun K hK => ?_)
   refine goes_ Try.func46 (by kernel_rfl) rfl #[.agg #[.int .i64 t100, .slice Ao12 t110.length co12], .slice Ao30 t103.length co30] (by rfl) rfl rfl qm ?_
   with_reducible refine (impl_WayOk.calls kj2 t100 _ _ t110 _ _ t103 t104 _ ?side1 ?side2 ?side3 ?side4 A20.out).mono ?_
   (case side1 => exact qc (Kd.R_reads' HO114.out).2.2)
   (case side2 => exact (Kd.R_reads' HO114.out).2.1)
   (case side3 => exact qc (Kd.R_reads' HO121.out).2.2)
   (case side4 => exact (Kd.R_reads' HO121.out).2.1)
   rintro e w31 ⟨rfl, hb⟩
   refine ⟨_, rfl, ?_⟩
   have n0_ := q0 (Kd.R_below (qr HO114.out) hb)
   have n1_ := q0 (Kd.R_below (qr HO115.out) hb)
   have n2_ := q0 (Kd.R_below (qr HO121.out) hb)
   have n3_ := q0 (kb BK116.out hb)
   have n4_ := q0 (below_step (qb HB.out) hb)
   clear HO114
   clear HO115
   clear HO121
   clear BK116
   clear HB
   have HO114 := n0_
   have HO115 := n1_
   have HO121 := n2_
   have BK116 := n3_
   have HB := n4_
   clear n0_ n1_ n2_ n3_ n4_
   (try clear hb)
   (try clear hb2)
   (try clear hk)
   (try clear hi)
   refine hK.out _ _ ⟨(blk_cell BK116.out 0).trans rfl, (blk_cell BK116.out 1).trans rfl⟩ (fun hHeld => ?_)
   clear hK K
   refine nu 34 ?_
   refine pu 11 (some 36) (ba 17 4095) HT_.out ?_
   refine pu 12 (some 37) (ba 17 8191) HT_.out ?_
   refine pu 13 (some 38) (ba 17 16383) HT_.out ?_
   refine pu 14 (some 39) (ba 17 32767) HT_.out ?_
   refine pu 15 (some 40) (ba 17 65535) HT_.out ?_
   refine pu 16 (some 41) (ba 17 131071) HT_.out ?_
   refine done_ (done_of HT_.out (by kernel_rfl)) ?_
   try go_wp2
   go_meet
   case rel => exact ⟨_, (!t101), qs, H', ⟨by have := HJ2.out; first | omega | exact Nat.le_refl _⟩, ⟨by (with_reducible repeat (first | apply Kd.R_alloc | apply Kd.R_drewN | apply Kd.R_drew)); exact Kd.R_mono HO115.out (fun _ hk => trivial)⟩, ⟨qr HO114.out⟩, ⟨qk BK116.out⟩, ⟨qb HB.out⟩⟩
 clear HC8
 try clear c1
 try clear c2
 try clear p2
 try clear c4
 try clear c16
 try clear c16b0
 try clear c16b1
 try clear c16b2
 try clear c21
 try clear c21b0
 try clear c21b1
 try clear c21b2
 obtain ⟨kq, x41_7, rfl, HA, HJ7, HO_6, HO_101001, BK116, HB⟩ := hcut
 rcases kq with _ | kj7
 · exact absurd HA.out (by simp [laws_FnWayOk.j1])
 have H := HA.out
 clear HA
 simp only [laws_FnWayOk.j1] at H
 by_cases c32 : x41_7 = true
 · subst c32
   have H1 : ((spec_WayOk.f kj7 t100 t110 t111).bind fun t105 => (if (t101 == t105) = true then ((laws_loBack.f kj7 t111).bind fun t106 => ((impl_WayOk.f kj7 t100 t110 t106).bind fun t107 => (some (t107 == t101)))) else (some false))) = some r := by rw [if_pos rfl] at H; exact H
   clear H
   have H := H1
   clear H1
   replace H := Option.bind_eq_some_iff.mp H
   obtain ⟨t105, A122, H⟩ := H
   replace H : (if (t101 == t105) = true then ((laws_loBack.f kj7 t111).bind fun t106 => ((impl_WayOk.f kj7 t100 t110 t106).bind fun t107 => (some (t107 == t101)))) else (some false)) = some r := H
   have A33 := Aside0.mk A122
   clear A122
   by_cases c34 : (t101 == t105) = true
   rotate_left
   · rw [if_neg c34] at H
     have c34b0 : (t101 == t105) = false := by simpa using c34
     (try (have c34b1 : decide (t101 = t105) = false := by simpa using c34))
     (try (have c34b2 : (t101 == t105) = false := by simpa using c34))
     (try (have c34b3 : ¬ (t101 = t105) := by simpa using c34))
     clear c34
     obtain rfl := Option.some.inj H
     try go_wp2
     have n0_ := q0 (Kd.R_drew HO_6.out)
     have n1_ := q0 (Kd.R_drew HO_101001.out)
     have n2_ := q0 (blk_drew BK116.out)
     have n3_ := q0 (below_drew1 HB.out)
     clear HO_6
     clear HO_101001
     clear BK116
     clear HB
     have HO_6 := n0_
     have HO_101001 := n1_
     have BK116 := n2_
     have HB := n3_
     clear n0_ n1_ n2_ n3_
     refine start_ (n := 14) (S := fun w' => w'.cell? ⟨gb116, 0, none⟩ = some (.int .i64 t100) ∧ w'.cell? ⟨gb116, 1, none⟩ = some (.slice Ao12 t110.length co12)) (ds := []) (ba 14 0) (by kernel_rfl) rfl (by kernel_rfl) ⟨(blk_cell BK116.out 0).trans rfl, (blk_cell BK116.out 1).trans rfl⟩ (fun hHeld => ?_); refine with_tabW laws_FnWayOk.tab6 laws_FnWayOk.bits6 (fun HT_ HW_ => ?_)
     generalize wc.drew = w42 at HO_6 HO_101001 BK116 HB hHeld ⊢
     refine pu 0 (some 42) (ba 14 1) HT_.out ?_
     refine pu 2 (some 44) (ba 14 5) HT_.out ?_
     refine tu 1 (some 43) (ba 14 7) HT_.out HW_.out hHeld ?_
     refine one_ (i := 3) (N := some 45) (ba 14 15) rfl rfl (one_of HT_.out (by kernel_rfl)) (by decide) (fun K hK => ?_)
     refine goes_ Try.func47 (by kernel_rfl) rfl #[.agg #[.int .i64 t100, .slice Ao12 t110.length co12], .slice Ao13 t111.length co13] (by rfl) rfl rfl qm ?_
     with_reducible refine (spec_WayOk.calls kj7 t100 _ _ t110 _ _ t111 t105 _ ?side1 ?side2 ?side3 ?side4 A33.out).mono ?_
     (case side1 => exact qc (Kd.R_reads' HO_101001.out).2.2)
     (case side2 => exact (Kd.R_reads' HO_101001.out).2.1)
     (case side3 => exact qc (Kd.R_reads' HO_6.out).2.2)
     (case side4 => exact (Kd.R_reads' HO_6.out).2.1)
     rintro e w43 ⟨rfl, hb⟩
     refine ⟨_, rfl, ?_⟩
     have n0_ := q0 (Kd.R_below (qr HO_6.out) hb)
     have n1_ := q0 (Kd.R_below (qr HO_101001.out) hb)
     have n2_ := q0 (kb BK116.out hb)
     have n3_ := q0 (below_step (qb HB.out) hb)
     clear HO_6
     clear HO_101001
     clear BK116
     clear HB
     have HO_6 := n0_
     have HO_101001 := n1_
     have BK116 := n2_
     have HB := n3_
     clear n0_ n1_ n2_ n3_
     (try clear hb)
     (try clear hb2)
     (try clear hk)
     (try clear hi)
     refine hK.out _ _ ⟨(blk_cell BK116.out 0).trans rfl, (blk_cell BK116.out 1).trans rfl⟩ (fun hHeld => ?_)
     clear hK K
     refine nu 45 ?_
     refine pu 4 (some 46) (ba 14 31) HT_.out ?_
     refine pu 5 (some 47) (ba 14 63) HT_.out ?_
     refine pv 6 (some 48) (ba 14 127) HT_.out ?_
     refine pv 7 (some 49) (ba 14 255) HT_.out ?_
     refine pv 8 (some 50) (ba 14 511) HT_.out ?_
     refine pv 9 (some 51) (ba 14 1023) HT_.out ?_
     refine pv 10 (some 52) (ba 14 2047) HT_.out ?_
     refine pv 11 (some 53) (ba 14 4095) HT_.out ?_
     refine pu 12 (some 54) (ba 14 8191) HT_.out ?_
     refine pu 13 (some 4) (ba 14 16383) HT_.out ?_
     refine done_ (done_of HT_.out (by kernel_rfl)) ?_
     try go_wp2
     go_ret
     exact ⟨qe, qb HB.out⟩
   rw [if_pos c34] at H
   have c34b0 : (t101 == t105) = true := c34
   (try (have c34b1 : decide (t101 = t105) = true := by simpa using c34))
   (try (have c34b2 : (t101 == t105) = true := by simpa using c34))
   clear c34
   replace H := Option.bind_eq_some_iff.mp H
   obtain ⟨t106, A123, H⟩ := H
   replace H : ((impl_WayOk.f kj7 t100 t110 t106).bind fun t107 => (some (t107 == t101))) = some r := H
   have A35 := Aside0.mk A123
   clear A123
   replace H := Option.bind_eq_some_iff.mp H
   obtain ⟨t107, A124, H⟩ := H
   replace H : (some (t107 == t101)) = some r := H
   have A36 := Aside0.mk A124
   clear A124
   obtain rfl := Option.some.inj H
   try go_wp2
   have n0_ := q0 (Kd.R_drew HO_6.out)
   have n1_ := q0 (Kd.R_drew HO_101001.out)
   have n2_ := q0 (blk_drew BK116.out)
   have n3_ := q0 (below_drew1 HB.out)
   clear HO_6
   clear HO_101001
   clear BK116
   clear HB
   have HO_6 := n0_
   have HO_101001 := n1_
   have BK116 := n2_
   have HB := n3_
   clear n0_ n1_ n2_ n3_
   refine start_ (n := 14) (S := fun w' => w'.cell? ⟨gb116, 0, none⟩ = some (.int .i64 t100) ∧ w'.cell? ⟨gb116, 1, none⟩ = some (.slice Ao12 t110.length co12)) (ds := []) (ba 14 0) (by kernel_rfl) rfl (by kernel_rfl) ⟨(blk_cell BK116.out 0).trans rfl, (blk_cell BK116.out 1).trans rfl⟩ (fun hHeld => ?_); refine with_tabW laws_FnWayOk.tab6 laws_FnWayOk.bits6 (fun HT_ HW_ => ?_)
   generalize wc.drew = w37 at HO_6 HO_101001 BK116 HB hHeld ⊢
   refine pu 0 (some 42) (ba 14 1) HT_.out ?_
   refine pu 2 (some 44) (ba 14 5) HT_.out ?_
   refine tu 1 (some 43) (ba 14 7) HT_.out HW_.out hHeld ?_
   refine one_ (i := 3) (N := some 45) (ba 14 15) rfl rfl (one_of HT_.out (by kernel_rfl)) (by decide) (fun K hK => ?_)
   refine goes_ Try.func47 (by kernel_rfl) rfl #[.agg #[.int .i64 t100, .slice Ao12 t110.length co12], .slice Ao13 t111.length co13] (by rfl) rfl rfl qm ?_
   with_reducible refine (spec_WayOk.calls kj7 t100 _ _ t110 _ _ t111 t105 _ ?side1 ?side2 ?side3 ?side4 A33.out).mono ?_
   (case side1 => exact qc (Kd.R_reads' HO_101001.out).2.2)
   (case side2 => exact (Kd.R_reads' HO_101001.out).2.1)
   (case side3 => exact qc (Kd.R_reads' HO_6.out).2.2)
   (case side4 => exact (Kd.R_reads' HO_6.out).2.1)
   rintro e w38 ⟨rfl, hb⟩
   refine ⟨_, rfl, ?_⟩
   have n0_ := q0 (Kd.R_below (qr HO_6.out) hb)
   have n1_ := q0 (Kd.R_below (qr HO_101001.out) hb)
   have n2_ := q0 (kb BK116.out hb)
   have n3_ := q0 (below_step (qb HB.out) hb)
   clear HO_6
   clear HO_101001
   clear BK116
   clear HB
   have HO_6 := n0_
   have HO_101001 := n1_
   have BK116 := n2_
   have HB := n3_
   clear n0_ n1_ n2_ n3_
   (try clear hb)
   (try clear hb2)
   (try clear hk)
   (try clear hi)
   refine hK.out _ _ ⟨(blk_cell BK116.out 0).trans rfl, (blk_cell BK116.out 1).trans rfl⟩ (fun hHeld => ?_)
   clear hK K
   refine nu 45 ?_
   refine pu 4 (some 46) (ba 14 31) HT_.out ?_
   refine pu 5 (some 47) (ba 14 63) HT_.out ?_
   refine pu 7 (some 49) (ba 14 191) HT_.out ?_
   refine pu 10 (some 52) (ba 14 1215) HT_.out ?_
   refine tu 6 (some 48) (ba 14 1279) HT_.out HW_.out hHeld ?_
   refine one_ (i := 8) (N := some 50) (ba 14 1535) rfl rfl (one_of HT_.out (by kernel_rfl)) (by decide) (fun K hK => ?_)
   refine goes_ Try.func48 (by kernel_rfl) rfl #[.slice Ao13 t111.length co13] (by rfl) rfl rfl qm ?_
   with_reducible refine (laws_loBack.calls kj7 _ _ t111 t106 _ ?side1 ?side2 A35.out).mono ?_
   (case side1 => exact qc (Kd.R_reads' HO_6.out).2.2)
   (case side2 => exact (Kd.R_reads' HO_6.out).2.1)
   rintro e w39 ⟨v125, rfl, ho0, hb⟩
   refine ⟨_, rfl, ?_⟩
   have n0_ := q0 (Kd.R_elder' (qr HO_6.out) (Kd.R_base ho0) hb)
   have n1_ := q0 (Kd.R_below (qr HO_101001.out) hb)
   have n2_ := q0 (Kd.R_lower (Kd.R_new' ho0 (Kd.R_lt (qr HO_6.out))) (below_size (qb HB.out)))
   have n3_ := q0 (kb BK116.out hb)
   have n4_ := q0 (below_step (qb HB.out) hb)
   clear HO_6
   clear HO_101001
   clear BK116
   clear HB
   have HO_6 := n0_
   have HO_101001 := n1_
   have HO126 := n2_
   have BK116 := n3_
   have HB := n4_
   clear n0_ n1_ n2_ n3_ n4_
   (try clear hb)
   (try clear hb2)
   (try clear hk)
   (try clear hi)
   (try clear ho0)
   obtain ⟨Ao40, co40, eo40⟩ := Kd.R_slice HO126.out
   (first | subst eo40 | (injection eo40 with f1_ f2_ f3_; have f4_ := f1_.symm; have f5_ := f3_.symm; clear f1_ f2_ f3_; subst f4_; subst f5_))
   refine hK.out _ _ ⟨(blk_cell BK116.out 0).trans rfl, (blk_cell BK116.out 1).trans rfl⟩ (fun hHeld => ?_)
   clear hK K
   refine nu 50 ?_
   refine one_ (i := 9) (N := some 51) (ba 14 2047) rfl rfl (one_of HT_.out (by kernel_rfl)) (by decide) (fun K hK => ?_)
   refine goes_ Try.func46 (by kernel_rfl) rfl #[.agg #[.int .i64 t100, .slice Ao12 t110.length co12], .slice Ao40 t106.length co40] (by rfl) rfl rfl qm ?_
   with_reducible refine (impl_WayOk.calls kj7 t100 _ _ t110 _ _ t106 t107 _ ?side1 ?side2 ?side3 ?side4 A36.out).mono ?_
   (case side1 => exact qc (Kd.R_reads' HO_101001.out).2.2)
   (case side2 => exact (Kd.R_reads' HO_101001.out).2.1)
   (case side3 => exact qc (Kd.R_reads' HO126.out).2.2)
   (case side4 => exact (Kd.R_reads' HO126.out).2.1)
   rintro e w41 ⟨rfl, hb⟩
   refine ⟨_, rfl, ?_⟩
   have n0_ := q0 (Kd.R_below (qr HO_6.out) hb)
   have n1_ := q0 (Kd.R_below (qr HO_101001.out) hb)
   have n2_ := q0 (Kd.R_below (qr HO126.out) hb)
   have n3_ := q0 (kb BK116.out hb)
   have n4_ := q0 (below_step (qb HB.out) hb)
   clear HO_6
   clear HO_101001
   clear HO126
   clear BK116
   clear HB
   have HO_6 := n0_
   have HO_101001 := n1_
   have HO126 := n2_
   have BK116 := n3_
   have HB := n4_
   clear n0_ n1_ n2_ n3_ n4_
   (try clear hb)
   (try clear hb2)
   (try clear hk)
   (try clear hi)
   refine hK.out _ _ ⟨(blk_cell BK116.out 0).trans rfl, (blk_cell BK116.out 1).trans rfl⟩ (fun hHeld => ?_)
   clear hK K
   refine nu 51 ?_
   refine pu 11 (some 53) (ba 14 4095) HT_.out ?_
   refine pu 12 (some 54) (ba 14 8191) HT_.out ?_
   refine pu 13 (some 4) (ba 14 16383) HT_.out ?_
   refine done_ (done_of HT_.out (by kernel_rfl)) ?_
   try go_wp2
   go_ret
   exact ⟨qe, qb HB.out⟩
 replace c32 := Bool.eq_false_iff.mpr c32
 subst c32
 have H1 : (if (t111.length : Int) = 0 then (none) else (if 0 ≤ ((l1.length : Int) % (t111.length : Int)) then (if ((l1.length : Int) % (t111.length : Int)) ≤ (t111.length : Int) then ((impl_WayOk.f kj7 t100 t110 (t111.drop (((l1.length : Int) % (t111.length : Int)) : Int).toNat)).bind fun t108 => (if t108 = true then (if 0 ≤ (wrap64 (((l1.length : Int) % (t111.length : Int)) + 1)) then (if (wrap64 (((l1.length : Int) % (t111.length : Int)) + 1)) ≤ (t111.length : Int) then ((impl_WayOk.f kj7 t100 t110 (t111.take ((wrap64 (((l1.length : Int) % (t111.length : Int)) + 1)) : Int).toNat)).bind fun t109 => (some t109)) else (none)) else (none)) else (some false))) else (none)) else (none))) = some r := by rw [if_neg (show ¬ (false = true) by decide)] at H; exact H
 clear H
 have H := H1
 clear H1
 by_cases c44 : (t111.length : Int) = 0
 · rw [if_pos c44] at H
   exact absurd H (by simp)
 rw [if_neg c44] at H
 have c44b0 : ((t111.length : Int) == 0) = false := beq_eq_false_iff_ne.mpr c44
 have c44b1 : ((t111.length : Int) != 0) = true := bne_iff_ne.mpr c44
 have c44b2 : ¬ (t111 = []) := fun h_ => c44 (by rw [h_]; rfl)
 obtain ⟨ji45, hji45⟩ : ∃ j_ : Int, ((l1.length : Int) % (t111.length : Int)) = j_ := ⟨_, rfl⟩
 replace H : (if 0 ≤ (ji45) then (if (ji45) ≤ (t111.length : Int) then ((impl_WayOk.f kj7 t100 t110 (t111.drop ((ji45) : Int).toNat)).bind fun t108 => (if t108 = true then (if 0 ≤ (wrap64 ((ji45) + 1)) then (if (wrap64 ((ji45) + 1)) ≤ (t111.length : Int) then ((impl_WayOk.f kj7 t100 t110 (t111.take ((wrap64 ((ji45) + 1)) : Int).toNat)).bind fun t109 => (some t109)) else (none)) else (none)) else (some false))) else (none)) else (none)) = some r := by first | (rw [hji45] at H; exact H) | (simp only [hji45] at H ⊢; exact H)
 by_cases c46 : 0 ≤ (ji45)
 rotate_left
 · rw [if_neg c46] at H
   exact absurd H (by simp)
 rw [if_pos c46] at H
 have c46b0 := eq_true c46
 have c46b1 : decide (0 ≤ (ji45)) = true := decide_eq_true c46
 clear c46
 by_cases c47 : (ji45) ≤ (t111.length : Int)
 rotate_left
 · rw [if_neg c47] at H
   exact absurd H (by simp)
 rw [if_pos c47] at H
 have c47b0 := eq_true c47
 have c47b1 : decide ((ji45) ≤ (t111.length : Int)) = true := decide_eq_true c47
 clear c47
 obtain ⟨y127, hy127⟩ : ∃ y_ : List Int, y_ = (t111.drop ((ji45) : Int).toNat) := ⟨_, rfl⟩
 replace H : ((impl_WayOk.f kj7 t100 t110 y127).bind fun t108 => (if t108 = true then (if 0 ≤ (wrap64 ((ji45) + 1)) then (if (wrap64 ((ji45) + 1)) ≤ (t111.length : Int) then ((impl_WayOk.f kj7 t100 t110 (t111.take ((wrap64 ((ji45) + 1)) : Int).toNat)).bind fun t109 => (some t109)) else (none)) else (none)) else (some false))) = some r := by first | (rw [hy127]; with_reducible exact H) | (have H2_ := (Option.bind_some _ _).symm.trans H; rw [hy127]; with_reducible exact H2_) | (have H2_ := (Option.bind_some _ _).symm.trans H; with_reducible exact H2_) | with_reducible exact H | (rw [hy127]; exact H) | exact H
 have Ny127 := Aside0.mk hy127
 clear hy127
 replace H := Option.bind_eq_some_iff.mp H
 obtain ⟨t108, A128, H⟩ := H
 replace H : (if t108 = true then (if 0 ≤ (wrap64 ((ji45) + 1)) then (if (wrap64 ((ji45) + 1)) ≤ (t111.length : Int) then ((impl_WayOk.f kj7 t100 t110 (t111.take ((wrap64 ((ji45) + 1)) : Int).toNat)).bind fun t109 => (some t109)) else (none)) else (none)) else (some false)) = some r := H
 have A48 := Aside0.mk A128
 clear A128
 by_cases c49 : t108 = true
 rotate_left
 · replace c49 := Bool.eq_false_iff.mpr c49
   subst c49
   have H1 : (some false) = some r := by rw [if_neg (show ¬ (false = true) by decide)] at H; exact H
   clear H
   have H := H1
   clear H1
   obtain rfl := Option.some.inj H
   try go_wp2
   have n0_ := q0 (Kd.R_drew HO_6.out)
   have n1_ := q0 (Kd.R_drew HO_101001.out)
   have n2_ := q0 (blk_drew BK116.out)
   have n3_ := q0 (below_drew1 HB.out)
   clear HO_6
   clear HO_101001
   clear BK116
   clear HB
   have HO_6 := n0_
   have HO_101001 := n1_
   have BK116 := n2_
   have HB := n3_
   clear n0_ n1_ n2_ n3_
   have q60 : ((ji45) : Int) ≤ ((t111.length : Int) : Int) := of_decide_eq_true qa
   obtain ⟨i135, hi135, _, hsz60, _⟩ := info_parts info3
   have hroom60 : t111.length ≤ co13 := (Kd.R_reads' HO_6.out).2.1
   have hC60 : Kd.C (Kd.int .i64) _ Ao13 t111.length t111 := (Kd.R_reads' HO_6.out).2.2
   have q135 : (0 : Int) ≤ ((ji45) : Int) := of_decide_eq_true qa
   have hcut60 := cut_from (P := Try.prog) 26 3 .i64 Try.underlying26 hi135 1 hsz60 Ao13 t111.length co13 (ji45) q135 q60
   have hr60 := Kd.C_drop (m := ((ji45) : Int).toNat) (c := co13) hC60 (by omega) hroom60
   obtain ⟨A60, hA60⟩ : ∃ A1, A1 = (if co13 = ((ji45) : Int).toNat then Ao13 else (Ao13 : Option Addr).map (·.add (((ji45) : Int).toNat * 1))) := ⟨_, rfl⟩
   obtain ⟨c60, hc60⟩ : ∃ c1, c1 = co13 - ((ji45) : Int).toNat := ⟨_, rfl⟩
   have hy60 : y127.length = t111.length - ((ji45) : Int).toNat := (by rw [Ny127.out, List.length_drop] <;> omega)
   rw [show (t111).drop ((ji45) : Int).toNat = y127 from Ny127.out.symm] at hr60
   replace hr60 : Kd.C (Kd.int .i64) _ A60 y127.length y127 := (by rw [hA60]; exact hr60)
   rw [← hy60, ← hA60, ← hc60] at hcut60
   have HR132 := Aside0.mk hr60
   have HC132 := q0 (show y127.length ≤ c60 from by rw [hy60, hc60]; exact Nat.sub_le_sub_right hroom60 _)
   clear hr60 hC60 hroom60 hi135 hsz60 hc60
   have KY60 := Aside0.mk hy60
   have KA60 := Aside0.mk hA60
   clear hy60 hA60
   have KL60 := q0 (show ((ji45) : Int).toNat ≤ t111.length from by omega)
   replace q60 := eq_true q60
   refine start_ (n := 14) (S := fun w' => w'.cell? ⟨gb116, 0, none⟩ = some (.int .i64 t100) ∧ w'.cell? ⟨gb116, 1, none⟩ = some (.slice Ao12 t110.length co12)) (ds := []) (ba 14 0) (by kernel_rfl) rfl (by kernel_rfl) ⟨(blk_cell BK116.out 0).trans rfl, (blk_cell BK116.out 1).trans rfl⟩ (fun hHeld => ?_); refine with_tabW laws_FnWayOk.tab8 laws_FnWayOk.bits8 (fun HT_ HW_ => ?_)
   generalize wc.drew = w59 at HO_6 HO_101001 BK116 HB HR132 hHeld ⊢
   refine pu 1 (some 61) (ba 14 2) HT_.out ?_
   refine pu 2 (some 62) (ba 14 6) HT_.out ?_
   refine pu 3 (some 63) (ba 14 14) HT_.out ?_
   refine tu 0 (some 60) (ba 14 15) HT_.out HW_.out hHeld ?_
   refine one_ (i := 4) (N := some 64) (ba 14 31) rfl rfl (one_of HT_.out (by kernel_rfl)) (by decide) (fun K hK => ?_)
   refine goes_ Try.func46 (by kernel_rfl) rfl #[.agg #[.int .i64 t100, .slice Ao12 t110.length co12], .slice A60 y127.length c60] (by rfl) rfl rfl qm ?_
   with_reducible refine (impl_WayOk.calls kj7 t100 _ _ t110 _ _ y127 false _ ?side1 ?side2 ?side3 ?side4 A48.out).mono ?_
   (case side1 => exact qc (Kd.R_reads' HO_101001.out).2.2)
   (case side2 => exact (Kd.R_reads' HO_101001.out).2.1)
   (case side3 => repeat (first | exact (by repeat (first | (with_reducible exact HR132.out) | (with_reducible refine Kd.C_alloc ?_ _) | (with_reducible refine Kd.C_drewN ?_ _) | (with_reducible refine Kd.C_drew ?_) | exact HR132.out)) | (with_reducible refine Kd.C_alloc ?_ _) | (with_reducible refine Kd.C_drewN ?_ _) | (with_reducible refine Kd.C_drew ?_)))
   (case side4 => exact HC132.out)
   rintro e w61 ⟨rfl, hb⟩
   refine ⟨_, rfl, ?_⟩
   have n0_ := q0 (Kd.R_below (qr HO_6.out) hb)
   have n1_ := q0 (Kd.R_below (qr HO_101001.out) hb)
   have n2_ := q0 (kb BK116.out hb)
   have n3_ := q0 (Kd.C_below (by repeat (first | (with_reducible exact HR132.out) | (with_reducible refine Kd.C_alloc ?_ _) | (with_reducible refine Kd.C_drewN ?_ _) | (with_reducible refine Kd.C_drew ?_) | exact HR132.out)) hb)
   have n4_ := q0 (below_step (qb HB.out) hb)
   clear HO_6
   clear HO_101001
   clear BK116
   clear HR132
   clear HB
   have HO_6 := n0_
   have HO_101001 := n1_
   have BK116 := n2_
   have HR132 := n3_
   have HB := n4_
   clear n0_ n1_ n2_ n3_ n4_
   (try clear hb)
   (try clear hb2)
   (try clear hk)
   (try clear hi)
   refine hK.out _ _ ⟨(blk_cell BK116.out 0).trans rfl, (blk_cell BK116.out 1).trans rfl⟩ (fun hHeld => ?_)
   clear hK K
   refine nu 64 ?_
   refine pu 5 (some 65) (ba 14 63) HT_.out ?_
   refine pv 6 (some 66) (ba 14 127) HT_.out ?_
   refine pv 7 (some 67) (ba 14 255) HT_.out ?_
   refine pv 8 (some 68) (ba 14 511) HT_.out ?_
   refine pv 9 (some 69) (ba 14 1023) HT_.out ?_
   refine pv 10 (some 70) (ba 14 2047) HT_.out ?_
   refine pv 11 (some 71) (ba 14 4095) HT_.out ?_
   refine pu 12 (some 72) (ba 14 8191) HT_.out ?_
   refine pu 13 (some 4) (ba 14 16383) HT_.out ?_
   refine done_ (done_of HT_.out (by kernel_rfl)) ?_
   try go_wp2
   go_ret
   exact ⟨by first | rfl | (simp [errW_none, errW_some] <;> rfl) | (simp only [← hji45]; first | rfl | (simp [errW_none, errW_some] <;> rfl)) | (simp [*, errW_none, errW_some] <;> rfl), qb HB.out⟩
 subst c49
 have H1 : (if 0 ≤ (wrap64 ((ji45) + 1)) then (if (wrap64 ((ji45) + 1)) ≤ (t111.length : Int) then ((impl_WayOk.f kj7 t100 t110 (t111.take ((wrap64 ((ji45) + 1)) : Int).toNat)).bind fun t109 => (some t109)) else (none)) else (none)) = some r := by rw [if_pos rfl] at H; exact H
 clear H
 have H := H1
 clear H1
 obtain ⟨ji50, hji50⟩ : ∃ j_ : Int, (wrap64 ((ji45) + 1)) = j_ := ⟨_, rfl⟩
 replace H : (if 0 ≤ (ji50) then (if (ji50) ≤ (t111.length : Int) then ((impl_WayOk.f kj7 t100 t110 (t111.take ((ji50) : Int).toNat)).bind fun t109 => (some t109)) else (none)) else (none)) = some r := by first | (rw [hji50] at H; exact H) | (simp only [hji50] at H ⊢; exact H)
 (try rw [hji50] at A48)
 have hji50w : (IntKind.i64.wrap ((ji45) + 1)) = ji50 := (i64_w _).trans hji50
 by_cases c51 : 0 ≤ (ji50)
 rotate_left
 · rw [if_neg c51] at H
   exact absurd H (by simp)
 rw [if_pos c51] at H
 have c51b0 := eq_true c51
 have c51b1 : decide (0 ≤ (ji50)) = true := decide_eq_true c51
 clear c51
 by_cases c52 : (ji50) ≤ (t111.length : Int)
 rotate_left
 · rw [if_neg c52] at H
   exact absurd H (by simp)
 rw [if_pos c52] at H
 have c52b0 := eq_true c52
 have c52b1 : decide ((ji50) ≤ (t111.length : Int)) = true := decide_eq_true c52
 clear c52
 obtain ⟨y129, hy129⟩ : ∃ y_ : List Int, y_ = (t111.take ((ji50) : Int).toNat) := ⟨_, rfl⟩
 replace H : ((impl_WayOk.f kj7 t100 t110 y129).bind fun t109 => (some t109)) = some r := by first | (rw [hy129]; with_reducible exact H) | (have H2_ := (Option.bind_some _ _).symm.trans H; rw [hy129]; with_reducible exact H2_) | (have H2_ := (Option.bind_some _ _).symm.trans H; with_reducible exact H2_) | with_reducible exact H | (rw [hy129]; exact H) | exact H
 have Ny129 := Aside0.mk hy129
 clear hy129
 replace H := Option.bind_eq_some_iff.mp H
 obtain ⟨t109, A130, H⟩ := H
 replace H : (some t109) = some r := H
 have A53 := Aside0.mk A130
 clear A130
 obtain rfl := Option.some.inj H
 try go_wp2
 have n0_ := q0 (Kd.R_drew HO_6.out)
 have n1_ := q0 (Kd.R_drew HO_101001.out)
 have n2_ := q0 (blk_drew BK116.out)
 have n3_ := q0 (below_drew1 HB.out)
 clear HO_6
 clear HO_101001
 clear BK116
 clear HB
 have HO_6 := n0_
 have HO_101001 := n1_
 have BK116 := n2_
 have HB := n3_
 clear n0_ n1_ n2_ n3_
 have q55 : ((ji45) : Int) ≤ ((t111.length : Int) : Int) := of_decide_eq_true qa
 obtain ⟨i131, hi131, _, hsz55, _⟩ := info_parts info3
 have hroom55 : t111.length ≤ co13 := (Kd.R_reads' HO_6.out).2.1
 have hC55 : Kd.C (Kd.int .i64) _ Ao13 t111.length t111 := (Kd.R_reads' HO_6.out).2.2
 have q131 : (0 : Int) ≤ ((ji45) : Int) := of_decide_eq_true qa
 have hcut55 := cut_from (P := Try.prog) 26 3 .i64 Try.underlying26 hi131 1 hsz55 Ao13 t111.length co13 (ji45) q131 q55
 have hr55 := Kd.C_drop (m := ((ji45) : Int).toNat) (c := co13) hC55 (by omega) hroom55
 obtain ⟨A55, hA55⟩ : ∃ A1, A1 = (if co13 = ((ji45) : Int).toNat then Ao13 else (Ao13 : Option Addr).map (·.add (((ji45) : Int).toNat * 1))) := ⟨_, rfl⟩
 obtain ⟨c55, hc55⟩ : ∃ c1, c1 = co13 - ((ji45) : Int).toNat := ⟨_, rfl⟩
 have hy55 : y127.length = t111.length - ((ji45) : Int).toNat := (by rw [Ny127.out, List.length_drop] <;> omega)
 rw [show (t111).drop ((ji45) : Int).toNat = y127 from Ny127.out.symm] at hr55
 replace hr55 : Kd.C (Kd.int .i64) _ A55 y127.length y127 := (by rw [hA55]; exact hr55)
 rw [← hy55, ← hA55, ← hc55] at hcut55
 have HR132 := Aside0.mk hr55
 have HC132 := q0 (show y127.length ≤ c55 from by rw [hy55, hc55]; exact Nat.sub_le_sub_right hroom55 _)
 clear hr55 hC55 hroom55 hi131 hsz55 hc55
 have KY55 := Aside0.mk hy55
 have KA55 := Aside0.mk hA55
 clear hy55 hA55
 have KL55 := q0 (show ((ji45) : Int).toNat ≤ t111.length from by omega)
 replace q55 := eq_true q55
 refine start_ (n := 14) (S := fun w' => w'.cell? ⟨gb116, 0, none⟩ = some (.int .i64 t100) ∧ w'.cell? ⟨gb116, 1, none⟩ = some (.slice Ao12 t110.length co12)) (ds := []) (ba 14 0) (by kernel_rfl) rfl (by kernel_rfl) ⟨(blk_cell BK116.out 0).trans rfl, (blk_cell BK116.out 1).trans rfl⟩ (fun hHeld => ?_); refine with_tabW laws_FnWayOk.tab8 laws_FnWayOk.bits8 (fun HT_ HW_ => ?_)
 generalize wc.drew = w54 at HO_6 HO_101001 BK116 HB HR132 hHeld ⊢
 refine pu 1 (some 61) (ba 14 2) HT_.out ?_
 refine pu 2 (some 62) (ba 14 6) HT_.out ?_
 refine pu 3 (some 63) (ba 14 14) HT_.out ?_
 refine tu 0 (some 60) (ba 14 15) HT_.out HW_.out hHeld ?_
 refine one_ (i := 4) (N := some 64) (ba 14 31) rfl rfl (one_of HT_.out (by kernel_rfl)) (by decide) (fun K hK => ?_)
 refine goes_ Try.func46 (by kernel_rfl) rfl #[.agg #[.int .i64 t100, .slice Ao12 t110.length co12], .slice A55 y127.length c55] (by rfl) rfl rfl qm ?_
 with_reducible refine (impl_WayOk.calls kj7 t100 _ _ t110 _ _ y127 true _ ?side1 ?side2 ?side3 ?side4 A48.out).mono ?_
 (case side1 => exact qc (Kd.R_reads' HO_101001.out).2.2)
 (case side2 => exact (Kd.R_reads' HO_101001.out).2.1)
 (case side3 => repeat (first | exact (by repeat (first | (with_reducible exact HR132.out) | (with_reducible refine Kd.C_alloc ?_ _) | (with_reducible refine Kd.C_drewN ?_ _) | (with_reducible refine Kd.C_drew ?_) | exact HR132.out)) | (with_reducible refine Kd.C_alloc ?_ _) | (with_reducible refine Kd.C_drewN ?_ _) | (with_reducible refine Kd.C_drew ?_)))
 (case side4 => exact HC132.out)
 rintro e w56 ⟨rfl, hb⟩
 refine ⟨_, rfl, ?_⟩
 have n0_ := q0 (Kd.R_below (qr HO_6.out) hb)
 have n1_ := q0 (Kd.R_below (qr HO_101001.out) hb)
 have n2_ := q0 (kb BK116.out hb)
 have n3_ := q0 (Kd.C_below (by repeat (first | (with_reducible exact HR132.out) | (with_reducible refine Kd.C_alloc ?_ _) | (with_reducible refine Kd.C_drewN ?_ _) | (with_reducible refine Kd.C_drew ?_) | exact HR132.out)) hb)
 have n4_ := q0 (below_step (qb HB.out) hb)
 clear HO_6
 clear HO_101001
 clear BK116
 clear HR132
 clear HB
 have HO_6 := n0_
 have HO_101001 := n1_
 have BK116 := n2_
 have HR132 := n3_
 have HB := n4_
 clear n0_ n1_ n2_ n3_ n4_
 (try clear hb)
 (try clear hb2)
 (try clear hk)
 (try clear hi)
 have q57 : ((ji50) : Int) ≤ ((t111.length : Int) : Int) := of_decide_eq_true qa
 obtain ⟨i133, hi133, _, hsz57, _⟩ := info_parts info3
 have hroom57 : t111.length ≤ co13 := (Kd.R_reads' HO_6.out).2.1
 have hC57 : Kd.C (Kd.int .i64) _ Ao13 t111.length t111 := (Kd.R_reads' HO_6.out).2.2
 have hcut57 := cut_to (P := Try.prog) 26 3 .i64 Try.underlying26 hi133 Ao13 t111.length co13 (ji50) (of_decide_eq_true qa) q57 hroom57
 have hr57 := Kd.C_take (m := ((ji50) : Int).toNat) hC57 (by omega)
 have hy57 : y129.length = ((ji50) : Int).toNat := (by rw [Ny129.out, List.length_take]; omega)
 rw [← Ny129.out] at hr57
 rw [← hy57] at hcut57
 have HR134 := Aside0.mk hr57
 have HC134 := q0 (show y129.length ≤ co13 from by omega)
 clear hr57 hC57 hroom57 hi133 hsz57
 have KY57 := Aside0.mk hy57
 clear hy57
 have KL57 := q0 (show ((ji50) : Int).toNat ≤ t111.length from by omega)
 replace q57 := eq_true q57
 refine hK.out _ _ ⟨(blk_cell BK116.out 0).trans rfl, (blk_cell BK116.out 1).trans rfl⟩ (fun hHeld => ?_)
 clear hK K
 refine nu 64 ?_
 refine pu 5 (some 65) (ba 14 63) HT_.out ?_
 refine pu 7 (some 67) (ba 14 191) HT_.out ?_
 refine pu 8 (some 68) (ba 14 447) HT_.out ?_
 refine pu 9 (some 69) (ba 14 959) HT_.out ?_
 refine pu 10 (some 70) (ba 14 1983) HT_.out ?_
 refine tu 6 (some 66) (ba 14 2047) HT_.out HW_.out hHeld ?_
 refine one_ (i := 11) (N := some 71) (ba 14 4095) rfl rfl (one_of HT_.out (by kernel_rfl)) (by decide) (fun K hK => ?_)
 refine goes_ Try.func46 (by kernel_rfl) rfl #[.agg #[.int .i64 t100, .slice Ao12 t110.length co12], .slice Ao13 y129.length co13] (by rfl) rfl rfl qm ?_
 with_reducible refine (impl_WayOk.calls kj7 t100 _ _ t110 _ _ y129 t109 _ ?side1 ?side2 ?side3 ?side4 A53.out).mono ?_
 (case side1 => exact qc (Kd.R_reads' HO_101001.out).2.2)
 (case side2 => exact (Kd.R_reads' HO_101001.out).2.1)
 (case side3 => repeat (first | exact (by repeat (first | (with_reducible exact HR134.out) | (with_reducible refine Kd.C_alloc ?_ _) | (with_reducible refine Kd.C_drewN ?_ _) | (with_reducible refine Kd.C_drew ?_) | exact HR134.out)) | (with_reducible refine Kd.C_alloc ?_ _) | (with_reducible refine Kd.C_drewN ?_ _) | (with_reducible refine Kd.C_drew ?_)))
 (case side4 => exact HC134.out)
 rintro e w58 ⟨rfl, hb⟩
 refine ⟨_, rfl, ?_⟩
 have n0_ := q0 (Kd.R_below (qr HO_6.out) hb)
 have n1_ := q0 (Kd.R_below (qr HO_101001.out) hb)
 have n2_ := q0 (kb BK116.out hb)
 have n3_ := q0 (Kd.C_below (by repeat (first | (with_reducible exact HR132.out) | (with_reducible refine Kd.C_alloc ?_ _) | (with_reducible refine Kd.C_drewN ?_ _) | (with_reducible refine Kd.C_drew ?_) | exact HR132.out)) hb)
 have n4_ := q0 (Kd.C_below (by repeat (first | (with_reducible exact HR134.out) | (with_reducible refine Kd.C_alloc ?_ _) | (with_reducible refine Kd.C_drewN ?_ _) | (with_reducible refine Kd.C_drew ?_) | exact HR134.out)) hb)
 have n5_ := q0 (below_step (qb HB.out) hb)
 clear HO_6
 clear HO_101001
 clear BK116
 clear HR132
 clear HR134
 clear HB
 have HO_6 := n0_
 have HO_101001 := n1_
 have BK116 := n2_
 have HR132 := n3_
 have HR134 := n4_
 have HB := n5_
 clear n0_ n1_ n2_ n3_ n4_ n5_
 (try clear hb)
 (try clear hb2)
 (try clear hk)
 (try clear hi)
 refine hK.out _ _ ⟨(blk_cell BK116.out 0).trans rfl, (blk_cell BK116.out 1).trans rfl⟩ (fun hHeld => ?_)
 clear hK K
 refine nu 71 ?_
 refine pu 12 (some 72) (ba 14 8191) HT_.out ?_
 refine pu 13 (some 4) (ba 14 16383) HT_.out ?_
 refine done_ (done_of HT_.out (by kernel_rfl)) ?_
 try go_wp2
 go_ret
 exact ⟨by first | rfl | (simp [errW_none, errW_some] <;> rfl) | (simp only [← hji45, ← hji50]; first | rfl | (simp [errW_none, errW_some] <;> rfl)) | (simp [*, errW_none, errW_some] <;> rfl), qb HB.out⟩

theorem laws_FnWayOk.walk (P : laws_FnWayOk.Pure) (a0 : Option Addr) (len0 cap0 : Nat) (z0 : List Int) (a1 : Option Addr) (len1 cap1 : Nat) (z1 : List Int) (w : World) (w0 : (a0 = none ∧ len0 = 0 ∧ cap0 = 0 ∧ z0 = []) ∨ ∃ x, a0 = some x ∧ len0 ≤ cap0 ∧ cap0 ≤ maxLen ∧ z0.length = cap0 ∧ (∀ i, i < z0.length → w.cell? (x.add i) = some (.int .u8 (z0.getD i 0))) ∧ ∀ n ∈ z0, (Lit.int .u8 n).wf = true) (y0 : len0 * 1 ≤ 140737488351232) (w1 : (a1 = none ∧ len1 = 0 ∧ cap1 = 0 ∧ z1 = []) ∨ ∃ x, a1 = some x ∧ len1 ≤ cap1 ∧ cap1 ≤ maxLen ∧ z1.length = cap1 ∧ (∀ i, i < z1.length → w.cell? (x.add i) = some (.int .u8 (z1.getD i 0))) ∧ ∀ n ∈ z1, (Lit.int .u8 n).wf = true) (y1 : len1 * 1 ≤ 140737488351232) :
    Calls Try.prog 11 #[.slice a0 len0 cap0, .slice a1 len1 cap1] w fun e w' => e = .returned (.bool true) ∧ Below w.heap.size w w' := by
  obtain ⟨l0, rfl, hr0, hm0, hw0, hc0⟩ := ReadsInt.ofRowC w0
  obtain ⟨l1, rfl, hr1, hm1, hw1, hc1⟩ := ReadsInt.ofRowC w1
  obtain ⟨k, h⟩ := P l0 l1 hm0 y0 hw0 hm1 y1 hw1
  refine (laws_FnWayOk.calls k _ _ l0 _ _ l1 true w (Kd.C_of_reads (d := (0 : Int)) (h1 := fun _ => rfl) hr0) hc0 (Kd.C_of_reads (d := (0 : Int)) (h1 := fun _ => rfl) hr1) hc1 h).mono ?_
  rintro e w' ⟨rfl, hd⟩
  exact ⟨rfl, hd⟩
end Go.Proofs.Ytheoebelhgbejaa.P
