import Derived.Test.YtmfmeenfhdohcaaP0
import Derived.Test.YtmfmeenfhdohcaaP2
import Derived.Test.YtmfmeenfhdohcaaP4
import Derived.Test.YtmfmeenfhdohcaaP5
import Derived.Test.YtmfmeenfhdohcaaP7
namespace Go.Proofs.Ytmfmeenfhdohcaa.P
open Go.RowKit Go.Proofs.YtmfmeenfhdohcaaW.PrintWords Go.Proofs.YtmfmeenfhdohcaaW.PrintLast Go.Proofs.YtmfmeenfhdohcaaW.PrintMore
attribute [local go_sem] max2_int min2_int max_two min_two max_three min_three max_four min_four
set_option linter.unusedVariables false
set_option linter.unusedSimpArgs false
attribute [local go_sem high] eqATie
set_option maxHeartbeats 8000000 in
set_option maxRecDepth 100000 in
theorem spec_l2Has.calls (k : Nat) (A0 : Option Addr) (c0 : Nat) (l0 : List Int) (a1 : Int) (r : Bool) (w : World) (hr0 : Kd.C (Kd.int .i64) w A0 l0.length l0) (hc0 : l0.length ≤ c0) (h : spec_l2Has.f k l0 a1 = some r) :
    Calls Try.prog 58 #[.slice A0 l0.length c0, .int .i64 a1] w fun e w' => e = .returned (.bool r) ∧ Drawn0 w w' := by
 have HR0 := Aside0.mk hr0
 have HC0 := Aside0.mk hc0
 clear hr0 hc0
 have H : (spec_l2Has.l0 k l0 a1 0) = some r := h
 clear h
 have H' := Aside0.mk H
 clear H
 go_enter Try.func58, Try.ntmps58
 go_wp2
 go_loopg [5] k (fun kq v5 w' => ∃ (x5_1 : Int), v5 = .int .i64 x5_1 ∧ Aside0 (spec_l2Has.l0 kq l0 a1 x5_1 = some r) ∧ Aside0 (kq ≤ k) ∧ Drawn0 w w')
 case atStart => exact ⟨(0), qs, H', ⟨Nat.le_refl _⟩, by repeat (first | exact Drawn0.refl _ | apply Drawn0.step)⟩
 clear H'
 try clear p2
 obtain ⟨x5_1, rfl, HA, HK1, ⟨m1, rfl⟩⟩ := hrel
 rcases gk with _ | k1
 · exact absurd HA.out (by simp [spec_l2Has.l0])
 have H := HA.out
 clear HA
 simp only [spec_l2Has.l0] at H
 by_cases c3 : x5_1 < (l0.length : Int)
 rotate_left
 · rw [if_neg c3] at H
   have c3b0 : decide (x5_1 < (l0.length : Int)) = false := decide_eq_false c3
   clear c3
   obtain rfl := Option.some.inj H
   go_wp2
   go_ret
   exact ⟨by first | rfl | (simp; done) | (simp [*]; done), by repeat (first | exact Drawn0.refl _ | apply Drawn0.step)⟩
 rw [if_pos c3] at H
 have c3b0 : decide (x5_1 < (l0.length : Int)) = true := decide_eq_true c3
 clear c3
 by_cases c4 : 0 ≤ x5_1
 rotate_left
 · rw [if_neg c4] at H
   exact absurd H (by simp)
 rw [if_pos c4] at H
 have c4b0 : decide (0 ≤ x5_1) = true := decide_eq_true c4
 clear c4
 by_cases c5 : (rd l0 x5_1) = a1
 · rw [if_pos c5] at H
   have c5b0 : ((rd l0 x5_1) == a1) = true := beq_iff_eq.mpr c5
   have c5b1 : ((rd l0 x5_1) != a1) = false := bne_eq_false_iff_eq.mpr c5
   clear c5
   obtain rfl := Option.some.inj H
   have p100 : 0 ≤ (x5_1 : Int) := of_decide_eq_true qa
   have q100 : x5_1 < (l0.length : Int) := of_decide_eq_true qa
   obtain ⟨ad100, e100, hx100_0⟩ := Kd.at_int HR0.out x5_1 p100 q100
   cases e100
   replace p100 := eq_true p100
   replace q100 := eq_true q100
   go_wp2
   go_ret
   exact ⟨by first | rfl | (simp; done) | (simp [*]; done), by repeat (first | exact Drawn0.refl _ | apply Drawn0.step)⟩
 rw [if_neg c5] at H
 have c5b0 : ((rd l0 x5_1) == a1) = false := beq_eq_false_iff_ne.mpr c5
 have c5b1 : ((rd l0 x5_1) != a1) = true := bne_iff_ne.mpr c5
 have H' := Aside0.mk H
 clear H
 have p100 : 0 ≤ (x5_1 : Int) := of_decide_eq_true qa
 have q100 : x5_1 < (l0.length : Int) := of_decide_eq_true qa
 obtain ⟨ad100, e100, hx100_0⟩ := Kd.at_int HR0.out x5_1 p100 q100
 cases e100
 replace p100 := eq_true p100
 replace q100 := eq_true q100
 go_wp2
 go_roundg k1
 case measure => have := HK1.out; omega
 case rel => exact ⟨(wrap64 (x5_1 + 1)), qs, H', ⟨by have := HK1.out; omega⟩, by repeat (first | exact Drawn0.refl _ | apply Drawn0.step)⟩

def spec_l71Walk.T6 : Bool × List (List Nat × List Nat) := (true, [([], []), ([], []), ([], []), ([2], [2]), ([3], [3]), ([1, 4], [1, 4]), ([5], [5]), ([0, 6], [0, 6])])
def spec_l71Walk.B6 : List Nat := [0, 0, 0, 4, 12, 30, 62, 127]
theorem spec_l71Walk.tab6 : rtab .any (opsOf Try.f54 6) = spec_l71Walk.T6 := by kernel_rfl
theorem spec_l71Walk.bits6 : waitsOk spec_l71Walk.T6.2 spec_l71Walk.B6 = true := by kernel_rfl
def spec_l71Walk.T7 : Bool × List (List Nat × List Nat) := (true, [([], []), ([], []), ([], []), ([2], [2]), ([3], [3]), ([1, 4], [1, 4]), ([5], [5]), ([0, 6], [0, 6]), ([7, 7, 0, 1, 2, 3, 4, 5, 6, 7], [7])])
def spec_l71Walk.B7 : List Nat := [0, 0, 0, 4, 12, 30, 62, 127, 255]
theorem spec_l71Walk.tab7 : rtab .any (opsOf Try.f54 7) = spec_l71Walk.T7 := by kernel_rfl
theorem spec_l71Walk.bits7 : waitsOk spec_l71Walk.T7.2 spec_l71Walk.B7 = true := by kernel_rfl
set_option maxHeartbeats 8000000 in
set_option maxRecDepth 100000 in
theorem spec_l71Walk.calls (k : Nat) (g : Nat) (s0_0 : List Int) (s0_1 : Int) (a1_0 : Int) (A1_1 : Option Addr) (c1_1 : Nat) (l1_1 : List (STie)) (r1 : List Int) (r2 : Int) (w0 w : World) (hI : IsSRd w0 w g s0_0 s0_1) (hB : Below w0.heap.size w0 w) (hr1_1 : ∀ W_, KeepBut w W_ g none → Kd.C kTie W_ A1_1 l1_1.length l1_1) (hc1_1 : l1_1.length ≤ c1_1) (h : spec_l71Walk.f k s0_0 s0_1 a1_0 l1_1 = some (r1, r2)) :
    Calls Try.prog 54 #[.pointer (some ⟨g, 0, none⟩), .agg #[.int .i64 a1_0, .slice A1_1 l1_1.length c1_1]] w fun e w' => ∃ v0_ : Value, e = .returned (v0_) ∧ Kd.R (Kd.int .i64) 3 w' w.heap.size (fun _ => True) v0_ r1 ∧ IsSRd w0 w' g s0_0 r2 ∧ Below w0.heap.size w0 w' ∧ KeepBut w w' g none := by
 have hu31 := Try.underlying31
 have HR1_1 := Aside0.mk hr1_1
 have HC1_1 := Aside0.mk hc1_1
 clear hr1_1 hc1_1
 have HI0 := Aside0.mk hI
 have HK := q0 (KeepBut.refl w g none)
 have HL := Aside0.mk hB.size
 clear hI
 have HW0 := Aside0.mk hB.size
 have HB := Aside0.mk hB
 clear hB
 have H : ((spec_l71Knot.f k s0_0 s0_1 a1_0 l1_1).bind fun bt105 => ((spec_l6Rd_pick.f k s0_0 bt105.2 7).bind fun bt111 => (spec_l71Walk.l0 k (([bt105.1] : List Int)) bt111.1 s0_0 bt111.2 a1_0 l1_1))) = some (r1, r2) := h
 clear h
 replace H := Option.bind_eq_some_iff.mp H
 obtain ⟨⟨t105, t112⟩, A30, H⟩ := H
 have A3 := Aside0.mk A30
 clear A30
 obtain ⟨y113, hy113⟩ : ∃ y_ : List Int, y_ = (([t105] : List Int)) := ⟨_, rfl⟩
 replace H : ((spec_l6Rd_pick.f k s0_0 t112 7).bind fun bt111 => (spec_l71Walk.l0 k y113 bt111.1 s0_0 bt111.2 a1_0 l1_1)) = some (r1, r2) := qy H hy113
 have Ny113 := Aside0.mk hy113
 clear hy113
 replace H := Option.bind_eq_some_iff.mp H
 obtain ⟨⟨t111, t114⟩, A40, H⟩ := H
 have A4 := Aside0.mk A40
 clear A40
 have HC5 := Aside0.mk H
 clear H
 go_enter Try.func54, Try.ntmps54
 go_upto_block 0 with (first | ((with_reducible refine gate_dst (N := 3) rfl ?_); refine be 3 #[.int .i64 a1_0, .slice A1_1 l1_1.length c1_1] 31 ?_; intro gb115 hg w6 hbox hb; replace HB := q0 (below_step (qj HB.out HI0.out) hb); have BK115 := q0 (hbox); have GW115 := q0 ((by rw [hg]; exact (keep_size (w := w) (g := g) (row := none) (qh HK.out)) : w.heap.size ≤ gb115)); have GE115 := q0 ((Nat.le_trans HW0.out (by rw [hg]; exact (keep_size (w := w) (g := g) (row := none) (qh HK.out)) : w.heap.size ≤ gb115) : w0.heap.size ≤ gb115)); replace HK := q0 (KeepBut.trans (qh HK.out) (KeepBut.of_below hb g none) (.inl rfl)); have NB0_115 := q0 ((by rw [hg]; exact Nat.ne_of_lt (IsSRd.lt (show IsSRd w0 _ g s0_0 s0_1 from qi HI0.out)) : g ≠ gb115)); have NB115_0 := q0 ((by rw [hg]; exact Nat.ne_of_gt (IsSRd.lt (show IsSRd w0 _ g s0_0 s0_1 from qi HI0.out)) : gb115 ≠ g)); replace HI0 := q0 (IsSRd.below (qi HI0.out) hb); clear hb hbox hg; have hnb7 := NB115_0.out; have hnc7 := NB0_115.out; have hcz8_0 : w6.cell? ⟨gb115, 0, none⟩ = some (.int .i64 a1_0) := (blk_cell BK115.out 0).trans rfl; have hcz8_1 : w6.cell? ⟨gb115, 1, none⟩ = some (.slice A1_1 l1_1.length c1_1) := (blk_cell BK115.out 1).trans rfl; have hfz8_0 := blk_frozen BK115.out 0; have hfz8_1 := blk_frozen BK115.out 1) | ((with_reducible refine gate_callee (f := 72) rfl ?_); refine gl 11 Try.func72 #[.pointer (some ⟨g, 0, none⟩), .agg #[.int .i64 a1_0, .slice A1_1 l1_1.length c1_1]] ?_; (with_reducible refine (spec_l71Knot.calls k g s0_0 s0_1 a1_0 _ _ l1_1 t105 t112 w0 _ ?side1 ?side2 ?side3 ?side4 A3.out).mono ?_); (case side1 => exact qi HI0.out); (case side2 => exact qj HB.out HI0.out); (case side3 => exact Kd.C_foot_step HR1_1.out (qh HK.out)); (case side4 => exact HC1_1.out); rintro e w9 ⟨rfl, hi, hb, hk⟩; refine ⟨_, rfl, ?_⟩; replace BK115 := q0 (kc hk BK115.out NB115_0.out); replace HK := q0 (KeepBut.trans (qh HK.out) hk (.inl rfl)); replace HB := q0 (hb); replace HI0 := q0 (hi); (try clear hb); (try clear hb2); (try clear hk); (try clear hi)) | ((with_reducible refine gate_dst (N := 12) rfl ?_); refine Kd.R_lit (Kd.int .i64) _ 3 ?hg (N := 12) ?hd (xs := ([t105] : List Int)) (inner := [.int .i64 t105]) (ok := fun _ => True) (okp := fun _ => True) ?hr ?hp (fun _ hk => hk) trivial (Below.refl _ _) (Nat.le_refl _) (by simp) ?_; (case hd => rfl); (case hg => rfl); (case hr => first | (go_simp; done) | (go_simp; rfl)); (case hp => exact (Reps.one (show Kd.M (Kd.int .i64) _ _ _ t105 [.int .i64 t105] from rfl) (Reps.none _ _))); intro v116 w10 ho11 hb hg_ hnew_; clear hg_ hnew_; (first | rw [← Ny113.out] at ho11 | (simp only [Int.reduceToNat] at ho11; rw [← Ny113.out] at ho11)); have HO117 := q0 (Kd.R_lower ho11 (keep_size (w := w) (g := g) (row := none) (qh HK.out))); replace BK115 := q0 (kb BK115.out hb); replace HK := q0 (KeepBut.trans (qh HK.out) (KeepBut.of_below hb g none) (.inl rfl)); replace HB := q0 (below_step (qj HB.out HI0.out) hb); replace HI0 := q0 (IsSRd.below (qi HI0.out) hb); clear hb ho11) | ((with_reducible refine gate_callee (f := 73) rfl ?_); refine gl 14 Try.func73 #[.pointer (some ⟨g, 0, none⟩), .int .i64 7] ?_; (with_reducible refine (spec_l6Rd_pick.calls k g s0_0 t112 7 t111 t114 w0 _ ?side1 ?side2 A4.out).mono ?_); (case side1 => exact qi HI0.out); (case side2 => exact qj HB.out HI0.out); rintro e w12 ⟨rfl, hi, hb, hk⟩; refine ⟨_, rfl, ?_⟩; replace BK115 := q0 (kc hk BK115.out NB115_0.out); replace HO117 := q0 (Kd.R_mono (Kd.R_keep (IsSRd.apart (show IsSRd w0 _ g s0_0 t112 from qi HI0.out) (qr HO117.out) (by decide)) hk (fun _ h => h.2)) (fun _ h => h.1)); replace HK := q0 (KeepBut.trans (qh HK.out) hk (.inl rfl)); replace HB := q0 (hb); replace HI0 := q0 (hi); (try clear hb); (try clear hb2); (try clear hk); (try clear hi)))
 (try simp only [Act.put, List.setIfInBounds_toArray, List.set_cons_zero, List.set_cons_succ])
 go_cut [5] (fun v5 wc => ∃ (kq : Nat) (x5_4 : List Int) (x101_4 : Int), Aside0 (spec_l71Walk.j2 kq x5_4 s0_0 x101_4 = some (r1, r2)) ∧ Aside0 (kq ≤ k) ∧ Aside0 (Kd.R (Kd.int .i64) 3 wc w.heap.size (fun _ => True) v5 x5_4) ∧ Aside0 (wc.heap[gb115]? = some (.cells #[.int .i64 a1_0, (.slice A1_1 l1_1.length c1_1)] 31 (0, 0))) ∧ Aside0 (IsSRd w0 wc g s0_0 x101_4) ∧ Aside0 (KeepBut w wc g none) ∧ Aside0 (Below w0.heap.size w0 wc))
 case first =>
   have H := HC5.out
   clear HC5
   have H' := Aside0.mk H
   clear H
   go_wp2
   go_loopg [5, 6] k (fun kq v5 v6 w' => ∃ (x5_1 : List Int) (x6_1 : Int) (x101_1 : Int), v6 = .int .i64 x6_1 ∧ Aside0 (spec_l71Walk.l0 kq x5_1 x6_1 s0_0 x101_1 a1_0 l1_1 = some (r1, r2)) ∧ Aside0 (kq ≤ k) ∧ Aside0 (Kd.R (Kd.int .i64) 3 w' w.heap.size (fun _ => True) v5 x5_1) ∧ Aside0 (w'.heap[gb115]? = some (.cells #[.int .i64 a1_0, (.slice A1_1 l1_1.length c1_1)] 31 (0, 0))) ∧ Aside0 (IsSRd w0 w' g s0_0 x101_1) ∧ Aside0 (KeepBut w w' g none) ∧ Aside0 (Below w0.heap.size w0 w'))
   case atStart => exact ⟨(y113), (t111), (t114), qs, H', ⟨Nat.le_refl _⟩, ⟨qr HO117.out⟩, ⟨qk BK115.out⟩, ⟨qi HI0.out⟩, ⟨qh HK.out⟩, ⟨qj HB.out HI0.out⟩⟩
   clear H'
   try clear c1
   try clear p2
   try clear c5
   try clear c7
   try clear hcz8_0
   try clear hcz8_1
   try clear hfz8_0
   try clear hfz8_1
   obtain ⟨x5_1, x6_1, x101_1, rfl, HA, HK1, HO_5, BK115, HI0, HK, HB⟩ := hrel
   rcases gk with _ | k1
   · exact absurd HA.out (by simp [spec_l71Walk.l0])
   have H := HA.out
   clear HA
   simp only [spec_l71Walk.l0] at H
   by_cases c13 : x6_1 > 0
   rotate_left
   · rw [if_neg c13] at H
     have c13b0 : decide (0 < x6_1) = false := decide_eq_false c13
     clear c13
     (first | rw [c13b0] | (simp only [i64_w, i32_w]; rw [c13b0]) | skip)
     have H' := Aside0.mk H
     clear H
     go_wp2
     go_meet
     case rel => exact ⟨_, (x5_1), (x101_1), H', ⟨by have := HK1.out; first | omega | exact Nat.le_refl _⟩, ⟨qr HO_5.out⟩, ⟨qk BK115.out⟩, ⟨qi HI0.out⟩, ⟨qh HK.out⟩, ⟨qj HB.out HI0.out⟩⟩
   rw [if_pos c13] at H
   have c13b0 : decide (0 < x6_1) = true := decide_eq_true c13
   clear c13
   (first | rw [c13b0] | (simp only [i64_w, i32_w]; rw [c13b0]) | skip)
   obtain ⟨y118, hy118⟩ : ∃ y_ : List Int, y_ = (([] : List Int)) := ⟨_, rfl⟩
   replace H : (if 0 ≤ (wrap64 ((x5_1.length : Int) - 1)) then (if (wrap64 ((x5_1.length : Int) - 1)) < (x5_1.length : Int) then ((spec_l1Knot.f k1 a1_0 l1_1 (rd x5_1 (wrap64 ((x5_1.length : Int) - 1)))).bind fun t106 => (if t106 = true then ((spec_l2Next.f k1 a1_0 l1_1 (rd x5_1 (wrap64 ((x5_1.length : Int) - 1)))).bind fun t107 => (spec_l71Walk.j1 k1 x5_1 x6_1 t107 s0_0 x101_1 a1_0 l1_1)) else (spec_l71Walk.j1 k1 x5_1 x6_1 y118 s0_0 x101_1 a1_0 l1_1))) else (none)) else (none)) = some (r1, r2) := qy H hy118
   have Ny118 := Aside0.mk hy118
   clear hy118
   obtain ⟨ji14, hji14⟩ : ∃ j_ : Int, (wrap64 ((x5_1.length : Int) - 1)) = j_ := ⟨_, rfl⟩
   replace H : (if 0 ≤ (ji14) then (if (ji14) < (x5_1.length : Int) then ((spec_l1Knot.f k1 a1_0 l1_1 (rd x5_1 (ji14))).bind fun t106 => (if t106 = true then ((spec_l2Next.f k1 a1_0 l1_1 (rd x5_1 (ji14))).bind fun t107 => (spec_l71Walk.j1 k1 x5_1 x6_1 t107 s0_0 x101_1 a1_0 l1_1)) else (spec_l71Walk.j1 k1 x5_1 x6_1 y118 s0_0 x101_1 a1_0 l1_1))) else (none)) else (none)) = some (r1, r2) := by first | (rw [hji14] at H; exact H) | (simp only [hji14] at H ⊢; exact H)
   have hji14w : (IntKind.i64.wrap ((x5_1.length : Int) - 1)) = ji14 := (i64_w _).trans hji14
   by_cases c15 : 0 ≤ (ji14)
   rotate_left
   · rw [if_neg c15] at H
     exact absurd H (by simp)
   rw [if_pos c15] at H
   have c15b0 : decide (0 ≤ (ji14)) = true := decide_eq_true c15
   clear c15
   by_cases c16 : (ji14) < (x5_1.length : Int)
   rotate_left
   · rw [if_neg c16] at H
     exact absurd H (by simp)
   rw [if_pos c16] at H
   have c16b0 : decide ((ji14) < (x5_1.length : Int)) = true := decide_eq_true c16
   clear c16
   replace H := Option.bind_eq_some_iff.mp H
   obtain ⟨t106, A119, H⟩ := H
   have A17 := Aside0.mk A119
   clear A119
   have HC18 := Aside0.mk H
   clear H
   try go_wp2_with (first | ((with_reducible refine gate_dst (N := 19) rfl ?_); refine Kd.R_lit (Kd.int .i64) _ 3 ?hg (N := 19) ?hd (xs := ([] : List Int)) (inner := []) (ok := fun _ => True) (okp := fun _ => True) ?hr ?hp (fun _ hk => hk) trivial (Below.refl _ _) (Nat.le_refl _) (by simp) ?_; (case hd => rfl); (case hg => rfl); (case hr => first | (go_simp; done) | (go_simp; rfl)); (case hp => exact (Reps.none _ _)); intro v120 w19 ho20 hb hg_ hnew_; clear hg_ hnew_; (first | rw [← Ny118.out] at ho20 | (simp only [Int.reduceToNat] at ho20; rw [← Ny118.out] at ho20)); have HO121 := q0 (Kd.R_lower (Kd.R_new' ho20 (Kd.R_lt (qr HO_5.out))) (keep_size (w := w) (g := g) (row := none) (qh HK.out))); replace HO_5 := q0 (Kd.R_elder' (qr HO_5.out) (Kd.R_base ho20) hb); replace BK115 := q0 (kb BK115.out hb); replace HK := q0 (KeepBut.trans (qh HK.out) (KeepBut.of_below hb g none) (.inl rfl)); replace HB := q0 (below_step (qj HB.out HI0.out) hb); replace HI0 := q0 (IsSRd.below (qi HI0.out) hb); clear hb ho20))
   replace HO_5 := q0 (Kd.R_drew HO_5.out)
   replace HO121 := q0 (Kd.R_drew HO121.out)
   replace BK115 := q0 (blk_drew BK115.out)
   replace HI0 := q0 (IsSRd.drew HI0.out)
   replace HK := q0 (keep_drew HK.out)
   replace HB := q0 (below_drew1 HB.out)
   obtain ⟨Ao22, co22, eo22⟩ := Kd.R_slice HO_5.out
   (first | subst eo22 | (injection eo22 with f1_ f2_ f3_; have f4_ := f1_.symm; have f5_ := f3_.symm; clear f1_ f2_ f3_; subst f4_; subst f5_))
   have p122 : 0 ≤ ((ji14) : Int) := of_decide_eq_true qa
   have q122 : (ji14) < (x5_1.length : Int) := of_decide_eq_true qa
   obtain ⟨ad122, e122, hx122_0⟩ := Kd.at_int (Kd.R_reads' HO_5.out).2.2 (ji14) p122 q122
   cases e122
   replace p122 := eq_true p122
   replace q122 := eq_true q122
   refine start_ (n := 8) (S := fun w' => w'.cell? ⟨gb115, 0, none⟩ = some (.int .i64 a1_0) ∧ w'.cell? ⟨gb115, 1, none⟩ = some (.slice A1_1 l1_1.length c1_1) ∧ w'.cell? (ad122.add ((ji14)).toNat) = some (.int .i64 (rd x5_1 (ji14)))) (ds := []) (ba 8 0) (by kernel_rfl) rfl (by kernel_rfl) ⟨(blk_cell BK115.out 0).trans rfl, (blk_cell BK115.out 1).trans rfl, hx122_0⟩ (fun hHeld => ?_); refine with_tabW spec_l71Walk.tab6 spec_l71Walk.bits6 (fun HT_ HW_ => ?_)
   generalize w19.drew = w21 at HO_5 HO121 BK115 HI0 HK HB hx122_0 hHeld ⊢
   refine pu 1 (some 21) (ba 8 2) HT_.out ?_
   refine pu 2 (some 22) (ba 8 6) HT_.out ?_
   refine pu 3 (some 23) (ba 8 14) HT_.out ?_
   refine pu 4 (some 24) (ba 8 30) HT_.out ?_
   refine pu 5 (some 25) (ba 8 62) HT_.out ?_
   refine tu 0 (some 20) (ba 8 63) HT_.out HW_.out hHeld ?_
   refine tu 6 (some 26) (ba 8 127) HT_.out HW_.out hHeld ?_
   refine one_ (i := 7) (N := some 27) (ba 8 255) rfl rfl (one_of HT_.out (by kernel_rfl)) (by decide) (fun K hK => ?_)
   refine goes_ Try.func40 (by kernel_rfl) rfl #[.agg #[.int .i64 a1_0, .slice A1_1 l1_1.length c1_1], .int .i64 (rd x5_1 (ji14))] (by rfl) rfl rfl (by (try simp only [List.map_toArray, List.map_cons, List.map_nil]); first | done | (simp only [hji14]; rfl) | rfl | (simp only [List.length_drop, List.length_take]; rfl)) ?_
   with_reducible refine (spec_l1Knot.calls k1 a1_0 _ _ l1_1 (rd x5_1 (ji14)) t106 _ ?side1 ?side2 A17.out).mono ?_
   (case side1 => exact Kd.C_foot_now HR1_1.out (qh HK.out))
   (case side2 => exact HC1_1.out)
   rintro e w23 ⟨rfl, hb⟩
   have HS2_ := (hb.cell (World.block_lt_of_cell? _ _ (hHeld.2.2))).trans (hHeld.2.2)
   refine ⟨_, rfl, ?_⟩
   replace HO_5 := q0 (Kd.R_below (qr HO_5.out) hb)
   replace HO121 := q0 (Kd.R_below (qr HO121.out) hb)
   replace BK115 := q0 (kb BK115.out hb)
   replace HK := q0 (KeepBut.trans (qh HK.out) (KeepBut.of_below hb g none) (.inl rfl))
   replace HB := q0 (below_step (qj HB.out HI0.out) hb)
   replace HI0 := q0 (IsSRd.below (qi HI0.out) hb)
   (try clear hb)
   (try clear hb2)
   (try clear hk)
   (try clear hi)
   refine hK.out _ _ ⟨(blk_cell BK115.out 0).trans rfl, (blk_cell BK115.out 1).trans rfl, HS2_⟩ (fun hHeld => ?_)
   clear hK K
   refine nu 27 ?_
   refine done_ (done_of HT_.out (by kernel_rfl)) ?_
   go_upto_if 27 with (fail)
   go_cut [7] (fun v7 wc => ∃ (kq : Nat) (x7_17 : List Int), Aside0 (spec_l71Walk.j1 kq x5_1 x6_1 x7_17 s0_0 x101_1 a1_0 l1_1 = some (r1, r2)) ∧ Aside0 (kq ≤ k1) ∧ Aside0 (Kd.R (Kd.int .i64) 3 wc w.heap.size (fun k_ => some k_ ≠ (v7 : Value).ownBlock) (.slice (some ad122) x5_1.length co22) x5_1) ∧ Aside0 (Kd.R (Kd.int .i64) 3 wc w.heap.size (fun k_ => some k_ ≠ ((.slice (some ad122) x5_1.length co22) : Value).ownBlock) v7 x7_17) ∧ Aside0 (wc.heap[gb115]? = some (.cells #[.int .i64 a1_0, (.slice A1_1 l1_1.length c1_1)] 31 (0, 0))) ∧ Aside0 (IsSRd w0 wc g s0_0 x101_1) ∧ Aside0 (KeepBut w wc g none) ∧ Aside0 (Below w0.heap.size w0 wc))
   case first =>
     have H := HC18.out
     clear HC18
     by_cases c24 : t106 = true
     rotate_left
     · replace c24 := Bool.eq_false_iff.mpr c24
       subst c24
       rw [if_neg nf] at H
       have H' := Aside0.mk H
       clear H
       go_wp2
       go_meet
       case rel => exact ⟨_, (y118), H', ⟨by have := HK1.out; first | omega | exact Nat.le_refl _⟩, ⟨by (with_reducible repeat (first | apply Kd.R_alloc | apply Kd.R_drewN | apply Kd.R_drew)); exact Kd.R_mono HO_5.out (fun _ hk => hk.2)⟩, ⟨by (with_reducible repeat (first | apply Kd.R_alloc | apply Kd.R_drewN | apply Kd.R_drew)); exact Kd.R_mono HO121.out (fun _ hk => hk.2)⟩, ⟨qk BK115.out⟩, ⟨qi HI0.out⟩, ⟨qh HK.out⟩, ⟨qj HB.out HI0.out⟩⟩
     subst c24
     rw [if_pos rfl] at H
     replace H := Option.bind_eq_some_iff.mp H
     obtain ⟨t107, A123, H⟩ := H
     have A25 := Aside0.mk A123
     clear A123
     have H' := Aside0.mk H
     clear H
     try go_wp2
     replace HO_5 := q0 (Kd.R_drew HO_5.out)
     replace HO121 := q0 (Kd.R_drew HO121.out)
     replace BK115 := q0 (blk_drew BK115.out)
     replace HI0 := q0 (IsSRd.drew HI0.out)
     replace HK := q0 (keep_drew HK.out)
     replace HB := q0 (below_drew1 HB.out)
     have p124 : 0 ≤ ((ji14) : Int) := of_decide_eq_true qa
     have q124 : (ji14) < (x5_1.length : Int) := of_decide_eq_true qa
     obtain ⟨ad124, e124, hx124_0⟩ := Kd.at_int (Kd.R_reads' HO_5.out).2.2 (ji14) p124 q124
     obtain rfl : ad122 = ad124 := (by injection e124)
     replace p124 := eq_true p124
     replace q124 := eq_true q124
     refine start_ (n := 9) (S := fun w' => w'.cell? ⟨gb115, 0, none⟩ = some (.int .i64 a1_0) ∧ w'.cell? ⟨gb115, 1, none⟩ = some (.slice A1_1 l1_1.length c1_1) ∧ w'.cell? (ad122.add ((ji14)).toNat) = some (.int .i64 (rd x5_1 (ji14)))) (ds := []) (ba 9 0) (by kernel_rfl) rfl (by kernel_rfl) ⟨(blk_cell BK115.out 0).trans rfl, (blk_cell BK115.out 1).trans rfl, hx124_0⟩ (fun hHeld => ?_); refine with_tabW spec_l71Walk.tab7 spec_l71Walk.bits7 (fun HT_ HW_ => ?_)
     generalize w23.drew = w26 at HO_5 HO121 BK115 HI0 HK HB hx124_0 hHeld ⊢
     refine pu 1 (some 29) (ba 9 2) HT_.out ?_
     refine pu 2 (some 30) (ba 9 6) HT_.out ?_
     refine pu 3 (some 31) (ba 9 14) HT_.out ?_
     refine pu 4 (some 32) (ba 9 30) HT_.out ?_
     refine pu 5 (some 33) (ba 9 62) HT_.out ?_
     refine tu 0 (some 28) (ba 9 63) HT_.out HW_.out hHeld ?_
     refine tu 6 (some 34) (ba 9 127) HT_.out HW_.out hHeld ?_
     refine one_ (i := 7) (N := some 35) (ba 9 255) rfl rfl (one_of HT_.out (by kernel_rfl)) (by decide) (fun K hK => ?_)
     refine goes_ Try.func42 (by kernel_rfl) rfl #[.agg #[.int .i64 a1_0, .slice A1_1 l1_1.length c1_1], .int .i64 (rd x5_1 (ji14))] (by rfl) rfl rfl (by (try simp only [List.map_toArray, List.map_cons, List.map_nil]); first | done | (simp only [hji14]; rfl) | rfl | (simp only [List.length_drop, List.length_take]; rfl)) ?_
     with_reducible refine (spec_l2Next.calls k1 a1_0 _ _ l1_1 (rd x5_1 (ji14)) t107 _ ?side1 ?side2 A25.out).mono ?_
     (case side1 => exact Kd.C_foot_now HR1_1.out (qh HK.out))
     (case side2 => exact HC1_1.out)
     rintro e w27 ⟨v125, rfl, ho0, hb⟩
     have HS2_ := (hb.cell (World.block_lt_of_cell? _ _ (hHeld.2.2))).trans (hHeld.2.2)
     refine ⟨_, rfl, ?_⟩
     have HO126 := q0 (Kd.R_lower (Kd.R_new' (Kd.R_new' ho0 (Kd.R_lt (qr HO_5.out))) (Kd.R_lt (qr HO121.out))) (keep_size (w := w) (g := g) (row := none) (qh HK.out)))
     replace HO_5 := q0 (Kd.R_elder' (qr HO_5.out) (Kd.R_base ho0) hb)
     replace HO121 := q0 (Kd.R_elder' (qr HO121.out) (Kd.R_base ho0) hb)
     replace BK115 := q0 (kb BK115.out hb)
     replace HK := q0 (KeepBut.trans (qh HK.out) (KeepBut.of_below hb g none) (.inl rfl))
     replace HB := q0 (below_step (qj HB.out HI0.out) hb)
     replace HI0 := q0 (IsSRd.below (qi HI0.out) hb)
     (try clear hb)
     (try clear hb2)
     (try clear hk)
     (try clear hi)
     (try clear ho0)
     refine hK.out _ _ ⟨(blk_cell BK115.out 0).trans rfl, (blk_cell BK115.out 1).trans rfl, HS2_⟩ (fun hHeld => ?_)
     clear hK K
     refine nu 35 ?_
     refine pu 8 (some 7) (ba 9 511) HT_.out ?_
     refine done_ (done_of HT_.out (by kernel_rfl)) ?_
     try go_wp2
     go_meet
     case rel => exact ⟨_, (t107), H', ⟨by have := HK1.out; first | omega | exact Nat.le_refl _⟩, ⟨by (with_reducible repeat (first | apply Kd.R_alloc | apply Kd.R_drewN | apply Kd.R_drew)); exact Kd.R_mono HO_5.out (fun _ hk => hk.2)⟩, ⟨by (with_reducible repeat (first | apply Kd.R_alloc | apply Kd.R_drewN | apply Kd.R_drew)); exact Kd.R_mono HO126.out (fun _ hk => hk.1.2)⟩, ⟨qk BK115.out⟩, ⟨qi HI0.out⟩, ⟨qh HK.out⟩, ⟨qj HB.out HI0.out⟩⟩
   clear HC18
   try clear c1
   try clear c2
   try clear p2
   try clear c4
   try clear c5
   try clear p6
   try clear q6
   try clear hx6
   try clear c7
   try clear c13
   try clear c13b0
   try clear c15
   try clear c15b0
   try clear c16
   try clear c16b0
   try clear c24
   try clear hcz8_0
   try clear hcz8_1
   try clear hfz8_0
   try clear hfz8_1
   try clear hx122_0
   try clear hx124_0
   try clear p2
   try clear p122
   try clear p124
   try clear q122
   try clear q124
   obtain ⟨kq, x7_17, HA, HJ17, HO_5, HO_7, BK115, HI0, HK, HB⟩ := hcut
   rcases kq with _ | kj17
   · exact absurd HA.out (by simp [spec_l71Walk.j1])
   have H := HA.out
   clear HA
   simp only [spec_l71Walk.j1] at H
   by_cases c28 : (x7_17.length : Int) = 0
   · rw [if_pos c28] at H
     have c28b0 : ((x7_17.length : Int) == 0) = true := beq_iff_eq.mpr c28
     have c28b1 : ((x7_17.length : Int) != 0) = false := bne_eq_false_iff_eq.mpr c28
     clear c28
     have H' := Aside0.mk H
     clear H
     obtain ⟨Ao29, co29, eo29⟩ := Kd.R_slice HO_7.out
     subst eo29
     go_wp2
     go_meet
     case rel => exact ⟨_, (x5_1), (x101_1), H', ⟨by have := HK1.out; have := HJ17.out; first | omega | exact Nat.le_refl _⟩, ⟨by (with_reducible repeat (first | apply Kd.R_alloc | apply Kd.R_drewN | apply Kd.R_drew)); exact Kd.R_mono HO_5.out (fun _ hk => trivial)⟩, ⟨qk BK115.out⟩, ⟨qi HI0.out⟩, ⟨qh HK.out⟩, ⟨qj HB.out HI0.out⟩⟩
   rw [if_neg c28] at H
   have c28b0 : ((x7_17.length : Int) == 0) = false := beq_eq_false_iff_ne.mpr c28
   have c28b1 : ((x7_17.length : Int) != 0) = true := bne_iff_ne.mpr c28
   have c28b2 : ¬ (x7_17 = []) := fun h_ => c28 (by rw [h_]; rfl)
   replace H := Option.bind_eq_some_iff.mp H
   obtain ⟨⟨t108, t127⟩, A128, H⟩ := H
   have A30 := Aside0.mk A128
   clear A128
   by_cases c31 : 0 ≤ t108
   rotate_left
   · rw [if_neg c31] at H
     exact absurd H (by simp)
   rw [if_pos c31] at H
   have c31b0 : decide (0 ≤ t108) = true := decide_eq_true c31
   clear c31
   by_cases c32 : t108 < (x7_17.length : Int)
   rotate_left
   · rw [if_neg c32] at H
     exact absurd H (by simp)
   rw [if_pos c32] at H
   have c32b0 : decide (t108 < (x7_17.length : Int)) = true := decide_eq_true c32
   clear c32
   replace H := Option.bind_eq_some_iff.mp H
   obtain ⟨t109, A129, H⟩ := H
   have A33 := Aside0.mk A129
   clear A129
   by_cases c34 : t109 = true
   rotate_left
   · replace c34 := Bool.eq_false_iff.mpr c34
     subst c34
     rw [if_neg nf] at H
     by_cases c45 : x5_1.length < 17592186044416
     rotate_left
     · rw [if_neg c45] at H
       exact absurd H (by simp)
     rw [if_pos c45] at H
     have LMc45 := Aside0.mk c45
     clear c45
     obtain ⟨y136, hy136⟩ : ∃ y_ : List Int, y_ = (x5_1 ++ [rd x7_17 t108]) := ⟨_, rfl⟩
     replace H : (spec_l71Walk.l0 kj17 y136 (wrap64 (x6_1 - 1)) s0_0 t127 a1_0 l1_1) = some (r1, r2) := qy H hy136
     have Ny136 := Aside0.mk hy136
     clear hy136
     have H' := Aside0.mk H
     clear H
     obtain ⟨Ao46, co46, eo46⟩ := Kd.R_slice HO_7.out
     subst eo46
     go_wp2_with (first | ((with_reducible refine gate_callee (f := 73) rfl ?_); refine gl 43 Try.func73 #[.pointer (some ⟨g, 0, none⟩), .int .i64 (x7_17.length : Int)] ?_; (with_reducible refine (spec_l6Rd_pick.calls kj17 g s0_0 x101_1 (x7_17.length : Int) t108 t127 w0 _ ?side1 ?side2 A30.out).mono ?_); (case side1 => exact qi HI0.out); (case side2 => exact qj HB.out HI0.out); rintro e w47 ⟨rfl, hi, hb, hk⟩; refine ⟨_, rfl, ?_⟩; replace HO_5 := q0 (Kd.R_mono (Kd.R_keep (IsSRd.apart (show IsSRd w0 _ g s0_0 x101_1 from qi HI0.out) (qr HO_5.out) (by decide)) hk (fun _ h => h.2)) (fun _ h => h.1)); replace HO_7 := q0 (Kd.R_mono (Kd.R_keep (IsSRd.apart (show IsSRd w0 _ g s0_0 x101_1 from qi HI0.out) (qr HO_7.out) (by decide)) hk (fun _ h => h.2)) (fun _ h => h.1)); replace BK115 := q0 (kc hk BK115.out NB115_0.out); replace HK := q0 (KeepBut.trans (qh HK.out) hk (.inl rfl)); replace HB := q0 (hb); replace HI0 := q0 (hi); (try clear hb); (try clear hb2); (try clear hk); (try clear hi); have p132 : 0 ≤ (t108 : Int) := of_decide_eq_true qa; have q132 : t108 < (x7_17.length : Int) := of_decide_eq_true qa; obtain ⟨ad132, e132, hx132_0⟩ := Kd.at_int (Kd.R_reads' HO_7.out).2.2 t108 p132 q132; cases e132; replace p132 := eq_true p132; replace q132 := eq_true q132) | ((with_reducible refine gate_callee (f := 58) rfl ?_); refine gl 48 Try.func58 #[.slice (some ad122) x5_1.length co22, .int .i64 (rd x7_17 t108)] ?_; (with_reducible refine (spec_l2Has.calls kj17 _ _ x5_1 (rd x7_17 t108) false _ ?side1 ?side2 A33.out).mono ?_); (case side1 => exact qc (Kd.R_reads' HO_5.out).2.2); (case side2 => exact (Kd.R_reads' HO_5.out).2.1); rintro e w' ⟨rfl, ⟨nd, rfl⟩⟩; refine ⟨_, rfl, ?_⟩) | ((with_reducible refine gate_builtin (b := .append) (xs := #[.tmp 54, .tmp 56]) rfl ?_); at_builtin; refine Kd.R_append (Kd.int .i64) w.heap.size rfl (.tmp 54) (.tmp 56) 26 3 (.int .i64 0) 8 rfl Try.underlying26 info3 rfl (by decide) (by omega) (.slice (some ad122) x5_1.length co22) x5_1 (rd x7_17 t108) [.int .i64 (rd x7_17 t108)] (fun k_ => some k_ ≠ (.slice (some ad132) x7_17.length co46 : Value).ownBlock) (fun _ => False) rfl rfl ?aP (fun _ hk => hk.elim) ?aF ?aO (Below.refl _ _) ?aS ?aL ?_; (case aP => exact rfl); (case aF => exact (fun k_ hk => Kd.fresh' (Kd.R_lt (qr HO_7.out)) k_ hk)); (case aO => exact (qr HO_5.out)); (case aS => exact (keep_size (w := w) (g := g) (row := none) (qh HK.out))); (case aL => have := LMc45.out; omega); intro v137 w48 ho hb hg hat; rw [← Ny136.out] at ho; replace HO_7 := q0 (Kd.R_after (ok := (fun _ => True)) (by (with_reducible repeat (first | apply Kd.R_alloc | apply Kd.R_drewN | apply Kd.R_drew)); exact Kd.R_mono HO_7.out (fun _ hk => ⟨trivial, hk⟩)) hg hat); replace BK115 := q0 (blk_grown (g := gb115) (o := .cells #[.int .i64 a1_0, .slice A1_1 l1_1.length c1_1] 31 (0, 0)) (qk BK115.out) hg (Kd.R_ne HO_5.out BK115.out (by decide))); replace HB := q0 (below_weaken (qj HB.out HI0.out) HL.out hb); replace HI0 := q0 (IsSRd.grown (qi HI0.out) hg (IsSRd.own_ne HI0.out HO_5.out (by decide))); replace HK := q0 (KeepBut.trans (qh HK.out) (KeepBut.of_grown hg g) (Kd.R_base2 HO_5.out)); have HO138 := q0 (ho); clear HO_5; clear ho hb hg hat))
     go_roundg kj17
     case measure => have := HK1.out; have := HJ17.out; omega
     case rel => exact ⟨(y136), (wrap64 (x6_1 - 1)), (t127), qs, H', ⟨by have := HK1.out; have := HJ17.out; omega⟩, ⟨by (with_reducible repeat (first | apply Kd.R_alloc | apply Kd.R_drewN | apply Kd.R_drew)); exact Kd.R_mono HO138.out (fun _ hk => trivial)⟩, ⟨qk BK115.out⟩, ⟨qi HI0.out⟩, ⟨qh HK.out⟩, ⟨qj HB.out HI0.out⟩⟩
   subst c34
   rw [if_pos rfl] at H
   replace H := Option.bind_eq_some_iff.mp H
   obtain ⟨⟨t110, t130⟩, A131, H⟩ := H
   have A35 := Aside0.mk A131
   clear A131
   by_cases c36 : t110 > 0
   · rw [if_pos c36] at H
     have c36b0 : decide (0 < t110) = true := decide_eq_true c36
     clear c36
     have H' := Aside0.mk H
     clear H
     obtain ⟨Ao37, co37, eo37⟩ := Kd.R_slice HO_7.out
     subst eo37
     go_wp2_with (first | ((with_reducible refine gate_callee (f := 73) rfl ?_); refine gl 43 Try.func73 #[.pointer (some ⟨g, 0, none⟩), .int .i64 (x7_17.length : Int)] ?_; (with_reducible refine (spec_l6Rd_pick.calls kj17 g s0_0 x101_1 (x7_17.length : Int) t108 t127 w0 _ ?side1 ?side2 A30.out).mono ?_); (case side1 => exact qi HI0.out); (case side2 => exact qj HB.out HI0.out); rintro e w38 ⟨rfl, hi, hb, hk⟩; refine ⟨_, rfl, ?_⟩; replace HO_5 := q0 (Kd.R_mono (Kd.R_keep (IsSRd.apart (show IsSRd w0 _ g s0_0 x101_1 from qi HI0.out) (qr HO_5.out) (by decide)) hk (fun _ h => h.2)) (fun _ h => h.1)); replace HO_7 := q0 (Kd.R_mono (Kd.R_keep (IsSRd.apart (show IsSRd w0 _ g s0_0 x101_1 from qi HI0.out) (qr HO_7.out) (by decide)) hk (fun _ h => h.2)) (fun _ h => h.1)); replace BK115 := q0 (kc hk BK115.out NB115_0.out); replace HK := q0 (KeepBut.trans (qh HK.out) hk (.inl rfl)); replace HB := q0 (hb); replace HI0 := q0 (hi); (try clear hb); (try clear hb2); (try clear hk); (try clear hi); have p132 : 0 ≤ (t108 : Int) := of_decide_eq_true qa; have q132 : t108 < (x7_17.length : Int) := of_decide_eq_true qa; obtain ⟨ad132, e132, hx132_0⟩ := Kd.at_int (Kd.R_reads' HO_7.out).2.2 t108 p132 q132; cases e132; replace p132 := eq_true p132; replace q132 := eq_true q132) | ((with_reducible refine gate_callee (f := 58) rfl ?_); refine gl 48 Try.func58 #[.slice (some ad122) x5_1.length co22, .int .i64 (rd x7_17 t108)] ?_; (with_reducible refine (spec_l2Has.calls kj17 _ _ x5_1 (rd x7_17 t108) true _ ?side1 ?side2 A33.out).mono ?_); (case side1 => exact qc (Kd.R_reads' HO_5.out).2.2); (case side2 => exact (Kd.R_reads' HO_5.out).2.1); rintro e w' ⟨rfl, ⟨nd, rfl⟩⟩; refine ⟨_, rfl, ?_⟩) | (go_at_call 73; (with_reducible refine (spec_l6Rd_pick.calls kj17 g s0_0 t127 6 t110 t130 w0 _ ?side1 ?side2 A35.out).mono ?_); (case side1 => exact qi HI0.out); (case side2 => exact qj HB.out HI0.out); rintro e w39 ⟨rfl, hi, hb, hk⟩; replace HO_5 := q0 (Kd.R_mono (Kd.R_keep (IsSRd.apart (show IsSRd w0 _ g s0_0 t127 from qi HI0.out) (qr HO_5.out) (by decide)) hk (fun _ h => h.2)) (fun _ h => h.1)); replace HO_7 := q0 (Kd.R_mono (Kd.R_keep (IsSRd.apart (show IsSRd w0 _ g s0_0 t127 from qi HI0.out) (qr HO_7.out) (by decide)) hk (fun _ h => h.2)) (fun _ h => h.1)); replace BK115 := q0 (kc hk BK115.out NB115_0.out); replace HK := q0 (KeepBut.trans (qh HK.out) hk (.inl rfl)); replace HB := q0 (hb); replace HI0 := q0 (hi); (try clear hb); (try clear hb2); (try clear hk); (try clear hi)))
     go_roundg kj17
     case measure => have := HK1.out; have := HJ17.out; omega
     case rel => exact ⟨(x5_1), (wrap64 (x6_1 - 1)), (t130), qs, H', ⟨by have := HK1.out; have := HJ17.out; omega⟩, ⟨by (with_reducible repeat (first | apply Kd.R_alloc | apply Kd.R_drewN | apply Kd.R_drew)); exact Kd.R_mono HO_5.out (fun _ hk => trivial)⟩, ⟨qk BK115.out⟩, ⟨qi HI0.out⟩, ⟨qh HK.out⟩, ⟨qj HB.out HI0.out⟩⟩
   rw [if_neg c36] at H
   have c36b0 : decide (0 < t110) = false := decide_eq_false c36
   clear c36
   by_cases c40 : x5_1.length < 17592186044416
   rotate_left
   · rw [if_neg c40] at H
     exact absurd H (by simp)
   rw [if_pos c40] at H
   have LMc40 := Aside0.mk c40
   clear c40
   obtain ⟨y133, hy133⟩ : ∃ y_ : List Int, y_ = (x5_1 ++ [rd x7_17 t108]) := ⟨_, rfl⟩
   replace H : (spec_l71Walk.l0 kj17 y133 (wrap64 (x6_1 - 1)) s0_0 t130 a1_0 l1_1) = some (r1, r2) := qy H hy133
   have Ny133 := Aside0.mk hy133
   clear hy133
   have H' := Aside0.mk H
   clear H
   obtain ⟨Ao41, co41, eo41⟩ := Kd.R_slice HO_7.out
   subst eo41
   go_wp2_with (first | ((with_reducible refine gate_callee (f := 73) rfl ?_); refine gl 43 Try.func73 #[.pointer (some ⟨g, 0, none⟩), .int .i64 (x7_17.length : Int)] ?_; (with_reducible refine (spec_l6Rd_pick.calls kj17 g s0_0 x101_1 (x7_17.length : Int) t108 t127 w0 _ ?side1 ?side2 A30.out).mono ?_); (case side1 => exact qi HI0.out); (case side2 => exact qj HB.out HI0.out); rintro e w42 ⟨rfl, hi, hb, hk⟩; refine ⟨_, rfl, ?_⟩; replace HO_5 := q0 (Kd.R_mono (Kd.R_keep (IsSRd.apart (show IsSRd w0 _ g s0_0 x101_1 from qi HI0.out) (qr HO_5.out) (by decide)) hk (fun _ h => h.2)) (fun _ h => h.1)); replace HO_7 := q0 (Kd.R_mono (Kd.R_keep (IsSRd.apart (show IsSRd w0 _ g s0_0 x101_1 from qi HI0.out) (qr HO_7.out) (by decide)) hk (fun _ h => h.2)) (fun _ h => h.1)); replace BK115 := q0 (kc hk BK115.out NB115_0.out); replace HK := q0 (KeepBut.trans (qh HK.out) hk (.inl rfl)); replace HB := q0 (hb); replace HI0 := q0 (hi); (try clear hb); (try clear hb2); (try clear hk); (try clear hi); have p132 : 0 ≤ (t108 : Int) := of_decide_eq_true qa; have q132 : t108 < (x7_17.length : Int) := of_decide_eq_true qa; obtain ⟨ad132, e132, hx132_0⟩ := Kd.at_int (Kd.R_reads' HO_7.out).2.2 t108 p132 q132; cases e132; replace p132 := eq_true p132; replace q132 := eq_true q132) | ((with_reducible refine gate_callee (f := 58) rfl ?_); refine gl 48 Try.func58 #[.slice (some ad122) x5_1.length co22, .int .i64 (rd x7_17 t108)] ?_; (with_reducible refine (spec_l2Has.calls kj17 _ _ x5_1 (rd x7_17 t108) true _ ?side1 ?side2 A33.out).mono ?_); (case side1 => exact qc (Kd.R_reads' HO_5.out).2.2); (case side2 => exact (Kd.R_reads' HO_5.out).2.1); rintro e w' ⟨rfl, ⟨nd, rfl⟩⟩; refine ⟨_, rfl, ?_⟩) | (go_at_call 73; (with_reducible refine (spec_l6Rd_pick.calls kj17 g s0_0 t127 6 t110 t130 w0 _ ?side1 ?side2 A35.out).mono ?_); (case side1 => exact qi HI0.out); (case side2 => exact qj HB.out HI0.out); rintro e w43 ⟨rfl, hi, hb, hk⟩; replace HO_5 := q0 (Kd.R_mono (Kd.R_keep (IsSRd.apart (show IsSRd w0 _ g s0_0 t127 from qi HI0.out) (qr HO_5.out) (by decide)) hk (fun _ h => h.2)) (fun _ h => h.1)); replace HO_7 := q0 (Kd.R_mono (Kd.R_keep (IsSRd.apart (show IsSRd w0 _ g s0_0 t127 from qi HI0.out) (qr HO_7.out) (by decide)) hk (fun _ h => h.2)) (fun _ h => h.1)); replace BK115 := q0 (kc hk BK115.out NB115_0.out); replace HK := q0 (KeepBut.trans (qh HK.out) hk (.inl rfl)); replace HB := q0 (hb); replace HI0 := q0 (hi); (try clear hb); (try clear hb2); (try clear hk); (try clear hi)) | ((with_reducible refine gate_builtin (b := .append) (xs := #[.tmp 54, .tmp 56]) rfl ?_); at_builtin; refine Kd.R_append (Kd.int .i64) w.heap.size rfl (.tmp 54) (.tmp 56) 26 3 (.int .i64 0) 8 rfl Try.underlying26 info3 rfl (by decide) (by omega) (.slice (some ad122) x5_1.length co22) x5_1 (rd x7_17 t108) [.int .i64 (rd x7_17 t108)] (fun k_ => some k_ ≠ (.slice (some ad132) x7_17.length co41 : Value).ownBlock) (fun _ => False) rfl rfl ?aP (fun _ hk => hk.elim) ?aF ?aO (Below.refl _ _) ?aS ?aL ?_; (case aP => exact rfl); (case aF => exact (fun k_ hk => Kd.fresh' (Kd.R_lt (qr HO_7.out)) k_ hk)); (case aO => exact (qr HO_5.out)); (case aS => exact (keep_size (w := w) (g := g) (row := none) (qh HK.out))); (case aL => have := LMc40.out; omega); intro v134 w44 ho hb hg hat; rw [← Ny133.out] at ho; replace HO_7 := q0 (Kd.R_after (ok := (fun _ => True)) (by (with_reducible repeat (first | apply Kd.R_alloc | apply Kd.R_drewN | apply Kd.R_drew)); exact Kd.R_mono HO_7.out (fun _ hk => ⟨trivial, hk⟩)) hg hat); replace BK115 := q0 (blk_grown (g := gb115) (o := .cells #[.int .i64 a1_0, .slice A1_1 l1_1.length c1_1] 31 (0, 0)) (qk BK115.out) hg (Kd.R_ne HO_5.out BK115.out (by decide))); replace HB := q0 (below_weaken (qj HB.out HI0.out) HL.out hb); replace HI0 := q0 (IsSRd.grown (qi HI0.out) hg (IsSRd.own_ne HI0.out HO_5.out (by decide))); replace HK := q0 (KeepBut.trans (qh HK.out) (KeepBut.of_grown hg g) (Kd.R_base2 HO_5.out)); have HO135 := q0 (ho); clear HO_5; clear ho hb hg hat))
   go_roundg kj17
   case measure => have := HK1.out; have := HJ17.out; omega
   case rel => exact ⟨(y133), (wrap64 (x6_1 - 1)), (t130), qs, H', ⟨by have := HK1.out; have := HJ17.out; omega⟩, ⟨by (with_reducible repeat (first | apply Kd.R_alloc | apply Kd.R_drewN | apply Kd.R_drew)); exact Kd.R_mono HO135.out (fun _ hk => trivial)⟩, ⟨qk BK115.out⟩, ⟨qi HI0.out⟩, ⟨qh HK.out⟩, ⟨qj HB.out HI0.out⟩⟩
 clear HC5
 try clear c1
 try clear c2
 try clear p2
 try clear c3
 try clear c4
 try clear c5
 try clear p6
 try clear q6
 try clear hx6
 try clear c7
 try clear c13
 try clear c13b0
 try clear c15
 try clear c15b0
 try clear c16
 try clear c16b0
 try clear c24
 try clear c28
 try clear c28b0
 try clear c28b1
 try clear c28b2
 try clear c31
 try clear c31b0
 try clear c32
 try clear c32b0
 try clear c34
 try clear c36
 try clear c36b0
 try clear c40
 try clear c42
 try clear c45
 try clear hcz8_0
 try clear hcz8_1
 try clear hfz8_0
 try clear hfz8_1
 try clear hx122_0
 try clear hx124_0
 try clear hx132_0
 try clear p2
 try clear p6
 try clear p122
 try clear p124
 try clear p132
 try clear q6
 try clear q122
 try clear q124
 try clear q132
 obtain ⟨kq, x5_4, x101_4, HA, HJ4, HO_5, BK115, HI0, HK, HB⟩ := hcut
 rcases kq with _ | kj4
 · exact absurd HA.out (by simp [spec_l71Walk.j2])
 have H := HA.out
 clear HA
 simp only [spec_l71Walk.j2] at H
 replace H := Option.bind_eq_some_iff.mp H
 obtain ⟨⟨t102, t139⟩, A140, H⟩ := H
 have A49 := Aside0.mk A140
 clear A140
 by_cases c50 : t102 = 0
 rotate_left
 · rw [if_neg c50] at H
   have c50b0 : (t102 == 0) = false := beq_eq_false_iff_ne.mpr c50
   have c50b1 : (t102 != 0) = true := bne_iff_ne.mpr c50
   by_cases c62 : t102 = 1
   rotate_left
   · rw [if_neg c62] at H
     have c62b0 : (t102 == 1) = false := beq_eq_false_iff_ne.mpr c62
     have c62b1 : (t102 != 1) = true := bne_iff_ne.mpr c62
     simp only [Option.some.injEq, Prod.mk.injEq] at H
     obtain ⟨rfl, rfl⟩ := H
     go_wp2_with (first | ((with_reducible refine gate_callee (f := 73) rfl ?_); refine gl 59 Try.func73 #[.pointer (some ⟨g, 0, none⟩), .int .i64 16] ?_; (with_reducible refine (spec_l6Rd_pick.calls kj4 g s0_0 x101_4 16 t102 t139 w0 _ ?side1 ?side2 A49.out).mono ?_); (case side1 => exact qi HI0.out); (case side2 => exact qj HB.out HI0.out); rintro e w66 ⟨rfl, hi, hb, hk⟩; refine ⟨_, rfl, ?_⟩; replace HO_5 := q0 (Kd.R_mono (Kd.R_keep (IsSRd.apart (show IsSRd w0 _ g s0_0 x101_4 from qi HI0.out) (qr HO_5.out) (by decide)) hk (fun _ h => h.2)) (fun _ h => h.1)); replace BK115 := q0 (kc hk BK115.out NB115_0.out); replace HK := q0 (KeepBut.trans (qh HK.out) hk (.inl rfl)); replace HB := q0 (hb); replace HI0 := q0 (hi); (try clear hb); (try clear hb2); (try clear hk); (try clear hi)))
     go_ret
     exact ⟨_, qe, qr HO_5.out, qi HI0.out, qj HB.out HI0.out, by repeat (first | (with_reducible first | exact HK.out | apply KeepBut.set_ | apply keep_drewN | apply keep_drew | apply keep_alloc | refine keep_far ?_ GW115.out _) | exact HK.out)⟩
   rw [if_pos c62] at H
   have c62b0 : (t102 == 1) = true := beq_iff_eq.mpr c62
   have c62b1 : (t102 != 1) = false := bne_eq_false_iff_eq.mpr c62
   clear c62
   obtain ⟨y146, hy146⟩ : ∃ y_ : List Int, y_ = (([] : List Int)) := ⟨_, rfl⟩
   replace H : (some (y146, t139)) = some (r1, r2) := qy H hy146
   have Ny146 := Aside0.mk hy146
   clear hy146
   simp only [Option.some.injEq, Prod.mk.injEq] at H
   obtain ⟨rfl, rfl⟩ := H
   go_wp2_with (first | ((with_reducible refine gate_callee (f := 73) rfl ?_); refine gl 59 Try.func73 #[.pointer (some ⟨g, 0, none⟩), .int .i64 16] ?_; (with_reducible refine (spec_l6Rd_pick.calls kj4 g s0_0 x101_4 16 t102 t139 w0 _ ?side1 ?side2 A49.out).mono ?_); (case side1 => exact qi HI0.out); (case side2 => exact qj HB.out HI0.out); rintro e w63 ⟨rfl, hi, hb, hk⟩; refine ⟨_, rfl, ?_⟩; replace HO_5 := q0 (Kd.R_mono (Kd.R_keep (IsSRd.apart (show IsSRd w0 _ g s0_0 x101_4 from qi HI0.out) (qr HO_5.out) (by decide)) hk (fun _ h => h.2)) (fun _ h => h.1)); replace BK115 := q0 (kc hk BK115.out NB115_0.out); replace HK := q0 (KeepBut.trans (qh HK.out) hk (.inl rfl)); replace HB := q0 (hb); replace HI0 := q0 (hi); (try clear hb); (try clear hb2); (try clear hk); (try clear hi)) | ((with_reducible refine gate_dst (N := 72) rfl ?_); refine Kd.R_lit (Kd.int .i64) _ 3 ?hg (N := 72) ?hd (xs := ([] : List Int)) (inner := []) (ok := fun _ => True) (okp := fun _ => True) ?hr ?hp (fun _ hk => hk) trivial (Below.refl _ _) (Nat.le_refl _) (by simp) ?_; (case hd => rfl); (case hg => rfl); (case hr => first | (go_simp; done) | (go_simp; rfl)); (case hp => exact (Reps.none _ _)); intro v147 w64 ho65 hb hg_ hnew_; clear hg_ hnew_; (first | rw [← Ny146.out] at ho65 | (simp only [Int.reduceToNat] at ho65; rw [← Ny146.out] at ho65)); have HO148 := q0 (Kd.R_lower (Kd.R_new' ho65 (Kd.R_lt (qr HO_5.out))) (keep_size (w := w) (g := g) (row := none) (qh HK.out))); replace HO_5 := q0 (Kd.R_elder' (qr HO_5.out) (Kd.R_base ho65) hb); replace BK115 := q0 (kb BK115.out hb); replace HK := q0 (KeepBut.trans (qh HK.out) (KeepBut.of_below hb g none) (.inl rfl)); replace HB := q0 (below_step (qj HB.out HI0.out) hb); replace HI0 := q0 (IsSRd.below (qi HI0.out) hb); clear hb ho65))
   go_ret
   exact ⟨_, qe, by (with_reducible repeat (first | apply Kd.R_alloc | apply Kd.R_drewN | apply Kd.R_drew)); exact Kd.R_mono HO148.out (fun _ hk => trivial), qi HI0.out, qj HB.out HI0.out, by repeat (first | (with_reducible first | exact HK.out | apply KeepBut.set_ | apply keep_drewN | apply keep_drew | apply keep_alloc | refine keep_far ?_ GW115.out _) | exact HK.out)⟩
 rw [if_pos c50] at H
 have c50b0 : (t102 == 0) = true := beq_iff_eq.mpr c50
 have c50b1 : (t102 != 0) = false := bne_eq_false_iff_eq.mpr c50
 clear c50
 replace H := Option.bind_eq_some_iff.mp H
 obtain ⟨⟨t103, t141⟩, A142, H⟩ := H
 have A51 := Aside0.mk A142
 clear A142
 replace H := Option.bind_eq_some_iff.mp H
 obtain ⟨⟨t104, t143⟩, A144, H⟩ := H
 have A52 := Aside0.mk A144
 clear A144
 by_cases c53 : 0 ≤ t103
 rotate_left
 · rw [if_neg c53] at H
   exact absurd H (by simp)
 rw [if_pos c53] at H
 have c53b0 : decide (0 ≤ t103) = true := decide_eq_true c53
 clear c53
 by_cases c54 : t103 < (x5_4.length : Int)
 rotate_left
 · rw [if_neg c54] at H
   exact absurd H (by simp)
 rw [if_pos c54] at H
 have c54b0 : decide (t103 < (x5_4.length : Int)) = true := decide_eq_true c54
 clear c54
 obtain ⟨y145, hy145⟩ : ∃ y_ : List Int, y_ = (x5_4.set (t103 : Int).toNat t104) := ⟨_, rfl⟩
 replace H : (some (y145, t143)) = some (r1, r2) := qy H hy145
 have Ny145 := Aside0.mk hy145
 clear hy145
 simp only [Option.some.injEq, Prod.mk.injEq] at H
 obtain ⟨rfl, rfl⟩ := H
 go_wp2_with (first | ((with_reducible refine gate_callee (f := 73) rfl ?_); refine gl 59 Try.func73 #[.pointer (some ⟨g, 0, none⟩), .int .i64 16] ?_; (with_reducible refine (spec_l6Rd_pick.calls kj4 g s0_0 x101_4 16 t102 t139 w0 _ ?side1 ?side2 A49.out).mono ?_); (case side1 => exact qi HI0.out); (case side2 => exact qj HB.out HI0.out); rintro e w56 ⟨rfl, hi, hb, hk⟩; refine ⟨_, rfl, ?_⟩; replace HO_5 := q0 (Kd.R_mono (Kd.R_keep (IsSRd.apart (show IsSRd w0 _ g s0_0 x101_4 from qi HI0.out) (qr HO_5.out) (by decide)) hk (fun _ h => h.2)) (fun _ h => h.1)); replace BK115 := q0 (kc hk BK115.out NB115_0.out); replace HK := q0 (KeepBut.trans (qh HK.out) hk (.inl rfl)); replace HB := q0 (hb); replace HI0 := q0 (hi); (try clear hb); (try clear hb2); (try clear hk); (try clear hi); obtain ⟨Ao57, co57, eo57⟩ := Kd.R_slice HO_5.out; subst eo57) | ((with_reducible refine gate_callee (f := 73) rfl ?_); refine gl 66 Try.func73 #[.pointer (some ⟨g, 0, none⟩), .int .i64 (x5_4.length : Int)] ?_; (with_reducible refine (spec_l6Rd_pick.calls kj4 g s0_0 t139 (x5_4.length : Int) t103 t141 w0 _ ?side1 ?side2 A51.out).mono ?_); (case side1 => exact qi HI0.out); (case side2 => exact qj HB.out HI0.out); rintro e w58 ⟨rfl, hi, hb, hk⟩; refine ⟨_, rfl, ?_⟩; replace HO_5 := q0 (Kd.R_mono (Kd.R_keep (IsSRd.apart (show IsSRd w0 _ g s0_0 t139 from qi HI0.out) (qr HO_5.out) (by decide)) hk (fun _ h => h.2)) (fun _ h => h.1)); replace BK115 := q0 (kc hk BK115.out NB115_0.out); replace HK := q0 (KeepBut.trans (qh HK.out) hk (.inl rfl)); replace HB := q0 (hb); replace HI0 := q0 (hi); (try clear hb); (try clear hb2); (try clear hk); (try clear hi)) | ((with_reducible refine gate_callee (f := 73) rfl ?_); refine gl 68 Try.func73 #[.pointer (some ⟨g, 0, none⟩), .int .i64 9] ?_; (with_reducible refine (spec_l6Rd_pick.calls kj4 g s0_0 t141 9 t104 t143 w0 _ ?side1 ?side2 A52.out).mono ?_); (case side1 => exact qi HI0.out); (case side2 => exact qj HB.out HI0.out); rintro e w59 ⟨rfl, hi, hb, hk⟩; refine ⟨_, rfl, ?_⟩; replace HO_5 := q0 (Kd.R_mono (Kd.R_keep (IsSRd.apart (show IsSRd w0 _ g s0_0 t141 from qi HI0.out) (qr HO_5.out) (by decide)) hk (fun _ h => h.2)) (fun _ h => h.1)); replace BK115 := q0 (kc hk BK115.out NB115_0.out); replace HK := q0 (KeepBut.trans (qh HK.out) hk (.inl rfl)); replace HB := q0 (hb); replace HI0 := q0 (hi); (try clear hb); (try clear hb2); (try clear hk); (try clear hi); have p55 : 0 ≤ (t103 : Int) := of_decide_eq_true qa; have q55 : (t103 : Int) < ((x5_4.length : Int) : Int) := of_decide_eq_true qa; obtain ⟨go55, co55, eo55, gb55, gl55, cl55, HG55⟩ := Kd.R_form HO_5.out (by omega); (first | cases eo55 | (injection eo55 with ea_ en_ ec_; (first | subst ea_ | (injection ea_ with ea_; subst ea_)); subst ec_; clear en_)); have GB55 := Aside0.mk gb55; have GG55 := Aside0.mk HG55; clear gb55 gl55 HG55; obtain ⟨hx55_0, hf55_0⟩ := Kd.R_celln 0 HO_5.out (t103 : Int) p55 q55; replace p55 := eq_true p55; replace q55 := eq_true q55; obtain ⟨hy60_, hz60_⟩ := Kd.R_celln 0 HO_5.out (t103 : Int) (of_decide_eq_true qa) (of_decide_eq_true qa); have HP60 := Kd.R_putg HO_5.out (t103 : Int) t104) | ((with_reducible refine gate_store (t := 3) (p := 69) rfl ?_); refine store_event (t := 3) (p := 69) (v := ?vo_w61) (w1 := (w59.setCell ⟨go55, (t103 : Int).toNat, none⟩ (.int .i64 t104))) ?hg ?ho ?hn ?hr ?_; (case ho => rfl); (case hg => rfl); (case hn => rfl); (case hr => first | (go_simp; done) | (go_simp; rfl)); intro w61 hw; have hg : w59.grownBy w61 (some go55) := (by rw [hw]; exact HP60.2); have hp_ : Kd.R (Kd.int .i64) 3 w61 w.heap.size (fun _ => True) (.slice (some ⟨go55, 0, none⟩) x5_4.length co57) y145 := (by rw [hw, Ny145.out]; exact HP60.1); clear HP60; replace BK115 := q0 (blk_grown (g := gb115) (o := .cells #[.int .i64 a1_0, .slice A1_1 l1_1.length c1_1] 31 (0, 0)) (qk BK115.out) hg (Kd.R_ne HO_5.out BK115.out (by decide))); replace HI0 := q0 (IsSRd.grown (qi HI0.out) hg (IsSRd.own_ne HI0.out HO_5.out (by decide))); replace HB := q0 ((by rw [hw]; exact below_set (HB.out) (Nat.le_trans HL.out GB55.out) : Below w0.heap.size w0 w61)); replace HK := q0 (KeepBut.trans (qh HK.out) (KeepBut.of_grown hg g) (Kd.R_base2 HO_5.out)); replace HO_5 := q0 (hp_); clear hg hw hp_))
 go_ret
 exact ⟨_, qe, qr HO_5.out, qi HI0.out, qj HB.out HI0.out, by repeat (first | (with_reducible first | exact HK.out | apply KeepBut.set_ | apply keep_drewN | apply keep_drew | apply keep_alloc | refine keep_far ?_ GW115.out _) | exact HK.out)⟩

set_option maxHeartbeats 8000000 in
set_option maxRecDepth 100000 in
theorem spec_DrawWayOk.calls (k : Nat) (A0 : Option Addr) (c0 : Nat) (l0 : List Int) (r1 : Int) (r2 : List (STie)) (r3 : List Int) (w : World) (hr0 : Kd.C (Kd.int .u8) w A0 l0.length l0) (hc0 : l0.length ≤ c0) (h : spec_DrawWayOk.f k l0 = some (r1, r2, r3)) :
    Calls Try.prog 30 #[.slice A0 l0.length c0] w fun e w' => ∃ v1_ v2_ : Value, e = .returned (.tuple #[.agg #[.int .i64 r1, v1_], v2_]) ∧ Kd.R kTie 74 w' w.heap.size (fun _ => True) v1_ r2 ∧ Kd.R (Kd.int .i64) 3 w' w.heap.size (fun _ => True) v2_ r3 ∧ Below w.heap.size w w' := by
 have hu31 := Try.underlying31
 have HR0 := Aside0.mk hr0
 have HC0 := Aside0.mk hc0
 clear hr0 hc0
 have HB := q0 (Below.refl w.heap.size w)
 have H : ((spec_l6Open.f l0).bind fun bt100 => ((spec_l71Any.f k bt100.1 bt100.2).bind fun bt101 => ((spec_l71Walk.f k bt100.1 bt101.2.2 bt101.1 bt101.2.1).bind fun bt102 => (some (bt101.1, bt101.2.1, bt102.1))))) = some (r1, r2, r3) := h
 clear h
 replace H := Option.bind_eq_some_iff.mp H
 obtain ⟨⟨t100, t103⟩, A20, H⟩ := H
 have A2 := Aside0.mk A20
 clear A20
 replace H := Option.bind_eq_some_iff.mp H
 obtain ⟨⟨t101, t104, t105⟩, A30, H⟩ := H
 have A3 := Aside0.mk A30
 clear A30
 replace H := Option.bind_eq_some_iff.mp H
 obtain ⟨⟨t102, t106⟩, A40, H⟩ := H
 have A4 := Aside0.mk A40
 clear A40
 simp only [Option.some.injEq, Prod.mk.injEq] at H
 obtain ⟨rfl, rfl, rfl⟩ := H
 go_enter Try.func30, Try.ntmps30
 try go_wp2_with (first | ((with_reducible refine gate_dst (N := 2) rfl ?_); refine be 2 #[.int .i64 0, .slice none 0 0] 31 ?_; intro gb107 hg w5 hbox hb; have BK107 := q0 (hbox); have GW107 := q0 ((bs HB.out hg : w.heap.size ≤ gb107)); have GE107 := q0 ((bs HB.out hg : w.heap.size ≤ gb107)); replace HB := q0 (below_step (qb HB.out) hb); clear hb hbox hg) | ((with_reducible refine gate_callee (f := 51) rfl ?_); refine gl 7 Try.func51 #[.slice A0 l0.length c0] ?_; (with_reducible refine (spec_l6Open.calls _ _ l0 t100 t103 w _ ?side1 ?side2 ?side3 A2.out).mono ?_); (case side1 => exact qb HB.out); (case side2 => exact HR0.out); (case side3 => exact HC0.out); rintro e w6 ⟨g108, rfl, hi, hb, hb2⟩; refine ⟨_, rfl, ?_⟩; replace HB := q0 (hb); have HI108 := q0 (hi); have NB108_107 := q0 (IsSRd.ne_blk hi (kb BK107.out hb2) (by decide)); have NB107_108 := q0 (Ne.symm (IsSRd.ne_blk hi (kb BK107.out hb2) (by decide))); replace BK107 := q0 (kb BK107.out hb2); (try clear hb); (try clear hb2); (try clear hk); (try clear hi)) | ((with_reducible refine gate_callee (f := 53) rfl ?_); refine gl 9 Try.func53 #[.pointer (some ⟨g108, 0, none⟩)] ?_; (with_reducible refine (spec_l71Any.calls k g108 t100 t103 t101 t104 t105 w _ ?side1 ?side2 A3.out).mono ?_); (case side1 => exact qi HI108.out); (case side2 => exact qj HB.out HI108.out); rintro e w7 ⟨v109, rfl, ho0, hi, hb, hk⟩; refine ⟨_, rfl, ?_⟩; replace BK107 := q0 (kc hk BK107.out NB107_108.out); have HO110 := q0 (Kd.R_lower ho0 (below_size (qj HB.out HI108.out))); replace HB := q0 (hb); replace HI108 := q0 (hi); (try clear hb); (try clear hb2); (try clear hk); (try clear hi); (try clear ho0)) | ((with_reducible refine gate_dst (N := 5) rfl ?_); refine be 5 #[.int .i64 0, .slice none 0 0] 31 ?_; intro gb111 hg w8 hbox hb; replace HO110 := q0 (Kd.R_below (qr HO110.out) hb); have BK111 := q0 (hbox); have GW111 := q0 ((by rw [hg]; exact (below_size (qj HB.out HI108.out)) : w.heap.size ≤ gb111)); have GE111 := q0 ((by rw [hg]; exact (below_size (qj HB.out HI108.out)) : w.heap.size ≤ gb111)); replace HB := q0 (below_step (qj HB.out HI108.out) hb); have NB107_111 := q0 ((bl BK107.out hg : gb107 ≠ gb111)); have NB111_107 := q0 ((bg BK107.out hg : gb111 ≠ gb107)); replace BK107 := q0 (kb BK107.out hb); have NB108_111 := q0 ((by rw [hg]; exact Nat.ne_of_lt (IsSRd.lt (show IsSRd w _ g108 t100 t105 from qi HI108.out)) : g108 ≠ gb111)); have NB111_108 := q0 ((by rw [hg]; exact Nat.ne_of_gt (IsSRd.lt (show IsSRd w _ g108 t100 t105 from qi HI108.out)) : gb111 ≠ g108)); replace HI108 := q0 (IsSRd.below (qi HI108.out) hb); clear hb hbox hg; have hnb9 := NB111_107.out; have hnc9 := NB107_111.out; have hnb10 := NB111_108.out; have hnc10 := NB108_111.out; have hcz11_0 : w8.cell? ⟨gb111, 0, none⟩ = some (.int .i64 0) := (blk_cell BK111.out 0).trans rfl; have hcz11_1 : w8.cell? ⟨gb111, 1, none⟩ = some (.slice none 0 0) := (blk_cell BK111.out 1).trans rfl; have hfz11_0 := blk_frozen BK111.out 0; have hfz11_1 := blk_frozen BK111.out 1; obtain ⟨Ao12, co12, eo12⟩ := Kd.R_slice HO110.out; subst eo12))
 have n0_ : Aside0 (Kd.R kTie 74 ((w8.setCell ⟨gb111, 0, none⟩ (.int .i64 t101)).setCell ⟨gb111, 1, none⟩ (.slice Ao12 t104.length co12)) w.heap.size (fun _ => True) (.slice Ao12 t104.length co12) t104) := ⟨by (with_reducible repeat (first | apply Kd.R_alloc | apply Kd.R_drewN | apply Kd.R_drew)); exact rf2 HO110.out BK111.out (fun _ hk => trivial)⟩
 have n1_ : Aside0 (((w8.setCell ⟨gb111, 0, none⟩ (.int .i64 t101)).setCell ⟨gb111, 1, none⟩ (.slice Ao12 t104.length co12)).heap[gb107]? = some (.cells #[.int .i64 0, .slice none 0 0] 31 (0, 0))) := ⟨qf BK107.out⟩
 have n2_ : Aside0 (((w8.setCell ⟨gb111, 0, none⟩ (.int .i64 t101)).setCell ⟨gb111, 1, none⟩ (.slice Ao12 t104.length co12)).heap[gb111]? = some (.cells #[.int .i64 t101, .slice Ao12 t104.length co12] 31 (0, 0))) := ⟨by (with_reducible repeat (first | refine blk_drewN ?_ _ | refine blk_drew ?_ | refine blk_alloc ?_ _)); refine blk_put (cs := #[.int .i64 t101, .slice none 0 0]) ?_ 1 _ rfl; (with_reducible repeat (first | refine blk_drewN ?_ _ | refine blk_drew ?_ | refine blk_alloc ?_ _)); refine blk_put (cs := #[.int .i64 0, .slice none 0 0]) ?_ 0 _ rfl; (with_reducible repeat (first | refine blk_drewN ?_ _ | refine blk_drew ?_ | refine blk_alloc ?_ _)); exact BK111.out⟩
 have n3_ : Aside0 (IsSRd w ((w8.setCell ⟨gb111, 0, none⟩ (.int .i64 t101)).setCell ⟨gb111, 1, none⟩ (.slice Ao12 t104.length co12)) g108 t100 t105) := ⟨qi HI108.out⟩
 have n4_ : Aside0 (Below w.heap.size w ((w8.setCell ⟨gb111, 0, none⟩ (.int .i64 t101)).setCell ⟨gb111, 1, none⟩ (.slice Ao12 t104.length co12))) := ⟨qj HB.out HI108.out⟩
 (try clear HO110)
 (try clear BK107)
 (try clear BK111)
 (try clear HI108)
 (try clear HB)
 generalize ((w8.setCell ⟨gb111, 0, none⟩ (.int .i64 t101)).setCell ⟨gb111, 1, none⟩ (.slice Ao12 t104.length co12)) = w13 at n0_ n1_ n2_ n3_ n4_ ⊢
 have HO110 := n0_
 have BK107 := n1_
 have BK111 := n2_
 have HI108 := n3_
 have HB := n4_
 clear n0_ n1_ n2_ n3_ n4_
 replace HO110 := q0 (Kd.R_drew HO110.out)
 replace BK107 := q0 (blk_drew BK107.out)
 replace BK111 := q0 (blk_drew BK111.out)
 replace HI108 := q0 (IsSRd.drew HI108.out)
 replace HB := q0 (below_drew1 HB.out)
 refine start_ (n := 6) (S := fun w' => w'.cell? ⟨gb111, 0, none⟩ = some (.int .i64 t101) ∧ w'.cell? ⟨gb111, 1, none⟩ = some (.slice Ao12 t104.length co12)) (ds := []) (ba 6 0) (by kernel_rfl) rfl (by kernel_rfl) ⟨(blk_cell BK111.out 0).trans rfl, (blk_cell BK111.out 1).trans rfl⟩ (fun hHeld => ?_)
 generalize w13.drew = w14 at HO110 BK107 BK111 HI108 HB hHeld ⊢
 refine pw 1 (some 11) (ba 6 2) ?_
 refine tw 0 (some 10) (ba 6 3) hHeld ?_
 refine tw 2 (some 12) (ba 6 7) hHeld ?_
 refine one_ (i := 3) (N := some 13) (ba 6 15) rfl rfl (by kernel_rfl) (by decide) (fun K hK => ?_)
 refine goes_ Try.func54 (by kernel_rfl) rfl #[.pointer (some ⟨g108, 0, none⟩), .agg #[.int .i64 t101, .slice Ao12 t104.length co12]] (by rfl) rfl rfl qm ?_
 with_reducible refine (spec_l71Walk.calls k g108 t100 t105 t101 _ _ t104 t102 t106 w _ ?side1 ?side2 ?side3 ?side4 A4.out).mono ?_
 (case side1 => exact qi HI108.out)
 (case side2 => exact qj HB.out HI108.out)
 (case side3 => exact Kd.C_foot_own (IsSRd.apart (show IsSRd w _ g108 t100 t105 from qi HI108.out) (qr HO110.out) (by decide)) (fun _ h_ => h_.2))
 (case side4 => exact (Kd.R_reads' HO110.out).2.1)
 rintro e w15 ⟨v112, rfl, ho0, hi, hb, hk⟩
 refine ⟨_, rfl, ?_⟩
 replace BK107 := q0 (kc hk BK107.out NB107_108.out)
 replace HO110 := q0 (Kd.R_mono (Kd.R_keep (IsSRd.apart (show IsSRd w _ g108 t100 t105 from qi HI108.out) (qr HO110.out) (by decide)) hk (fun _ h => h.2)) (fun _ h => h.1))
 replace BK111 := q0 (kc hk BK111.out NB111_108.out)
 have HO113 := q0 (Kd.R_lower ho0 (below_size (qj HB.out HI108.out)))
 replace HB := q0 (hb)
 replace HI108 := q0 (hi)
 (try clear hb)
 (try clear hb2)
 (try clear hk)
 (try clear hi)
 (try clear ho0)
 refine hK.out _ _ ⟨(blk_cell BK111.out 0).trans rfl, (blk_cell BK111.out 1).trans rfl⟩ (fun hHeld => ?_)
 clear hK K
 refine nu 13 ?_
 refine one_ (i := 4) (N := none) (ba 6 31) rfl rfl (by kernel_rfl) (by decide) (fun K hK => ?_)
 have hs16 : w15.cell? ⟨gb107, 0, none⟩ = some (.int .i64 0) := (blk_cell BK107.out 0).trans rfl
 have hfs16 := blk_frozen BK107.out 0
 have hns16_1 := NB111_107.out
 have hms16_1 := NB107_111.out
 have hs17 : w15.cell? ⟨gb107, 1, none⟩ = some (.slice none 0 0) := (blk_cell BK107.out 1).trans rfl
 have hfs17 := blk_frozen BK107.out 1
 have hns17_1 := NB111_107.out
 have hms17_1 := NB107_111.out
 refine skip_ (w1 := ?_) (by rfl) rfl ?_ ?_
 rotate_left
 · go_simp
   rfl
 refine hK.out _ _ ⟨((cell_far (p := ⟨gb107, _, none⟩) NB111_107.out _).trans (((cell_far (p := ⟨gb107, _, none⟩) NB111_107.out _).trans (hHeld.1)))), ((cell_far (p := ⟨gb107, _, none⟩) NB111_107.out _).trans (((cell_far (p := ⟨gb107, _, none⟩) NB111_107.out _).trans (hHeld.2))))⟩ (fun hHeld => ?_)
 clear hK K
 refine pw 5 (some 3) (ba 6 63) ?_
 refine done_ (by kernel_rfl) ?_
 try go_wp2
 refine bodyPost_ret (results_ct rfl _ _ gb107 31 #[.int .i64 t101, .slice Ao12 t104.length co12] (0, 0) _ rfl (by (with_reducible repeat (first | refine blk_drewN ?_ _ | refine blk_drew ?_ | refine blk_alloc ?_ _)); refine blk_put (cs := #[.int .i64 t101, .slice none 0 0]) ?_ 1 _ rfl; (with_reducible repeat (first | refine blk_drewN ?_ _ | refine blk_drew ?_ | refine blk_alloc ?_ _)); refine blk_put (cs := #[.int .i64 0, .slice none 0 0]) ?_ 0 _ rfl; (with_reducible repeat (first | refine blk_drewN ?_ _ | refine blk_drew ?_ | refine blk_alloc ?_ _)); exact BK107.out) Try.underlying31 rfl (by kernel_rfl)) rfl ?_
 exact ⟨_, _, qe, by (with_reducible repeat (first | apply Kd.R_alloc | apply Kd.R_drewN | apply Kd.R_drew)); exact rf2 HO110.out BK107.out (fun _ hk => trivial), by (with_reducible repeat (first | apply Kd.R_alloc | apply Kd.R_drewN | apply Kd.R_drew)); exact rf2 HO113.out BK107.out (fun _ hk => trivial), qj HB.out HI108.out⟩

def spec_WayOk.T6 : Bool × List (List Nat × List Nat) := (true, [([], []), ([], []), ([], []), ([1, 2], [1, 2]), ([3], [3]), ([0, 4], [0, 4]), ([5], [5]), ([6, 5], [6]), ([7], [7]), ([7], [7]), ([8, 9, 7], [7, 8, 9]), ([7], [7]), ([7], [7]), ([11, 12, 7], [7, 11, 12]), ([13, 7], [7, 13]), ([10, 14, 7, 7], [7, 10, 14]), ([7, 15], [7, 15]), ([16, 15], [16]), ([17], [17]), ([18, 17], [17, 18]), ([19, 17, 17], [17, 19]), ([20], [20]), ([20], [20]), ([20], [20]), ([23, 20], [20, 23]), ([22, 24, 20], [20, 22, 24]), ([25, 20], [20, 25]), ([20], [20]), ([20], [20]), ([27, 28, 20], [20, 27, 28]), ([29, 20], [20, 29]), ([21, 26, 30, 20, 20], [20, 21, 26, 30]), ([31, 20], [20, 31]), ([20, 32, 17], [17, 20, 32]), ([17, 33], [17, 33])])
def spec_WayOk.B6 : List Nat := [0, 0, 0, 6, 14, 31, 63, 127, 255, 255, 1023, 255, 255, 6399, 14591, 32767, 65535, 131071, 262143, 524287, 1048575, 2097151, 2097151, 2097151, 10485759, 31457279, 65011711, 2097151, 2097151, 404750335, 941621247, 2147483647, 4294967295, 8589934591, 17179869183]
theorem spec_WayOk.tab6 : rtab .any (opsOf Try.f32 6) = spec_WayOk.T6 := by kernel_rfl
theorem spec_WayOk.bits6 : waitsOk spec_WayOk.T6.2 spec_WayOk.B6 = true := by kernel_rfl
set_option maxHeartbeats 8000000 in
set_option maxRecDepth 100000 in
theorem spec_WayOk.calls (k : Nat) (a0_0 : Int) (A0_1 : Option Addr) (c0_1 : Nat) (l0_1 : List (STie)) (A1 : Option Addr) (c1 : Nat) (l1 : List Int) (r : Bool) (w : World) (hr0_1 : Kd.C kTie w A0_1 l0_1.length l0_1) (hc0_1 : l0_1.length ≤ c0_1) (hr1 : Kd.C (Kd.int .i64) w A1 l1.length l1) (hc1 : l1.length ≤ c1) (h : spec_WayOk.f k a0_0 l0_1 l1 = some r) :
    Calls Try.prog 32 #[.agg #[.int .i64 a0_0, .slice A0_1 l0_1.length c0_1], .slice A1 l1.length c1] w fun e w' => e = .returned (.bool r) ∧ Below w.heap.size w w' := by
 have hu31 := Try.underlying31
 have HR0_1 := Aside0.mk hr0_1
 have HC0_1 := Aside0.mk hc0_1
 clear hr0_1 hc0_1
 have HR1 := Aside0.mk hr1
 have HC1 := Aside0.mk hc1
 clear hr1 hc1
 have HB := q0 (Below.refl w.heap.size w)
 have H : ((spec_NetOk.f k a0_0 l0_1).bind fun t100 => (if t100 = true then (spec_WayOk.j0 k l1 (decide ((l1.length : Int) < 1)) a0_0 l0_1) else (spec_WayOk.j0 k l1 true a0_0 l0_1))) = some r := h
 clear h
 have HC3 := Aside0.mk H
 clear H
 go_enter Try.func32, Try.ntmps32
 go_upto_region 1 with (first | ((with_reducible refine gate_dst (N := 2) rfl ?_); (try (refine gate_guard (by rfl) ?_; dsimp only)); refine be 2 #[.int .i64 a0_0, .slice A0_1 l0_1.length c0_1] 31 ?_; intro gb104 hg w4 hbox hb; have BK104 := q0 (hbox); have GW104 := q0 ((bs HB.out hg : w.heap.size ≤ gb104)); have GE104 := q0 ((bs HB.out hg : w.heap.size ≤ gb104)); replace HB := q0 (below_step (qb HB.out) hb); clear hb hbox hg))
 (try simp only [Act.put, List.setIfInBounds_toArray, List.set_cons_zero, List.set_cons_succ])
 go_cut [13] (fun v13 wc => ∃ (kq : Nat) (x13_2 : Bool), v13 = .bool x13_2 ∧ Aside0 (spec_WayOk.j0 kq l1 x13_2 a0_0 l0_1 = some r) ∧ Aside0 (kq ≤ k) ∧ Aside0 (wc.heap[gb104]? = some (.cells #[.int .i64 a0_0, (.slice A0_1 l0_1.length c0_1)] 31 (0, 0))) ∧ Aside0 (Below w.heap.size w wc))
 case first =>
   have H := HC3.out
   clear HC3
   replace H := Option.bind_eq_some_iff.mp H
   obtain ⟨t100, A50, H⟩ := H
   have A5 := Aside0.mk A50
   clear A50
   by_cases c6 : t100 = true
   · subst c6
     rw [if_pos rfl] at H
     have H' := Aside0.mk H
     clear H
     have hcz7_0 : w4.cell? ⟨gb104, 0, none⟩ = some (.int .i64 a0_0) := (blk_cell BK104.out 0).trans rfl
     have hcz7_1 : w4.cell? ⟨gb104, 1, none⟩ = some (.slice A0_1 l0_1.length c0_1) := (blk_cell BK104.out 1).trans rfl
     have hfz7_0 := blk_frozen BK104.out 0
     have hfz7_1 := blk_frozen BK104.out 1
     go_wp2_with (first | ((with_reducible refine gate_callee (f := 57) rfl ?_); refine gl 7 Try.func57 #[.agg #[.int .i64 a0_0, .slice A0_1 l0_1.length c0_1]] ?_; (with_reducible refine (spec_NetOk.calls k a0_0 _ _ l0_1 true _ ?side1 ?side2 A5.out).mono ?_); (case side1 => exact qc (Kd.C_below HR0_1.out HB.out)); (case side2 => exact HC0_1.out); rintro e w8 ⟨rfl, hb⟩; refine ⟨_, rfl, ?_⟩; replace BK104 := q0 (kb BK104.out hb); replace HB := q0 (below_step (qb HB.out) hb); (try clear hb); (try clear hb2); (try clear hk); (try clear hi)))
     go_meet
     case rel => exact ⟨_, (decide ((l1.length : Int) < 1)), qs, H', ⟨by first | omega | exact Nat.le_refl _⟩, ⟨qk BK104.out⟩, ⟨qb HB.out⟩⟩
   replace c6 := Bool.eq_false_iff.mpr c6
   subst c6
   rw [if_neg nf] at H
   have H' := Aside0.mk H
   clear H
   have hcz9_0 : w4.cell? ⟨gb104, 0, none⟩ = some (.int .i64 a0_0) := (blk_cell BK104.out 0).trans rfl
   have hcz9_1 : w4.cell? ⟨gb104, 1, none⟩ = some (.slice A0_1 l0_1.length c0_1) := (blk_cell BK104.out 1).trans rfl
   have hfz9_0 := blk_frozen BK104.out 0
   have hfz9_1 := blk_frozen BK104.out 1
   go_wp2_with (first | ((with_reducible refine gate_callee (f := 57) rfl ?_); refine gl 7 Try.func57 #[.agg #[.int .i64 a0_0, .slice A0_1 l0_1.length c0_1]] ?_; (with_reducible refine (spec_NetOk.calls k a0_0 _ _ l0_1 false _ ?side1 ?side2 A5.out).mono ?_); (case side1 => exact qc (Kd.C_below HR0_1.out HB.out)); (case side2 => exact HC0_1.out); rintro e w10 ⟨rfl, hb⟩; refine ⟨_, rfl, ?_⟩; replace BK104 := q0 (kb BK104.out hb); replace HB := q0 (below_step (qb HB.out) hb); (try clear hb); (try clear hb2); (try clear hk); (try clear hi)))
   go_meet
   case rel => exact ⟨_, (true), qs, H', ⟨by first | omega | exact Nat.le_refl _⟩, ⟨qk BK104.out⟩, ⟨qb HB.out⟩⟩
 clear HC3
 try clear c1
 try clear p2
 try clear c3
 try clear c5
 try clear c6
 try clear hcz7_0
 try clear hcz7_1
 try clear hcz9_0
 try clear hcz9_1
 try clear hfz7_0
 try clear hfz7_1
 try clear hfz9_0
 try clear hfz9_1
 obtain ⟨kq, x13_2, rfl, HA, HJ2, BK104, HB⟩ := hcut
 rcases kq with _ | kj2
 · exact absurd HA.out (by simp [spec_WayOk.j0])
 have H := HA.out
 clear HA
 simp only [spec_WayOk.j0] at H
 by_cases c11 : x13_2 = true
 · subst c11
   rw [if_pos rfl] at H
   obtain rfl := Option.some.inj H
   go_wp2
   go_ret
   exact ⟨qe, qb HB.out⟩
 replace c11 := Bool.eq_false_iff.mpr c11
 subst c11
 rw [if_neg nf] at H
 have H' := Aside0.mk H
 clear H
 go_wp2
 go_loopg [5] kj2 (fun kq v5 w' => ∃ (x5_2 : Int), v5 = .int .i64 x5_2 ∧ Aside0 (spec_WayOk.l0 kq l1 x5_2 a0_0 l0_1 = some r) ∧ Aside0 (kq ≤ kj2) ∧ Aside0 (w'.heap[gb104]? = some (.cells #[.int .i64 a0_0, (.slice A0_1 l0_1.length c0_1)] 31 (0, 0))) ∧ Aside0 (Below w.heap.size w w'))
 case atStart => exact ⟨(0), qs, H', ⟨Nat.le_refl _⟩, ⟨qk BK104.out⟩, ⟨qb HB.out⟩⟩
 clear H'
 try clear c1
 try clear p2
 try clear c3
 try clear c5
 try clear c6
 try clear c11
 try clear hcz7_0
 try clear hcz7_1
 try clear hcz9_0
 try clear hcz9_1
 try clear hfz7_0
 try clear hfz7_1
 try clear hfz9_0
 try clear hfz9_1
 try clear p2
 obtain ⟨x5_2, rfl, HA, HK2, BK104, HB⟩ := hrel
 rcases gk with _ | k2
 · exact absurd HA.out (by simp [spec_WayOk.l0])
 have H := HA.out
 clear HA
 simp only [spec_WayOk.l0] at H
 by_cases c12 : x5_2 < (l1.length : Int)
 rotate_left
 · rw [if_neg c12] at H
   have c12b0 : decide (x5_2 < (l1.length : Int)) = false := decide_eq_false c12
   clear c12
   obtain rfl := Option.some.inj H
   go_wp2
   go_ret
   exact ⟨qe, qb HB.out⟩
 rw [if_pos c12] at H
 have c12b0 : decide (x5_2 < (l1.length : Int)) = true := decide_eq_true c12
 clear c12
 by_cases c13 : 0 ≤ x5_2
 rotate_left
 · rw [if_neg c13] at H
   exact absurd H (by simp)
 rw [if_pos c13] at H
 have c13b0 : decide (0 ≤ x5_2) = true := decide_eq_true c13
 clear c13
 replace H := Option.bind_eq_some_iff.mp H
 obtain ⟨t101, A105, H⟩ := H
 have A14 := Aside0.mk A105
 clear A105
 by_cases c15 : t101 = true
 rotate_left
 · replace c15 := Bool.eq_false_iff.mpr c15
   subst c15
   rw [if_neg nf] at H
   obtain rfl := Option.some.inj H
   try go_wp2
   replace BK104 := q0 (blk_drew BK104.out)
   replace HB := q0 (below_drew1 HB.out)
   have p107 : 0 ≤ (x5_2 : Int) := of_decide_eq_true qa
   have q107 : x5_2 < (l1.length : Int) := of_decide_eq_true qa
   obtain ⟨ad107, e107, hx107_0⟩ := Kd.at_int HR1.out x5_2 p107 q107
   have hw107_0 := hx107_0
   cases e107
   replace hx107_0 := (HB.out.cell (World.block_lt_of_cell? w _ hx107_0)).trans hx107_0
   replace p107 := eq_true p107
   replace q107 := eq_true q107
   refine start_ (n := 35) (S := fun w' => w'.cell? ⟨gb104, 0, none⟩ = some (.int .i64 a0_0) ∧ w'.cell? ⟨gb104, 1, none⟩ = some (.slice A0_1 l0_1.length c0_1) ∧ w'.cell? (ad107.add (x5_2).toNat) = some (.int .i64 (rd l1 x5_2))) (ds := []) (ba 35 0) (by kernel_rfl) rfl (by kernel_rfl) ⟨(blk_cell BK104.out 0).trans rfl, (blk_cell BK104.out 1).trans rfl, ((HB.out.cell (World.block_lt_of_cell? w _ hw107_0)).trans hw107_0)⟩ (fun hHeld => ?_); refine with_tabW spec_WayOk.tab6 spec_WayOk.bits6 (fun HT_ HW_ => ?_)
   generalize wr.drew = w40 at BK104 HB hx107_0 hHeld ⊢
   refine pu 1 (some 21) (ba 35 2) HT_.out ?_
   refine pu 2 (some 22) (ba 35 6) HT_.out ?_
   refine pu 3 (some 23) (ba 35 14) HT_.out ?_
   refine tu 0 (some 20) (ba 35 15) HT_.out HW_.out hHeld ?_
   refine tu 4 (some 24) (ba 35 31) HT_.out HW_.out hHeld ?_
   refine one_ (i := 5) (N := some 25) (ba 35 63) rfl rfl (one_of HT_.out (by kernel_rfl)) (by decide) (fun K hK => ?_)
   refine goes_ Try.func40 (by kernel_rfl) rfl #[.agg #[.int .i64 a0_0, .slice A0_1 l0_1.length c0_1], .int .i64 (rd l1 x5_2)] (by rfl) rfl rfl qm ?_
   with_reducible refine (spec_l1Knot.calls k2 a0_0 _ _ l0_1 (rd l1 x5_2) false _ ?side1 ?side2 A14.out).mono ?_
   (case side1 => exact qc (Kd.C_below HR0_1.out HB.out))
   (case side2 => exact HC0_1.out)
   rintro e w41 ⟨rfl, hb⟩
   refine ⟨_, rfl, ?_⟩
   replace BK104 := q0 (kb BK104.out hb)
   replace HB := q0 (below_step (qb HB.out) hb)
   (try clear hb)
   (try clear hb2)
   (try clear hk)
   (try clear hi)
   refine hK.out _ _ ⟨(blk_cell BK104.out 0).trans rfl, (blk_cell BK104.out 1).trans rfl, ((HB.out.cell (World.block_lt_of_cell? w _ hw107_0)).trans hw107_0)⟩ (fun hHeld => ?_)
   clear hK K
   refine nu 25 ?_
   refine pu 6 (some 26) (ba 35 127) HT_.out ?_
   refine pu 7 (some 27) (ba 35 255) HT_.out ?_
   refine pv 8 (some 28) (ba 35 511) HT_.out ?_
   refine pv 9 (some 29) (ba 35 1023) HT_.out ?_
   refine pv 10 (some 30) (ba 35 2047) HT_.out ?_
   refine pv 11 (some 31) (ba 35 4095) HT_.out ?_
   refine pv 12 (some 32) (ba 35 8191) HT_.out ?_
   refine pv 13 (some 33) (ba 35 16383) HT_.out ?_
   refine pv 14 (some 34) (ba 35 32767) HT_.out ?_
   refine pv 15 (some 35) (ba 35 65535) HT_.out ?_
   refine pu 16 (some 36) (ba 35 131071) HT_.out ?_
   refine pu 17 (some 37) (ba 35 262143) HT_.out ?_
   refine pv 18 (some 38) (ba 35 524287) HT_.out ?_
   refine pv 19 (some 39) (ba 35 1048575) HT_.out ?_
   refine pv 20 (some 40) (ba 35 2097151) HT_.out ?_
   refine pv 21 (some 41) (ba 35 4194303) HT_.out ?_
   refine pv 22 (some 42) (ba 35 8388607) HT_.out ?_
   refine pv 23 (some 43) (ba 35 16777215) HT_.out ?_
   refine pv 24 (some 44) (ba 35 33554431) HT_.out ?_
   refine pv 25 (some 45) (ba 35 67108863) HT_.out ?_
   refine pv 26 (some 46) (ba 35 134217727) HT_.out ?_
   refine pv 27 (some 47) (ba 35 268435455) HT_.out ?_
   refine pv 28 (some 48) (ba 35 536870911) HT_.out ?_
   refine pv 29 (some 49) (ba 35 1073741823) HT_.out ?_
   refine pv 30 (some 50) (ba 35 2147483647) HT_.out ?_
   refine pv 31 (some 51) (ba 35 4294967295) HT_.out ?_
   refine pv 32 (some 52) (ba 35 8589934591) HT_.out ?_
   refine pv 33 (some 53) (ba 35 17179869183) HT_.out ?_
   refine pu 34 (some 54) (ba 35 34359738367) HT_.out ?_
   refine done_ (done_of HT_.out (by kernel_rfl)) ?_
   try go_wp2
   go_ret
   exact ⟨qe, qb HB.out⟩
 subst c15
 rw [if_pos rfl] at H
 have c16b0 := eq_true (of_decide_eq_true qa : 0 ≤ x5_2)
 by_cases c17 : x5_2 ≤ (l1.length : Int)
 rotate_left
 · rw [if_neg c17] at H
   exact absurd H (by simp)
 rw [if_pos c17] at H
 have c17b0 := eq_true c17
 have c17b1 : decide (x5_2 ≤ (l1.length : Int)) = true := decide_eq_true c17
 clear c17
 replace H := Option.bind_eq_some_iff.mp H
 obtain ⟨t102, A106, H⟩ := H
 have A18 := Aside0.mk A106
 clear A106
 by_cases c19 : t102 = true
 · subst c19
   rw [if_pos rfl] at H
   obtain rfl := Option.some.inj H
   try go_wp2
   replace BK104 := q0 (blk_drew BK104.out)
   replace HB := q0 (below_drew1 HB.out)
   have p107 : 0 ≤ (x5_2 : Int) := of_decide_eq_true qa
   have q107 : x5_2 < (l1.length : Int) := of_decide_eq_true qa
   obtain ⟨ad107, e107, hx107_0⟩ := Kd.at_int HR1.out x5_2 p107 q107
   have hw107_0 := hx107_0
   cases e107
   replace hx107_0 := (HB.out.cell (World.block_lt_of_cell? w _ hx107_0)).trans hx107_0
   replace p107 := eq_true p107
   replace q107 := eq_true q107
   have p108 : 0 ≤ (x5_2 : Int) := of_decide_eq_true qa
   have q108 : x5_2 < (l1.length : Int) := of_decide_eq_true qa
   obtain ⟨ad108, e108, hx108_0⟩ := Kd.at_int HR1.out x5_2 p108 q108
   have hw108_0 := hx108_0
   obtain rfl : ad107 = ad108 := (by injection e108)
   replace hx108_0 := (HB.out.cell (World.block_lt_of_cell? w _ hx108_0)).trans hx108_0
   replace p108 := eq_true p108
   replace q108 := eq_true q108
   refine start_ (n := 35) (S := fun w' => w'.cell? ⟨gb104, 0, none⟩ = some (.int .i64 a0_0) ∧ w'.cell? ⟨gb104, 1, none⟩ = some (.slice A0_1 l0_1.length c0_1) ∧ w'.cell? (ad107.add (x5_2).toNat) = some (.int .i64 (rd l1 x5_2)) ∧ w'.cell? (ad107.add (x5_2).toNat) = some (.int .i64 (rd l1 x5_2))) (ds := []) (ba 35 0) (by kernel_rfl) rfl (by kernel_rfl) ⟨(blk_cell BK104.out 0).trans rfl, (blk_cell BK104.out 1).trans rfl, ((HB.out.cell (World.block_lt_of_cell? w _ hw107_0)).trans hw107_0), ((HB.out.cell (World.block_lt_of_cell? w _ hw108_0)).trans hw108_0)⟩ (fun hHeld => ?_); refine with_tabW spec_WayOk.tab6 spec_WayOk.bits6 (fun HT_ HW_ => ?_)
   generalize wr.drew = w20 at BK104 HB hx107_0 hx108_0 hHeld ⊢
   refine pu 1 (some 21) (ba 35 2) HT_.out ?_
   refine pu 2 (some 22) (ba 35 6) HT_.out ?_
   refine pu 3 (some 23) (ba 35 14) HT_.out ?_
   refine tu 0 (some 20) (ba 35 15) HT_.out HW_.out hHeld ?_
   refine tu 4 (some 24) (ba 35 31) HT_.out HW_.out hHeld ?_
   refine one_ (i := 5) (N := some 25) (ba 35 63) rfl rfl (one_of HT_.out (by kernel_rfl)) (by decide) (fun K hK => ?_)
   refine goes_ Try.func40 (by kernel_rfl) rfl #[.agg #[.int .i64 a0_0, .slice A0_1 l0_1.length c0_1], .int .i64 (rd l1 x5_2)] (by rfl) rfl rfl qm ?_
   with_reducible refine (spec_l1Knot.calls k2 a0_0 _ _ l0_1 (rd l1 x5_2) true _ ?side1 ?side2 A14.out).mono ?_
   (case side1 => exact qc (Kd.C_below HR0_1.out HB.out))
   (case side2 => exact HC0_1.out)
   rintro e w21 ⟨rfl, hb⟩
   refine ⟨_, rfl, ?_⟩
   replace BK104 := q0 (kb BK104.out hb)
   replace HB := q0 (below_step (qb HB.out) hb)
   (try clear hb)
   (try clear hb2)
   (try clear hk)
   (try clear hi)
   obtain ⟨i109, hi109, _, hsz22, _⟩ := info_parts info3
   obtain ⟨hcut22, hA22, hC22⟩ := print_take_of (P := Try.prog) (Value.int .i64) 0 26 3 .i64 Try.underlying26 hi109 hsz22 (some ad107) c1 l1 x5_2 (of_decide_eq_true qa) (of_decide_eq_true qa) HC1.out
   have HR110 := q0 (Kd.C_of_reads (h1 := fun _ => rfl) (hA22 _ (Kd.reads_of_C HR1.out)))
   have HC110 := Aside0.mk hC22
   clear hA22 hC22 hi109 hsz22
   refine hK.out _ _ ⟨(blk_cell BK104.out 0).trans rfl, (blk_cell BK104.out 1).trans rfl, ((HB.out.cell (World.block_lt_of_cell? w _ hw107_0)).trans hw107_0), ((HB.out.cell (World.block_lt_of_cell? w _ hw108_0)).trans hw108_0)⟩ (fun hHeld => ?_)
   clear hK K
   refine nu 25 ?_
   refine pu 6 (some 26) (ba 35 127) HT_.out ?_
   refine pu 7 (some 27) (ba 35 255) HT_.out ?_
   refine pu 8 (some 28) (ba 35 511) HT_.out ?_
   refine pu 9 (some 29) (ba 35 1023) HT_.out ?_
   refine pu 10 (some 30) (ba 35 2047) HT_.out ?_
   refine pu 11 (some 31) (ba 35 4095) HT_.out ?_
   refine pu 12 (some 32) (ba 35 8191) HT_.out ?_
   refine pu 13 (some 33) (ba 35 16383) HT_.out ?_
   refine tu 14 (some 34) (ba 35 32767) HT_.out HW_.out hHeld ?_
   refine one_ (i := 15) (N := some 35) (ba 35 65535) rfl rfl (one_of HT_.out (by kernel_rfl)) (by decide) (fun K hK => ?_)
   refine goes_ Try.func58 (by kernel_rfl) rfl #[.slice (some ad107) (l1.take (x5_2 : Int).toNat).length c1, .int .i64 (rd l1 x5_2)] (by rfl) rfl rfl (by (try simp only [List.map_toArray, List.map_cons, List.map_nil]); first | done | (rw [show (l1.take (x5_2 : Int).toNat).length = x5_2.toNat from (by rw [List.length_take]; have h_ : (x5_2 : Int) ≤ (l1.length : Int) := of_decide_eq_true qa; omega)] <;> rfl) | rfl | (simp only [List.length_drop, List.length_take]; rfl)) ?_
   with_reducible refine (spec_l2Has.calls k2 _ _ (l1.take (x5_2 : Int).toNat) (rd l1 x5_2) true _ ?side1 ?side2 A18.out).mono ?_
   (case side1 => exact qc (Kd.C_below HR110.out HB.out))
   (case side2 => exact HC110.out)
   rintro e w' ⟨rfl, ⟨nd, rfl⟩⟩
   refine ⟨_, rfl, ?_⟩
   refine hK.out _ _ ⟨(blk_cell BK104.out 0).trans rfl, (blk_cell BK104.out 1).trans rfl, ((HB.out.cell (World.block_lt_of_cell? w _ hw107_0)).trans hw107_0), ((HB.out.cell (World.block_lt_of_cell? w _ hw108_0)).trans hw108_0)⟩ (fun hHeld => ?_)
   clear hK K
   refine nu 35 ?_
   refine pu 16 (some 36) (ba 35 131071) HT_.out ?_
   refine pu 17 (some 37) (ba 35 262143) HT_.out ?_
   refine pv 18 (some 38) (ba 35 524287) HT_.out ?_
   refine pv 19 (some 39) (ba 35 1048575) HT_.out ?_
   refine pv 20 (some 40) (ba 35 2097151) HT_.out ?_
   refine pv 21 (some 41) (ba 35 4194303) HT_.out ?_
   refine pv 22 (some 42) (ba 35 8388607) HT_.out ?_
   refine pv 23 (some 43) (ba 35 16777215) HT_.out ?_
   refine pv 24 (some 44) (ba 35 33554431) HT_.out ?_
   refine pv 25 (some 45) (ba 35 67108863) HT_.out ?_
   refine pv 26 (some 46) (ba 35 134217727) HT_.out ?_
   refine pv 27 (some 47) (ba 35 268435455) HT_.out ?_
   refine pv 28 (some 48) (ba 35 536870911) HT_.out ?_
   refine pv 29 (some 49) (ba 35 1073741823) HT_.out ?_
   refine pv 30 (some 50) (ba 35 2147483647) HT_.out ?_
   refine pv 31 (some 51) (ba 35 4294967295) HT_.out ?_
   refine pv 32 (some 52) (ba 35 8589934591) HT_.out ?_
   refine pv 33 (some 53) (ba 35 17179869183) HT_.out ?_
   refine pu 34 (some 54) (ba 35 34359738367) HT_.out ?_
   refine done_ (done_of HT_.out (by kernel_rfl)) ?_
   try go_wp2
   go_ret
   exact ⟨qe, qb HB.out⟩
 replace c19 := Bool.eq_false_iff.mpr c19
 subst c19
 rw [if_neg nf] at H
 by_cases c23 : x5_2 > 0
 rotate_left
 · rw [if_neg c23] at H
   have c23b0 : decide (0 < x5_2) = false := decide_eq_false c23
   clear c23
   have H' := Aside0.mk H
   clear H
   try go_wp2
   replace BK104 := q0 (blk_drew BK104.out)
   replace HB := q0 (below_drew1 HB.out)
   have p107 : 0 ≤ (x5_2 : Int) := of_decide_eq_true qa
   have q107 : x5_2 < (l1.length : Int) := of_decide_eq_true qa
   obtain ⟨ad107, e107, hx107_0⟩ := Kd.at_int HR1.out x5_2 p107 q107
   have hw107_0 := hx107_0
   cases e107
   replace hx107_0 := (HB.out.cell (World.block_lt_of_cell? w _ hx107_0)).trans hx107_0
   replace p107 := eq_true p107
   replace q107 := eq_true q107
   have p108 : 0 ≤ (x5_2 : Int) := of_decide_eq_true qa
   have q108 : x5_2 < (l1.length : Int) := of_decide_eq_true qa
   obtain ⟨ad108, e108, hx108_0⟩ := Kd.at_int HR1.out x5_2 p108 q108
   have hw108_0 := hx108_0
   obtain rfl : ad107 = ad108 := (by injection e108)
   replace hx108_0 := (HB.out.cell (World.block_lt_of_cell? w _ hx108_0)).trans hx108_0
   replace p108 := eq_true p108
   replace q108 := eq_true q108
   refine start_ (n := 35) (S := fun w' => w'.cell? ⟨gb104, 0, none⟩ = some (.int .i64 a0_0) ∧ w'.cell? ⟨gb104, 1, none⟩ = some (.slice A0_1 l0_1.length c0_1) ∧ w'.cell? (ad107.add (x5_2).toNat) = some (.int .i64 (rd l1 x5_2)) ∧ w'.cell? (ad107.add (x5_2).toNat) = some (.int .i64 (rd l1 x5_2))) (ds := []) (ba 35 0) (by kernel_rfl) rfl (by kernel_rfl) ⟨(blk_cell BK104.out 0).trans rfl, (blk_cell BK104.out 1).trans rfl, ((HB.out.cell (World.block_lt_of_cell? w _ hw107_0)).trans hw107_0), ((HB.out.cell (World.block_lt_of_cell? w _ hw108_0)).trans hw108_0)⟩ (fun hHeld => ?_); refine with_tabW spec_WayOk.tab6 spec_WayOk.bits6 (fun HT_ HW_ => ?_)
   generalize wr.drew = w37 at BK104 HB hx107_0 hx108_0 hHeld ⊢
   refine pu 1 (some 21) (ba 35 2) HT_.out ?_
   refine pu 2 (some 22) (ba 35 6) HT_.out ?_
   refine pu 3 (some 23) (ba 35 14) HT_.out ?_
   refine tu 0 (some 20) (ba 35 15) HT_.out HW_.out hHeld ?_
   refine tu 4 (some 24) (ba 35 31) HT_.out HW_.out hHeld ?_
   refine one_ (i := 5) (N := some 25) (ba 35 63) rfl rfl (one_of HT_.out (by kernel_rfl)) (by decide) (fun K hK => ?_)
   refine goes_ Try.func40 (by kernel_rfl) rfl #[.agg #[.int .i64 a0_0, .slice A0_1 l0_1.length c0_1], .int .i64 (rd l1 x5_2)] (by rfl) rfl rfl qm ?_
   with_reducible refine (spec_l1Knot.calls k2 a0_0 _ _ l0_1 (rd l1 x5_2) true _ ?side1 ?side2 A14.out).mono ?_
   (case side1 => exact qc (Kd.C_below HR0_1.out HB.out))
   (case side2 => exact HC0_1.out)
   rintro e w38 ⟨rfl, hb⟩
   refine ⟨_, rfl, ?_⟩
   replace BK104 := q0 (kb BK104.out hb)
   replace HB := q0 (below_step (qb HB.out) hb)
   (try clear hb)
   (try clear hb2)
   (try clear hk)
   (try clear hi)
   obtain ⟨i116, hi116, _, hsz39, _⟩ := info_parts info3
   obtain ⟨hcut39, hA39, hC39⟩ := print_take_of (P := Try.prog) (Value.int .i64) 0 26 3 .i64 Try.underlying26 hi116 hsz39 (some ad107) c1 l1 x5_2 (of_decide_eq_true qa) (of_decide_eq_true qa) HC1.out
   have HR110 := q0 (Kd.C_of_reads (h1 := fun _ => rfl) (hA39 _ (Kd.reads_of_C HR1.out)))
   have HC110 := Aside0.mk hC39
   clear hA39 hC39 hi116 hsz39
   refine hK.out _ _ ⟨(blk_cell BK104.out 0).trans rfl, (blk_cell BK104.out 1).trans rfl, ((HB.out.cell (World.block_lt_of_cell? w _ hw107_0)).trans hw107_0), ((HB.out.cell (World.block_lt_of_cell? w _ hw108_0)).trans hw108_0)⟩ (fun hHeld => ?_)
   clear hK K
   refine nu 25 ?_
   refine pu 6 (some 26) (ba 35 127) HT_.out ?_
   refine pu 7 (some 27) (ba 35 255) HT_.out ?_
   refine pu 8 (some 28) (ba 35 511) HT_.out ?_
   refine pu 9 (some 29) (ba 35 1023) HT_.out ?_
   refine pu 10 (some 30) (ba 35 2047) HT_.out ?_
   refine pu 11 (some 31) (ba 35 4095) HT_.out ?_
   refine pu 12 (some 32) (ba 35 8191) HT_.out ?_
   refine pu 13 (some 33) (ba 35 16383) HT_.out ?_
   refine tu 14 (some 34) (ba 35 32767) HT_.out HW_.out hHeld ?_
   refine one_ (i := 15) (N := some 35) (ba 35 65535) rfl rfl (one_of HT_.out (by kernel_rfl)) (by decide) (fun K hK => ?_)
   refine goes_ Try.func58 (by kernel_rfl) rfl #[.slice (some ad107) (l1.take (x5_2 : Int).toNat).length c1, .int .i64 (rd l1 x5_2)] (by rfl) rfl rfl (by (try simp only [List.map_toArray, List.map_cons, List.map_nil]); first | done | (rw [show (l1.take (x5_2 : Int).toNat).length = x5_2.toNat from (by rw [List.length_take]; have h_ : (x5_2 : Int) ≤ (l1.length : Int) := of_decide_eq_true qa; omega)] <;> rfl) | rfl | (simp only [List.length_drop, List.length_take]; rfl)) ?_
   with_reducible refine (spec_l2Has.calls k2 _ _ (l1.take (x5_2 : Int).toNat) (rd l1 x5_2) false _ ?side1 ?side2 A18.out).mono ?_
   (case side1 => exact qc (Kd.C_below HR110.out HB.out))
   (case side2 => exact HC110.out)
   rintro e w' ⟨rfl, ⟨nd, rfl⟩⟩
   refine ⟨_, rfl, ?_⟩
   refine hK.out _ _ ⟨(blk_cell BK104.out 0).trans rfl, (blk_cell BK104.out 1).trans rfl, ((HB.out.cell (World.block_lt_of_cell? w _ hw107_0)).trans hw107_0), ((HB.out.cell (World.block_lt_of_cell? w _ hw108_0)).trans hw108_0)⟩ (fun hHeld => ?_)
   clear hK K
   refine nu 35 ?_
   refine pu 16 (some 36) (ba 35 131071) HT_.out ?_
   refine pu 17 (some 37) (ba 35 262143) HT_.out ?_
   refine pu 18 (some 38) (ba 35 524287) HT_.out ?_
   refine pu 19 (some 39) (ba 35 1048575) HT_.out ?_
   refine pu 20 (some 40) (ba 35 2097151) HT_.out ?_
   refine pv 21 (some 41) (ba 35 4194303) HT_.out ?_
   refine pv 22 (some 42) (ba 35 8388607) HT_.out ?_
   refine pv 23 (some 43) (ba 35 16777215) HT_.out ?_
   refine pv 24 (some 44) (ba 35 33554431) HT_.out ?_
   refine pv 25 (some 45) (ba 35 67108863) HT_.out ?_
   refine pv 26 (some 46) (ba 35 134217727) HT_.out ?_
   refine pv 27 (some 47) (ba 35 268435455) HT_.out ?_
   refine pv 28 (some 48) (ba 35 536870911) HT_.out ?_
   refine pv 29 (some 49) (ba 35 1073741823) HT_.out ?_
   refine pv 30 (some 50) (ba 35 2147483647) HT_.out ?_
   refine pv 31 (some 51) (ba 35 4294967295) HT_.out ?_
   refine pv 32 (some 52) (ba 35 8589934591) HT_.out ?_
   refine pu 33 (some 53) (ba 35 17179869183) HT_.out ?_
   refine pu 34 (some 54) (ba 35 34359738367) HT_.out ?_
   refine done_ (done_of HT_.out (by kernel_rfl)) ?_
   try go_wp2
   go_roundg k2
   case measure => have := HJ2.out; have := HK2.out; omega
   case rel => exact ⟨(wrap64 (x5_2 + 1)), qs, H', ⟨by have := HJ2.out; have := HK2.out; omega⟩, ⟨qk BK104.out⟩, ⟨qb HB.out⟩⟩
 rw [if_pos c23] at H
 have c23b0 : decide (0 < x5_2) = true := decide_eq_true c23
 clear c23
 obtain ⟨ji24, hji24⟩ : ∃ j_ : Int, (wrap64 (x5_2 - 1)) = j_ := ⟨_, rfl⟩
 replace H : (if 0 ≤ (ji24) then (if (ji24) < (l1.length : Int) then ((spec_NetHas.f k2 a0_0 l0_1 (rd l1 (ji24)) (rd l1 x5_2)).bind fun t103 => (if t103 = true then (spec_WayOk.l0 k2 l1 (wrap64 (x5_2 + 1)) a0_0 l0_1) else (some false))) else (none)) else (none)) = some r := by first | (rw [hji24] at H; exact H) | (simp only [hji24] at H ⊢; exact H)
 (try rw [hji24] at A14)
 (try rw [hji24] at A18)
 have hji24w : (IntKind.i64.wrap (x5_2 - 1)) = ji24 := (i64_w _).trans hji24
 by_cases c25 : 0 ≤ (ji24)
 rotate_left
 · rw [if_neg c25] at H
   exact absurd H (by simp)
 rw [if_pos c25] at H
 have c25b0 : decide (0 ≤ (ji24)) = true := decide_eq_true c25
 clear c25
 by_cases c26 : (ji24) < (l1.length : Int)
 rotate_left
 · rw [if_neg c26] at H
   exact absurd H (by simp)
 rw [if_pos c26] at H
 have c26b0 : decide ((ji24) < (l1.length : Int)) = true := decide_eq_true c26
 clear c26
 replace H := Option.bind_eq_some_iff.mp H
 obtain ⟨t103, A111, H⟩ := H
 have A27 := Aside0.mk A111
 clear A111
 by_cases c28 : t103 = true
 rotate_left
 · replace c28 := Bool.eq_false_iff.mpr c28
   subst c28
   rw [if_neg nf] at H
   obtain rfl := Option.some.inj H
   try go_wp2
   replace BK104 := q0 (blk_drew BK104.out)
   replace HB := q0 (below_drew1 HB.out)
   have p107 : 0 ≤ (x5_2 : Int) := of_decide_eq_true qa
   have q107 : x5_2 < (l1.length : Int) := of_decide_eq_true qa
   obtain ⟨ad107, e107, hx107_0⟩ := Kd.at_int HR1.out x5_2 p107 q107
   have hw107_0 := hx107_0
   cases e107
   replace hx107_0 := (HB.out.cell (World.block_lt_of_cell? w _ hx107_0)).trans hx107_0
   replace p107 := eq_true p107
   replace q107 := eq_true q107
   have p108 : 0 ≤ (x5_2 : Int) := of_decide_eq_true qa
   have q108 : x5_2 < (l1.length : Int) := of_decide_eq_true qa
   obtain ⟨ad108, e108, hx108_0⟩ := Kd.at_int HR1.out x5_2 p108 q108
   have hw108_0 := hx108_0
   obtain rfl : ad107 = ad108 := (by injection e108)
   replace hx108_0 := (HB.out.cell (World.block_lt_of_cell? w _ hx108_0)).trans hx108_0
   replace p108 := eq_true p108
   replace q108 := eq_true q108
   have p112 : 0 ≤ ((ji24) : Int) := of_decide_eq_true qa
   have q112 : (ji24) < (l1.length : Int) := of_decide_eq_true qa
   obtain ⟨ad112, e112, hx112_0⟩ := Kd.at_int HR1.out (ji24) p112 q112
   have hw112_0 := hx112_0
   obtain rfl : ad107 = ad112 := (by injection e112)
   replace hx112_0 := (HB.out.cell (World.block_lt_of_cell? w _ hx112_0)).trans hx112_0
   replace p112 := eq_true p112
   replace q112 := eq_true q112
   have p113 : 0 ≤ (x5_2 : Int) := of_decide_eq_true qa
   have q113 : x5_2 < (l1.length : Int) := of_decide_eq_true qa
   obtain ⟨ad113, e113, hx113_0⟩ := Kd.at_int HR1.out x5_2 p113 q113
   have hw113_0 := hx113_0
   obtain rfl : ad107 = ad113 := (by injection e113)
   replace hx113_0 := (HB.out.cell (World.block_lt_of_cell? w _ hx113_0)).trans hx113_0
   replace p113 := eq_true p113
   replace q113 := eq_true q113
   refine start_ (n := 35) (S := fun w' => w'.cell? ⟨gb104, 0, none⟩ = some (.int .i64 a0_0) ∧ w'.cell? ⟨gb104, 1, none⟩ = some (.slice A0_1 l0_1.length c0_1) ∧ w'.cell? (ad107.add (x5_2).toNat) = some (.int .i64 (rd l1 x5_2)) ∧ w'.cell? (ad107.add (x5_2).toNat) = some (.int .i64 (rd l1 x5_2)) ∧ w'.cell? (ad107.add ((ji24)).toNat) = some (.int .i64 (rd l1 (ji24))) ∧ w'.cell? (ad107.add (x5_2).toNat) = some (.int .i64 (rd l1 x5_2))) (ds := []) (ba 35 0) (by kernel_rfl) rfl (by kernel_rfl) ⟨(blk_cell BK104.out 0).trans rfl, (blk_cell BK104.out 1).trans rfl, ((HB.out.cell (World.block_lt_of_cell? w _ hw107_0)).trans hw107_0), ((HB.out.cell (World.block_lt_of_cell? w _ hw108_0)).trans hw108_0), ((HB.out.cell (World.block_lt_of_cell? w _ hw112_0)).trans hw112_0), ((HB.out.cell (World.block_lt_of_cell? w _ hw113_0)).trans hw113_0)⟩ (fun hHeld => ?_); refine with_tabW spec_WayOk.tab6 spec_WayOk.bits6 (fun HT_ HW_ => ?_)
   generalize wr.drew = w33 at BK104 HB hx107_0 hx108_0 hx112_0 hx113_0 hHeld ⊢
   refine pu 1 (some 21) (ba 35 2) HT_.out ?_
   refine pu 2 (some 22) (ba 35 6) HT_.out ?_
   refine pu 3 (some 23) (ba 35 14) HT_.out ?_
   refine tu 0 (some 20) (ba 35 15) HT_.out HW_.out hHeld ?_
   refine tu 4 (some 24) (ba 35 31) HT_.out HW_.out hHeld ?_
   refine one_ (i := 5) (N := some 25) (ba 35 63) rfl rfl (one_of HT_.out (by kernel_rfl)) (by decide) (fun K hK => ?_)
   refine goes_ Try.func40 (by kernel_rfl) rfl #[.agg #[.int .i64 a0_0, .slice A0_1 l0_1.length c0_1], .int .i64 (rd l1 x5_2)] (by rfl) rfl rfl qm ?_
   with_reducible refine (spec_l1Knot.calls k2 a0_0 _ _ l0_1 (rd l1 x5_2) true _ ?side1 ?side2 A14.out).mono ?_
   (case side1 => exact qc (Kd.C_below HR0_1.out HB.out))
   (case side2 => exact HC0_1.out)
   rintro e w34 ⟨rfl, hb⟩
   refine ⟨_, rfl, ?_⟩
   replace BK104 := q0 (kb BK104.out hb)
   replace HB := q0 (below_step (qb HB.out) hb)
   (try clear hb)
   (try clear hb2)
   (try clear hk)
   (try clear hi)
   obtain ⟨i115, hi115, _, hsz35, _⟩ := info_parts info3
   obtain ⟨hcut35, hA35, hC35⟩ := print_take_of (P := Try.prog) (Value.int .i64) 0 26 3 .i64 Try.underlying26 hi115 hsz35 (some ad107) c1 l1 x5_2 (of_decide_eq_true qa) (of_decide_eq_true qa) HC1.out
   have HR110 := q0 (Kd.C_of_reads (h1 := fun _ => rfl) (hA35 _ (Kd.reads_of_C HR1.out)))
   have HC110 := Aside0.mk hC35
   clear hA35 hC35 hi115 hsz35
   refine hK.out _ _ ⟨(blk_cell BK104.out 0).trans rfl, (blk_cell BK104.out 1).trans rfl, ((HB.out.cell (World.block_lt_of_cell? w _ hw107_0)).trans hw107_0), ((HB.out.cell (World.block_lt_of_cell? w _ hw108_0)).trans hw108_0), ((HB.out.cell (World.block_lt_of_cell? w _ hw112_0)).trans hw112_0), ((HB.out.cell (World.block_lt_of_cell? w _ hw113_0)).trans hw113_0)⟩ (fun hHeld => ?_)
   clear hK K
   refine nu 25 ?_
   refine pu 6 (some 26) (ba 35 127) HT_.out ?_
   refine pu 7 (some 27) (ba 35 255) HT_.out ?_
   refine pu 8 (some 28) (ba 35 511) HT_.out ?_
   refine pu 9 (some 29) (ba 35 1023) HT_.out ?_
   refine pu 10 (some 30) (ba 35 2047) HT_.out ?_
   refine pu 11 (some 31) (ba 35 4095) HT_.out ?_
   refine pu 12 (some 32) (ba 35 8191) HT_.out ?_
   refine pu 13 (some 33) (ba 35 16383) HT_.out ?_
   refine tu 14 (some 34) (ba 35 32767) HT_.out HW_.out hHeld ?_
   refine one_ (i := 15) (N := some 35) (ba 35 65535) rfl rfl (one_of HT_.out (by kernel_rfl)) (by decide) (fun K hK => ?_)
   refine goes_ Try.func58 (by kernel_rfl) rfl #[.slice (some ad107) (l1.take (x5_2 : Int).toNat).length c1, .int .i64 (rd l1 x5_2)] (by rfl) rfl rfl (by (try simp only [List.map_toArray, List.map_cons, List.map_nil]); first | done | (rw [show (l1.take (x5_2 : Int).toNat).length = x5_2.toNat from (by rw [List.length_take]; have h_ : (x5_2 : Int) ≤ (l1.length : Int) := of_decide_eq_true qa; omega)] <;> rfl) | rfl | (simp only [List.length_drop, List.length_take]; rfl)) ?_
   with_reducible refine (spec_l2Has.calls k2 _ _ (l1.take (x5_2 : Int).toNat) (rd l1 x5_2) false _ ?side1 ?side2 A18.out).mono ?_
   (case side1 => exact qc (Kd.C_below HR110.out HB.out))
   (case side2 => exact HC110.out)
   rintro e w' ⟨rfl, ⟨nd, rfl⟩⟩
   refine ⟨_, rfl, ?_⟩
   refine hK.out _ _ ⟨(blk_cell BK104.out 0).trans rfl, (blk_cell BK104.out 1).trans rfl, ((HB.out.cell (World.block_lt_of_cell? w _ hw107_0)).trans hw107_0), ((HB.out.cell (World.block_lt_of_cell? w _ hw108_0)).trans hw108_0), ((HB.out.cell (World.block_lt_of_cell? w _ hw112_0)).trans hw112_0), ((HB.out.cell (World.block_lt_of_cell? w _ hw113_0)).trans hw113_0)⟩ (fun hHeld => ?_)
   clear hK K
   refine nu 35 ?_
   refine pu 16 (some 36) (ba 35 131071) HT_.out ?_
   refine pu 17 (some 37) (ba 35 262143) HT_.out ?_
   refine pu 18 (some 38) (ba 35 524287) HT_.out ?_
   refine pu 19 (some 39) (ba 35 1048575) HT_.out ?_
   refine pu 20 (some 40) (ba 35 2097151) HT_.out ?_
   refine pu 22 (some 42) (ba 35 6291455) HT_.out ?_
   refine pu 23 (some 43) (ba 35 14680063) HT_.out ?_
   refine pu 24 (some 44) (ba 35 31457279) HT_.out ?_
   refine pu 25 (some 45) (ba 35 65011711) HT_.out ?_
   refine pu 27 (some 47) (ba 35 199229439) HT_.out ?_
   refine pu 28 (some 48) (ba 35 467664895) HT_.out ?_
   refine pu 29 (some 49) (ba 35 1004535807) HT_.out ?_
   refine tu 21 (some 41) (ba 35 1006632959) HT_.out HW_.out hHeld ?_
   refine tu 26 (some 46) (ba 35 1073741823) HT_.out HW_.out hHeld ?_
   refine tu 30 (some 50) (ba 35 2147483647) HT_.out HW_.out hHeld ?_
   refine one_ (i := 31) (N := some 51) (ba 35 4294967295) rfl rfl (one_of HT_.out (by kernel_rfl)) (by decide) (fun K hK => ?_)
   refine goes_ Try.func59 (by kernel_rfl) rfl #[.agg #[.int .i64 a0_0, .slice A0_1 l0_1.length c0_1], .int .i64 (rd l1 (ji24)), .int .i64 (rd l1 x5_2)] (by rfl) rfl rfl (by (try simp only [List.map_toArray, List.map_cons, List.map_nil]); first | done | (simp only [hji24]; rfl) | rfl | (simp only [List.length_drop, List.length_take]; rfl)) ?_
   with_reducible refine (spec_NetHas.calls k2 a0_0 _ _ l0_1 (rd l1 (ji24)) (rd l1 x5_2) false _ ?side1 ?side2 A27.out).mono ?_
   (case side1 => exact qc (Kd.C_below HR0_1.out (qb HB.out)))
   (case side2 => exact HC0_1.out)
   rintro e w36 ⟨rfl, hb⟩
   refine ⟨_, rfl, ?_⟩
   replace BK104 := q0 (kb BK104.out hb)
   replace HB := q0 (below_step (qb HB.out) hb)
   (try clear hb)
   (try clear hb2)
   (try clear hk)
   (try clear hi)
   refine hK.out _ _ ⟨(blk_cell BK104.out 0).trans rfl, (blk_cell BK104.out 1).trans rfl, ((HB.out.cell (World.block_lt_of_cell? w _ hw107_0)).trans hw107_0), ((HB.out.cell (World.block_lt_of_cell? w _ hw108_0)).trans hw108_0), ((HB.out.cell (World.block_lt_of_cell? w _ hw112_0)).trans hw112_0), ((HB.out.cell (World.block_lt_of_cell? w _ hw113_0)).trans hw113_0)⟩ (fun hHeld => ?_)
   clear hK K
   refine nu 51 ?_
   refine pu 32 (some 52) (ba 35 8589934591) HT_.out ?_
   refine pu 33 (some 53) (ba 35 17179869183) HT_.out ?_
   refine pu 34 (some 54) (ba 35 34359738367) HT_.out ?_
   refine done_ (done_of HT_.out (by kernel_rfl)) ?_
   try go_wp2
   go_ret
   exact ⟨by first | rfl | (simp [errW_none, errW_some] <;> rfl) | (simp only [← hji24]; first | rfl | (simp [errW_none, errW_some] <;> rfl)) | (simp [*, errW_none, errW_some] <;> rfl), qb HB.out⟩
 subst c28
 rw [if_pos rfl] at H
 have H' := Aside0.mk H
 clear H
 try go_wp2
 replace BK104 := q0 (blk_drew BK104.out)
 replace HB := q0 (below_drew1 HB.out)
 have p107 : 0 ≤ (x5_2 : Int) := of_decide_eq_true qa
 have q107 : x5_2 < (l1.length : Int) := of_decide_eq_true qa
 obtain ⟨ad107, e107, hx107_0⟩ := Kd.at_int HR1.out x5_2 p107 q107
 have hw107_0 := hx107_0
 cases e107
 replace hx107_0 := (HB.out.cell (World.block_lt_of_cell? w _ hx107_0)).trans hx107_0
 replace p107 := eq_true p107
 replace q107 := eq_true q107
 have p108 : 0 ≤ (x5_2 : Int) := of_decide_eq_true qa
 have q108 : x5_2 < (l1.length : Int) := of_decide_eq_true qa
 obtain ⟨ad108, e108, hx108_0⟩ := Kd.at_int HR1.out x5_2 p108 q108
 have hw108_0 := hx108_0
 obtain rfl : ad107 = ad108 := (by injection e108)
 replace hx108_0 := (HB.out.cell (World.block_lt_of_cell? w _ hx108_0)).trans hx108_0
 replace p108 := eq_true p108
 replace q108 := eq_true q108
 have p112 : 0 ≤ ((ji24) : Int) := of_decide_eq_true qa
 have q112 : (ji24) < (l1.length : Int) := of_decide_eq_true qa
 obtain ⟨ad112, e112, hx112_0⟩ := Kd.at_int HR1.out (ji24) p112 q112
 have hw112_0 := hx112_0
 obtain rfl : ad107 = ad112 := (by injection e112)
 replace hx112_0 := (HB.out.cell (World.block_lt_of_cell? w _ hx112_0)).trans hx112_0
 replace p112 := eq_true p112
 replace q112 := eq_true q112
 have p113 : 0 ≤ (x5_2 : Int) := of_decide_eq_true qa
 have q113 : x5_2 < (l1.length : Int) := of_decide_eq_true qa
 obtain ⟨ad113, e113, hx113_0⟩ := Kd.at_int HR1.out x5_2 p113 q113
 have hw113_0 := hx113_0
 obtain rfl : ad107 = ad113 := (by injection e113)
 replace hx113_0 := (HB.out.cell (World.block_lt_of_cell? w _ hx113_0)).trans hx113_0
 replace p113 := eq_true p113
 replace q113 := eq_true q113
 refine start_ (n := 35) (S := fun w' => w'.cell? ⟨gb104, 0, none⟩ = some (.int .i64 a0_0) ∧ w'.cell? ⟨gb104, 1, none⟩ = some (.slice A0_1 l0_1.length c0_1) ∧ w'.cell? (ad107.add (x5_2).toNat) = some (.int .i64 (rd l1 x5_2)) ∧ w'.cell? (ad107.add (x5_2).toNat) = some (.int .i64 (rd l1 x5_2)) ∧ w'.cell? (ad107.add ((ji24)).toNat) = some (.int .i64 (rd l1 (ji24))) ∧ w'.cell? (ad107.add (x5_2).toNat) = some (.int .i64 (rd l1 x5_2))) (ds := []) (ba 35 0) (by kernel_rfl) rfl (by kernel_rfl) ⟨(blk_cell BK104.out 0).trans rfl, (blk_cell BK104.out 1).trans rfl, ((HB.out.cell (World.block_lt_of_cell? w _ hw107_0)).trans hw107_0), ((HB.out.cell (World.block_lt_of_cell? w _ hw108_0)).trans hw108_0), ((HB.out.cell (World.block_lt_of_cell? w _ hw112_0)).trans hw112_0), ((HB.out.cell (World.block_lt_of_cell? w _ hw113_0)).trans hw113_0)⟩ (fun hHeld => ?_); refine with_tabW spec_WayOk.tab6 spec_WayOk.bits6 (fun HT_ HW_ => ?_)
 generalize wr.drew = w29 at BK104 HB hx107_0 hx108_0 hx112_0 hx113_0 hHeld ⊢
 refine pu 1 (some 21) (ba 35 2) HT_.out ?_
 refine pu 2 (some 22) (ba 35 6) HT_.out ?_
 refine pu 3 (some 23) (ba 35 14) HT_.out ?_
 refine tu 0 (some 20) (ba 35 15) HT_.out HW_.out hHeld ?_
 refine tu 4 (some 24) (ba 35 31) HT_.out HW_.out hHeld ?_
 refine one_ (i := 5) (N := some 25) (ba 35 63) rfl rfl (one_of HT_.out (by kernel_rfl)) (by decide) (fun K hK => ?_)
 refine goes_ Try.func40 (by kernel_rfl) rfl #[.agg #[.int .i64 a0_0, .slice A0_1 l0_1.length c0_1], .int .i64 (rd l1 x5_2)] (by rfl) rfl rfl qm ?_
 with_reducible refine (spec_l1Knot.calls k2 a0_0 _ _ l0_1 (rd l1 x5_2) true _ ?side1 ?side2 A14.out).mono ?_
 (case side1 => exact qc (Kd.C_below HR0_1.out HB.out))
 (case side2 => exact HC0_1.out)
 rintro e w30 ⟨rfl, hb⟩
 refine ⟨_, rfl, ?_⟩
 replace BK104 := q0 (kb BK104.out hb)
 replace HB := q0 (below_step (qb HB.out) hb)
 (try clear hb)
 (try clear hb2)
 (try clear hk)
 (try clear hi)
 obtain ⟨i114, hi114, _, hsz31, _⟩ := info_parts info3
 obtain ⟨hcut31, hA31, hC31⟩ := print_take_of (P := Try.prog) (Value.int .i64) 0 26 3 .i64 Try.underlying26 hi114 hsz31 (some ad107) c1 l1 x5_2 (of_decide_eq_true qa) (of_decide_eq_true qa) HC1.out
 have HR110 := q0 (Kd.C_of_reads (h1 := fun _ => rfl) (hA31 _ (Kd.reads_of_C HR1.out)))
 have HC110 := Aside0.mk hC31
 clear hA31 hC31 hi114 hsz31
 refine hK.out _ _ ⟨(blk_cell BK104.out 0).trans rfl, (blk_cell BK104.out 1).trans rfl, ((HB.out.cell (World.block_lt_of_cell? w _ hw107_0)).trans hw107_0), ((HB.out.cell (World.block_lt_of_cell? w _ hw108_0)).trans hw108_0), ((HB.out.cell (World.block_lt_of_cell? w _ hw112_0)).trans hw112_0), ((HB.out.cell (World.block_lt_of_cell? w _ hw113_0)).trans hw113_0)⟩ (fun hHeld => ?_)
 clear hK K
 refine nu 25 ?_
 refine pu 6 (some 26) (ba 35 127) HT_.out ?_
 refine pu 7 (some 27) (ba 35 255) HT_.out ?_
 refine pu 8 (some 28) (ba 35 511) HT_.out ?_
 refine pu 9 (some 29) (ba 35 1023) HT_.out ?_
 refine pu 10 (some 30) (ba 35 2047) HT_.out ?_
 refine pu 11 (some 31) (ba 35 4095) HT_.out ?_
 refine pu 12 (some 32) (ba 35 8191) HT_.out ?_
 refine pu 13 (some 33) (ba 35 16383) HT_.out ?_
 refine tu 14 (some 34) (ba 35 32767) HT_.out HW_.out hHeld ?_
 refine one_ (i := 15) (N := some 35) (ba 35 65535) rfl rfl (one_of HT_.out (by kernel_rfl)) (by decide) (fun K hK => ?_)
 refine goes_ Try.func58 (by kernel_rfl) rfl #[.slice (some ad107) (l1.take (x5_2 : Int).toNat).length c1, .int .i64 (rd l1 x5_2)] (by rfl) rfl rfl (by (try simp only [List.map_toArray, List.map_cons, List.map_nil]); first | done | (rw [show (l1.take (x5_2 : Int).toNat).length = x5_2.toNat from (by rw [List.length_take]; have h_ : (x5_2 : Int) ≤ (l1.length : Int) := of_decide_eq_true qa; omega)] <;> rfl) | rfl | (simp only [List.length_drop, List.length_take]; rfl)) ?_
 with_reducible refine (spec_l2Has.calls k2 _ _ (l1.take (x5_2 : Int).toNat) (rd l1 x5_2) false _ ?side1 ?side2 A18.out).mono ?_
 (case side1 => exact qc (Kd.C_below HR110.out HB.out))
 (case side2 => exact HC110.out)
 rintro e w' ⟨rfl, ⟨nd, rfl⟩⟩
 refine ⟨_, rfl, ?_⟩
 refine hK.out _ _ ⟨(blk_cell BK104.out 0).trans rfl, (blk_cell BK104.out 1).trans rfl, ((HB.out.cell (World.block_lt_of_cell? w _ hw107_0)).trans hw107_0), ((HB.out.cell (World.block_lt_of_cell? w _ hw108_0)).trans hw108_0), ((HB.out.cell (World.block_lt_of_cell? w _ hw112_0)).trans hw112_0), ((HB.out.cell (World.block_lt_of_cell? w _ hw113_0)).trans hw113_0)⟩ (fun hHeld => ?_)
 clear hK K
 refine nu 35 ?_
 refine pu 16 (some 36) (ba 35 131071) HT_.out ?_
 refine pu 17 (some 37) (ba 35 262143) HT_.out ?_
 refine pu 18 (some 38) (ba 35 524287) HT_.out ?_
 refine pu 19 (some 39) (ba 35 1048575) HT_.out ?_
 refine pu 20 (some 40) (ba 35 2097151) HT_.out ?_
 refine pu 22 (some 42) (ba 35 6291455) HT_.out ?_
 refine pu 23 (some 43) (ba 35 14680063) HT_.out ?_
 refine pu 24 (some 44) (ba 35 31457279) HT_.out ?_
 refine pu 25 (some 45) (ba 35 65011711) HT_.out ?_
 refine pu 27 (some 47) (ba 35 199229439) HT_.out ?_
 refine pu 28 (some 48) (ba 35 467664895) HT_.out ?_
 refine pu 29 (some 49) (ba 35 1004535807) HT_.out ?_
 refine tu 21 (some 41) (ba 35 1006632959) HT_.out HW_.out hHeld ?_
 refine tu 26 (some 46) (ba 35 1073741823) HT_.out HW_.out hHeld ?_
 refine tu 30 (some 50) (ba 35 2147483647) HT_.out HW_.out hHeld ?_
 refine one_ (i := 31) (N := some 51) (ba 35 4294967295) rfl rfl (one_of HT_.out (by kernel_rfl)) (by decide) (fun K hK => ?_)
 refine goes_ Try.func59 (by kernel_rfl) rfl #[.agg #[.int .i64 a0_0, .slice A0_1 l0_1.length c0_1], .int .i64 (rd l1 (ji24)), .int .i64 (rd l1 x5_2)] (by rfl) rfl rfl (by (try simp only [List.map_toArray, List.map_cons, List.map_nil]); first | done | (simp only [hji24]; rfl) | rfl | (simp only [List.length_drop, List.length_take]; rfl)) ?_
 with_reducible refine (spec_NetHas.calls k2 a0_0 _ _ l0_1 (rd l1 (ji24)) (rd l1 x5_2) true _ ?side1 ?side2 A27.out).mono ?_
 (case side1 => exact qc (Kd.C_below HR0_1.out (qb HB.out)))
 (case side2 => exact HC0_1.out)
 rintro e w32 ⟨rfl, hb⟩
 refine ⟨_, rfl, ?_⟩
 replace BK104 := q0 (kb BK104.out hb)
 replace HB := q0 (below_step (qb HB.out) hb)
 (try clear hb)
 (try clear hb2)
 (try clear hk)
 (try clear hi)
 refine hK.out _ _ ⟨(blk_cell BK104.out 0).trans rfl, (blk_cell BK104.out 1).trans rfl, ((HB.out.cell (World.block_lt_of_cell? w _ hw107_0)).trans hw107_0), ((HB.out.cell (World.block_lt_of_cell? w _ hw108_0)).trans hw108_0), ((HB.out.cell (World.block_lt_of_cell? w _ hw112_0)).trans hw112_0), ((HB.out.cell (World.block_lt_of_cell? w _ hw113_0)).trans hw113_0)⟩ (fun hHeld => ?_)
 clear hK K
 refine nu 51 ?_
 refine pu 32 (some 52) (ba 35 8589934591) HT_.out ?_
 refine pu 33 (some 53) (ba 35 17179869183) HT_.out ?_
 refine pu 34 (some 54) (ba 35 34359738367) HT_.out ?_
 refine done_ (done_of HT_.out (by kernel_rfl)) ?_
 try go_wp2
 go_roundg k2
 case measure => have := HJ2.out; have := HK2.out; omega
 case rel => exact ⟨(wrap64 (x5_2 + 1)), qs, H', ⟨by have := HJ2.out; have := HK2.out; omega⟩, ⟨qk BK104.out⟩, ⟨qb HB.out⟩⟩

def laws_FnWayEvery.T7 : Bool × List (List Nat × List Nat) := (true, [([], []), ([], []), ([1], [1]), ([2], [2]), ([], []), ([], []), ([5], [5]), ([6], [6]), ([4, 7], [4, 7]), ([8], [8]), ([0, 3, 9], [0, 3, 9]), ([10, 10, 0, 1, 2, 3, 4, 5, 6, 7, 8, 9, 10], [10])])
def laws_FnWayEvery.B7 : List Nat := [0, 0, 2, 6, 0, 0, 32, 96, 240, 496, 1023, 2047]
theorem laws_FnWayEvery.tab7 : rtab .any (opsOf Try.f8 7) = laws_FnWayEvery.T7 := by kernel_rfl
theorem laws_FnWayEvery.bits7 : waitsOk laws_FnWayEvery.T7.2 laws_FnWayEvery.B7 = true := by kernel_rfl
set_option maxHeartbeats 8000000 in
set_option maxRecDepth 100000 in
theorem laws_FnWayEvery.calls (k : Nat) (A0 : Option Addr) (c0 : Nat) (l0 : List Int) (r : Bool) (w : World) (hr0 : Kd.C (Kd.int .u8) w A0 l0.length l0) (hc0 : l0.length ≤ c0) (h : laws_FnWayEvery.f k l0 = some r) :
    Calls Try.prog 8 #[.slice A0 l0.length c0] w fun e w' => e = .returned (.bool r) ∧ Below w.heap.size w w' := by
 have hu31 := Try.underlying31
 have HR0 := Aside0.mk hr0
 have HC0 := Aside0.mk hc0
 clear hr0 hc0
 have HB := q0 (Below.refl w.heap.size w)
 have H : (if (l0.length : Int) > 1048576 then (some true) else ((spec_DrawWayOk.f k l0).bind fun bt104 => ((impl_WayOk.f k bt104.1 bt104.2.1 bt104.2.2).bind fun t100 => ((spec_WayOk.f k bt104.1 bt104.2.1 bt104.2.2).bind fun t105 => (if (t100 != t105) = true then (laws_FnWayEvery.j0 k bt104.2.2 t100 true bt104.1 bt104.2.1) else (laws_FnWayEvery.j0 k bt104.2.2 t100 (!t100) bt104.1 bt104.2.1)))))) = some r := h
 clear h
 by_cases c2 : (l0.length : Int) > 1048576
 · rw [if_pos c2] at H
   have c2b0 : decide (1048576 < (l0.length : Int)) = true := decide_eq_true c2
   have c2b1 : decide (1048576 < l0.length) = true := decide_eq_true (by omega)
   clear c2
   obtain rfl := Option.some.inj H
   go_enter Try.func8, Try.ntmps8
   go_wp2
   go_ret
   exact ⟨qe, qb HB.out⟩
 rw [if_neg c2] at H
 have c2b0 : decide (1048576 < (l0.length : Int)) = false := decide_eq_false c2
 have c2b1 : decide (1048576 < l0.length) = false := decide_eq_false (by omega)
 clear c2
 replace H := Option.bind_eq_some_iff.mp H
 obtain ⟨⟨t104, t106, t107⟩, A30, H⟩ := H
 have A3 := Aside0.mk A30
 clear A30
 replace H := Option.bind_eq_some_iff.mp H
 obtain ⟨t100, A40, H⟩ := H
 have A4 := Aside0.mk A40
 clear A40
 have HC5 := Aside0.mk H
 clear H
 go_enter Try.func8, Try.ntmps8
 go_upto_region 5 with (first | ((with_reducible refine gate_callee (f := 30) rfl ?_); refine gl 13 Try.func30 #[.slice A0 l0.length c0] ?_; (with_reducible refine (spec_DrawWayOk.calls k _ _ l0 t104 t106 t107 _ ?side1 ?side2 A3.out).mono ?_); (case side1 => repeat (first | exact HR0.out | (with_reducible refine Kd.C_alloc ?_ _) | (with_reducible refine Kd.C_drewN ?_ _) | (with_reducible refine Kd.C_drew ?_))); (case side2 => exact HC0.out); rintro e w6 ⟨v108, v109, rfl, ho0, ho1, hb⟩; refine ⟨_, rfl, ?_⟩; have HO110 := q0 (Kd.R_lower ho0 (below_size (qb HB.out))); have HO111 := q0 (Kd.R_lower ho1 (below_size (qb HB.out))); replace HB := q0 (below_step (qb HB.out) hb); (try clear hb); (try clear hb2); (try clear hk); (try clear hi); (try clear ho0); (try clear ho1)) | ((with_reducible refine gate_dst (N := 3) rfl ?_); refine be 3 #[.int .i64 0, .slice none 0 0] 31 ?_; intro gb112 hg w7 hbox hb; replace HO110 := q0 (Kd.R_below (qr HO110.out) hb); replace HO111 := q0 (Kd.R_below (qr HO111.out) hb); have BK112 := q0 (hbox); have GW112 := q0 ((bs HB.out hg : w.heap.size ≤ gb112)); have GE112 := q0 ((bs HB.out hg : w.heap.size ≤ gb112)); replace HB := q0 (below_step (qb HB.out) hb); clear hb hbox hg; have hcz8_0 : w7.cell? ⟨gb112, 0, none⟩ = some (.int .i64 0) := (blk_cell BK112.out 0).trans rfl; have hcz8_1 : w7.cell? ⟨gb112, 1, none⟩ = some (.slice none 0 0) := (blk_cell BK112.out 1).trans rfl; have hfz8_0 := blk_frozen BK112.out 0; have hfz8_1 := blk_frozen BK112.out 1; obtain ⟨Ao9, co9, eo9⟩ := Kd.R_slice HO110.out; subst eo9; obtain ⟨Ao10, co10, eo10⟩ := Kd.R_slice HO111.out; subst eo10) | ((with_reducible refine gate_callee (f := 31) rfl ?_); refine gl 18 Try.func31 #[.agg #[.int .i64 t104, .slice Ao9 t106.length co9], .slice Ao10 t107.length co10] ?_; (with_reducible refine (impl_WayOk.calls k t104 _ _ t106 _ _ t107 t100 _ ?side1 ?side2 ?side3 ?side4 A4.out).mono ?_); (case side1 => refine (Kd.R_reads' (e := 74) (base := w.heap.size) (ok := fun k_ => True) (n := t106.length) (c := co9) ?_).2.2; exact (by (with_reducible repeat (first | apply Kd.R_alloc | apply Kd.R_drewN | apply Kd.R_drew)); exact (rf2 HO110.out BK112.out (fun _ h_ => h_.1)))); (case side2 => exact (Kd.R_reads' HO110.out).2.1); (case side3 => refine (Kd.R_reads' (e := 3) (base := w.heap.size) (ok := fun k_ => True) (n := t107.length) (c := co10) ?_).2.2; exact (by (with_reducible repeat (first | apply Kd.R_alloc | apply Kd.R_drewN | apply Kd.R_drew)); exact (rf2 HO111.out BK112.out (fun _ h_ => h_.1)))); (case side4 => exact (Kd.R_reads' HO111.out).2.1); rintro e w11 ⟨rfl, hb⟩; refine ⟨_, rfl, ?_⟩; replace HO110 := q0 (Kd.R_below (by (with_reducible repeat (first | apply Kd.R_alloc | apply Kd.R_drewN | apply Kd.R_drew)); exact (rf2 HO110.out BK112.out (fun _ h_ => h_.1))) hb); replace HO111 := q0 (Kd.R_below (by (with_reducible repeat (first | apply Kd.R_alloc | apply Kd.R_drewN | apply Kd.R_drew)); exact (rf2 HO111.out BK112.out (fun _ h_ => h_.1))) hb); replace BK112 := q0 (blk_below (g := gb112) (o := .cells #[.int .i64 t104, .slice Ao9 t106.length co9] 31 (0, 0)) (by (with_reducible repeat (first | refine blk_drewN ?_ _ | refine blk_drew ?_ | refine blk_alloc ?_ _)); refine blk_put (cs := #[.int .i64 t104, .slice none 0 0]) ?_ 1 _ rfl; (with_reducible repeat (first | refine blk_drewN ?_ _ | refine blk_drew ?_ | refine blk_alloc ?_ _)); refine blk_put (cs := #[.int .i64 0, .slice none 0 0]) ?_ 0 _ rfl; (with_reducible repeat (first | refine blk_drewN ?_ _ | refine blk_drew ?_ | refine blk_alloc ?_ _)); exact BK112.out) hb); replace HB := q0 (below_step (qb HB.out) hb); (try clear hb); (try clear hb2); (try clear hk); (try clear hi)))
 (try simp only [Act.put, List.setIfInBounds_toArray, List.set_cons_zero, List.set_cons_succ])
 go_cut [27] (fun v27 wc => ∃ (kq : Nat) (x27_4 : Bool), v27 = .bool x27_4 ∧ Aside0 (laws_FnWayEvery.j0 kq t107 t100 x27_4 t104 t106 = some r) ∧ Aside0 (kq ≤ k) ∧ Aside0 (Kd.R (Kd.int .i64) 3 wc w.heap.size (fun _ => True) (.slice Ao10 t107.length co10) t107) ∧ Aside0 (Kd.R kTie 74 wc w.heap.size (fun _ => True) (.slice Ao9 t106.length co9) t106) ∧ Aside0 (wc.heap[gb112]? = some (.cells #[.int .i64 t104, (.slice Ao9 t106.length co9)] 31 (0, 0))) ∧ Aside0 (Below w.heap.size w wc))
 case first =>
   have H := HC5.out
   clear HC5
   replace H := Option.bind_eq_some_iff.mp H
   obtain ⟨t105, A113, H⟩ := H
   have A12 := Aside0.mk A113
   clear A113
   by_cases c13 : (t100 != t105) = true
   rotate_left
   · rw [if_neg c13] at H
     have c13b0 : (t100 != t105) = false := by simpa using c13
     (try (have c13b1 : decide (t100 = t105) = true := by simpa using c13))
     (try (have c13b2 : (t100 == t105) = true := by simpa using c13))
     clear c13
     (first | rw [c13b0] | (simp only [i64_w, i32_w]; rw [c13b0]) | skip)
     have H' := Aside0.mk H
     clear H
     have hcz16_0 : w11.cell? ⟨gb112, 0, none⟩ = some (.int .i64 t104) := (blk_cell BK112.out 0).trans rfl
     have hcz16_1 : w11.cell? ⟨gb112, 1, none⟩ = some (.slice Ao9 t106.length co9) := (blk_cell BK112.out 1).trans rfl
     have hfz16_0 := blk_frozen BK112.out 0
     have hfz16_1 := blk_frozen BK112.out 1
     go_wp2_with (first | ((with_reducible refine gate_callee (f := 32) rfl ?_); refine gl 22 Try.func32 #[.agg #[.int .i64 t104, .slice Ao9 t106.length co9], .slice Ao10 t107.length co10] ?_; (with_reducible refine (spec_WayOk.calls k t104 _ _ t106 _ _ t107 t105 _ ?side1 ?side2 ?side3 ?side4 A12.out).mono ?_); (case side1 => exact qc (Kd.R_reads' HO110.out).2.2); (case side2 => exact (Kd.R_reads' HO110.out).2.1); (case side3 => exact qc (Kd.R_reads' HO111.out).2.2); (case side4 => exact (Kd.R_reads' HO111.out).2.1); rintro e w17 ⟨rfl, hb⟩; refine ⟨_, rfl, ?_⟩; replace HO110 := q0 (Kd.R_below (qr HO110.out) hb); replace HO111 := q0 (Kd.R_below (qr HO111.out) hb); replace BK112 := q0 (kb BK112.out hb); replace HB := q0 (below_step (qb HB.out) hb); (try clear hb); (try clear hb2); (try clear hk); (try clear hi)))
     go_meet
     case rel => exact ⟨_, (!t100), qs, H', ⟨by first | omega | exact Nat.le_refl _⟩, ⟨qr HO111.out⟩, ⟨qr HO110.out⟩, ⟨qk BK112.out⟩, ⟨qb HB.out⟩⟩
   rw [if_pos c13] at H
   have c13b0 : (t100 != t105) = true := c13
   (try (have c13b1 : decide (t100 = t105) = false := by simpa using c13))
   (try (have c13b2 : (t100 == t105) = false := by simpa using c13))
   (try (have c13b3 : ¬ (t100 = t105) := by simpa using c13))
   clear c13
   (first | rw [c13b0] | (simp only [i64_w, i32_w]; rw [c13b0]) | skip)
   have H' := Aside0.mk H
   clear H
   have hcz14_0 : w11.cell? ⟨gb112, 0, none⟩ = some (.int .i64 t104) := (blk_cell BK112.out 0).trans rfl
   have hcz14_1 : w11.cell? ⟨gb112, 1, none⟩ = some (.slice Ao9 t106.length co9) := (blk_cell BK112.out 1).trans rfl
   have hfz14_0 := blk_frozen BK112.out 0
   have hfz14_1 := blk_frozen BK112.out 1
   go_wp2_with (first | ((with_reducible refine gate_callee (f := 32) rfl ?_); refine gl 22 Try.func32 #[.agg #[.int .i64 t104, .slice Ao9 t106.length co9], .slice Ao10 t107.length co10] ?_; (with_reducible refine (spec_WayOk.calls k t104 _ _ t106 _ _ t107 t105 _ ?side1 ?side2 ?side3 ?side4 A12.out).mono ?_); (case side1 => exact qc (Kd.R_reads' HO110.out).2.2); (case side2 => exact (Kd.R_reads' HO110.out).2.1); (case side3 => exact qc (Kd.R_reads' HO111.out).2.2); (case side4 => exact (Kd.R_reads' HO111.out).2.1); rintro e w15 ⟨rfl, hb⟩; refine ⟨_, rfl, ?_⟩; replace HO110 := q0 (Kd.R_below (qr HO110.out) hb); replace HO111 := q0 (Kd.R_below (qr HO111.out) hb); replace BK112 := q0 (kb BK112.out hb); replace HB := q0 (below_step (qb HB.out) hb); (try clear hb); (try clear hb2); (try clear hk); (try clear hi)))
   go_meet
   case rel => exact ⟨_, (true), qs, H', ⟨by first | omega | exact Nat.le_refl _⟩, ⟨qr HO111.out⟩, ⟨qr HO110.out⟩, ⟨qk BK112.out⟩, ⟨qb HB.out⟩⟩
 clear HC5
 try clear c1
 try clear c2
 try clear c2b0
 try clear c2b1
 try clear p2
 try clear c3
 try clear c8
 try clear c13
 try clear c13b0
 try clear c13b1
 try clear c13b2
 try clear hcz14_0
 try clear hcz14_1
 try clear hcz16_0
 try clear hcz16_1
 try clear hcz8_0
 try clear hcz8_1
 try clear hfz14_0
 try clear hfz14_1
 try clear hfz16_0
 try clear hfz16_1
 try clear hfz8_0
 try clear hfz8_1
 obtain ⟨kq, x27_4, rfl, HA, HJ4, HO_4, HO_100001, BK112, HB⟩ := hcut
 rcases kq with _ | kj4
 · exact absurd HA.out (by simp [laws_FnWayEvery.j0])
 have H := HA.out
 clear HA
 simp only [laws_FnWayEvery.j0] at H
 by_cases c18 : x27_4 = true
 · subst c18
   rw [if_pos rfl] at H
   replace H := Option.bind_eq_some_iff.mp H
   obtain ⟨t101, A114, H⟩ := H
   have A19 := Aside0.mk A114
   clear A114
   obtain rfl := Option.some.inj H
   have hcz20_0 : wc.cell? ⟨gb112, 0, none⟩ = some (.int .i64 t104) := (blk_cell BK112.out 0).trans rfl
   have hcz20_1 : wc.cell? ⟨gb112, 1, none⟩ = some (.slice Ao9 t106.length co9) := (blk_cell BK112.out 1).trans rfl
   have hfz20_0 := blk_frozen BK112.out 0
   have hfz20_1 := blk_frozen BK112.out 1
   go_wp2_with (first | ((with_reducible refine gate_callee (f := 32) rfl ?_); refine gl 31 Try.func32 #[.agg #[.int .i64 t104, .slice Ao9 t106.length co9], .slice Ao10 t107.length co10] ?_; (with_reducible refine (spec_WayOk.calls kj4 t104 _ _ t106 _ _ t107 t101 _ ?side1 ?side2 ?side3 ?side4 A19.out).mono ?_); (case side1 => exact qc (Kd.R_reads' HO_100001.out).2.2); (case side2 => exact (Kd.R_reads' HO_100001.out).2.1); (case side3 => exact qc (Kd.R_reads' HO_4.out).2.2); (case side4 => exact (Kd.R_reads' HO_4.out).2.1); rintro e w21 ⟨rfl, hb⟩; refine ⟨_, rfl, ?_⟩; replace HO_4 := q0 (Kd.R_below (qr HO_4.out) hb); replace HO_100001 := q0 (Kd.R_below (qr HO_100001.out) hb); replace BK112 := q0 (kb BK112.out hb); replace HB := q0 (below_step (qb HB.out) hb); (try clear hb); (try clear hb2); (try clear hk); (try clear hi)))
   go_ret
   exact ⟨qe, qb HB.out⟩
 replace c18 := Bool.eq_false_iff.mpr c18
 subst c18
 rw [if_neg nf] at H
 by_cases c22 : 0 < (t107.length : Int)
 rotate_left
 · rw [if_neg c22] at H
   exact absurd H (by simp)
 rw [if_pos c22] at H
 have c22b0 : decide (0 < (t107.length : Int)) = true := decide_eq_true c22
 have c22b1 : decide (0 < t107.length) = true := decide_eq_true (by omega)
 clear c22
 obtain ⟨ji23, hji23⟩ : ∃ j_ : Int, (wrap64 ((t107.length : Int) - 1)) = j_ := ⟨_, rfl⟩
 replace H : (if 0 ≤ (ji23) then (if (ji23) < (t107.length : Int) then ((impl_WayAll.f kj4 t104 t106 (rd t107 0) (rd t107 (ji23))).bind fun t102 => (laws_FnWayEvery.l0 kj4 t107 t102 0)) else (none)) else (none)) = some r := by first | (rw [hji23] at H; exact H) | (simp only [hji23] at H ⊢; exact H)
 have hji23w : (IntKind.i64.wrap ((t107.length : Int) - 1)) = ji23 := (i64_w _).trans hji23
 by_cases c24 : 0 ≤ (ji23)
 rotate_left
 · rw [if_neg c24] at H
   exact absurd H (by simp)
 rw [if_pos c24] at H
 have c24b0 : decide (0 ≤ (ji23)) = true := decide_eq_true c24
 clear c24
 by_cases c25 : (ji23) < (t107.length : Int)
 rotate_left
 · rw [if_neg c25] at H
   exact absurd H (by simp)
 rw [if_pos c25] at H
 have c25b0 : decide ((ji23) < (t107.length : Int)) = true := decide_eq_true c25
 clear c25
 replace H := Option.bind_eq_some_iff.mp H
 obtain ⟨t102, A115, H⟩ := H
 have A26 := Aside0.mk A115
 clear A115
 have H' := Aside0.mk H
 clear H
 try go_wp2
 replace HO_4 := q0 (Kd.R_drew HO_4.out)
 replace HO_100001 := q0 (Kd.R_drew HO_100001.out)
 replace BK112 := q0 (blk_drew BK112.out)
 replace HB := q0 (below_drew1 HB.out)
 have p116 : 0 ≤ (0 : Int) := (by omega)
 have q116 : 0 < (t107.length : Int) := of_decide_eq_true qa
 obtain ⟨ad116, e116, hx116_0⟩ := Kd.at_int (Kd.R_reads' HO_4.out).2.2 0 p116 q116
 cases e116
 have qi116 : (0 < t107.length) = True := eq_true (by omega)
 (try rw [show ((0 : Int)).toNat = 0 from rfl] at hx116_0)
 (try rw [Addr.add_zero'] at hx116_0)
 replace p116 := eq_true p116
 replace q116 := eq_true q116
 have p117 : 0 ≤ ((ji23) : Int) := of_decide_eq_true qa
 have q117 : (ji23) < (t107.length : Int) := of_decide_eq_true qa
 obtain ⟨ad117, e117, hx117_0⟩ := Kd.at_int (Kd.R_reads' HO_4.out).2.2 (ji23) p117 q117
 obtain rfl : ad116 = ad117 := (by injection e117)
 replace p117 := eq_true p117
 replace q117 := eq_true q117
 refine start_ (n := 12) (S := fun w' => w'.cell? ⟨gb112, 0, none⟩ = some (.int .i64 t104) ∧ w'.cell? ⟨gb112, 1, none⟩ = some (.slice Ao9 t106.length co9) ∧ w'.cell? ad116 = some (.int .i64 (rd t107 0)) ∧ w'.cell? (ad116.add ((ji23)).toNat) = some (.int .i64 (rd t107 (ji23)))) (ds := []) (ba 12 0) (by kernel_rfl) rfl (by kernel_rfl) ⟨(blk_cell BK112.out 0).trans rfl, (blk_cell BK112.out 1).trans rfl, hx116_0, hx117_0⟩ (fun hHeld => ?_); refine with_tabW laws_FnWayEvery.tab7 laws_FnWayEvery.bits7 (fun HT_ HW_ => ?_)
 generalize wc.drew = w27 at HO_4 HO_100001 BK112 HB hx116_0 hx117_0 hHeld ⊢
 refine pu 1 (some 34) (ba 12 2) HT_.out ?_
 refine pu 2 (some 35) (ba 12 6) HT_.out ?_
 refine pu 4 (some 37) (ba 12 22) HT_.out ?_
 refine pu 5 (some 38) (ba 12 54) HT_.out ?_
 refine pu 6 (some 39) (ba 12 118) HT_.out ?_
 refine pu 7 (some 40) (ba 12 246) HT_.out ?_
 refine pu 8 (some 41) (ba 12 502) HT_.out ?_
 refine tu 0 (some 33) (ba 12 503) HT_.out HW_.out hHeld ?_
 refine tu 3 (some 36) (ba 12 511) HT_.out HW_.out hHeld ?_
 refine tu 9 (some 42) (ba 12 1023) HT_.out HW_.out hHeld ?_
 refine one_ (i := 10) (N := some 43) (ba 12 2047) rfl rfl (one_of HT_.out (by kernel_rfl)) (by decide) (fun K hK => ?_)
 refine goes_ Try.func23 (by kernel_rfl) rfl #[.agg #[.int .i64 t104, .slice Ao9 t106.length co9], .int .i64 (rd t107 0), .int .i64 (rd t107 (ji23))] (by rfl) rfl rfl (by (try simp only [List.map_toArray, List.map_cons, List.map_nil]); first | done | (simp only [hji23]; rfl) | rfl | (simp only [List.length_drop, List.length_take]; rfl)) ?_
 with_reducible refine (impl_WayAll.calls kj4 t104 _ _ t106 (rd t107 0) (rd t107 (ji23)) t102 _ ?side1 ?side2 A26.out).mono ?_
 (case side1 => exact qc (Kd.R_reads' HO_100001.out).2.2)
 (case side2 => exact (Kd.R_reads' HO_100001.out).2.1)
 rintro e w28 ⟨v118, rfl, ho0, hb⟩
 have HS2_ := (hb.cell (World.block_lt_of_cell? _ _ (hHeld.2.2.1))).trans (hHeld.2.2.1)
 have HS3_ := (hb.cell (World.block_lt_of_cell? _ _ (hHeld.2.2.2))).trans (hHeld.2.2.2)
 refine ⟨_, rfl, ?_⟩
 replace HO_100001 := q0 (Kd.R_below (qr HO_100001.out) hb)
 have HO119 := q0 (Kd.S_lower (Kd.S_new' ho0 (Kd.R_lt (qr HO_4.out))) (below_size (qb HB.out)))
 replace HO_4 := q0 (Kd.R_below (qr HO_4.out) hb)
 replace BK112 := q0 (kb BK112.out hb)
 replace HB := q0 (below_step (qb HB.out) hb)
 (try clear hb)
 (try clear hb2)
 (try clear hk)
 (try clear hi)
 (try clear ho0)
 refine hK.out _ _ ⟨(blk_cell BK112.out 0).trans rfl, (blk_cell BK112.out 1).trans rfl, HS2_, HS3_⟩ (fun hHeld => ?_)
 clear hK K
 refine nu 43 ?_
 refine pu 11 (some 6) (ba 12 4095) HT_.out ?_
 refine done_ (done_of HT_.out (by kernel_rfl)) ?_
 try go_wp2
 go_loopg [7] kj4 (fun kq v7 w' => ∃ (x7_2 : Int), v7 = .int .i64 x7_2 ∧ Aside0 (laws_FnWayEvery.l0 kq t107 t102 x7_2 = some r) ∧ Aside0 (kq ≤ kj4) ∧ Aside0 (Kd.R (Kd.int .i64) 3 w' w.heap.size (fun _ => True) (.slice (some ad116) t107.length co10) t107) ∧ Aside0 (Kd.S (Kd.slice 3 (Kd.int .i64)) 26 w' w.heap.size (fun k_ => some k_ ≠ ((.slice (some ad116) t107.length co10) : Value).ownBlock) v118 t102) ∧ Aside0 (Kd.R kTie 74 w' w.heap.size (fun _ => True) (.slice Ao9 t106.length co9) t106) ∧ Aside0 (w'.heap[gb112]? = some (.cells #[.int .i64 t104, (.slice Ao9 t106.length co9)] 31 (0, 0))) ∧ Aside0 (Below w.heap.size w w'))
 case atStart => exact ⟨(0), qs, H', ⟨Nat.le_refl _⟩, ⟨qr HO_4.out⟩, ⟨by (with_reducible repeat (first | apply Kd.S_alloc | apply Kd.S_drewN | apply Kd.S_drew)); exact Kd.S_mono HO119.out (fun _ hk => hk.2)⟩, ⟨qr HO_100001.out⟩, ⟨qk BK112.out⟩, ⟨qb HB.out⟩⟩
 clear H'
 try clear c1
 try clear c2
 try clear c2b0
 try clear c2b1
 try clear p2
 try clear c3
 try clear p6
 try clear p7
 try clear q7
 try clear hx7
 try clear qi7
 try clear c8
 try clear c13
 try clear c13b0
 try clear c13b1
 try clear c13b2
 try clear c18
 try clear c22
 try clear c22b0
 try clear c22b1
 try clear c23
 try clear c24
 try clear c24b0
 try clear c25
 try clear c25b0
 try clear hcz14_0
 try clear hcz14_1
 try clear hcz16_0
 try clear hcz16_1
 try clear hcz20_0
 try clear hcz20_1
 try clear hcz8_0
 try clear hcz8_1
 try clear hfz14_0
 try clear hfz14_1
 try clear hfz16_0
 try clear hfz16_1
 try clear hfz20_0
 try clear hfz20_1
 try clear hfz8_0
 try clear hfz8_1
 try clear hx116_0
 try clear hx117_0
 try clear p2
 try clear p116
 try clear p117
 try clear q116
 try clear q117
 obtain ⟨x7_2, rfl, HA, HK2, HO_4, HO_6, HO_100001, BK112, HB⟩ := hrel
 rcases gk with _ | k2
 · exact absurd HA.out (by simp [laws_FnWayEvery.l0])
 have H := HA.out
 clear HA
 simp only [laws_FnWayEvery.l0] at H
 by_cases c29 : x7_2 < (t102.length : Int)
 rotate_left
 · rw [if_neg c29] at H
   have c29b0 : decide (x7_2 < (t102.length : Int)) = false := decide_eq_false c29
   clear c29
   obtain rfl := Option.some.inj H
   obtain ⟨Ao35, co35, eo35⟩ := Kd.S_slice HO_6.out
   subst eo35
   go_wp2
   go_ret
   exact ⟨by first | rfl | (simp [errW_none, errW_some] <;> rfl) | (simp only [← hji23]; first | rfl | (simp [errW_none, errW_some] <;> rfl)) | (simp [*, errW_none, errW_some] <;> rfl), qb HB.out⟩
 rw [if_pos c29] at H
 have c29b0 : decide (x7_2 < (t102.length : Int)) = true := decide_eq_true c29
 clear c29
 by_cases c30 : 0 ≤ x7_2
 rotate_left
 · rw [if_neg c30] at H
   exact absurd H (by simp)
 rw [if_pos c30] at H
 have c30b0 : decide (0 ≤ x7_2) = true := decide_eq_true c30
 clear c30
 replace H := Option.bind_eq_some_iff.mp H
 obtain ⟨t103, A120, H⟩ := H
 have A31 := Aside0.mk A120
 clear A120
 by_cases c32 : t103 = true
 · subst c32
   rw [if_pos rfl] at H
   obtain rfl := Option.some.inj H
   obtain ⟨Ao33, co33, eo33⟩ := Kd.S_slice HO_6.out
   subst eo33
   have p121 : 0 ≤ (x7_2 : Int) := of_decide_eq_true qa
   have q121 : x7_2 < (t102.length : Int) := of_decide_eq_true qa
   obtain ⟨ad121, A121_0, c121_0, e121, hx121_0, hl121_0, hi121_0⟩ := at_LI (Kd.S_reads' HO_6.out).2.2 x7_2 p121 q121
   cases e121
   obtain ⟨ce121, hce121, hMe121, hcc121⟩ := Kd.S_get HO_6.out [] x7_2 p121 (by first | exact q121 | exact of_decide_eq_true qa | (have e_ := (Kd.S_reads' HO_6.out).1; omega))
   obtain ⟨ve121_0, rfl, ge121_0⟩ := hMe121
   have hv121_0 := hcc121 0 _ rfl
   rw [Nat.add_zero, show ((Kd.slice 3 (Kd.int .i64))).sz = 1 from rfl, Nat.mul_one] at hv121_0
   replace hv121_0 := Option.some.inj (hv121_0.symm.trans hx121_0)
   rw [hv121_0] at ge121_0
   have HL121_0 := q0 (show Kd.R (Kd.int .i64) 3 _ _ _ _ (rd_LI t102 x7_2) from ge121_0)
   clear hv121_0 ge121_0
   clear hcc121 hce121
   have HR121_0 := Aside0.mk hi121_0
   have HC121_0 := Aside0.mk hl121_0
   clear hi121_0 hl121_0
   replace p121 := eq_true p121
   replace q121 := eq_true q121
   go_wp2_with (first | ((with_reducible refine gate_callee (f := 28) rfl ?_); refine gl 55 Try.func28 #[.slice A121_0 (rd_LI t102 x7_2).length c121_0, .slice (some ad116) t107.length co10] ?_; (with_reducible refine (laws_loInts.calls k2 _ _ (rd_LI t102 x7_2) _ _ t107 true _ ?side1 ?side2 ?side3 ?side4 A31.out).mono ?_); (case side1 => repeat (first | exact (by repeat (first | (with_reducible exact HR121_0.out) | (with_reducible refine Kd.C_alloc ?_ _) | (with_reducible refine Kd.C_drewN ?_ _) | (with_reducible refine Kd.C_drew ?_) | exact HR121_0.out)) | (with_reducible refine Kd.C_alloc ?_ _) | (with_reducible refine Kd.C_drewN ?_ _) | (with_reducible refine Kd.C_drew ?_))); (case side2 => exact HC121_0.out); (case side3 => exact qc (Kd.R_reads' HO_4.out).2.2); (case side4 => exact (Kd.R_reads' HO_4.out).2.1); rintro e w' ⟨rfl, ⟨nd, rfl⟩⟩; refine ⟨_, rfl, ?_⟩))
   go_ret
   exact ⟨by first | rfl | (simp [errW_none, errW_some] <;> rfl) | (simp only [← hji23]; first | rfl | (simp [errW_none, errW_some] <;> rfl)) | (simp [*, errW_none, errW_some] <;> rfl), qb HB.out⟩
 replace c32 := Bool.eq_false_iff.mpr c32
 subst c32
 rw [if_neg nf] at H
 have H' := Aside0.mk H
 clear H
 obtain ⟨Ao34, co34, eo34⟩ := Kd.S_slice HO_6.out
 subst eo34
 have p121 : 0 ≤ (x7_2 : Int) := of_decide_eq_true qa
 have q121 : x7_2 < (t102.length : Int) := of_decide_eq_true qa
 obtain ⟨ad121, A121_0, c121_0, e121, hx121_0, hl121_0, hi121_0⟩ := at_LI (Kd.S_reads' HO_6.out).2.2 x7_2 p121 q121
 cases e121
 obtain ⟨ce121, hce121, hMe121, hcc121⟩ := Kd.S_get HO_6.out [] x7_2 p121 (by first | exact q121 | exact of_decide_eq_true qa | (have e_ := (Kd.S_reads' HO_6.out).1; omega))
 obtain ⟨ve121_0, rfl, ge121_0⟩ := hMe121
 have hv121_0 := hcc121 0 _ rfl
 rw [Nat.add_zero, show ((Kd.slice 3 (Kd.int .i64))).sz = 1 from rfl, Nat.mul_one] at hv121_0
 replace hv121_0 := Option.some.inj (hv121_0.symm.trans hx121_0)
 rw [hv121_0] at ge121_0
 have HL121_0 := q0 (show Kd.R (Kd.int .i64) 3 _ _ _ _ (rd_LI t102 x7_2) from ge121_0)
 clear hv121_0 ge121_0
 clear hcc121 hce121
 have HR121_0 := Aside0.mk hi121_0
 have HC121_0 := Aside0.mk hl121_0
 clear hi121_0 hl121_0
 replace p121 := eq_true p121
 replace q121 := eq_true q121
 go_wp2_with (first | ((with_reducible refine gate_callee (f := 28) rfl ?_); refine gl 55 Try.func28 #[.slice A121_0 (rd_LI t102 x7_2).length c121_0, .slice (some ad116) t107.length co10] ?_; (with_reducible refine (laws_loInts.calls k2 _ _ (rd_LI t102 x7_2) _ _ t107 false _ ?side1 ?side2 ?side3 ?side4 A31.out).mono ?_); (case side1 => repeat (first | exact (by repeat (first | (with_reducible exact HR121_0.out) | (with_reducible refine Kd.C_alloc ?_ _) | (with_reducible refine Kd.C_drewN ?_ _) | (with_reducible refine Kd.C_drew ?_) | exact HR121_0.out)) | (with_reducible refine Kd.C_alloc ?_ _) | (with_reducible refine Kd.C_drewN ?_ _) | (with_reducible refine Kd.C_drew ?_))); (case side2 => exact HC121_0.out); (case side3 => exact qc (Kd.R_reads' HO_4.out).2.2); (case side4 => exact (Kd.R_reads' HO_4.out).2.1); rintro e w' ⟨rfl, ⟨nd, rfl⟩⟩; refine ⟨_, rfl, ?_⟩))
 go_roundg k2
 case measure => have := HJ4.out; have := HK2.out; omega
 case rel => exact ⟨(wrap64 (x7_2 + 1)), qs, H', ⟨by have := HJ4.out; have := HK2.out; omega⟩, ⟨qr HO_4.out⟩, ⟨qv HO_6.out⟩, ⟨qr HO_100001.out⟩, ⟨qk BK112.out⟩, ⟨qb HB.out⟩⟩

theorem laws_FnWayEvery.walk (P : laws_FnWayEvery.Pure) (a0 : Option Addr) (len0 cap0 : Nat) (z0 : List Int) (w : World) (w0 : (a0 = none ∧ len0 = 0 ∧ cap0 = 0 ∧ z0 = []) ∨ ∃ x, a0 = some x ∧ len0 ≤ cap0 ∧ cap0 ≤ maxLen ∧ z0.length = cap0 ∧ (∀ i, i < z0.length → w.cell? (x.add i) = some (.int .u8 (z0.getD i 0))) ∧ ∀ n ∈ z0, (Lit.int .u8 n).wf = true) (y0 : len0 * 1 ≤ 140737488351232) :
    Calls Try.prog 8 #[.slice a0 len0 cap0] w fun e w' => e = .returned (.bool true) ∧ Below w.heap.size w w' := by
  obtain ⟨l0, rfl, hr0, hm0, hw0, hc0⟩ := ReadsInt.ofRowC w0
  obtain ⟨k, h⟩ := P l0 hm0 y0 hw0
  refine (laws_FnWayEvery.calls k _ _ l0 true w (Kd.C_of_reads (d := (0 : Int)) (h1 := fun _ => rfl) hr0) hc0 h).mono ?_
  rintro e w' ⟨rfl, hd⟩
  exact ⟨rfl, hd⟩
end Go.Proofs.Ytmfmeenfhdohcaa.P
