import Derived.Test.YtmfmeenfhdohcaaP0
import Derived.Test.YtmfmeenfhdohcaaP2
import Derived.Test.YtmfmeenfhdohcaaP3
import Derived.Test.YtmfmeenfhdohcaaP5
import Derived.Test.YtmfmeenfhdohcaaP6
import Derived.Test.YtmfmeenfhdohcaaP7
namespace Go.Proofs.Ytmfmeenfhdohcaa.P
open Go.RowKit Go.Proofs.YtmfmeenfhdohcaaW.PrintWords Go.Proofs.YtmfmeenfhdohcaaW.PrintLast Go.Proofs.YtmfmeenfhdohcaaW.PrintMore
attribute [local go_sem] max2_int min2_int max_two min_two max_three min_three max_four min_four
set_option linter.unusedVariables false
set_option linter.unusedSimpArgs false
attribute [local go_sem high] eqATie
set_option maxHeartbeats 8000000 in
set_option maxRecDepth 100000 in
theorem impl_Net_parts.calls (k : Nat) (a0_0 : Int) (A0_1 : Option Addr) (c0_1 : Nat) (l0_1 : List (STie)) (r : List Int) (w : World) (hr0_1 : Kd.C kTie w A0_1 l0_1.length l0_1) (hc0_1 : l0_1.length ≤ c0_1) (h : impl_Net_parts.f k a0_0 l0_1 = some r) :
    Calls Try.prog 63 #[.agg #[.int .i64 a0_0, .slice A0_1 l0_1.length c0_1]] w fun e w' => ∃ v0_ : Value, e = .returned (v0_) ∧ Kd.R (Kd.int .i64) 3 w' w.heap.size (fun _ => True) v0_ r ∧ Below w.heap.size w w' := by
 have hu31 := Try.underlying31
 have hu74 := Try.underlying74
 have HR0_1 := Aside0.mk hr0_1
 have HC0_1 := Aside0.mk hc0_1
 clear hr0_1 hc0_1
 have HB := q0 (Below.refl w.heap.size w)
 have H : (impl_Net_parts.l0 k (([] : List Int)) a0_0 0 a0_0 l0_1) = some r := h
 clear h
 obtain ⟨y100, hy100⟩ : ∃ y_ : List Int, y_ = (([] : List Int)) := ⟨_, rfl⟩
 replace H : (impl_Net_parts.l0 k y100 a0_0 0 a0_0 l0_1) = some r := qy H hy100
 have Ny100 := Aside0.mk hy100
 clear hy100
 have H' := Aside0.mk H
 clear H
 go_enter Try.func63, Try.ntmps63
 go_wp2_with (first | ((with_reducible refine gate_dst (N := 1) rfl ?_); refine be 1 #[.int .i64 a0_0, .slice A0_1 l0_1.length c0_1] 31 ?_; intro gb101 hg w2 hbox hb; have BK101 := q0 (hbox); have GW101 := q0 ((bs HB.out hg : w.heap.size ≤ gb101)); have GE101 := q0 ((bs HB.out hg : w.heap.size ≤ gb101)); replace HB := q0 (below_step (qb HB.out) hb); clear hb hbox hg) | ((with_reducible refine gate_dst (N := 9) rfl ?_); refine Kd.R_lit (Kd.int .i64) _ 3 ?hg (N := 9) ?hd (xs := ([] : List Int)) (inner := []) (ok := fun _ => True) (okp := fun _ => True) ?hr ?hp (fun _ hk => hk) trivial (Below.refl _ _) (Nat.le_refl _) (by simp) ?_; (case hd => rfl); (case hg => rfl); (case hr => first | (go_simp; done) | (go_simp; rfl)); (case hp => exact (Reps.none _ _)); intro v102 w3 ho4 hb hg_ hnew_; clear hg_ hnew_; (first | rw [← Ny100.out] at ho4 | (simp only [Int.reduceToNat] at ho4; rw [← Ny100.out] at ho4)); have HO103 := q0 (Kd.R_lower ho4 (below_size (qb HB.out))); replace BK101 := q0 (kb BK101.out hb); replace HB := q0 (below_step (qb HB.out) hb); clear hb ho4; have hcz5_0 : w3.cell? ⟨gb101, 0, none⟩ = some (.int .i64 a0_0) := (blk_cell BK101.out 0).trans rfl; have hcz5_1 : w3.cell? ⟨gb101, 1, none⟩ = some (.slice A0_1 l0_1.length c0_1) := (blk_cell BK101.out 1).trans rfl; have hfz5_0 := blk_frozen BK101.out 0; have hfz5_1 := blk_frozen BK101.out 1))
 repeat (go_quiet (first | ((with_reducible refine gate_dst (N := 1) rfl ?_); refine be 1 #[.int .i64 a0_0, .slice A0_1 l0_1.length c0_1] 31 ?_; intro gb101 hg w2 hbox hb; have BK101 := q0 (hbox); have GW101 := q0 ((bs HB.out hg : w.heap.size ≤ gb101)); have GE101 := q0 ((bs HB.out hg : w.heap.size ≤ gb101)); replace HB := q0 (below_step (qb HB.out) hb); clear hb hbox hg) | ((with_reducible refine gate_dst (N := 9) rfl ?_); refine Kd.R_lit (Kd.int .i64) _ 3 ?hg (N := 9) ?hd (xs := ([] : List Int)) (inner := []) (ok := fun _ => True) (okp := fun _ => True) ?hr ?hp (fun _ hk => hk) trivial (Below.refl _ _) (Nat.le_refl _) (by simp) ?_; (case hd => rfl); (case hg => rfl); (case hr => first | (go_simp; done) | (go_simp; rfl)); (case hp => exact (Reps.none _ _)); intro v102 w3 ho4 hb hg_ hnew_; clear hg_ hnew_; (first | rw [← Ny100.out] at ho4 | (simp only [Int.reduceToNat] at ho4; rw [← Ny100.out] at ho4)); have HO103 := q0 (Kd.R_lower ho4 (below_size (qb HB.out))); replace BK101 := q0 (kb BK101.out hb); replace HB := q0 (below_step (qb HB.out) hb); clear hb ho4; have hcz5_0 : w3.cell? ⟨gb101, 0, none⟩ = some (.int .i64 a0_0) := (blk_cell BK101.out 0).trans rfl; have hcz5_1 : w3.cell? ⟨gb101, 1, none⟩ = some (.slice A0_1 l0_1.length c0_1) := (blk_cell BK101.out 1).trans rfl; have hfz5_0 := blk_frozen BK101.out 0; have hfz5_1 := blk_frozen BK101.out 1)); try go_wp2_with (first | ((with_reducible refine gate_dst (N := 1) rfl ?_); refine be 1 #[.int .i64 a0_0, .slice A0_1 l0_1.length c0_1] 31 ?_; intro gb101 hg w2 hbox hb; have BK101 := q0 (hbox); have GW101 := q0 ((bs HB.out hg : w.heap.size ≤ gb101)); have GE101 := q0 ((bs HB.out hg : w.heap.size ≤ gb101)); replace HB := q0 (below_step (qb HB.out) hb); clear hb hbox hg) | ((with_reducible refine gate_dst (N := 9) rfl ?_); refine Kd.R_lit (Kd.int .i64) _ 3 ?hg (N := 9) ?hd (xs := ([] : List Int)) (inner := []) (ok := fun _ => True) (okp := fun _ => True) ?hr ?hp (fun _ hk => hk) trivial (Below.refl _ _) (Nat.le_refl _) (by simp) ?_; (case hd => rfl); (case hg => rfl); (case hr => first | (go_simp; done) | (go_simp; rfl)); (case hp => exact (Reps.none _ _)); intro v102 w3 ho4 hb hg_ hnew_; clear hg_ hnew_; (first | rw [← Ny100.out] at ho4 | (simp only [Int.reduceToNat] at ho4; rw [← Ny100.out] at ho4)); have HO103 := q0 (Kd.R_lower ho4 (below_size (qb HB.out))); replace BK101 := q0 (kb BK101.out hb); replace HB := q0 (below_step (qb HB.out) hb); clear hb ho4; have hcz5_0 : w3.cell? ⟨gb101, 0, none⟩ = some (.int .i64 a0_0) := (blk_cell BK101.out 0).trans rfl; have hcz5_1 : w3.cell? ⟨gb101, 1, none⟩ = some (.slice A0_1 l0_1.length c0_1) := (blk_cell BK101.out 1).trans rfl; have hfz5_0 := blk_frozen BK101.out 0; have hfz5_1 := blk_frozen BK101.out 1)))
 go_loopg [3, 12] k (fun kq v3 v12 w' => ∃ (x3_1 : List Int) (x12_1 : Int), v12 = .int .i64 x12_1 ∧ Aside0 (impl_Net_parts.l0 kq x3_1 a0_0 x12_1 a0_0 l0_1 = some r) ∧ Aside0 (kq ≤ k) ∧ Aside0 (Kd.R (Kd.int .i64) 3 w' w.heap.size (fun _ => True) v3 x3_1) ∧ Aside0 (w'.heap[gb101]? = some (.cells #[.int .i64 a0_0, (.slice A0_1 l0_1.length c0_1)] 31 (0, 0))) ∧ Aside0 (Below w.heap.size w w'))
 case atStart => exact ⟨(y100), (0), qs, H', ⟨Nat.le_refl _⟩, ⟨qr HO103.out⟩, ⟨qk BK101.out⟩, ⟨qb HB.out⟩⟩
 clear H'
 try clear p2
 try clear hcz5_0
 try clear hcz5_1
 try clear hfz5_0
 try clear hfz5_1
 obtain ⟨x3_1, x12_1, rfl, HA, HK1, HO_3, BK101, HB⟩ := hrel
 rcases gk with _ | k1
 · exact absurd HA.out (by simp [impl_Net_parts.l0])
 have H := HA.out
 clear HA
 simp only [impl_Net_parts.l0] at H
 by_cases c6 : x12_1 < a0_0
 · rw [if_pos c6] at H
   have c6b0 : decide (x12_1 < a0_0) = true := decide_eq_true c6
   clear c6
   by_cases c7 : x3_1.length < 17592186044416
   rotate_left
   · rw [if_neg c7] at H
     exact absurd H (by simp)
   rw [if_pos c7] at H
   have LMc7 := Aside0.mk c7
   clear c7
   obtain ⟨y104, hy104⟩ : ∃ y_ : List Int, y_ = (x3_1 ++ [x12_1]) := ⟨_, rfl⟩
   replace H : (impl_Net_parts.l0 k1 y104 a0_0 (wrap64 (x12_1 + 1)) a0_0 l0_1) = some r := qy H hy104
   have Ny104 := Aside0.mk hy104
   clear hy104
   have H' := Aside0.mk H
   clear H
   go_wp2_with (first | ((with_reducible refine gate_builtin (b := .append) (xs := #[.tmp 15, .tmp 17]) rfl ?_); at_builtin; refine Kd.R_append (Kd.int .i64) (w0 := w) w.heap.size rfl (.tmp 15) (.tmp 17) 26 3 (.int .i64 0) 8 rfl Try.underlying26 info3 rfl (by decide) (by omega) u3 x3_1 x12_1 [.int .i64 x12_1] (fun _ => True) (fun _ => False) rfl rfl ?aP (fun _ hk => hk.elim) ?aF ?aO ?aB ?aS ?aL ?_; (case aP => exact rfl); (case aB => exact (qb HB.out)); (case aF => exact (fun _ _ => trivial)); (case aO => exact (qr HO_3.out)); (case aS => exact (below_size (qb HB.out))); (case aL => have := LMc7.out; omega); intro v105 w8 ho hb hg hat; rw [← Ny104.out] at ho; replace BK101 := q0 (blk_grown (g := gb101) (o := .cells #[.int .i64 a0_0, .slice A0_1 l0_1.length c0_1] 31 (0, 0)) (qk BK101.out) hg (Kd.R_ne HO_3.out BK101.out (by decide))); replace HB := q0 (hb); have HO106 := q0 (ho); clear HO_3; clear ho hb hg hat))
   repeat (go_quiet (first | ((with_reducible refine gate_builtin (b := .append) (xs := #[.tmp 15, .tmp 17]) rfl ?_); at_builtin; refine Kd.R_append (Kd.int .i64) (w0 := w) w.heap.size rfl (.tmp 15) (.tmp 17) 26 3 (.int .i64 0) 8 rfl Try.underlying26 info3 rfl (by decide) (by omega) u3 x3_1 x12_1 [.int .i64 x12_1] (fun _ => True) (fun _ => False) rfl rfl ?aP (fun _ hk => hk.elim) ?aF ?aO ?aB ?aS ?aL ?_; (case aP => exact rfl); (case aB => exact (qb HB.out)); (case aF => exact (fun _ _ => trivial)); (case aO => exact (qr HO_3.out)); (case aS => exact (below_size (qb HB.out))); (case aL => have := LMc7.out; omega); intro v105 w8 ho hb hg hat; rw [← Ny104.out] at ho; replace BK101 := q0 (blk_grown (g := gb101) (o := .cells #[.int .i64 a0_0, .slice A0_1 l0_1.length c0_1] 31 (0, 0)) (qk BK101.out) hg (Kd.R_ne HO_3.out BK101.out (by decide))); replace HB := q0 (hb); have HO106 := q0 (ho); clear HO_3; clear ho hb hg hat)); try go_wp2_with (first | ((with_reducible refine gate_builtin (b := .append) (xs := #[.tmp 15, .tmp 17]) rfl ?_); at_builtin; refine Kd.R_append (Kd.int .i64) (w0 := w) w.heap.size rfl (.tmp 15) (.tmp 17) 26 3 (.int .i64 0) 8 rfl Try.underlying26 info3 rfl (by decide) (by omega) u3 x3_1 x12_1 [.int .i64 x12_1] (fun _ => True) (fun _ => False) rfl rfl ?aP (fun _ hk => hk.elim) ?aF ?aO ?aB ?aS ?aL ?_; (case aP => exact rfl); (case aB => exact (qb HB.out)); (case aF => exact (fun _ _ => trivial)); (case aO => exact (qr HO_3.out)); (case aS => exact (below_size (qb HB.out))); (case aL => have := LMc7.out; omega); intro v105 w8 ho hb hg hat; rw [← Ny104.out] at ho; replace BK101 := q0 (blk_grown (g := gb101) (o := .cells #[.int .i64 a0_0, .slice A0_1 l0_1.length c0_1] 31 (0, 0)) (qk BK101.out) hg (Kd.R_ne HO_3.out BK101.out (by decide))); replace HB := q0 (hb); have HO106 := q0 (ho); clear HO_3; clear ho hb hg hat)))
   go_roundg k1
   case measure => have := HK1.out; omega
   case rel => exact ⟨(y104), (wrap64 (x12_1 + 1)), qs, H', ⟨by have := HK1.out; omega⟩, ⟨qr HO106.out⟩, ⟨qk BK101.out⟩, ⟨qb HB.out⟩⟩
 rw [if_neg c6] at H
 have c6b0 : decide (x12_1 < a0_0) = false := decide_eq_false c6
 clear c6
 have H' := Aside0.mk H
 clear H
 go_wp2
 repeat (go_quiet (fail); try go_wp2)
 go_loopg [5] k1 (fun kq v5 w' => ∃ (x3_2 : List Int) (x5_2 : Bool), v5 = .bool x5_2 ∧ Aside0 (impl_Net_parts.l1 kq x3_2 x5_2 a0_0 l0_1 = some r) ∧ Aside0 (kq ≤ k1) ∧ Aside0 (Kd.R (Kd.int .i64) 3 w' w.heap.size (fun _ => True) u3 x3_2) ∧ Aside0 (w'.heap[gb101]? = some (.cells #[.int .i64 a0_0, (.slice A0_1 l0_1.length c0_1)] 31 (0, 0))) ∧ Aside0 (Below w.heap.size w w'))
 case atStart => exact ⟨(x3_1), (true), qs, H', ⟨Nat.le_refl _⟩, ⟨qr HO_3.out⟩, ⟨qk BK101.out⟩, ⟨qb HB.out⟩⟩
 clear H'
 try clear p2
 try clear c6
 try clear c6b0
 try clear p6
 try clear c7
 try clear hcz5_0
 try clear hcz5_1
 try clear hfz5_0
 try clear hfz5_1
 try clear p2
 obtain ⟨x3_2, x5_2, rfl, HA, HK2, HO_3, BK101, HB⟩ := hrel
 rcases gk with _ | k2
 · exact absurd HA.out (by simp [impl_Net_parts.l1])
 have H := HA.out
 clear HA
 simp only [impl_Net_parts.l1] at H
 by_cases c9 : x5_2 = true
 rotate_left
 · replace c9 := Bool.eq_false_iff.mpr c9
   subst c9
   rw [if_neg nf] at H
   obtain rfl := Option.some.inj H
   go_wp2
   repeat (go_quiet (fail); try go_wp2)
   go_ret
   exact ⟨_, qe, qr HO_3.out, qb HB.out⟩
 subst c9
 rw [if_pos rfl] at H
 have H' := Aside0.mk H
 clear H
 have hcz10_0 : wr.cell? ⟨gb101, 0, none⟩ = some (.int .i64 a0_0) := (blk_cell BK101.out 0).trans rfl
 have hcz10_1 : wr.cell? ⟨gb101, 1, none⟩ = some (.slice A0_1 l0_1.length c0_1) := (blk_cell BK101.out 1).trans rfl
 have hfz10_0 := blk_frozen BK101.out 0
 have hfz10_1 := blk_frozen BK101.out 1
 go_wp2
 repeat (go_quiet (fail); try go_wp2)
 go_loopg [5, 24] k2 (fun kq v5 v24 w' => ∃ (x3_3 : List Int) (x5_3 : Bool) (x24_3 : Int), v5 = .bool x5_3 ∧ v24 = .int .i64 x24_3 ∧ Aside0 (impl_Net_parts.l2 kq x3_3 x5_3 l0_1 (l0_1.length : Int) x24_3 a0_0 l0_1 = some r) ∧ Aside0 (kq ≤ k2) ∧ Aside0 (Kd.R (Kd.int .i64) 3 w' w.heap.size (fun _ => True) u3 x3_3) ∧ Aside0 (w'.heap[gb101]? = some (.cells #[.int .i64 a0_0, (.slice A0_1 l0_1.length c0_1)] 31 (0, 0))) ∧ Aside0 (Below w.heap.size w w'))
 case atStart => exact ⟨(x3_2), (false), (0), qs, qs, H', ⟨Nat.le_refl _⟩, ⟨qr HO_3.out⟩, ⟨qk BK101.out⟩, ⟨qb HB.out⟩⟩
 clear H'
 try clear p2
 try clear c6
 try clear c6b0
 try clear p6
 try clear c7
 try clear c9
 try clear hcz10_0
 try clear hcz10_1
 try clear hcz5_0
 try clear hcz5_1
 try clear hfz10_0
 try clear hfz10_1
 try clear hfz5_0
 try clear hfz5_1
 try clear p2
 try clear p6
 obtain ⟨x3_3, x5_3, x24_3, rfl, rfl, HA, HK3, HO_3, BK101, HB⟩ := hrel
 rcases gk with _ | k3
 · exact absurd HA.out (by simp [impl_Net_parts.l2])
 have H := HA.out
 clear HA
 simp only [impl_Net_parts.l2] at H
 by_cases c11 : x24_3 < (l0_1.length : Int)
 rotate_left
 · rw [if_neg c11] at H
   have c11b0 : decide (x24_3 < (l0_1.length : Int)) = false := decide_eq_false c11
   clear c11
   have H' := Aside0.mk H
   clear H
   go_wp2
   repeat (go_quiet (fail); try go_wp2)
   go_roundg k3
   case measure => have := HK1.out; have := HK2.out; have := HK3.out; omega
   case rel => exact ⟨(x3_3), (x5_3), qs, H', ⟨by have := HK1.out; have := HK2.out; have := HK3.out; omega⟩, ⟨qr HO_3.out⟩, ⟨qk BK101.out⟩, ⟨qb HB.out⟩⟩
 rw [if_pos c11] at H
 have c11b0 : decide (x24_3 < (l0_1.length : Int)) = true := decide_eq_true c11
 clear c11
 by_cases c12 : 0 ≤ x24_3
 rotate_left
 · rw [if_neg c12] at H
   exact absurd H (by simp)
 rw [if_pos c12] at H
 have c12b0 : decide (0 ≤ x24_3) = true := decide_eq_true c12
 clear c12
 by_cases c13 : x24_3 < (l0_1.length : Int)
 rotate_left
 · rw [if_neg c13] at H
   exact absurd H (by simp)
 rw [if_pos c13] at H
 have c13b0 : decide (x24_3 < (l0_1.length : Int)) = true := decide_eq_true c13
 clear c13
 by_cases c14 : 0 ≤ ((rd_TTie l0_1 x24_3).f0)
 rotate_left
 · rw [if_neg c14] at H
   exact absurd H (by simp)
 rw [if_pos c14] at H
 have c14b0 : decide (0 ≤ ((rd_TTie l0_1 x24_3).f0)) = true := decide_eq_true c14
 clear c14
 by_cases c15 : ((rd_TTie l0_1 x24_3).f0) < (x3_3.length : Int)
 rotate_left
 · rw [if_neg c15] at H
   exact absurd H (by simp)
 rw [if_pos c15] at H
 have c15b0 : decide (((rd_TTie l0_1 x24_3).f0) < (x3_3.length : Int)) = true := decide_eq_true c15
 clear c15
 by_cases c16 : 0 ≤ ((rd_TTie l0_1 x24_3).f1)
 rotate_left
 · rw [if_neg c16] at H
   exact absurd H (by simp)
 rw [if_pos c16] at H
 have c16b0 : decide (0 ≤ ((rd_TTie l0_1 x24_3).f1)) = true := decide_eq_true c16
 clear c16
 by_cases c17 : ((rd_TTie l0_1 x24_3).f1) < (x3_3.length : Int)
 rotate_left
 · rw [if_neg c17] at H
   exact absurd H (by simp)
 rw [if_pos c17] at H
 have c17b0 : decide (((rd_TTie l0_1 x24_3).f1) < (x3_3.length : Int)) = true := decide_eq_true c17
 clear c17
 obtain ⟨ji18, hji18⟩ : ∃ j_ : Int, (mn (rd x3_3 ((rd_TTie l0_1 x24_3).f0)) (rd x3_3 ((rd_TTie l0_1 x24_3).f1))) = j_ := ⟨_, rfl⟩
 replace H : (if (rd x3_3 ((rd_TTie l0_1 x24_3).f0)) = (rd x3_3 ((rd_TTie l0_1 x24_3).f1)) then (impl_Net_parts.l2 k3 x3_3 x5_3 l0_1 (l0_1.length : Int) (wrap64 (x24_3 + 1)) a0_0 l0_1) else (impl_Net_parts.l2 k3 ((x3_3.set (((rd_TTie l0_1 x24_3).f0) : Int).toNat (ji18)).set (((rd_TTie l0_1 x24_3).f1) : Int).toNat (ji18)) true l0_1 (l0_1.length : Int) (wrap64 (x24_3 + 1)) a0_0 l0_1)) = some r := by first | (rw [hji18] at H; exact H) | (simp only [hji18] at H ⊢; exact H)
 have hji18_ : (if (rd x3_3 ((rd_TTie l0_1 x24_3).f1)) < (rd x3_3 ((rd_TTie l0_1 x24_3).f0)) then (rd x3_3 ((rd_TTie l0_1 x24_3).f1)) else (rd x3_3 ((rd_TTie l0_1 x24_3).f0))) = ji18 := hji18
 by_cases c19 : (rd x3_3 ((rd_TTie l0_1 x24_3).f0)) = (rd x3_3 ((rd_TTie l0_1 x24_3).f1))
 · rw [if_pos c19] at H
   have c19b0 : ((rd x3_3 ((rd_TTie l0_1 x24_3).f0)) == (rd x3_3 ((rd_TTie l0_1 x24_3).f1))) = true := beq_iff_eq.mpr c19
   have c19b1 : ((rd x3_3 ((rd_TTie l0_1 x24_3).f0)) != (rd x3_3 ((rd_TTie l0_1 x24_3).f1))) = false := bne_eq_false_iff_eq.mpr c19
   clear c19
   have H' := Aside0.mk H
   clear H
   have p107 : 0 ≤ (x24_3 : Int) := of_decide_eq_true qa
   have q107 : x24_3 < (l0_1.length : Int) := of_decide_eq_true qa
   obtain ⟨ad107, e107, hx107_0, hx107_1⟩ := at_TTie HR0_1.out x24_3 p107 q107
   cases e107
   replace hx107_0 := (HB.out.cell (World.block_lt_of_cell? w _ hx107_0)).trans hx107_0
   replace hx107_1 := (HB.out.cell (World.block_lt_of_cell? w _ hx107_1)).trans hx107_1
   replace p107 := eq_true p107
   replace q107 := eq_true q107
   go_wp2_with (first | ((with_reducible refine gate_dst (N := 7) rfl ?_); refine be 7 #[.int .i64 0, .int .i64 0] 74 ?_; intro gb108 hg w20 hbox hb; replace HO_3 := q0 (Kd.R_below (qr HO_3.out) hb); have BK108 := q0 (hbox); have GW108 := q0 ((bs HB.out hg : w.heap.size ≤ gb108)); have GE108 := q0 ((bs HB.out hg : w.heap.size ≤ gb108)); replace HB := q0 (below_step (qb HB.out) hb); have NB101_108 := q0 ((bl BK101.out hg : gb101 ≠ gb108)); have NB108_101 := q0 ((bg BK101.out hg : gb108 ≠ gb101)); replace BK101 := q0 (kb BK101.out hb); clear hb hbox hg; have hnb21 := NB108_101.out; have hnc21 := NB101_108.out; have hcz22_0 : w20.cell? ⟨gb108, 0, none⟩ = some (.int .i64 0) := (blk_cell BK108.out 0).trans rfl; have hcz22_1 : w20.cell? ⟨gb108, 1, none⟩ = some (.int .i64 0) := (blk_cell BK108.out 1).trans rfl; have hfz22_0 := blk_frozen BK108.out 0; have hfz22_1 := blk_frozen BK108.out 1; obtain ⟨Ao23, co23, eo23⟩ := Kd.R_slice HO_3.out; subst eo23; have p109 : 0 ≤ (((rd_TTie l0_1 x24_3).f0) : Int) := of_decide_eq_true qa; have q109 : ((rd_TTie l0_1 x24_3).f0) < (x3_3.length : Int) := of_decide_eq_true qa; obtain ⟨ad109, e109, hx109_0⟩ := Kd.at_int (Kd.R_reads' HO_3.out).2.2 ((rd_TTie l0_1 x24_3).f0) p109 q109; cases e109; have hn109_0 : ad109.block ≠ gb108 := Kd.own_blk (Kd.R_ne HO_3.out BK108.out (by decide)); have hn109_1 : ad109.block ≠ gb108 := Kd.own_blk (Kd.R_ne HO_3.out BK108.out (by decide)); replace hx109_0 := (cell_far (p := ⟨gb108, 0, none⟩) (by first | (rw [add_block]; exact hn109_0) | (show (Addr.add _ _).block ≠ _; rw [add_block]; exact hn109_0) | exact hn109_0) (.int .i64 ((rd_TTie l0_1 x24_3).f0))).trans hx109_0; replace hx109_0 := (cell_far (p := ⟨gb108, 1, none⟩) (by first | (rw [add_block]; exact hn109_1) | (show (Addr.add _ _).block ≠ _; rw [add_block]; exact hn109_1) | exact hn109_1) (.int .i64 ((rd_TTie l0_1 x24_3).f1))).trans hx109_0; (try have hy109_0 := fun (n_ : Nat) => (show ((((w20.drewN n_).setCell ⟨gb108, 0, none⟩ (.int .i64 ((rd_TTie l0_1 x24_3).f0))).setCell ⟨gb108, 1, none⟩ (.int .i64 ((rd_TTie l0_1 x24_3).f1)))).cell? _ = some _ from hx109_0)); clear hn109_0 hn109_1; replace p109 := eq_true p109; replace q109 := eq_true q109; have p110 : 0 ≤ (((rd_TTie l0_1 x24_3).f1) : Int) := of_decide_eq_true qa; have q110 : ((rd_TTie l0_1 x24_3).f1) < (x3_3.length : Int) := of_decide_eq_true qa; obtain ⟨ad110, e110, hx110_0⟩ := Kd.at_int (Kd.R_reads' HO_3.out).2.2 ((rd_TTie l0_1 x24_3).f1) p110 q110; obtain rfl : ad109 = ad110 := (by injection e110); have hn110_0 : ad109.block ≠ gb108 := Kd.own_blk (Kd.R_ne HO_3.out BK108.out (by decide)); have hn110_1 : ad109.block ≠ gb108 := Kd.own_blk (Kd.R_ne HO_3.out BK108.out (by decide)); replace hx110_0 := (cell_far (p := ⟨gb108, 0, none⟩) (by first | (rw [add_block]; exact hn110_0) | (show (Addr.add _ _).block ≠ _; rw [add_block]; exact hn110_0) | exact hn110_0) (.int .i64 ((rd_TTie l0_1 x24_3).f0))).trans hx110_0; replace hx110_0 := (cell_far (p := ⟨gb108, 1, none⟩) (by first | (rw [add_block]; exact hn110_1) | (show (Addr.add _ _).block ≠ _; rw [add_block]; exact hn110_1) | exact hn110_1) (.int .i64 ((rd_TTie l0_1 x24_3).f1))).trans hx110_0; (try have hy110_0 := fun (n_ : Nat) => (show ((((w20.drewN n_).setCell ⟨gb108, 0, none⟩ (.int .i64 ((rd_TTie l0_1 x24_3).f0))).setCell ⟨gb108, 1, none⟩ (.int .i64 ((rd_TTie l0_1 x24_3).f1)))).cell? _ = some _ from hx110_0)); clear hn110_0 hn110_1; replace p110 := eq_true p110; replace q110 := eq_true q110; have p111 : 0 ≤ (((rd_TTie l0_1 x24_3).f0) : Int) := of_decide_eq_true qa; have q111 : ((rd_TTie l0_1 x24_3).f0) < (x3_3.length : Int) := of_decide_eq_true qa; obtain ⟨ad111, e111, hx111_0⟩ := Kd.at_int (Kd.R_reads' HO_3.out).2.2 ((rd_TTie l0_1 x24_3).f0) p111 q111; obtain rfl : ad109 = ad111 := (by injection e111); have hn111_0 : ad109.block ≠ gb108 := Kd.own_blk (Kd.R_ne HO_3.out BK108.out (by decide)); have hn111_1 : ad109.block ≠ gb108 := Kd.own_blk (Kd.R_ne HO_3.out BK108.out (by decide)); replace hx111_0 := (cell_far (p := ⟨gb108, 0, none⟩) (by first | (rw [add_block]; exact hn111_0) | (show (Addr.add _ _).block ≠ _; rw [add_block]; exact hn111_0) | exact hn111_0) (.int .i64 ((rd_TTie l0_1 x24_3).f0))).trans hx111_0; replace hx111_0 := (cell_far (p := ⟨gb108, 1, none⟩) (by first | (rw [add_block]; exact hn111_1) | (show (Addr.add _ _).block ≠ _; rw [add_block]; exact hn111_1) | exact hn111_1) (.int .i64 ((rd_TTie l0_1 x24_3).f1))).trans hx111_0; (try have hy111_0 := fun (n_ : Nat) => (show ((((w20.drewN n_).setCell ⟨gb108, 0, none⟩ (.int .i64 ((rd_TTie l0_1 x24_3).f0))).setCell ⟨gb108, 1, none⟩ (.int .i64 ((rd_TTie l0_1 x24_3).f1)))).cell? _ = some _ from hx111_0)); clear hn111_0 hn111_1; replace p111 := eq_true p111; replace q111 := eq_true q111; have p112 : 0 ≤ (((rd_TTie l0_1 x24_3).f1) : Int) := of_decide_eq_true qa; have q112 : ((rd_TTie l0_1 x24_3).f1) < (x3_3.length : Int) := of_decide_eq_true qa; obtain ⟨ad112, e112, hx112_0⟩ := Kd.at_int (Kd.R_reads' HO_3.out).2.2 ((rd_TTie l0_1 x24_3).f1) p112 q112; obtain rfl : ad109 = ad112 := (by injection e112); have hn112_0 : ad109.block ≠ gb108 := Kd.own_blk (Kd.R_ne HO_3.out BK108.out (by decide)); have hn112_1 : ad109.block ≠ gb108 := Kd.own_blk (Kd.R_ne HO_3.out BK108.out (by decide)); replace hx112_0 := (cell_far (p := ⟨gb108, 0, none⟩) (by first | (rw [add_block]; exact hn112_0) | (show (Addr.add _ _).block ≠ _; rw [add_block]; exact hn112_0) | exact hn112_0) (.int .i64 ((rd_TTie l0_1 x24_3).f0))).trans hx112_0; replace hx112_0 := (cell_far (p := ⟨gb108, 1, none⟩) (by first | (rw [add_block]; exact hn112_1) | (show (Addr.add _ _).block ≠ _; rw [add_block]; exact hn112_1) | exact hn112_1) (.int .i64 ((rd_TTie l0_1 x24_3).f1))).trans hx112_0; (try have hy112_0 := fun (n_ : Nat) => (show ((((w20.drewN n_).setCell ⟨gb108, 0, none⟩ (.int .i64 ((rd_TTie l0_1 x24_3).f0))).setCell ⟨gb108, 1, none⟩ (.int .i64 ((rd_TTie l0_1 x24_3).f1)))).cell? _ = some _ from hx112_0)); clear hn112_0 hn112_1; replace p112 := eq_true p112; replace q112 := eq_true q112))
   repeat (go_quiet (first | ((with_reducible refine gate_dst (N := 7) rfl ?_); refine be 7 #[.int .i64 0, .int .i64 0] 74 ?_; intro gb108 hg w20 hbox hb; replace HO_3 := q0 (Kd.R_below (qr HO_3.out) hb); have BK108 := q0 (hbox); have GW108 := q0 ((bs HB.out hg : w.heap.size ≤ gb108)); have GE108 := q0 ((bs HB.out hg : w.heap.size ≤ gb108)); replace HB := q0 (below_step (qb HB.out) hb); have NB101_108 := q0 ((bl BK101.out hg : gb101 ≠ gb108)); have NB108_101 := q0 ((bg BK101.out hg : gb108 ≠ gb101)); replace BK101 := q0 (kb BK101.out hb); clear hb hbox hg; have hnb21 := NB108_101.out; have hnc21 := NB101_108.out; have hcz22_0 : w20.cell? ⟨gb108, 0, none⟩ = some (.int .i64 0) := (blk_cell BK108.out 0).trans rfl; have hcz22_1 : w20.cell? ⟨gb108, 1, none⟩ = some (.int .i64 0) := (blk_cell BK108.out 1).trans rfl; have hfz22_0 := blk_frozen BK108.out 0; have hfz22_1 := blk_frozen BK108.out 1; obtain ⟨Ao23, co23, eo23⟩ := Kd.R_slice HO_3.out; subst eo23; have p109 : 0 ≤ (((rd_TTie l0_1 x24_3).f0) : Int) := of_decide_eq_true qa; have q109 : ((rd_TTie l0_1 x24_3).f0) < (x3_3.length : Int) := of_decide_eq_true qa; obtain ⟨ad109, e109, hx109_0⟩ := Kd.at_int (Kd.R_reads' HO_3.out).2.2 ((rd_TTie l0_1 x24_3).f0) p109 q109; cases e109; have hn109_0 : ad109.block ≠ gb108 := Kd.own_blk (Kd.R_ne HO_3.out BK108.out (by decide)); have hn109_1 : ad109.block ≠ gb108 := Kd.own_blk (Kd.R_ne HO_3.out BK108.out (by decide)); replace hx109_0 := (cell_far (p := ⟨gb108, 0, none⟩) (by first | (rw [add_block]; exact hn109_0) | (show (Addr.add _ _).block ≠ _; rw [add_block]; exact hn109_0) | exact hn109_0) (.int .i64 ((rd_TTie l0_1 x24_3).f0))).trans hx109_0; replace hx109_0 := (cell_far (p := ⟨gb108, 1, none⟩) (by first | (rw [add_block]; exact hn109_1) | (show (Addr.add _ _).block ≠ _; rw [add_block]; exact hn109_1) | exact hn109_1) (.int .i64 ((rd_TTie l0_1 x24_3).f1))).trans hx109_0; (try have hy109_0 := fun (n_ : Nat) => (show ((((w20.drewN n_).setCell ⟨gb108, 0, none⟩ (.int .i64 ((rd_TTie l0_1 x24_3).f0))).setCell ⟨gb108, 1, none⟩ (.int .i64 ((rd_TTie l0_1 x24_3).f1)))).cell? _ = some _ from hx109_0)); clear hn109_0 hn109_1; replace p109 := eq_true p109; replace q109 := eq_true q109; have p110 : 0 ≤ (((rd_TTie l0_1 x24_3).f1) : Int) := of_decide_eq_true qa; have q110 : ((rd_TTie l0_1 x24_3).f1) < (x3_3.length : Int) := of_decide_eq_true qa; obtain ⟨ad110, e110, hx110_0⟩ := Kd.at_int (Kd.R_reads' HO_3.out).2.2 ((rd_TTie l0_1 x24_3).f1) p110 q110; obtain rfl : ad109 = ad110 := (by injection e110); have hn110_0 : ad109.block ≠ gb108 := Kd.own_blk (Kd.R_ne HO_3.out BK108.out (by decide)); have hn110_1 : ad109.block ≠ gb108 := Kd.own_blk (Kd.R_ne HO_3.out BK108.out (by decide)); replace hx110_0 := (cell_far (p := ⟨gb108, 0, none⟩) (by first | (rw [add_block]; exact hn110_0) | (show (Addr.add _ _).block ≠ _; rw [add_block]; exact hn110_0) | exact hn110_0) (.int .i64 ((rd_TTie l0_1 x24_3).f0))).trans hx110_0; replace hx110_0 := (cell_far (p := ⟨gb108, 1, none⟩) (by first | (rw [add_block]; exact hn110_1) | (show (Addr.add _ _).block ≠ _; rw [add_block]; exact hn110_1) | exact hn110_1) (.int .i64 ((rd_TTie l0_1 x24_3).f1))).trans hx110_0; (try have hy110_0 := fun (n_ : Nat) => (show ((((w20.drewN n_).setCell ⟨gb108, 0, none⟩ (.int .i64 ((rd_TTie l0_1 x24_3).f0))).setCell ⟨gb108, 1, none⟩ (.int .i64 ((rd_TTie l0_1 x24_3).f1)))).cell? _ = some _ from hx110_0)); clear hn110_0 hn110_1; replace p110 := eq_true p110; replace q110 := eq_true q110; have p111 : 0 ≤ (((rd_TTie l0_1 x24_3).f0) : Int) := of_decide_eq_true qa; have q111 : ((rd_TTie l0_1 x24_3).f0) < (x3_3.length : Int) := of_decide_eq_true qa; obtain ⟨ad111, e111, hx111_0⟩ := Kd.at_int (Kd.R_reads' HO_3.out).2.2 ((rd_TTie l0_1 x24_3).f0) p111 q111; obtain rfl : ad109 = ad111 := (by injection e111); have hn111_0 : ad109.block ≠ gb108 := Kd.own_blk (Kd.R_ne HO_3.out BK108.out (by decide)); have hn111_1 : ad109.block ≠ gb108 := Kd.own_blk (Kd.R_ne HO_3.out BK108.out (by decide)); replace hx111_0 := (cell_far (p := ⟨gb108, 0, none⟩) (by first | (rw [add_block]; exact hn111_0) | (show (Addr.add _ _).block ≠ _; rw [add_block]; exact hn111_0) | exact hn111_0) (.int .i64 ((rd_TTie l0_1 x24_3).f0))).trans hx111_0; replace hx111_0 := (cell_far (p := ⟨gb108, 1, none⟩) (by first | (rw [add_block]; exact hn111_1) | (show (Addr.add _ _).block ≠ _; rw [add_block]; exact hn111_1) | exact hn111_1) (.int .i64 ((rd_TTie l0_1 x24_3).f1))).trans hx111_0; (try have hy111_0 := fun (n_ : Nat) => (show ((((w20.drewN n_).setCell ⟨gb108, 0, none⟩ (.int .i64 ((rd_TTie l0_1 x24_3).f0))).setCell ⟨gb108, 1, none⟩ (.int .i64 ((rd_TTie l0_1 x24_3).f1)))).cell? _ = some _ from hx111_0)); clear hn111_0 hn111_1; replace p111 := eq_true p111; replace q111 := eq_true q111; have p112 : 0 ≤ (((rd_TTie l0_1 x24_3).f1) : Int) := of_decide_eq_true qa; have q112 : ((rd_TTie l0_1 x24_3).f1) < (x3_3.length : Int) := of_decide_eq_true qa; obtain ⟨ad112, e112, hx112_0⟩ := Kd.at_int (Kd.R_reads' HO_3.out).2.2 ((rd_TTie l0_1 x24_3).f1) p112 q112; obtain rfl : ad109 = ad112 := (by injection e112); have hn112_0 : ad109.block ≠ gb108 := Kd.own_blk (Kd.R_ne HO_3.out BK108.out (by decide)); have hn112_1 : ad109.block ≠ gb108 := Kd.own_blk (Kd.R_ne HO_3.out BK108.out (by decide)); replace hx112_0 := (cell_far (p := ⟨gb108, 0, none⟩) (by first | (rw [add_block]; exact hn112_0) | (show (Addr.add _ _).block ≠ _; rw [add_block]; exact hn112_0) | exact hn112_0) (.int .i64 ((rd_TTie l0_1 x24_3).f0))).trans hx112_0; replace hx112_0 := (cell_far (p := ⟨gb108, 1, none⟩) (by first | (rw [add_block]; exact hn112_1) | (show (Addr.add _ _).block ≠ _; rw [add_block]; exact hn112_1) | exact hn112_1) (.int .i64 ((rd_TTie l0_1 x24_3).f1))).trans hx112_0; (try have hy112_0 := fun (n_ : Nat) => (show ((((w20.drewN n_).setCell ⟨gb108, 0, none⟩ (.int .i64 ((rd_TTie l0_1 x24_3).f0))).setCell ⟨gb108, 1, none⟩ (.int .i64 ((rd_TTie l0_1 x24_3).f1)))).cell? _ = some _ from hx112_0)); clear hn112_0 hn112_1; replace p112 := eq_true p112; replace q112 := eq_true q112)); try go_wp2_with (first | ((with_reducible refine gate_dst (N := 7) rfl ?_); refine be 7 #[.int .i64 0, .int .i64 0] 74 ?_; intro gb108 hg w20 hbox hb; replace HO_3 := q0 (Kd.R_below (qr HO_3.out) hb); have BK108 := q0 (hbox); have GW108 := q0 ((bs HB.out hg : w.heap.size ≤ gb108)); have GE108 := q0 ((bs HB.out hg : w.heap.size ≤ gb108)); replace HB := q0 (below_step (qb HB.out) hb); have NB101_108 := q0 ((bl BK101.out hg : gb101 ≠ gb108)); have NB108_101 := q0 ((bg BK101.out hg : gb108 ≠ gb101)); replace BK101 := q0 (kb BK101.out hb); clear hb hbox hg; have hnb21 := NB108_101.out; have hnc21 := NB101_108.out; have hcz22_0 : w20.cell? ⟨gb108, 0, none⟩ = some (.int .i64 0) := (blk_cell BK108.out 0).trans rfl; have hcz22_1 : w20.cell? ⟨gb108, 1, none⟩ = some (.int .i64 0) := (blk_cell BK108.out 1).trans rfl; have hfz22_0 := blk_frozen BK108.out 0; have hfz22_1 := blk_frozen BK108.out 1; obtain ⟨Ao23, co23, eo23⟩ := Kd.R_slice HO_3.out; subst eo23; have p109 : 0 ≤ (((rd_TTie l0_1 x24_3).f0) : Int) := of_decide_eq_true qa; have q109 : ((rd_TTie l0_1 x24_3).f0) < (x3_3.length : Int) := of_decide_eq_true qa; obtain ⟨ad109, e109, hx109_0⟩ := Kd.at_int (Kd.R_reads' HO_3.out).2.2 ((rd_TTie l0_1 x24_3).f0) p109 q109; cases e109; have hn109_0 : ad109.block ≠ gb108 := Kd.own_blk (Kd.R_ne HO_3.out BK108.out (by decide)); have hn109_1 : ad109.block ≠ gb108 := Kd.own_blk (Kd.R_ne HO_3.out BK108.out (by decide)); replace hx109_0 := (cell_far (p := ⟨gb108, 0, none⟩) (by first | (rw [add_block]; exact hn109_0) | (show (Addr.add _ _).block ≠ _; rw [add_block]; exact hn109_0) | exact hn109_0) (.int .i64 ((rd_TTie l0_1 x24_3).f0))).trans hx109_0; replace hx109_0 := (cell_far (p := ⟨gb108, 1, none⟩) (by first | (rw [add_block]; exact hn109_1) | (show (Addr.add _ _).block ≠ _; rw [add_block]; exact hn109_1) | exact hn109_1) (.int .i64 ((rd_TTie l0_1 x24_3).f1))).trans hx109_0; (try have hy109_0 := fun (n_ : Nat) => (show ((((w20.drewN n_).setCell ⟨gb108, 0, none⟩ (.int .i64 ((rd_TTie l0_1 x24_3).f0))).setCell ⟨gb108, 1, none⟩ (.int .i64 ((rd_TTie l0_1 x24_3).f1)))).cell? _ = some _ from hx109_0)); clear hn109_0 hn109_1; replace p109 := eq_true p109; replace q109 := eq_true q109; have p110 : 0 ≤ (((rd_TTie l0_1 x24_3).f1) : Int) := of_decide_eq_true qa; have q110 : ((rd_TTie l0_1 x24_3).f1) < (x3_3.length : Int) := of_decide_eq_true qa; obtain ⟨ad110, e110, hx110_0⟩ := Kd.at_int (Kd.R_reads' HO_3.out).2.2 ((rd_TTie l0_1 x24_3).f1) p110 q110; obtain rfl : ad109 = ad110 := (by injection e110); have hn110_0 : ad109.block ≠ gb108 := Kd.own_blk (Kd.R_ne HO_3.out BK108.out (by decide)); have hn110_1 : ad109.block ≠ gb108 := Kd.own_blk (Kd.R_ne HO_3.out BK108.out (by decide)); replace hx110_0 := (cell_far (p := ⟨gb108, 0, none⟩) (by first | (rw [add_block]; exact hn110_0) | (show (Addr.add _ _).block ≠ _; rw [add_block]; exact hn110_0) | exact hn110_0) (.int .i64 ((rd_TTie l0_1 x24_3).f0))).trans hx110_0; replace hx110_0 := (cell_far (p := ⟨gb108, 1, none⟩) (by first | (rw [add_block]; exact hn110_1) | (show (Addr.add _ _).block ≠ _; rw [add_block]; exact hn110_1) | exact hn110_1) (.int .i64 ((rd_TTie l0_1 x24_3).f1))).trans hx110_0; (try have hy110_0 := fun (n_ : Nat) => (show ((((w20.drewN n_).setCell ⟨gb108, 0, none⟩ (.int .i64 ((rd_TTie l0_1 x24_3).f0))).setCell ⟨gb108, 1, none⟩ (.int .i64 ((rd_TTie l0_1 x24_3).f1)))).cell? _ = some _ from hx110_0)); clear hn110_0 hn110_1; replace p110 := eq_true p110; replace q110 := eq_true q110; have p111 : 0 ≤ (((rd_TTie l0_1 x24_3).f0) : Int) := of_decide_eq_true qa; have q111 : ((rd_TTie l0_1 x24_3).f0) < (x3_3.length : Int) := of_decide_eq_true qa; obtain ⟨ad111, e111, hx111_0⟩ := Kd.at_int (Kd.R_reads' HO_3.out).2.2 ((rd_TTie l0_1 x24_3).f0) p111 q111; obtain rfl : ad109 = ad111 := (by injection e111); have hn111_0 : ad109.block ≠ gb108 := Kd.own_blk (Kd.R_ne HO_3.out BK108.out (by decide)); have hn111_1 : ad109.block ≠ gb108 := Kd.own_blk (Kd.R_ne HO_3.out BK108.out (by decide)); replace hx111_0 := (cell_far (p := ⟨gb108, 0, none⟩) (by first | (rw [add_block]; exact hn111_0) | (show (Addr.add _ _).block ≠ _; rw [add_block]; exact hn111_0) | exact hn111_0) (.int .i64 ((rd_TTie l0_1 x24_3).f0))).trans hx111_0; replace hx111_0 := (cell_far (p := ⟨gb108, 1, none⟩) (by first | (rw [add_block]; exact hn111_1) | (show (Addr.add _ _).block ≠ _; rw [add_block]; exact hn111_1) | exact hn111_1) (.int .i64 ((rd_TTie l0_1 x24_3).f1))).trans hx111_0; (try have hy111_0 := fun (n_ : Nat) => (show ((((w20.drewN n_).setCell ⟨gb108, 0, none⟩ (.int .i64 ((rd_TTie l0_1 x24_3).f0))).setCell ⟨gb108, 1, none⟩ (.int .i64 ((rd_TTie l0_1 x24_3).f1)))).cell? _ = some _ from hx111_0)); clear hn111_0 hn111_1; replace p111 := eq_true p111; replace q111 := eq_true q111; have p112 : 0 ≤ (((rd_TTie l0_1 x24_3).f1) : Int) := of_decide_eq_true qa; have q112 : ((rd_TTie l0_1 x24_3).f1) < (x3_3.length : Int) := of_decide_eq_true qa; obtain ⟨ad112, e112, hx112_0⟩ := Kd.at_int (Kd.R_reads' HO_3.out).2.2 ((rd_TTie l0_1 x24_3).f1) p112 q112; obtain rfl : ad109 = ad112 := (by injection e112); have hn112_0 : ad109.block ≠ gb108 := Kd.own_blk (Kd.R_ne HO_3.out BK108.out (by decide)); have hn112_1 : ad109.block ≠ gb108 := Kd.own_blk (Kd.R_ne HO_3.out BK108.out (by decide)); replace hx112_0 := (cell_far (p := ⟨gb108, 0, none⟩) (by first | (rw [add_block]; exact hn112_0) | (show (Addr.add _ _).block ≠ _; rw [add_block]; exact hn112_0) | exact hn112_0) (.int .i64 ((rd_TTie l0_1 x24_3).f0))).trans hx112_0; replace hx112_0 := (cell_far (p := ⟨gb108, 1, none⟩) (by first | (rw [add_block]; exact hn112_1) | (show (Addr.add _ _).block ≠ _; rw [add_block]; exact hn112_1) | exact hn112_1) (.int .i64 ((rd_TTie l0_1 x24_3).f1))).trans hx112_0; (try have hy112_0 := fun (n_ : Nat) => (show ((((w20.drewN n_).setCell ⟨gb108, 0, none⟩ (.int .i64 ((rd_TTie l0_1 x24_3).f0))).setCell ⟨gb108, 1, none⟩ (.int .i64 ((rd_TTie l0_1 x24_3).f1)))).cell? _ = some _ from hx112_0)); clear hn112_0 hn112_1; replace p112 := eq_true p112; replace q112 := eq_true q112)))
   go_roundg k3
   case measure => have := HK1.out; have := HK2.out; have := HK3.out; omega
   case rel => exact ⟨(x3_3), (x5_3), (wrap64 (x24_3 + 1)), qs, qs, H', ⟨by have := HK1.out; have := HK2.out; have := HK3.out; omega⟩, ⟨by (with_reducible repeat (first | apply Kd.R_alloc | apply Kd.R_drewN | apply Kd.R_drew)); exact rf2 HO_3.out BK108.out (fun _ hk => trivial)⟩, ⟨qf BK101.out⟩, ⟨qb HB.out⟩⟩
 rw [if_neg c19] at H
 have c19b0 : ((rd x3_3 ((rd_TTie l0_1 x24_3).f0)) == (rd x3_3 ((rd_TTie l0_1 x24_3).f1))) = false := beq_eq_false_iff_ne.mpr c19
 have c19b1 : ((rd x3_3 ((rd_TTie l0_1 x24_3).f0)) != (rd x3_3 ((rd_TTie l0_1 x24_3).f1))) = true := bne_iff_ne.mpr c19
 obtain ⟨y113, hy113⟩ : ∃ y_ : List Int, y_ = (x3_3.set (((rd_TTie l0_1 x24_3).f0) : Int).toNat (ji18)) := ⟨_, rfl⟩
 replace H : (impl_Net_parts.l2 k3 (y113.set (((rd_TTie l0_1 x24_3).f1) : Int).toNat (ji18)) true l0_1 (l0_1.length : Int) (wrap64 (x24_3 + 1)) a0_0 l0_1) = some r := qy H hy113
 have Ny113 := Aside0.mk hy113
 clear hy113
 obtain ⟨y114, hy114⟩ : ∃ y_ : List Int, y_ = (y113.set (((rd_TTie l0_1 x24_3).f1) : Int).toNat (ji18)) := ⟨_, rfl⟩
 replace H : (impl_Net_parts.l2 k3 y114 true l0_1 (l0_1.length : Int) (wrap64 (x24_3 + 1)) a0_0 l0_1) = some r := qy H hy114
 have Ny114 := Aside0.mk hy114
 clear hy114
 have H' := Aside0.mk H
 clear H
 have p107 : 0 ≤ (x24_3 : Int) := of_decide_eq_true qa
 have q107 : x24_3 < (l0_1.length : Int) := of_decide_eq_true qa
 obtain ⟨ad107, e107, hx107_0, hx107_1⟩ := at_TTie HR0_1.out x24_3 p107 q107
 cases e107
 replace hx107_0 := (HB.out.cell (World.block_lt_of_cell? w _ hx107_0)).trans hx107_0
 replace hx107_1 := (HB.out.cell (World.block_lt_of_cell? w _ hx107_1)).trans hx107_1
 replace p107 := eq_true p107
 replace q107 := eq_true q107
 go_wp2_with (first | ((with_reducible refine gate_dst (N := 7) rfl ?_); refine be 7 #[.int .i64 0, .int .i64 0] 74 ?_; intro gb108 hg w26 hbox hb; replace HO_3 := q0 (Kd.R_below (qr HO_3.out) hb); have BK108 := q0 (hbox); have GW108 := q0 ((bs HB.out hg : w.heap.size ≤ gb108)); have GE108 := q0 ((bs HB.out hg : w.heap.size ≤ gb108)); replace HB := q0 (below_step (qb HB.out) hb); have NB101_108 := q0 ((bl BK101.out hg : gb101 ≠ gb108)); have NB108_101 := q0 ((bg BK101.out hg : gb108 ≠ gb101)); replace BK101 := q0 (kb BK101.out hb); clear hb hbox hg; have hnb27 := NB108_101.out; have hnc27 := NB101_108.out; have hcz28_0 : w26.cell? ⟨gb108, 0, none⟩ = some (.int .i64 0) := (blk_cell BK108.out 0).trans rfl; have hcz28_1 : w26.cell? ⟨gb108, 1, none⟩ = some (.int .i64 0) := (blk_cell BK108.out 1).trans rfl; have hfz28_0 := blk_frozen BK108.out 0; have hfz28_1 := blk_frozen BK108.out 1) | ((with_reducible refine gate_store (t := 74) (p := 7) rfl ?_); (try (rw [drewN_self w26]; generalize hq_ : World.drewN w26 _ = w26; have n0_ := q0 (Kd.R_at hq_ HO_3.out); have n1_ := q0 (blk_at hq_ BK101.out); have n2_ := q0 (blk_at hq_ BK108.out); have n3_ := q0 (below_at hq_ HB.out); clear hq_ HO_3 BK101 BK108 HB; have HO_3 := n0_; have BK101 := n1_; have BK108 := n2_; have HB := n3_; clear n0_ n1_ n2_ n3_)); refine store_event (t := 74) (p := 7) (v := ?vo_w29) (w1 := ((w26.setCell ⟨gb108, 0, none⟩ (.int .i64 ((rd_TTie l0_1 x24_3).f0))).setCell ⟨gb108, 1, none⟩ (.int .i64 ((rd_TTie l0_1 x24_3).f1)))) ?hg ?ho ?hn ?hr ?_; (case ho => rfl); (case hg => rfl); (case hn => rfl); (case hr => first | (go_simp; done) | (go_simp; rfl)); intro w29 hw; have n0_ : Aside0 (Kd.R (Kd.int .i64) 3 w29 w.heap.size (fun _ => True) u3 x3_3) := ⟨(by rw [hw]; exact (by (with_reducible repeat (first | apply Kd.R_alloc | apply Kd.R_drewN | apply Kd.R_drew)); exact rf2 HO_3.out BK108.out (fun _ hk => trivial)))⟩; have n1_ : Aside0 (w29.heap[gb101]? = some (.cells #[.int .i64 a0_0, .slice (some ad107) l0_1.length c0_1] 31 (0, 0))) := ⟨(by rw [hw]; exact (qf BK101.out))⟩; have n2_ : Aside0 (w29.heap[gb108]? = some (.cells #[.int .i64 ((rd_TTie l0_1 x24_3).f0), .int .i64 ((rd_TTie l0_1 x24_3).f1)] 74 (0, 0))) := ⟨(by rw [hw]; exact (by (with_reducible repeat (first | refine blk_drewN ?_ _ | refine blk_drew ?_ | refine blk_alloc ?_ _)); refine blk_put (cs := #[.int .i64 ((rd_TTie l0_1 x24_3).f0), .int .i64 0]) ?_ 1 _ rfl; (with_reducible repeat (first | refine blk_drewN ?_ _ | refine blk_drew ?_ | refine blk_alloc ?_ _)); refine blk_put (cs := #[.int .i64 0, .int .i64 0]) ?_ 0 _ rfl; (with_reducible repeat (first | refine blk_drewN ?_ _ | refine blk_drew ?_ | refine blk_alloc ?_ _)); exact BK108.out))⟩; have n3_ : Aside0 (Below w.heap.size w w29) := ⟨(by rw [hw]; exact (qb HB.out))⟩; clear hw HO_3 BK101 BK108 HB; have HO_3 := n0_; have BK101 := n1_; have BK108 := n2_; have HB := n3_; clear n0_ n1_ n2_ n3_; have hcz30_0 : w29.cell? ⟨gb108, 0, none⟩ = some (.int .i64 ((rd_TTie l0_1 x24_3).f0)) := (blk_cell BK108.out 0).trans rfl; have hcz30_1 : w29.cell? ⟨gb108, 1, none⟩ = some (.int .i64 ((rd_TTie l0_1 x24_3).f1)) := (blk_cell BK108.out 1).trans rfl; have hfz30_0 := blk_frozen BK108.out 0; have hfz30_1 := blk_frozen BK108.out 1; obtain ⟨Ao31, co31, eo31⟩ := Kd.R_slice HO_3.out; subst eo31; have p109 : 0 ≤ (((rd_TTie l0_1 x24_3).f0) : Int) := of_decide_eq_true qa; have q109 : ((rd_TTie l0_1 x24_3).f0) < (x3_3.length : Int) := of_decide_eq_true qa; obtain ⟨ad109, e109, hx109_0⟩ := Kd.at_int (Kd.R_reads' HO_3.out).2.2 ((rd_TTie l0_1 x24_3).f0) p109 q109; cases e109; replace p109 := eq_true p109; replace q109 := eq_true q109; have p110 : 0 ≤ (((rd_TTie l0_1 x24_3).f1) : Int) := of_decide_eq_true qa; have q110 : ((rd_TTie l0_1 x24_3).f1) < (x3_3.length : Int) := of_decide_eq_true qa; obtain ⟨ad110, e110, hx110_0⟩ := Kd.at_int (Kd.R_reads' HO_3.out).2.2 ((rd_TTie l0_1 x24_3).f1) p110 q110; obtain rfl : ad109 = ad110 := (by injection e110); replace p110 := eq_true p110; replace q110 := eq_true q110; have p111 : 0 ≤ (((rd_TTie l0_1 x24_3).f0) : Int) := of_decide_eq_true qa; have q111 : ((rd_TTie l0_1 x24_3).f0) < (x3_3.length : Int) := of_decide_eq_true qa; obtain ⟨ad111, e111, hx111_0⟩ := Kd.at_int (Kd.R_reads' HO_3.out).2.2 ((rd_TTie l0_1 x24_3).f0) p111 q111; obtain rfl : ad109 = ad111 := (by injection e111); replace p111 := eq_true p111; replace q111 := eq_true q111; have p112 : 0 ≤ (((rd_TTie l0_1 x24_3).f1) : Int) := of_decide_eq_true qa; have q112 : ((rd_TTie l0_1 x24_3).f1) < (x3_3.length : Int) := of_decide_eq_true qa; obtain ⟨ad112, e112, hx112_0⟩ := Kd.at_int (Kd.R_reads' HO_3.out).2.2 ((rd_TTie l0_1 x24_3).f1) p112 q112; obtain rfl : ad109 = ad112 := (by injection e112); replace p112 := eq_true p112; replace q112 := eq_true q112; have p24 : 0 ≤ (((rd_TTie l0_1 x24_3).f0) : Int) := of_decide_eq_true qa; have q24 : (((rd_TTie l0_1 x24_3).f0) : Int) < ((x3_3.length : Int) : Int) := of_decide_eq_true qa; obtain ⟨go24, co24, eo24, gb24, gl24, cl24, HG24⟩ := Kd.R_form HO_3.out (by omega); (first | cases eo24 | (injection eo24 with ea_ en_ ec_; (first | subst ea_ | (injection ea_ with ea_; subst ea_)); subst ec_; clear en_)); have GB24 := Aside0.mk gb24; have GG24 := Aside0.mk HG24; clear gb24 gl24 HG24; (first | simp only [add_plain] at hx109_0 | skip); (first | simp only [add_plain] at hx110_0 | skip); (first | simp only [add_plain] at hx111_0 | skip); (first | simp only [add_plain] at hx112_0 | skip); obtain ⟨hx24_0, hf24_0⟩ := Kd.R_celln 0 HO_3.out (((rd_TTie l0_1 x24_3).f0) : Int) p24 q24; replace p24 := eq_true p24; replace q24 := eq_true q24; obtain ⟨hy32_, hz32_⟩ := Kd.R_celln 0 HO_3.out (((rd_TTie l0_1 x24_3).f0) : Int) (of_decide_eq_true qa) (of_decide_eq_true qa); have HP32 := Kd.R_putg HO_3.out (((rd_TTie l0_1 x24_3).f0) : Int) ji18) | ((with_reducible refine gate_store (t := 3) (p := 58) rfl ?_); (try (rw [drewN_self w29]; generalize hq_ : World.drewN w29 _ = w29; have n0_ := q0 (Kd.R_at hq_ HO_3.out); have n1_ := q0 (blk_at hq_ BK101.out); have n2_ := q0 (blk_at hq_ BK108.out); have n3_ := q0 (below_at hq_ HB.out); clear hq_ HO_3 BK101 BK108 HB; have HO_3 := n0_; have BK101 := n1_; have BK108 := n2_; have HB := n3_; clear n0_ n1_ n2_ n3_; (try (obtain ⟨hy32_, hz32_⟩ := Kd.R_celln 0 HO_3.out (((rd_TTie l0_1 x24_3).f0) : Int) (of_decide_eq_true qa) (of_decide_eq_true qa))); (try (have HP32 := Kd.R_putg HO_3.out (((rd_TTie l0_1 x24_3).f0) : Int) ji18)))); refine store_event (t := 3) (p := 58) (v := ?vo_w33) (w1 := (w29.setCell ⟨go24, (((rd_TTie l0_1 x24_3).f0) : Int).toNat, none⟩ (.int .i64 ji18))) ?hg ?ho ?hn ?hr ?_; (case ho => rfl); (case hg => rfl); (case hn => rfl); (case hr => first | (go_simp; done) | (go_simp; rfl)); intro w33 hw; have hg : w29.grownBy w33 (some go24) := (by rw [hw]; exact HP32.2); have hp_ : Kd.R (Kd.int .i64) 3 w33 w.heap.size (fun _ => True) (.slice (some ⟨go24, 0, none⟩) x3_3.length co31) y113 := (by rw [hw, Ny113.out]; exact HP32.1); clear HP32; replace BK101 := q0 (blk_grown (g := gb101) (o := .cells #[.int .i64 a0_0, .slice (some ad107) l0_1.length c0_1] 31 (0, 0)) (qk BK101.out) hg (Kd.R_ne HO_3.out BK101.out (by decide))); replace BK108 := q0 (blk_grown (g := gb108) (o := .cells #[.int .i64 ((rd_TTie l0_1 x24_3).f0), .int .i64 ((rd_TTie l0_1 x24_3).f1)] 74 (0, 0)) (qk BK108.out) hg (Kd.R_ne HO_3.out BK108.out (by decide))); replace HO_3 := q0 (hp_); replace HB := q0 ((by rw [hw]; exact below_set (HB.out) GB24.out : Below w.heap.size w w33)); clear hg hw hp_; have p25 : 0 ≤ (((rd_TTie l0_1 x24_3).f1) : Int) := of_decide_eq_true qa; have q25 : (((rd_TTie l0_1 x24_3).f1) : Int) < ((x3_3.length : Int) : Int) := of_decide_eq_true qa; obtain ⟨hx25_0, hf25_0⟩ := Kd.R_celln 0 HO_3.out (((rd_TTie l0_1 x24_3).f1) : Int) p25 q25; replace p25 := eq_true p25; replace q25 := eq_true q25; obtain ⟨hy34_, hz34_⟩ := Kd.R_celln 0 HO_3.out (((rd_TTie l0_1 x24_3).f1) : Int) (of_decide_eq_true qa) (of_decide_eq_true qa); have HP34 := Kd.R_putg HO_3.out (((rd_TTie l0_1 x24_3).f1) : Int) ji18) | ((with_reducible refine gate_store (t := 3) (p := 59) rfl ?_); (try (rw [drewN_self w33]; generalize hq_ : World.drewN w33 _ = w33; have n0_ := q0 (Kd.R_at hq_ HO_3.out); have n1_ := q0 (blk_at hq_ BK101.out); have n2_ := q0 (blk_at hq_ BK108.out); have n3_ := q0 (below_at hq_ HB.out); clear hq_ HO_3 BK101 BK108 HB; have HO_3 := n0_; have BK101 := n1_; have BK108 := n2_; have HB := n3_; clear n0_ n1_ n2_ n3_; (try (obtain ⟨hy34_, hz34_⟩ := Kd.R_celln 0 HO_3.out (((rd_TTie l0_1 x24_3).f1) : Int) (of_decide_eq_true qa) (of_decide_eq_true qa))); (try (have HP34 := Kd.R_putg HO_3.out (((rd_TTie l0_1 x24_3).f1) : Int) ji18)))); refine store_event (t := 3) (p := 59) (v := ?vo_w35) (w1 := (w33.setCell ⟨go24, (((rd_TTie l0_1 x24_3).f1) : Int).toNat, none⟩ (.int .i64 ji18))) ?hg ?ho ?hn ?hr ?_; (case ho => rfl); (case hg => rfl); (case hn => rfl); (case hr => first | (go_simp; done) | (go_simp; rfl)); intro w35 hw; have hg : w33.grownBy w35 (some go24) := (by rw [hw]; exact HP34.2); have hp_ : Kd.R (Kd.int .i64) 3 w35 w.heap.size (fun _ => True) (.slice (some ⟨go24, 0, none⟩) x3_3.length co31) y114 := (by rw [hw, Ny114.out]; exact HP34.1); clear HP34; replace BK101 := q0 (blk_grown (g := gb101) (o := .cells #[.int .i64 a0_0, .slice (some ad107) l0_1.length c0_1] 31 (0, 0)) (qk BK101.out) hg (Kd.R_ne HO_3.out BK101.out (by decide))); replace BK108 := q0 (blk_grown (g := gb108) (o := .cells #[.int .i64 ((rd_TTie l0_1 x24_3).f0), .int .i64 ((rd_TTie l0_1 x24_3).f1)] 74 (0, 0)) (qk BK108.out) hg (Kd.R_ne HO_3.out BK108.out (by decide))); replace HO_3 := q0 (hp_); replace HB := q0 ((by rw [hw]; exact below_set (HB.out) GB24.out : Below w.heap.size w w35)); clear hg hw hp_))
 repeat (go_quiet (first | ((with_reducible refine gate_dst (N := 7) rfl ?_); refine be 7 #[.int .i64 0, .int .i64 0] 74 ?_; intro gb108 hg w26 hbox hb; replace HO_3 := q0 (Kd.R_below (qr HO_3.out) hb); have BK108 := q0 (hbox); have GW108 := q0 ((bs HB.out hg : w.heap.size ≤ gb108)); have GE108 := q0 ((bs HB.out hg : w.heap.size ≤ gb108)); replace HB := q0 (below_step (qb HB.out) hb); have NB101_108 := q0 ((bl BK101.out hg : gb101 ≠ gb108)); have NB108_101 := q0 ((bg BK101.out hg : gb108 ≠ gb101)); replace BK101 := q0 (kb BK101.out hb); clear hb hbox hg; have hnb27 := NB108_101.out; have hnc27 := NB101_108.out; have hcz28_0 : w26.cell? ⟨gb108, 0, none⟩ = some (.int .i64 0) := (blk_cell BK108.out 0).trans rfl; have hcz28_1 : w26.cell? ⟨gb108, 1, none⟩ = some (.int .i64 0) := (blk_cell BK108.out 1).trans rfl; have hfz28_0 := blk_frozen BK108.out 0; have hfz28_1 := blk_frozen BK108.out 1) | ((with_reducible refine gate_store (t := 74) (p := 7) rfl ?_); (try (rw [drewN_self w26]; generalize hq_ : World.drewN w26 _ = w26; have n0_ := q0 (Kd.R_at hq_ HO_3.out); have n1_ := q0 (blk_at hq_ BK101.out); have n2_ := q0 (blk_at hq_ BK108.out); have n3_ := q0 (below_at hq_ HB.out); clear hq_ HO_3 BK101 BK108 HB; have HO_3 := n0_; have BK101 := n1_; have BK108 := n2_; have HB := n3_; clear n0_ n1_ n2_ n3_)); refine store_event (t := 74) (p := 7) (v := ?vo_w29) (w1 := ((w26.setCell ⟨gb108, 0, none⟩ (.int .i64 ((rd_TTie l0_1 x24_3).f0))).setCell ⟨gb108, 1, none⟩ (.int .i64 ((rd_TTie l0_1 x24_3).f1)))) ?hg ?ho ?hn ?hr ?_; (case ho => rfl); (case hg => rfl); (case hn => rfl); (case hr => first | (go_simp; done) | (go_simp; rfl)); intro w29 hw; have n0_ : Aside0 (Kd.R (Kd.int .i64) 3 w29 w.heap.size (fun _ => True) u3 x3_3) := ⟨(by rw [hw]; exact (by (with_reducible repeat (first | apply Kd.R_alloc | apply Kd.R_drewN | apply Kd.R_drew)); exact rf2 HO_3.out BK108.out (fun _ hk => trivial)))⟩; have n1_ : Aside0 (w29.heap[gb101]? = some (.cells #[.int .i64 a0_0, .slice (some ad107) l0_1.length c0_1] 31 (0, 0))) := ⟨(by rw [hw]; exact (qf BK101.out))⟩; have n2_ : Aside0 (w29.heap[gb108]? = some (.cells #[.int .i64 ((rd_TTie l0_1 x24_3).f0), .int .i64 ((rd_TTie l0_1 x24_3).f1)] 74 (0, 0))) := ⟨(by rw [hw]; exact (by (with_reducible repeat (first | refine blk_drewN ?_ _ | refine blk_drew ?_ | refine blk_alloc ?_ _)); refine blk_put (cs := #[.int .i64 ((rd_TTie l0_1 x24_3).f0), .int .i64 0]) ?_ 1 _ rfl; (with_reducible repeat (first | refine blk_drewN ?_ _ | refine blk_drew ?_ | refine blk_alloc ?_ _)); refine blk_put (cs := #[.int .i64 0, .int .i64 0]) ?_ 0 _ rfl; (with_reducible repeat (first | refine blk_drewN ?_ _ | refine blk_drew ?_ | refine blk_alloc ?_ _)); exact BK108.out))⟩; have n3_ : Aside0 (Below w.heap.size w w29) := ⟨(by rw [hw]; exact (qb HB.out))⟩; clear hw HO_3 BK101 BK108 HB; have HO_3 := n0_; have BK101 := n1_; have BK108 := n2_; have HB := n3_; clear n0_ n1_ n2_ n3_; have hcz30_0 : w29.cell? ⟨gb108, 0, none⟩ = some (.int .i64 ((rd_TTie l0_1 x24_3).f0)) := (blk_cell BK108.out 0).trans rfl; have hcz30_1 : w29.cell? ⟨gb108, 1, none⟩ = some (.int .i64 ((rd_TTie l0_1 x24_3).f1)) := (blk_cell BK108.out 1).trans rfl; have hfz30_0 := blk_frozen BK108.out 0; have hfz30_1 := blk_frozen BK108.out 1; obtain ⟨Ao31, co31, eo31⟩ := Kd.R_slice HO_3.out; subst eo31; have p109 : 0 ≤ (((rd_TTie l0_1 x24_3).f0) : Int) := of_decide_eq_true qa; have q109 : ((rd_TTie l0_1 x24_3).f0) < (x3_3.length : Int) := of_decide_eq_true qa; obtain ⟨ad109, e109, hx109_0⟩ := Kd.at_int (Kd.R_reads' HO_3.out).2.2 ((rd_TTie l0_1 x24_3).f0) p109 q109; cases e109; replace p109 := eq_true p109; replace q109 := eq_true q109; have p110 : 0 ≤ (((rd_TTie l0_1 x24_3).f1) : Int) := of_decide_eq_true qa; have q110 : ((rd_TTie l0_1 x24_3).f1) < (x3_3.length : Int) := of_decide_eq_true qa; obtain ⟨ad110, e110, hx110_0⟩ := Kd.at_int (Kd.R_reads' HO_3.out).2.2 ((rd_TTie l0_1 x24_3).f1) p110 q110; obtain rfl : ad109 = ad110 := (by injection e110); replace p110 := eq_true p110; replace q110 := eq_true q110; have p111 : 0 ≤ (((rd_TTie l0_1 x24_3).f0) : Int) := of_decide_eq_true qa; have q111 : ((rd_TTie l0_1 x24_3).f0) < (x3_3.length : Int) := of_decide_eq_true qa; obtain ⟨ad111, e111, hx111_0⟩ := Kd.at_int (Kd.R_reads' HO_3.out).2.2 ((rd_TTie l0_1 x24_3).f0) p111 q111; obtain rfl : ad109 = ad111 := (by injection e111); replace p111 := eq_true p111; replace q111 := eq_true q111; have p112 : 0 ≤ (((rd_TTie l0_1 x24_3).f1) : Int) := of_decide_eq_true qa; have q112 : ((rd_TTie l0_1 x24_3).f1) < (x3_3.length : Int) := of_decide_eq_true qa; obtain ⟨ad112, e112, hx112_0⟩ := Kd.at_int (Kd.R_reads' HO_3.out).2.2 ((rd_TTie l0_1 x24_3).f1) p112 q112; obtain rfl : ad109 = ad112 := (by injection e112); replace p112 := eq_true p112; replace q112 := eq_true q112; have p24 : 0 ≤ (((rd_TTie l0_1 x24_3).f0) : Int) := of_decide_eq_true qa; have q24 : (((rd_TTie l0_1 x24_3).f0) : Int) < ((x3_3.length : Int) : Int) := of_decide_eq_true qa; obtain ⟨go24, co24, eo24, gb24, gl24, cl24, HG24⟩ := Kd.R_form HO_3.out (by omega); (first | cases eo24 | (injection eo24 with ea_ en_ ec_; (first | subst ea_ | (injection ea_ with ea_; subst ea_)); subst ec_; clear en_)); have GB24 := Aside0.mk gb24; have GG24 := Aside0.mk HG24; clear gb24 gl24 HG24; (first | simp only [add_plain] at hx109_0 | skip); (first | simp only [add_plain] at hx110_0 | skip); (first | simp only [add_plain] at hx111_0 | skip); (first | simp only [add_plain] at hx112_0 | skip); obtain ⟨hx24_0, hf24_0⟩ := Kd.R_celln 0 HO_3.out (((rd_TTie l0_1 x24_3).f0) : Int) p24 q24; replace p24 := eq_true p24; replace q24 := eq_true q24; obtain ⟨hy32_, hz32_⟩ := Kd.R_celln 0 HO_3.out (((rd_TTie l0_1 x24_3).f0) : Int) (of_decide_eq_true qa) (of_decide_eq_true qa); have HP32 := Kd.R_putg HO_3.out (((rd_TTie l0_1 x24_3).f0) : Int) ji18) | ((with_reducible refine gate_store (t := 3) (p := 58) rfl ?_); (try (rw [drewN_self w29]; generalize hq_ : World.drewN w29 _ = w29; have n0_ := q0 (Kd.R_at hq_ HO_3.out); have n1_ := q0 (blk_at hq_ BK101.out); have n2_ := q0 (blk_at hq_ BK108.out); have n3_ := q0 (below_at hq_ HB.out); clear hq_ HO_3 BK101 BK108 HB; have HO_3 := n0_; have BK101 := n1_; have BK108 := n2_; have HB := n3_; clear n0_ n1_ n2_ n3_; (try (obtain ⟨hy32_, hz32_⟩ := Kd.R_celln 0 HO_3.out (((rd_TTie l0_1 x24_3).f0) : Int) (of_decide_eq_true qa) (of_decide_eq_true qa))); (try (have HP32 := Kd.R_putg HO_3.out (((rd_TTie l0_1 x24_3).f0) : Int) ji18)))); refine store_event (t := 3) (p := 58) (v := ?vo_w33) (w1 := (w29.setCell ⟨go24, (((rd_TTie l0_1 x24_3).f0) : Int).toNat, none⟩ (.int .i64 ji18))) ?hg ?ho ?hn ?hr ?_; (case ho => rfl); (case hg => rfl); (case hn => rfl); (case hr => first | (go_simp; done) | (go_simp; rfl)); intro w33 hw; have hg : w29.grownBy w33 (some go24) := (by rw [hw]; exact HP32.2); have hp_ : Kd.R (Kd.int .i64) 3 w33 w.heap.size (fun _ => True) (.slice (some ⟨go24, 0, none⟩) x3_3.length co31) y113 := (by rw [hw, Ny113.out]; exact HP32.1); clear HP32; replace BK101 := q0 (blk_grown (g := gb101) (o := .cells #[.int .i64 a0_0, .slice (some ad107) l0_1.length c0_1] 31 (0, 0)) (qk BK101.out) hg (Kd.R_ne HO_3.out BK101.out (by decide))); replace BK108 := q0 (blk_grown (g := gb108) (o := .cells #[.int .i64 ((rd_TTie l0_1 x24_3).f0), .int .i64 ((rd_TTie l0_1 x24_3).f1)] 74 (0, 0)) (qk BK108.out) hg (Kd.R_ne HO_3.out BK108.out (by decide))); replace HO_3 := q0 (hp_); replace HB := q0 ((by rw [hw]; exact below_set (HB.out) GB24.out : Below w.heap.size w w33)); clear hg hw hp_; have p25 : 0 ≤ (((rd_TTie l0_1 x24_3).f1) : Int) := of_decide_eq_true qa; have q25 : (((rd_TTie l0_1 x24_3).f1) : Int) < ((x3_3.length : Int) : Int) := of_decide_eq_true qa; obtain ⟨hx25_0, hf25_0⟩ := Kd.R_celln 0 HO_3.out (((rd_TTie l0_1 x24_3).f1) : Int) p25 q25; replace p25 := eq_true p25; replace q25 := eq_true q25; obtain ⟨hy34_, hz34_⟩ := Kd.R_celln 0 HO_3.out (((rd_TTie l0_1 x24_3).f1) : Int) (of_decide_eq_true qa) (of_decide_eq_true qa); have HP34 := Kd.R_putg HO_3.out (((rd_TTie l0_1 x24_3).f1) : Int) ji18) | ((with_reducible refine gate_store (t := 3) (p := 59) rfl ?_); (try (rw [drewN_self w33]; generalize hq_ : World.drewN w33 _ = w33; have n0_ := q0 (Kd.R_at hq_ HO_3.out); have n1_ := q0 (blk_at hq_ BK101.out); have n2_ := q0 (blk_at hq_ BK108.out); have n3_ := q0 (below_at hq_ HB.out); clear hq_ HO_3 BK101 BK108 HB; have HO_3 := n0_; have BK101 := n1_; have BK108 := n2_; have HB := n3_; clear n0_ n1_ n2_ n3_; (try (obtain ⟨hy34_, hz34_⟩ := Kd.R_celln 0 HO_3.out (((rd_TTie l0_1 x24_3).f1) : Int) (of_decide_eq_true qa) (of_decide_eq_true qa))); (try (have HP34 := Kd.R_putg HO_3.out (((rd_TTie l0_1 x24_3).f1) : Int) ji18)))); refine store_event (t := 3) (p := 59) (v := ?vo_w35) (w1 := (w33.setCell ⟨go24, (((rd_TTie l0_1 x24_3).f1) : Int).toNat, none⟩ (.int .i64 ji18))) ?hg ?ho ?hn ?hr ?_; (case ho => rfl); (case hg => rfl); (case hn => rfl); (case hr => first | (go_simp; done) | (go_simp; rfl)); intro w35 hw; have hg : w33.grownBy w35 (some go24) := (by rw [hw]; exact HP34.2); have hp_ : Kd.R (Kd.int .i64) 3 w35 w.heap.size (fun _ => True) (.slice (some ⟨go24, 0, none⟩) x3_3.length co31) y114 := (by rw [hw, Ny114.out]; exact HP34.1); clear HP34; replace BK101 := q0 (blk_grown (g := gb101) (o := .cells #[.int .i64 a0_0, .slice (some ad107) l0_1.length c0_1] 31 (0, 0)) (qk BK101.out) hg (Kd.R_ne HO_3.out BK101.out (by decide))); replace BK108 := q0 (blk_grown (g := gb108) (o := .cells #[.int .i64 ((rd_TTie l0_1 x24_3).f0), .int .i64 ((rd_TTie l0_1 x24_3).f1)] 74 (0, 0)) (qk BK108.out) hg (Kd.R_ne HO_3.out BK108.out (by decide))); replace HO_3 := q0 (hp_); replace HB := q0 ((by rw [hw]; exact below_set (HB.out) GB24.out : Below w.heap.size w w35)); clear hg hw hp_)); try go_wp2_with (first | ((with_reducible refine gate_dst (N := 7) rfl ?_); refine be 7 #[.int .i64 0, .int .i64 0] 74 ?_; intro gb108 hg w26 hbox hb; replace HO_3 := q0 (Kd.R_below (qr HO_3.out) hb); have BK108 := q0 (hbox); have GW108 := q0 ((bs HB.out hg : w.heap.size ≤ gb108)); have GE108 := q0 ((bs HB.out hg : w.heap.size ≤ gb108)); replace HB := q0 (below_step (qb HB.out) hb); have NB101_108 := q0 ((bl BK101.out hg : gb101 ≠ gb108)); have NB108_101 := q0 ((bg BK101.out hg : gb108 ≠ gb101)); replace BK101 := q0 (kb BK101.out hb); clear hb hbox hg; have hnb27 := NB108_101.out; have hnc27 := NB101_108.out; have hcz28_0 : w26.cell? ⟨gb108, 0, none⟩ = some (.int .i64 0) := (blk_cell BK108.out 0).trans rfl; have hcz28_1 : w26.cell? ⟨gb108, 1, none⟩ = some (.int .i64 0) := (blk_cell BK108.out 1).trans rfl; have hfz28_0 := blk_frozen BK108.out 0; have hfz28_1 := blk_frozen BK108.out 1) | ((with_reducible refine gate_store (t := 74) (p := 7) rfl ?_); (try (rw [drewN_self w26]; generalize hq_ : World.drewN w26 _ = w26; have n0_ := q0 (Kd.R_at hq_ HO_3.out); have n1_ := q0 (blk_at hq_ BK101.out); have n2_ := q0 (blk_at hq_ BK108.out); have n3_ := q0 (below_at hq_ HB.out); clear hq_ HO_3 BK101 BK108 HB; have HO_3 := n0_; have BK101 := n1_; have BK108 := n2_; have HB := n3_; clear n0_ n1_ n2_ n3_)); refine store_event (t := 74) (p := 7) (v := ?vo_w29) (w1 := ((w26.setCell ⟨gb108, 0, none⟩ (.int .i64 ((rd_TTie l0_1 x24_3).f0))).setCell ⟨gb108, 1, none⟩ (.int .i64 ((rd_TTie l0_1 x24_3).f1)))) ?hg ?ho ?hn ?hr ?_; (case ho => rfl); (case hg => rfl); (case hn => rfl); (case hr => first | (go_simp; done) | (go_simp; rfl)); intro w29 hw; have n0_ : Aside0 (Kd.R (Kd.int .i64) 3 w29 w.heap.size (fun _ => True) u3 x3_3) := ⟨(by rw [hw]; exact (by (with_reducible repeat (first | apply Kd.R_alloc | apply Kd.R_drewN | apply Kd.R_drew)); exact rf2 HO_3.out BK108.out (fun _ hk => trivial)))⟩; have n1_ : Aside0 (w29.heap[gb101]? = some (.cells #[.int .i64 a0_0, .slice (some ad107) l0_1.length c0_1] 31 (0, 0))) := ⟨(by rw [hw]; exact (qf BK101.out))⟩; have n2_ : Aside0 (w29.heap[gb108]? = some (.cells #[.int .i64 ((rd_TTie l0_1 x24_3).f0), .int .i64 ((rd_TTie l0_1 x24_3).f1)] 74 (0, 0))) := ⟨(by rw [hw]; exact (by (with_reducible repeat (first | refine blk_drewN ?_ _ | refine blk_drew ?_ | refine blk_alloc ?_ _)); refine blk_put (cs := #[.int .i64 ((rd_TTie l0_1 x24_3).f0), .int .i64 0]) ?_ 1 _ rfl; (with_reducible repeat (first | refine blk_drewN ?_ _ | refine blk_drew ?_ | refine blk_alloc ?_ _)); refine blk_put (cs := #[.int .i64 0, .int .i64 0]) ?_ 0 _ rfl; (with_reducible repeat (first | refine blk_drewN ?_ _ | refine blk_drew ?_ | refine blk_alloc ?_ _)); exact BK108.out))⟩; have n3_ : Aside0 (Below w.heap.size w w29) := ⟨(by rw [hw]; exact (qb HB.out))⟩; clear hw HO_3 BK101 BK108 HB; have HO_3 := n0_; have BK101 := n1_; have BK108 := n2_; have HB := n3_; clear n0_ n1_ n2_ n3_; have hcz30_0 : w29.cell? ⟨gb108, 0, none⟩ = some (.int .i64 ((rd_TTie l0_1 x24_3).f0)) := (blk_cell BK108.out 0).trans rfl; have hcz30_1 : w29.cell? ⟨gb108, 1, none⟩ = some (.int .i64 ((rd_TTie l0_1 x24_3).f1)) := (blk_cell BK108.out 1).trans rfl; have hfz30_0 := blk_frozen BK108.out 0; have hfz30_1 := blk_frozen BK108.out 1; obtain ⟨Ao31, co31, eo31⟩ := Kd.R_slice HO_3.out; subst eo31; have p109 : 0 ≤ (((rd_TTie l0_1 x24_3).f0) : Int) := of_decide_eq_true qa; have q109 : ((rd_TTie l0_1 x24_3).f0) < (x3_3.length : Int) := of_decide_eq_true qa; obtain ⟨ad109, e109, hx109_0⟩ := Kd.at_int (Kd.R_reads' HO_3.out).2.2 ((rd_TTie l0_1 x24_3).f0) p109 q109; cases e109; replace p109 := eq_true p109; replace q109 := eq_true q109; have p110 : 0 ≤ (((rd_TTie l0_1 x24_3).f1) : Int) := of_decide_eq_true qa; have q110 : ((rd_TTie l0_1 x24_3).f1) < (x3_3.length : Int) := of_decide_eq_true qa; obtain ⟨ad110, e110, hx110_0⟩ := Kd.at_int (Kd.R_reads' HO_3.out).2.2 ((rd_TTie l0_1 x24_3).f1) p110 q110; obtain rfl : ad109 = ad110 := (by injection e110); replace p110 := eq_true p110; replace q110 := eq_true q110; have p111 : 0 ≤ (((rd_TTie l0_1 x24_3).f0) : Int) := of_decide_eq_true qa; have q111 : ((rd_TTie l0_1 x24_3).f0) < (x3_3.length : Int) := of_decide_eq_true qa; obtain ⟨ad111, e111, hx111_0⟩ := Kd.at_int (Kd.R_reads' HO_3.out).2.2 ((rd_TTie l0_1 x24_3).f0) p111 q111; obtain rfl : ad109 = ad111 := (by injection e111); replace p111 := eq_true p111; replace q111 := eq_true q111; have p112 : 0 ≤ (((rd_TTie l0_1 x24_3).f1) : Int) := of_decide_eq_true qa; have q112 : ((rd_TTie l0_1 x24_3).f1) < (x3_3.length : Int) := of_decide_eq_true qa; obtain ⟨ad112, e112, hx112_0⟩ := Kd.at_int (Kd.R_reads' HO_3.out).2.2 ((rd_TTie l0_1 x24_3).f1) p112 q112; obtain rfl : ad109 = ad112 := (by injection e112); replace p112 := eq_true p112; replace q112 := eq_true q112; have p24 : 0 ≤ (((rd_TTie l0_1 x24_3).f0) : Int) := of_decide_eq_true qa; have q24 : (((rd_TTie l0_1 x24_3).f0) : Int) < ((x3_3.length : Int) : Int) := of_decide_eq_true qa; obtain ⟨go24, co24, eo24, gb24, gl24, cl24, HG24⟩ := Kd.R_form HO_3.out (by omega); (first | cases eo24 | (injection eo24 with ea_ en_ ec_; (first | subst ea_ | (injection ea_ with ea_; subst ea_)); subst ec_; clear en_)); have GB24 := Aside0.mk gb24; have GG24 := Aside0.mk HG24; clear gb24 gl24 HG24; (first | simp only [add_plain] at hx109_0 | skip); (first | simp only [add_plain] at hx110_0 | skip); (first | simp only [add_plain] at hx111_0 | skip); (first | simp only [add_plain] at hx112_0 | skip); obtain ⟨hx24_0, hf24_0⟩ := Kd.R_celln 0 HO_3.out (((rd_TTie l0_1 x24_3).f0) : Int) p24 q24; replace p24 := eq_true p24; replace q24 := eq_true q24; obtain ⟨hy32_, hz32_⟩ := Kd.R_celln 0 HO_3.out (((rd_TTie l0_1 x24_3).f0) : Int) (of_decide_eq_true qa) (of_decide_eq_true qa); have HP32 := Kd.R_putg HO_3.out (((rd_TTie l0_1 x24_3).f0) : Int) ji18) | ((with_reducible refine gate_store (t := 3) (p := 58) rfl ?_); (try (rw [drewN_self w29]; generalize hq_ : World.drewN w29 _ = w29; have n0_ := q0 (Kd.R_at hq_ HO_3.out); have n1_ := q0 (blk_at hq_ BK101.out); have n2_ := q0 (blk_at hq_ BK108.out); have n3_ := q0 (below_at hq_ HB.out); clear hq_ HO_3 BK101 BK108 HB; have HO_3 := n0_; have BK101 := n1_; have BK108 := n2_; have HB := n3_; clear n0_ n1_ n2_ n3_; (try (obtain ⟨hy32_, hz32_⟩ := Kd.R_celln 0 HO_3.out (((rd_TTie l0_1 x24_3).f0) : Int) (of_decide_eq_true qa) (of_decide_eq_true qa))); (try (have HP32 := Kd.R_putg HO_3.out (((rd_TTie l0_1 x24_3).f0) : Int) ji18)))); refine store_event (t := 3) (p := 58) (v := ?vo_w33) (w1 := (w29.setCell ⟨go24, (((rd_TTie l0_1 x24_3).f0) : Int).toNat, none⟩ (.int .i64 ji18))) ?hg ?ho ?hn ?hr ?_; (case ho => rfl); (case hg => rfl); (case hn => rfl); (case hr => first | (go_simp; done) | (go_simp; rfl)); intro w33 hw; have hg : w29.grownBy w33 (some go24) := (by rw [hw]; exact HP32.2); have hp_ : Kd.R (Kd.int .i64) 3 w33 w.heap.size (fun _ => True) (.slice (some ⟨go24, 0, none⟩) x3_3.length co31) y113 := (by rw [hw, Ny113.out]; exact HP32.1); clear HP32; replace BK101 := q0 (blk_grown (g := gb101) (o := .cells #[.int .i64 a0_0, .slice (some ad107) l0_1.length c0_1] 31 (0, 0)) (qk BK101.out) hg (Kd.R_ne HO_3.out BK101.out (by decide))); replace BK108 := q0 (blk_grown (g := gb108) (o := .cells #[.int .i64 ((rd_TTie l0_1 x24_3).f0), .int .i64 ((rd_TTie l0_1 x24_3).f1)] 74 (0, 0)) (qk BK108.out) hg (Kd.R_ne HO_3.out BK108.out (by decide))); replace HO_3 := q0 (hp_); replace HB := q0 ((by rw [hw]; exact below_set (HB.out) GB24.out : Below w.heap.size w w33)); clear hg hw hp_; have p25 : 0 ≤ (((rd_TTie l0_1 x24_3).f1) : Int) := of_decide_eq_true qa; have q25 : (((rd_TTie l0_1 x24_3).f1) : Int) < ((x3_3.length : Int) : Int) := of_decide_eq_true qa; obtain ⟨hx25_0, hf25_0⟩ := Kd.R_celln 0 HO_3.out (((rd_TTie l0_1 x24_3).f1) : Int) p25 q25; replace p25 := eq_true p25; replace q25 := eq_true q25; obtain ⟨hy34_, hz34_⟩ := Kd.R_celln 0 HO_3.out (((rd_TTie l0_1 x24_3).f1) : Int) (of_decide_eq_true qa) (of_decide_eq_true qa); have HP34 := Kd.R_putg HO_3.out (((rd_TTie l0_1 x24_3).f1) : Int) ji18) | ((with_reducible refine gate_store (t := 3) (p := 59) rfl ?_); (try (rw [drewN_self w33]; generalize hq_ : World.drewN w33 _ = w33; have n0_ := q0 (Kd.R_at hq_ HO_3.out); have n1_ := q0 (blk_at hq_ BK101.out); have n2_ := q0 (blk_at hq_ BK108.out); have n3_ := q0 (below_at hq_ HB.out); clear hq_ HO_3 BK101 BK108 HB; have HO_3 := n0_; have BK101 := n1_; have BK108 := n2_; have HB := n3_; clear n0_ n1_ n2_ n3_; (try (obtain ⟨hy34_, hz34_⟩ := Kd.R_celln 0 HO_3.out (((rd_TTie l0_1 x24_3).f1) : Int) (of_decide_eq_true qa) (of_decide_eq_true qa))); (try (have HP34 := Kd.R_putg HO_3.out (((rd_TTie l0_1 x24_3).f1) : Int) ji18)))); refine store_event (t := 3) (p := 59) (v := ?vo_w35) (w1 := (w33.setCell ⟨go24, (((rd_TTie l0_1 x24_3).f1) : Int).toNat, none⟩ (.int .i64 ji18))) ?hg ?ho ?hn ?hr ?_; (case ho => rfl); (case hg => rfl); (case hn => rfl); (case hr => first | (go_simp; done) | (go_simp; rfl)); intro w35 hw; have hg : w33.grownBy w35 (some go24) := (by rw [hw]; exact HP34.2); have hp_ : Kd.R (Kd.int .i64) 3 w35 w.heap.size (fun _ => True) (.slice (some ⟨go24, 0, none⟩) x3_3.length co31) y114 := (by rw [hw, Ny114.out]; exact HP34.1); clear HP34; replace BK101 := q0 (blk_grown (g := gb101) (o := .cells #[.int .i64 a0_0, .slice (some ad107) l0_1.length c0_1] 31 (0, 0)) (qk BK101.out) hg (Kd.R_ne HO_3.out BK101.out (by decide))); replace BK108 := q0 (blk_grown (g := gb108) (o := .cells #[.int .i64 ((rd_TTie l0_1 x24_3).f0), .int .i64 ((rd_TTie l0_1 x24_3).f1)] 74 (0, 0)) (qk BK108.out) hg (Kd.R_ne HO_3.out BK108.out (by decide))); replace HO_3 := q0 (hp_); replace HB := q0 ((by rw [hw]; exact below_set (HB.out) GB24.out : Below w.heap.size w w35)); clear hg hw hp_)))
 have hne_ : gb108 ≠ go24 := by
   intro he
   have h1 := BK108.out
   rw [he, GG24.out] at h1
   simp at h1
 have hne2_ : go24 ≠ gb108 := Ne.symm hne_
 rw [World.drewN_drewN]
 clear hcz28_0 hcz28_1 hfz28_0 hfz28_1 hcz30_0 hcz30_1 hfz30_0 hfz30_1 hx109_0 hx110_0 hx111_0 hx112_0 hx24_0 hf24_0 hy32_ hz32_ HP32 GG24
 generalize hq_ : World.drewN w29 _ = w29
 have n0_ := q0 (Kd.R_at hq_ HO_3.out)
 have n1_ := q0 (blk_at hq_ BK101.out)
 have n2_ := q0 (blk_at hq_ BK108.out)
 have n3_ := q0 (below_at hq_ HB.out)
 clear hq_ HO_3 BK101 BK108 HB
 have HO_3 := n0_
 have BK101 := n1_
 have BK108 := n2_
 have HB := n3_
 clear n0_ n1_ n2_ n3_
 have hcz30_0 : w29.cell? ⟨gb108, 0, none⟩ = some (.int .i64 ((rd_TTie l0_1 x24_3).f0)) := (blk_cell BK108.out 0).trans rfl
 have hcz30_1 : w29.cell? ⟨gb108, 1, none⟩ = some (.int .i64 ((rd_TTie l0_1 x24_3).f1)) := (blk_cell BK108.out 1).trans rfl
 have hfz30_0 := blk_frozen BK108.out 0
 have hfz30_1 := blk_frozen BK108.out 1
 obtain ⟨hx24_0, hf24_0⟩ := Kd.R_celln 0 HO_3.out (((rd_TTie l0_1 x24_3).f0) : Int) (of_decide_eq_true qa) (of_decide_eq_true qa)
 obtain ⟨hx25_0, hf25_0⟩ := Kd.R_celln 0 HO_3.out (((rd_TTie l0_1 x24_3).f1) : Int) (of_decide_eq_true qa) (of_decide_eq_true qa)
 obtain ⟨hv_, hy_⟩ := cell?_setCell_some (p := ⟨go24, (((rd_TTie l0_1 x24_3).f0) : Int).toNat, none⟩) (x := .int .i64 ji18) hx25_0
 go_region
 have hP1_ := Kd.R_putg HO_3.out (((rd_TTie l0_1 x24_3).f0) : Int) ji18
 have hR1_ : Kd.R (Kd.int .i64) 3 (w29.setCell ⟨go24, (((rd_TTie l0_1 x24_3).f0) : Int).toNat, none⟩ (.int .i64 ji18)) w.heap.size (fun _ => True) (.slice (some ⟨go24, 0, none⟩) x3_3.length co31) y113 := by rw [Ny113.out]; exact hP1_.1
 have hP2_ := Kd.R_putg hR1_ (((rd_TTie l0_1 x24_3).f1) : Int) ji18
 have hR2_ : Kd.R (Kd.int .i64) 3 ((w29.setCell ⟨go24, (((rd_TTie l0_1 x24_3).f0) : Int).toNat, none⟩ (.int .i64 ji18)).setCell ⟨go24, (((rd_TTie l0_1 x24_3).f1) : Int).toNat, none⟩ (.int .i64 ji18)) w.heap.size (fun _ => True) (.slice (some ⟨go24, 0, none⟩) x3_3.length co31) y114 := by rw [Ny114.out]; exact hP2_.1
 have hB1_ := blk_grown (g := gb101) BK101.out hP1_.2 (Kd.R_ne HO_3.out BK101.out (by decide))
 have hB2_ := blk_grown (g := gb101) hB1_ hP2_.2 (Kd.R_ne hR1_ hB1_ (by decide))
 have hD_ : Below w.heap.size w ((w29.setCell ⟨go24, (((rd_TTie l0_1 x24_3).f0) : Int).toNat, none⟩ (.int .i64 ji18)).setCell ⟨go24, (((rd_TTie l0_1 x24_3).f1) : Int).toNat, none⟩ (.int .i64 ji18)) := below_set (below_set HB.out GB24.out) GB24.out
 clear hP1_ hR1_ hP2_ hB1_
 have n0_ := Aside0.mk hR2_
 have n1_ := Aside0.mk hB2_
 have n2_ := Aside0.mk hD_
 clear hR2_ hB2_ hD_
 clear HO_3 BK101 BK108 HB hcz30_0 hcz30_1 hfz30_0 hfz30_1 hx24_0 hf24_0 hx25_0 hf25_0 hy_
 generalize ((w29.setCell ⟨go24, (((rd_TTie l0_1 x24_3).f0) : Int).toNat, none⟩ (.int .i64 ji18)).setCell ⟨go24, (((rd_TTie l0_1 x24_3).f1) : Int).toNat, none⟩ (.int .i64 ji18)) = w35 at n0_ n1_ n2_ ⊢
 have HO_3 := n0_
 have BK101 := n1_
 have HB := n2_
 clear n0_ n1_ n2_
 go_wp2
 go_roundg k3
 case measure => have := HK1.out; have := HK2.out; have := HK3.out; omega
 case rel => exact ⟨(y114), (true), (wrap64 (x24_3 + 1)), qs, qs, H', ⟨by have := HK1.out; have := HK2.out; have := HK3.out; omega⟩, ⟨qr HO_3.out⟩, ⟨qk BK101.out⟩, ⟨qb HB.out⟩⟩

def impl_WayReach.T8 : Bool × List (List Nat × List Nat) := (true, [([], []), ([], []), ([], []), ([1, 2], [1, 2]), ([3], [3]), ([], []), ([], []), ([5, 6], [5, 6]), ([7], [7]), ([4, 8], [4, 8]), ([9], [9]), ([0, 10], [0, 10]), ([11, 11, 0, 1, 2, 3, 4, 5, 6, 7, 8, 9, 10, 11], [0, 11])])
def impl_WayReach.B8 : List Nat := [0, 0, 0, 6, 14, 0, 0, 96, 224, 510, 1022, 2047, 4095]
theorem impl_WayReach.tab8 : rtab .any (opsOf Try.f38 8) = impl_WayReach.T8 := by kernel_rfl
theorem impl_WayReach.bits8 : waitsOk impl_WayReach.T8.2 impl_WayReach.B8 = true := by kernel_rfl
set_option maxHeartbeats 8000000 in
set_option maxRecDepth 100000 in
theorem impl_WayReach.calls (k : Nat) (a0_0 : Int) (A0_1 : Option Addr) (c0_1 : Nat) (l0_1 : List (STie)) (a1 : Int) (r : List Bool) (w : World) (hr0_1 : Kd.C kTie w A0_1 l0_1.length l0_1) (hc0_1 : l0_1.length ≤ c0_1) (h : impl_WayReach.f k a0_0 l0_1 a1 = some r) :
    Calls Try.prog 38 #[.agg #[.int .i64 a0_0, .slice A0_1 l0_1.length c0_1], .int .i64 a1] w fun e w' => ∃ v0_ : Value, e = .returned (v0_) ∧ Kd.R Kd.bool 4 w' w.heap.size (fun _ => True) v0_ r ∧ Below w.heap.size w w' := by
 have hu31 := Try.underlying31
 have HR0_1 := Aside0.mk hr0_1
 have HC0_1 := Aside0.mk hc0_1
 clear hr0_1 hc0_1
 have HB := q0 (Below.refl w.heap.size w)
 have H : ((some (([] : List Bool) : List Bool)).bind fun y100 => ((impl_NetOk.f k a0_0 l0_1).bind fun t102 => (if t102 = true then ((impl_Net_knot.f a0_0 l0_1 a1).bind fun t103 => (impl_WayReach.j0 k a1 y100 (!t103) a0_0 l0_1)) else (impl_WayReach.j0 k a1 y100 true a0_0 l0_1)))) = some r := h
 clear h
 obtain ⟨y100, hy100⟩ : ∃ y_ : List Bool, y_ = (([] : List Bool)) := ⟨_, rfl⟩
 replace H : ((impl_NetOk.f k a0_0 l0_1).bind fun t102 => (if t102 = true then ((impl_Net_knot.f a0_0 l0_1 a1).bind fun t103 => (impl_WayReach.j0 k a1 y100 (!t103) a0_0 l0_1)) else (impl_WayReach.j0 k a1 y100 true a0_0 l0_1))) = some r := qy H hy100
 have Ny100 := Aside0.mk hy100
 clear hy100
 have HC3 := Aside0.mk H
 clear H
 go_enter Try.func38, Try.ntmps38
 go_upto_region 2 with (first | ((with_reducible refine gate_dst (N := 2) rfl ?_); refine be 2 #[.int .i64 a0_0, .slice A0_1 l0_1.length c0_1] 31 ?_; intro gb104 hg w4 hbox hb; have BK104 := q0 (hbox); have GW104 := q0 ((bs HB.out hg : w.heap.size ≤ gb104)); have GE104 := q0 ((bs HB.out hg : w.heap.size ≤ gb104)); replace HB := q0 (below_step (qb HB.out) hb); clear hb hbox hg) | ((with_reducible refine gate_dst (N := 8) rfl ?_); refine Kd.R_lit Kd.bool _ 4 ?hg (N := 8) ?hd (xs := ([] : List Bool)) (inner := []) (ok := fun _ => True) (okp := fun _ => True) ?hr ?hp (fun _ hk => hk) trivial (Below.refl _ _) (Nat.le_refl _) (by simp) ?_; (case hd => rfl); (case hg => rfl); (case hr => first | (go_simp; done) | (go_simp; rfl)); (case hp => exact (Reps.none _ _)); intro v105 w5 ho6 hb hg_ hnew_; clear hg_ hnew_; (first | rw [← Ny100.out] at ho6 | (simp only [Int.reduceToNat] at ho6; rw [← Ny100.out] at ho6)); have HO106 := q0 (Kd.R_lower ho6 (below_size (qb HB.out))); replace BK104 := q0 (kb BK104.out hb); replace HB := q0 (below_step (qb HB.out) hb); clear hb ho6))
 (try simp only [Act.put, List.setIfInBounds_toArray, List.set_cons_zero, List.set_cons_succ])
 go_cut [17] (fun v17 wc => ∃ (kq : Nat) (x17_2 : Bool), v17 = .bool x17_2 ∧ Aside0 (impl_WayReach.j0 kq a1 y100 x17_2 a0_0 l0_1 = some r) ∧ Aside0 (kq ≤ k) ∧ Aside0 (Kd.R Kd.bool 4 wc w.heap.size (fun _ => True) v105 y100) ∧ Aside0 (wc.heap[gb104]? = some (.cells #[.int .i64 a0_0, (.slice A0_1 l0_1.length c0_1)] 31 (0, 0))) ∧ Aside0 (Below w.heap.size w wc))
 case first =>
   have H := HC3.out
   clear HC3
   replace H := Option.bind_eq_some_iff.mp H
   obtain ⟨t102, A70, H⟩ := H
   have A7 := Aside0.mk A70
   clear A70
   by_cases c8 : t102 = true
   rotate_left
   · replace c8 := Bool.eq_false_iff.mpr c8
     subst c8
     rw [if_neg nf] at H
     have H' := Aside0.mk H
     clear H
     have hcz14_0 : w5.cell? ⟨gb104, 0, none⟩ = some (.int .i64 a0_0) := (blk_cell BK104.out 0).trans rfl
     have hcz14_1 : w5.cell? ⟨gb104, 1, none⟩ = some (.slice A0_1 l0_1.length c0_1) := (blk_cell BK104.out 1).trans rfl
     have hfz14_0 := blk_frozen BK104.out 0
     have hfz14_1 := blk_frozen BK104.out 1
     go_wp2_with (first | ((with_reducible refine gate_callee (f := 47) rfl ?_); refine gl 10 Try.func47 #[.agg #[.int .i64 a0_0, .slice A0_1 l0_1.length c0_1]] ?_; (with_reducible refine (impl_NetOk.calls k a0_0 _ _ l0_1 false _ ?side1 ?side2 A7.out).mono ?_); (case side1 => exact qc (Kd.C_below HR0_1.out HB.out)); (case side2 => exact HC0_1.out); rintro e w15 ⟨rfl, hb⟩; refine ⟨_, rfl, ?_⟩; replace HO106 := q0 (Kd.R_below (qr HO106.out) hb); replace BK104 := q0 (kb BK104.out hb); replace HB := q0 (below_step (qb HB.out) hb); (try clear hb); (try clear hb2); (try clear hk); (try clear hi)))
     go_meet
     case rel => exact ⟨_, (true), qs, H', ⟨by first | omega | exact Nat.le_refl _⟩, ⟨qr HO106.out⟩, ⟨qk BK104.out⟩, ⟨qb HB.out⟩⟩
   subst c8
   rw [if_pos rfl] at H
   replace H := Option.bind_eq_some_iff.mp H
   obtain ⟨t103, A90, H⟩ := H
   have A9 := Aside0.mk A90
   clear A90
   have H' := Aside0.mk H
   clear H
   have hcz10_0 : w5.cell? ⟨gb104, 0, none⟩ = some (.int .i64 a0_0) := (blk_cell BK104.out 0).trans rfl
   have hcz10_1 : w5.cell? ⟨gb104, 1, none⟩ = some (.slice A0_1 l0_1.length c0_1) := (blk_cell BK104.out 1).trans rfl
   have hfz10_0 := blk_frozen BK104.out 0
   have hfz10_1 := blk_frozen BK104.out 1
   go_wp2_with (first | ((with_reducible refine gate_callee (f := 47) rfl ?_); refine gl 10 Try.func47 #[.agg #[.int .i64 a0_0, .slice A0_1 l0_1.length c0_1]] ?_; (with_reducible refine (impl_NetOk.calls k a0_0 _ _ l0_1 true _ ?side1 ?side2 A7.out).mono ?_); (case side1 => exact qc (Kd.C_below HR0_1.out HB.out)); (case side2 => exact HC0_1.out); rintro e w11 ⟨rfl, hb⟩; refine ⟨_, rfl, ?_⟩; replace HO106 := q0 (Kd.R_below (qr HO106.out) hb); replace BK104 := q0 (kb BK104.out hb); replace HB := q0 (below_step (qb HB.out) hb); (try clear hb); (try clear hb2); (try clear hk); (try clear hi); have hcz12_0 : w11.cell? ⟨gb104, 0, none⟩ = some (.int .i64 a0_0) := (blk_cell BK104.out 0).trans rfl; have hcz12_1 : w11.cell? ⟨gb104, 1, none⟩ = some (.slice A0_1 l0_1.length c0_1) := (blk_cell BK104.out 1).trans rfl; have hfz12_0 := blk_frozen BK104.out 0; have hfz12_1 := blk_frozen BK104.out 1) | (go_at_call 48; (with_reducible refine (impl_Net_knot.calls a0_0 _ _ l0_1 a1 t103 _ ?side1 ?side2 A9.out).mono ?_); (case side1 => exact qc (Kd.C_below HR0_1.out HB.out)); (case side2 => exact HC0_1.out); rintro e w13 ⟨rfl, hb⟩; replace HO106 := q0 (Kd.R_below (qr HO106.out) hb); replace BK104 := q0 (kb BK104.out hb); replace HB := q0 (below_step (qb HB.out) hb); (try clear hb); (try clear hb2); (try clear hk); (try clear hi)))
   go_meet
   case rel => exact ⟨_, (!t103), qs, H', ⟨by first | omega | exact Nat.le_refl _⟩, ⟨qr HO106.out⟩, ⟨qk BK104.out⟩, ⟨qb HB.out⟩⟩
 clear HC3
 try clear p2
 try clear c3
 try clear c4
 try clear c8
 try clear hcz10_0
 try clear hcz10_1
 try clear hcz12_0
 try clear hcz12_1
 try clear hcz14_0
 try clear hcz14_1
 try clear hfz10_0
 try clear hfz10_1
 try clear hfz12_0
 try clear hfz12_1
 try clear hfz14_0
 try clear hfz14_1
 obtain ⟨kq, x17_2, rfl, HA, HJ2, HO_5, BK104, HB⟩ := hcut
 rcases kq with _ | kj2
 · exact absurd HA.out (by simp [impl_WayReach.j0])
 have H := HA.out
 clear HA
 simp only [impl_WayReach.j0] at H
 by_cases c16 : x17_2 = true
 · subst c16
   rw [if_pos rfl] at H
   obtain rfl := Option.some.inj H
   go_wp2
   go_ret
   exact ⟨_, qe, qr HO_5.out, qb HB.out⟩
 replace c16 := Bool.eq_false_iff.mpr c16
 subst c16
 rw [if_neg nf] at H
 replace H := Option.bind_eq_some_iff.mp H
 obtain ⟨t101, A107, H⟩ := H
 have A17 := Aside0.mk A107
 clear A107
 have H' := Aside0.mk H
 clear H
 have hcz18_0 : wc.cell? ⟨gb104, 0, none⟩ = some (.int .i64 a0_0) := (blk_cell BK104.out 0).trans rfl
 have hcz18_1 : wc.cell? ⟨gb104, 1, none⟩ = some (.slice A0_1 l0_1.length c0_1) := (blk_cell BK104.out 1).trans rfl
 have hfz18_0 := blk_frozen BK104.out 0
 have hfz18_1 := blk_frozen BK104.out 1
 go_wp2_with (first | ((with_reducible refine gate_callee (f := 63) rfl ?_); refine gl 20 Try.func63 #[.agg #[.int .i64 a0_0, .slice A0_1 l0_1.length c0_1]] ?_; (with_reducible refine (impl_Net_parts.calls kj2 a0_0 _ _ l0_1 t101 _ ?side1 ?side2 A17.out).mono ?_); (case side1 => exact qc (Kd.C_below HR0_1.out HB.out)); (case side2 => exact HC0_1.out); rintro e w19 ⟨v108, rfl, ho0, hb⟩; refine ⟨_, rfl, ?_⟩; replace HO_5 := q0 (Kd.R_below (qr HO_5.out) hb); have HO109 := q0 (Kd.R_lower ho0 (below_size (qb HB.out))); replace BK104 := q0 (kb BK104.out hb); replace HB := q0 (below_step (qb HB.out) hb); (try clear hb); (try clear hb2); (try clear hk); (try clear hi); (try clear ho0); obtain ⟨Ao20, co20, eo20⟩ := Kd.R_slice HO109.out; subst eo20))
 go_loopg [5, 23] kj2 (fun kq v5 v23 w' => ∃ (x5_2 : List Bool) (x23_2 : Int), v23 = .int .i64 x23_2 ∧ Aside0 (impl_WayReach.l0 kq a1 x5_2 t101 (t101.length : Int) x23_2 = some r) ∧ Aside0 (kq ≤ kj2) ∧ Aside0 (Kd.R Kd.bool 4 w' w.heap.size (fun _ => True) v5 x5_2) ∧ Aside0 (Kd.R (Kd.int .i64) 3 w' w.heap.size (fun _ => True) (.slice Ao20 t101.length co20) t101) ∧ Aside0 (w'.heap[gb104]? = some (.cells #[.int .i64 a0_0, (.slice A0_1 l0_1.length c0_1)] 31 (0, 0))) ∧ Aside0 (Below w.heap.size w w'))
 case atStart => exact ⟨(y100), (0), qs, H', ⟨Nat.le_refl _⟩, ⟨qr HO_5.out⟩, ⟨qr HO109.out⟩, ⟨qk BK104.out⟩, ⟨qb HB.out⟩⟩
 clear H'
 try clear c1
 try clear p2
 try clear c3
 try clear c4
 try clear c6
 try clear c8
 try clear c16
 try clear hcz10_0
 try clear hcz10_1
 try clear hcz12_0
 try clear hcz12_1
 try clear hcz14_0
 try clear hcz14_1
 try clear hcz18_0
 try clear hcz18_1
 try clear hfz10_0
 try clear hfz10_1
 try clear hfz12_0
 try clear hfz12_1
 try clear hfz14_0
 try clear hfz14_1
 try clear hfz18_0
 try clear hfz18_1
 try clear p2
 obtain ⟨x5_2, x23_2, rfl, HA, HK2, HO_5, HO_6, BK104, HB⟩ := hrel
 rcases gk with _ | k2
 · exact absurd HA.out (by simp [impl_WayReach.l0])
 have H := HA.out
 clear HA
 simp only [impl_WayReach.l0] at H
 by_cases c21 : x23_2 < (t101.length : Int)
 rotate_left
 · rw [if_neg c21] at H
   have c21b0 : decide (x23_2 < (t101.length : Int)) = false := decide_eq_false c21
   clear c21
   obtain rfl := Option.some.inj H
   go_wp2
   go_ret
   exact ⟨_, qe, qr HO_5.out, qb HB.out⟩
 rw [if_pos c21] at H
 have c21b0 : decide (x23_2 < (t101.length : Int)) = true := decide_eq_true c21
 clear c21
 by_cases c22 : 0 ≤ x23_2
 rotate_left
 · rw [if_neg c22] at H
   exact absurd H (by simp)
 rw [if_pos c22] at H
 have c22b0 : decide (0 ≤ x23_2) = true := decide_eq_true c22
 clear c22
 by_cases c23 : x23_2 < (t101.length : Int)
 rotate_left
 · rw [if_neg c23] at H
   exact absurd H (by simp)
 rw [if_pos c23] at H
 have c23b0 : decide (x23_2 < (t101.length : Int)) = true := decide_eq_true c23
 clear c23
 by_cases c24 : 0 ≤ a1
 rotate_left
 · rw [if_neg c24] at H
   exact absurd H (by simp)
 rw [if_pos c24] at H
 have c24b0 : decide (0 ≤ a1) = true := decide_eq_true c24
 clear c24
 by_cases c25 : a1 < (t101.length : Int)
 rotate_left
 · rw [if_neg c25] at H
   exact absurd H (by simp)
 rw [if_pos c25] at H
 have c25b0 : decide (a1 < (t101.length : Int)) = true := decide_eq_true c25
 clear c25
 by_cases c26 : x5_2.length < 140737488355328
 rotate_left
 · rw [if_neg c26] at H
   exact absurd H (by simp)
 rw [if_pos c26] at H
 have LMc26 := Aside0.mk c26
 clear c26
 obtain ⟨y110, hy110⟩ : ∃ y_ : List Bool, y_ = (x5_2 ++ [((rd t101 x23_2) == (rd t101 a1))]) := ⟨_, rfl⟩
 replace H : (impl_WayReach.l0 k2 a1 y110 t101 (t101.length : Int) (wrap64 (x23_2 + 1))) = some r := qy H hy110
 have Ny110 := Aside0.mk hy110
 clear hy110
 have H' := Aside0.mk H
 clear H
 try go_wp2
 replace HO_5 := q0 (Kd.R_drew HO_5.out)
 replace HO_6 := q0 (Kd.R_drew HO_6.out)
 replace BK104 := q0 (blk_drew BK104.out)
 replace HB := q0 (below_drew1 HB.out)
 have p111 : 0 ≤ (x23_2 : Int) := of_decide_eq_true qa
 have q111 : x23_2 < (t101.length : Int) := of_decide_eq_true qa
 obtain ⟨ad111, e111, hx111_0⟩ := Kd.at_int (Kd.R_reads' HO_6.out).2.2 x23_2 p111 q111
 cases e111
 replace p111 := eq_true p111
 replace q111 := eq_true q111
 have p112 : 0 ≤ (a1 : Int) := of_decide_eq_true qa
 have q112 : a1 < (t101.length : Int) := of_decide_eq_true qa
 obtain ⟨ad112, e112, hx112_0⟩ := Kd.at_int (Kd.R_reads' HO_6.out).2.2 a1 p112 q112
 obtain rfl : ad111 = ad112 := (by injection e112)
 replace p112 := eq_true p112
 replace q112 := eq_true q112
 refine start_ (n := 13) (S := fun w' => w'.cell? (ad111.add (x23_2).toNat) = some (.int .i64 (rd t101 x23_2)) ∧ w'.cell? (ad111.add (a1).toNat) = some (.int .i64 (rd t101 a1))) (ds := [10, 11]) (ba 13 0) (by kernel_rfl) rfl (by kernel_rfl) ⟨hx111_0, hx112_0⟩ (fun hHeld => ?_); refine with_tabW impl_WayReach.tab8 impl_WayReach.bits8 (fun HT_ HW_ => ?_)
 generalize wr.drew = w27 at HO_5 HO_6 BK104 HB hx111_0 hx112_0 hHeld ⊢
 refine pu 0 (some 26) (ba 13 1) HT_.out ?_
 refine pu 1 (some 27) (ba 13 3) HT_.out ?_
 refine pu 2 (some 28) (ba 13 7) HT_.out ?_
 refine pu 3 (some 29) (ba 13 15) HT_.out ?_
 refine pu 5 (some 31) (ba 13 47) HT_.out ?_
 refine pu 6 (some 32) (ba 13 111) HT_.out ?_
 refine pu 7 (some 33) (ba 13 239) HT_.out ?_
 refine tu 4 (some 30) (ba 13 255) HT_.out HW_.out hHeld ?_
 refine tu 8 (some 34) (ba 13 511) HT_.out HW_.out hHeld ?_
 refine pu 9 (some 35) (ba 13 1023) HT_.out ?_
 refine last_ (i := 10) (N := some 36) (ba 13 2047) rfl rfl (one_of HT_.out (by kernel_rfl)) (by decide) (fun K hK => ?_)
 refine value_ (w1 := ?_) (v := ?_) (by rfl) rfl ?_ ?_
 rotate_left 2
 · go_simp
   constructor
   · rfl
   · rfl
 refine hK.out _ _ ?_
 clear hK K
 refine nu 36 ?_
 refine last_ (i := 11) (N := some 37) (ba 13 4095) rfl rfl (one_of HT_.out (by kernel_rfl)) (by decide) (fun K hK => ?_)
 refine Kd.R_append_step Kd.bool (w0 := w) w.heap.size (by rfl) (.tmp 26) (.tmp 36) 53 4 (.bool false) 1 rfl Try.underlying53 info4 rfl (by decide) (by omega) u5 x5_2 ((rd t101 x23_2) == (rd t101 a1)) [.bool ((rd t101 x23_2) == (rd t101 a1))] (fun _ => True) (fun _ => False) rfl rfl ?aP (fun _ hk => hk.elim) ?aF ?aO ?aB ?aS ?aL ?_
 (case aP => exact rfl)
 (case aB => exact (qb HB.out))
 (case aF => exact (fun _ _ => trivial))
 (case aO => exact (qr HO_5.out))
 (case aS => exact (below_size (qb HB.out)))
 (case aL => have := LMc26.out; omega)
 intro v113 w28 ho hb hg hat
 rw [← Ny110.out] at ho
 replace HO_6 := q0 (Kd.R_over' (qr HO_6.out) (Kd.R_typed (qr HO_5.out)) (by decide) hg)
 replace BK104 := q0 (blk_grown (g := gb104) (o := .cells #[.int .i64 a0_0, .slice A0_1 l0_1.length c0_1] 31 (0, 0)) (qk BK104.out) hg (Kd.R_ne HO_5.out BK104.out (by decide)))
 replace HB := q0 (hb)
 have HO114 := q0 (ho)
 clear HO_5
 clear ho hb hg hat
 refine hK.out _ _ ?_
 clear hK K
 refine nu 37 ?_
 refine pu 12 (some 5) (ba 13 8191) HT_.out ?_
 refine done_ (done_of HT_.out (by kernel_rfl)) ?_
 try go_wp2
 go_roundg k2
 case measure => have := HJ2.out; have := HK2.out; omega
 case rel => exact ⟨(y110), (wrap64 (x23_2 + 1)), qs, H', ⟨by have := HJ2.out; have := HK2.out; omega⟩, ⟨qr HO114.out⟩, ⟨qr HO_6.out⟩, ⟨qk BK104.out⟩, ⟨qb HB.out⟩⟩

set_option maxHeartbeats 8000000 in
set_option maxRecDepth 100000 in
theorem laws_FnWayFind.calls (k : Nat) (A0 : Option Addr) (c0 : Nat) (l0 : List Int) (r : Bool) (w : World) (hr0 : Kd.C (Kd.int .u8) w A0 l0.length l0) (hc0 : l0.length ≤ c0) (h : laws_FnWayFind.f k l0 = some r) :
    Calls Try.prog 12 #[.slice A0 l0.length c0] w fun e w' => e = .returned (.bool r) ∧ Below w.heap.size w w' := by
 have hu31 := Try.underlying31
 have HR0 := Aside0.mk hr0
 have HC0 := Aside0.mk hc0
 clear hr0 hc0
 have HB := q0 (Below.refl w.heap.size w)
 have H : (if (l0.length : Int) > 1048576 then (some true) else ((spec_DrawWayFind.f k l0).bind fun bt103 => ((spec_WayFind.f k bt103.1 bt103.2.1 bt103.2.2.1 bt103.2.2.2).bind fun bt100 => ((impl_WayFind.f k bt103.1 bt103.2.1 bt103.2.2.1 bt103.2.2.2).bind fun bt104 => (if (bt104.2 != bt100.2) = true then (laws_FnWayFind.j0 k bt103.2.2.1 bt103.2.2.2 bt104.1 bt104.2 true bt103.1 bt103.2.1) else ((laws_loInts.f k bt104.1 bt100.1).bind fun t105 => (laws_FnWayFind.j0 k bt103.2.2.1 bt103.2.2.2 bt104.1 bt104.2 (!t105) bt103.1 bt103.2.1))))))) = some r := h
 clear h
 by_cases c2 : (l0.length : Int) > 1048576
 · rw [if_pos c2] at H
   have c2b0 : decide (1048576 < (l0.length : Int)) = true := decide_eq_true c2
   have c2b1 : decide (1048576 < l0.length) = true := decide_eq_true (by omega)
   clear c2
   obtain rfl := Option.some.inj H
   go_enter Try.func12, Try.ntmps12
   go_wp2
   go_ret
   exact ⟨qe, qb HB.out⟩
 rw [if_neg c2] at H
 have c2b0 : decide (1048576 < (l0.length : Int)) = false := decide_eq_false c2
 have c2b1 : decide (1048576 < l0.length) = false := decide_eq_false (by omega)
 clear c2
 replace H := Option.bind_eq_some_iff.mp H
 obtain ⟨⟨t103, t106, t107, t108⟩, A30, H⟩ := H
 have A3 := Aside0.mk A30
 clear A30
 replace H := Option.bind_eq_some_iff.mp H
 obtain ⟨⟨t100, t109⟩, A40, H⟩ := H
 have A4 := Aside0.mk A40
 clear A40
 replace H := Option.bind_eq_some_iff.mp H
 obtain ⟨⟨t104, t110⟩, A50, H⟩ := H
 have A5 := Aside0.mk A50
 clear A50
 have HC6 := Aside0.mk H
 clear H
 go_enter Try.func12, Try.ntmps12
 go_upto_region 6 with (first | ((with_reducible refine gate_callee (f := 27) rfl ?_); refine gl 16 Try.func27 #[.slice A0 l0.length c0] ?_; (with_reducible refine (spec_DrawWayFind.calls k _ _ l0 t103 t106 t107 t108 _ ?side1 ?side2 A3.out).mono ?_); (case side1 => repeat (first | exact HR0.out | (with_reducible refine Kd.C_alloc ?_ _) | (with_reducible refine Kd.C_drewN ?_ _) | (with_reducible refine Kd.C_drew ?_))); (case side2 => exact HC0.out); rintro e w7 ⟨v111, rfl, ho0, hb⟩; refine ⟨_, rfl, ?_⟩; have HO112 := q0 (Kd.R_lower ho0 (below_size (qb HB.out))); replace HB := q0 (below_step (qb HB.out) hb); (try clear hb); (try clear hb2); (try clear hk); (try clear hi); (try clear ho0)) | ((with_reducible refine gate_dst (N := 3) rfl ?_); (try (refine gate_guard (by rfl) ?_; dsimp only)); refine be 3 #[.int .i64 0, .slice none 0 0] 31 ?_; intro gb113 hg w8 hbox hb; replace HO112 := q0 (Kd.R_below (qr HO112.out) hb); have BK113 := q0 (hbox); have GW113 := q0 ((bs HB.out hg : w.heap.size ≤ gb113)); have GE113 := q0 ((bs HB.out hg : w.heap.size ≤ gb113)); replace HB := q0 (below_step (qb HB.out) hb); clear hb hbox hg; have hcz9_0 : w8.cell? ⟨gb113, 0, none⟩ = some (.int .i64 0) := (blk_cell BK113.out 0).trans rfl; have hcz9_1 : w8.cell? ⟨gb113, 1, none⟩ = some (.slice none 0 0) := (blk_cell BK113.out 1).trans rfl; have hfz9_0 := blk_frozen BK113.out 0; have hfz9_1 := blk_frozen BK113.out 1; obtain ⟨Ao10, co10, eo10⟩ := Kd.R_slice HO112.out; subst eo10) | ((with_reducible refine gate_callee (f := 14) rfl ?_); refine gl 24 Try.func14 #[.agg #[.int .i64 t103, .slice Ao10 t106.length co10], .int .i64 t107, .int .i64 t108] ?_; (with_reducible refine (spec_WayFind.calls k t103 _ _ t106 t107 t108 t100 t109 _ ?side1 ?side2 A4.out).mono ?_); (case side1 => refine (Kd.R_reads' (e := 74) (base := w.heap.size) (ok := fun k_ => True) (n := t106.length) (c := co10) ?_).2.2; exact (by (with_reducible repeat (first | apply Kd.R_alloc | apply Kd.R_drewN | apply Kd.R_drew)); exact (rf2 HO112.out BK113.out (fun _ h_ => h_.1)))); (case side2 => exact (Kd.R_reads' HO112.out).2.1); rintro e w11 ⟨v114, rfl, ho0, hb⟩; refine ⟨_, rfl, ?_⟩; replace HO112 := q0 (Kd.R_below (by (with_reducible repeat (first | apply Kd.R_alloc | apply Kd.R_drewN | apply Kd.R_drew)); exact (rf2 HO112.out BK113.out (fun _ h_ => h_.1))) hb); have HO115 := q0 (Kd.R_lower ho0 (below_size (qb HB.out))); replace BK113 := q0 (blk_below (g := gb113) (o := .cells #[.int .i64 t103, .slice Ao10 t106.length co10] 31 (0, 0)) (by (with_reducible repeat (first | refine blk_drewN ?_ _ | refine blk_drew ?_ | refine blk_alloc ?_ _)); refine blk_put (cs := #[.int .i64 t103, .slice none 0 0]) ?_ 1 _ rfl; (with_reducible repeat (first | refine blk_drewN ?_ _ | refine blk_drew ?_ | refine blk_alloc ?_ _)); refine blk_put (cs := #[.int .i64 0, .slice none 0 0]) ?_ 0 _ rfl; (with_reducible repeat (first | refine blk_drewN ?_ _ | refine blk_drew ?_ | refine blk_alloc ?_ _)); exact BK113.out) hb); replace HB := q0 (below_step (qb HB.out) hb); (try clear hb); (try clear hb2); (try clear hk); (try clear hi); (try clear ho0); have hcz12_0 : w11.cell? ⟨gb113, 0, none⟩ = some (.int .i64 t103) := (blk_cell BK113.out 0).trans rfl; have hcz12_1 : w11.cell? ⟨gb113, 1, none⟩ = some (.slice Ao10 t106.length co10) := (blk_cell BK113.out 1).trans rfl; have hfz12_0 := blk_frozen BK113.out 0; have hfz12_1 := blk_frozen BK113.out 1) | ((with_reducible refine gate_callee (f := 16) rfl ?_); refine gl 31 Try.func16 #[.agg #[.int .i64 t103, .slice Ao10 t106.length co10], .int .i64 t107, .int .i64 t108] ?_; (with_reducible refine (impl_WayFind.calls k t103 _ _ t106 t107 t108 t104 t110 _ ?side1 ?side2 A5.out).mono ?_); (case side1 => exact qc (Kd.R_reads' HO112.out).2.2); (case side2 => exact (Kd.R_reads' HO112.out).2.1); rintro e w13 ⟨v116, rfl, ho0, hb⟩; refine ⟨_, rfl, ?_⟩; replace HO112 := q0 (Kd.R_below (qr HO112.out) hb); have HO117 := q0 (Kd.R_lower (Kd.R_new' ho0 (Kd.R_lt (qr HO115.out))) (below_size (qb HB.out))); replace HO115 := q0 (Kd.R_elder' (qr HO115.out) (Kd.R_base ho0) hb); replace BK113 := q0 (kb BK113.out hb); replace HB := q0 (below_step (qb HB.out) hb); (try clear hb); (try clear hb2); (try clear hk); (try clear hi); (try clear ho0)))
 (try simp only [Act.put, List.setIfInBounds_toArray, List.set_cons_zero, List.set_cons_succ])
 go_cut [42] (fun v42 wc => ∃ (kq : Nat) (x42_5 : Bool), v42 = .bool x42_5 ∧ Aside0 (laws_FnWayFind.j0 kq t107 t108 t104 t110 x42_5 t103 t106 = some r) ∧ Aside0 (kq ≤ k) ∧ Aside0 (Kd.R (Kd.int .i64) 3 wc w.heap.size (fun _ => True) v116 t104) ∧ Aside0 (Kd.R kTie 74 wc w.heap.size (fun _ => True) (.slice Ao10 t106.length co10) t106) ∧ Aside0 (wc.heap[gb113]? = some (.cells #[.int .i64 t103, (.slice Ao10 t106.length co10)] 31 (0, 0))) ∧ Aside0 (Below w.heap.size w wc))
 case first =>
   have H := HC6.out
   clear HC6
   by_cases c14 : (t110 != t109) = true
   · rw [if_pos c14] at H
     have c14b0 : (t110 != t109) = true := c14
     (try (have c14b1 : decide (t110 = t109) = false := by simpa using c14))
     (try (have c14b2 : (t110 == t109) = false := by simpa using c14))
     (try (have c14b3 : ¬ (t110 = t109) := by simpa using c14))
     clear c14
     (first | rw [c14b0] | (simp only [i64_w, i32_w]; rw [c14b0]) | skip)
     have H' := Aside0.mk H
     clear H
     go_wp2
     go_meet
     case rel => exact ⟨_, (true), qs, H', ⟨by first | omega | exact Nat.le_refl _⟩, ⟨by (with_reducible repeat (first | apply Kd.R_alloc | apply Kd.R_drewN | apply Kd.R_drew)); exact Kd.R_mono HO117.out (fun _ hk => trivial)⟩, ⟨qr HO112.out⟩, ⟨qk BK113.out⟩, ⟨qb HB.out⟩⟩
   rw [if_neg c14] at H
   have c14b0 : (t110 != t109) = false := by simpa using c14
   (try (have c14b1 : decide (t110 = t109) = true := by simpa using c14))
   (try (have c14b2 : (t110 == t109) = true := by simpa using c14))
   clear c14
   (first | rw [c14b0] | (simp only [i64_w, i32_w]; rw [c14b0]) | skip)
   replace H := Option.bind_eq_some_iff.mp H
   obtain ⟨t105, A118, H⟩ := H
   have A15 := Aside0.mk A118
   clear A118
   have H' := Aside0.mk H
   clear H
   obtain ⟨Ao16, co16, eo16⟩ := Kd.R_slice HO117.out
   subst eo16
   obtain ⟨Ao17, co17, eo17⟩ := Kd.R_slice HO115.out
   subst eo17
   go_wp2_with (first | (go_at_call 28; (with_reducible refine (laws_loInts.calls k _ _ t104 _ _ t100 t105 _ ?side1 ?side2 ?side3 ?side4 A15.out).mono ?_); (case side1 => exact qc (Kd.R_reads' HO117.out).2.2); (case side2 => exact (Kd.R_reads' HO117.out).2.1); (case side3 => exact qc (Kd.R_reads' HO115.out).2.2); (case side4 => exact (Kd.R_reads' HO115.out).2.1); rintro e w' ⟨rfl, ⟨nd, rfl⟩⟩))
   go_meet
   case rel => exact ⟨_, (!t105), qs, H', ⟨by first | omega | exact Nat.le_refl _⟩, ⟨by (with_reducible repeat (first | apply Kd.R_alloc | apply Kd.R_drewN | apply Kd.R_drew)); exact Kd.R_mono HO117.out (fun _ hk => trivial)⟩, ⟨qr HO112.out⟩, ⟨qk BK113.out⟩, ⟨qb HB.out⟩⟩
 clear HC6
 try clear c1
 try clear c2
 try clear c2b0
 try clear c2b1
 try clear p2
 try clear c12
 try clear c14
 try clear c14b0
 try clear c14b1
 try clear c14b2
 try clear c16
 try clear hcz12_0
 try clear hcz12_1
 try clear hcz9_0
 try clear hcz9_1
 try clear hfz12_0
 try clear hfz12_1
 try clear hfz9_0
 try clear hfz9_1
 obtain ⟨kq, x42_5, rfl, HA, HJ5, HO_8, HO_100001, BK113, HB⟩ := hcut
 rcases kq with _ | kj5
 · exact absurd HA.out (by simp [laws_FnWayFind.j0])
 have H := HA.out
 clear HA
 simp only [laws_FnWayFind.j0] at H
 by_cases c18 : x42_5 = true
 · subst c18
   rw [if_pos rfl] at H
   obtain rfl := Option.some.inj H
   go_wp2
   go_ret
   exact ⟨qe, qb HB.out⟩
 replace c18 := Bool.eq_false_iff.mpr c18
 subst c18
 rw [if_neg nf] at H
 replace H := Option.bind_eq_some_iff.mp H
 obtain ⟨t101, A119, H⟩ := H
 have A19 := Aside0.mk A119
 clear A119
 by_cases c20 : t110 = true
 rotate_left
 · replace c20 := Bool.eq_false_iff.mpr c20
   subst c20
   rw [if_neg nf] at H
   by_cases c52 : (t104.length : Int) = 0
   rotate_left
   · rw [if_neg c52] at H
     have c52b0 : ((t104.length : Int) == 0) = false := beq_eq_false_iff_ne.mpr c52
     have c52b1 : ((t104.length : Int) != 0) = true := bne_iff_ne.mpr c52
     have c52b2 : ¬ (t104 = []) := fun h_ => c52 (by rw [h_]; rfl)
     obtain rfl := Option.some.inj H
     have hcz74_0 : wc.cell? ⟨gb113, 0, none⟩ = some (.int .i64 t103) := (blk_cell BK113.out 0).trans rfl
     have hcz74_1 : wc.cell? ⟨gb113, 1, none⟩ = some (.slice Ao10 t106.length co10) := (blk_cell BK113.out 1).trans rfl
     have hfz74_0 := blk_frozen BK113.out 0
     have hfz74_1 := blk_frozen BK113.out 1
     go_wp2_with (first | ((with_reducible refine gate_callee (f := 38) rfl ?_); refine gl 45 Try.func38 #[.agg #[.int .i64 t103, .slice Ao10 t106.length co10], .int .i64 t107] ?_; (with_reducible refine (impl_WayReach.calls kj5 t103 _ _ t106 t107 t101 _ ?side1 ?side2 A19.out).mono ?_); (case side1 => exact qc (Kd.R_reads' HO_100001.out).2.2); (case side2 => exact (Kd.R_reads' HO_100001.out).2.1); rintro e w75 ⟨v121, rfl, ho0, hb⟩; refine ⟨_, rfl, ?_⟩; replace HO_8 := q0 (Kd.R_below (qr HO_8.out) hb); replace HO_100001 := q0 (Kd.R_below (qr HO_100001.out) hb); have HO122 := q0 (Kd.R_lower ho0 (below_size (qb HB.out))); replace BK113 := q0 (kb BK113.out hb); replace HB := q0 (below_step (qb HB.out) hb); (try clear hb); (try clear hb2); (try clear hk); (try clear hi); (try clear ho0); obtain ⟨Ao76, co76, eo76⟩ := Kd.R_slice HO_8.out; subst eo76))
     go_ret
     exact ⟨qe, qb HB.out⟩
   rw [if_pos c52] at H
   have c52b0 : ((t104.length : Int) == 0) = true := beq_iff_eq.mpr c52
   have c52b1 : ((t104.length : Int) != 0) = false := bne_eq_false_iff_eq.mpr c52
   clear c52
   by_cases c53 : (t101.length : Int) = 0
   · rw [if_pos c53] at H
     have c53b0 : ((t101.length : Int) == 0) = true := beq_iff_eq.mpr c53
     have c53b1 : ((t101.length : Int) != 0) = false := bne_eq_false_iff_eq.mpr c53
     clear c53
     obtain rfl := Option.some.inj H
     have hcz54_0 : wc.cell? ⟨gb113, 0, none⟩ = some (.int .i64 t103) := (blk_cell BK113.out 0).trans rfl
     have hcz54_1 : wc.cell? ⟨gb113, 1, none⟩ = some (.slice Ao10 t106.length co10) := (blk_cell BK113.out 1).trans rfl
     have hfz54_0 := blk_frozen BK113.out 0
     have hfz54_1 := blk_frozen BK113.out 1
     go_wp2_with (first | ((with_reducible refine gate_callee (f := 38) rfl ?_); refine gl 45 Try.func38 #[.agg #[.int .i64 t103, .slice Ao10 t106.length co10], .int .i64 t107] ?_; (with_reducible refine (impl_WayReach.calls kj5 t103 _ _ t106 t107 t101 _ ?side1 ?side2 A19.out).mono ?_); (case side1 => exact qc (Kd.R_reads' HO_100001.out).2.2); (case side2 => exact (Kd.R_reads' HO_100001.out).2.1); rintro e w55 ⟨v121, rfl, ho0, hb⟩; refine ⟨_, rfl, ?_⟩; replace HO_8 := q0 (Kd.R_below (qr HO_8.out) hb); replace HO_100001 := q0 (Kd.R_below (qr HO_100001.out) hb); have HO122 := q0 (Kd.R_lower ho0 (below_size (qb HB.out))); replace BK113 := q0 (kb BK113.out hb); replace HB := q0 (below_step (qb HB.out) hb); (try clear hb); (try clear hb2); (try clear hk); (try clear hi); (try clear ho0); obtain ⟨Ao56, co56, eo56⟩ := Kd.R_slice HO_8.out; subst eo56; obtain ⟨Ao57, co57, eo57⟩ := Kd.R_slice HO122.out; subst eo57))
     go_ret
     exact ⟨qe, qb HB.out⟩
   rw [if_neg c53] at H
   have c53b0 : ((t101.length : Int) == 0) = false := beq_eq_false_iff_ne.mpr c53
   have c53b1 : ((t101.length : Int) != 0) = true := bne_iff_ne.mpr c53
   have c53b2 : ¬ (t101 = []) := fun h_ => c53 (by rw [h_]; rfl)
   by_cases c58 : t108 < 0
   · rw [if_pos c58] at H
     have c58b0 : decide (t108 < 0) = true := decide_eq_true c58
     clear c58
     obtain rfl := Option.some.inj H
     have hcz59_0 : wc.cell? ⟨gb113, 0, none⟩ = some (.int .i64 t103) := (blk_cell BK113.out 0).trans rfl
     have hcz59_1 : wc.cell? ⟨gb113, 1, none⟩ = some (.slice Ao10 t106.length co10) := (blk_cell BK113.out 1).trans rfl
     have hfz59_0 := blk_frozen BK113.out 0
     have hfz59_1 := blk_frozen BK113.out 1
     go_wp2_with (first | ((with_reducible refine gate_callee (f := 38) rfl ?_); refine gl 45 Try.func38 #[.agg #[.int .i64 t103, .slice Ao10 t106.length co10], .int .i64 t107] ?_; (with_reducible refine (impl_WayReach.calls kj5 t103 _ _ t106 t107 t101 _ ?side1 ?side2 A19.out).mono ?_); (case side1 => exact qc (Kd.R_reads' HO_100001.out).2.2); (case side2 => exact (Kd.R_reads' HO_100001.out).2.1); rintro e w60 ⟨v121, rfl, ho0, hb⟩; refine ⟨_, rfl, ?_⟩; replace HO_8 := q0 (Kd.R_below (qr HO_8.out) hb); replace HO_100001 := q0 (Kd.R_below (qr HO_100001.out) hb); have HO122 := q0 (Kd.R_lower ho0 (below_size (qb HB.out))); replace BK113 := q0 (kb BK113.out hb); replace HB := q0 (below_step (qb HB.out) hb); (try clear hb); (try clear hb2); (try clear hk); (try clear hi); (try clear ho0); obtain ⟨Ao61, co61, eo61⟩ := Kd.R_slice HO_8.out; subst eo61; obtain ⟨Ao62, co62, eo62⟩ := Kd.R_slice HO122.out; subst eo62))
     go_ret
     exact ⟨qe, qb HB.out⟩
   rw [if_neg c58] at H
   have c58b0 : decide (t108 < 0) = false := decide_eq_false c58
   clear c58
   by_cases c63 : t108 ≥ (t101.length : Int)
   · rw [if_pos c63] at H
     have c63b0 : decide ((t101.length : Int) ≤ t108) = true := decide_eq_true c63
     clear c63
     obtain rfl := Option.some.inj H
     have hcz64_0 : wc.cell? ⟨gb113, 0, none⟩ = some (.int .i64 t103) := (blk_cell BK113.out 0).trans rfl
     have hcz64_1 : wc.cell? ⟨gb113, 1, none⟩ = some (.slice Ao10 t106.length co10) := (blk_cell BK113.out 1).trans rfl
     have hfz64_0 := blk_frozen BK113.out 0
     have hfz64_1 := blk_frozen BK113.out 1
     go_wp2_with (first | ((with_reducible refine gate_callee (f := 38) rfl ?_); refine gl 45 Try.func38 #[.agg #[.int .i64 t103, .slice Ao10 t106.length co10], .int .i64 t107] ?_; (with_reducible refine (impl_WayReach.calls kj5 t103 _ _ t106 t107 t101 _ ?side1 ?side2 A19.out).mono ?_); (case side1 => exact qc (Kd.R_reads' HO_100001.out).2.2); (case side2 => exact (Kd.R_reads' HO_100001.out).2.1); rintro e w65 ⟨v121, rfl, ho0, hb⟩; refine ⟨_, rfl, ?_⟩; replace HO_8 := q0 (Kd.R_below (qr HO_8.out) hb); replace HO_100001 := q0 (Kd.R_below (qr HO_100001.out) hb); have HO122 := q0 (Kd.R_lower ho0 (below_size (qb HB.out))); replace BK113 := q0 (kb BK113.out hb); replace HB := q0 (below_step (qb HB.out) hb); (try clear hb); (try clear hb2); (try clear hk); (try clear hi); (try clear ho0); obtain ⟨Ao66, co66, eo66⟩ := Kd.R_slice HO_8.out; subst eo66; obtain ⟨Ao67, co67, eo67⟩ := Kd.R_slice HO122.out; subst eo67))
     go_ret
     exact ⟨qe, qb HB.out⟩
   rw [if_neg c63] at H
   have c63b0 : decide ((t101.length : Int) ≤ t108) = false := decide_eq_false c63
   clear c63
   by_cases c68 : 0 ≤ t108
   rotate_left
   · rw [if_neg c68] at H
     exact absurd H (by simp)
   rw [if_pos c68] at H
   have c68b0 : decide (0 ≤ t108) = true := decide_eq_true c68
   clear c68
   by_cases c69 : t108 < (t101.length : Int)
   rotate_left
   · rw [if_neg c69] at H
     exact absurd H (by simp)
   rw [if_pos c69] at H
   have c69b0 : decide (t108 < (t101.length : Int)) = true := decide_eq_true c69
   clear c69
   obtain rfl := Option.some.inj H
   have hcz70_0 : wc.cell? ⟨gb113, 0, none⟩ = some (.int .i64 t103) := (blk_cell BK113.out 0).trans rfl
   have hcz70_1 : wc.cell? ⟨gb113, 1, none⟩ = some (.slice Ao10 t106.length co10) := (blk_cell BK113.out 1).trans rfl
   have hfz70_0 := blk_frozen BK113.out 0
   have hfz70_1 := blk_frozen BK113.out 1
   go_wp2_with (first | ((with_reducible refine gate_callee (f := 38) rfl ?_); refine gl 45 Try.func38 #[.agg #[.int .i64 t103, .slice Ao10 t106.length co10], .int .i64 t107] ?_; (with_reducible refine (impl_WayReach.calls kj5 t103 _ _ t106 t107 t101 _ ?side1 ?side2 A19.out).mono ?_); (case side1 => exact qc (Kd.R_reads' HO_100001.out).2.2); (case side2 => exact (Kd.R_reads' HO_100001.out).2.1); rintro e w71 ⟨v121, rfl, ho0, hb⟩; refine ⟨_, rfl, ?_⟩; replace HO_8 := q0 (Kd.R_below (qr HO_8.out) hb); replace HO_100001 := q0 (Kd.R_below (qr HO_100001.out) hb); have HO122 := q0 (Kd.R_lower ho0 (below_size (qb HB.out))); replace BK113 := q0 (kb BK113.out hb); replace HB := q0 (below_step (qb HB.out) hb); (try clear hb); (try clear hb2); (try clear hk); (try clear hi); (try clear ho0); obtain ⟨Ao72, co72, eo72⟩ := Kd.R_slice HO_8.out; subst eo72; obtain ⟨Ao73, co73, eo73⟩ := Kd.R_slice HO122.out; subst eo73; have p126 : 0 ≤ (t108 : Int) := of_decide_eq_true qa; have q126 : t108 < (t101.length : Int) := of_decide_eq_true qa; obtain ⟨ad126, e126, hx126_0⟩ := Kd.at_bool (Kd.R_reads' HO122.out).2.2 t108 p126 q126; cases e126; replace p126 := eq_true p126; replace q126 := eq_true q126))
   go_ret
   exact ⟨qe, qb HB.out⟩
 subst c20
 rw [if_pos rfl] at H
 replace H := Option.bind_eq_some_iff.mp H
 obtain ⟨t102, A120, H⟩ := H
 have A21 := Aside0.mk A120
 clear A120
 by_cases c22 : t102 = true
 rotate_left
 · replace c22 := Bool.eq_false_iff.mpr c22
   subst c22
   rw [if_neg nf] at H
   obtain rfl := Option.some.inj H
   have hcz47_0 : wc.cell? ⟨gb113, 0, none⟩ = some (.int .i64 t103) := (blk_cell BK113.out 0).trans rfl
   have hcz47_1 : wc.cell? ⟨gb113, 1, none⟩ = some (.slice Ao10 t106.length co10) := (blk_cell BK113.out 1).trans rfl
   have hfz47_0 := blk_frozen BK113.out 0
   have hfz47_1 := blk_frozen BK113.out 1
   go_wp2_with (first | ((with_reducible refine gate_callee (f := 38) rfl ?_); refine gl 45 Try.func38 #[.agg #[.int .i64 t103, .slice Ao10 t106.length co10], .int .i64 t107] ?_; (with_reducible refine (impl_WayReach.calls kj5 t103 _ _ t106 t107 t101 _ ?side1 ?side2 A19.out).mono ?_); (case side1 => exact qc (Kd.R_reads' HO_100001.out).2.2); (case side2 => exact (Kd.R_reads' HO_100001.out).2.1); rintro e w48 ⟨v121, rfl, ho0, hb⟩; refine ⟨_, rfl, ?_⟩; replace HO_8 := q0 (Kd.R_below (qr HO_8.out) hb); replace HO_100001 := q0 (Kd.R_below (qr HO_100001.out) hb); have HO122 := q0 (Kd.R_lower ho0 (below_size (qb HB.out))); replace BK113 := q0 (kb BK113.out hb); replace HB := q0 (below_step (qb HB.out) hb); (try clear hb); (try clear hb2); (try clear hk); (try clear hi); (try clear ho0); have hcz49_0 : w48.cell? ⟨gb113, 0, none⟩ = some (.int .i64 t103) := (blk_cell BK113.out 0).trans rfl; have hcz49_1 : w48.cell? ⟨gb113, 1, none⟩ = some (.slice Ao10 t106.length co10) := (blk_cell BK113.out 1).trans rfl; have hfz49_0 := blk_frozen BK113.out 0; have hfz49_1 := blk_frozen BK113.out 1; obtain ⟨Ao50, co50, eo50⟩ := Kd.R_slice HO_8.out; subst eo50) | ((with_reducible refine gate_callee (f := 31) rfl ?_); refine gl 75 Try.func31 #[.agg #[.int .i64 t103, .slice Ao10 t106.length co10], .slice Ao50 t104.length co50] ?_; (with_reducible refine (impl_WayOk.calls kj5 t103 _ _ t106 _ _ t104 false _ ?side1 ?side2 ?side3 ?side4 A21.out).mono ?_); (case side1 => exact qc (Kd.R_reads' HO_100001.out).2.2); (case side2 => exact (Kd.R_reads' HO_100001.out).2.1); (case side3 => exact qc (Kd.R_reads' HO_8.out).2.2); (case side4 => exact (Kd.R_reads' HO_8.out).2.1); rintro e w51 ⟨rfl, hb⟩; refine ⟨_, rfl, ?_⟩; replace HO_8 := q0 (Kd.R_below (qr HO_8.out) hb); replace HO_100001 := q0 (Kd.R_below (qr HO_100001.out) hb); replace HO122 := q0 (Kd.R_below (qr HO122.out) hb); replace BK113 := q0 (kb BK113.out hb); replace HB := q0 (below_step (qb HB.out) hb); (try clear hb); (try clear hb2); (try clear hk); (try clear hi)))
   go_ret
   exact ⟨qe, qb HB.out⟩
 subst c22
 rw [if_pos rfl] at H
 by_cases c23 : 0 < (t104.length : Int)
 rotate_left
 · rw [if_neg c23] at H
   exact absurd H (by simp)
 rw [if_pos c23] at H
 have c23b0 : decide (0 < (t104.length : Int)) = true := decide_eq_true c23
 have c23b1 : decide (0 < t104.length) = true := decide_eq_true (by omega)
 clear c23
 by_cases c24 : (rd t104 0) = t107
 rotate_left
 · rw [if_neg c24] at H
   have c24b0 : ((rd t104 0) == t107) = false := beq_eq_false_iff_ne.mpr c24
   have c24b1 : ((rd t104 0) != t107) = true := bne_iff_ne.mpr c24
   obtain rfl := Option.some.inj H
   have hcz42_0 : wc.cell? ⟨gb113, 0, none⟩ = some (.int .i64 t103) := (blk_cell BK113.out 0).trans rfl
   have hcz42_1 : wc.cell? ⟨gb113, 1, none⟩ = some (.slice Ao10 t106.length co10) := (blk_cell BK113.out 1).trans rfl
   have hfz42_0 := blk_frozen BK113.out 0
   have hfz42_1 := blk_frozen BK113.out 1
   go_wp2_with (first | ((with_reducible refine gate_callee (f := 38) rfl ?_); refine gl 45 Try.func38 #[.agg #[.int .i64 t103, .slice Ao10 t106.length co10], .int .i64 t107] ?_; (with_reducible refine (impl_WayReach.calls kj5 t103 _ _ t106 t107 t101 _ ?side1 ?side2 A19.out).mono ?_); (case side1 => exact qc (Kd.R_reads' HO_100001.out).2.2); (case side2 => exact (Kd.R_reads' HO_100001.out).2.1); rintro e w43 ⟨v121, rfl, ho0, hb⟩; refine ⟨_, rfl, ?_⟩; replace HO_8 := q0 (Kd.R_below (qr HO_8.out) hb); replace HO_100001 := q0 (Kd.R_below (qr HO_100001.out) hb); have HO122 := q0 (Kd.R_lower ho0 (below_size (qb HB.out))); replace BK113 := q0 (kb BK113.out hb); replace HB := q0 (below_step (qb HB.out) hb); (try clear hb); (try clear hb2); (try clear hk); (try clear hi); (try clear ho0); have hcz44_0 : w43.cell? ⟨gb113, 0, none⟩ = some (.int .i64 t103) := (blk_cell BK113.out 0).trans rfl; have hcz44_1 : w43.cell? ⟨gb113, 1, none⟩ = some (.slice Ao10 t106.length co10) := (blk_cell BK113.out 1).trans rfl; have hfz44_0 := blk_frozen BK113.out 0; have hfz44_1 := blk_frozen BK113.out 1; obtain ⟨Ao45, co45, eo45⟩ := Kd.R_slice HO_8.out; subst eo45) | ((with_reducible refine gate_callee (f := 31) rfl ?_); refine gl 75 Try.func31 #[.agg #[.int .i64 t103, .slice Ao10 t106.length co10], .slice Ao45 t104.length co45] ?_; (with_reducible refine (impl_WayOk.calls kj5 t103 _ _ t106 _ _ t104 true _ ?side1 ?side2 ?side3 ?side4 A21.out).mono ?_); (case side1 => exact qc (Kd.R_reads' HO_100001.out).2.2); (case side2 => exact (Kd.R_reads' HO_100001.out).2.1); (case side3 => exact qc (Kd.R_reads' HO_8.out).2.2); (case side4 => exact (Kd.R_reads' HO_8.out).2.1); rintro e w46 ⟨rfl, hb⟩; refine ⟨_, rfl, ?_⟩; replace HO_8 := q0 (Kd.R_below (qr HO_8.out) hb); replace HO_100001 := q0 (Kd.R_below (qr HO_100001.out) hb); replace HO122 := q0 (Kd.R_below (qr HO122.out) hb); replace BK113 := q0 (kb BK113.out hb); replace HB := q0 (below_step (qb HB.out) hb); (try clear hb); (try clear hb2); (try clear hk); (try clear hi); have p123 : 0 ≤ (0 : Int) := (by omega); have q123 : 0 < (t104.length : Int) := of_decide_eq_true qa; obtain ⟨ad123, e123, hx123_0⟩ := Kd.at_int (Kd.R_reads' HO_8.out).2.2 0 p123 q123; cases e123; have qi123 : (0 < t104.length) = True := eq_true (by omega); (try rw [show ((0 : Int)).toNat = 0 from rfl] at hx123_0); (try rw [Addr.add_zero'] at hx123_0); replace p123 := eq_true p123; replace q123 := eq_true q123))
   go_ret
   exact ⟨qe, qb HB.out⟩
 rw [if_pos c24] at H
 have c24b0 : ((rd t104 0) == t107) = true := beq_iff_eq.mpr c24
 have c24b1 : ((rd t104 0) != t107) = false := bne_eq_false_iff_eq.mpr c24
 clear c24
 obtain ⟨ji25, hji25⟩ : ∃ j_ : Int, (wrap64 ((t104.length : Int) - 1)) = j_ := ⟨_, rfl⟩
 replace H : (if 0 ≤ (ji25) then (if (ji25) < (t104.length : Int) then (if (rd t104 (ji25)) = t108 then (if 0 ≤ t108 then (if t108 < (t101.length : Int) then (some (rdOf false t101 t108)) else (none)) else (none)) else (some false)) else (none)) else (none)) = some r := by first | (rw [hji25] at H; exact H) | (simp only [hji25] at H ⊢; exact H)
 (try rw [hji25] at A19)
 (try rw [hji25] at A21)
 have hji25w : (IntKind.i64.wrap ((t104.length : Int) - 1)) = ji25 := (i64_w _).trans hji25
 by_cases c26 : 0 ≤ (ji25)
 rotate_left
 · rw [if_neg c26] at H
   exact absurd H (by simp)
 rw [if_pos c26] at H
 have c26b0 : decide (0 ≤ (ji25)) = true := decide_eq_true c26
 clear c26
 by_cases c27 : (ji25) < (t104.length : Int)
 rotate_left
 · rw [if_neg c27] at H
   exact absurd H (by simp)
 rw [if_pos c27] at H
 have c27b0 : decide ((ji25) < (t104.length : Int)) = true := decide_eq_true c27
 clear c27
 by_cases c28 : (rd t104 (ji25)) = t108
 rotate_left
 · rw [if_neg c28] at H
   have c28b0 : ((rd t104 (ji25)) == t108) = false := beq_eq_false_iff_ne.mpr c28
   have c28b1 : ((rd t104 (ji25)) != t108) = true := bne_iff_ne.mpr c28
   obtain rfl := Option.some.inj H
   have hcz37_0 : wc.cell? ⟨gb113, 0, none⟩ = some (.int .i64 t103) := (blk_cell BK113.out 0).trans rfl
   have hcz37_1 : wc.cell? ⟨gb113, 1, none⟩ = some (.slice Ao10 t106.length co10) := (blk_cell BK113.out 1).trans rfl
   have hfz37_0 := blk_frozen BK113.out 0
   have hfz37_1 := blk_frozen BK113.out 1
   go_wp2_with (first | ((with_reducible refine gate_callee (f := 38) rfl ?_); refine gl 45 Try.func38 #[.agg #[.int .i64 t103, .slice Ao10 t106.length co10], .int .i64 t107] ?_; (with_reducible refine (impl_WayReach.calls kj5 t103 _ _ t106 t107 t101 _ ?side1 ?side2 A19.out).mono ?_); (case side1 => exact qc (Kd.R_reads' HO_100001.out).2.2); (case side2 => exact (Kd.R_reads' HO_100001.out).2.1); rintro e w38 ⟨v121, rfl, ho0, hb⟩; refine ⟨_, rfl, ?_⟩; replace HO_8 := q0 (Kd.R_below (qr HO_8.out) hb); replace HO_100001 := q0 (Kd.R_below (qr HO_100001.out) hb); have HO122 := q0 (Kd.R_lower ho0 (below_size (qb HB.out))); replace BK113 := q0 (kb BK113.out hb); replace HB := q0 (below_step (qb HB.out) hb); (try clear hb); (try clear hb2); (try clear hk); (try clear hi); (try clear ho0); have hcz39_0 : w38.cell? ⟨gb113, 0, none⟩ = some (.int .i64 t103) := (blk_cell BK113.out 0).trans rfl; have hcz39_1 : w38.cell? ⟨gb113, 1, none⟩ = some (.slice Ao10 t106.length co10) := (blk_cell BK113.out 1).trans rfl; have hfz39_0 := blk_frozen BK113.out 0; have hfz39_1 := blk_frozen BK113.out 1; obtain ⟨Ao40, co40, eo40⟩ := Kd.R_slice HO_8.out; subst eo40) | ((with_reducible refine gate_callee (f := 31) rfl ?_); refine gl 75 Try.func31 #[.agg #[.int .i64 t103, .slice Ao10 t106.length co10], .slice Ao40 t104.length co40] ?_; (with_reducible refine (impl_WayOk.calls kj5 t103 _ _ t106 _ _ t104 true _ ?side1 ?side2 ?side3 ?side4 A21.out).mono ?_); (case side1 => exact qc (Kd.R_reads' HO_100001.out).2.2); (case side2 => exact (Kd.R_reads' HO_100001.out).2.1); (case side3 => exact qc (Kd.R_reads' HO_8.out).2.2); (case side4 => exact (Kd.R_reads' HO_8.out).2.1); rintro e w41 ⟨rfl, hb⟩; refine ⟨_, rfl, ?_⟩; replace HO_8 := q0 (Kd.R_below (qr HO_8.out) hb); replace HO_100001 := q0 (Kd.R_below (qr HO_100001.out) hb); replace HO122 := q0 (Kd.R_below (qr HO122.out) hb); replace BK113 := q0 (kb BK113.out hb); replace HB := q0 (below_step (qb HB.out) hb); (try clear hb); (try clear hb2); (try clear hk); (try clear hi); have p123 : 0 ≤ (0 : Int) := (by omega); have q123 : 0 < (t104.length : Int) := of_decide_eq_true qa; obtain ⟨ad123, e123, hx123_0⟩ := Kd.at_int (Kd.R_reads' HO_8.out).2.2 0 p123 q123; cases e123; have qi123 : (0 < t104.length) = True := eq_true (by omega); (try rw [show ((0 : Int)).toNat = 0 from rfl] at hx123_0); (try rw [Addr.add_zero'] at hx123_0); replace p123 := eq_true p123; replace q123 := eq_true q123; have p124 : 0 ≤ ((ji25) : Int) := of_decide_eq_true qa; have q124 : (ji25) < (t104.length : Int) := of_decide_eq_true qa; obtain ⟨ad124, e124, hx124_0⟩ := Kd.at_int (Kd.R_reads' HO_8.out).2.2 (ji25) p124 q124; obtain rfl : ad123 = ad124 := (by injection e124); replace p124 := eq_true p124; replace q124 := eq_true q124))
   go_ret
   exact ⟨by first | rfl | (simp [errW_none, errW_some] <;> rfl) | (simp only [← hji25]; first | rfl | (simp [errW_none, errW_some] <;> rfl)) | (simp [*, errW_none, errW_some] <;> rfl), qb HB.out⟩
 rw [if_pos c28] at H
 have c28b0 : ((rd t104 (ji25)) == t108) = true := beq_iff_eq.mpr c28
 have c28b1 : ((rd t104 (ji25)) != t108) = false := bne_eq_false_iff_eq.mpr c28
 clear c28
 by_cases c29 : 0 ≤ t108
 rotate_left
 · rw [if_neg c29] at H
   exact absurd H (by simp)
 rw [if_pos c29] at H
 have c29b0 : decide (0 ≤ t108) = true := decide_eq_true c29
 clear c29
 by_cases c30 : t108 < (t101.length : Int)
 rotate_left
 · rw [if_neg c30] at H
   exact absurd H (by simp)
 rw [if_pos c30] at H
 have c30b0 : decide (t108 < (t101.length : Int)) = true := decide_eq_true c30
 clear c30
 obtain rfl := Option.some.inj H
 have hcz31_0 : wc.cell? ⟨gb113, 0, none⟩ = some (.int .i64 t103) := (blk_cell BK113.out 0).trans rfl
 have hcz31_1 : wc.cell? ⟨gb113, 1, none⟩ = some (.slice Ao10 t106.length co10) := (blk_cell BK113.out 1).trans rfl
 have hfz31_0 := blk_frozen BK113.out 0
 have hfz31_1 := blk_frozen BK113.out 1
 go_wp2_with (first | ((with_reducible refine gate_callee (f := 38) rfl ?_); refine gl 45 Try.func38 #[.agg #[.int .i64 t103, .slice Ao10 t106.length co10], .int .i64 t107] ?_; (with_reducible refine (impl_WayReach.calls kj5 t103 _ _ t106 t107 t101 _ ?side1 ?side2 A19.out).mono ?_); (case side1 => exact qc (Kd.R_reads' HO_100001.out).2.2); (case side2 => exact (Kd.R_reads' HO_100001.out).2.1); rintro e w32 ⟨v121, rfl, ho0, hb⟩; refine ⟨_, rfl, ?_⟩; replace HO_8 := q0 (Kd.R_below (qr HO_8.out) hb); replace HO_100001 := q0 (Kd.R_below (qr HO_100001.out) hb); have HO122 := q0 (Kd.R_lower ho0 (below_size (qb HB.out))); replace BK113 := q0 (kb BK113.out hb); replace HB := q0 (below_step (qb HB.out) hb); (try clear hb); (try clear hb2); (try clear hk); (try clear hi); (try clear ho0); have hcz33_0 : w32.cell? ⟨gb113, 0, none⟩ = some (.int .i64 t103) := (blk_cell BK113.out 0).trans rfl; have hcz33_1 : w32.cell? ⟨gb113, 1, none⟩ = some (.slice Ao10 t106.length co10) := (blk_cell BK113.out 1).trans rfl; have hfz33_0 := blk_frozen BK113.out 0; have hfz33_1 := blk_frozen BK113.out 1; obtain ⟨Ao34, co34, eo34⟩ := Kd.R_slice HO_8.out; subst eo34) | ((with_reducible refine gate_callee (f := 31) rfl ?_); refine gl 75 Try.func31 #[.agg #[.int .i64 t103, .slice Ao10 t106.length co10], .slice Ao34 t104.length co34] ?_; (with_reducible refine (impl_WayOk.calls kj5 t103 _ _ t106 _ _ t104 true _ ?side1 ?side2 ?side3 ?side4 A21.out).mono ?_); (case side1 => exact qc (Kd.R_reads' HO_100001.out).2.2); (case side2 => exact (Kd.R_reads' HO_100001.out).2.1); (case side3 => exact qc (Kd.R_reads' HO_8.out).2.2); (case side4 => exact (Kd.R_reads' HO_8.out).2.1); rintro e w35 ⟨rfl, hb⟩; refine ⟨_, rfl, ?_⟩; replace HO_8 := q0 (Kd.R_below (qr HO_8.out) hb); replace HO_100001 := q0 (Kd.R_below (qr HO_100001.out) hb); replace HO122 := q0 (Kd.R_below (qr HO122.out) hb); replace BK113 := q0 (kb BK113.out hb); replace HB := q0 (below_step (qb HB.out) hb); (try clear hb); (try clear hb2); (try clear hk); (try clear hi); have p123 : 0 ≤ (0 : Int) := (by omega); have q123 : 0 < (t104.length : Int) := of_decide_eq_true qa; obtain ⟨ad123, e123, hx123_0⟩ := Kd.at_int (Kd.R_reads' HO_8.out).2.2 0 p123 q123; cases e123; have qi123 : (0 < t104.length) = True := eq_true (by omega); (try rw [show ((0 : Int)).toNat = 0 from rfl] at hx123_0); (try rw [Addr.add_zero'] at hx123_0); replace p123 := eq_true p123; replace q123 := eq_true q123; have p124 : 0 ≤ ((ji25) : Int) := of_decide_eq_true qa; have q124 : (ji25) < (t104.length : Int) := of_decide_eq_true qa; obtain ⟨ad124, e124, hx124_0⟩ := Kd.at_int (Kd.R_reads' HO_8.out).2.2 (ji25) p124 q124; obtain rfl : ad123 = ad124 := (by injection e124); replace p124 := eq_true p124; replace q124 := eq_true q124; obtain ⟨Ao36, co36, eo36⟩ := Kd.R_slice HO122.out; subst eo36; have p125 : 0 ≤ (t108 : Int) := of_decide_eq_true qa; have q125 : t108 < (t101.length : Int) := of_decide_eq_true qa; obtain ⟨ad125, e125, hx125_0⟩ := Kd.at_bool (Kd.R_reads' HO122.out).2.2 t108 p125 q125; cases e125; replace p125 := eq_true p125; replace q125 := eq_true q125))
 go_ret
 exact ⟨by first | rfl | (simp [errW_none, errW_some] <;> rfl) | (simp only [← hji25]; first | rfl | (simp [errW_none, errW_some] <;> rfl)) | (simp [*, errW_none, errW_some] <;> rfl), qb HB.out⟩

theorem laws_FnWayFind.walk (P : laws_FnWayFind.Pure) (a0 : Option Addr) (len0 cap0 : Nat) (z0 : List Int) (w : World) (w0 : (a0 = none ∧ len0 = 0 ∧ cap0 = 0 ∧ z0 = []) ∨ ∃ x, a0 = some x ∧ len0 ≤ cap0 ∧ cap0 ≤ maxLen ∧ z0.length = cap0 ∧ (∀ i, i < z0.length → w.cell? (x.add i) = some (.int .u8 (z0.getD i 0))) ∧ ∀ n ∈ z0, (Lit.int .u8 n).wf = true) (y0 : len0 * 1 ≤ 140737488351232) :
    Calls Try.prog 12 #[.slice a0 len0 cap0] w fun e w' => e = .returned (.bool true) ∧ Below w.heap.size w w' := by
  obtain ⟨l0, rfl, hr0, hm0, hw0, hc0⟩ := ReadsInt.ofRowC w0
  obtain ⟨k, h⟩ := P l0 hm0 y0 hw0
  refine (laws_FnWayFind.calls k _ _ l0 true w (Kd.C_of_reads (d := (0 : Int)) (h1 := fun _ => rfl) hr0) hc0 h).mono ?_
  rintro e w' ⟨rfl, hd⟩
  exact ⟨rfl, hd⟩
end Go.Proofs.Ytmfmeenfhdohcaa.P
