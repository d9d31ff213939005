import Derived.Test.YtgoembpmhlmafaaP0
import Derived.Test.YtgoembpmhlmafaaP7
namespace Go.Proofs.Ytgoembpmhlmafaa.P
open Go.RowKit Go.Proofs.YtgoembpmhlmafaaW.PrintWords Go.Proofs.YtgoembpmhlmafaaW.PrintLast Go.Proofs.YtgoembpmhlmafaaW.PrintMore
attribute [local go_sem] max2_int min2_int max_two min_two max_three min_three max_four min_four
set_option linter.unusedVariables false
set_option linter.unusedSimpArgs false
attribute [local go_sem high] eqATie
set_option maxHeartbeats 8000000 in
set_option maxRecDepth 100000 in
theorem impl_Net_count.calls (k : Nat) (a0_0 : Int) (A0_1 : Option Addr) (c0_1 : Nat) (l0_1 : List (STie)) (r : Int) (w : World) (hr0_1 : Kd.C kTie w A0_1 l0_1.length l0_1) (hc0_1 : l0_1.length ≤ c0_1) (h : impl_Net_count.f k a0_0 l0_1 = some r) :
    Calls Try.prog 61 #[.agg #[.int .i64 a0_0, .slice A0_1 l0_1.length c0_1]] w fun e w' => e = .returned (.int .i64 r) ∧ Below w.heap.size w w' := by
 have hu25 := Try.underlying25
 have HR0_1 := Aside0.mk hr0_1
 have HC0_1 := Aside0.mk hc0_1
 clear hr0_1 hc0_1
 have HB := q0 (Below.refl w.heap.size w)
 have H : ((impl_Net_parts.f k a0_0 l0_1).bind fun t100 => (impl_Net_count.l0 k 0 t100 (t100.length : Int) 0)) = some r := h
 clear h
 replace H := Option.bind_eq_some_iff.mp H
 obtain ⟨t100, A20, H⟩ := H
 have A2 := Aside0.mk A20
 clear A20
 have H' := Aside0.mk H
 clear H
 go_enter Try.func61, Try.ntmps61
 go_wp2_with (first | ((with_reducible refine gate_dst (N := 1) rfl ?_); refine be 1 #[.int .i64 a0_0, .slice A0_1 l0_1.length c0_1] 25 ?_; intro gb101 hg w3 hbox hb; have BK101 := q0 (hbox); have GW101 := q0 ((bs HB.out hg : w.heap.size ≤ gb101)); have GE101 := q0 ((bs HB.out hg : w.heap.size ≤ gb101)); replace HB := q0 (below_step (qb HB.out) hb); clear hb hbox hg; have hcz4_0 : w3.cell? ⟨gb101, 0, none⟩ = some (.int .i64 a0_0) := (blk_cell BK101.out 0).trans rfl; have hcz4_1 : w3.cell? ⟨gb101, 1, none⟩ = some (.slice A0_1 l0_1.length c0_1) := (blk_cell BK101.out 1).trans rfl; have hfz4_0 := blk_frozen BK101.out 0; have hfz4_1 := blk_frozen BK101.out 1) | ((with_reducible refine gate_callee (f := 58) rfl ?_); refine gl 7 Try.func58 #[.agg #[.int .i64 a0_0, .slice A0_1 l0_1.length c0_1]] ?_; (with_reducible refine (impl_Net_parts.calls k a0_0 _ _ l0_1 t100 _ ?side1 ?side2 A2.out).mono ?_); (case side1 => exact qc (Kd.C_below HR0_1.out HB.out)); (case side2 => exact HC0_1.out); rintro e w5 ⟨v102, rfl, ho0, hb⟩; refine ⟨_, rfl, ?_⟩; have HO103 := q0 (Kd.R_lower ho0 (below_size (qb HB.out))); replace BK101 := q0 (kb BK101.out hb); replace HB := q0 (below_step (qb HB.out) hb); (try clear hb); (try clear hb2); (try clear hk); (try clear hi); (try clear ho0); obtain ⟨Ao6, co6, eo6⟩ := Kd.R_slice HO103.out; subst eo6))
 go_loopg [3, 9] k (fun kq v3 v9 w' => ∃ (x3_1 : Int) (x9_1 : Int), v3 = .int .i64 x3_1 ∧ v9 = .int .i64 x9_1 ∧ Aside0 (impl_Net_count.l0 kq x3_1 t100 (t100.length : Int) x9_1 = some r) ∧ Aside0 (kq ≤ k) ∧ Aside0 (Kd.R (Kd.int .i64) 3 w' w.heap.size (fun _ => True) (.slice Ao6 t100.length co6) t100) ∧ Aside0 (w'.heap[gb101]? = some (.cells #[.int .i64 a0_0, (.slice A0_1 l0_1.length c0_1)] 25 (0, 0))) ∧ Aside0 (Below w.heap.size w w'))
 case atStart => exact ⟨(0), (0), qs, qs, H', ⟨Nat.le_refl _⟩, ⟨qr HO103.out⟩, ⟨qk BK101.out⟩, ⟨qb HB.out⟩⟩
 clear H'
 try clear p2
 try clear c5
 try clear c6
 try clear hcz4_0
 try clear hcz4_1
 try clear hfz4_0
 try clear hfz4_1
 obtain ⟨x3_1, x9_1, rfl, rfl, HA, HK1, HO_7, BK101, HB⟩ := hrel
 rcases gk with _ | k1
 · exact absurd HA.out (by simp [impl_Net_count.l0])
 have H := HA.out
 clear HA
 simp only [impl_Net_count.l0] at H
 by_cases c7 : x9_1 < (t100.length : Int)
 rotate_left
 · rw [if_neg c7] at H
   have c7b0 : decide (x9_1 < (t100.length : Int)) = false := decide_eq_false c7
   clear c7
   obtain rfl := Option.some.inj H
   go_wp2
   go_ret
   exact ⟨qe, qb HB.out⟩
 rw [if_pos c7] at H
 have c7b0 : decide (x9_1 < (t100.length : Int)) = true := decide_eq_true c7
 clear c7
 by_cases c8 : 0 ≤ x9_1
 rotate_left
 · rw [if_neg c8] at H
   exact absurd H (by simp)
 rw [if_pos c8] at H
 have c8b0 : decide (0 ≤ x9_1) = true := decide_eq_true c8
 clear c8
 by_cases c9 : x9_1 < (t100.length : Int)
 rotate_left
 · rw [if_neg c9] at H
   exact absurd H (by simp)
 rw [if_pos c9] at H
 have c9b0 : decide (x9_1 < (t100.length : Int)) = true := decide_eq_true c9
 clear c9
 by_cases c10 : x9_1 = (rd t100 x9_1)
 rotate_left
 · rw [if_neg c10] at H
   have c10b0 : (x9_1 == (rd t100 x9_1)) = false := beq_eq_false_iff_ne.mpr c10
   have c10b1 : (x9_1 != (rd t100 x9_1)) = true := bne_iff_ne.mpr c10
   have H' := Aside0.mk H
   clear H
   have p104 : 0 ≤ (x9_1 : Int) := of_decide_eq_true qa
   have q104 : x9_1 < (t100.length : Int) := of_decide_eq_true qa
   obtain ⟨ad104, e104, hx104_0⟩ := Kd.at_int (Kd.R_reads' HO_7.out).2.2 x9_1 p104 q104
   cases e104
   replace p104 := eq_true p104
   replace q104 := eq_true q104
   go_wp2
   go_roundg k1
   case measure => have := HK1.out; omega
   case rel => exact ⟨(x3_1), (wrap64 (x9_1 + 1)), qs, qs, H', ⟨by have := HK1.out; omega⟩, ⟨qr HO_7.out⟩, ⟨qk BK101.out⟩, ⟨qb HB.out⟩⟩
 rw [if_pos c10] at H
 have c10b0 : (x9_1 == (rd t100 x9_1)) = true := beq_iff_eq.mpr c10
 have c10b1 : (x9_1 != (rd t100 x9_1)) = false := bne_eq_false_iff_eq.mpr c10
 clear c10
 have H' := Aside0.mk H
 clear H
 have p104 : 0 ≤ (x9_1 : Int) := of_decide_eq_true qa
 have q104 : x9_1 < (t100.length : Int) := of_decide_eq_true qa
 obtain ⟨ad104, e104, hx104_0⟩ := Kd.at_int (Kd.R_reads' HO_7.out).2.2 x9_1 p104 q104
 cases e104
 replace p104 := eq_true p104
 replace q104 := eq_true q104
 go_wp2
 go_roundg k1
 case measure => have := HK1.out; omega
 case rel => exact ⟨(wrap64 (x3_1 + 1)), (wrap64 (x9_1 + 1)), qs, qs, H', ⟨by have := HK1.out; omega⟩, ⟨qr HO_7.out⟩, ⟨qk BK101.out⟩, ⟨qb HB.out⟩⟩

end Go.Proofs.Ytgoembpmhlmafaa.P
