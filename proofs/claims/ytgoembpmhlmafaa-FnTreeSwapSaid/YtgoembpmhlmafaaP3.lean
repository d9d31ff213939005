import Derived.Test.YtgoembpmhlmafaaP0
import Derived.Test.YtgoembpmhlmafaaP1
namespace Go.Proofs.Ytgoembpmhlmafaa.P
open Go.RowKit Go.Proofs.YtgoembpmhlmafaaW.PrintWords Go.Proofs.YtgoembpmhlmafaaW.PrintLast Go.Proofs.YtgoembpmhlmafaaW.PrintMore
attribute [local go_sem] max2_int min2_int max_two min_two max_three min_three max_four min_four
set_option linter.unusedVariables false
set_option linter.unusedSimpArgs false
attribute [local go_sem high] eqATie
set_option maxHeartbeats 8000000 in
set_option maxRecDepth 100000 in
theorem impl_Net_parts.calls (k : Nat) (a0_0 : Int) (A0_1 : Option Addr) (c0_1 : Nat) (l0_1 : List (STie)) (r : List Int) (w : World) (hr0_1 : Kd.C kTie w A0_1 l0_1.length l0_1) (hc0_1 : l0_1.length ≤ c0_1) (h : impl_Net_parts.f k a0_0 l0_1 = some r) :
    Calls Try.prog 58 #[.agg #[.int .i64 a0_0, .slice A0_1 l0_1.length c0_1]] w fun e w' => ∃ v0_ : Value, e = .returned (v0_) ∧ Kd.R (Kd.int .i64) 3 w' w.heap.size (fun _ => True) v0_ r ∧ Below w.heap.size w w' := by
 have hu25 := Try.underlying25
 have hu32 := Try.underlying32
 have HR0_1 := q0 hr0_1
 have HC0_1 := q0 hc0_1
 clear hr0_1 hc0_1
 have HB := q0 (Below.refl w.heap.size w)
 have H : (impl_Net_parts.l0 k (([] : List Int)) a0_0 0 a0_0 l0_1) = some r := h
 clear h
 obtain ⟨y100, hy100⟩ : ∃ y_ : List Int, y_ = (([] : List Int)) := ⟨_, rfl⟩
 replace H : (impl_Net_parts.l0 k y100 a0_0 0 a0_0 l0_1) = some r := qy H hy100
 have Ny100 := q0 hy100
 clear hy100
 have H' := q0 H
 clear H
 go_enter Try.func58, Try.ntmps58
 go_wp2_with (first | ((with_reducible refine gd 1 ?_); refine be 1 #[.int .i64 a0_0, .slice A0_1 l0_1.length c0_1] 25 ?_; intro gb101 hg w2 hbox hb; have BK101 := q0 (hbox); have GW101 := gw HB hg; have GE101 := gw HB hg; replace HB := bp HB hb; clear hb hbox hg) | ((with_reducible refine gd 9 ?_); refine Kd.R_lit (Kd.int .i64) _ 3 ?hg (N := 9) ?hd (xs := ([] : List Int)) (inner := []) (ok := fun _ => True) (okp := fun _ => True) ?hr ?hp (fun _ hk => hk) trivial (Below.refl _ _) (Nat.le_refl _) (by simp) ?_; (case hd => rfl); (case hg => rfl); (case hr => first | (go_simp; done) | (go_simp; rfl)); (case hp => exact (Reps.none _ _)); intro v102 w3 ho4 hb hg_ hnew_; clear hg_ hnew_; (first | rw [← Ny100.out] at ho4 | (simp only [Int.reduceToNat] at ho4; rw [← Ny100.out] at ho4)); have HO103 := q0 (Kd.R_lower ho4 (below_size (qb HB.out))); replace BK101 := kd BK101 hb; replace HB := bp HB hb; clear hb ho4; obtain ⟨hcz5_0, hcz5_1, hfz5_0, hfz5_1⟩ := b2 BK101))
 repeat (go_quiet (first | ((with_reducible refine gd 1 ?_); refine be 1 #[.int .i64 a0_0, .slice A0_1 l0_1.length c0_1] 25 ?_; intro gb101 hg w2 hbox hb; have BK101 := q0 (hbox); have GW101 := gw HB hg; have GE101 := gw HB hg; replace HB := bp HB hb; clear hb hbox hg) | ((with_reducible refine gd 9 ?_); refine Kd.R_lit (Kd.int .i64) _ 3 ?hg (N := 9) ?hd (xs := ([] : List Int)) (inner := []) (ok := fun _ => True) (okp := fun _ => True) ?hr ?hp (fun _ hk => hk) trivial (Below.refl _ _) (Nat.le_refl _) (by simp) ?_; (case hd => rfl); (case hg => rfl); (case hr => first | (go_simp; done) | (go_simp; rfl)); (case hp => exact (Reps.none _ _)); intro v102 w3 ho4 hb hg_ hnew_; clear hg_ hnew_; (first | rw [← Ny100.out] at ho4 | (simp only [Int.reduceToNat] at ho4; rw [← Ny100.out] at ho4)); have HO103 := q0 (Kd.R_lower ho4 (below_size (qb HB.out))); replace BK101 := kd BK101 hb; replace HB := bp HB hb; clear hb ho4; obtain ⟨hcz5_0, hcz5_1, hfz5_0, hfz5_1⟩ := b2 BK101)); try go_wp2_with (first | ((with_reducible refine gd 1 ?_); refine be 1 #[.int .i64 a0_0, .slice A0_1 l0_1.length c0_1] 25 ?_; intro gb101 hg w2 hbox hb; have BK101 := q0 (hbox); have GW101 := gw HB hg; have GE101 := gw HB hg; replace HB := bp HB hb; clear hb hbox hg) | ((with_reducible refine gd 9 ?_); refine Kd.R_lit (Kd.int .i64) _ 3 ?hg (N := 9) ?hd (xs := ([] : List Int)) (inner := []) (ok := fun _ => True) (okp := fun _ => True) ?hr ?hp (fun _ hk => hk) trivial (Below.refl _ _) (Nat.le_refl _) (by simp) ?_; (case hd => rfl); (case hg => rfl); (case hr => first | (go_simp; done) | (go_simp; rfl)); (case hp => exact (Reps.none _ _)); intro v102 w3 ho4 hb hg_ hnew_; clear hg_ hnew_; (first | rw [← Ny100.out] at ho4 | (simp only [Int.reduceToNat] at ho4; rw [← Ny100.out] at ho4)); have HO103 := q0 (Kd.R_lower ho4 (below_size (qb HB.out))); replace BK101 := kd BK101 hb; replace HB := bp HB hb; clear hb ho4; obtain ⟨hcz5_0, hcz5_1, hfz5_0, hfz5_1⟩ := b2 BK101)))
 go_loopg [3, 12] k (fun kq v3 v12 w' => ∃ (x3_1 : List Int) (x12_1 : Int), v12 = .int .i64 x12_1 ∧ Aside0 (impl_Net_parts.l0 kq x3_1 a0_0 x12_1 a0_0 l0_1 = some r) ∧ Aside0 (kq ≤ k) ∧ Aside0 (Kd.R (Kd.int .i64) 3 w' w.heap.size (fun _ => True) v3 x3_1) ∧ Aside0 (w'.heap[gb101]? = some (.cells #[.int .i64 a0_0, (.slice A0_1 l0_1.length c0_1)] 25 (0, 0))) ∧ Aside0 (Below w.heap.size w w'))
 case atStart => exact ⟨(y100), (0), qs, H', ⟨Nat.le_refl _⟩, ⟨qr HO103.out⟩, ⟨qk BK101.out⟩, ⟨qb HB.out⟩⟩
 clear H'
 try clear p2
 try clear c5
 try clear hcz5_0
 try clear hcz5_1
 try clear hfz5_0
 try clear hfz5_1
 obtain ⟨x3_1, x12_1, rfl, HA, HK1, HO_3, BK101, HB⟩ := hrel
 rcases gk with _ | k1
 · exact absurd HA.out (by simp [impl_Net_parts.l0])
 have H := HA.out
 clear HA
 simp only [impl_Net_parts.l0] at H
 by_cases c6 : x12_1 < a0_0
 · rw [if_pos c6] at H
   have c6b0 := decide_eq_true c6
   clear c6
   obtain ⟨c7, H⟩ : (x3_1.length < 17592186044416) ∧ _ := og H
   have LMc7 := q0 c7
   clear c7
   obtain ⟨y104, hy104⟩ : ∃ y_ : List Int, y_ = (x3_1 ++ [x12_1]) := ⟨_, rfl⟩
   replace H : (impl_Net_parts.l0 k1 y104 a0_0 (wrap64 (x12_1 + 1)) a0_0 l0_1) = some r := qy H hy104
   have Ny104 := q0 hy104
   clear hy104
   have H' := q0 H
   clear H
   go_wp2_with (first | ((with_reducible refine gate_builtin (b := .append) (xs := #[.tmp 15, .tmp 17]) rfl ?_); at_builtin; refine Kd.R_append (Kd.int .i64) (w0 := w) w.heap.size rfl (.tmp 15) (.tmp 17) 60 3 (.int .i64 0) 8 rfl Try.underlying60 info3 rfl (by decide) (by omega) u3 x3_1 x12_1 [.int .i64 x12_1] (fun _ => True) (fun _ => False) rfl rfl ?aP (fun _ hk => hk.elim) ?aF ?aO ?aB ?aS ?aL ?_; (case aP => exact rfl); (case aB => exact (qb HB.out)); (case aF => exact (fun _ _ => trivial)); (case aO => exact (qr HO_3.out)); (case aS => exact (below_size (qb HB.out))); (case aL => have := LMc7.out; omega); intro v105 w8 ho hb hg hat; rw [← Ny104.out] at ho; replace BK101 := q0 (blk_grown (g := gb101) (o := .cells #[.int .i64 a0_0, .slice A0_1 l0_1.length c0_1] 25 (0, 0)) (qk BK101.out) hg (Kd.R_ne HO_3.out BK101.out (by decide))); replace HB := q0 (hb); have HO106 := q0 (ho); clear HO_3; clear ho hb hg hat))
   repeat (go_quiet (first | ((with_reducible refine gate_builtin (b := .append) (xs := #[.tmp 15, .tmp 17]) rfl ?_); at_builtin; refine Kd.R_append (Kd.int .i64) (w0 := w) w.heap.size rfl (.tmp 15) (.tmp 17) 60 3 (.int .i64 0) 8 rfl Try.underlying60 info3 rfl (by decide) (by omega) u3 x3_1 x12_1 [.int .i64 x12_1] (fun _ => True) (fun _ => False) rfl rfl ?aP (fun _ hk => hk.elim) ?aF ?aO ?aB ?aS ?aL ?_; (case aP => exact rfl); (case aB => exact (qb HB.out)); (case aF => exact (fun _ _ => trivial)); (case aO => exact (qr HO_3.out)); (case aS => exact (below_size (qb HB.out))); (case aL => have := LMc7.out; omega); intro v105 w8 ho hb hg hat; rw [← Ny104.out] at ho; replace BK101 := q0 (blk_grown (g := gb101) (o := .cells #[.int .i64 a0_0, .slice A0_1 l0_1.length c0_1] 25 (0, 0)) (qk BK101.out) hg (Kd.R_ne HO_3.out BK101.out (by decide))); replace HB := q0 (hb); have HO106 := q0 (ho); clear HO_3; clear ho hb hg hat)); try go_wp2_with (first | ((with_reducible refine gate_builtin (b := .append) (xs := #[.tmp 15, .tmp 17]) rfl ?_); at_builtin; refine Kd.R_append (Kd.int .i64) (w0 := w) w.heap.size rfl (.tmp 15) (.tmp 17) 60 3 (.int .i64 0) 8 rfl Try.underlying60 info3 rfl (by decide) (by omega) u3 x3_1 x12_1 [.int .i64 x12_1] (fun _ => True) (fun _ => False) rfl rfl ?aP (fun _ hk => hk.elim) ?aF ?aO ?aB ?aS ?aL ?_; (case aP => exact rfl); (case aB => exact (qb HB.out)); (case aF => exact (fun _ _ => trivial)); (case aO => exact (qr HO_3.out)); (case aS => exact (below_size (qb HB.out))); (case aL => have := LMc7.out; omega); intro v105 w8 ho hb hg hat; rw [← Ny104.out] at ho; replace BK101 := q0 (blk_grown (g := gb101) (o := .cells #[.int .i64 a0_0, .slice A0_1 l0_1.length c0_1] 25 (0, 0)) (qk BK101.out) hg (Kd.R_ne HO_3.out BK101.out (by decide))); replace HB := q0 (hb); have HO106 := q0 (ho); clear HO_3; clear ho hb hg hat)))
   go_roundg k1
   case measure => have := HK1.out; omega
   case rel => exact ⟨(y104), (wrap64 (x12_1 + 1)), qs, H', ⟨by have := HK1.out; omega⟩, ⟨qr HO106.out⟩, ⟨qk BK101.out⟩, ⟨qb HB.out⟩⟩
 rw [if_neg c6] at H
 have c6b0 := decide_eq_false c6
 clear c6
 have H' := q0 H
 clear H
 go_wp2
 repeat (go_quiet (fail); try go_wp2)
 go_loopg [5] k1 (fun kq v5 w' => ∃ (x3_2 : List Int) (x5_2 : Bool), v5 = .bool x5_2 ∧ Aside0 (impl_Net_parts.l1 kq x3_2 x5_2 a0_0 l0_1 = some r) ∧ Aside0 (kq ≤ k1) ∧ Aside0 (Kd.R (Kd.int .i64) 3 w' w.heap.size (fun _ => True) u3 x3_2) ∧ Aside0 (w'.heap[gb101]? = some (.cells #[.int .i64 a0_0, (.slice A0_1 l0_1.length c0_1)] 25 (0, 0))) ∧ Aside0 (Below w.heap.size w w'))
 case atStart => exact ⟨(x3_1), (true), qs, H', ⟨Nat.le_refl _⟩, ⟨qr HO_3.out⟩, ⟨qk BK101.out⟩, ⟨qb HB.out⟩⟩
 clear H'
 try clear p2
 try clear c5
 try clear c6
 try clear c6b0
 try clear p6
 try clear c7
 try clear hcz5_0
 try clear hcz5_1
 try clear hfz5_0
 try clear hfz5_1
 try clear p2
 obtain ⟨x3_2, x5_2, rfl, HA, HK2, HO_3, BK101, HB⟩ := hrel
 rcases gk with _ | k2
 · exact absurd HA.out (by simp [impl_Net_parts.l1])
 have H := HA.out
 clear HA
 simp only [impl_Net_parts.l1] at H
 by_cases c9 : x5_2 = true
 rotate_left
 · replace c9 := Bool.eq_false_iff.mpr c9
   subst c9
   rw [if_neg nf] at H
   obtain rfl := Option.some.inj H
   go_wp2
   repeat (go_quiet (fail); try go_wp2)
   go_ret
   exact ⟨_, qe, qr HO_3.out, qb HB.out⟩
 subst c9
 rw [if_pos rfl] at H
 have H' := q0 H
 clear H
 obtain ⟨hcz10_0, hcz10_1, hfz10_0, hfz10_1⟩ := b2 BK101
 go_wp2
 repeat (go_quiet (fail); try go_wp2)
 go_loopg [5, 24] k2 (fun kq v5 v24 w' => ∃ (x3_3 : List Int) (x5_3 : Bool) (x24_3 : Int), v5 = .bool x5_3 ∧ v24 = .int .i64 x24_3 ∧ Aside0 (impl_Net_parts.l2 kq x3_3 x5_3 l0_1 (l0_1.length : Int) x24_3 a0_0 l0_1 = some r) ∧ Aside0 (kq ≤ k2) ∧ Aside0 (Kd.R (Kd.int .i64) 3 w' w.heap.size (fun _ => True) u3 x3_3) ∧ Aside0 (w'.heap[gb101]? = some (.cells #[.int .i64 a0_0, (.slice A0_1 l0_1.length c0_1)] 25 (0, 0))) ∧ Aside0 (Below w.heap.size w w'))
 case atStart => exact ⟨(x3_2), (false), (0), qs, qs, H', ⟨Nat.le_refl _⟩, ⟨qr HO_3.out⟩, ⟨qk BK101.out⟩, ⟨qb HB.out⟩⟩
 clear H'
 try clear p2
 try clear c5
 try clear c6
 try clear c6b0
 try clear p6
 try clear c7
 try clear c9
 try clear hcz10_0
 try clear hcz10_1
 try clear hcz5_0
 try clear hcz5_1
 try clear hfz10_0
 try clear hfz10_1
 try clear hfz5_0
 try clear hfz5_1
 try clear p2
 try clear p6
 obtain ⟨x3_3, x5_3, x24_3, rfl, rfl, HA, HK3, HO_3, BK101, HB⟩ := hrel
 rcases gk with _ | k3
 · exact absurd HA.out (by simp [impl_Net_parts.l2])
 have H := HA.out
 clear HA
 simp only [impl_Net_parts.l2] at H
 by_cases c11 : x24_3 < (l0_1.length : Int)
 rotate_left
 · rw [if_neg c11] at H
   have c11b0 := decide_eq_false c11
   clear c11
   have H' := q0 H
   clear H
   go_wp2
   repeat (go_quiet (fail); try go_wp2)
   go_roundg k3
   case measure => have := HK1.out; have := HK2.out; have := HK3.out; omega
   case rel => exact ⟨(x3_3), (x5_3), qs, H', ⟨by have := HK1.out; have := HK2.out; have := HK3.out; omega⟩, ⟨qr HO_3.out⟩, ⟨qk BK101.out⟩, ⟨qb HB.out⟩⟩
 rw [if_pos c11] at H
 have c11b0 := decide_eq_true c11
 clear c11
 obtain ⟨c12, H⟩ : (0 ≤ x24_3) ∧ _ := og H
 have c12b0 := decide_eq_true c12
 clear c12
 obtain ⟨c13, H⟩ : (x24_3 < (l0_1.length : Int)) ∧ _ := og H
 have c13b0 := decide_eq_true c13
 clear c13
 obtain ⟨c14, H⟩ : (0 ≤ ((rd_TTie l0_1 x24_3).f0)) ∧ _ := og H
 have c14b0 := decide_eq_true c14
 clear c14
 obtain ⟨c15, H⟩ : (((rd_TTie l0_1 x24_3).f0) < (x3_3.length : Int)) ∧ _ := og H
 have c15b0 := decide_eq_true c15
 clear c15
 obtain ⟨c16, H⟩ : (0 ≤ ((rd_TTie l0_1 x24_3).f1)) ∧ _ := og H
 have c16b0 := decide_eq_true c16
 clear c16
 obtain ⟨c17, H⟩ : (((rd_TTie l0_1 x24_3).f1) < (x3_3.length : Int)) ∧ _ := og H
 have c17b0 := decide_eq_true c17
 clear c17
 obtain ⟨ji18, hji18⟩ : ∃ j_ : Int, (mn (rd x3_3 ((rd_TTie l0_1 x24_3).f0)) (rd x3_3 ((rd_TTie l0_1 x24_3).f1))) = j_ := ⟨_, rfl⟩
 replace H : (if (rd x3_3 ((rd_TTie l0_1 x24_3).f0)) = (rd x3_3 ((rd_TTie l0_1 x24_3).f1)) then (impl_Net_parts.l2 k3 x3_3 x5_3 l0_1 (l0_1.length : Int) (wrap64 (x24_3 + 1)) a0_0 l0_1) else (impl_Net_parts.l2 k3 ((x3_3.set (((rd_TTie l0_1 x24_3).f0) : Int).toNat (ji18)).set (((rd_TTie l0_1 x24_3).f1) : Int).toNat (ji18)) true l0_1 (l0_1.length : Int) (wrap64 (x24_3 + 1)) a0_0 l0_1)) = some r := by first | (rw [hji18] at H; exact H) | (simp only [hji18] at H ⊢; exact H)
 have hji18_ : (if (rd x3_3 ((rd_TTie l0_1 x24_3).f1)) < (rd x3_3 ((rd_TTie l0_1 x24_3).f0)) then (rd x3_3 ((rd_TTie l0_1 x24_3).f1)) else (rd x3_3 ((rd_TTie l0_1 x24_3).f0))) = ji18 := hji18
 by_cases c19 : (rd x3_3 ((rd_TTie l0_1 x24_3).f0)) = (rd x3_3 ((rd_TTie l0_1 x24_3).f1))
 · rw [if_pos c19] at H
   have c19b0 : ((rd x3_3 ((rd_TTie l0_1 x24_3).f0)) == (rd x3_3 ((rd_TTie l0_1 x24_3).f1))) = true := beq_iff_eq.mpr c19
   have c19b1 : ((rd x3_3 ((rd_TTie l0_1 x24_3).f0)) != (rd x3_3 ((rd_TTie l0_1 x24_3).f1))) = false := bne_eq_false_iff_eq.mpr c19
   clear c19
   have H' := q0 H
   clear H
   have p107 : 0 ≤ (x24_3 : Int) := of_decide_eq_true qa
   have q107 : x24_3 < (l0_1.length : Int) := of_decide_eq_true qa
   obtain ⟨ad107, e107, hx107_0, hx107_1⟩ := at_TTie HR0_1.out x24_3 p107 q107
   cases e107
   replace hx107_0 := hcl HB.out hx107_0
   replace hx107_1 := hcl HB.out hx107_1
   replace p107 := eq_true p107
   replace q107 := eq_true q107
   go_wp2_with (first | ((with_reducible refine gd 7 ?_); refine be 7 #[.int .i64 0, .int .i64 0] 32 ?_; intro gb108 hg w20 hbox hb; replace HO_3 := q0 (Kd.R_below (qr HO_3.out) hb); have BK108 := q0 (hbox); have GW108 := gw HB hg; have GE108 := gw HB hg; replace HB := bp HB hb; have NB101_108 := nl BK101 hg; have NB108_101 := ng BK101 hg; replace BK101 := kd BK101 hb; clear hb hbox hg; have hnb21 := NB108_101.out; have hnc21 := NB101_108.out; obtain ⟨hcz22_0, hcz22_1, hfz22_0, hfz22_1⟩ := b2 BK108; obtain ⟨Ao23, co23, eo23⟩ := Kd.R_slice HO_3.out; subst eo23; have p109 : 0 ≤ (((rd_TTie l0_1 x24_3).f0) : Int) := of_decide_eq_true qa; have q109 : ((rd_TTie l0_1 x24_3).f0) < (x3_3.length : Int) := of_decide_eq_true qa; obtain ⟨ad109, e109, hx109_0⟩ := Kd.at_int (Kd.R_reads' HO_3.out).2.2 ((rd_TTie l0_1 x24_3).f0) p109 q109; cases e109; have hn109_0 : ad109.block ≠ gb108 := Kd.own_blk (Kd.R_ne HO_3.out BK108.out (by decide)); have hn109_1 : ad109.block ≠ gb108 := Kd.own_blk (Kd.R_ne HO_3.out BK108.out (by decide)); replace hx109_0 := (cell_far (p := ⟨gb108, 0, none⟩) (by first | (rw [add_block]; exact hn109_0) | (show (Addr.add _ _).block ≠ _; rw [add_block]; exact hn109_0) | exact hn109_0) (.int .i64 ((rd_TTie l0_1 x24_3).f0))).trans hx109_0; replace hx109_0 := (cell_far (p := ⟨gb108, 1, none⟩) (by first | (rw [add_block]; exact hn109_1) | (show (Addr.add _ _).block ≠ _; rw [add_block]; exact hn109_1) | exact hn109_1) (.int .i64 ((rd_TTie l0_1 x24_3).f1))).trans hx109_0; (try have hy109_0 := fun (n_ : Nat) => (show ((((w20.drewN n_).setCell ⟨gb108, 0, none⟩ (.int .i64 ((rd_TTie l0_1 x24_3).f0))).setCell ⟨gb108, 1, none⟩ (.int .i64 ((rd_TTie l0_1 x24_3).f1)))).cell? _ = some _ from hx109_0)); clear hn109_0 hn109_1; replace p109 := eq_true p109; replace q109 := eq_true q109; have p110 : 0 ≤ (((rd_TTie l0_1 x24_3).f1) : Int) := of_decide_eq_true qa; have q110 : ((rd_TTie l0_1 x24_3).f1) < (x3_3.length : Int) := of_decide_eq_true qa; obtain ⟨ad110, e110, hx110_0⟩ := Kd.at_int (Kd.R_reads' HO_3.out).2.2 ((rd_TTie l0_1 x24_3).f1) p110 q110; obtain rfl : ad109 = ad110 := (by injection e110); have hn110_0 : ad109.block ≠ gb108 := Kd.own_blk (Kd.R_ne HO_3.out BK108.out (by decide)); have hn110_1 : ad109.block ≠ gb108 := Kd.own_blk (Kd.R_ne HO_3.out BK108.out (by decide)); replace hx110_0 := (cell_far (p := ⟨gb108, 0, none⟩) (by first | (rw [add_block]; exact hn110_0) | (show (Addr.add _ _).block ≠ _; rw [add_block]; exact hn110_0) | exact hn110_0) (.int .i64 ((rd_TTie l0_1 x24_3).f0))).trans hx110_0; replace hx110_0 := (cell_far (p := ⟨gb108, 1, none⟩) (by first | (rw [add_block]; exact hn110_1) | (show (Addr.add _ _).block ≠ _; rw [add_block]; exact hn110_1) | exact hn110_1) (.int .i64 ((rd_TTie l0_1 x24_3).f1))).trans hx110_0; (try have hy110_0 := fun (n_ : Nat) => (show ((((w20.drewN n_).setCell ⟨gb108, 0, none⟩ (.int .i64 ((rd_TTie l0_1 x24_3).f0))).setCell ⟨gb108, 1, none⟩ (.int .i64 ((rd_TTie l0_1 x24_3).f1)))).cell? _ = some _ from hx110_0)); clear hn110_0 hn110_1; replace p110 := eq_true p110; replace q110 := eq_true q110; have p111 : 0 ≤ (((rd_TTie l0_1 x24_3).f0) : Int) := of_decide_eq_true qa; have q111 : ((rd_TTie l0_1 x24_3).f0) < (x3_3.length : Int) := of_decide_eq_true qa; obtain ⟨ad111, e111, hx111_0⟩ := Kd.at_int (Kd.R_reads' HO_3.out).2.2 ((rd_TTie l0_1 x24_3).f0) p111 q111; obtain rfl : ad109 = ad111 := (by injection e111); have hn111_0 : ad109.block ≠ gb108 := Kd.own_blk (Kd.R_ne HO_3.out BK108.out (by decide)); have hn111_1 : ad109.block ≠ gb108 := Kd.own_blk (Kd.R_ne HO_3.out BK108.out (by decide)); replace hx111_0 := (cell_far (p := ⟨gb108, 0, none⟩) (by first | (rw [add_block]; exact hn111_0) | (show (Addr.add _ _).block ≠ _; rw [add_block]; exact hn111_0) | exact hn111_0) (.int .i64 ((rd_TTie l0_1 x24_3).f0))).trans hx111_0; replace hx111_0 := (cell_far (p := ⟨gb108, 1, none⟩) (by first | (rw [add_block]; exact hn111_1) | (show (Addr.add _ _).block ≠ _; rw [add_block]; exact hn111_1) | exact hn111_1) (.int .i64 ((rd_TTie l0_1 x24_3).f1))).trans hx111_0; (try have hy111_0 := fun (n_ : Nat) => (show ((((w20.drewN n_).setCell ⟨gb108, 0, none⟩ (.int .i64 ((rd_TTie l0_1 x24_3).f0))).setCell ⟨gb108, 1, none⟩ (.int .i64 ((rd_TTie l0_1 x24_3).f1)))).cell? _ = some _ from hx111_0)); clear hn111_0 hn111_1; replace p111 := eq_true p111; replace q111 := eq_true q111; have p112 : 0 ≤ (((rd_TTie l0_1 x24_3).f1) : Int) := of_decide_eq_true qa; have q112 : ((rd_TTie l0_1 x24_3).f1) < (x3_3.length : Int) := of_decide_eq_true qa; obtain ⟨ad112, e112, hx112_0⟩ := Kd.at_int (Kd.R_reads' HO_3.out).2.2 ((rd_TTie l0_1 x24_3).f1) p112 q112; obtain rfl : ad109 = ad112 := (by injection e112); have hn112_0 : ad109.block ≠ gb108 := Kd.own_blk (Kd.R_ne HO_3.out BK108.out (by decide)); have hn112_1 : ad109.block ≠ gb108 := Kd.own_blk (Kd.R_ne HO_3.out BK108.out (by decide)); replace hx112_0 := (cell_far (p := ⟨gb108, 0, none⟩) (by first | (rw [add_block]; exact hn112_0) | (show (Addr.add _ _).block ≠ _; rw [add_block]; exact hn112_0) | exact hn112_0) (.int .i64 ((rd_TTie l0_1 x24_3).f0))).trans hx112_0; replace hx112_0 := (cell_far (p := ⟨gb108, 1, none⟩) (by first | (rw [add_block]; exact hn112_1) | (show (Addr.add _ _).block ≠ _; rw [add_block]; exact hn112_1) | exact hn112_1) (.int .i64 ((rd_TTie l0_1 x24_3).f1))).trans hx112_0; (try have hy112_0 := fun (n_ : Nat) => (show ((((w20.drewN n_).setCell ⟨gb108, 0, none⟩ (.int .i64 ((rd_TTie l0_1 x24_3).f0))).setCell ⟨gb108, 1, none⟩ (.int .i64 ((rd_TTie l0_1 x24_3).f1)))).cell? _ = some _ from hx112_0)); clear hn112_0 hn112_1; replace p112 := eq_true p112; replace q112 := eq_true q112))
   repeat (go_quiet (first | ((with_reducible refine gd 7 ?_); refine be 7 #[.int .i64 0, .int .i64 0] 32 ?_; intro gb108 hg w20 hbox hb; replace HO_3 := q0 (Kd.R_below (qr HO_3.out) hb); have BK108 := q0 (hbox); have GW108 := gw HB hg; have GE108 := gw HB hg; replace HB := bp HB hb; have NB101_108 := nl BK101 hg; have NB108_101 := ng BK101 hg; replace BK101 := kd BK101 hb; clear hb hbox hg; have hnb21 := NB108_101.out; have hnc21 := NB101_108.out; obtain ⟨hcz22_0, hcz22_1, hfz22_0, hfz22_1⟩ := b2 BK108; obtain ⟨Ao23, co23, eo23⟩ := Kd.R_slice HO_3.out; subst eo23; have p109 : 0 ≤ (((rd_TTie l0_1 x24_3).f0) : Int) := of_decide_eq_true qa; have q109 : ((rd_TTie l0_1 x24_3).f0) < (x3_3.length : Int) := of_decide_eq_true qa; obtain ⟨ad109, e109, hx109_0⟩ := Kd.at_int (Kd.R_reads' HO_3.out).2.2 ((rd_TTie l0_1 x24_3).f0) p109 q109; cases e109; have hn109_0 : ad109.block ≠ gb108 := Kd.own_blk (Kd.R_ne HO_3.out BK108.out (by decide)); have hn109_1 : ad109.block ≠ gb108 := Kd.own_blk (Kd.R_ne HO_3.out BK108.out (by decide)); replace hx109_0 := (cell_far (p := ⟨gb108, 0, none⟩) (by first | (rw [add_block]; exact hn109_0) | (show (Addr.add _ _).block ≠ _; rw [add_block]; exact hn109_0) | exact hn109_0) (.int .i64 ((rd_TTie l0_1 x24_3).f0))).trans hx109_0; replace hx109_0 := (cell_far (p := ⟨gb108, 1, none⟩) (by first | (rw [add_block]; exact hn109_1) | (show (Addr.add _ _).block ≠ _; rw [add_block]; exact hn109_1) | exact hn109_1) (.int .i64 ((rd_TTie l0_1 x24_3).f1))).trans hx109_0; (try have hy109_0 := fun (n_ : Nat) => (show ((((w20.drewN n_).setCell ⟨gb108, 0, none⟩ (.int .i64 ((rd_TTie l0_1 x24_3).f0))).setCell ⟨gb108, 1, none⟩ (.int .i64 ((rd_TTie l0_1 x24_3).f1)))).cell? _ = some _ from hx109_0)); clear hn109_0 hn109_1; replace p109 := eq_true p109; replace q109 := eq_true q109; have p110 : 0 ≤ (((rd_TTie l0_1 x24_3).f1) : Int) := of_decide_eq_true qa; have q110 : ((rd_TTie l0_1 x24_3).f1) < (x3_3.length : Int) := of_decide_eq_true qa; obtain ⟨ad110, e110, hx110_0⟩ := Kd.at_int (Kd.R_reads' HO_3.out).2.2 ((rd_TTie l0_1 x24_3).f1) p110 q110; obtain rfl : ad109 = ad110 := (by injection e110); have hn110_0 : ad109.block ≠ gb108 := Kd.own_blk (Kd.R_ne HO_3.out BK108.out (by decide)); have hn110_1 : ad109.block ≠ gb108 := Kd.own_blk (Kd.R_ne HO_3.out BK108.out (by decide)); replace hx110_0 := (cell_far (p := ⟨gb108, 0, none⟩) (by first | (rw [add_block]; exact hn110_0) | (show (Addr.add _ _).block ≠ _; rw [add_block]; exact hn110_0) | exact hn110_0) (.int .i64 ((rd_TTie l0_1 x24_3).f0))).trans hx110_0; replace hx110_0 := (cell_far (p := ⟨gb108, 1, none⟩) (by first | (rw [add_block]; exact hn110_1) | (show (Addr.add _ _).block ≠ _; rw [add_block]; exact hn110_1) | exact hn110_1) (.int .i64 ((rd_TTie l0_1 x24_3).f1))).trans hx110_0; (try have hy110_0 := fun (n_ : Nat) => (show ((((w20.drewN n_).setCell ⟨gb108, 0, none⟩ (.int .i64 ((rd_TTie l0_1 x24_3).f0))).setCell ⟨gb108, 1, none⟩ (.int .i64 ((rd_TTie l0_1 x24_3).f1)))).cell? _ = some _ from hx110_0)); clear hn110_0 hn110_1; replace p110 := eq_true p110; replace q110 := eq_true q110; have p111 : 0 ≤ (((rd_TTie l0_1 x24_3).f0) : Int) := of_decide_eq_true qa; have q111 : ((rd_TTie l0_1 x24_3).f0) < (x3_3.length : Int) := of_decide_eq_true qa; obtain ⟨ad111, e111, hx111_0⟩ := Kd.at_int (Kd.R_reads' HO_3.out).2.2 ((rd_TTie l0_1 x24_3).f0) p111 q111; obtain rfl : ad109 = ad111 := (by injection e111); have hn111_0 : ad109.block ≠ gb108 := Kd.own_blk (Kd.R_ne HO_3.out BK108.out (by decide)); have hn111_1 : ad109.block ≠ gb108 := Kd.own_blk (Kd.R_ne HO_3.out BK108.out (by decide)); replace hx111_0 := (cell_far (p := ⟨gb108, 0, none⟩) (by first | (rw [add_block]; exact hn111_0) | (show (Addr.add _ _).block ≠ _; rw [add_block]; exact hn111_0) | exact hn111_0) (.int .i64 ((rd_TTie l0_1 x24_3).f0))).trans hx111_0; replace hx111_0 := (cell_far (p := ⟨gb108, 1, none⟩) (by first | (rw [add_block]; exact hn111_1) | (show (Addr.add _ _).block ≠ _; rw [add_block]; exact hn111_1) | exact hn111_1) (.int .i64 ((rd_TTie l0_1 x24_3).f1))).trans hx111_0; (try have hy111_0 := fun (n_ : Nat) => (show ((((w20.drewN n_).setCell ⟨gb108, 0, none⟩ (.int .i64 ((rd_TTie l0_1 x24_3).f0))).setCell ⟨gb108, 1, none⟩ (.int .i64 ((rd_TTie l0_1 x24_3).f1)))).cell? _ = some _ from hx111_0)); clear hn111_0 hn111_1; replace p111 := eq_true p111; replace q111 := eq_true q111; have p112 : 0 ≤ (((rd_TTie l0_1 x24_3).f1) : Int) := of_decide_eq_true qa; have q112 : ((rd_TTie l0_1 x24_3).f1) < (x3_3.length : Int) := of_decide_eq_true qa; obtain ⟨ad112, e112, hx112_0⟩ := Kd.at_int (Kd.R_reads' HO_3.out).2.2 ((rd_TTie l0_1 x24_3).f1) p112 q112; obtain rfl : ad109 = ad112 := (by injection e112); have hn112_0 : ad109.block ≠ gb108 := Kd.own_blk (Kd.R_ne HO_3.out BK108.out (by decide)); have hn112_1 : ad109.block ≠ gb108 := Kd.own_blk (Kd.R_ne HO_3.out BK108.out (by decide)); replace hx112_0 := (cell_far (p := ⟨gb108, 0, none⟩) (by first | (rw [add_block]; exact hn112_0) | (show (Addr.add _ _).block ≠ _; rw [add_block]; exact hn112_0) | exact hn112_0) (.int .i64 ((rd_TTie l0_1 x24_3).f0))).trans hx112_0; replace hx112_0 := (cell_far (p := ⟨gb108, 1, none⟩) (by first | (rw [add_block]; exact hn112_1) | (show (Addr.add _ _).block ≠ _; rw [add_block]; exact hn112_1) | exact hn112_1) (.int .i64 ((rd_TTie l0_1 x24_3).f1))).trans hx112_0; (try have hy112_0 := fun (n_ : Nat) => (show ((((w20.drewN n_).setCell ⟨gb108, 0, none⟩ (.int .i64 ((rd_TTie l0_1 x24_3).f0))).setCell ⟨gb108, 1, none⟩ (.int .i64 ((rd_TTie l0_1 x24_3).f1)))).cell? _ = some _ from hx112_0)); clear hn112_0 hn112_1; replace p112 := eq_true p112; replace q112 := eq_true q112)); try go_wp2_with (first | ((with_reducible refine gd 7 ?_); refine be 7 #[.int .i64 0, .int .i64 0] 32 ?_; intro gb108 hg w20 hbox hb; replace HO_3 := q0 (Kd.R_below (qr HO_3.out) hb); have BK108 := q0 (hbox); have GW108 := gw HB hg; have GE108 := gw HB hg; replace HB := bp HB hb; have NB101_108 := nl BK101 hg; have NB108_101 := ng BK101 hg; replace BK101 := kd BK101 hb; clear hb hbox hg; have hnb21 := NB108_101.out; have hnc21 := NB101_108.out; obtain ⟨hcz22_0, hcz22_1, hfz22_0, hfz22_1⟩ := b2 BK108; obtain ⟨Ao23, co23, eo23⟩ := Kd.R_slice HO_3.out; subst eo23; have p109 : 0 ≤ (((rd_TTie l0_1 x24_3).f0) : Int) := of_decide_eq_true qa; have q109 : ((rd_TTie l0_1 x24_3).f0) < (x3_3.length : Int) := of_decide_eq_true qa; obtain ⟨ad109, e109, hx109_0⟩ := Kd.at_int (Kd.R_reads' HO_3.out).2.2 ((rd_TTie l0_1 x24_3).f0) p109 q109; cases e109; have hn109_0 : ad109.block ≠ gb108 := Kd.own_blk (Kd.R_ne HO_3.out BK108.out (by decide)); have hn109_1 : ad109.block ≠ gb108 := Kd.own_blk (Kd.R_ne HO_3.out BK108.out (by decide)); replace hx109_0 := (cell_far (p := ⟨gb108, 0, none⟩) (by first | (rw [add_block]; exact hn109_0) | (show (Addr.add _ _).block ≠ _; rw [add_block]; exact hn109_0) | exact hn109_0) (.int .i64 ((rd_TTie l0_1 x24_3).f0))).trans hx109_0; replace hx109_0 := (cell_far (p := ⟨gb108, 1, none⟩) (by first | (rw [add_block]; exact hn109_1) | (show (Addr.add _ _).block ≠ _; rw [add_block]; exact hn109_1) | exact hn109_1) (.int .i64 ((rd_TTie l0_1 x24_3).f1))).trans hx109_0; (try have hy109_0 := fun (n_ : Nat) => (show ((((w20.drewN n_).setCell ⟨gb108, 0, none⟩ (.int .i64 ((rd_TTie l0_1 x24_3).f0))).setCell ⟨gb108, 1, none⟩ (.int .i64 ((rd_TTie l0_1 x24_3).f1)))).cell? _ = some _ from hx109_0)); clear hn109_0 hn109_1; replace p109 := eq_true p109; replace q109 := eq_true q109; have p110 : 0 ≤ (((rd_TTie l0_1 x24_3).f1) : Int) := of_decide_eq_true qa; have q110 : ((rd_TTie l0_1 x24_3).f1) < (x3_3.length : Int) := of_decide_eq_true qa; obtain ⟨ad110, e110, hx110_0⟩ := Kd.at_int (Kd.R_reads' HO_3.out).2.2 ((rd_TTie l0_1 x24_3).f1) p110 q110; obtain rfl : ad109 = ad110 := (by injection e110); have hn110_0 : ad109.block ≠ gb108 := Kd.own_blk (Kd.R_ne HO_3.out BK108.out (by decide)); have hn110_1 : ad109.block ≠ gb108 := Kd.own_blk (Kd.R_ne HO_3.out BK108.out (by decide)); replace hx110_0 := (cell_far (p := ⟨gb108, 0, none⟩) (by first | (rw [add_block]; exact hn110_0) | (show (Addr.add _ _).block ≠ _; rw [add_block]; exact hn110_0) | exact hn110_0) (.int .i64 ((rd_TTie l0_1 x24_3).f0))).trans hx110_0; replace hx110_0 := (cell_far (p := ⟨gb108, 1, none⟩) (by first | (rw [add_block]; exact hn110_1) | (show (Addr.add _ _).block ≠ _; rw [add_block]; exact hn110_1) | exact hn110_1) (.int .i64 ((rd_TTie l0_1 x24_3).f1))).trans hx110_0; (try have hy110_0 := fun (n_ : Nat) => (show ((((w20.drewN n_).setCell ⟨gb108, 0, none⟩ (.int .i64 ((rd_TTie l0_1 x24_3).f0))).setCell ⟨gb108, 1, none⟩ (.int .i64 ((rd_TTie l0_1 x24_3).f1)))).cell? _ = some _ from hx110_0)); clear hn110_0 hn110_1; replace p110 := eq_true p110; replace q110 := eq_true q110; have p111 : 0 ≤ (((rd_TTie l0_1 x24_3).f0) : Int) := of_decide_eq_true qa; have q111 : ((rd_TTie l0_1 x24_3).f0) < (x3_3.length : Int) := of_decide_eq_true qa; obtain ⟨ad111, e111, hx111_0⟩ := Kd.at_int (Kd.R_reads' HO_3.out).2.2 ((rd_TTie l0_1 x24_3).f0) p111 q111; obtain rfl : ad109 = ad111 := (by injection e111); have hn111_0 : ad109.block ≠ gb108 := Kd.own_blk (Kd.R_ne HO_3.out BK108.out (by decide)); have hn111_1 : ad109.block ≠ gb108 := Kd.own_blk (Kd.R_ne HO_3.out BK108.out (by decide)); replace hx111_0 := (cell_far (p := ⟨gb108, 0, none⟩) (by first | (rw [add_block]; exact hn111_0) | (show (Addr.add _ _).block ≠ _; rw [add_block]; exact hn111_0) | exact hn111_0) (.int .i64 ((rd_TTie l0_1 x24_3).f0))).trans hx111_0; replace hx111_0 := (cell_far (p := ⟨gb108, 1, none⟩) (by first | (rw [add_block]; exact hn111_1) | (show (Addr.add _ _).block ≠ _; rw [add_block]; exact hn111_1) | exact hn111_1) (.int .i64 ((rd_TTie l0_1 x24_3).f1))).trans hx111_0; (try have hy111_0 := fun (n_ : Nat) => (show ((((w20.drewN n_).setCell ⟨gb108, 0, none⟩ (.int .i64 ((rd_TTie l0_1 x24_3).f0))).setCell ⟨gb108, 1, none⟩ (.int .i64 ((rd_TTie l0_1 x24_3).f1)))).cell? _ = some _ from hx111_0)); clear hn111_0 hn111_1; replace p111 := eq_true p111; replace q111 := eq_true q111; have p112 : 0 ≤ (((rd_TTie l0_1 x24_3).f1) : Int) := of_decide_eq_true qa; have q112 : ((rd_TTie l0_1 x24_3).f1) < (x3_3.length : Int) := of_decide_eq_true qa; obtain ⟨ad112, e112, hx112_0⟩ := Kd.at_int (Kd.R_reads' HO_3.out).2.2 ((rd_TTie l0_1 x24_3).f1) p112 q112; obtain rfl : ad109 = ad112 := (by injection e112); have hn112_0 : ad109.block ≠ gb108 := Kd.own_blk (Kd.R_ne HO_3.out BK108.out (by decide)); have hn112_1 : ad109.block ≠ gb108 := Kd.own_blk (Kd.R_ne HO_3.out BK108.out (by decide)); replace hx112_0 := (cell_far (p := ⟨gb108, 0, none⟩) (by first | (rw [add_block]; exact hn112_0) | (show (Addr.add _ _).block ≠ _; rw [add_block]; exact hn112_0) | exact hn112_0) (.int .i64 ((rd_TTie l0_1 x24_3).f0))).trans hx112_0; replace hx112_0 := (cell_far (p := ⟨gb108, 1, none⟩) (by first | (rw [add_block]; exact hn112_1) | (show (Addr.add _ _).block ≠ _; rw [add_block]; exact hn112_1) | exact hn112_1) (.int .i64 ((rd_TTie l0_1 x24_3).f1))).trans hx112_0; (try have hy112_0 := fun (n_ : Nat) => (show ((((w20.drewN n_).setCell ⟨gb108, 0, none⟩ (.int .i64 ((rd_TTie l0_1 x24_3).f0))).setCell ⟨gb108, 1, none⟩ (.int .i64 ((rd_TTie l0_1 x24_3).f1)))).cell? _ = some _ from hx112_0)); clear hn112_0 hn112_1; replace p112 := eq_true p112; replace q112 := eq_true q112)))
   go_roundg k3
   case measure => have := HK1.out; have := HK2.out; have := HK3.out; omega
   case rel => exact ⟨(x3_3), (x5_3), (wrap64 (x24_3 + 1)), qs, qs, H', ⟨by have := HK1.out; have := HK2.out; have := HK3.out; omega⟩, ⟨by (with_reducible repeat (first | apply Kd.R_alloc | apply Kd.R_drewN | apply Kd.R_drew)); exact rf2 HO_3.out BK108.out (fun _ hk => trivial)⟩, ⟨qf BK101.out⟩, ⟨qb HB.out⟩⟩
 rw [if_neg c19] at H
 have c19b0 : ((rd x3_3 ((rd_TTie l0_1 x24_3).f0)) == (rd x3_3 ((rd_TTie l0_1 x24_3).f1))) = false := beq_eq_false_iff_ne.mpr c19
 have c19b1 : ((rd x3_3 ((rd_TTie l0_1 x24_3).f0)) != (rd x3_3 ((rd_TTie l0_1 x24_3).f1))) = true := bne_iff_ne.mpr c19
 obtain ⟨y113, hy113⟩ : ∃ y_ : List Int, y_ = (x3_3.set (((rd_TTie l0_1 x24_3).f0) : Int).toNat (ji18)) := ⟨_, rfl⟩
 replace H : (impl_Net_parts.l2 k3 (y113.set (((rd_TTie l0_1 x24_3).f1) : Int).toNat (ji18)) true l0_1 (l0_1.length : Int) (wrap64 (x24_3 + 1)) a0_0 l0_1) = some r := qy H hy113
 have Ny113 := q0 hy113
 clear hy113
 obtain ⟨y114, hy114⟩ : ∃ y_ : List Int, y_ = (y113.set (((rd_TTie l0_1 x24_3).f1) : Int).toNat (ji18)) := ⟨_, rfl⟩
 replace H : (impl_Net_parts.l2 k3 y114 true l0_1 (l0_1.length : Int) (wrap64 (x24_3 + 1)) a0_0 l0_1) = some r := qy H hy114
 have Ny114 := q0 hy114
 clear hy114
 have H' := q0 H
 clear H
 have p107 : 0 ≤ (x24_3 : Int) := of_decide_eq_true qa
 have q107 : x24_3 < (l0_1.length : Int) := of_decide_eq_true qa
 obtain ⟨ad107, e107, hx107_0, hx107_1⟩ := at_TTie HR0_1.out x24_3 p107 q107
 cases e107
 replace hx107_0 := hcl HB.out hx107_0
 replace hx107_1 := hcl HB.out hx107_1
 replace p107 := eq_true p107
 replace q107 := eq_true q107
 go_wp2_with (first | ((with_reducible refine gd 7 ?_); refine be 7 #[.int .i64 0, .int .i64 0] 32 ?_; intro gb108 hg w26 hbox hb; replace HO_3 := q0 (Kd.R_below (qr HO_3.out) hb); have BK108 := q0 (hbox); have GW108 := gw HB hg; have GE108 := gw HB hg; replace HB := bp HB hb; have NB101_108 := nl BK101 hg; have NB108_101 := ng BK101 hg; replace BK101 := kd BK101 hb; clear hb hbox hg; have hnb27 := NB108_101.out; have hnc27 := NB101_108.out; obtain ⟨hcz28_0, hcz28_1, hfz28_0, hfz28_1⟩ := b2 BK108) | ((with_reducible refine gate_store (t := 32) (p := 7) rfl ?_); (try (rw [drewN_self w26]; generalize hq_ : World.drewN w26 _ = w26; have n0_ := q0 (Kd.R_at hq_ HO_3.out); have n1_ := q0 (blk_at hq_ BK101.out); have n2_ := q0 (blk_at hq_ BK108.out); have n3_ := q0 (below_at hq_ HB.out); clear hq_ HO_3 BK101 BK108 HB; have HO_3 := n0_; have BK101 := n1_; have BK108 := n2_; have HB := n3_; clear n0_ n1_ n2_ n3_)); refine store_event (t := 32) (p := 7) (v := ?vo_w29) (w1 := ((w26.setCell ⟨gb108, 0, none⟩ (.int .i64 ((rd_TTie l0_1 x24_3).f0))).setCell ⟨gb108, 1, none⟩ (.int .i64 ((rd_TTie l0_1 x24_3).f1)))) ?hg ?ho ?hn ?hr ?_; (case ho => rfl); (case hg => rfl); (case hn => rfl); (case hr => first | (go_simp; done) | (go_simp; rfl)); intro w29 hw; have n0_ : Aside0 (Kd.R (Kd.int .i64) 3 w29 w.heap.size (fun _ => True) u3 x3_3) := ⟨(by rw [hw]; exact (by (with_reducible repeat (first | apply Kd.R_alloc | apply Kd.R_drewN | apply Kd.R_drew)); exact rf2 HO_3.out BK108.out (fun _ hk => trivial)))⟩; have n1_ : Aside0 (w29.heap[gb101]? = some (.cells #[.int .i64 a0_0, .slice (some ad107) l0_1.length c0_1] 25 (0, 0))) := ⟨(by rw [hw]; exact (qf BK101.out))⟩; have n2_ : Aside0 (w29.heap[gb108]? = some (.cells #[.int .i64 ((rd_TTie l0_1 x24_3).f0), .int .i64 ((rd_TTie l0_1 x24_3).f1)] 32 (0, 0))) := ⟨(by rw [hw]; exact (by (with_reducible repeat (first | refine blk_drewN ?_ _ | refine blk_drew ?_ | refine blk_alloc ?_ _)); refine blk_put (cs := #[.int .i64 ((rd_TTie l0_1 x24_3).f0), .int .i64 0]) ?_ 1 _ rfl; (with_reducible repeat (first | refine blk_drewN ?_ _ | refine blk_drew ?_ | refine blk_alloc ?_ _)); refine blk_put (cs := #[.int .i64 0, .int .i64 0]) ?_ 0 _ rfl; (with_reducible repeat (first | refine blk_drewN ?_ _ | refine blk_drew ?_ | refine blk_alloc ?_ _)); exact BK108.out))⟩; have n3_ : Aside0 (Below w.heap.size w w29) := ⟨(by rw [hw]; exact (qb HB.out))⟩; clear hw HO_3 BK101 BK108 HB; have HO_3 := n0_; have BK101 := n1_; have BK108 := n2_; have HB := n3_; clear n0_ n1_ n2_ n3_; obtain ⟨hcz30_0, hcz30_1, hfz30_0, hfz30_1⟩ := b2 BK108; obtain ⟨Ao31, co31, eo31⟩ := Kd.R_slice HO_3.out; subst eo31; have p109 : 0 ≤ (((rd_TTie l0_1 x24_3).f0) : Int) := of_decide_eq_true qa; have q109 : ((rd_TTie l0_1 x24_3).f0) < (x3_3.length : Int) := of_decide_eq_true qa; obtain ⟨ad109, e109, hx109_0⟩ := Kd.at_int (Kd.R_reads' HO_3.out).2.2 ((rd_TTie l0_1 x24_3).f0) p109 q109; cases e109; replace p109 := eq_true p109; replace q109 := eq_true q109; have p110 : 0 ≤ (((rd_TTie l0_1 x24_3).f1) : Int) := of_decide_eq_true qa; have q110 : ((rd_TTie l0_1 x24_3).f1) < (x3_3.length : Int) := of_decide_eq_true qa; obtain ⟨ad110, e110, hx110_0⟩ := Kd.at_int (Kd.R_reads' HO_3.out).2.2 ((rd_TTie l0_1 x24_3).f1) p110 q110; obtain rfl : ad109 = ad110 := (by injection e110); replace p110 := eq_true p110; replace q110 := eq_true q110; have p111 : 0 ≤ (((rd_TTie l0_1 x24_3).f0) : Int) := of_decide_eq_true qa; have q111 : ((rd_TTie l0_1 x24_3).f0) < (x3_3.length : Int) := of_decide_eq_true qa; obtain ⟨ad111, e111, hx111_0⟩ := Kd.at_int (Kd.R_reads' HO_3.out).2.2 ((rd_TTie l0_1 x24_3).f0) p111 q111; obtain rfl : ad109 = ad111 := (by injection e111); replace p111 := eq_true p111; replace q111 := eq_true q111; have p112 : 0 ≤ (((rd_TTie l0_1 x24_3).f1) : Int) := of_decide_eq_true qa; have q112 : ((rd_TTie l0_1 x24_3).f1) < (x3_3.length : Int) := of_decide_eq_true qa; obtain ⟨ad112, e112, hx112_0⟩ := Kd.at_int (Kd.R_reads' HO_3.out).2.2 ((rd_TTie l0_1 x24_3).f1) p112 q112; obtain rfl : ad109 = ad112 := (by injection e112); replace p112 := eq_true p112; replace q112 := eq_true q112; have p24 : 0 ≤ (((rd_TTie l0_1 x24_3).f0) : Int) := of_decide_eq_true qa; have q24 : (((rd_TTie l0_1 x24_3).f0) : Int) < ((x3_3.length : Int) : Int) := of_decide_eq_true qa; obtain ⟨go24, co24, eo24, gb24, gl24, cl24, HG24⟩ := Kd.R_form HO_3.out (by omega); (first | cases eo24 | (injection eo24 with ea_ en_ ec_; (first | subst ea_ | (injection ea_ with ea_; subst ea_)); subst ec_; clear en_)); have GB24 := q0 gb24; have GG24 := q0 HG24; clear gb24 gl24 HG24; (first | simp only [add_plain] at hx109_0 | skip); (first | simp only [add_plain] at hx110_0 | skip); (first | simp only [add_plain] at hx111_0 | skip); (first | simp only [add_plain] at hx112_0 | skip); obtain ⟨hx24_0, hf24_0⟩ := Kd.R_celln 0 HO_3.out (((rd_TTie l0_1 x24_3).f0) : Int) p24 q24; replace p24 := eq_true p24; replace q24 := eq_true q24; obtain ⟨hy32_, hz32_⟩ := Kd.R_celln 0 HO_3.out (((rd_TTie l0_1 x24_3).f0) : Int) (of_decide_eq_true qa) (of_decide_eq_true qa); have HP32 := Kd.R_putg HO_3.out (((rd_TTie l0_1 x24_3).f0) : Int) ji18) | ((with_reducible refine gate_store (t := 3) (p := 58) rfl ?_); (try (rw [drewN_self w29]; generalize hq_ : World.drewN w29 _ = w29; have n0_ := q0 (Kd.R_at hq_ HO_3.out); have n1_ := q0 (blk_at hq_ BK101.out); have n2_ := q0 (blk_at hq_ BK108.out); have n3_ := q0 (below_at hq_ HB.out); clear hq_ HO_3 BK101 BK108 HB; have HO_3 := n0_; have BK101 := n1_; have BK108 := n2_; have HB := n3_; clear n0_ n1_ n2_ n3_; (try (obtain ⟨hy32_, hz32_⟩ := Kd.R_celln 0 HO_3.out (((rd_TTie l0_1 x24_3).f0) : Int) (of_decide_eq_true qa) (of_decide_eq_true qa))); (try (have HP32 := Kd.R_putg HO_3.out (((rd_TTie l0_1 x24_3).f0) : Int) ji18)))); refine store_event (t := 3) (p := 58) (v := ?vo_w33) (w1 := (w29.setCell ⟨go24, (((rd_TTie l0_1 x24_3).f0) : Int).toNat, none⟩ (.int .i64 ji18))) ?hg ?ho ?hn ?hr ?_; (case ho => rfl); (case hg => rfl); (case hn => rfl); (case hr => first | (go_simp; done) | (go_simp; rfl)); intro w33 hw; have hg : w29.grownBy w33 (some go24) := (by rw [hw]; exact HP32.2); have hp_ : Kd.R (Kd.int .i64) 3 w33 w.heap.size (fun _ => True) (.slice (some ⟨go24, 0, none⟩) x3_3.length co31) y113 := (by rw [hw, Ny113.out]; exact HP32.1); clear HP32; replace BK101 := q0 (blk_grown (g := gb101) (o := .cells #[.int .i64 a0_0, .slice (some ad107) l0_1.length c0_1] 25 (0, 0)) (qk BK101.out) hg (Kd.R_ne HO_3.out BK101.out (by decide))); replace BK108 := q0 (blk_grown (g := gb108) (o := .cells #[.int .i64 ((rd_TTie l0_1 x24_3).f0), .int .i64 ((rd_TTie l0_1 x24_3).f1)] 32 (0, 0)) (qk BK108.out) hg (Kd.R_ne HO_3.out BK108.out (by decide))); replace HO_3 := q0 (hp_); replace HB := q0 ((by rw [hw]; exact below_set (HB.out) GB24.out : Below w.heap.size w w33)); clear hg hw hp_; have p25 : 0 ≤ (((rd_TTie l0_1 x24_3).f1) : Int) := of_decide_eq_true qa; have q25 : (((rd_TTie l0_1 x24_3).f1) : Int) < ((x3_3.length : Int) : Int) := of_decide_eq_true qa; obtain ⟨hx25_0, hf25_0⟩ := Kd.R_celln 0 HO_3.out (((rd_TTie l0_1 x24_3).f1) : Int) p25 q25; replace p25 := eq_true p25; replace q25 := eq_true q25; obtain ⟨hy34_, hz34_⟩ := Kd.R_celln 0 HO_3.out (((rd_TTie l0_1 x24_3).f1) : Int) (of_decide_eq_true qa) (of_decide_eq_true qa); have HP34 := Kd.R_putg HO_3.out (((rd_TTie l0_1 x24_3).f1) : Int) ji18) | ((with_reducible refine gate_store (t := 3) (p := 59) rfl ?_); (try (rw [drewN_self w33]; generalize hq_ : World.drewN w33 _ = w33; have n0_ := q0 (Kd.R_at hq_ HO_3.out); have n1_ := q0 (blk_at hq_ BK101.out); have n2_ := q0 (blk_at hq_ BK108.out); have n3_ := q0 (below_at hq_ HB.out); clear hq_ HO_3 BK101 BK108 HB; have HO_3 := n0_; have BK101 := n1_; have BK108 := n2_; have HB := n3_; clear n0_ n1_ n2_ n3_; (try (obtain ⟨hy34_, hz34_⟩ := Kd.R_celln 0 HO_3.out (((rd_TTie l0_1 x24_3).f1) : Int) (of_decide_eq_true qa) (of_decide_eq_true qa))); (try (have HP34 := Kd.R_putg HO_3.out (((rd_TTie l0_1 x24_3).f1) : Int) ji18)))); refine store_event (t := 3) (p := 59) (v := ?vo_w35) (w1 := (w33.setCell ⟨go24, (((rd_TTie l0_1 x24_3).f1) : Int).toNat, none⟩ (.int .i64 ji18))) ?hg ?ho ?hn ?hr ?_; (case ho => rfl); (case hg => rfl); (case hn => rfl); (case hr => first | (go_simp; done) | (go_simp; rfl)); intro w35 hw; have hg : w33.grownBy w35 (some go24) := (by rw [hw]; exact HP34.2); have hp_ : Kd.R (Kd.int .i64) 3 w35 w.heap.size (fun _ => True) (.slice (some ⟨go24, 0, none⟩) x3_3.length co31) y114 := (by rw [hw, Ny114.out]; exact HP34.1); clear HP34; replace BK101 := q0 (blk_grown (g := gb101) (o := .cells #[.int .i64 a0_0, .slice (some ad107) l0_1.length c0_1] 25 (0, 0)) (qk BK101.out) hg (Kd.R_ne HO_3.out BK101.out (by decide))); replace BK108 := q0 (blk_grown (g := gb108) (o := .cells #[.int .i64 ((rd_TTie l0_1 x24_3).f0), .int .i64 ((rd_TTie l0_1 x24_3).f1)] 32 (0, 0)) (qk BK108.out) hg (Kd.R_ne HO_3.out BK108.out (by decide))); replace HO_3 := q0 (hp_); replace HB := q0 ((by rw [hw]; exact below_set (HB.out) GB24.out : Below w.heap.size w w35)); clear hg hw hp_))
 repeat (go_quiet (first | ((with_reducible refine gd 7 ?_); refine be 7 #[.int .i64 0, .int .i64 0] 32 ?_; intro gb108 hg w26 hbox hb; replace HO_3 := q0 (Kd.R_below (qr HO_3.out) hb); have BK108 := q0 (hbox); have GW108 := gw HB hg; have GE108 := gw HB hg; replace HB := bp HB hb; have NB101_108 := nl BK101 hg; have NB108_101 := ng BK101 hg; replace BK101 := kd BK101 hb; clear hb hbox hg; have hnb27 := NB108_101.out; have hnc27 := NB101_108.out; obtain ⟨hcz28_0, hcz28_1, hfz28_0, hfz28_1⟩ := b2 BK108) | ((with_reducible refine gate_store (t := 32) (p := 7) rfl ?_); (try (rw [drewN_self w26]; generalize hq_ : World.drewN w26 _ = w26; have n0_ := q0 (Kd.R_at hq_ HO_3.out); have n1_ := q0 (blk_at hq_ BK101.out); have n2_ := q0 (blk_at hq_ BK108.out); have n3_ := q0 (below_at hq_ HB.out); clear hq_ HO_3 BK101 BK108 HB; have HO_3 := n0_; have BK101 := n1_; have BK108 := n2_; have HB := n3_; clear n0_ n1_ n2_ n3_)); refine store_event (t := 32) (p := 7) (v := ?vo_w29) (w1 := ((w26.setCell ⟨gb108, 0, none⟩ (.int .i64 ((rd_TTie l0_1 x24_3).f0))).setCell ⟨gb108, 1, none⟩ (.int .i64 ((rd_TTie l0_1 x24_3).f1)))) ?hg ?ho ?hn ?hr ?_; (case ho => rfl); (case hg => rfl); (case hn => rfl); (case hr => first | (go_simp; done) | (go_simp; rfl)); intro w29 hw; have n0_ : Aside0 (Kd.R (Kd.int .i64) 3 w29 w.heap.size (fun _ => True) u3 x3_3) := ⟨(by rw [hw]; exact (by (with_reducible repeat (first | apply Kd.R_alloc | apply Kd.R_drewN | apply Kd.R_drew)); exact rf2 HO_3.out BK108.out (fun _ hk => trivial)))⟩; have n1_ : Aside0 (w29.heap[gb101]? = some (.cells #[.int .i64 a0_0, .slice (some ad107) l0_1.length c0_1] 25 (0, 0))) := ⟨(by rw [hw]; exact (qf BK101.out))⟩; have n2_ : Aside0 (w29.heap[gb108]? = some (.cells #[.int .i64 ((rd_TTie l0_1 x24_3).f0), .int .i64 ((rd_TTie l0_1 x24_3).f1)] 32 (0, 0))) := ⟨(by rw [hw]; exact (by (with_reducible repeat (first | refine blk_drewN ?_ _ | refine blk_drew ?_ | refine blk_alloc ?_ _)); refine blk_put (cs := #[.int .i64 ((rd_TTie l0_1 x24_3).f0), .int .i64 0]) ?_ 1 _ rfl; (with_reducible repeat (first | refine blk_drewN ?_ _ | refine blk_drew ?_ | refine blk_alloc ?_ _)); refine blk_put (cs := #[.int .i64 0, .int .i64 0]) ?_ 0 _ rfl; (with_reducible repeat (first | refine blk_drewN ?_ _ | refine blk_drew ?_ | refine blk_alloc ?_ _)); exact BK108.out))⟩; have n3_ : Aside0 (Below w.heap.size w w29) := ⟨(by rw [hw]; exact (qb HB.out))⟩; clear hw HO_3 BK101 BK108 HB; have HO_3 := n0_; have BK101 := n1_; have BK108 := n2_; have HB := n3_; clear n0_ n1_ n2_ n3_; obtain ⟨hcz30_0, hcz30_1, hfz30_0, hfz30_1⟩ := b2 BK108; obtain ⟨Ao31, co31, eo31⟩ := Kd.R_slice HO_3.out; subst eo31; have p109 : 0 ≤ (((rd_TTie l0_1 x24_3).f0) : Int) := of_decide_eq_true qa; have q109 : ((rd_TTie l0_1 x24_3).f0) < (x3_3.length : Int) := of_decide_eq_true qa; obtain ⟨ad109, e109, hx109_0⟩ := Kd.at_int (Kd.R_reads' HO_3.out).2.2 ((rd_TTie l0_1 x24_3).f0) p109 q109; cases e109; replace p109 := eq_true p109; replace q109 := eq_true q109; have p110 : 0 ≤ (((rd_TTie l0_1 x24_3).f1) : Int) := of_decide_eq_true qa; have q110 : ((rd_TTie l0_1 x24_3).f1) < (x3_3.length : Int) := of_decide_eq_true qa; obtain ⟨ad110, e110, hx110_0⟩ := Kd.at_int (Kd.R_reads' HO_3.out).2.2 ((rd_TTie l0_1 x24_3).f1) p110 q110; obtain rfl : ad109 = ad110 := (by injection e110); replace p110 := eq_true p110; replace q110 := eq_true q110; have p111 : 0 ≤ (((rd_TTie l0_1 x24_3).f0) : Int) := of_decide_eq_true qa; have q111 : ((rd_TTie l0_1 x24_3).f0) < (x3_3.length : Int) := of_decide_eq_true qa; obtain ⟨ad111, e111, hx111_0⟩ := Kd.at_int (Kd.R_reads' HO_3.out).2.2 ((rd_TTie l0_1 x24_3).f0) p111 q111; obtain rfl : ad109 = ad111 := (by injection e111); replace p111 := eq_true p111; replace q111 := eq_true q111; have p112 : 0 ≤ (((rd_TTie l0_1 x24_3).f1) : Int) := of_decide_eq_true qa; have q112 : ((rd_TTie l0_1 x24_3).f1) < (x3_3.length : Int) := of_decide_eq_true qa; obtain ⟨ad112, e112, hx112_0⟩ := Kd.at_int (Kd.R_reads' HO_3.out).2.2 ((rd_TTie l0_1 x24_3).f1) p112 q112; obtain rfl : ad109 = ad112 := (by injection e112); replace p112 := eq_true p112; replace q112 := eq_true q112; have p24 : 0 ≤ (((rd_TTie l0_1 x24_3).f0) : Int) := of_decide_eq_true qa; have q24 : (((rd_TTie l0_1 x24_3).f0) : Int) < ((x3_3.length : Int) : Int) := of_decide_eq_true qa; obtain ⟨go24, co24, eo24, gb24, gl24, cl24, HG24⟩ := Kd.R_form HO_3.out (by omega); (first | cases eo24 | (injection eo24 with ea_ en_ ec_; (first | subst ea_ | (injection ea_ with ea_; subst ea_)); subst ec_; clear en_)); have GB24 := q0 gb24; have GG24 := q0 HG24; clear gb24 gl24 HG24; (first | simp only [add_plain] at hx109_0 | skip); (first | simp only [add_plain] at hx110_0 | skip); (first | simp only [add_plain] at hx111_0 | skip); (first | simp only [add_plain] at hx112_0 | skip); obtain ⟨hx24_0, hf24_0⟩ := Kd.R_celln 0 HO_3.out (((rd_TTie l0_1 x24_3).f0) : Int) p24 q24; replace p24 := eq_true p24; replace q24 := eq_true q24; obtain ⟨hy32_, hz32_⟩ := Kd.R_celln 0 HO_3.out (((rd_TTie l0_1 x24_3).f0) : Int) (of_decide_eq_true qa) (of_decide_eq_true qa); have HP32 := Kd.R_putg HO_3.out (((rd_TTie l0_1 x24_3).f0) : Int) ji18) | ((with_reducible refine gate_store (t := 3) (p := 58) rfl ?_); (try (rw [drewN_self w29]; generalize hq_ : World.drewN w29 _ = w29; have n0_ := q0 (Kd.R_at hq_ HO_3.out); have n1_ := q0 (blk_at hq_ BK101.out); have n2_ := q0 (blk_at hq_ BK108.out); have n3_ := q0 (below_at hq_ HB.out); clear hq_ HO_3 BK101 BK108 HB; have HO_3 := n0_; have BK101 := n1_; have BK108 := n2_; have HB := n3_; clear n0_ n1_ n2_ n3_; (try (obtain ⟨hy32_, hz32_⟩ := Kd.R_celln 0 HO_3.out (((rd_TTie l0_1 x24_3).f0) : Int) (of_decide_eq_true qa) (of_decide_eq_true qa))); (try (have HP32 := Kd.R_putg HO_3.out (((rd_TTie l0_1 x24_3).f0) : Int) ji18)))); refine store_event (t := 3) (p := 58) (v := ?vo_w33) (w1 := (w29.setCell ⟨go24, (((rd_TTie l0_1 x24_3).f0) : Int).toNat, none⟩ (.int .i64 ji18))) ?hg ?ho ?hn ?hr ?_; (case ho => rfl); (case hg => rfl); (case hn => rfl); (case hr => first | (go_simp; done) | (go_simp; rfl)); intro w33 hw; have hg : w29.grownBy w33 (some go24) := (by rw [hw]; exact HP32.2); have hp_ : Kd.R (Kd.int .i64) 3 w33 w.heap.size (fun _ => True) (.slice (some ⟨go24, 0, none⟩) x3_3.length co31) y113 := (by rw [hw, Ny113.out]; exact HP32.1); clear HP32; replace BK101 := q0 (blk_grown (g := gb101) (o := .cells #[.int .i64 a0_0, .slice (some ad107) l0_1.length c0_1] 25 (0, 0)) (qk BK101.out) hg (Kd.R_ne HO_3.out BK101.out (by decide))); replace BK108 := q0 (blk_grown (g := gb108) (o := .cells #[.int .i64 ((rd_TTie l0_1 x24_3).f0), .int .i64 ((rd_TTie l0_1 x24_3).f1)] 32 (0, 0)) (qk BK108.out) hg (Kd.R_ne HO_3.out BK108.out (by decide))); replace HO_3 := q0 (hp_); replace HB := q0 ((by rw [hw]; exact below_set (HB.out) GB24.out : Below w.heap.size w w33)); clear hg hw hp_; have p25 : 0 ≤ (((rd_TTie l0_1 x24_3).f1) : Int) := of_decide_eq_true qa; have q25 : (((rd_TTie l0_1 x24_3).f1) : Int) < ((x3_3.length : Int) : Int) := of_decide_eq_true qa; obtain ⟨hx25_0, hf25_0⟩ := Kd.R_celln 0 HO_3.out (((rd_TTie l0_1 x24_3).f1) : Int) p25 q25; replace p25 := eq_true p25; replace q25 := eq_true q25; obtain ⟨hy34_, hz34_⟩ := Kd.R_celln 0 HO_3.out (((rd_TTie l0_1 x24_3).f1) : Int) (of_decide_eq_true qa) (of_decide_eq_true qa); have HP34 := Kd.R_putg HO_3.out (((rd_TTie l0_1 x24_3).f1) : Int) ji18) | ((with_reducible refine gate_store (t := 3) (p := 59) rfl ?_); (try (rw [drewN_self w33]; generalize hq_ : World.drewN w33 _ = w33; have n0_ := q0 (Kd.R_at hq_ HO_3.out); have n1_ := q0 (blk_at hq_ BK101.out); have n2_ := q0 (blk_at hq_ BK108.out); have n3_ := q0 (below_at hq_ HB.out); clear hq_ HO_3 BK101 BK108 HB; have HO_3 := n0_; have BK101 := n1_; have BK108 := n2_; have HB := n3_; clear n0_ n1_ n2_ n3_; (try (obtain ⟨hy34_, hz34_⟩ := Kd.R_celln 0 HO_3.out (((rd_TTie l0_1 x24_3).f1) : Int) (of_decide_eq_true qa) (of_decide_eq_true qa))); (try (have HP34 := Kd.R_putg HO_3.out (((rd_TTie l0_1 x24_3).f1) : Int) ji18)))); refine store_event (t := 3) (p := 59) (v := ?vo_w35) (w1 := (w33.setCell ⟨go24, (((rd_TTie l0_1 x24_3).f1) : Int).toNat, none⟩ (.int .i64 ji18))) ?hg ?ho ?hn ?hr ?_; (case ho => rfl); (case hg => rfl); (case hn => rfl); (case hr => first | (go_simp; done) | (go_simp; rfl)); intro w35 hw; have hg : w33.grownBy w35 (some go24) := (by rw [hw]; exact HP34.2); have hp_ : Kd.R (Kd.int .i64) 3 w35 w.heap.size (fun _ => True) (.slice (some ⟨go24, 0, none⟩) x3_3.length co31) y114 := (by rw [hw, Ny114.out]; exact HP34.1); clear HP34; replace BK101 := q0 (blk_grown (g := gb101) (o := .cells #[.int .i64 a0_0, .slice (some ad107) l0_1.length c0_1] 25 (0, 0)) (qk BK101.out) hg (Kd.R_ne HO_3.out BK101.out (by decide))); replace BK108 := q0 (blk_grown (g := gb108) (o := .cells #[.int .i64 ((rd_TTie l0_1 x24_3).f0), .int .i64 ((rd_TTie l0_1 x24_3).f1)] 32 (0, 0)) (qk BK108.out) hg (Kd.R_ne HO_3.out BK108.out (by decide))); replace HO_3 := q0 (hp_); replace HB := q0 ((by rw [hw]; exact below_set (HB.out) GB24.out : Below w.heap.size w w35)); clear hg hw hp_)); try go_wp2_with (first | ((with_reducible refine gd 7 ?_); refine be 7 #[.int .i64 0, .int .i64 0] 32 ?_; intro gb108 hg w26 hbox hb; replace HO_3 := q0 (Kd.R_below (qr HO_3.out) hb); have BK108 := q0 (hbox); have GW108 := gw HB hg; have GE108 := gw HB hg; replace HB := bp HB hb; have NB101_108 := nl BK101 hg; have NB108_101 := ng BK101 hg; replace BK101 := kd BK101 hb; clear hb hbox hg; have hnb27 := NB108_101.out; have hnc27 := NB101_108.out; obtain ⟨hcz28_0, hcz28_1, hfz28_0, hfz28_1⟩ := b2 BK108) | ((with_reducible refine gate_store (t := 32) (p := 7) rfl ?_); (try (rw [drewN_self w26]; generalize hq_ : World.drewN w26 _ = w26; have n0_ := q0 (Kd.R_at hq_ HO_3.out); have n1_ := q0 (blk_at hq_ BK101.out); have n2_ := q0 (blk_at hq_ BK108.out); have n3_ := q0 (below_at hq_ HB.out); clear hq_ HO_3 BK101 BK108 HB; have HO_3 := n0_; have BK101 := n1_; have BK108 := n2_; have HB := n3_; clear n0_ n1_ n2_ n3_)); refine store_event (t := 32) (p := 7) (v := ?vo_w29) (w1 := ((w26.setCell ⟨gb108, 0, none⟩ (.int .i64 ((rd_TTie l0_1 x24_3).f0))).setCell ⟨gb108, 1, none⟩ (.int .i64 ((rd_TTie l0_1 x24_3).f1)))) ?hg ?ho ?hn ?hr ?_; (case ho => rfl); (case hg => rfl); (case hn => rfl); (case hr => first | (go_simp; done) | (go_simp; rfl)); intro w29 hw; have n0_ : Aside0 (Kd.R (Kd.int .i64) 3 w29 w.heap.size (fun _ => True) u3 x3_3) := ⟨(by rw [hw]; exact (by (with_reducible repeat (first | apply Kd.R_alloc | apply Kd.R_drewN | apply Kd.R_drew)); exact rf2 HO_3.out BK108.out (fun _ hk => trivial)))⟩; have n1_ : Aside0 (w29.heap[gb101]? = some (.cells #[.int .i64 a0_0, .slice (some ad107) l0_1.length c0_1] 25 (0, 0))) := ⟨(by rw [hw]; exact (qf BK101.out))⟩; have n2_ : Aside0 (w29.heap[gb108]? = some (.cells #[.int .i64 ((rd_TTie l0_1 x24_3).f0), .int .i64 ((rd_TTie l0_1 x24_3).f1)] 32 (0, 0))) := ⟨(by rw [hw]; exact (by (with_reducible repeat (first | refine blk_drewN ?_ _ | refine blk_drew ?_ | refine blk_alloc ?_ _)); refine blk_put (cs := #[.int .i64 ((rd_TTie l0_1 x24_3).f0), .int .i64 0]) ?_ 1 _ rfl; (with_reducible repeat (first | refine blk_drewN ?_ _ | refine blk_drew ?_ | refine blk_alloc ?_ _)); refine blk_put (cs := #[.int .i64 0, .int .i64 0]) ?_ 0 _ rfl; (with_reducible repeat (first | refine blk_drewN ?_ _ | refine blk_drew ?_ | refine blk_alloc ?_ _)); exact BK108.out))⟩; have n3_ : Aside0 (Below w.heap.size w w29) := ⟨(by rw [hw]; exact (qb HB.out))⟩; clear hw HO_3 BK101 BK108 HB; have HO_3 := n0_; have BK101 := n1_; have BK108 := n2_; have HB := n3_; clear n0_ n1_ n2_ n3_; obtain ⟨hcz30_0, hcz30_1, hfz30_0, hfz30_1⟩ := b2 BK108; obtain ⟨Ao31, co31, eo31⟩ := Kd.R_slice HO_3.out; subst eo31; have p109 : 0 ≤ (((rd_TTie l0_1 x24_3).f0) : Int) := of_decide_eq_true qa; have q109 : ((rd_TTie l0_1 x24_3).f0) < (x3_3.length : Int) := of_decide_eq_true qa; obtain ⟨ad109, e109, hx109_0⟩ := Kd.at_int (Kd.R_reads' HO_3.out).2.2 ((rd_TTie l0_1 x24_3).f0) p109 q109; cases e109; replace p109 := eq_true p109; replace q109 := eq_true q109; have p110 : 0 ≤ (((rd_TTie l0_1 x24_3).f1) : Int) := of_decide_eq_true qa; have q110 : ((rd_TTie l0_1 x24_3).f1) < (x3_3.length : Int) := of_decide_eq_true qa; obtain ⟨ad110, e110, hx110_0⟩ := Kd.at_int (Kd.R_reads' HO_3.out).2.2 ((rd_TTie l0_1 x24_3).f1) p110 q110; obtain rfl : ad109 = ad110 := (by injection e110); replace p110 := eq_true p110; replace q110 := eq_true q110; have p111 : 0 ≤ (((rd_TTie l0_1 x24_3).f0) : Int) := of_decide_eq_true qa; have q111 : ((rd_TTie l0_1 x24_3).f0) < (x3_3.length : Int) := of_decide_eq_true qa; obtain ⟨ad111, e111, hx111_0⟩ := Kd.at_int (Kd.R_reads' HO_3.out).2.2 ((rd_TTie l0_1 x24_3).f0) p111 q111; obtain rfl : ad109 = ad111 := (by injection e111); replace p111 := eq_true p111; replace q111 := eq_true q111; have p112 : 0 ≤ (((rd_TTie l0_1 x24_3).f1) : Int) := of_decide_eq_true qa; have q112 : ((rd_TTie l0_1 x24_3).f1) < (x3_3.length : Int) := of_decide_eq_true qa; obtain ⟨ad112, e112, hx112_0⟩ := Kd.at_int (Kd.R_reads' HO_3.out).2.2 ((rd_TTie l0_1 x24_3).f1) p112 q112; obtain rfl : ad109 = ad112 := (by injection e112); replace p112 := eq_true p112; replace q112 := eq_true q112; have p24 : 0 ≤ (((rd_TTie l0_1 x24_3).f0) : Int) := of_decide_eq_true qa; have q24 : (((rd_TTie l0_1 x24_3).f0) : Int) < ((x3_3.length : Int) : Int) := of_decide_eq_true qa; obtain ⟨go24, co24, eo24, gb24, gl24, cl24, HG24⟩ := Kd.R_form HO_3.out (by omega); (first | cases eo24 | (injection eo24 with ea_ en_ ec_; (first | subst ea_ | (injection ea_ with ea_; subst ea_)); subst ec_; clear en_)); have GB24 := q0 gb24; have GG24 := q0 HG24; clear gb24 gl24 HG24; (first | simp only [add_plain] at hx109_0 | skip); (first | simp only [add_plain] at hx110_0 | skip); (first | simp only [add_plain] at hx111_0 | skip); (first | simp only [add_plain] at hx112_0 | skip); obtain ⟨hx24_0, hf24_0⟩ := Kd.R_celln 0 HO_3.out (((rd_TTie l0_1 x24_3).f0) : Int) p24 q24; replace p24 := eq_true p24; replace q24 := eq_true q24; obtain ⟨hy32_, hz32_⟩ := Kd.R_celln 0 HO_3.out (((rd_TTie l0_1 x24_3).f0) : Int) (of_decide_eq_true qa) (of_decide_eq_true qa); have HP32 := Kd.R_putg HO_3.out (((rd_TTie l0_1 x24_3).f0) : Int) ji18) | ((with_reducible refine gate_store (t := 3) (p := 58) rfl ?_); (try (rw [drewN_self w29]; generalize hq_ : World.drewN w29 _ = w29; have n0_ := q0 (Kd.R_at hq_ HO_3.out); have n1_ := q0 (blk_at hq_ BK101.out); have n2_ := q0 (blk_at hq_ BK108.out); have n3_ := q0 (below_at hq_ HB.out); clear hq_ HO_3 BK101 BK108 HB; have HO_3 := n0_; have BK101 := n1_; have BK108 := n2_; have HB := n3_; clear n0_ n1_ n2_ n3_; (try (obtain ⟨hy32_, hz32_⟩ := Kd.R_celln 0 HO_3.out (((rd_TTie l0_1 x24_3).f0) : Int) (of_decide_eq_true qa) (of_decide_eq_true qa))); (try (have HP32 := Kd.R_putg HO_3.out (((rd_TTie l0_1 x24_3).f0) : Int) ji18)))); refine store_event (t := 3) (p := 58) (v := ?vo_w33) (w1 := (w29.setCell ⟨go24, (((rd_TTie l0_1 x24_3).f0) : Int).toNat, none⟩ (.int .i64 ji18))) ?hg ?ho ?hn ?hr ?_; (case ho => rfl); (case hg => rfl); (case hn => rfl); (case hr => first | (go_simp; done) | (go_simp; rfl)); intro w33 hw; have hg : w29.grownBy w33 (some go24) := (by rw [hw]; exact HP32.2); have hp_ : Kd.R (Kd.int .i64) 3 w33 w.heap.size (fun _ => True) (.slice (some ⟨go24, 0, none⟩) x3_3.length co31) y113 := (by rw [hw, Ny113.out]; exact HP32.1); clear HP32; replace BK101 := q0 (blk_grown (g := gb101) (o := .cells #[.int .i64 a0_0, .slice (some ad107) l0_1.length c0_1] 25 (0, 0)) (qk BK101.out) hg (Kd.R_ne HO_3.out BK101.out (by decide))); replace BK108 := q0 (blk_grown (g := gb108) (o := .cells #[.int .i64 ((rd_TTie l0_1 x24_3).f0), .int .i64 ((rd_TTie l0_1 x24_3).f1)] 32 (0, 0)) (qk BK108.out) hg (Kd.R_ne HO_3.out BK108.out (by decide))); replace HO_3 := q0 (hp_); replace HB := q0 ((by rw [hw]; exact below_set (HB.out) GB24.out : Below w.heap.size w w33)); clear hg hw hp_; have p25 : 0 ≤ (((rd_TTie l0_1 x24_3).f1) : Int) := of_decide_eq_true qa; have q25 : (((rd_TTie l0_1 x24_3).f1) : Int) < ((x3_3.length : Int) : Int) := of_decide_eq_true qa; obtain ⟨hx25_0, hf25_0⟩ := Kd.R_celln 0 HO_3.out (((rd_TTie l0_1 x24_3).f1) : Int) p25 q25; replace p25 := eq_true p25; replace q25 := eq_true q25; obtain ⟨hy34_, hz34_⟩ := Kd.R_celln 0 HO_3.out (((rd_TTie l0_1 x24_3).f1) : Int) (of_decide_eq_true qa) (of_decide_eq_true qa); have HP34 := Kd.R_putg HO_3.out (((rd_TTie l0_1 x24_3).f1) : Int) ji18) | ((with_reducible refine gate_store (t := 3) (p := 59) rfl ?_); (try (rw [drewN_self w33]; generalize hq_ : World.drewN w33 _ = w33; have n0_ := q0 (Kd.R_at hq_ HO_3.out); have n1_ := q0 (blk_at hq_ BK101.out); have n2_ := q0 (blk_at hq_ BK108.out); have n3_ := q0 (below_at hq_ HB.out); clear hq_ HO_3 BK101 BK108 HB; have HO_3 := n0_; have BK101 := n1_; have BK108 := n2_; have HB := n3_; clear n0_ n1_ n2_ n3_; (try (obtain ⟨hy34_, hz34_⟩ := Kd.R_celln 0 HO_3.out (((rd_TTie l0_1 x24_3).f1) : Int) (of_decide_eq_true qa) (of_decide_eq_true qa))); (try (have HP34 := Kd.R_putg HO_3.out (((rd_TTie l0_1 x24_3).f1) : Int) ji18)))); refine store_event (t := 3) (p := 59) (v := ?vo_w35) (w1 := (w33.setCell ⟨go24, (((rd_TTie l0_1 x24_3).f1) : Int).toNat, none⟩ (.int .i64 ji18))) ?hg ?ho ?hn ?hr ?_; (case ho => rfl); (case hg => rfl); (case hn => rfl); (case hr => first | (go_simp; done) | (go_simp; rfl)); intro w35 hw; have hg : w33.grownBy w35 (some go24) := (by rw [hw]; exact HP34.2); have hp_ : Kd.R (Kd.int .i64) 3 w35 w.heap.size (fun _ => True) (.slice (some ⟨go24, 0, none⟩) x3_3.length co31) y114 := (by rw [hw, Ny114.out]; exact HP34.1); clear HP34; replace BK101 := q0 (blk_grown (g := gb101) (o := .cells #[.int .i64 a0_0, .slice (some ad107) l0_1.length c0_1] 25 (0, 0)) (qk BK101.out) hg (Kd.R_ne HO_3.out BK101.out (by decide))); replace BK108 := q0 (blk_grown (g := gb108) (o := .cells #[.int .i64 ((rd_TTie l0_1 x24_3).f0), .int .i64 ((rd_TTie l0_1 x24_3).f1)] 32 (0, 0)) (qk BK108.out) hg (Kd.R_ne HO_3.out BK108.out (by decide))); replace HO_3 := q0 (hp_); replace HB := q0 ((by rw [hw]; exact below_set (HB.out) GB24.out : Below w.heap.size w w35)); clear hg hw hp_)))
 have hne_ : gb108 ≠ go24 := by
   intro he
   have h1 := BK108.out
   rw [he, GG24.out] at h1
   simp at h1
 have hne2_ : go24 ≠ gb108 := Ne.symm hne_
 rw [World.drewN_drewN]
 clear hcz28_0 hcz28_1 hfz28_0 hfz28_1 hcz30_0 hcz30_1 hfz30_0 hfz30_1 hx109_0 hx110_0 hx111_0 hx112_0 hx24_0 hf24_0 hy32_ hz32_ HP32 GG24
 generalize hq_ : World.drewN w29 _ = w29
 have n0_ := q0 (Kd.R_at hq_ HO_3.out)
 have n1_ := q0 (blk_at hq_ BK101.out)
 have n2_ := q0 (blk_at hq_ BK108.out)
 have n3_ := q0 (below_at hq_ HB.out)
 clear hq_ HO_3 BK101 BK108 HB
 have HO_3 := n0_
 have BK101 := n1_
 have BK108 := n2_
 have HB := n3_
 clear n0_ n1_ n2_ n3_
 obtain ⟨hcz30_0, hcz30_1, hfz30_0, hfz30_1⟩ := b2 BK108
 obtain ⟨hx24_0, hf24_0⟩ := Kd.R_celln 0 HO_3.out (((rd_TTie l0_1 x24_3).f0) : Int) (of_decide_eq_true qa) (of_decide_eq_true qa)
 obtain ⟨hx25_0, hf25_0⟩ := Kd.R_celln 0 HO_3.out (((rd_TTie l0_1 x24_3).f1) : Int) (of_decide_eq_true qa) (of_decide_eq_true qa)
 obtain ⟨hv_, hy_⟩ := cell?_setCell_some (p := ⟨go24, (((rd_TTie l0_1 x24_3).f0) : Int).toNat, none⟩) (x := .int .i64 ji18) hx25_0
 go_region
 have hP1_ := Kd.R_putg HO_3.out (((rd_TTie l0_1 x24_3).f0) : Int) ji18
 have hR1_ : Kd.R (Kd.int .i64) 3 (w29.setCell ⟨go24, (((rd_TTie l0_1 x24_3).f0) : Int).toNat, none⟩ (.int .i64 ji18)) w.heap.size (fun _ => True) (.slice (some ⟨go24, 0, none⟩) x3_3.length co31) y113 := by rw [Ny113.out]; exact hP1_.1
 have hP2_ := Kd.R_putg hR1_ (((rd_TTie l0_1 x24_3).f1) : Int) ji18
 have hR2_ : Kd.R (Kd.int .i64) 3 ((w29.setCell ⟨go24, (((rd_TTie l0_1 x24_3).f0) : Int).toNat, none⟩ (.int .i64 ji18)).setCell ⟨go24, (((rd_TTie l0_1 x24_3).f1) : Int).toNat, none⟩ (.int .i64 ji18)) w.heap.size (fun _ => True) (.slice (some ⟨go24, 0, none⟩) x3_3.length co31) y114 := by rw [Ny114.out]; exact hP2_.1
 have hB1_ := blk_grown (g := gb101) BK101.out hP1_.2 (Kd.R_ne HO_3.out BK101.out (by decide))
 have hB2_ := blk_grown (g := gb101) hB1_ hP2_.2 (Kd.R_ne hR1_ hB1_ (by decide))
 have hD_ : Below w.heap.size w ((w29.setCell ⟨go24, (((rd_TTie l0_1 x24_3).f0) : Int).toNat, none⟩ (.int .i64 ji18)).setCell ⟨go24, (((rd_TTie l0_1 x24_3).f1) : Int).toNat, none⟩ (.int .i64 ji18)) := below_set (below_set HB.out GB24.out) GB24.out
 clear hP1_ hR1_ hP2_ hB1_
 have n0_ := q0 hR2_
 have n1_ := q0 hB2_
 have n2_ := q0 hD_
 clear hR2_ hB2_ hD_
 clear HO_3 BK101 BK108 HB hcz30_0 hcz30_1 hfz30_0 hfz30_1 hx24_0 hf24_0 hx25_0 hf25_0 hy_
 generalize ((w29.setCell ⟨go24, (((rd_TTie l0_1 x24_3).f0) : Int).toNat, none⟩ (.int .i64 ji18)).setCell ⟨go24, (((rd_TTie l0_1 x24_3).f1) : Int).toNat, none⟩ (.int .i64 ji18)) = w35 at n0_ n1_ n2_ ⊢
 have HO_3 := n0_
 have BK101 := n1_
 have HB := n2_
 clear n0_ n1_ n2_
 go_wp2
 go_roundg k3
 case measure => have := HK1.out; have := HK2.out; have := HK3.out; omega
 case rel => exact ⟨(y114), (true), (wrap64 (x24_3 + 1)), qs, qs, H', ⟨by have := HK1.out; have := HK2.out; have := HK3.out; omega⟩, ⟨qr HO_3.out⟩, ⟨qk BK101.out⟩, ⟨qb HB.out⟩⟩

set_option maxHeartbeats 8000000 in
set_option maxRecDepth 100000 in
theorem impl_Net_joined.calls (k : Nat) (a0_0 : Int) (A0_1 : Option Addr) (c0_1 : Nat) (l0_1 : List (STie)) (a1 : Int) (a2 : Int) (r : Bool) (w : World) (hr0_1 : Kd.C kTie w A0_1 l0_1.length l0_1) (hc0_1 : l0_1.length ≤ c0_1) (h : impl_Net_joined.f k a0_0 l0_1 a1 a2 = some r) :
    Calls Try.prog 93 #[.agg #[.int .i64 a0_0, .slice A0_1 l0_1.length c0_1], .int .i64 a1, .int .i64 a2] w fun e w' => e = .returned (.bool r) ∧ Below w.heap.size w w' := by
 have hu25 := Try.underlying25
 have HR0_1 := q0 hr0_1
 have HC0_1 := q0 hc0_1
 clear hr0_1 hc0_1
 have HB := q0 (Below.refl w.heap.size w)
 have H : ((impl_Net_parts.f k a0_0 l0_1).bind fun t100 => (if 0 ≤ a1 then (if a1 < (t100.length : Int) then (if 0 ≤ a2 then (if a2 < (t100.length : Int) then (some ((rd t100 a1) == (rd t100 a2))) else (none)) else (none)) else (none)) else (none))) = some r := h
 clear h
 obtain ⟨t100, A4, H⟩ := ob H
 obtain ⟨c5, H⟩ : (0 ≤ a1) ∧ _ := og H
 have c5b0 := decide_eq_true c5
 clear c5
 obtain ⟨c6, H⟩ : (a1 < (t100.length : Int)) ∧ _ := og H
 have c6b0 := decide_eq_true c6
 clear c6
 obtain ⟨c7, H⟩ : (0 ≤ a2) ∧ _ := og H
 have c7b0 := decide_eq_true c7
 clear c7
 obtain ⟨c8, H⟩ : (a2 < (t100.length : Int)) ∧ _ := og H
 have c8b0 := decide_eq_true c8
 clear c8
 obtain rfl := Option.some.inj H
 go_enter Try.func93, Try.ntmps93
 go_wp2_with (first | ((with_reducible refine gd 3 ?_); refine be 3 #[.int .i64 a0_0, .slice A0_1 l0_1.length c0_1] 25 ?_; intro gb101 hg w9 hbox hb; have BK101 := q0 (hbox); have GW101 := gw HB hg; have GE101 := gw HB hg; replace HB := bp HB hb; clear hb hbox hg; obtain ⟨hcz10_0, hcz10_1, hfz10_0, hfz10_1⟩ := b2 BK101) | (go_at_call 58; (with_reducible refine (impl_Net_parts.calls k a0_0 _ _ l0_1 t100 _ ?side1 ?side2 A4.out).mono ?_); (case side1 => exact qc (Kd.C_below HR0_1.out HB.out)); (case side2 => exact HC0_1.out); rintro e w11 ⟨v102, rfl, ho0, hb⟩; have HO103 := q0 (Kd.R_lower ho0 (below_size (qb HB.out))); replace BK101 := kd BK101 hb; replace HB := bp HB hb; (try clear hb); (try clear hb2); (try clear hk); (try clear hi); (try clear ho0); obtain ⟨Ao12, co12, eo12⟩ := Kd.R_slice HO103.out; subst eo12; have p104 : 0 ≤ (a1 : Int) := of_decide_eq_true qa; have q104 : a1 < (t100.length : Int) := of_decide_eq_true qa; obtain ⟨ad104, e104, hx104_0⟩ := Kd.at_int (Kd.R_reads' HO103.out).2.2 a1 p104 q104; cases e104; replace p104 := eq_true p104; replace q104 := eq_true q104; have p105 : 0 ≤ (a2 : Int) := of_decide_eq_true qa; have q105 : a2 < (t100.length : Int) := of_decide_eq_true qa; obtain ⟨ad105, e105, hx105_0⟩ := Kd.at_int (Kd.R_reads' HO103.out).2.2 a2 p105 q105; obtain rfl : ad104 = ad105 := (by injection e105); replace p105 := eq_true p105; replace q105 := eq_true q105))
 repeat (go_quiet (first | ((with_reducible refine gd 3 ?_); refine be 3 #[.int .i64 a0_0, .slice A0_1 l0_1.length c0_1] 25 ?_; intro gb101 hg w9 hbox hb; have BK101 := q0 (hbox); have GW101 := gw HB hg; have GE101 := gw HB hg; replace HB := bp HB hb; clear hb hbox hg; obtain ⟨hcz10_0, hcz10_1, hfz10_0, hfz10_1⟩ := b2 BK101) | (go_at_call 58; (with_reducible refine (impl_Net_parts.calls k a0_0 _ _ l0_1 t100 _ ?side1 ?side2 A4.out).mono ?_); (case side1 => exact qc (Kd.C_below HR0_1.out HB.out)); (case side2 => exact HC0_1.out); rintro e w11 ⟨v102, rfl, ho0, hb⟩; have HO103 := q0 (Kd.R_lower ho0 (below_size (qb HB.out))); replace BK101 := kd BK101 hb; replace HB := bp HB hb; (try clear hb); (try clear hb2); (try clear hk); (try clear hi); (try clear ho0); obtain ⟨Ao12, co12, eo12⟩ := Kd.R_slice HO103.out; subst eo12; have p104 : 0 ≤ (a1 : Int) := of_decide_eq_true qa; have q104 : a1 < (t100.length : Int) := of_decide_eq_true qa; obtain ⟨ad104, e104, hx104_0⟩ := Kd.at_int (Kd.R_reads' HO103.out).2.2 a1 p104 q104; cases e104; replace p104 := eq_true p104; replace q104 := eq_true q104; have p105 : 0 ≤ (a2 : Int) := of_decide_eq_true qa; have q105 : a2 < (t100.length : Int) := of_decide_eq_true qa; obtain ⟨ad105, e105, hx105_0⟩ := Kd.at_int (Kd.R_reads' HO103.out).2.2 a2 p105 q105; obtain rfl : ad104 = ad105 := (by injection e105); replace p105 := eq_true p105; replace q105 := eq_true q105)); try go_wp2_with (first | ((with_reducible refine gd 3 ?_); refine be 3 #[.int .i64 a0_0, .slice A0_1 l0_1.length c0_1] 25 ?_; intro gb101 hg w9 hbox hb; have BK101 := q0 (hbox); have GW101 := gw HB hg; have GE101 := gw HB hg; replace HB := bp HB hb; clear hb hbox hg; obtain ⟨hcz10_0, hcz10_1, hfz10_0, hfz10_1⟩ := b2 BK101) | (go_at_call 58; (with_reducible refine (impl_Net_parts.calls k a0_0 _ _ l0_1 t100 _ ?side1 ?side2 A4.out).mono ?_); (case side1 => exact qc (Kd.C_below HR0_1.out HB.out)); (case side2 => exact HC0_1.out); rintro e w11 ⟨v102, rfl, ho0, hb⟩; have HO103 := q0 (Kd.R_lower ho0 (below_size (qb HB.out))); replace BK101 := kd BK101 hb; replace HB := bp HB hb; (try clear hb); (try clear hb2); (try clear hk); (try clear hi); (try clear ho0); obtain ⟨Ao12, co12, eo12⟩ := Kd.R_slice HO103.out; subst eo12; have p104 : 0 ≤ (a1 : Int) := of_decide_eq_true qa; have q104 : a1 < (t100.length : Int) := of_decide_eq_true qa; obtain ⟨ad104, e104, hx104_0⟩ := Kd.at_int (Kd.R_reads' HO103.out).2.2 a1 p104 q104; cases e104; replace p104 := eq_true p104; replace q104 := eq_true q104; have p105 : 0 ≤ (a2 : Int) := of_decide_eq_true qa; have q105 : a2 < (t100.length : Int) := of_decide_eq_true qa; obtain ⟨ad105, e105, hx105_0⟩ := Kd.at_int (Kd.R_reads' HO103.out).2.2 a2 p105 q105; obtain rfl : ad104 = ad105 := (by injection e105); replace p105 := eq_true p105; replace q105 := eq_true q105)))
 go_ret
 exact ⟨qe, qb HB.out⟩

set_option maxHeartbeats 8000000 in
set_option maxRecDepth 100000 in
theorem impl_Net_tree.calls (k : Nat) (a0_0 : Int) (A0_1 : Option Addr) (c0_1 : Nat) (l0_1 : List (STie)) (r1 : Int) (r2 : List (STie)) (w : World) (hr0_1 : Kd.C kTie w A0_1 l0_1.length l0_1) (hc0_1 : l0_1.length ≤ c0_1) (h : impl_Net_tree.f k a0_0 l0_1 = some (r1, r2)) :
    Calls Try.prog 62 #[.agg #[.int .i64 a0_0, .slice A0_1 l0_1.length c0_1]] w fun e w' => ∃ v1_ : Value, e = .returned (.agg #[.int .i64 r1, v1_]) ∧ Kd.R kTie 32 w' w.heap.size (fun _ => True) v1_ r2 ∧ Below w.heap.size w w' := by
 have hu25 := Try.underlying25
 have hu32 := Try.underlying32
 have HR0_1 := q0 hr0_1
 have HC0_1 := q0 hc0_1
 clear hr0_1 hc0_1
 have HB := q0 (Below.refl w.heap.size w)
 have H : (impl_Net_tree.l0 k l0_1 (l0_1.length : Int) 0 a0_0 (([] : List (STie)))) = some (r1, r2) := h
 clear h
 obtain ⟨y102, hy102⟩ : ∃ y_ : List (STie), y_ = (([] : List (STie))) := ⟨_, rfl⟩
 replace H : (impl_Net_tree.l0 k l0_1 (l0_1.length : Int) 0 a0_0 y102) = some (r1, r2) := qy H hy102
 have Ny102 := q0 hy102
 clear hy102
 have H' := q0 H
 clear H
 go_enter Try.func62, Try.ntmps62
 go_wp2_with (first | ((with_reducible refine gd 1 ?_); refine be 1 #[.int .i64 a0_0, .slice A0_1 l0_1.length c0_1] 25 ?_; intro gb103 hg w2 hbox hb; have BK103 := q0 (hbox); have GW103 := gw HB hg; have GE103 := gw HB hg; replace HB := bp HB hb; clear hb hbox hg) | ((with_reducible refine gd 2 ?_); refine be 2 #[.int .i64 0, .slice none 0 0] 25 ?_; intro gb104 hg w3 hbox hb; have BK104 := q0 (hbox); have GW104 := gw HB hg; have GE104 := gw HB hg; replace HB := bp HB hb; have NB103_104 := nl BK103 hg; have NB104_103 := ng BK103 hg; replace BK103 := kd BK103 hb; clear hb hbox hg; have hnb4 := NB103_104.out; have hnc4 := NB104_103.out; obtain ⟨hcz5_0, hcz5_1, hfz5_0, hfz5_1⟩ := b2 BK103) | ((with_reducible refine gd 8 ?_); refine Kd.R_lit kTie _ 32 ?hg (N := 8) ?hd (xs := ([] : List (STie))) (inner := []) (ok := fun _ => True) (okp := fun _ => True) ?hr ?hp (fun _ hk => hk) trivial (Below.refl _ _) (Nat.le_refl _) (by simp) ?_; (case hd => rfl); (case hg => rfl); (case hr => first | (go_simp; done) | (go_simp; rfl)); (case hp => exact (Reps.none _ _)); intro v105 w6 ho7 hb hg_ hnew_; clear hg_ hnew_; (first | rw [← Ny102.out] at ho7 | (simp only [Int.reduceToNat] at ho7; rw [← Ny102.out] at ho7)); have HO106 := q0 (Kd.R_lower ho7 (below_size (qb HB.out))); replace BK103 := kd BK103 hb; replace BK104 := kd BK104 hb; replace HB := bp HB hb; clear hb ho7; obtain ⟨Ao8, co8, eo8⟩ := Kd.R_slice HO106.out; subst eo8) | ((with_reducible refine gd 3 ?_); refine be 3 #[.int .i64 0, .slice none 0 0] 25 ?_; intro gb107 hg w9 hbox hb; replace HO106 := q0 (Kd.R_below (qr HO106.out) hb); have BK107 := q0 (hbox); have GW107 := gw HB hg; have GE107 := gw HB hg; replace HB := bp HB hb; have NB103_107 := nl BK103 hg; have NB107_103 := ng BK103 hg; replace BK103 := kd BK103 hb; have NB104_107 := nl BK104 hg; have NB107_104 := ng BK104 hg; replace BK104 := kd BK104 hb; clear hb hbox hg; have hnb10 := NB107_103.out; have hnc10 := NB103_107.out; have hnb11 := NB107_104.out; have hnc11 := NB104_107.out; obtain ⟨hcz12_0, hcz12_1, hfz12_0, hfz12_1⟩ := b2 BK107; obtain ⟨hcz13_0, hcz13_1, hfz13_0, hfz13_1⟩ := b2 BK103))
 go_loopg [13] k (fun kq v13 w' => ∃ (x13_1 : Int) (x100001_1 : List (STie)) (u100001 : Value), v13 = .int .i64 x13_1 ∧ Aside0 (impl_Net_tree.l0 kq l0_1 (l0_1.length : Int) x13_1 a0_0 x100001_1 = some (r1, r2)) ∧ Aside0 (kq ≤ k) ∧ Aside0 (Kd.R kTie 32 w' w.heap.size (fun _ => True) u100001 x100001_1) ∧ Aside0 (w'.heap[gb103]? = some (.cells #[.int .i64 a0_0, (.slice A0_1 l0_1.length c0_1)] 25 (0, 0))) ∧ Aside0 (w'.heap[gb104]? = some (.cells #[.int .i64 0, (.slice none 0 0)] 25 (0, 0))) ∧ Aside0 (w'.heap[gb107]? = some (.cells #[.int .i64 a0_0, u100001] 25 (0, 0))) ∧ Aside0 (Below w.heap.size w w'))
 case atStart => exact ⟨(0), (y102), (.slice Ao8 y102.length co8), qs, H', ⟨Nat.le_refl _⟩, ⟨by (with_reducible repeat (first | apply Kd.R_alloc | apply Kd.R_drewN | apply Kd.R_drew)); exact rf2 HO106.out BK107.out (fun _ hk => trivial)⟩, ⟨qf BK103.out⟩, ⟨qf BK104.out⟩, ⟨by (with_reducible repeat (first | refine blk_drewN ?_ _ | refine blk_drew ?_ | refine blk_alloc ?_ _)); refine blk_put (cs := #[.int .i64 a0_0, .slice none 0 0]) ?_ 1 _ rfl; (with_reducible repeat (first | refine blk_drewN ?_ _ | refine blk_drew ?_ | refine blk_alloc ?_ _)); refine blk_put (cs := #[.int .i64 0, .slice none 0 0]) ?_ 0 _ rfl; (with_reducible repeat (first | refine blk_drewN ?_ _ | refine blk_drew ?_ | refine blk_alloc ?_ _)); exact BK107.out⟩, ⟨qb HB.out⟩⟩
 clear H'
 try clear c1
 try clear p2
 try clear c4
 try clear c6
 try clear c10
 try clear c11
 try clear hcz12_0
 try clear hcz12_1
 try clear hcz13_0
 try clear hcz13_1
 try clear hcz5_0
 try clear hcz5_1
 try clear hfz12_0
 try clear hfz12_1
 try clear hfz13_0
 try clear hfz13_1
 try clear hfz5_0
 try clear hfz5_1
 obtain ⟨x13_1, x100001_1, u100001, rfl, HA, HK1, HO_100001, BK103, BK104, BK107, HB⟩ := hrel
 rcases gk with _ | k1
 · exact absurd HA.out (by simp [impl_Net_tree.l0])
 have H := HA.out
 clear HA
 simp only [impl_Net_tree.l0] at H
 by_cases c14 : x13_1 < (l0_1.length : Int)
 rotate_left
 · rw [if_neg c14] at H
   have c14b0 := decide_eq_false c14
   clear c14
   simp only [Option.some.injEq, Prod.mk.injEq] at H
   obtain ⟨rfl, rfl⟩ := H
   have hnb45 := NB107_103.out
   have hnc45 := NB103_107.out
   have hnb46 := NB107_104.out
   have hnc46 := NB104_107.out
   obtain ⟨hcz47_0, hcz47_1, hfz47_0, hfz47_1⟩ := b2 BK107
   have hnb48 := NB104_103.out
   have hnc48 := NB103_104.out
   obtain ⟨hcz49_0, hcz49_1, hfz49_0, hfz49_1⟩ := b2 BK104
   obtain ⟨Ao50, co50, eo50⟩ := Kd.R_slice HO_100001.out
   subst eo50
   go_wp2
   refine bodyPost_ret (results_cell_row rfl _ _ gb104 25 #[.int .i64 a0_0, .slice Ao50 x100001_1.length co50] (0, 0) _ rfl (by (with_reducible repeat (first | refine blk_drewN ?_ _ | refine blk_drew ?_ | refine blk_alloc ?_ _)); refine blk_put (cs := #[.int .i64 a0_0, .slice none 0 0]) ?_ 1 _ rfl; (with_reducible repeat (first | refine blk_drewN ?_ _ | refine blk_drew ?_ | refine blk_alloc ?_ _)); refine blk_put (cs := #[.int .i64 0, .slice none 0 0]) ?_ 0 _ rfl; (with_reducible repeat (first | refine blk_drewN ?_ _ | refine blk_drew ?_ | refine blk_alloc ?_ _)); exact BK104.out) Try.underlying25 rfl (by kernel_rfl)) rfl ?_
   exact ⟨_, qe, by (with_reducible repeat (first | apply Kd.R_alloc | apply Kd.R_drewN | apply Kd.R_drew)); exact rf2 HO_100001.out BK104.out (fun _ hk => trivial), qb HB.out⟩
 rw [if_pos c14] at H
 have c14b0 := decide_eq_true c14
 clear c14
 obtain ⟨c15, H⟩ : (0 ≤ x13_1) ∧ _ := og H
 have c15b0 := decide_eq_true c15
 clear c15
 obtain ⟨c16, H⟩ : (x13_1 < (l0_1.length : Int)) ∧ _ := og H
 have c16b0 := decide_eq_true c16
 clear c16
 obtain ⟨t101, A17, H⟩ := ob H
 by_cases c18 : t101 = true
 · subst c18
   rw [if_pos rfl] at H
   have H' := q0 H
   clear H
   have p100 : 0 ≤ (x13_1 : Int) := of_decide_eq_true qa
   have q100 : x13_1 < (l0_1.length : Int) := of_decide_eq_true qa
   obtain ⟨ad100, e100, hx100_0, hx100_1⟩ := at_TTie HR0_1.out x13_1 p100 q100
   cases e100
   replace hx100_0 := hcl HB.out hx100_0
   replace hx100_1 := hcl HB.out hx100_1
   replace p100 := eq_true p100
   replace q100 := eq_true q100
   go_wp2_with (first | ((with_reducible refine gd 5 ?_); refine be 5 #[.int .i64 0, .int .i64 0] 32 ?_; intro gb109 hg w19 hbox hb; replace HO_100001 := q0 (Kd.R_below (Kd.R_elderB (qr HO_100001.out) gb109 (Nat.le_of_eq hg.symm)) hb); have BK109 := q0 (hbox); have GW109 := gw HB hg; have GE109 := gw HB hg; replace HB := bp HB hb; have NB103_109 := nl BK103 hg; have NB109_103 := ng BK103 hg; replace BK103 := kd BK103 hb; have NB104_109 := nl BK104 hg; have NB109_104 := ng BK104 hg; replace BK104 := kd BK104 hb; have NB107_109 := nl BK107 hg; have NB109_107 := ng BK107 hg; replace BK107 := kd BK107 hb; clear hb hbox hg; have hnb20 := NB109_103.out; have hnc20 := NB103_109.out; have hnb21 := NB109_104.out; have hnc21 := NB104_109.out; have hnb22 := NB109_107.out; have hnc22 := NB107_109.out; obtain ⟨hcz23_0, hcz23_1, hfz23_0, hfz23_1⟩ := b2 BK109; have hnb24 := NB107_103.out; have hnc24 := NB103_107.out; have hnb25 := NB107_104.out; have hnc25 := NB104_107.out; obtain ⟨hcz26_0, hcz26_1, hfz26_0, hfz26_1⟩ := b2 BK107; obtain ⟨Ao27, co27, eo27⟩ := Kd.R_slice HO_100001.out; subst eo27) | ((with_reducible refine gf 93 ?_); refine gl 22 Try.func93 #[.agg #[.int .i64 a0_0, .slice Ao27 x100001_1.length co27], .int .i64 ((rd_TTie l0_1 x13_1).f0), .int .i64 ((rd_TTie l0_1 x13_1).f1)] ?_; (with_reducible refine (impl_Net_joined.calls k1 a0_0 _ _ x100001_1 ((rd_TTie l0_1 x13_1).f0) ((rd_TTie l0_1 x13_1).f1) true _ ?side1 ?side2 A17.out).mono ?_); (case side1 => refine (Kd.R_reads' (e := 32) (base := w.heap.size) (ok := fun k_ => (True ∧ k_ ≠ gb109)) (n := x100001_1.length) (c := co27) ?_).2.2; exact (by (with_reducible repeat (first | apply Kd.R_alloc | apply Kd.R_drewN | apply Kd.R_drew)); exact (Kd.R_mono (Kd.R_far (p := ⟨gb109, 1, none⟩) (Kd.R_far (p := ⟨gb109, 0, none⟩) (Kd.R_mono HO_100001.out (fun k_ hk => (⟨hk, hk.2⟩ : _ ∧ k_ ≠ gb109))) (fun _ hk => hk.2) (.int .i64 ((rd_TTie l0_1 x13_1).f0))) (fun _ hk => hk.2) (.int .i64 ((rd_TTie l0_1 x13_1).f1))) (fun _ h_ => h_.1)))); (case side2 => exact (Kd.R_reads' HO_100001.out).2.1); rintro e w28 ⟨rfl, hb⟩; refine ⟨_, rfl, ?_⟩; replace HO_100001 := q0 (Kd.R_below (by (with_reducible repeat (first | apply Kd.R_alloc | apply Kd.R_drewN | apply Kd.R_drew)); exact (Kd.R_mono (Kd.R_far (p := ⟨gb109, 1, none⟩) (Kd.R_far (p := ⟨gb109, 0, none⟩) (Kd.R_mono HO_100001.out (fun k_ hk => (⟨hk, hk.2⟩ : _ ∧ k_ ≠ gb109))) (fun _ hk => hk.2) (.int .i64 ((rd_TTie l0_1 x13_1).f0))) (fun _ hk => hk.2) (.int .i64 ((rd_TTie l0_1 x13_1).f1))) (fun _ h_ => h_.1))) hb); replace BK103 := q0 (kf BK103.out hb); replace BK104 := q0 (kf BK104.out hb); replace BK107 := q0 (kf BK107.out hb); replace BK109 := q0 (blk_below (g := gb109) (o := .cells #[.int .i64 ((rd_TTie l0_1 x13_1).f0), .int .i64 ((rd_TTie l0_1 x13_1).f1)] 32 (0, 0)) (by (with_reducible repeat (first | refine blk_drewN ?_ _ | refine blk_drew ?_ | refine blk_alloc ?_ _)); refine blk_put (cs := #[.int .i64 ((rd_TTie l0_1 x13_1).f0), .int .i64 0]) ?_ 1 _ rfl; (with_reducible repeat (first | refine blk_drewN ?_ _ | refine blk_drew ?_ | refine blk_alloc ?_ _)); refine blk_put (cs := #[.int .i64 0, .int .i64 0]) ?_ 0 _ rfl; (with_reducible repeat (first | refine blk_drewN ?_ _ | refine blk_drew ?_ | refine blk_alloc ?_ _)); exact BK109.out) hb); replace HB := bp HB hb; (try clear hb); (try clear hb2); (try clear hk); (try clear hi)))
   go_roundg k1
   case measure => have := HK1.out; omega
   case rel => exact ⟨(wrap64 (x13_1 + 1)), (x100001_1), (.slice Ao27 x100001_1.length co27), qs, H', ⟨by have := HK1.out; omega⟩, ⟨by (with_reducible repeat (first | apply Kd.R_alloc | apply Kd.R_drewN | apply Kd.R_drew)); exact Kd.R_mono HO_100001.out (fun _ hk => trivial)⟩, ⟨qk BK103.out⟩, ⟨qk BK104.out⟩, ⟨qk BK107.out⟩, ⟨qb HB.out⟩⟩
 replace c18 := Bool.eq_false_iff.mpr c18
 subst c18
 rw [if_neg nf] at H
 obtain ⟨c29, H⟩ : (x100001_1.length < 8796093022208) ∧ _ := og H
 have LMc29 := q0 c29
 clear c29
 obtain ⟨y110, hy110⟩ : ∃ y_ : List (STie), y_ = (x100001_1 ++ [(⟨(rd_TTie l0_1 x13_1).f0, (rd_TTie l0_1 x13_1).f1⟩ : STie)]) := ⟨_, rfl⟩
 replace H : (impl_Net_tree.l0 k1 l0_1 (l0_1.length : Int) (wrap64 (x13_1 + 1)) a0_0 y110) = some (r1, r2) := qy H hy110
 have Ny110 := q0 hy110
 clear hy110
 have H' := q0 H
 clear H
 have p100 : 0 ≤ (x13_1 : Int) := of_decide_eq_true qa
 have q100 : x13_1 < (l0_1.length : Int) := of_decide_eq_true qa
 obtain ⟨ad100, e100, hx100_0, hx100_1⟩ := at_TTie HR0_1.out x13_1 p100 q100
 cases e100
 replace hx100_0 := hcl HB.out hx100_0
 replace hx100_1 := hcl HB.out hx100_1
 replace p100 := eq_true p100
 replace q100 := eq_true q100
 go_wp2_with (first | ((with_reducible refine gd 5 ?_); refine be 5 #[.int .i64 0, .int .i64 0] 32 ?_; intro gb109 hg w30 hbox hb; replace HO_100001 := q0 (Kd.R_below (Kd.R_elderB (qr HO_100001.out) gb109 (Nat.le_of_eq hg.symm)) hb); have BK109 := q0 (hbox); have GW109 := gw HB hg; have GE109 := gw HB hg; replace HB := bp HB hb; have NB103_109 := nl BK103 hg; have NB109_103 := ng BK103 hg; replace BK103 := kd BK103 hb; have NB104_109 := nl BK104 hg; have NB109_104 := ng BK104 hg; replace BK104 := kd BK104 hb; have NB107_109 := nl BK107 hg; have NB109_107 := ng BK107 hg; replace BK107 := kd BK107 hb; clear hb hbox hg; have hnb31 := NB109_103.out; have hnc31 := NB103_109.out; have hnb32 := NB109_104.out; have hnc32 := NB104_109.out; have hnb33 := NB109_107.out; have hnc33 := NB107_109.out; obtain ⟨hcz34_0, hcz34_1, hfz34_0, hfz34_1⟩ := b2 BK109; have hnb35 := NB107_103.out; have hnc35 := NB103_107.out; have hnb36 := NB107_104.out; have hnc36 := NB104_107.out; obtain ⟨hcz37_0, hcz37_1, hfz37_0, hfz37_1⟩ := b2 BK107; obtain ⟨Ao38, co38, eo38⟩ := Kd.R_slice HO_100001.out; subst eo38) | ((with_reducible refine gf 93 ?_); refine gl 22 Try.func93 #[.agg #[.int .i64 a0_0, .slice Ao38 x100001_1.length co38], .int .i64 ((rd_TTie l0_1 x13_1).f0), .int .i64 ((rd_TTie l0_1 x13_1).f1)] ?_; (with_reducible refine (impl_Net_joined.calls k1 a0_0 _ _ x100001_1 ((rd_TTie l0_1 x13_1).f0) ((rd_TTie l0_1 x13_1).f1) false _ ?side1 ?side2 A17.out).mono ?_); (case side1 => refine (Kd.R_reads' (e := 32) (base := w.heap.size) (ok := fun k_ => (True ∧ k_ ≠ gb109)) (n := x100001_1.length) (c := co38) ?_).2.2; exact (by (with_reducible repeat (first | apply Kd.R_alloc | apply Kd.R_drewN | apply Kd.R_drew)); exact (Kd.R_mono (Kd.R_far (p := ⟨gb109, 1, none⟩) (Kd.R_far (p := ⟨gb109, 0, none⟩) (Kd.R_mono HO_100001.out (fun k_ hk => (⟨hk, hk.2⟩ : _ ∧ k_ ≠ gb109))) (fun _ hk => hk.2) (.int .i64 ((rd_TTie l0_1 x13_1).f0))) (fun _ hk => hk.2) (.int .i64 ((rd_TTie l0_1 x13_1).f1))) (fun _ h_ => h_.1)))); (case side2 => exact (Kd.R_reads' HO_100001.out).2.1); rintro e w39 ⟨rfl, hb⟩; refine ⟨_, rfl, ?_⟩; replace HO_100001 := q0 (Kd.R_below (by (with_reducible repeat (first | apply Kd.R_alloc | apply Kd.R_drewN | apply Kd.R_drew)); exact (Kd.R_mono (Kd.R_far (p := ⟨gb109, 1, none⟩) (Kd.R_far (p := ⟨gb109, 0, none⟩) (Kd.R_mono HO_100001.out (fun k_ hk => (⟨hk, hk.2⟩ : _ ∧ k_ ≠ gb109))) (fun _ hk => hk.2) (.int .i64 ((rd_TTie l0_1 x13_1).f0))) (fun _ hk => hk.2) (.int .i64 ((rd_TTie l0_1 x13_1).f1))) (fun _ h_ => h_.1))) hb); replace BK103 := q0 (kf BK103.out hb); replace BK104 := q0 (kf BK104.out hb); replace BK107 := q0 (kf BK107.out hb); replace BK109 := q0 (blk_below (g := gb109) (o := .cells #[.int .i64 ((rd_TTie l0_1 x13_1).f0), .int .i64 ((rd_TTie l0_1 x13_1).f1)] 32 (0, 0)) (by (with_reducible repeat (first | refine blk_drewN ?_ _ | refine blk_drew ?_ | refine blk_alloc ?_ _)); refine blk_put (cs := #[.int .i64 ((rd_TTie l0_1 x13_1).f0), .int .i64 0]) ?_ 1 _ rfl; (with_reducible repeat (first | refine blk_drewN ?_ _ | refine blk_drew ?_ | refine blk_alloc ?_ _)); refine blk_put (cs := #[.int .i64 0, .int .i64 0]) ?_ 0 _ rfl; (with_reducible repeat (first | refine blk_drewN ?_ _ | refine blk_drew ?_ | refine blk_alloc ?_ _)); exact BK109.out) hb); replace HB := bp HB hb; (try clear hb); (try clear hb2); (try clear hk); (try clear hi); obtain ⟨hcz40_0, hcz40_1, hfz40_0, hfz40_1⟩ := b2 BK107; obtain ⟨hcz41_0, hcz41_1, hfz41_0, hfz41_1⟩ := b2 BK109) | ((with_reducible refine gate_builtin (b := .append) (xs := #[.tmp 25, .tmp 27]) rfl ?_); at_builtin; refine Kd.R_append kTie (w0 := w) w.heap.size rfl (.tmp 25) (.tmp 27) 23 32 (.agg #[(.int .i64 0), (.int .i64 0)]) 16 rfl Try.underlying23 info32 rfl (by decide) (by omega) (.slice Ao38 x100001_1.length co38) x100001_1 (⟨(rd_TTie l0_1 x13_1).f0, (rd_TTie l0_1 x13_1).f1⟩ : STie) [.int .i64 ((rd_TTie l0_1 x13_1).f0), .int .i64 ((rd_TTie l0_1 x13_1).f1)] (fun k_ => k_ ≠ gb109) (fun _ => False) rfl rfl ?aP (fun _ hk => hk.elim) ?aF ?aO ?aB ?aS ?aL ?_; (case aP => exact kTie_mkM _ _ _ (⟨(rd_TTie l0_1 x13_1).f0, (rd_TTie l0_1 x13_1).f1⟩ : STie)); (case aB => exact (qb HB.out)); (case aF => exact (fun k_ hk => Kd.freshB (g := gb109) (o := .cells #[.int .i64 ((rd_TTie l0_1 x13_1).f0), .int .i64 ((rd_TTie l0_1 x13_1).f1)] 32 (0, 0)) (qk BK109.out) k_ hk)); (case aO => exact (by (with_reducible repeat (first | apply Kd.R_alloc | apply Kd.R_drewN | apply Kd.R_drew)); exact Kd.R_mono HO_100001.out (fun _ hk => hk.2))); (case aS => exact (below_size (qb HB.out))); (case aL => have := LMc29.out; omega); intro v111 w42 ho hb hg hat; rw [← Ny110.out] at ho; replace BK103 := q0 (blk_grown (g := gb103) (o := .cells #[.int .i64 a0_0, .slice (some ad100) l0_1.length c0_1] 25 (0, 0)) (qk BK103.out) hg (Kd.R_ne HO_100001.out BK103.out (by decide))); replace BK104 := q0 (blk_grown (g := gb104) (o := .cells #[.int .i64 0, .slice none 0 0] 25 (0, 0)) (qk BK104.out) hg (Kd.R_ne HO_100001.out BK104.out (by decide))); replace BK107 := q0 (blk_grown (g := gb107) (o := .cells #[.int .i64 a0_0, .slice Ao38 x100001_1.length co38] 25 (0, 0)) (qk BK107.out) hg (Kd.R_ne HO_100001.out BK107.out (by decide))); replace BK109 := q0 (blk_grown (g := gb109) (o := .cells #[.int .i64 ((rd_TTie l0_1 x13_1).f0), .int .i64 ((rd_TTie l0_1 x13_1).f1)] 32 (0, 0)) (qk BK109.out) hg (Kd.R_away HO_100001.out (fun _ hk => hk.2))); replace HB := q0 (hb); have HO112 := q0 (ho); clear HO_100001; clear ho hb hg hat; obtain ⟨Ao43, co43, eo43⟩ := Kd.R_slice HO112.out; subst eo43; obtain ⟨hcz44_0, hcz44_1, hfz44_0, hfz44_1⟩ := b2 BK107))
 go_roundg k1
 case measure => have := HK1.out; omega
 case rel => exact ⟨(wrap64 (x13_1 + 1)), (y110), (.slice Ao43 y110.length co43), qs, H', ⟨by have := HK1.out; omega⟩, ⟨by (with_reducible repeat (first | apply Kd.R_alloc | apply Kd.R_drewN | apply Kd.R_drew)); exact Kd.R_mono (Kd.R_far (p := ⟨gb107, 1, none⟩) (Kd.R_types HO112.out BK107.out (by decide)) (fun _ hk => hk.2) (.slice Ao43 y110.length co43)) (fun _ hk => trivial)⟩, ⟨qf BK103.out⟩, ⟨qf BK104.out⟩, ⟨by (with_reducible repeat (first | refine blk_drewN ?_ _ | refine blk_drew ?_ | refine blk_alloc ?_ _)); refine blk_put (cs := #[.int .i64 a0_0, .slice Ao38 x100001_1.length co38]) ?_ 1 _ rfl; (with_reducible repeat (first | refine blk_drewN ?_ _ | refine blk_drew ?_ | refine blk_alloc ?_ _)); exact BK107.out⟩, ⟨qb HB.out⟩⟩

set_option maxHeartbeats 8000000 in
set_option maxRecDepth 100000 in
theorem impl_TreeOf.calls (k : Nat) (a0_0 : Int) (A0_1 : Option Addr) (c0_1 : Nat) (l0_1 : List (STie)) (r : List (STie)) (w : World) (hr0_1 : Kd.C kTie w A0_1 l0_1.length l0_1) (hc0_1 : l0_1.length ≤ c0_1) (h : impl_TreeOf.f k a0_0 l0_1 = some r) :
    Calls Try.prog 22 #[.agg #[.int .i64 a0_0, .slice A0_1 l0_1.length c0_1]] w fun e w' => ∃ v0_ : Value, e = .returned (v0_) ∧ Kd.R kTie 32 w' w.heap.size (fun _ => True) v0_ r ∧ Below w.heap.size w w' := by
 have hu25 := Try.underlying25
 have HR0_1 := q0 hr0_1
 have HC0_1 := q0 hc0_1
 clear hr0_1 hc0_1
 have HB := q0 (Below.refl w.heap.size w)
 have H : ((impl_NetOk.f k a0_0 l0_1).bind fun t100 => (if t100 = true then ((impl_Net_tree.f k a0_0 l0_1).bind fun bt101 => (some bt101.2)) else (some (([] : List (STie)))))) = some r := h
 clear h
 obtain ⟨t100, A2, H⟩ := ob H
 by_cases c3 : t100 = true
 · subst c3
   rw [if_pos rfl] at H
   obtain ⟨⟨t101, t102⟩, A4, H⟩ := ob H
   obtain rfl := Option.some.inj H
   go_enter Try.func22, Try.ntmps22
   go_wp2_with (first | ((with_reducible refine gd 1 ?_); refine be 1 #[.int .i64 a0_0, .slice A0_1 l0_1.length c0_1] 25 ?_; intro gb103 hg w5 hbox hb; have BK103 := q0 (hbox); have GW103 := gw HB hg; have GE103 := gw HB hg; replace HB := bp HB hb; clear hb hbox hg; obtain ⟨hcz6_0, hcz6_1, hfz6_0, hfz6_1⟩ := b2 BK103) | ((with_reducible refine gf 37 ?_); refine gl 4 Try.func37 #[.agg #[.int .i64 a0_0, .slice A0_1 l0_1.length c0_1]] ?_; (with_reducible refine (impl_NetOk.calls k a0_0 _ _ l0_1 true _ ?side1 ?side2 A2.out).mono ?_); (case side1 => exact qc (Kd.C_below HR0_1.out HB.out)); (case side2 => exact HC0_1.out); rintro e w7 ⟨rfl, hb⟩; refine ⟨_, rfl, ?_⟩; replace BK103 := kd BK103 hb; replace HB := bp HB hb; (try clear hb); (try clear hb2); (try clear hk); (try clear hi); obtain ⟨hcz8_0, hcz8_1, hfz8_0, hfz8_1⟩ := b2 BK103) | ((with_reducible refine gf 62 ?_); refine gl 8 Try.func62 #[.agg #[.int .i64 a0_0, .slice A0_1 l0_1.length c0_1]] ?_; (with_reducible refine (impl_Net_tree.calls k a0_0 _ _ l0_1 t101 t102 _ ?side1 ?side2 A4.out).mono ?_); (case side1 => exact qc (Kd.C_below HR0_1.out HB.out)); (case side2 => exact HC0_1.out); rintro e w9 ⟨v104, rfl, ho0, hb⟩; refine ⟨_, rfl, ?_⟩; have HO105 := q0 (Kd.R_lower ho0 (below_size (qb HB.out))); replace BK103 := kd BK103 hb; replace HB := bp HB hb; (try clear hb); (try clear hb2); (try clear hk); (try clear hi); (try clear ho0); obtain ⟨Ao_, co_, eo_⟩ := Kd.R_slice HO105.out; subst eo_; have hfld_ : ∀ w, (Instr.field 25 (.agg #[.int .i64 t101, .slice Ao_ t102.length co_]) 1).run Try.prog w = .ok (.slice Ao_ t102.length co_) w := fun w => by kernel_rfl))
   go_ret
   exact ⟨_, qe, qr HO105.out, qb HB.out⟩
 replace c3 := Bool.eq_false_iff.mpr c3
 subst c3
 rw [if_neg nf] at H
 obtain ⟨y106, hy106⟩ : ∃ y_ : List (STie), y_ = (([] : List (STie))) := ⟨_, rfl⟩
 replace H : (some y106) = some r := qy H hy106
 have Ny106 := q0 hy106
 clear hy106
 obtain rfl := Option.some.inj H
 go_enter Try.func22, Try.ntmps22
 go_wp2_with (first | ((with_reducible refine gd 1 ?_); refine be 1 #[.int .i64 a0_0, .slice A0_1 l0_1.length c0_1] 25 ?_; intro gb103 hg w10 hbox hb; have BK103 := q0 (hbox); have GW103 := gw HB hg; have GE103 := gw HB hg; replace HB := bp HB hb; clear hb hbox hg; obtain ⟨hcz11_0, hcz11_1, hfz11_0, hfz11_1⟩ := b2 BK103) | ((with_reducible refine gf 37 ?_); refine gl 4 Try.func37 #[.agg #[.int .i64 a0_0, .slice A0_1 l0_1.length c0_1]] ?_; (with_reducible refine (impl_NetOk.calls k a0_0 _ _ l0_1 false _ ?side1 ?side2 A2.out).mono ?_); (case side1 => exact qc (Kd.C_below HR0_1.out HB.out)); (case side2 => exact HC0_1.out); rintro e w12 ⟨rfl, hb⟩; refine ⟨_, rfl, ?_⟩; replace BK103 := kd BK103 hb; replace HB := bp HB hb; (try clear hb); (try clear hb2); (try clear hk); (try clear hi)) | ((with_reducible refine gd 6 ?_); refine Kd.R_lit kTie _ 32 ?hg (N := 6) ?hd (xs := ([] : List (STie))) (inner := []) (ok := fun _ => True) (okp := fun _ => True) ?hr ?hp (fun _ hk => hk) trivial (Below.refl _ _) (Nat.le_refl _) (by simp) ?_; (case hd => rfl); (case hg => rfl); (case hr => first | (go_simp; done) | (go_simp; rfl)); (case hp => exact (Reps.none _ _)); intro v107 w13 ho14 hb hg_ hnew_; clear hg_ hnew_; (first | rw [← Ny106.out] at ho14 | (simp only [Int.reduceToNat] at ho14; rw [← Ny106.out] at ho14)); have HO108 := q0 (Kd.R_lower ho14 (below_size (qb HB.out))); replace BK103 := kd BK103 hb; replace HB := bp HB hb; clear hb ho14))
 go_ret
 exact ⟨_, qe, qr HO108.out, qb HB.out⟩

set_option maxHeartbeats 8000000 in
set_option maxRecDepth 100000 in
theorem spec_l2Next.calls (k : Nat) (a0_0 : Int) (A0_1 : Option Addr) (c0_1 : Nat) (l0_1 : List (STie)) (a1 : Int) (r : List Int) (w : World) (hr0_1 : Kd.C kTie w A0_1 l0_1.length l0_1) (hc0_1 : l0_1.length ≤ c0_1) (h : spec_l2Next.f k a0_0 l0_1 a1 = some r) :
    Calls Try.prog 95 #[.agg #[.int .i64 a0_0, .slice A0_1 l0_1.length c0_1], .int .i64 a1] w fun e w' => ∃ v0_ : Value, e = .returned (v0_) ∧ Kd.R (Kd.int .i64) 3 w' w.heap.size (fun _ => True) v0_ r ∧ Below w.heap.size w w' := by
 have hu25 := Try.underlying25
 have HR0_1 := q0 hr0_1
 have HC0_1 := q0 hc0_1
 clear hr0_1 hc0_1
 have HB := q0 (Below.refl w.heap.size w)
 have H : (spec_l2Next.l0 k a1 (([] : List Int)) 0 a0_0 l0_1) = some r := h
 clear h
 obtain ⟨y100, hy100⟩ : ∃ y_ : List Int, y_ = (([] : List Int)) := ⟨_, rfl⟩
 replace H : (spec_l2Next.l0 k a1 y100 0 a0_0 l0_1) = some r := qy H hy100
 have Ny100 := q0 hy100
 clear hy100
 have H' := q0 H
 clear H
 go_enter Try.func95, Try.ntmps95
 go_wp2_with (first | ((with_reducible refine gd 2 ?_); refine be 2 #[.int .i64 a0_0, .slice A0_1 l0_1.length c0_1] 25 ?_; intro gb102 hg w3 hbox hb; have BK102 := q0 (hbox); have GW102 := gw HB hg; have GE102 := gw HB hg; replace HB := bp HB hb; clear hb hbox hg) | ((with_reducible refine gd 7 ?_); refine Kd.R_lit (Kd.int .i64) _ 3 ?hg (N := 7) ?hd (xs := ([] : List Int)) (inner := []) (ok := fun _ => True) (okp := fun _ => True) ?hr ?hp (fun _ hk => hk) trivial (Below.refl _ _) (Nat.le_refl _) (by simp) ?_; (case hd => rfl); (case hg => rfl); (case hr => first | (go_simp; done) | (go_simp; rfl)); (case hp => exact (Reps.none _ _)); intro v103 w4 ho5 hb hg_ hnew_; clear hg_ hnew_; (first | rw [← Ny100.out] at ho5 | (simp only [Int.reduceToNat] at ho5; rw [← Ny100.out] at ho5)); have HO104 := q0 (Kd.R_lower ho5 (below_size (qb HB.out))); replace BK102 := kd BK102 hb; replace HB := bp HB hb; clear hb ho5))
 go_loopg [5, 6] k (fun kq v5 v6 w' => ∃ (x5_1 : List Int) (x6_1 : Int), v6 = .int .i64 x6_1 ∧ Aside0 (spec_l2Next.l0 kq a1 x5_1 x6_1 a0_0 l0_1 = some r) ∧ Aside0 (kq ≤ k) ∧ Aside0 (Kd.R (Kd.int .i64) 3 w' w.heap.size (fun _ => True) v5 x5_1) ∧ Aside0 (w'.heap[gb102]? = some (.cells #[.int .i64 a0_0, (.slice A0_1 l0_1.length c0_1)] 25 (0, 0))) ∧ Aside0 (Below w.heap.size w w'))
 case atStart => exact ⟨(y100), (0), qs, H', ⟨Nat.le_refl _⟩, ⟨qr HO104.out⟩, ⟨qk BK102.out⟩, ⟨qb HB.out⟩⟩
 clear H'
 try clear p2
 obtain ⟨x5_1, x6_1, rfl, HA, HK1, HO_5, BK102, HB⟩ := hrel
 rcases gk with _ | k1
 · exact absurd HA.out (by simp [spec_l2Next.l0])
 have H := HA.out
 clear HA
 simp only [spec_l2Next.l0] at H
 by_cases c6 : x6_1 < a0_0
 rotate_left
 · rw [if_neg c6] at H
   have c6b0 := decide_eq_false c6
   clear c6
   obtain rfl := Option.some.inj H
   obtain ⟨hcz15_0, hcz15_1, hfz15_0, hfz15_1⟩ := b2 BK102
   go_wp2
   go_ret
   exact ⟨_, qe, qr HO_5.out, qb HB.out⟩
 rw [if_pos c6] at H
 have c6b0 := decide_eq_true c6
 clear c6
 obtain ⟨t101, A7, H⟩ := ob H
 by_cases c8 : t101 = true
 rotate_left
 · replace c8 := Bool.eq_false_iff.mpr c8
   subst c8
   rw [if_neg nf] at H
   have H' := q0 H
   clear H
   obtain ⟨hcz13_0, hcz13_1, hfz13_0, hfz13_1⟩ := b2 BK102
   go_wp2_with (first | ((with_reducible refine gf 80 ?_); refine gl 17 Try.func80 #[.agg #[.int .i64 a0_0, .slice A0_1 l0_1.length c0_1], .int .i64 a1, .int .i64 x6_1] ?_; (with_reducible refine (spec_l1Has.calls k1 a0_0 _ _ l0_1 a1 x6_1 false _ ?side1 ?side2 A7.out).mono ?_); (case side1 => exact qc (Kd.C_below HR0_1.out HB.out)); (case side2 => exact HC0_1.out); rintro e w14 ⟨rfl, hb⟩; refine ⟨_, rfl, ?_⟩; replace HO_5 := q0 (Kd.R_below (qr HO_5.out) hb); replace BK102 := kd BK102 hb; replace HB := bp HB hb; (try clear hb); (try clear hb2); (try clear hk); (try clear hi)))
   go_roundg k1
   case measure => have := HK1.out; omega
   case rel => exact ⟨(x5_1), (wrap64 (x6_1 + 1)), qs, H', ⟨by have := HK1.out; omega⟩, ⟨qr HO_5.out⟩, ⟨qk BK102.out⟩, ⟨qb HB.out⟩⟩
 subst c8
 rw [if_pos rfl] at H
 obtain ⟨c9, H⟩ : (x5_1.length < 17592186044416) ∧ _ := og H
 have LMc9 := q0 c9
 clear c9
 obtain ⟨y105, hy105⟩ : ∃ y_ : List Int, y_ = (x5_1 ++ [x6_1]) := ⟨_, rfl⟩
 replace H : (spec_l2Next.l0 k1 a1 y105 (wrap64 (x6_1 + 1)) a0_0 l0_1) = some r := qy H hy105
 have Ny105 := q0 hy105
 clear hy105
 have H' := q0 H
 clear H
 obtain ⟨hcz10_0, hcz10_1, hfz10_0, hfz10_1⟩ := b2 BK102
 go_wp2_with (first | ((with_reducible refine gf 80 ?_); refine gl 17 Try.func80 #[.agg #[.int .i64 a0_0, .slice A0_1 l0_1.length c0_1], .int .i64 a1, .int .i64 x6_1] ?_; (with_reducible refine (spec_l1Has.calls k1 a0_0 _ _ l0_1 a1 x6_1 true _ ?side1 ?side2 A7.out).mono ?_); (case side1 => exact qc (Kd.C_below HR0_1.out HB.out)); (case side2 => exact HC0_1.out); rintro e w11 ⟨rfl, hb⟩; refine ⟨_, rfl, ?_⟩; replace HO_5 := q0 (Kd.R_below (qr HO_5.out) hb); replace BK102 := kd BK102 hb; replace HB := bp HB hb; (try clear hb); (try clear hb2); (try clear hk); (try clear hi)) | ((with_reducible refine gate_builtin (b := .append) (xs := #[.tmp 18, .tmp 20]) rfl ?_); at_builtin; refine Kd.R_append (Kd.int .i64) (w0 := w) w.heap.size rfl (.tmp 18) (.tmp 20) 60 3 (.int .i64 0) 8 rfl Try.underlying60 info3 rfl (by decide) (by omega) u5 x5_1 x6_1 [.int .i64 x6_1] (fun _ => True) (fun _ => False) rfl rfl ?aP (fun _ hk => hk.elim) ?aF ?aO ?aB ?aS ?aL ?_; (case aP => exact rfl); (case aB => exact (qb HB.out)); (case aF => exact (fun _ _ => trivial)); (case aO => exact (qr HO_5.out)); (case aS => exact (below_size (qb HB.out))); (case aL => have := LMc9.out; omega); intro v106 w12 ho hb hg hat; rw [← Ny105.out] at ho; replace BK102 := q0 (blk_grown (g := gb102) (o := .cells #[.int .i64 a0_0, .slice A0_1 l0_1.length c0_1] 25 (0, 0)) (qk BK102.out) hg (Kd.R_ne HO_5.out BK102.out (by decide))); replace HB := q0 (hb); have HO107 := q0 (ho); clear HO_5; clear ho hb hg hat))
 go_roundg k1
 case measure => have := HK1.out; omega
 case rel => exact ⟨(y105), (wrap64 (x6_1 + 1)), qs, H', ⟨by have := HK1.out; omega⟩, ⟨qr HO107.out⟩, ⟨qk BK102.out⟩, ⟨qb HB.out⟩⟩

set_option maxHeartbeats 8000000 in
set_option maxRecDepth 100000 in
theorem spec_WayReach.calls (k : Nat) (a0_0 : Int) (A0_1 : Option Addr) (c0_1 : Nat) (l0_1 : List (STie)) (a1 : Int) (r : List Bool) (w : World) (hr0_1 : Kd.C kTie w A0_1 l0_1.length l0_1) (hc0_1 : l0_1.length ≤ c0_1) (h : spec_WayReach.f k a0_0 l0_1 a1 = some r) :
    Calls Try.prog 65 #[.agg #[.int .i64 a0_0, .slice A0_1 l0_1.length c0_1], .int .i64 a1] w fun e w' => ∃ v0_ : Value, e = .returned (v0_) ∧ Kd.R Kd.bool 4 w' w.heap.size (fun _ => True) v0_ r ∧ Below w.heap.size w w' := by
 have hu25 := Try.underlying25
 have HR0_1 := q0 hr0_1
 have HC0_1 := q0 hc0_1
 clear hr0_1 hc0_1
 have HB := q0 (Below.refl w.heap.size w)
 have H : ((spec_l1Knot.f k a0_0 l0_1 a1).bind fun t100 => (if t100 = true then (if 0 ≤ a0_0 then (if (a0_0 : Int).toNat ≤ 281474976710656 then ((some (List.replicate (a0_0 : Int).toNat false : List Bool)).bind fun y102 => (if 0 ≤ a1 then (if a1 < (y102.length : Int) then (spec_WayReach.l0 k (y102.set (a1 : Int).toNat true) (([a1] : List Int)) a0_0 l0_1) else (none)) else (none))) else (none)) else (none)) else (some (([] : List Bool))))) = some r := h
 clear h
 obtain ⟨t100, A3, H⟩ := ob H
 by_cases c4 : t100 = true
 rotate_left
 · replace c4 := Bool.eq_false_iff.mpr c4
   subst c4
   rw [if_neg nf] at H
   obtain ⟨y125, hy125⟩ : ∃ y_ : List Bool, y_ = (([] : List Bool)) := ⟨_, rfl⟩
   replace H : (some y125) = some r := qy H hy125
   have Ny125 := q0 hy125
   clear hy125
   obtain rfl := Option.some.inj H
   go_enter Try.func65, Try.ntmps65
   go_wp2_with (first | ((with_reducible refine gd 2 ?_); refine be 2 #[.int .i64 a0_0, .slice A0_1 l0_1.length c0_1] 25 ?_; intro gb105 hg w43 hbox hb; have BK105 := q0 (hbox); have GW105 := gw HB hg; have GE105 := gw HB hg; replace HB := bp HB hb; clear hb hbox hg; obtain ⟨hcz44_0, hcz44_1, hfz44_0, hfz44_1⟩ := b2 BK105) | ((with_reducible refine gf 67 ?_); refine gl 11 Try.func67 #[.agg #[.int .i64 a0_0, .slice A0_1 l0_1.length c0_1], .int .i64 a1] ?_; (with_reducible refine (spec_l1Knot.calls k a0_0 _ _ l0_1 a1 false _ ?side1 ?side2 A3.out).mono ?_); (case side1 => exact qc (Kd.C_below HR0_1.out HB.out)); (case side2 => exact HC0_1.out); rintro e w45 ⟨rfl, hb⟩; refine ⟨_, rfl, ?_⟩; replace BK105 := kd BK105 hb; replace HB := bp HB hb; (try clear hb); (try clear hb2); (try clear hk); (try clear hi)) | ((with_reducible refine gd 13 ?_); refine Kd.R_lit Kd.bool _ 4 ?hg (N := 13) ?hd (xs := ([] : List Bool)) (inner := []) (ok := fun _ => True) (okp := fun _ => True) ?hr ?hp (fun _ hk => hk) trivial (Below.refl _ _) (Nat.le_refl _) (by simp) ?_; (case hd => rfl); (case hg => rfl); (case hr => first | (go_simp; done) | (go_simp; rfl)); (case hp => exact (Reps.none _ _)); intro v126 w46 ho47 hb hg_ hnew_; clear hg_ hnew_; (first | rw [← Ny125.out] at ho47 | (simp only [Int.reduceToNat] at ho47; rw [← Ny125.out] at ho47)); have HO127 := q0 (Kd.R_lower ho47 (below_size (qb HB.out))); replace BK105 := kd BK105 hb; replace HB := bp HB hb; clear hb ho47))
   go_ret
   exact ⟨_, qe, qr HO127.out, qb HB.out⟩
 subst c4
 rw [if_pos rfl] at H
 obtain ⟨c5, H⟩ : (0 ≤ a0_0) ∧ _ := og H
 have c5b0 := eq_true c5
 have c5b1 := decide_eq_true c5
 clear c5
 obtain ⟨c6, H⟩ : ((a0_0 : Int).toNat ≤ 281474976710656) ∧ _ := og H
 have c6b0 := eq_true c6
 have c6b1 := decide_eq_true c6
 clear c6
 obtain ⟨y102, hy102⟩ : ∃ y_ : List Bool, y_ = (List.replicate (a0_0 : Int).toNat false) := ⟨_, rfl⟩
 replace H : (if 0 ≤ a1 then (if a1 < (y102.length : Int) then (spec_WayReach.l0 k (y102.set (a1 : Int).toNat true) (([a1] : List Int)) a0_0 l0_1) else (none)) else (none)) = some r := qy H hy102
 have Ny102 := q0 hy102
 clear hy102
 obtain ⟨c7, H⟩ : (0 ≤ a1) ∧ _ := og H
 have c7b0 := decide_eq_true c7
 clear c7
 obtain ⟨c8, H⟩ : (a1 < (y102.length : Int)) ∧ _ := og H
 have c8b0 := decide_eq_true c8
 clear c8
 obtain ⟨y103, hy103⟩ : ∃ y_ : List Bool, y_ = (y102.set (a1 : Int).toNat true) := ⟨_, rfl⟩
 replace H : (spec_WayReach.l0 k y103 (([a1] : List Int)) a0_0 l0_1) = some r := qy H hy103
 have Ny103 := q0 hy103
 clear hy103
 obtain ⟨y104, hy104⟩ : ∃ y_ : List Int, y_ = (([a1] : List Int)) := ⟨_, rfl⟩
 replace H : (spec_WayReach.l0 k y103 y104 a0_0 l0_1) = some r := qy H hy104
 have Ny104 := q0 hy104
 clear hy104
 have H' := q0 H
 clear H
 go_enter Try.func65, Try.ntmps65
 go_wp2_with (first | ((with_reducible refine gd 2 ?_); refine be 2 #[.int .i64 a0_0, .slice A0_1 l0_1.length c0_1] 25 ?_; intro gb105 hg w10 hbox hb; have BK105 := q0 (hbox); have GW105 := gw HB hg; have GE105 := gw HB hg; replace HB := bp HB hb; clear hb hbox hg; obtain ⟨hcz11_0, hcz11_1, hfz11_0, hfz11_1⟩ := b2 BK105) | ((with_reducible refine gf 67 ?_); refine gl 11 Try.func67 #[.agg #[.int .i64 a0_0, .slice A0_1 l0_1.length c0_1], .int .i64 a1] ?_; (with_reducible refine (spec_l1Knot.calls k a0_0 _ _ l0_1 a1 true _ ?side1 ?side2 A3.out).mono ?_); (case side1 => exact qc (Kd.C_below HR0_1.out HB.out)); (case side2 => exact HC0_1.out); rintro e w12 ⟨rfl, hb⟩; refine ⟨_, rfl, ?_⟩; replace BK105 := kd BK105 hb; replace HB := bp HB hb; (try clear hb); (try clear hb2); (try clear hk); (try clear hi); obtain ⟨hcz13_0, hcz13_1, hfz13_0, hfz13_1⟩ := b2 BK105) | ((with_reducible refine gd 16 ?_); refine Kd.R_make Kd.bool _ 4 rfl (N := 16) rfl 34 _ _ rfl a0_0 rfl rfl Try.underlying34 (.bool false) 1 info4 rfl (by decide) (by omega) false (ok := fun _ => True) (okp := fun _ => True) rfl (fun _ hk => hk) trivial (of_decide_eq_true qa) (Nat.le_trans (Nat.mul_le_mul_right _ (of_decide_eq_true qa : a0_0.toNat ≤ 281474976710656)) (by omega)) (Below.refl _ _) (Nat.le_refl _) ?_; intro v106 w14 ho15 hb hg_ hnew_; clear hg_ hnew_; (first | rw [← Ny102.out] at ho15 | (simp only [Int.reduceToNat] at ho15; rw [← Ny102.out] at ho15)); have HO107 := q0 (Kd.R_lower ho15 (below_size (qb HB.out))); replace BK105 := kd BK105 hb; replace HB := bp HB hb; clear hb ho15; have p9 : 0 ≤ (a1 : Int) := of_decide_eq_true qa; have q9 : (a1 : Int) < ((y102.length : Int) : Int) := of_decide_eq_true qa; obtain ⟨go9, co9, eo9, gb9, gl9, cl9, HG9⟩ := Kd.R_form HO107.out (by omega); (first | cases eo9 | (injection eo9 with ea_ en_ ec_; (first | subst ea_ | (injection ea_ with ea_; subst ea_)); subst ec_; clear en_)); have GB9 := q0 gb9; have GG9 := q0 HG9; clear gb9 gl9 HG9; obtain ⟨hx9_0, hf9_0⟩ := Kd.R_celln false HO107.out (a1 : Int) p9 q9; replace p9 := eq_true p9; replace q9 := eq_true q9; obtain ⟨hy16_, hz16_⟩ := Kd.R_celln false HO107.out (a1 : Int) (of_decide_eq_true qa) (of_decide_eq_true qa); have HP16 := Kd.R_putg HO107.out (a1 : Int) true) | ((with_reducible refine gate_store (t := 4) (p := 19) rfl ?_); refine store_event (t := 4) (p := 19) (v := ?vo_w17) (w1 := (w14.setCell ⟨go9, (a1 : Int).toNat, none⟩ (.bool true))) ?hg ?ho ?hn ?hr ?_; (case ho => rfl); (case hg => rfl); (case hn => rfl); (case hr => first | (go_simp; done) | (go_simp; rfl)); intro w17 hw; have hg : w14.grownBy w17 (some go9) := (by rw [hw]; exact HP16.2); have hp_ : Kd.R Kd.bool 4 w17 w.heap.size (fun _ => True) (.slice (some ⟨go9, 0, none⟩) y102.length co9) y103 := (by rw [hw, Ny103.out]; exact HP16.1); clear HP16; replace BK105 := q0 (blk_grown (g := gb105) (o := .cells #[.int .i64 a0_0, .slice A0_1 l0_1.length c0_1] 25 (0, 0)) (qk BK105.out) hg (Kd.R_ne HO107.out BK105.out (by decide))); replace HO107 := q0 (hp_); replace HB := q0 ((by rw [hw]; exact below_set (HB.out) GB9.out : Below w.heap.size w w17)); clear hg hw hp_) | ((with_reducible refine gd 21 ?_); refine Kd.R_lit (Kd.int .i64) _ 3 ?hg (N := 21) ?hd (xs := ([a1] : List Int)) (inner := [.int .i64 a1]) (ok := fun _ => True) (okp := fun _ => True) ?hr ?hp (fun _ hk => hk) trivial (Below.refl _ _) (Nat.le_refl _) (by simp) ?_; (case hd => rfl); (case hg => rfl); (case hr => first | (go_simp; done) | (go_simp; rfl)); (case hp => exact (Reps.one (show Kd.M (Kd.int .i64) _ _ _ a1 [.int .i64 a1] from rfl) (Reps.none _ _))); intro v108 w18 ho19 hb hg_ hnew_; clear hg_ hnew_; (first | rw [← Ny104.out] at ho19 | (simp only [Int.reduceToNat] at ho19; rw [← Ny104.out] at ho19)); replace HO107 := q0 (Kd.R_below (qr HO107.out) hb); have HO109 := q0 (Kd.R_lower ho19 (below_size (qb HB.out))); replace BK105 := kd BK105 hb; replace HB := bp HB hb; clear hb ho19))
 go_loopg [6] k (fun kq v6 w' => ∃ (x5_1 : List Bool) (x6_1 : List Int), Aside0 (spec_WayReach.l0 kq x5_1 x6_1 a0_0 l0_1 = some r) ∧ Aside0 (kq ≤ k) ∧ Aside0 (Kd.R Kd.bool 4 w' w.heap.size (fun _ => True) (.slice (some ⟨go9, 0, none⟩) y102.length co9) x5_1) ∧ Aside0 (Kd.Q (Kd.int .i64) 3 w' w.heap.size (fun _ => True) v6 x6_1) ∧ Aside0 (w'.heap[gb105]? = some (.cells #[.int .i64 a0_0, (.slice A0_1 l0_1.length c0_1)] 25 (0, 0))) ∧ Aside0 (Below w.heap.size w w'))
 case atStart => exact ⟨(y103), (y104), H', ⟨Nat.le_refl _⟩, ⟨qr HO107.out⟩, ⟨Kd.Q_of_R (qr HO109.out)⟩, ⟨qk BK105.out⟩, ⟨qb HB.out⟩⟩
 clear H'
 try clear p2
 try clear c4
 try clear c5
 try clear c5b0
 try clear c5b1
 try clear c6
 try clear c6b0
 try clear c6b1
 try clear c7
 try clear c7b0
 try clear c8
 try clear c8b0
 try clear p9
 try clear q9
 try clear hx9
 try clear hf9
 try clear hcz11_0
 try clear hcz11_1
 try clear hcz13_0
 try clear hcz13_1
 try clear hfz11_0
 try clear hfz11_1
 try clear hfz13_0
 try clear hfz13_1
 try clear hx9_0
 try clear p9
 try clear q9
 obtain ⟨x5_1, x6_1, HA, HK1, HO_5, HO_6, BK105, HB⟩ := hrel
 have hl5_1 := (Kd.R_reads' HO_5.out).1
 rw [hl5_1] at HO_5
 (try simp only [hl5_1])
 (try simp only [hl5_1] at BK105)
 (try simp only [hl5_1] at HO_6)
 rcases gk with _ | k1
 · exact absurd HA.out (by simp [spec_WayReach.l0])
 have H := HA.out
 clear HA
 simp only [spec_WayReach.l0] at H
 by_cases c20 : (x6_1.length : Int) > 0
 rotate_left
 · rw [if_neg c20] at H
   have c20b0 := decide_eq_false c20
   have c20b1 : decide (0 < x6_1.length) = false := decide_eq_false (by omega)
   clear c20
   obtain rfl := Option.some.inj H
   obtain ⟨Ao42, co42, eo42, _⟩ := Kd.Q_slice HO_6.out
   subst eo42
   go_wp2
   go_ret
   exact ⟨_, qe, qr HO_5.out, qb HB.out⟩
 rw [if_pos c20] at H
 have c20b0 := decide_eq_true c20
 have c20b1 : decide (0 < x6_1.length) = true := decide_eq_true (by omega)
 clear c20
 obtain ⟨c21, H⟩ : (0 < (x6_1.length : Int)) ∧ _ := og H
 have c21b0 := decide_eq_true c21
 have c21b1 : decide (0 < x6_1.length) = true := decide_eq_true (by omega)
 clear c21
 obtain ⟨t101, A22, H⟩ := ob H
 obtain ⟨c23, H⟩ : (1 ≤ (x6_1.length : Int)) ∧ _ := og H
 have c23b0 := eq_true c23
 have c23b1 := decide_eq_true c23
 clear c23
 obtain ⟨y111, hy111⟩ : ∃ y_ : List Int, y_ = (x6_1.drop (1 : Int).toNat) := ⟨_, rfl⟩
 replace H : (spec_WayReach.l1 k1 x5_1 y111 t101 0 a0_0 l0_1) = some r := qy H hy111
 have Ny111 := q0 hy111
 clear hy111
 have H' := q0 H
 clear H
 obtain ⟨Ao24, co24, eo24, _⟩ := Kd.Q_slice HO_6.out
 subst eo24
 try go_wp2
 replace HO_5 := q0 (Kd.R_drew HO_5.out)
 replace HO_6 := q0 (Kd.Q_drew HO_6.out)
 replace BK105 := q0 (blk_drew BK105.out)
 replace HB := q0 (below_drew1 HB.out)
 have p112 : 0 ≤ (0 : Int) := (by omega)
 have q112 : 0 < (x6_1.length : Int) := of_decide_eq_true qa
 obtain ⟨ad112, e112, hx112_0⟩ := Kd.at_int (Kd.Q_reads' HO_6.out).2.2 0 p112 q112
 cases e112
 have qi112 : (0 < x6_1.length) = True := eq_true (by omega)
 (try rw [show ((0 : Int)).toNat = 0 from rfl] at hx112_0)
 (try rw [Addr.add_zero'] at hx112_0)
 replace p112 := eq_true p112
 replace q112 := eq_true q112
 refine start_ (n := 6) (S := fun w' => w'.cell? ⟨gb105, 0, none⟩ = some (.int .i64 a0_0) ∧ w'.cell? ⟨gb105, 1, none⟩ = some (.slice A0_1 l0_1.length c0_1) ∧ w'.cell? ad112 = some (.int .i64 (rd x6_1 0))) (ds := []) (ba 6 0) (by kernel_rfl) rfl (by kernel_rfl) ⟨bca BK105, bcb BK105, hx112_0⟩ (fun hHeld => ?_)
 generalize wr.drew = w25 at HO_5 HO_6 BK105 HB hx112_0 hHeld ⊢
 refine pw 1 (some 26) (ba 6 2) ?_
 refine pw 2 (some 27) (ba 6 6) ?_
 refine tw 0 (some 25) (ba 6 7) hHeld ?_
 refine tw 3 (some 28) (ba 6 15) hHeld ?_
 refine one_ (i := 4) (N := some 29) (ba 6 31) rfl rfl (by kernel_rfl) (by decide) (fun K hK => ?_)
 refine goes_ Try.func95 (by kernel_rfl) rfl #[.agg #[.int .i64 a0_0, .slice A0_1 l0_1.length c0_1], .int .i64 (rd x6_1 0)] (by rfl) rfl rfl qm ?_
 with_reducible refine (spec_l2Next.calls k1 a0_0 _ _ l0_1 (rd x6_1 0) t101 _ ?side1 ?side2 A22.out).mono ?_
 (case side1 => exact qc (Kd.C_below HR0_1.out HB.out))
 (case side2 => exact HC0_1.out)
 rintro e w26 ⟨v113, rfl, ho0, hb⟩
 have HS2_ := hcl hb hHeld.2.2
 refine ⟨_, rfl, ?_⟩
 replace HO_5 := q0 (Kd.R_below (qr HO_5.out) hb)
 have HO114 := q0 (Kd.R_lower (Kd.R_new' ho0 (Kd.Q_lt (qq HO_6.out))) (below_size (qb HB.out)))
 replace HO_6 := q0 (Kd.Q_elder' (qq HO_6.out) (Kd.R_base ho0) hb)
 replace BK105 := kd BK105 hb
 replace HB := bp HB hb
 (try clear hb)
 (try clear hb2)
 (try clear hk)
 (try clear hi)
 (try clear ho0)
 refine hK.out _ _ ⟨bca BK105, bcb BK105, HS2_⟩ (fun hHeld => ?_)
 clear hK K
 refine nu 29 ?_
 refine pw 5 (some 7) (ba 6 63) ?_
 refine done_ (by kernel_rfl) ?_
 have n_ := q0 (Kd.Q_mono (ok' := (fun k_ => some k_ ≠ (v113 : Value).ownBlock)) HO_6.out (fun k_ hk => hk.2))
 clear HO_6
 have HO_6 := n_
 clear n_
 have q27 : (1 : Int) ≤ ((x6_1.length : Int) : Int) := of_decide_eq_true qa
 obtain ⟨i115, hi115, _, hsz27, _⟩ := info_parts info3
 have hcut27 := cut_from (P := Try.prog) 60 3 .i64 Try.underlying60 hi115 1 hsz27 (some ad112) x6_1.length co24 1 (by omega) q27
 have hr27 := Kd.Q_drop (k := (1 : Int).toNat) HO_6.out (by omega)
 obtain ⟨A27, hA27⟩ : ∃ A1, A1 = (if co24 = (1 : Int).toNat then (some ad112) else ((some ad112) : Option Addr).map (·.add ((1 : Int).toNat * 1))) := ⟨_, rfl⟩
 obtain ⟨c27, hc27⟩ : ∃ c1, c1 = co24 - (1 : Int).toNat := ⟨_, rfl⟩
 have hy27 : y111.length = x6_1.length - (1 : Int).toNat := (by rw [Ny111.out, List.length_drop])
 rw [← Ny111.out] at hr27
 rw [← hy27, ← hA27, ← hc27] at hcut27
 replace hr27 : Kd.Q (Kd.int .i64) 3 w26 w.heap.size (fun k_ => some k_ ≠ (v113 : Value).ownBlock) (.slice A27 y111.length c27) y111 := (by rw [hA27, hc27, hy27]; exact hr27)
 have HE27 : Aside0 ((Value.slice A27 y111.length c27).ownBlock = (.slice (some ad112) x6_1.length co24 : Value).ownBlock) := ⟨by rw [hA27]; split <;> (cases ((some ad112) : Option Addr) <;> rfl)⟩
 clear hy27 hi115 hsz27 HO_6 hA27 hc27
 have HO116 := q0 hr27
 clear hr27
 replace q27 := eq_true q27
 have n_ := q0 (Kd.R_mono (ok' := fun k_ => (True ∧ some k_ ≠ (.slice A27 y111.length c27 : Value).ownBlock)) HO114.out (fun k_ hk => ⟨trivial, (by rw [HE27.out]; exact hk.2)⟩))
 clear HO114
 have HO114 := n_
 clear n_
 try go_wp2
 go_loopg [6, 8] k1 (fun kq v6 v8 w' => ∃ (x5_2 : List Bool) (x6_2 : List Int) (x8_2 : Int), v8 = .int .i64 x8_2 ∧ Aside0 (spec_WayReach.l1 kq x5_2 x6_2 t101 x8_2 a0_0 l0_1 = some r) ∧ Aside0 (kq ≤ k1) ∧ Aside0 (Kd.R Kd.bool 4 w' w.heap.size (fun _ => True) (.slice (some ⟨go9, 0, none⟩) x5_1.length co9) x5_2) ∧ Aside0 (Kd.Q (Kd.int .i64) 3 w' w.heap.size (fun k_ => some k_ ≠ (v113 : Value).ownBlock) v6 x6_2) ∧ Aside0 (Kd.R (Kd.int .i64) 3 w' w.heap.size (fun k_ => some k_ ≠ (v6 : Value).ownBlock) v113 t101) ∧ Aside0 (w'.heap[gb105]? = some (.cells #[.int .i64 a0_0, (.slice A0_1 l0_1.length c0_1)] 25 (0, 0))) ∧ Aside0 (Below w.heap.size w w'))
 case atStart => exact ⟨(x5_1), (y111), (0), qs, H', ⟨Nat.le_refl _⟩, ⟨by (try simp only [hl5_1]); (with_reducible repeat (first | apply Kd.R_alloc | apply Kd.R_drewN | apply Kd.R_drew)); exact HO_5.out⟩, ⟨by (try simp only [hl5_1]); (with_reducible repeat (first | apply Kd.Q_alloc | apply Kd.Q_drewN | apply Kd.Q_drew)); exact HO116.out⟩, ⟨by (try simp only [hl5_1]); (with_reducible repeat (first | apply Kd.R_alloc | apply Kd.R_drewN | apply Kd.R_drew)); exact Kd.R_mono HO114.out (fun _ hk => hk.2)⟩, ⟨by (try simp only [hl5_1]); (with_reducible repeat (first | refine blk_drewN ?_ _ | refine blk_drew ?_ | refine blk_alloc ?_ _)); exact BK105.out⟩, ⟨qb HB.out⟩⟩
 clear H'
 try clear c1
 try clear c2
 try clear p2
 try clear q2
 try clear hx2
 try clear qi2
 try clear c4
 try clear c5
 try clear c5b0
 try clear c5b1
 try clear c6
 try clear c6b0
 try clear c6b1
 try clear c7
 try clear c7b0
 try clear c8
 try clear c8b0
 try clear c9
 try clear p9
 try clear q9
 try clear hx9
 try clear hf9
 try clear c20
 try clear c20b0
 try clear c20b1
 try clear p20
 try clear q20
 try clear hx20
 try clear qi20
 try clear c21
 try clear c21b0
 try clear c21b1
 try clear c23
 try clear c23b0
 try clear c23b1
 try clear c27
 try clear q27
 try clear hcz11_0
 try clear hcz11_1
 try clear hcz13_0
 try clear hcz13_1
 try clear hfz11_0
 try clear hfz11_1
 try clear hfz13_0
 try clear hfz13_1
 try clear hx112_0
 try clear hx9_0
 try clear p2
 try clear p112
 try clear p9
 try clear q112
 try clear q27
 try clear q9
 obtain ⟨x5_2, x6_2, x8_2, rfl, HA, HK2, HO_5, HO_6, HO_7, BK105, HB⟩ := hrel
 have hl5_2 := (Kd.R_reads' HO_5.out).1
 rw [hl5_2] at HO_5
 (try simp only [hl5_2])
 (try simp only [hl5_2] at BK105)
 (try simp only [hl5_2] at HO_6)
 (try simp only [hl5_2] at HO_7)
 rcases gk with _ | k2
 · exact absurd HA.out (by simp [spec_WayReach.l1])
 have H := HA.out
 clear HA
 simp only [spec_WayReach.l1] at H
 by_cases c28 : x8_2 < (t101.length : Int)
 rotate_left
 · rw [if_neg c28] at H
   have c28b0 := decide_eq_false c28
   clear c28
   have H' := q0 H
   clear H
   obtain ⟨Ao41, co41, eo41⟩ := Kd.R_slice HO_7.out
   subst eo41
   go_wp2
   (try simp only [← hl5_1, ← hl5_2])
   go_roundg k2
   case measure => have := HK1.out; have := HK2.out; omega
   case rel => exact ⟨(x5_2), (x6_2), H', ⟨by have := HK1.out; have := HK2.out; omega⟩, ⟨by (try simp only [hl5_1]); (try simp only [hl5_2]); (with_reducible repeat (first | apply Kd.R_alloc | apply Kd.R_drewN | apply Kd.R_drew)); exact HO_5.out⟩, ⟨by (try simp only [hl5_1]); (try simp only [hl5_2]); (with_reducible repeat (first | apply Kd.Q_alloc | apply Kd.Q_drewN | apply Kd.Q_drew)); exact Kd.Q_mono HO_6.out (fun _ hk => trivial)⟩, ⟨by (try simp only [hl5_1]); (try simp only [hl5_2]); (with_reducible repeat (first | refine blk_drewN ?_ _ | refine blk_drew ?_ | refine blk_alloc ?_ _)); exact BK105.out⟩, ⟨qb HB.out⟩⟩
 rw [if_pos c28] at H
 have c28b0 := decide_eq_true c28
 clear c28
 obtain ⟨c29, H⟩ : (0 ≤ x8_2) ∧ _ := og H
 have c29b0 := decide_eq_true c29
 clear c29
 obtain ⟨c30, H⟩ : (0 ≤ (rd t101 x8_2)) ∧ _ := og H
 have c30b0 := decide_eq_true c30
 clear c30
 obtain ⟨c31, H⟩ : ((rd t101 x8_2) < (x5_2.length : Int)) ∧ _ := og H
 have c31b0 := decide_eq_true c31
 clear c31
 obtain ⟨bq32, hbq32⟩ : ∃ b_ : Bool, b_ = (rdOf false x5_2 (rd t101 x8_2)) := ⟨_, rfl⟩
 replace H : (if (bq32 = true) then (spec_WayReach.l1 k2 x5_2 x6_2 t101 (wrap64 (x8_2 + 1)) a0_0 l0_1) else (if x6_2.length < 17592186044416 then (spec_WayReach.l1 k2 (x5_2.set ((rd t101 x8_2) : Int).toNat true) (x6_2 ++ [rd t101 x8_2]) t101 (wrap64 (x8_2 + 1)) a0_0 l0_1) else (none))) = some r := by rw [← hbq32] at H; exact H
 have Nbq32 := q0 hbq32
 clear hbq32
 by_cases c33 : (bq32 = true)
 · subst c33
   rw [if_pos rfl] at H
   have H' := q0 H
   clear H
   obtain ⟨Ao34, co34, eo34⟩ := Kd.R_slice HO_7.out
   subst eo34
   have p117 : 0 ≤ (x8_2 : Int) := of_decide_eq_true qa
   have q117 : x8_2 < (t101.length : Int) := of_decide_eq_true qa
   obtain ⟨ad117, e117, hx117_0⟩ := Kd.at_int (Kd.R_reads' HO_7.out).2.2 x8_2 p117 q117
   cases e117
   replace p117 := eq_true p117
   replace q117 := eq_true q117
   have p118 : 0 ≤ ((rd t101 x8_2) : Int) := of_decide_eq_true qa
   have q118 : (rd t101 x8_2) < (x5_2.length : Int) := of_decide_eq_true qa
   obtain ⟨ad118, e118, hx118_0⟩ := Kd.at_bool (Kd.R_reads' HO_5.out).2.2 (rd t101 x8_2) p118 q118
   (try rw [← Nbq32.out] at hx118_0)
   obtain rfl : (⟨go9, 0, none⟩ : Addr) = ad118 := (by injection e118)
   (first | simp only [add_plain] at hx118_0 | simp only [add_at] at hx118_0 | simp only [Addr.add, Nat.zero_add] at hx118_0 | skip)
   replace p118 := eq_true p118
   replace q118 := eq_true q118
   go_wp2
   (try simp only [← hl5_2])
   go_roundg k2
   case measure => have := HK1.out; have := HK2.out; omega
   case rel => exact ⟨(x5_2), (x6_2), (wrap64 (x8_2 + 1)), qs, H', ⟨by have := HK1.out; have := HK2.out; omega⟩, ⟨by (try simp only [hl5_1]); (try simp only [hl5_2]); (with_reducible repeat (first | apply Kd.R_alloc | apply Kd.R_drewN | apply Kd.R_drew)); exact HO_5.out⟩, ⟨by (try simp only [hl5_1]); (try simp only [hl5_2]); (with_reducible repeat (first | apply Kd.Q_alloc | apply Kd.Q_drewN | apply Kd.Q_drew)); exact HO_6.out⟩, ⟨by (try simp only [hl5_1]); (try simp only [hl5_2]); (with_reducible repeat (first | apply Kd.R_alloc | apply Kd.R_drewN | apply Kd.R_drew)); exact HO_7.out⟩, ⟨by (try simp only [hl5_1]); (try simp only [hl5_2]); (with_reducible repeat (first | refine blk_drewN ?_ _ | refine blk_drew ?_ | refine blk_alloc ?_ _)); exact BK105.out⟩, ⟨qb HB.out⟩⟩
 replace c33 := Bool.eq_false_iff.mpr c33
 subst c33
 rw [if_neg nf] at H
 obtain ⟨y119, hy119⟩ : ∃ y_ : List Bool, y_ = (x5_2.set ((rd t101 x8_2) : Int).toNat true) := ⟨_, rfl⟩
 replace H : (if x6_2.length < 17592186044416 then (spec_WayReach.l1 k2 y119 (x6_2 ++ [rd t101 x8_2]) t101 (wrap64 (x8_2 + 1)) a0_0 l0_1) else (none)) = some r := qy H hy119
 have Ny119 := q0 hy119
 clear hy119
 obtain ⟨c36, H⟩ : (x6_2.length < 17592186044416) ∧ _ := og H
 have LMc36 := q0 c36
 clear c36
 obtain ⟨y120, hy120⟩ : ∃ y_ : List Int, y_ = (x6_2 ++ [rd t101 x8_2]) := ⟨_, rfl⟩
 replace H : (spec_WayReach.l1 k2 y119 y120 t101 (wrap64 (x8_2 + 1)) a0_0 l0_1) = some r := qy H hy120
 have Ny120 := q0 hy120
 clear hy120
 have H' := q0 H
 clear H
 obtain ⟨Ao37, co37, eo37⟩ := Kd.R_slice HO_7.out
 subst eo37
 have p117 : 0 ≤ (x8_2 : Int) := of_decide_eq_true qa
 have q117 : x8_2 < (t101.length : Int) := of_decide_eq_true qa
 obtain ⟨ad117, e117, hx117_0⟩ := Kd.at_int (Kd.R_reads' HO_7.out).2.2 x8_2 p117 q117
 cases e117
 replace p117 := eq_true p117
 replace q117 := eq_true q117
 have p118 : 0 ≤ ((rd t101 x8_2) : Int) := of_decide_eq_true qa
 have q118 : (rd t101 x8_2) < (x5_2.length : Int) := of_decide_eq_true qa
 obtain ⟨ad118, e118, hx118_0⟩ := Kd.at_bool (Kd.R_reads' HO_5.out).2.2 (rd t101 x8_2) p118 q118
 (try rw [← Nbq32.out] at hx118_0)
 obtain rfl : (⟨go9, 0, none⟩ : Addr) = ad118 := (by injection e118)
 (first | simp only [add_plain] at hx118_0 | simp only [add_at] at hx118_0 | simp only [Addr.add, Nat.zero_add] at hx118_0 | skip)
 replace p118 := eq_true p118
 replace q118 := eq_true q118
 have p121 : 0 ≤ (x8_2 : Int) := of_decide_eq_true qa
 have q121 : x8_2 < (t101.length : Int) := of_decide_eq_true qa
 obtain ⟨ad121, e121, hx121_0⟩ := Kd.at_int (Kd.R_reads' HO_7.out).2.2 x8_2 p121 q121
 obtain rfl : ad117 = ad121 := (by injection e121)
 replace p121 := eq_true p121
 replace q121 := eq_true q121
 have p35 : 0 ≤ ((rd t101 x8_2) : Int) := of_decide_eq_true qa
 have q35 : ((rd t101 x8_2) : Int) < ((x5_2.length : Int) : Int) := of_decide_eq_true qa
 obtain ⟨hx35_0, hf35_0⟩ := Kd.R_celln false HO_5.out ((rd t101 x8_2) : Int) p35 q35
 replace p35 := eq_true p35
 replace q35 := eq_true q35
 have HP38 := Kd.R_putg HO_5.out ((rd t101 x8_2) : Int) true
 go_wp2_with (first | ((with_reducible refine gate_store (t := 4) (p := 51) rfl ?_); refine store_event (t := 4) (p := 51) (v := ?vo_w39) (w1 := (wr.setCell ⟨go9, ((rd t101 x8_2) : Int).toNat, none⟩ (.bool true))) ?hg ?ho ?hn ?hr ?_; (case ho => rfl); (case hg => rfl); (case hn => rfl); (case hr => first | (go_simp; done) | (go_simp; rfl)); intro w39 hw; have hg : wr.grownBy w39 (some go9) := (by rw [hw]; exact HP38.2); have hp_ : Kd.R Kd.bool 4 w39 w.heap.size (fun _ => True) (.slice (some ⟨go9, 0, none⟩) x5_2.length co9) y119 := (by rw [hw, Ny119.out]; exact HP38.1); clear HP38; replace HO_6 := q0 (Kd.Q_over' (v := (.slice (some ⟨go9, 0, none⟩) x5_2.length co9)) (qq HO_6.out) (Kd.R_typed HO_5.out) (by decide) hg); replace HO_7 := q0 (Kd.R_over' (v := (.slice (some ⟨go9, 0, none⟩) x5_2.length co9)) (qr HO_7.out) (Kd.R_typed HO_5.out) (by decide) hg); replace BK105 := q0 (blk_grown (g := gb105) (o := .cells #[.int .i64 a0_0, .slice A0_1 l0_1.length c0_1] 25 (0, 0)) (qk BK105.out) hg (Kd.R_ne HO_5.out BK105.out (by decide))); replace HO_5 := q0 (hp_); replace HB := q0 ((by rw [hw]; exact below_set (HB.out) GB9.out : Below w.heap.size w w39)); clear hg hw hp_; have p122 : 0 ≤ (x8_2 : Int) := of_decide_eq_true qa; have q122 : x8_2 < (t101.length : Int) := of_decide_eq_true qa; obtain ⟨ad122, e122, hx122_0⟩ := Kd.at_int (Kd.R_reads' HO_7.out).2.2 x8_2 p122 q122; obtain rfl : ad117 = ad122 := (by injection e122); replace p122 := eq_true p122; replace q122 := eq_true q122) | ((with_reducible refine gate_builtin (b := .append) (xs := #[.tmp 52, .tmp 57]) rfl ?_); at_builtin; refine Kd.Q_append (Kd.int .i64) (w0 := w) w.heap.size rfl (.tmp 52) (.tmp 57) 60 3 (.int .i64 0) 8 rfl Try.underlying60 info3 rfl (by decide) (by omega) u6 x6_2 (rd t101 x8_2) [.int .i64 (rd t101 x8_2)] (fun k_ => some k_ ≠ (.slice (some ad117) t101.length co37 : Value).ownBlock) (fun _ => False) rfl rfl ?aP (fun _ hk => hk.elim) ?aF ?aO ?aB ?aS ?aL ?_; (case aP => exact rfl); (case aB => exact (qb HB.out)); (case aF => exact (fun k_ hk => Kd.fresh' (Kd.R_lt (qr HO_7.out)) k_ hk)); (case aO => exact (qq HO_6.out)); (case aS => exact (below_size (qb HB.out))); (case aL => have := LMc36.out; omega); intro v123 w40 ho hb hg hat; rw [← Ny120.out] at ho; replace HO_5 := q0 (Kd.R_over' (qr HO_5.out) (Kd.Q_typed (qq HO_6.out)) (by decide) hg); replace HO_7 := q0 (Kd.R_after (ok := (fun _ => True)) (by (with_reducible repeat (first | apply Kd.R_alloc | apply Kd.R_drewN | apply Kd.R_drew)); exact Kd.R_mono HO_7.out (fun _ hk => ⟨trivial, hk⟩)) hg hat); replace BK105 := q0 (blk_grown (g := gb105) (o := .cells #[.int .i64 a0_0, .slice A0_1 l0_1.length c0_1] 25 (0, 0)) (qk BK105.out) hg (Kd.Q_ne HO_6.out BK105.out (by decide))); replace HB := q0 (hb); have HO124 := q0 (ho); clear HO_6; clear ho hb hg hat))
 (try simp only [← hl5_2])
 go_roundg k2
 case measure => have := HK1.out; have := HK2.out; omega
 case rel => exact ⟨(y119), (y120), (wrap64 (x8_2 + 1)), qs, H', ⟨by have := HK1.out; have := HK2.out; omega⟩, ⟨by (try simp only [hl5_1]); (try simp only [hl5_2]); (with_reducible repeat (first | apply Kd.R_alloc | apply Kd.R_drewN | apply Kd.R_drew)); exact HO_5.out⟩, ⟨by (try simp only [hl5_1]); (try simp only [hl5_2]); (with_reducible repeat (first | apply Kd.Q_alloc | apply Kd.Q_drewN | apply Kd.Q_drew)); exact HO124.out⟩, ⟨by (try simp only [hl5_1]); (try simp only [hl5_2]); (with_reducible repeat (first | apply Kd.R_alloc | apply Kd.R_drewN | apply Kd.R_drew)); exact Kd.R_mono HO_7.out (fun _ hk => hk.2)⟩, ⟨by (try simp only [hl5_1]); (try simp only [hl5_2]); (with_reducible repeat (first | refine blk_drewN ?_ _ | refine blk_drew ?_ | refine blk_alloc ?_ _)); exact BK105.out⟩, ⟨qb HB.out⟩⟩

def spec_TreeOf.T7 : Bool × List (List Nat × List Nat) := (true, [([], []), ([0], [0]), ([], []), ([1, 2], [1, 2]), ([], []), ([4], [4]), ([], []), ([5, 6], [5, 6]), ([7], [7]), ([8], [8]), ([3, 9], [3, 9]), ([10, 10, 0, 1, 2, 3, 4, 5, 6, 7, 8, 9, 10], [10])])
def spec_TreeOf.B7 : List Nat := [0, 1, 0, 7, 0, 16, 0, 112, 240, 496, 1023, 2047]
theorem spec_TreeOf.tab7 : rtab .any (opsOf Try.f24 7) = spec_TreeOf.T7 := by kernel_rfl
theorem spec_TreeOf.bits7 : waitsOk spec_TreeOf.T7.2 spec_TreeOf.B7 = true := by kernel_rfl
set_option maxHeartbeats 8000000 in
set_option maxRecDepth 100000 in
theorem spec_TreeOf.calls (k : Nat) (a0_0 : Int) (A0_1 : Option Addr) (c0_1 : Nat) (l0_1 : List (STie)) (r : List (STie)) (w : World) (hr0_1 : Kd.C kTie w A0_1 l0_1.length l0_1) (hc0_1 : l0_1.length ≤ c0_1) (h : spec_TreeOf.f k a0_0 l0_1 = some r) :
    Calls Try.prog 24 #[.agg #[.int .i64 a0_0, .slice A0_1 l0_1.length c0_1]] w fun e w' => ∃ v0_ : Value, e = .returned (v0_) ∧ Kd.R kTie 32 w' w.heap.size (fun _ => True) v0_ r ∧ Below w.heap.size w w' := by
 have hu25 := Try.underlying25
 have hu32 := Try.underlying32
 have HR0_1 := q0 hr0_1
 have HC0_1 := q0 hc0_1
 clear hr0_1 hc0_1
 have HB := q0 (Below.refl w.heap.size w)
 have H : ((some (([] : List (STie)) : List (STie))).bind fun y100 => ((spec_NetOk.f k a0_0 l0_1).bind fun t102 => (if t102 = true then (spec_TreeOf.l0 k y100 0 a0_0 l0_1) else (some y100)))) = some r := h
 clear h
 obtain ⟨y100, hy100⟩ : ∃ y_ : List (STie), y_ = (([] : List (STie))) := ⟨_, rfl⟩
 replace H : ((spec_NetOk.f k a0_0 l0_1).bind fun t102 => (if t102 = true then (spec_TreeOf.l0 k y100 0 a0_0 l0_1) else (some y100))) = some r := qy H hy100
 have Ny100 := q0 hy100
 clear hy100
 obtain ⟨t102, A2, H⟩ := ob H
 by_cases c3 : t102 = true
 rotate_left
 · replace c3 := Bool.eq_false_iff.mpr c3
   subst c3
   rw [if_neg nf] at H
   obtain rfl := Option.some.inj H
   go_enter Try.func24, Try.ntmps24
   go_wp2_with (first | ((with_reducible refine gd 1 ?_); refine be 1 #[.int .i64 a0_0, .slice A0_1 l0_1.length c0_1] 25 ?_; intro gb103 hg w31 hbox hb; have BK103 := q0 (hbox); have GW103 := gw HB hg; have GE103 := gw HB hg; replace HB := bp HB hb; clear hb hbox hg) | ((with_reducible refine gd 6 ?_); refine Kd.R_lit kTie _ 32 ?hg (N := 6) ?hd (xs := ([] : List (STie))) (inner := []) (ok := fun _ => True) (okp := fun _ => True) ?hr ?hp (fun _ hk => hk) trivial (Below.refl _ _) (Nat.le_refl _) (by simp) ?_; (case hd => rfl); (case hg => rfl); (case hr => first | (go_simp; done) | (go_simp; rfl)); (case hp => exact (Reps.none _ _)); intro v104 w32 ho33 hb hg_ hnew_; clear hg_ hnew_; (first | rw [← Ny100.out] at ho33 | (simp only [Int.reduceToNat] at ho33; rw [← Ny100.out] at ho33)); have HO105 := q0 (Kd.R_lower ho33 (below_size (qb HB.out))); replace BK103 := kd BK103 hb; replace HB := bp HB hb; clear hb ho33; obtain ⟨hcz34_0, hcz34_1, hfz34_0, hfz34_1⟩ := b2 BK103) | ((with_reducible refine gf 49 ?_); refine gl 8 Try.func49 #[.agg #[.int .i64 a0_0, .slice A0_1 l0_1.length c0_1]] ?_; (with_reducible refine (spec_NetOk.calls k a0_0 _ _ l0_1 false _ ?side1 ?side2 A2.out).mono ?_); (case side1 => exact qc (Kd.C_below HR0_1.out HB.out)); (case side2 => exact HC0_1.out); rintro e w35 ⟨rfl, hb⟩; refine ⟨_, rfl, ?_⟩; replace HO105 := q0 (Kd.R_below (qr HO105.out) hb); replace BK103 := kd BK103 hb; replace HB := bp HB hb; (try clear hb); (try clear hb2); (try clear hk); (try clear hi)))
   go_ret
   exact ⟨_, qe, qr HO105.out, qb HB.out⟩
 subst c3
 rw [if_pos rfl] at H
 have H' := q0 H
 clear H
 go_enter Try.func24, Try.ntmps24
 go_wp2_with (first | ((with_reducible refine gd 1 ?_); refine be 1 #[.int .i64 a0_0, .slice A0_1 l0_1.length c0_1] 25 ?_; intro gb103 hg w4 hbox hb; have BK103 := q0 (hbox); have GW103 := gw HB hg; have GE103 := gw HB hg; replace HB := bp HB hb; clear hb hbox hg) | ((with_reducible refine gd 6 ?_); refine Kd.R_lit kTie _ 32 ?hg (N := 6) ?hd (xs := ([] : List (STie))) (inner := []) (ok := fun _ => True) (okp := fun _ => True) ?hr ?hp (fun _ hk => hk) trivial (Below.refl _ _) (Nat.le_refl _) (by simp) ?_; (case hd => rfl); (case hg => rfl); (case hr => first | (go_simp; done) | (go_simp; rfl)); (case hp => exact (Reps.none _ _)); intro v104 w5 ho6 hb hg_ hnew_; clear hg_ hnew_; (first | rw [← Ny100.out] at ho6 | (simp only [Int.reduceToNat] at ho6; rw [← Ny100.out] at ho6)); have HO105 := q0 (Kd.R_lower ho6 (below_size (qb HB.out))); replace BK103 := kd BK103 hb; replace HB := bp HB hb; clear hb ho6; obtain ⟨hcz7_0, hcz7_1, hfz7_0, hfz7_1⟩ := b2 BK103) | ((with_reducible refine gf 49 ?_); refine gl 8 Try.func49 #[.agg #[.int .i64 a0_0, .slice A0_1 l0_1.length c0_1]] ?_; (with_reducible refine (spec_NetOk.calls k a0_0 _ _ l0_1 true _ ?side1 ?side2 A2.out).mono ?_); (case side1 => exact qc (Kd.C_below HR0_1.out HB.out)); (case side2 => exact HC0_1.out); rintro e w8 ⟨rfl, hb⟩; refine ⟨_, rfl, ?_⟩; replace HO105 := q0 (Kd.R_below (qr HO105.out) hb); replace BK103 := kd BK103 hb; replace HB := bp HB hb; (try clear hb); (try clear hb2); (try clear hk); (try clear hi)))
 go_loopg [3, 4] k (fun kq v3 v4 w' => ∃ (x3_1 : List (STie)) (x4_1 : Int), v4 = .int .i64 x4_1 ∧ Aside0 (spec_TreeOf.l0 kq x3_1 x4_1 a0_0 l0_1 = some r) ∧ Aside0 (kq ≤ k) ∧ Aside0 (Kd.R kTie 32 w' w.heap.size (fun _ => True) v3 x3_1) ∧ Aside0 (w'.heap[gb103]? = some (.cells #[.int .i64 a0_0, (.slice A0_1 l0_1.length c0_1)] 25 (0, 0))) ∧ Aside0 (Below w.heap.size w w'))
 case atStart => exact ⟨(y100), (0), qs, H', ⟨Nat.le_refl _⟩, ⟨qr HO105.out⟩, ⟨qk BK103.out⟩, ⟨qb HB.out⟩⟩
 clear H'
 try clear c2
 try clear p2
 try clear c3
 try clear c4
 try clear hcz7_0
 try clear hcz7_1
 try clear hfz7_0
 try clear hfz7_1
 obtain ⟨x3_1, x4_1, rfl, HA, HK1, HO_3, BK103, HB⟩ := hrel
 rcases gk with _ | k1
 · exact absurd HA.out (by simp [spec_TreeOf.l0])
 have H := HA.out
 clear HA
 simp only [spec_TreeOf.l0] at H
 by_cases c9 : x4_1 < (l0_1.length : Int)
 rotate_left
 · rw [if_neg c9] at H
   have c9b0 := decide_eq_false c9
   clear c9
   obtain rfl := Option.some.inj H
   obtain ⟨hcz30_0, hcz30_1, hfz30_0, hfz30_1⟩ := b2 BK103
   go_wp2
   go_ret
   exact ⟨_, qe, qr HO_3.out, qb HB.out⟩
 rw [if_pos c9] at H
 have c9b0 := decide_eq_true c9
 clear c9
 obtain ⟨c10, H⟩ : (0 ≤ x4_1) ∧ _ := og H
 have c10b0 := decide_eq_true c10
 clear c10
 obtain ⟨t101, A11, H⟩ := ob H
 obtain ⟨c12, H⟩ : (0 ≤ ((rd_TTie l0_1 x4_1).f1)) ∧ _ := og H
 have c12b0 := decide_eq_true c12
 clear c12
 obtain ⟨c13, H⟩ : (((rd_TTie l0_1 x4_1).f1) < (t101.length : Int)) ∧ _ := og H
 have c13b0 := decide_eq_true c13
 clear c13
 obtain ⟨bq14, hbq14⟩ : ∃ b_ : Bool, b_ = (rdOf false t101 ((rd_TTie l0_1 x4_1).f1)) := ⟨_, rfl⟩
 replace H : (if (bq14 = true) then (spec_TreeOf.l0 k1 x3_1 (wrap64 (x4_1 + 1)) a0_0 l0_1) else (if x3_1.length < 8796093022208 then (spec_TreeOf.l0 k1 (x3_1 ++ [(⟨(rd_TTie l0_1 x4_1).f0, (rd_TTie l0_1 x4_1).f1⟩ : STie)]) (wrap64 (x4_1 + 1)) a0_0 l0_1) else (none))) = some r := by rw [← hbq14] at H; exact H
 have Nbq14 := q0 hbq14
 clear hbq14
 by_cases c15 : (bq14 = true)
 · subst c15
   rw [if_pos rfl] at H
   have H' := q0 H
   clear H
   obtain ⟨hcz16_0, hcz16_1, hfz16_0, hfz16_1⟩ := b2 BK103
   try go_wp2
   replace HO_3 := q0 (Kd.R_drew HO_3.out)
   replace BK103 := q0 (blk_drew BK103.out)
   replace HB := q0 (below_drew1 HB.out)
   obtain ⟨Ao18, co18, eo18⟩ := Kd.R_slice HO_3.out
   (first | subst eo18 | (injection eo18 with f1_ f2_ f3_; have f4_ := f1_.symm; have f5_ := f3_.symm; clear f1_ f2_ f3_; subst f4_; subst f5_))
   have p107 : 0 ≤ (x4_1 : Int) := of_decide_eq_true qa
   have q107 : x4_1 < (l0_1.length : Int) := of_decide_eq_true qa
   obtain ⟨ad107, e107, hx107_0, hx107_1⟩ := at_TTie HR0_1.out x4_1 p107 q107
   have hw107_1 := hx107_1
   have hw107_0 := hx107_0
   cases e107
   replace hx107_0 := hcl HB.out hx107_0
   replace hx107_1 := hcl HB.out hx107_1
   replace p107 := eq_true p107
   replace q107 := eq_true q107
   refine start_ (n := 12) (S := fun w' => w'.cell? ⟨gb103, 0, none⟩ = some (.int .i64 a0_0) ∧ w'.cell? ⟨gb103, 1, none⟩ = some (.slice (some ad107) l0_1.length c0_1) ∧ w'.cell? (ad107.add ((x4_1).toNat * 2)) = some (.int .i64 ((rd_TTie l0_1 x4_1).f0)) ∧ w'.cell? ⟨(ad107.add ((x4_1).toNat * 2)).block, (ad107.add ((x4_1).toNat * 2)).off + 1, none⟩ = some (.int .i64 ((rd_TTie l0_1 x4_1).f1))) (ds := []) (ba 12 0) (by kernel_rfl) rfl (by kernel_rfl) ⟨bca BK103, bcb BK103, ((HB.out.cell (World.block_lt_of_cell? w _ hw107_0)).trans hw107_0), ((HB.out.cell (World.block_lt_of_cell? w _ hw107_1)).trans hw107_1)⟩ (fun hHeld => ?_); refine with_tabW spec_TreeOf.tab7 spec_TreeOf.bits7 (fun HT_ HW_ => ?_)
   generalize wr.drew = w17 at HO_3 BK103 HB hx107_0 hx107_1 hHeld ⊢
   refine pU 0 18 12 1 HT_ ?_
   refine pU 2 20 12 5 HT_ ?_
   refine pU 4 22 12 21 HT_ ?_
   refine pU 6 24 12 85 HT_ ?_
   refine tU 1 19 12 87 HT_ HW_ hHeld ?_
   refine pU 3 21 12 95 HT_ ?_
   refine tU 5 23 12 127 HT_ HW_ hHeld ?_
   refine pU 7 25 12 255 HT_ ?_
   refine pU 8 26 12 511 HT_ ?_
   refine tU 9 27 12 1023 HT_ HW_ hHeld ?_
   refine one_ (i := 10) (N := some 28) (ba 12 2047) rfl rfl (one_of HT_.out (by kernel_rfl)) (by decide) (fun K hK => ?_)
   refine goes_ Try.func65 (by kernel_rfl) rfl #[.agg #[.int .i64 a0_0, .slice Ao18 x3_1.length co18], .int .i64 ((rd_TTie l0_1 x4_1).f0)] (by rfl) rfl rfl qm ?_
   with_reducible refine (spec_WayReach.calls k1 a0_0 _ _ x3_1 ((rd_TTie l0_1 x4_1).f0) t101 _ ?side1 ?side2 A11.out).mono ?_
   (case side1 => exact qc (Kd.R_reads' HO_3.out).2.2)
   (case side2 => exact (Kd.R_reads' HO_3.out).2.1)
   rintro e w19 ⟨v108, rfl, ho0, hb⟩
   refine ⟨_, rfl, ?_⟩
   replace HO_3 := q0 (Kd.R_below (qr HO_3.out) hb)
   have HO109 := q0 (Kd.R_lower ho0 (below_size (qb HB.out)))
   replace BK103 := kd BK103 hb
   replace HB := bp HB hb
   (try clear hb)
   (try clear hb2)
   (try clear hk)
   (try clear hi)
   (try clear ho0)
   refine hK.out _ _ ⟨bca BK103, bcb BK103, ((HB.out.cell (World.block_lt_of_cell? w _ hw107_0)).trans hw107_0), ((HB.out.cell (World.block_lt_of_cell? w _ hw107_1)).trans hw107_1)⟩ (fun hHeld => ?_)
   clear hK K
   refine nu 28 ?_
   refine pU 11 5 12 4095 HT_ ?_
   refine done_ (done_of HT_.out (by kernel_rfl)) ?_
   obtain ⟨hcz20_0, hcz20_1, hfz20_0, hfz20_1⟩ := b2 BK103
   have p110 : 0 ≤ (x4_1 : Int) := of_decide_eq_true qa
   have q110 : x4_1 < (l0_1.length : Int) := of_decide_eq_true qa
   obtain ⟨ad110, e110, hx110_0, hx110_1⟩ := at_TTie HR0_1.out x4_1 p110 q110
   obtain rfl : ad107 = ad110 := (by injection e110)
   replace hx110_0 := hcl HB.out hx110_0
   replace hx110_1 := hcl HB.out hx110_1
   replace p110 := eq_true p110
   replace q110 := eq_true q110
   obtain ⟨Ao21, co21, eo21⟩ := Kd.R_slice HO109.out
   subst eo21
   have p111 : 0 ≤ (((rd_TTie l0_1 x4_1).f1) : Int) := of_decide_eq_true qa
   have q111 : ((rd_TTie l0_1 x4_1).f1) < (t101.length : Int) := of_decide_eq_true qa
   obtain ⟨ad111, e111, hx111_0⟩ := Kd.at_bool (Kd.R_reads' HO109.out).2.2 ((rd_TTie l0_1 x4_1).f1) p111 q111
   (try rw [← Nbq14.out] at hx111_0)
   cases e111
   replace p111 := eq_true p111
   replace q111 := eq_true q111
   try go_wp2
   go_roundg k1
   case measure => have := HK1.out; omega
   case rel => exact ⟨(x3_1), (wrap64 (x4_1 + 1)), qs, H', ⟨by have := HK1.out; omega⟩, ⟨qr HO_3.out⟩, ⟨qk BK103.out⟩, ⟨qb HB.out⟩⟩
 replace c15 := Bool.eq_false_iff.mpr c15
 subst c15
 rw [if_neg nf] at H
 obtain ⟨c22, H⟩ : (x3_1.length < 8796093022208) ∧ _ := og H
 have LMc22 := q0 c22
 clear c22
 obtain ⟨y112, hy112⟩ : ∃ y_ : List (STie), y_ = (x3_1 ++ [(⟨(rd_TTie l0_1 x4_1).f0, (rd_TTie l0_1 x4_1).f1⟩ : STie)]) := ⟨_, rfl⟩
 replace H : (spec_TreeOf.l0 k1 y112 (wrap64 (x4_1 + 1)) a0_0 l0_1) = some r := qy H hy112
 have Ny112 := q0 hy112
 clear hy112
 have H' := q0 H
 clear H
 obtain ⟨hcz23_0, hcz23_1, hfz23_0, hfz23_1⟩ := b2 BK103
 try go_wp2
 replace HO_3 := q0 (Kd.R_drew HO_3.out)
 replace BK103 := q0 (blk_drew BK103.out)
 replace HB := q0 (below_drew1 HB.out)
 obtain ⟨Ao25, co25, eo25⟩ := Kd.R_slice HO_3.out
 (first | subst eo25 | (injection eo25 with f1_ f2_ f3_; have f4_ := f1_.symm; have f5_ := f3_.symm; clear f1_ f2_ f3_; subst f4_; subst f5_))
 have p107 : 0 ≤ (x4_1 : Int) := of_decide_eq_true qa
 have q107 : x4_1 < (l0_1.length : Int) := of_decide_eq_true qa
 obtain ⟨ad107, e107, hx107_0, hx107_1⟩ := at_TTie HR0_1.out x4_1 p107 q107
 have hw107_1 := hx107_1
 have hw107_0 := hx107_0
 cases e107
 replace hx107_0 := hcl HB.out hx107_0
 replace hx107_1 := hcl HB.out hx107_1
 replace p107 := eq_true p107
 replace q107 := eq_true q107
 refine start_ (n := 12) (S := fun w' => w'.cell? ⟨gb103, 0, none⟩ = some (.int .i64 a0_0) ∧ w'.cell? ⟨gb103, 1, none⟩ = some (.slice (some ad107) l0_1.length c0_1) ∧ w'.cell? (ad107.add ((x4_1).toNat * 2)) = some (.int .i64 ((rd_TTie l0_1 x4_1).f0)) ∧ w'.cell? ⟨(ad107.add ((x4_1).toNat * 2)).block, (ad107.add ((x4_1).toNat * 2)).off + 1, none⟩ = some (.int .i64 ((rd_TTie l0_1 x4_1).f1))) (ds := []) (ba 12 0) (by kernel_rfl) rfl (by kernel_rfl) ⟨bca BK103, bcb BK103, ((HB.out.cell (World.block_lt_of_cell? w _ hw107_0)).trans hw107_0), ((HB.out.cell (World.block_lt_of_cell? w _ hw107_1)).trans hw107_1)⟩ (fun hHeld => ?_); refine with_tabW spec_TreeOf.tab7 spec_TreeOf.bits7 (fun HT_ HW_ => ?_)
 generalize wr.drew = w24 at HO_3 BK103 HB hx107_0 hx107_1 hHeld ⊢
 refine pU 0 18 12 1 HT_ ?_
 refine pU 2 20 12 5 HT_ ?_
 refine pU 4 22 12 21 HT_ ?_
 refine pU 6 24 12 85 HT_ ?_
 refine tU 1 19 12 87 HT_ HW_ hHeld ?_
 refine pU 3 21 12 95 HT_ ?_
 refine tU 5 23 12 127 HT_ HW_ hHeld ?_
 refine pU 7 25 12 255 HT_ ?_
 refine pU 8 26 12 511 HT_ ?_
 refine tU 9 27 12 1023 HT_ HW_ hHeld ?_
 refine one_ (i := 10) (N := some 28) (ba 12 2047) rfl rfl (one_of HT_.out (by kernel_rfl)) (by decide) (fun K hK => ?_)
 refine goes_ Try.func65 (by kernel_rfl) rfl #[.agg #[.int .i64 a0_0, .slice Ao25 x3_1.length co25], .int .i64 ((rd_TTie l0_1 x4_1).f0)] (by rfl) rfl rfl qm ?_
 with_reducible refine (spec_WayReach.calls k1 a0_0 _ _ x3_1 ((rd_TTie l0_1 x4_1).f0) t101 _ ?side1 ?side2 A11.out).mono ?_
 (case side1 => exact qc (Kd.R_reads' HO_3.out).2.2)
 (case side2 => exact (Kd.R_reads' HO_3.out).2.1)
 rintro e w26 ⟨v108, rfl, ho0, hb⟩
 refine ⟨_, rfl, ?_⟩
 replace HO_3 := q0 (Kd.R_below (qr HO_3.out) hb)
 have HO109 := q0 (Kd.R_lower ho0 (below_size (qb HB.out)))
 replace BK103 := kd BK103 hb
 replace HB := bp HB hb
 (try clear hb)
 (try clear hb2)
 (try clear hk)
 (try clear hi)
 (try clear ho0)
 refine hK.out _ _ ⟨bca BK103, bcb BK103, ((HB.out.cell (World.block_lt_of_cell? w _ hw107_0)).trans hw107_0), ((HB.out.cell (World.block_lt_of_cell? w _ hw107_1)).trans hw107_1)⟩ (fun hHeld => ?_)
 clear hK K
 refine nu 28 ?_
 refine pU 11 5 12 4095 HT_ ?_
 refine done_ (done_of HT_.out (by kernel_rfl)) ?_
 obtain ⟨hcz27_0, hcz27_1, hfz27_0, hfz27_1⟩ := b2 BK103
 have p110 : 0 ≤ (x4_1 : Int) := of_decide_eq_true qa
 have q110 : x4_1 < (l0_1.length : Int) := of_decide_eq_true qa
 obtain ⟨ad110, e110, hx110_0, hx110_1⟩ := at_TTie HR0_1.out x4_1 p110 q110
 obtain rfl : ad107 = ad110 := (by injection e110)
 replace hx110_0 := hcl HB.out hx110_0
 replace hx110_1 := hcl HB.out hx110_1
 replace p110 := eq_true p110
 replace q110 := eq_true q110
 obtain ⟨Ao28, co28, eo28⟩ := Kd.R_slice HO109.out
 subst eo28
 have p111 : 0 ≤ (((rd_TTie l0_1 x4_1).f1) : Int) := of_decide_eq_true qa
 have q111 : ((rd_TTie l0_1 x4_1).f1) < (t101.length : Int) := of_decide_eq_true qa
 obtain ⟨ad111, e111, hx111_0⟩ := Kd.at_bool (Kd.R_reads' HO109.out).2.2 ((rd_TTie l0_1 x4_1).f1) p111 q111
 (try rw [← Nbq14.out] at hx111_0)
 cases e111
 replace p111 := eq_true p111
 replace q111 := eq_true q111
 have p113 : 0 ≤ (x4_1 : Int) := of_decide_eq_true qa
 have q113 : x4_1 < (l0_1.length : Int) := of_decide_eq_true qa
 obtain ⟨ad113, e113, hx113_0, hx113_1⟩ := at_TTie HR0_1.out x4_1 p113 q113
 obtain rfl : ad107 = ad113 := (by injection e113)
 replace hx113_0 := hcl HB.out hx113_0
 replace hx113_1 := hcl HB.out hx113_1
 replace p113 := eq_true p113
 replace q113 := eq_true q113
 try go_wp2_with (first | ((with_reducible refine gate_builtin (b := .append) (xs := #[.tmp 39, .tmp 45]) rfl ?_); at_builtin; refine Kd.R_append kTie (w0 := w) w.heap.size rfl (.tmp 39) (.tmp 45) 23 32 (.agg #[(.int .i64 0), (.int .i64 0)]) 16 rfl Try.underlying23 info32 rfl (by decide) (by omega) (.slice Ao25 x3_1.length co25) x3_1 (⟨(rd_TTie l0_1 x4_1).f0, (rd_TTie l0_1 x4_1).f1⟩ : STie) [.int .i64 ((rd_TTie l0_1 x4_1).f0), .int .i64 ((rd_TTie l0_1 x4_1).f1)] (fun _ => True) (fun _ => False) rfl rfl ?aP (fun _ hk => hk.elim) ?aF ?aO ?aB ?aS ?aL ?_; (case aP => exact kTie_mkM _ _ _ (⟨(rd_TTie l0_1 x4_1).f0, (rd_TTie l0_1 x4_1).f1⟩ : STie)); (case aB => exact (qb HB.out)); (case aF => exact (fun _ _ => trivial)); (case aO => exact (qr HO_3.out)); (case aS => exact (below_size (qb HB.out))); (case aL => have := LMc22.out; omega); intro v114 w29 ho hb hg hat; rw [← Ny112.out] at ho; replace BK103 := q0 (blk_grown (g := gb103) (o := .cells #[.int .i64 a0_0, .slice (some ad107) l0_1.length c0_1] 25 (0, 0)) (qk BK103.out) hg (Kd.R_ne HO_3.out BK103.out (by decide))); replace HO109 := q0 (Kd.R_over' (qr HO109.out) (Kd.R_typed (qr HO_3.out)) (by decide) hg); replace HB := q0 (hb); have HO115 := q0 (ho); clear HO_3; clear ho hb hg hat))
 go_roundg k1
 case measure => have := HK1.out; omega
 case rel => exact ⟨(y112), (wrap64 (x4_1 + 1)), qs, H', ⟨by have := HK1.out; omega⟩, ⟨qr HO115.out⟩, ⟨qk BK103.out⟩, ⟨qb HB.out⟩⟩

set_option maxHeartbeats 8000000 in
set_option maxRecDepth 100000 in
theorem spec_l2Far.calls (k : Nat) (a0_0 : Int) (A0_1 : Option Addr) (c0_1 : Nat) (l0_1 : List (STie)) (a1 : Int) (r : List Int) (w : World) (hr0_1 : Kd.C kTie w A0_1 l0_1.length l0_1) (hc0_1 : l0_1.length ≤ c0_1) (h : spec_l2Far.f k a0_0 l0_1 a1 = some r) :
    Calls Try.prog 103 #[.agg #[.int .i64 a0_0, .slice A0_1 l0_1.length c0_1], .int .i64 a1] w fun e w' => ∃ v0_ : Value, e = .returned (v0_) ∧ Kd.R (Kd.int .i64) 3 w' w.heap.size (fun _ => True) v0_ r ∧ Below w.heap.size w w' := by
 have hu25 := Try.underlying25
 have HR0_1 := q0 hr0_1
 have HC0_1 := q0 hc0_1
 clear hr0_1 hc0_1
 have HB := q0 (Below.refl w.heap.size w)
 have H : (spec_l2Far.l0 k a1 (([] : List Int)) 0 a0_0 l0_1) = some r := h
 clear h
 obtain ⟨y100, hy100⟩ : ∃ y_ : List Int, y_ = (([] : List Int)) := ⟨_, rfl⟩
 replace H : (spec_l2Far.l0 k a1 y100 0 a0_0 l0_1) = some r := qy H hy100
 have Ny100 := q0 hy100
 clear hy100
 have H' := q0 H
 clear H
 go_enter Try.func103, Try.ntmps103
 go_wp2_with (first | ((with_reducible refine gd 2 ?_); refine be 2 #[.int .i64 a0_0, .slice A0_1 l0_1.length c0_1] 25 ?_; intro gb102 hg w3 hbox hb; have BK102 := q0 (hbox); have GW102 := gw HB hg; have GE102 := gw HB hg; replace HB := bp HB hb; clear hb hbox hg) | ((with_reducible refine gd 11 ?_); refine Kd.R_lit (Kd.int .i64) _ 3 ?hg (N := 11) ?hd (xs := ([] : List Int)) (inner := []) (ok := fun _ => True) (okp := fun _ => True) ?hr ?hp (fun _ hk => hk) trivial (Below.refl _ _) (Nat.le_refl _) (by simp) ?_; (case hd => rfl); (case hg => rfl); (case hr => first | (go_simp; done) | (go_simp; rfl)); (case hp => exact (Reps.none _ _)); intro v103 w4 ho5 hb hg_ hnew_; clear hg_ hnew_; (first | rw [← Ny100.out] at ho5 | (simp only [Int.reduceToNat] at ho5; rw [← Ny100.out] at ho5)); have HO104 := q0 (Kd.R_lower ho5 (below_size (qb HB.out))); replace BK102 := kd BK102 hb; replace HB := bp HB hb; clear hb ho5))
 go_loopg [5, 6] k (fun kq v5 v6 w' => ∃ (x5_1 : List Int) (x6_1 : Int), v6 = .int .i64 x6_1 ∧ Aside0 (spec_l2Far.l0 kq a1 x5_1 x6_1 a0_0 l0_1 = some r) ∧ Aside0 (kq ≤ k) ∧ Aside0 (Kd.R (Kd.int .i64) 3 w' w.heap.size (fun _ => True) v5 x5_1) ∧ Aside0 (w'.heap[gb102]? = some (.cells #[.int .i64 a0_0, (.slice A0_1 l0_1.length c0_1)] 25 (0, 0))) ∧ Aside0 (Below w.heap.size w w'))
 case atStart => exact ⟨(y100), (0), qs, H', ⟨Nat.le_refl _⟩, ⟨qr HO104.out⟩, ⟨qk BK102.out⟩, ⟨qb HB.out⟩⟩
 clear H'
 try clear c1
 try clear p2
 obtain ⟨x5_1, x6_1, rfl, HA, HK1, HO_5, BK102, HB⟩ := hrel
 rcases gk with _ | k1
 · exact absurd HA.out (by simp [spec_l2Far.l0])
 have H := HA.out
 clear HA
 simp only [spec_l2Far.l0] at H
 by_cases c6 : x6_1 < a0_0
 · rw [if_pos c6] at H
   have c6b0 := decide_eq_true c6
   clear c6
   obtain ⟨c7, H⟩ : (x5_1.length < 17592186044416) ∧ _ := og H
   have LMc7 := q0 c7
   clear c7
   obtain ⟨y105, hy105⟩ : ∃ y_ : List Int, y_ = (x5_1 ++ [(-1)]) := ⟨_, rfl⟩
   replace H : (spec_l2Far.l0 k1 a1 y105 (wrap64 (x6_1 + 1)) a0_0 l0_1) = some r := qy H hy105
   have Ny105 := q0 hy105
   clear hy105
   have H' := q0 H
   clear H
   obtain ⟨hcz8_0, hcz8_1, hfz8_0, hfz8_1⟩ := b2 BK102
   go_wp2_with (first | ((with_reducible refine gate_builtin (b := .append) (xs := #[.tmp 18, .tmp 19]) rfl ?_); at_builtin; refine Kd.R_append (Kd.int .i64) (w0 := w) w.heap.size rfl (.tmp 18) (.tmp 19) 60 3 (.int .i64 0) 8 rfl Try.underlying60 info3 rfl (by decide) (by omega) u5 x5_1 (-1) [.int .i64 (-1)] (fun _ => True) (fun _ => False) rfl rfl ?aP (fun _ hk => hk.elim) ?aF ?aO ?aB ?aS ?aL ?_; (case aP => exact rfl); (case aB => exact (qb HB.out)); (case aF => exact (fun _ _ => trivial)); (case aO => exact (qr HO_5.out)); (case aS => exact (below_size (qb HB.out))); (case aL => have := LMc7.out; omega); intro v106 w9 ho hb hg hat; rw [← Ny105.out] at ho; replace BK102 := q0 (blk_grown (g := gb102) (o := .cells #[.int .i64 a0_0, .slice A0_1 l0_1.length c0_1] 25 (0, 0)) (qk BK102.out) hg (Kd.R_ne HO_5.out BK102.out (by decide))); replace HB := q0 (hb); have HO107 := q0 (ho); clear HO_5; clear ho hb hg hat))
   go_roundg k1
   case measure => have := HK1.out; omega
   case rel => exact ⟨(y105), (wrap64 (x6_1 + 1)), qs, H', ⟨by have := HK1.out; omega⟩, ⟨qr HO107.out⟩, ⟨qk BK102.out⟩, ⟨qb HB.out⟩⟩
 rw [if_neg c6] at H
 have c6b0 := decide_eq_false c6
 clear c6
 obtain ⟨c10, H⟩ : (0 ≤ a1) ∧ _ := og H
 have c10b0 := decide_eq_true c10
 clear c10
 obtain ⟨c11, H⟩ : (a1 < (x5_1.length : Int)) ∧ _ := og H
 have c11b0 := decide_eq_true c11
 clear c11
 obtain ⟨y108, hy108⟩ : ∃ y_ : List Int, y_ = (x5_1.set (a1 : Int).toNat 0) := ⟨_, rfl⟩
 replace H : (spec_l2Far.l1 k1 y108 (([a1] : List Int)) a0_0 l0_1) = some r := qy H hy108
 have Ny108 := q0 hy108
 clear hy108
 obtain ⟨y109, hy109⟩ : ∃ y_ : List Int, y_ = (([a1] : List Int)) := ⟨_, rfl⟩
 replace H : (spec_l2Far.l1 k1 y108 y109 a0_0 l0_1) = some r := qy H hy109
 have Ny109 := q0 hy109
 clear hy109
 have H' := q0 H
 clear H
 obtain ⟨hcz13_0, hcz13_1, hfz13_0, hfz13_1⟩ := b2 BK102
 have p12 : 0 ≤ (a1 : Int) := of_decide_eq_true qa
 have q12 : (a1 : Int) < ((x5_1.length : Int) : Int) := of_decide_eq_true qa
 obtain ⟨go12, co12, eo12, gb12, gl12, cl12, HG12⟩ := Kd.R_form HO_5.out (by omega)
 (first | cases eo12 | (injection eo12 with ea_ en_ ec_; (first | subst ea_ | (injection ea_ with ea_; subst ea_)); subst ec_; clear en_))
 have GB12 := q0 gb12
 have GG12 := q0 HG12
 clear gb12 gl12 HG12
 obtain ⟨hx12_0, hf12_0⟩ := Kd.R_celln 0 HO_5.out (a1 : Int) p12 q12
 replace p12 := eq_true p12
 replace q12 := eq_true q12
 have HP14 := Kd.R_putg HO_5.out (a1 : Int) 0
 go_wp2_with (first | ((with_reducible refine gate_store (t := 3) (p := 23) rfl ?_); refine store_event (t := 3) (p := 23) (v := ?vo_w15) (w1 := (wr.setCell ⟨go12, (a1 : Int).toNat, none⟩ (.int .i64 0))) ?hg ?ho ?hn ?hr ?_; (case ho => rfl); (case hg => rfl); (case hn => rfl); (case hr => first | (go_simp; done) | (go_simp; rfl)); intro w15 hw; have hg : wr.grownBy w15 (some go12) := (by rw [hw]; exact HP14.2); have hp_ : Kd.R (Kd.int .i64) 3 w15 w.heap.size (fun _ => True) (.slice (some ⟨go12, 0, none⟩) x5_1.length co12) y108 := (by rw [hw, Ny108.out]; exact HP14.1); clear HP14; replace BK102 := q0 (blk_grown (g := gb102) (o := .cells #[.int .i64 a0_0, .slice A0_1 l0_1.length c0_1] 25 (0, 0)) (qk BK102.out) hg (Kd.R_ne HO_5.out BK102.out (by decide))); replace HO_5 := q0 (hp_); replace HB := q0 ((by rw [hw]; exact below_set (HB.out) GB12.out : Below w.heap.size w w15)); clear hg hw hp_) | ((with_reducible refine gd 25 ?_); refine Kd.R_lit (Kd.int .i64) _ 3 ?hg (N := 25) ?hd (xs := ([a1] : List Int)) (inner := [.int .i64 a1]) (ok := fun _ => True) (okp := fun _ => True) ?hr ?hp (fun _ hk => hk) trivial (Below.refl _ _) (Nat.le_refl _) (by simp) ?_; (case hd => rfl); (case hg => rfl); (case hr => first | (go_simp; done) | (go_simp; rfl)); (case hp => exact (Reps.one (show Kd.M (Kd.int .i64) _ _ _ a1 [.int .i64 a1] from rfl) (Reps.none _ _))); intro v110 w16 ho17 hb hg_ hnew_; clear hg_ hnew_; (first | rw [← Ny109.out] at ho17 | (simp only [Int.reduceToNat] at ho17; rw [← Ny109.out] at ho17)); have HO111 := q0 (Kd.R_lower (Kd.R_new' ho17 (Kd.R_lt (qr HO_5.out))) (below_size (qb HB.out))); replace HO_5 := q0 (Kd.R_elder' (qr HO_5.out) (Kd.R_base ho17) hb); replace BK102 := kd BK102 hb; replace HB := bp HB hb; clear hb ho17))
 go_loopg [7] k1 (fun kq v7 w' => ∃ (x5_2 : List Int) (x7_2 : List Int), Aside0 (spec_l2Far.l1 kq x5_2 x7_2 a0_0 l0_1 = some r) ∧ Aside0 (kq ≤ k1) ∧ Aside0 (Kd.R (Kd.int .i64) 3 w' w.heap.size (fun k_ => some k_ ≠ (v7 : Value).ownBlock) (.slice (some ⟨go12, 0, none⟩) x5_1.length co12) x5_2) ∧ Aside0 (Kd.Q (Kd.int .i64) 3 w' w.heap.size (fun k_ => some k_ ≠ ((.slice (some ⟨go12, 0, none⟩) x5_1.length co12) : Value).ownBlock) v7 x7_2) ∧ Aside0 (w'.heap[gb102]? = some (.cells #[.int .i64 a0_0, (.slice A0_1 l0_1.length c0_1)] 25 (0, 0))) ∧ Aside0 (Below w.heap.size w w'))
 case atStart => exact ⟨(y108), (y109), H', ⟨Nat.le_refl _⟩, ⟨by (with_reducible repeat (first | apply Kd.R_alloc | apply Kd.R_drewN | apply Kd.R_drew)); exact Kd.R_mono HO_5.out (fun _ hk => hk.2)⟩, ⟨Kd.Q_of_R (by (with_reducible repeat (first | apply Kd.R_alloc | apply Kd.R_drewN | apply Kd.R_drew)); exact Kd.R_mono HO111.out (fun _ hk => hk.2))⟩, ⟨qk BK102.out⟩, ⟨qb HB.out⟩⟩
 clear H'
 try clear c1
 try clear p1
 try clear q1
 try clear hx1
 try clear p2
 try clear c6
 try clear c6b0
 try clear p6
 try clear c7
 try clear c10
 try clear c10b0
 try clear c11
 try clear c11b0
 try clear p12
 try clear q12
 try clear hx12
 try clear hf12
 try clear hcz13_0
 try clear hcz13_1
 try clear hcz8_0
 try clear hcz8_1
 try clear hfz13_0
 try clear hfz13_1
 try clear hfz8_0
 try clear hfz8_1
 try clear hx12_0
 try clear p12
 try clear p2
 try clear q12
 obtain ⟨x5_2, x7_2, HA, HK2, HO_5, HO_7, BK102, HB⟩ := hrel
 have hl5_2 := (Kd.R_reads' HO_5.out).1
 rw [hl5_2] at HO_5
 (try simp only [hl5_2])
 (try simp only [hl5_2] at BK102)
 (try simp only [hl5_2] at HO_7)
 rcases gk with _ | k2
 · exact absurd HA.out (by simp [spec_l2Far.l1])
 have H := HA.out
 clear HA
 simp only [spec_l2Far.l1] at H
 by_cases c18 : (x7_2.length : Int) > 0
 rotate_left
 · rw [if_neg c18] at H
   have c18b0 := decide_eq_false c18
   have c18b1 : decide (0 < x7_2.length) = false := decide_eq_false (by omega)
   clear c18
   obtain rfl := Option.some.inj H
   obtain ⟨Ao41, co41, eo41, _⟩ := Kd.Q_slice HO_7.out
   subst eo41
   go_wp2
   go_ret
   exact ⟨_, qe, by (with_reducible repeat (first | apply Kd.R_alloc | apply Kd.R_drewN | apply Kd.R_drew)); exact Kd.R_mono HO_5.out (fun _ hk => trivial), qb HB.out⟩
 rw [if_pos c18] at H
 have c18b0 := decide_eq_true c18
 have c18b1 : decide (0 < x7_2.length) = true := decide_eq_true (by omega)
 clear c18
 obtain ⟨c19, H⟩ : (0 < (x7_2.length : Int)) ∧ _ := og H
 have c19b0 := decide_eq_true c19
 have c19b1 : decide (0 < x7_2.length) = true := decide_eq_true (by omega)
 clear c19
 obtain ⟨t101, A20, H⟩ := ob H
 obtain ⟨c21, H⟩ : (1 ≤ (x7_2.length : Int)) ∧ _ := og H
 have c21b0 := eq_true c21
 have c21b1 := decide_eq_true c21
 clear c21
 obtain ⟨y113, hy113⟩ : ∃ y_ : List Int, y_ = (x7_2.drop (1 : Int).toNat) := ⟨_, rfl⟩
 replace H : (spec_l2Far.l2 k2 x5_2 y113 (rd x7_2 0) t101 0 a0_0 l0_1) = some r := qy H hy113
 have Ny113 := q0 hy113
 clear hy113
 have H' := q0 H
 clear H
 obtain ⟨Ao22, co22, eo22, _⟩ := Kd.Q_slice HO_7.out
 subst eo22
 have p114 : 0 ≤ (0 : Int) := (by omega)
 have q114 : 0 < (x7_2.length : Int) := of_decide_eq_true qa
 obtain ⟨ad114, e114, hx114_0⟩ := Kd.at_int (Kd.Q_reads' HO_7.out).2.2 0 p114 q114
 cases e114
 have qi114 : (0 < x7_2.length) = True := eq_true (by omega)
 (try rw [show ((0 : Int)).toNat = 0 from rfl] at hx114_0)
 (try rw [Addr.add_zero'] at hx114_0)
 replace p114 := eq_true p114
 replace q114 := eq_true q114
 obtain ⟨hcz23_0, hcz23_1, hfz23_0, hfz23_1⟩ := b2 BK102
 go_wp2_with (first | ((with_reducible refine gf 95 ?_); refine gl 34 Try.func95 #[.agg #[.int .i64 a0_0, .slice A0_1 l0_1.length c0_1], .int .i64 (rd x7_2 0)] ?_; (with_reducible refine (spec_l2Next.calls k2 a0_0 _ _ l0_1 (rd x7_2 0) t101 _ ?side1 ?side2 A20.out).mono ?_); (case side1 => exact qc (Kd.C_below HR0_1.out HB.out)); (case side2 => exact HC0_1.out); rintro e w24 ⟨v115, rfl, ho0, hb⟩; refine ⟨_, rfl, ?_⟩; have HO116 := q0 (Kd.R_lower (Kd.R_new' (Kd.R_new' ho0 (Kd.R_lt (qr HO_5.out))) (Kd.Q_lt (qq HO_7.out))) (below_size (qb HB.out))); replace HO_5 := q0 (Kd.R_elder' (qr HO_5.out) (Kd.R_base ho0) hb); replace HO_7 := q0 (Kd.Q_elder' (qq HO_7.out) (Kd.R_base ho0) hb); replace BK102 := kd BK102 hb; replace HB := bp HB hb; (try clear hb); (try clear hb2); (try clear hk); (try clear hi); (try clear ho0); have q25 : (1 : Int) ≤ ((x7_2.length : Int) : Int) := of_decide_eq_true qa; obtain ⟨i117, hi117, _, hsz25, _⟩ := info_parts info3; have hcut25 := cut_from (P := Try.prog) 60 3 .i64 Try.underlying60 hi117 1 hsz25 (some ad114) x7_2.length co22 1 (by omega) q25; have hr25 := Kd.Q_drop (k := (1 : Int).toNat) HO_7.out (by omega); obtain ⟨A25, hA25⟩ : ∃ A1, A1 = (if co22 = (1 : Int).toNat then (some ad114) else ((some ad114) : Option Addr).map (·.add ((1 : Int).toNat * 1))) := ⟨_, rfl⟩; obtain ⟨c25, hc25⟩ : ∃ c1, c1 = co22 - (1 : Int).toNat := ⟨_, rfl⟩; have hy25 : y113.length = x7_2.length - (1 : Int).toNat := (by rw [Ny113.out, List.length_drop]); rw [← Ny113.out] at hr25; rw [← hy25, ← hA25, ← hc25] at hcut25; replace hr25 : Kd.Q (Kd.int .i64) 3 w24 w.heap.size (fun k_ => some k_ ≠ (.slice (some ⟨go12, 0, none⟩) x5_2.length co12 : Value).ownBlock ∧ some k_ ≠ (v115 : Value).ownBlock) (.slice A25 y113.length c25) y113 := (by rw [hA25, hc25, hy25]; exact hr25); have HE25 : Aside0 ((Value.slice A25 y113.length c25).ownBlock = (.slice (some ad114) x7_2.length co22 : Value).ownBlock) := ⟨by rw [hA25]; split <;> (cases ((some ad114) : Option Addr) <;> rfl)⟩; clear hy25 hi117 hsz25 HO_7 hA25 hc25; have HO118 := q0 hr25; clear hr25; replace q25 := eq_true q25; have n_ := q0 (Kd.R_mono (ok' := fun k_ => (some k_ ≠ (.slice A25 y113.length c25 : Value).ownBlock ∧ some k_ ≠ (v115 : Value).ownBlock)) HO_5.out (fun k_ hk => ⟨(by rw [HE25.out]; exact hk.1), hk.2⟩)); clear HO_5; have HO_5 := n_; clear n_; have n_ := q0 (Kd.R_mono (ok' := fun k_ => ((True ∧ some k_ ≠ (.slice (some ⟨go12, 0, none⟩) x5_2.length co12 : Value).ownBlock) ∧ some k_ ≠ (.slice A25 y113.length c25 : Value).ownBlock)) HO116.out (fun k_ hk => ⟨⟨trivial, hk.1.2⟩, (by rw [HE25.out]; exact hk.2)⟩)); clear HO116; have HO116 := n_; clear n_))
 go_loopg [7, 10] k2 (fun kq v7 v10 w' => ∃ (x5_3 : List Int) (x7_3 : List Int) (x10_3 : Int), v10 = .int .i64 x10_3 ∧ Aside0 (spec_l2Far.l2 kq x5_3 x7_3 (rd x7_2 0) t101 x10_3 a0_0 l0_1 = some r) ∧ Aside0 (kq ≤ k2) ∧ Aside0 (Kd.R (Kd.int .i64) 3 w' w.heap.size (fun k_ => some k_ ≠ (v7 : Value).ownBlock ∧ some k_ ≠ (v115 : Value).ownBlock) (.slice (some ⟨go12, 0, none⟩) x5_2.length co12) x5_3) ∧ Aside0 (Kd.Q (Kd.int .i64) 3 w' w.heap.size (fun k_ => some k_ ≠ ((.slice (some ⟨go12, 0, none⟩) x5_2.length co12) : Value).ownBlock ∧ some k_ ≠ (v115 : Value).ownBlock) v7 x7_3) ∧ Aside0 (Kd.R (Kd.int .i64) 3 w' w.heap.size (fun k_ => some k_ ≠ ((.slice (some ⟨go12, 0, none⟩) x5_2.length co12) : Value).ownBlock ∧ some k_ ≠ (v7 : Value).ownBlock) v115 t101) ∧ Aside0 (w'.heap[gb102]? = some (.cells #[.int .i64 a0_0, (.slice A0_1 l0_1.length c0_1)] 25 (0, 0))) ∧ Aside0 (Below w.heap.size w w'))
 case atStart => exact ⟨(x5_2), (y113), (0), qs, H', ⟨Nat.le_refl _⟩, ⟨by (try simp only [hl5_2]); (with_reducible repeat (first | apply Kd.R_alloc | apply Kd.R_drewN | apply Kd.R_drew)); exact HO_5.out⟩, ⟨by (try simp only [hl5_2]); (with_reducible repeat (first | apply Kd.Q_alloc | apply Kd.Q_drewN | apply Kd.Q_drew)); exact HO118.out⟩, ⟨by (try simp only [hl5_2]); (with_reducible repeat (first | apply Kd.R_alloc | apply Kd.R_drewN | apply Kd.R_drew)); exact Kd.R_mono HO116.out (fun _ hk => ⟨hk.1.2, hk.2⟩)⟩, ⟨by (try simp only [hl5_2]); (with_reducible repeat (first | refine blk_drewN ?_ _ | refine blk_drew ?_ | refine blk_alloc ?_ _)); exact BK102.out⟩, ⟨qb HB.out⟩⟩
 clear H'
 try clear c1
 try clear p1
 try clear q1
 try clear hx1
 try clear c2
 try clear p2
 try clear q2
 try clear hx2
 try clear qi2
 try clear c6
 try clear c6b0
 try clear p6
 try clear c7
 try clear c9
 try clear c10
 try clear c10b0
 try clear c11
 try clear c11b0
 try clear p12
 try clear q12
 try clear hx12
 try clear hf12
 try clear c18
 try clear c18b0
 try clear c18b1
 try clear c19
 try clear c19b0
 try clear c19b1
 try clear c21
 try clear c21b0
 try clear c21b1
 try clear p24
 try clear q24
 try clear hx24
 try clear qi24
 try clear c25
 try clear q25
 try clear hcz13_0
 try clear hcz13_1
 try clear hcz23_0
 try clear hcz23_1
 try clear hcz8_0
 try clear hcz8_1
 try clear hfz13_0
 try clear hfz13_1
 try clear hfz23_0
 try clear hfz23_1
 try clear hfz8_0
 try clear hfz8_1
 try clear hx12_0
 try clear hx114_0
 try clear p1
 try clear p12
 try clear p2
 try clear p114
 try clear p6
 try clear q1
 try clear q12
 try clear q114
 try clear q25
 obtain ⟨x5_3, x7_3, x10_3, rfl, HA, HK3, HO_5, HO_7, HO_9, BK102, HB⟩ := hrel
 have hl5_3 := (Kd.R_reads' HO_5.out).1
 rw [hl5_3] at HO_5
 (try simp only [hl5_3])
 (try simp only [hl5_3] at BK102)
 (try simp only [hl5_3] at HO_7)
 (try simp only [hl5_3] at HO_9)
 rcases gk with _ | k3
 · exact absurd HA.out (by simp [spec_l2Far.l2])
 have H := HA.out
 clear HA
 simp only [spec_l2Far.l2] at H
 by_cases c26 : x10_3 < (t101.length : Int)
 rotate_left
 · rw [if_neg c26] at H
   have c26b0 := decide_eq_false c26
   clear c26
   have H' := q0 H
   clear H
   obtain ⟨Ao40, co40, eo40⟩ := Kd.R_slice HO_9.out
   subst eo40
   go_wp2
   (try simp only [← hl5_2, ← hl5_3])
   go_roundg k3
   case measure => have := HK1.out; have := HK2.out; have := HK3.out; omega
   case rel => exact ⟨(x5_3), (x7_3), H', ⟨by have := HK1.out; have := HK2.out; have := HK3.out; omega⟩, ⟨by (try simp only [hl5_2]); (try simp only [hl5_3]); (with_reducible repeat (first | apply Kd.R_alloc | apply Kd.R_drewN | apply Kd.R_drew)); exact Kd.R_mono HO_5.out (fun _ hk => hk.1)⟩, ⟨by (try simp only [hl5_2]); (try simp only [hl5_3]); (with_reducible repeat (first | apply Kd.Q_alloc | apply Kd.Q_drewN | apply Kd.Q_drew)); exact Kd.Q_mono HO_7.out (fun _ hk => hk.1)⟩, ⟨by (try simp only [hl5_2]); (try simp only [hl5_3]); (with_reducible repeat (first | refine blk_drewN ?_ _ | refine blk_drew ?_ | refine blk_alloc ?_ _)); exact BK102.out⟩, ⟨qb HB.out⟩⟩
 rw [if_pos c26] at H
 have c26b0 := decide_eq_true c26
 clear c26
 obtain ⟨c27, H⟩ : (0 ≤ x10_3) ∧ _ := og H
 have c27b0 := decide_eq_true c27
 clear c27
 obtain ⟨c28, H⟩ : (0 ≤ (rd t101 x10_3)) ∧ _ := og H
 have c28b0 := decide_eq_true c28
 clear c28
 obtain ⟨c29, H⟩ : ((rd t101 x10_3) < (x5_3.length : Int)) ∧ _ := og H
 have c29b0 := decide_eq_true c29
 clear c29
 by_cases c30 : (rd x5_3 (rd t101 x10_3)) < 0
 rotate_left
 · rw [if_neg c30] at H
   have c30b0 := decide_eq_false c30
   clear c30
   have H' := q0 H
   clear H
   obtain ⟨Ao39, co39, eo39⟩ := Kd.R_slice HO_9.out
   subst eo39
   have p121 : 0 ≤ (x10_3 : Int) := of_decide_eq_true qa
   have q121 : x10_3 < (t101.length : Int) := of_decide_eq_true qa
   obtain ⟨ad121, e121, hx121_0⟩ := Kd.at_int (Kd.R_reads' HO_9.out).2.2 x10_3 p121 q121
   cases e121
   replace p121 := eq_true p121
   replace q121 := eq_true q121
   have p122 : 0 ≤ ((rd t101 x10_3) : Int) := of_decide_eq_true qa
   have q122 : (rd t101 x10_3) < (x5_3.length : Int) := of_decide_eq_true qa
   obtain ⟨ad122, e122, hx122_0⟩ := Kd.at_int (Kd.R_reads' HO_5.out).2.2 (rd t101 x10_3) p122 q122
   obtain rfl : (⟨go12, 0, none⟩ : Addr) = ad122 := (by injection e122)
   (first | simp only [add_plain] at hx122_0 | simp only [add_at] at hx122_0 | simp only [Addr.add, Nat.zero_add] at hx122_0 | skip)
   replace p122 := eq_true p122
   replace q122 := eq_true q122
   go_wp2
   (try simp only [← hl5_3])
   go_roundg k3
   case measure => have := HK1.out; have := HK2.out; have := HK3.out; omega
   case rel => exact ⟨(x5_3), (x7_3), (wrap64 (x10_3 + 1)), qs, H', ⟨by have := HK1.out; have := HK2.out; have := HK3.out; omega⟩, ⟨by (try simp only [hl5_2]); (try simp only [hl5_3]); (with_reducible repeat (first | apply Kd.R_alloc | apply Kd.R_drewN | apply Kd.R_drew)); exact HO_5.out⟩, ⟨by (try simp only [hl5_2]); (try simp only [hl5_3]); (with_reducible repeat (first | apply Kd.Q_alloc | apply Kd.Q_drewN | apply Kd.Q_drew)); exact HO_7.out⟩, ⟨by (try simp only [hl5_2]); (try simp only [hl5_3]); (with_reducible repeat (first | apply Kd.R_alloc | apply Kd.R_drewN | apply Kd.R_drew)); exact HO_9.out⟩, ⟨by (try simp only [hl5_2]); (try simp only [hl5_3]); (with_reducible repeat (first | refine blk_drewN ?_ _ | refine blk_drew ?_ | refine blk_alloc ?_ _)); exact BK102.out⟩, ⟨qb HB.out⟩⟩
 rw [if_pos c30] at H
 have c30b0 := decide_eq_true c30
 clear c30
 obtain ⟨c31, H⟩ : (0 ≤ (rd x7_2 0)) ∧ _ := og H
 have c31b0 := decide_eq_true c31
 clear c31
 obtain ⟨c32, H⟩ : ((rd x7_2 0) < (x5_3.length : Int)) ∧ _ := og H
 have c32b0 := decide_eq_true c32
 clear c32
 obtain ⟨y119, hy119⟩ : ∃ y_ : List Int, y_ = (x5_3.set ((rd t101 x10_3) : Int).toNat (wrap64 ((rd x5_3 (rd x7_2 0)) + 1))) := ⟨_, rfl⟩
 replace H : (if x7_3.length < 17592186044416 then (spec_l2Far.l2 k3 y119 (x7_3 ++ [rd t101 x10_3]) (rd x7_2 0) t101 (wrap64 (x10_3 + 1)) a0_0 l0_1) else (none)) = some r := qy H hy119
 have Ny119 := q0 hy119
 clear hy119
 obtain ⟨c34, H⟩ : (x7_3.length < 17592186044416) ∧ _ := og H
 have LMc34 := q0 c34
 clear c34
 obtain ⟨y120, hy120⟩ : ∃ y_ : List Int, y_ = (x7_3 ++ [rd t101 x10_3]) := ⟨_, rfl⟩
 replace H : (spec_l2Far.l2 k3 y119 y120 (rd x7_2 0) t101 (wrap64 (x10_3 + 1)) a0_0 l0_1) = some r := qy H hy120
 have Ny120 := q0 hy120
 clear hy120
 have H' := q0 H
 clear H
 obtain ⟨Ao35, co35, eo35⟩ := Kd.R_slice HO_9.out
 subst eo35
 have p121 : 0 ≤ (x10_3 : Int) := of_decide_eq_true qa
 have q121 : x10_3 < (t101.length : Int) := of_decide_eq_true qa
 obtain ⟨ad121, e121, hx121_0⟩ := Kd.at_int (Kd.R_reads' HO_9.out).2.2 x10_3 p121 q121
 cases e121
 replace p121 := eq_true p121
 replace q121 := eq_true q121
 have p122 : 0 ≤ ((rd t101 x10_3) : Int) := of_decide_eq_true qa
 have q122 : (rd t101 x10_3) < (x5_3.length : Int) := of_decide_eq_true qa
 obtain ⟨ad122, e122, hx122_0⟩ := Kd.at_int (Kd.R_reads' HO_5.out).2.2 (rd t101 x10_3) p122 q122
 obtain rfl : (⟨go12, 0, none⟩ : Addr) = ad122 := (by injection e122)
 (first | simp only [add_plain] at hx122_0 | simp only [add_at] at hx122_0 | simp only [Addr.add, Nat.zero_add] at hx122_0 | skip)
 replace p122 := eq_true p122
 replace q122 := eq_true q122
 have p123 : 0 ≤ (x10_3 : Int) := of_decide_eq_true qa
 have q123 : x10_3 < (t101.length : Int) := of_decide_eq_true qa
 obtain ⟨ad123, e123, hx123_0⟩ := Kd.at_int (Kd.R_reads' HO_9.out).2.2 x10_3 p123 q123
 obtain rfl : ad121 = ad123 := (by injection e123)
 replace p123 := eq_true p123
 replace q123 := eq_true q123
 have p124 : 0 ≤ ((rd x7_2 0) : Int) := of_decide_eq_true qa
 have q124 : (rd x7_2 0) < (x5_3.length : Int) := of_decide_eq_true qa
 obtain ⟨ad124, e124, hx124_0⟩ := Kd.at_int (Kd.R_reads' HO_5.out).2.2 (rd x7_2 0) p124 q124
 obtain rfl : (⟨go12, 0, none⟩ : Addr) = ad124 := (by injection e124)
 (first | simp only [add_plain] at hx124_0 | simp only [add_at] at hx124_0 | simp only [Addr.add, Nat.zero_add] at hx124_0 | skip)
 replace p124 := eq_true p124
 replace q124 := eq_true q124
 have p33 : 0 ≤ ((rd t101 x10_3) : Int) := of_decide_eq_true qa
 have q33 : ((rd t101 x10_3) : Int) < ((x5_3.length : Int) : Int) := of_decide_eq_true qa
 obtain ⟨hx33_0, hf33_0⟩ := Kd.R_celln 0 HO_5.out ((rd t101 x10_3) : Int) p33 q33
 replace p33 := eq_true p33
 replace q33 := eq_true q33
 have HP36 := Kd.R_putg HO_5.out ((rd t101 x10_3) : Int) (wrap64 ((rd x5_3 (rd x7_2 0)) + 1))
 go_upto_region 16 with (fail)
 go_region
 obtain ⟨w37, hw⟩ : ∃ W_, W_ = (wr.setCell ⟨go12, ((rd t101 x10_3) : Int).toNat, none⟩ (.int .i64 (wrap64 ((rd x5_3 (rd x7_2 0)) + 1)))) := ⟨_, rfl⟩
 rw [← hw]
 have hg : wr.grownBy w37 (some go12) := (by rw [hw]; exact HP36.2)
 have hp_ : Kd.R (Kd.int .i64) 3 w37 w.heap.size (fun k_ => some k_ ≠ (u7 : Value).ownBlock ∧ some k_ ≠ (.slice (some ad121) t101.length co35 : Value).ownBlock) (.slice (some ⟨go12, 0, none⟩) x5_3.length co12) y119 := (by rw [hw, Ny119.out]; exact HP36.1)
 clear HP36
 replace HO_7 := q0 (Kd.Q_after (v := (.slice (some ⟨go12, 0, none⟩) x5_3.length co12)) (v1 := (.slice (some ⟨go12, 0, none⟩) x5_3.length co12)) (ok := (fun k_ => some k_ ≠ (.slice (some ad121) t101.length co35 : Value).ownBlock)) (by (with_reducible repeat (first | apply Kd.Q_alloc | apply Kd.Q_drewN | apply Kd.Q_drew)); exact Kd.Q_mono HO_7.out (fun _ hk => ⟨hk.2, hk.1⟩)) hg (.inl rfl))
 replace HO_9 := q0 (Kd.R_after (v := (.slice (some ⟨go12, 0, none⟩) x5_3.length co12)) (v1 := (.slice (some ⟨go12, 0, none⟩) x5_3.length co12)) (ok := (fun k_ => some k_ ≠ (u7 : Value).ownBlock)) (by (with_reducible repeat (first | apply Kd.R_alloc | apply Kd.R_drewN | apply Kd.R_drew)); exact Kd.R_mono HO_9.out (fun _ hk => ⟨hk.2, hk.1⟩)) hg (.inl rfl))
 replace BK102 := q0 (blk_grown (g := gb102) (o := .cells #[.int .i64 a0_0, .slice A0_1 l0_1.length c0_1] 25 (0, 0)) (qk BK102.out) hg (Kd.R_ne HO_5.out BK102.out (by decide)))
 replace HO_5 := q0 (hp_)
 replace HB := q0 ((by rw [hw]; exact below_set (HB.out) GB12.out : Below w.heap.size w w37))
 clear hg hw hp_
 replace BK102 := q0 (blk_drew BK102.out)
 replace HB := q0 (below_drew1 HB.out)
 replace HO_5 := q0 (Kd.R_drew HO_5.out)
 replace HO_7 := q0 (Kd.Q_drew HO_7.out)
 replace HO_9 := q0 (Kd.R_drew HO_9.out)
 generalize w37.drew = w37d at BK102 HB HO_5 HO_7 HO_9 ⊢
 have p125 : 0 ≤ (x10_3 : Int) := of_decide_eq_true qa
 have q125 : x10_3 < (t101.length : Int) := of_decide_eq_true qa
 obtain ⟨ad125, e125, hx125_0⟩ := Kd.at_int (Kd.R_reads' HO_9.out).2.2 x10_3 p125 q125
 obtain rfl : ad121 = ad125 := (by injection e125)
 replace p125 := eq_true p125
 replace q125 := eq_true q125
 go_wp2_with (((with_reducible refine gate_builtin (b := .append) (xs := #[.tmp 62, .tmp 67]) rfl ?_); at_builtin; refine Kd.Q_append (Kd.int .i64) (w0 := w) w.heap.size rfl (.tmp 62) (.tmp 67) 60 3 (.int .i64 0) 8 rfl Try.underlying60 info3 rfl (by decide) (by omega) u7 x7_3 (rd t101 x10_3) [.int .i64 (rd t101 x10_3)] (fun k_ => some k_ ≠ (.slice (some ⟨go12, 0, none⟩) x5_3.length co12 : Value).ownBlock ∧ some k_ ≠ (.slice (some ad121) t101.length co35 : Value).ownBlock) (fun _ => False) rfl rfl ?aP (fun _ hk => hk.elim) ?aF ?aO ?aB ?aS ?aL ?_; (case aP => exact rfl); (case aB => exact (qb HB.out)); (case aF => exact (fun k_ hk => ⟨Kd.fresh' (Kd.R_lt (qr HO_5.out)) k_ hk, Kd.fresh' (Kd.R_lt (qr HO_9.out)) k_ hk⟩)); (case aO => exact (by (with_reducible repeat (first | apply Kd.Q_alloc | apply Kd.Q_drewN | apply Kd.Q_drew)); exact Kd.Q_mono HO_7.out (fun _ hk => ⟨hk.2, hk.1⟩))); (case aS => exact (below_size (qb HB.out))); (case aL => have := LMc34.out; omega); intro v126 w38 ho hb hg hat; rw [← Ny120.out] at ho; replace HO_5 := q0 (Kd.R_after (ok := (fun k_ => some k_ ≠ (.slice (some ad121) t101.length co35 : Value).ownBlock)) (by (with_reducible repeat (first | apply Kd.R_alloc | apply Kd.R_drewN | apply Kd.R_drew)); exact Kd.R_mono HO_5.out (fun _ hk => ⟨hk.2, hk.1⟩)) hg hat); replace HO_9 := q0 (Kd.R_after (ok := (fun k_ => some k_ ≠ (.slice (some ⟨go12, 0, none⟩) x5_3.length co12 : Value).ownBlock)) (by (with_reducible repeat (first | apply Kd.R_alloc | apply Kd.R_drewN | apply Kd.R_drew)); exact Kd.R_mono HO_9.out (fun _ hk => ⟨hk.2, hk.1⟩)) hg hat); replace BK102 := q0 (blk_grown (g := gb102) (o := .cells #[.int .i64 a0_0, .slice A0_1 l0_1.length c0_1] 25 (0, 0)) (qk BK102.out) hg (Kd.Q_ne HO_7.out BK102.out (by decide))); replace HB := q0 (hb); have HO127 := q0 (ho); clear HO_7; clear ho hb hg hat))
 (try simp only [← hl5_3])
 go_roundg k3
 case measure => have := HK1.out; have := HK2.out; have := HK3.out; omega
 case rel => exact ⟨(y119), (y120), (wrap64 (x10_3 + 1)), qs, H', ⟨by have := HK1.out; have := HK2.out; have := HK3.out; omega⟩, ⟨by (try simp only [hl5_2]); (try simp only [hl5_3]); (with_reducible repeat (first | apply Kd.R_alloc | apply Kd.R_drewN | apply Kd.R_drew)); exact Kd.R_mono HO_5.out (fun _ hk => ⟨hk.2, hk.1⟩)⟩, ⟨by (try simp only [hl5_2]); (try simp only [hl5_3]); (with_reducible repeat (first | apply Kd.Q_alloc | apply Kd.Q_drewN | apply Kd.Q_drew)); exact HO127.out⟩, ⟨by (try simp only [hl5_2]); (try simp only [hl5_3]); (with_reducible repeat (first | apply Kd.R_alloc | apply Kd.R_drewN | apply Kd.R_drew)); exact HO_9.out⟩, ⟨by (try simp only [hl5_2]); (try simp only [hl5_3]); (with_reducible repeat (first | refine blk_drewN ?_ _ | refine blk_drew ?_ | refine blk_alloc ?_ _)); exact BK102.out⟩, ⟨qb HB.out⟩⟩

set_option maxHeartbeats 8000000 in
set_option maxRecDepth 100000 in
theorem spec_WayFind.calls (k : Nat) (a0_0 : Int) (A0_1 : Option Addr) (c0_1 : Nat) (l0_1 : List (STie)) (a1 : Int) (a2 : Int) (r1 : List Int) (r2 : Bool) (w : World) (hr0_1 : Kd.C kTie w A0_1 l0_1.length l0_1) (hc0_1 : l0_1.length ≤ c0_1) (h : spec_WayFind.f k a0_0 l0_1 a1 a2 = some (r1, r2)) :
    Calls Try.prog 81 #[.agg #[.int .i64 a0_0, .slice A0_1 l0_1.length c0_1], .int .i64 a1, .int .i64 a2] w fun e w' => ∃ v0_ : Value, e = .returned (.tuple #[v0_, .bool r2]) ∧ Kd.R (Kd.int .i64) 3 w' w.heap.size (fun _ => True) v0_ r1 ∧ Below w.heap.size w w' := by
 have hu25 := Try.underlying25
 have HR0_1 := q0 hr0_1
 have HC0_1 := q0 hc0_1
 clear hr0_1 hc0_1
 have HB := q0 (Below.refl w.heap.size w)
 have H : ((some (([] : List Int) : List Int)).bind fun y100 => ((spec_l1Knot.f k a0_0 l0_1 a1).bind fun t103 => (if t103 = true then ((spec_l1Knot.f k a0_0 l0_1 a2).bind fun t104 => (spec_WayFind.j0 k a1 a2 y100 (!t104) a0_0 l0_1)) else (spec_WayFind.j0 k a1 a2 y100 true a0_0 l0_1)))) = some (r1, r2) := h
 clear h
 obtain ⟨y100, hy100⟩ : ∃ y_ : List Int, y_ = (([] : List Int)) := ⟨_, rfl⟩
 replace H : ((spec_l1Knot.f k a0_0 l0_1 a1).bind fun t103 => (if t103 = true then ((spec_l1Knot.f k a0_0 l0_1 a2).bind fun t104 => (spec_WayFind.j0 k a1 a2 y100 (!t104) a0_0 l0_1)) else (spec_WayFind.j0 k a1 a2 y100 true a0_0 l0_1))) = some (r1, r2) := qy H hy100
 have Ny100 := q0 hy100
 clear hy100
 have HC4 := q0 H
 clear H
 go_enter Try.func81, Try.ntmps81
 go_upto_region 2 with (first | ((with_reducible refine gd 3 ?_); refine be 3 #[.int .i64 a0_0, .slice A0_1 l0_1.length c0_1] 25 ?_; intro gb105 hg w5 hbox hb; have BK105 := q0 (hbox); have GW105 := gw HB hg; have GE105 := gw HB hg; replace HB := bp HB hb; clear hb hbox hg) | ((with_reducible refine gd 13 ?_); refine Kd.R_lit (Kd.int .i64) _ 3 ?hg (N := 13) ?hd (xs := ([] : List Int)) (inner := []) (ok := fun _ => True) (okp := fun _ => True) ?hr ?hp (fun _ hk => hk) trivial (Below.refl _ _) (Nat.le_refl _) (by simp) ?_; (case hd => rfl); (case hg => rfl); (case hr => first | (go_simp; done) | (go_simp; rfl)); (case hp => exact (Reps.none _ _)); intro v106 w6 ho7 hb hg_ hnew_; clear hg_ hnew_; (first | rw [← Ny100.out] at ho7 | (simp only [Int.reduceToNat] at ho7; rw [← Ny100.out] at ho7)); have HO107 := q0 (Kd.R_lower ho7 (below_size (qb HB.out))); replace BK105 := kd BK105 hb; replace HB := bp HB hb; clear hb ho7))
 repeat (go_quiet (first | ((with_reducible refine gd 3 ?_); refine be 3 #[.int .i64 a0_0, .slice A0_1 l0_1.length c0_1] 25 ?_; intro gb105 hg w5 hbox hb; have BK105 := q0 (hbox); have GW105 := gw HB hg; have GE105 := gw HB hg; replace HB := bp HB hb; clear hb hbox hg) | ((with_reducible refine gd 13 ?_); refine Kd.R_lit (Kd.int .i64) _ 3 ?hg (N := 13) ?hd (xs := ([] : List Int)) (inner := []) (ok := fun _ => True) (okp := fun _ => True) ?hr ?hp (fun _ hk => hk) trivial (Below.refl _ _) (Nat.le_refl _) (by simp) ?_; (case hd => rfl); (case hg => rfl); (case hr => first | (go_simp; done) | (go_simp; rfl)); (case hp => exact (Reps.none _ _)); intro v106 w6 ho7 hb hg_ hnew_; clear hg_ hnew_; (first | rw [← Ny100.out] at ho7 | (simp only [Int.reduceToNat] at ho7; rw [← Ny100.out] at ho7)); have HO107 := q0 (Kd.R_lower ho7 (below_size (qb HB.out))); replace BK105 := kd BK105 hb; replace HB := bp HB hb; clear hb ho7)); go_upto_region 2 with (first | ((with_reducible refine gd 3 ?_); refine be 3 #[.int .i64 a0_0, .slice A0_1 l0_1.length c0_1] 25 ?_; intro gb105 hg w5 hbox hb; have BK105 := q0 (hbox); have GW105 := gw HB hg; have GE105 := gw HB hg; replace HB := bp HB hb; clear hb hbox hg) | ((with_reducible refine gd 13 ?_); refine Kd.R_lit (Kd.int .i64) _ 3 ?hg (N := 13) ?hd (xs := ([] : List Int)) (inner := []) (ok := fun _ => True) (okp := fun _ => True) ?hr ?hp (fun _ hk => hk) trivial (Below.refl _ _) (Nat.le_refl _) (by simp) ?_; (case hd => rfl); (case hg => rfl); (case hr => first | (go_simp; done) | (go_simp; rfl)); (case hp => exact (Reps.none _ _)); intro v106 w6 ho7 hb hg_ hnew_; clear hg_ hnew_; (first | rw [← Ny100.out] at ho7 | (simp only [Int.reduceToNat] at ho7; rw [← Ny100.out] at ho7)); have HO107 := q0 (Kd.R_lower ho7 (below_size (qb HB.out))); replace BK105 := kd BK105 hb; replace HB := bp HB hb; clear hb ho7)))
 (try simp only [Act.put, List.setIfInBounds_toArray, List.set_cons_zero, List.set_cons_succ])
 go_cut [23] (fun v23 wc => ∃ (kq : Nat) (x23_3 : Bool), v23 = .bool x23_3 ∧ Aside0 (spec_WayFind.j0 kq a1 a2 y100 x23_3 a0_0 l0_1 = some (r1, r2)) ∧ Aside0 (kq ≤ k) ∧ Aside0 (Kd.R (Kd.int .i64) 3 wc w.heap.size (fun _ => True) v106 y100) ∧ Aside0 (wc.heap[gb105]? = some (.cells #[.int .i64 a0_0, (.slice A0_1 l0_1.length c0_1)] 25 (0, 0))) ∧ Aside0 (Below w.heap.size w wc))
 case first =>
   have H := HC4.out
   clear HC4
   obtain ⟨t103, A8, H⟩ := ob H
   by_cases c9 : t103 = true
   rotate_left
   · replace c9 := Bool.eq_false_iff.mpr c9
     subst c9
     rw [if_neg nf] at H
     have H' := q0 H
     clear H
     obtain ⟨hcz15_0, hcz15_1, hfz15_0, hfz15_1⟩ := b2 BK105
     go_wp2_with (first | (go_at_call 67; (with_reducible refine (spec_l1Knot.calls k a0_0 _ _ l0_1 a1 false _ ?side1 ?side2 A8.out).mono ?_); (case side1 => exact qc (Kd.C_below HR0_1.out HB.out)); (case side2 => exact HC0_1.out); rintro e w16 ⟨rfl, hb⟩; replace HO107 := q0 (Kd.R_below (qr HO107.out) hb); replace BK105 := kd BK105 hb; replace HB := bp HB hb; (try clear hb); (try clear hb2); (try clear hk); (try clear hi)))
     repeat (go_quiet (first | (go_at_call 67; (with_reducible refine (spec_l1Knot.calls k a0_0 _ _ l0_1 a1 false _ ?side1 ?side2 A8.out).mono ?_); (case side1 => exact qc (Kd.C_below HR0_1.out HB.out)); (case side2 => exact HC0_1.out); rintro e w16 ⟨rfl, hb⟩; replace HO107 := q0 (Kd.R_below (qr HO107.out) hb); replace BK105 := kd BK105 hb; replace HB := bp HB hb; (try clear hb); (try clear hb2); (try clear hk); (try clear hi))); try go_wp2_with (first | (go_at_call 67; (with_reducible refine (spec_l1Knot.calls k a0_0 _ _ l0_1 a1 false _ ?side1 ?side2 A8.out).mono ?_); (case side1 => exact qc (Kd.C_below HR0_1.out HB.out)); (case side2 => exact HC0_1.out); rintro e w16 ⟨rfl, hb⟩; replace HO107 := q0 (Kd.R_below (qr HO107.out) hb); replace BK105 := kd BK105 hb; replace HB := bp HB hb; (try clear hb); (try clear hb2); (try clear hk); (try clear hi))))
     go_meet
     case rel => exact ⟨_, (true), qs, H', ⟨by first | omega | exact Nat.le_refl _⟩, ⟨qr HO107.out⟩, ⟨qk BK105.out⟩, ⟨qb HB.out⟩⟩
   subst c9
   rw [if_pos rfl] at H
   obtain ⟨t104, A10, H⟩ := ob H
   have H' := q0 H
   clear H
   obtain ⟨hcz11_0, hcz11_1, hfz11_0, hfz11_1⟩ := b2 BK105
   go_wp2_with (first | (go_at_call 67; (with_reducible refine (spec_l1Knot.calls k a0_0 _ _ l0_1 a1 true _ ?side1 ?side2 A8.out).mono ?_); (case side1 => exact qc (Kd.C_below HR0_1.out HB.out)); (case side2 => exact HC0_1.out); rintro e w12 ⟨rfl, hb⟩; replace HO107 := q0 (Kd.R_below (qr HO107.out) hb); replace BK105 := kd BK105 hb; replace HB := bp HB hb; (try clear hb); (try clear hb2); (try clear hk); (try clear hi); obtain ⟨hcz13_0, hcz13_1, hfz13_0, hfz13_1⟩ := b2 BK105) | (go_at_call 67; (with_reducible refine (spec_l1Knot.calls k a0_0 _ _ l0_1 a2 t104 _ ?side1 ?side2 A10.out).mono ?_); (case side1 => exact qc (Kd.C_below HR0_1.out HB.out)); (case side2 => exact HC0_1.out); rintro e w14 ⟨rfl, hb⟩; replace HO107 := q0 (Kd.R_below (qr HO107.out) hb); replace BK105 := kd BK105 hb; replace HB := bp HB hb; (try clear hb); (try clear hb2); (try clear hk); (try clear hi)))
   repeat (go_quiet (first | (go_at_call 67; (with_reducible refine (spec_l1Knot.calls k a0_0 _ _ l0_1 a1 true _ ?side1 ?side2 A8.out).mono ?_); (case side1 => exact qc (Kd.C_below HR0_1.out HB.out)); (case side2 => exact HC0_1.out); rintro e w12 ⟨rfl, hb⟩; replace HO107 := q0 (Kd.R_below (qr HO107.out) hb); replace BK105 := kd BK105 hb; replace HB := bp HB hb; (try clear hb); (try clear hb2); (try clear hk); (try clear hi); obtain ⟨hcz13_0, hcz13_1, hfz13_0, hfz13_1⟩ := b2 BK105) | (go_at_call 67; (with_reducible refine (spec_l1Knot.calls k a0_0 _ _ l0_1 a2 t104 _ ?side1 ?side2 A10.out).mono ?_); (case side1 => exact qc (Kd.C_below HR0_1.out HB.out)); (case side2 => exact HC0_1.out); rintro e w14 ⟨rfl, hb⟩; replace HO107 := q0 (Kd.R_below (qr HO107.out) hb); replace BK105 := kd BK105 hb; replace HB := bp HB hb; (try clear hb); (try clear hb2); (try clear hk); (try clear hi))); try go_wp2_with (first | (go_at_call 67; (with_reducible refine (spec_l1Knot.calls k a0_0 _ _ l0_1 a1 true _ ?side1 ?side2 A8.out).mono ?_); (case side1 => exact qc (Kd.C_below HR0_1.out HB.out)); (case side2 => exact HC0_1.out); rintro e w12 ⟨rfl, hb⟩; replace HO107 := q0 (Kd.R_below (qr HO107.out) hb); replace BK105 := kd BK105 hb; replace HB := bp HB hb; (try clear hb); (try clear hb2); (try clear hk); (try clear hi); obtain ⟨hcz13_0, hcz13_1, hfz13_0, hfz13_1⟩ := b2 BK105) | (go_at_call 67; (with_reducible refine (spec_l1Knot.calls k a0_0 _ _ l0_1 a2 t104 _ ?side1 ?side2 A10.out).mono ?_); (case side1 => exact qc (Kd.C_below HR0_1.out HB.out)); (case side2 => exact HC0_1.out); rintro e w14 ⟨rfl, hb⟩; replace HO107 := q0 (Kd.R_below (qr HO107.out) hb); replace BK105 := kd BK105 hb; replace HB := bp HB hb; (try clear hb); (try clear hb2); (try clear hk); (try clear hi))))
   go_meet
   case rel => exact ⟨_, (!t104), qs, H', ⟨by first | omega | exact Nat.le_refl _⟩, ⟨qr HO107.out⟩, ⟨qk BK105.out⟩, ⟨qb HB.out⟩⟩
 clear HC4
 try clear p2
 try clear c8
 try clear c9
 try clear hcz11_0
 try clear hcz11_1
 try clear hcz13_0
 try clear hcz13_1
 try clear hcz15_0
 try clear hcz15_1
 try clear hfz11_0
 try clear hfz11_1
 try clear hfz13_0
 try clear hfz13_1
 try clear hfz15_0
 try clear hfz15_1
 obtain ⟨kq, x23_3, rfl, HA, HJ3, HO_8, BK105, HB⟩ := hcut
 rcases kq with _ | kj3
 · exact absurd HA.out (by simp [spec_WayFind.j0])
 have H := HA.out
 clear HA
 simp only [spec_WayFind.j0] at H
 by_cases c17 : x23_3 = true
 · subst c17
   rw [if_pos rfl] at H
   simp only [Option.some.injEq, Prod.mk.injEq] at H
   obtain ⟨rfl, rfl⟩ := H
   go_wp2
   repeat (go_quiet (fail); try go_wp2)
   go_ret2
   exact ⟨_, qe, qr HO_8.out, qb HB.out⟩
 replace c17 := Bool.eq_false_iff.mpr c17
 subst c17
 rw [if_neg nf] at H
 obtain ⟨t101, A18, H⟩ := ob H
 obtain ⟨c19, H⟩ : (0 ≤ a1) ∧ _ := og H
 have c19b0 := decide_eq_true c19
 clear c19
 obtain ⟨c20, H⟩ : (a1 < (t101.length : Int)) ∧ _ := og H
 have c20b0 := decide_eq_true c20
 clear c20
 by_cases c21 : (rd t101 a1) < 0
 · rw [if_pos c21] at H
   have c21b0 := decide_eq_true c21
   clear c21
   simp only [Option.some.injEq, Prod.mk.injEq] at H
   obtain ⟨rfl, rfl⟩ := H
   obtain ⟨hcz22_0, hcz22_1, hfz22_0, hfz22_1⟩ := b2 BK105
   go_wp2_with (first | (go_at_call 103; (with_reducible refine (spec_l2Far.calls kj3 a0_0 _ _ l0_1 a2 t101 _ ?side1 ?side2 A18.out).mono ?_); (case side1 => exact qc (Kd.C_below HR0_1.out HB.out)); (case side2 => exact HC0_1.out); rintro e w23 ⟨v110, rfl, ho0, hb⟩; have HO111 := q0 (Kd.R_lower (Kd.R_new' ho0 (Kd.R_lt (qr HO_8.out))) (below_size (qb HB.out))); replace HO_8 := q0 (Kd.R_elder' (qr HO_8.out) (Kd.R_base ho0) hb); replace BK105 := kd BK105 hb; replace HB := bp HB hb; (try clear hb); (try clear hb2); (try clear hk); (try clear hi); (try clear ho0); obtain ⟨Ao24, co24, eo24⟩ := Kd.R_slice HO111.out; subst eo24; have p112 : 0 ≤ (a1 : Int) := of_decide_eq_true qa; have q112 : a1 < (t101.length : Int) := of_decide_eq_true qa; obtain ⟨ad112, e112, hx112_0⟩ := Kd.at_int (Kd.R_reads' HO111.out).2.2 a1 p112 q112; cases e112; replace p112 := eq_true p112; replace q112 := eq_true q112))
   repeat (go_quiet (first | (go_at_call 103; (with_reducible refine (spec_l2Far.calls kj3 a0_0 _ _ l0_1 a2 t101 _ ?side1 ?side2 A18.out).mono ?_); (case side1 => exact qc (Kd.C_below HR0_1.out HB.out)); (case side2 => exact HC0_1.out); rintro e w23 ⟨v110, rfl, ho0, hb⟩; have HO111 := q0 (Kd.R_lower (Kd.R_new' ho0 (Kd.R_lt (qr HO_8.out))) (below_size (qb HB.out))); replace HO_8 := q0 (Kd.R_elder' (qr HO_8.out) (Kd.R_base ho0) hb); replace BK105 := kd BK105 hb; replace HB := bp HB hb; (try clear hb); (try clear hb2); (try clear hk); (try clear hi); (try clear ho0); obtain ⟨Ao24, co24, eo24⟩ := Kd.R_slice HO111.out; subst eo24; have p112 : 0 ≤ (a1 : Int) := of_decide_eq_true qa; have q112 : a1 < (t101.length : Int) := of_decide_eq_true qa; obtain ⟨ad112, e112, hx112_0⟩ := Kd.at_int (Kd.R_reads' HO111.out).2.2 a1 p112 q112; cases e112; replace p112 := eq_true p112; replace q112 := eq_true q112)); try go_wp2_with (first | (go_at_call 103; (with_reducible refine (spec_l2Far.calls kj3 a0_0 _ _ l0_1 a2 t101 _ ?side1 ?side2 A18.out).mono ?_); (case side1 => exact qc (Kd.C_below HR0_1.out HB.out)); (case side2 => exact HC0_1.out); rintro e w23 ⟨v110, rfl, ho0, hb⟩; have HO111 := q0 (Kd.R_lower (Kd.R_new' ho0 (Kd.R_lt (qr HO_8.out))) (below_size (qb HB.out))); replace HO_8 := q0 (Kd.R_elder' (qr HO_8.out) (Kd.R_base ho0) hb); replace BK105 := kd BK105 hb; replace HB := bp HB hb; (try clear hb); (try clear hb2); (try clear hk); (try clear hi); (try clear ho0); obtain ⟨Ao24, co24, eo24⟩ := Kd.R_slice HO111.out; subst eo24; have p112 : 0 ≤ (a1 : Int) := of_decide_eq_true qa; have q112 : a1 < (t101.length : Int) := of_decide_eq_true qa; obtain ⟨ad112, e112, hx112_0⟩ := Kd.at_int (Kd.R_reads' HO111.out).2.2 a1 p112 q112; cases e112; replace p112 := eq_true p112; replace q112 := eq_true q112)))
   go_ret2
   exact ⟨_, qe, by (with_reducible repeat (first | apply Kd.R_alloc | apply Kd.R_drewN | apply Kd.R_drew)); exact Kd.R_mono HO_8.out (fun _ hk => trivial), qb HB.out⟩
 rw [if_neg c21] at H
 have c21b0 := decide_eq_false c21
 clear c21
 obtain ⟨c25, H⟩ : (y100.length < 17592186044416) ∧ _ := og H
 have LMc25 := q0 c25
 clear c25
 obtain ⟨y113, hy113⟩ : ∃ y_ : List Int, y_ = (y100 ++ [a1]) := ⟨_, rfl⟩
 replace H : (spec_WayFind.l0 kj3 a2 y113 t101 a1 a0_0 l0_1) = some (r1, r2) := qy H hy113
 have Ny113 := q0 hy113
 clear hy113
 have H' := q0 H
 clear H
 obtain ⟨hcz26_0, hcz26_1, hfz26_0, hfz26_1⟩ := b2 BK105
 go_wp2_with (first | (go_at_call 103; (with_reducible refine (spec_l2Far.calls kj3 a0_0 _ _ l0_1 a2 t101 _ ?side1 ?side2 A18.out).mono ?_); (case side1 => exact qc (Kd.C_below HR0_1.out HB.out)); (case side2 => exact HC0_1.out); rintro e w27 ⟨v110, rfl, ho0, hb⟩; have HO111 := q0 (Kd.R_lower (Kd.R_new' ho0 (Kd.R_lt (qr HO_8.out))) (below_size (qb HB.out))); replace HO_8 := q0 (Kd.R_elder' (qr HO_8.out) (Kd.R_base ho0) hb); replace BK105 := kd BK105 hb; replace HB := bp HB hb; (try clear hb); (try clear hb2); (try clear hk); (try clear hi); (try clear ho0); obtain ⟨Ao28, co28, eo28⟩ := Kd.R_slice HO111.out; subst eo28; have p112 : 0 ≤ (a1 : Int) := of_decide_eq_true qa; have q112 : a1 < (t101.length : Int) := of_decide_eq_true qa; obtain ⟨ad112, e112, hx112_0⟩ := Kd.at_int (Kd.R_reads' HO111.out).2.2 a1 p112 q112; cases e112; replace p112 := eq_true p112; replace q112 := eq_true q112) | ((with_reducible refine gate_builtin (b := .append) (xs := #[.tmp 34, .tmp 36]) rfl ?_); at_builtin; refine Kd.R_append (Kd.int .i64) (w0 := w) w.heap.size rfl (.tmp 34) (.tmp 36) 60 3 (.int .i64 0) 8 rfl Try.underlying60 info3 rfl (by decide) (by omega) v106 y100 a1 [.int .i64 a1] (fun k_ => some k_ ≠ (.slice (some ad112) t101.length co28 : Value).ownBlock) (fun _ => False) rfl rfl ?aP (fun _ hk => hk.elim) ?aF ?aO ?aB ?aS ?aL ?_; (case aP => exact rfl); (case aB => exact (qb HB.out)); (case aF => exact (fun k_ hk => Kd.fresh' (Kd.R_lt (qr HO111.out)) k_ hk)); (case aO => exact (by (with_reducible repeat (first | apply Kd.R_alloc | apply Kd.R_drewN | apply Kd.R_drew)); exact Kd.R_mono HO_8.out (fun _ hk => hk.2))); (case aS => exact (below_size (qb HB.out))); (case aL => have := LMc25.out; omega); intro v114 w29 ho hb hg hat; rw [← Ny113.out] at ho; replace BK105 := q0 (blk_grown (g := gb105) (o := .cells #[.int .i64 a0_0, .slice A0_1 l0_1.length c0_1] 25 (0, 0)) (qk BK105.out) hg (Kd.R_ne HO_8.out BK105.out (by decide))); replace HO111 := q0 (Kd.R_after (ok := (fun _ => True)) (qr HO111.out) hg hat); replace HB := q0 (hb); have HO115 := q0 (ho); clear HO_8; clear ho hb hg hat))
 repeat (go_quiet (first | (go_at_call 103; (with_reducible refine (spec_l2Far.calls kj3 a0_0 _ _ l0_1 a2 t101 _ ?side1 ?side2 A18.out).mono ?_); (case side1 => exact qc (Kd.C_below HR0_1.out HB.out)); (case side2 => exact HC0_1.out); rintro e w27 ⟨v110, rfl, ho0, hb⟩; have HO111 := q0 (Kd.R_lower (Kd.R_new' ho0 (Kd.R_lt (qr HO_8.out))) (below_size (qb HB.out))); replace HO_8 := q0 (Kd.R_elder' (qr HO_8.out) (Kd.R_base ho0) hb); replace BK105 := kd BK105 hb; replace HB := bp HB hb; (try clear hb); (try clear hb2); (try clear hk); (try clear hi); (try clear ho0); obtain ⟨Ao28, co28, eo28⟩ := Kd.R_slice HO111.out; subst eo28; have p112 : 0 ≤ (a1 : Int) := of_decide_eq_true qa; have q112 : a1 < (t101.length : Int) := of_decide_eq_true qa; obtain ⟨ad112, e112, hx112_0⟩ := Kd.at_int (Kd.R_reads' HO111.out).2.2 a1 p112 q112; cases e112; replace p112 := eq_true p112; replace q112 := eq_true q112) | ((with_reducible refine gate_builtin (b := .append) (xs := #[.tmp 34, .tmp 36]) rfl ?_); at_builtin; refine Kd.R_append (Kd.int .i64) (w0 := w) w.heap.size rfl (.tmp 34) (.tmp 36) 60 3 (.int .i64 0) 8 rfl Try.underlying60 info3 rfl (by decide) (by omega) v106 y100 a1 [.int .i64 a1] (fun k_ => some k_ ≠ (.slice (some ad112) t101.length co28 : Value).ownBlock) (fun _ => False) rfl rfl ?aP (fun _ hk => hk.elim) ?aF ?aO ?aB ?aS ?aL ?_; (case aP => exact rfl); (case aB => exact (qb HB.out)); (case aF => exact (fun k_ hk => Kd.fresh' (Kd.R_lt (qr HO111.out)) k_ hk)); (case aO => exact (by (with_reducible repeat (first | apply Kd.R_alloc | apply Kd.R_drewN | apply Kd.R_drew)); exact Kd.R_mono HO_8.out (fun _ hk => hk.2))); (case aS => exact (below_size (qb HB.out))); (case aL => have := LMc25.out; omega); intro v114 w29 ho hb hg hat; rw [← Ny113.out] at ho; replace BK105 := q0 (blk_grown (g := gb105) (o := .cells #[.int .i64 a0_0, .slice A0_1 l0_1.length c0_1] 25 (0, 0)) (qk BK105.out) hg (Kd.R_ne HO_8.out BK105.out (by decide))); replace HO111 := q0 (Kd.R_after (ok := (fun _ => True)) (qr HO111.out) hg hat); replace HB := q0 (hb); have HO115 := q0 (ho); clear HO_8; clear ho hb hg hat)); try go_wp2_with (first | (go_at_call 103; (with_reducible refine (spec_l2Far.calls kj3 a0_0 _ _ l0_1 a2 t101 _ ?side1 ?side2 A18.out).mono ?_); (case side1 => exact qc (Kd.C_below HR0_1.out HB.out)); (case side2 => exact HC0_1.out); rintro e w27 ⟨v110, rfl, ho0, hb⟩; have HO111 := q0 (Kd.R_lower (Kd.R_new' ho0 (Kd.R_lt (qr HO_8.out))) (below_size (qb HB.out))); replace HO_8 := q0 (Kd.R_elder' (qr HO_8.out) (Kd.R_base ho0) hb); replace BK105 := kd BK105 hb; replace HB := bp HB hb; (try clear hb); (try clear hb2); (try clear hk); (try clear hi); (try clear ho0); obtain ⟨Ao28, co28, eo28⟩ := Kd.R_slice HO111.out; subst eo28; have p112 : 0 ≤ (a1 : Int) := of_decide_eq_true qa; have q112 : a1 < (t101.length : Int) := of_decide_eq_true qa; obtain ⟨ad112, e112, hx112_0⟩ := Kd.at_int (Kd.R_reads' HO111.out).2.2 a1 p112 q112; cases e112; replace p112 := eq_true p112; replace q112 := eq_true q112) | ((with_reducible refine gate_builtin (b := .append) (xs := #[.tmp 34, .tmp 36]) rfl ?_); at_builtin; refine Kd.R_append (Kd.int .i64) (w0 := w) w.heap.size rfl (.tmp 34) (.tmp 36) 60 3 (.int .i64 0) 8 rfl Try.underlying60 info3 rfl (by decide) (by omega) v106 y100 a1 [.int .i64 a1] (fun k_ => some k_ ≠ (.slice (some ad112) t101.length co28 : Value).ownBlock) (fun _ => False) rfl rfl ?aP (fun _ hk => hk.elim) ?aF ?aO ?aB ?aS ?aL ?_; (case aP => exact rfl); (case aB => exact (qb HB.out)); (case aF => exact (fun k_ hk => Kd.fresh' (Kd.R_lt (qr HO111.out)) k_ hk)); (case aO => exact (by (with_reducible repeat (first | apply Kd.R_alloc | apply Kd.R_drewN | apply Kd.R_drew)); exact Kd.R_mono HO_8.out (fun _ hk => hk.2))); (case aS => exact (below_size (qb HB.out))); (case aL => have := LMc25.out; omega); intro v114 w29 ho hb hg hat; rw [← Ny113.out] at ho; replace BK105 := q0 (blk_grown (g := gb105) (o := .cells #[.int .i64 a0_0, .slice A0_1 l0_1.length c0_1] 25 (0, 0)) (qk BK105.out) hg (Kd.R_ne HO_8.out BK105.out (by decide))); replace HO111 := q0 (Kd.R_after (ok := (fun _ => True)) (qr HO111.out) hg hat); replace HB := q0 (hb); have HO115 := q0 (ho); clear HO_8; clear ho hb hg hat)))
 go_loopg [8, 10] kj3 (fun kq v8 v10 w' => ∃ (x8_2 : List Int) (x10_2 : Int), v10 = .int .i64 x10_2 ∧ Aside0 (spec_WayFind.l0 kq a2 x8_2 t101 x10_2 a0_0 l0_1 = some (r1, r2)) ∧ Aside0 (kq ≤ kj3) ∧ Aside0 (Kd.R (Kd.int .i64) 3 w' w.heap.size (fun k_ => some k_ ≠ ((.slice (some ad112) t101.length co28) : Value).ownBlock) v8 x8_2) ∧ Aside0 (Kd.R (Kd.int .i64) 3 w' w.heap.size (fun k_ => some k_ ≠ (v8 : Value).ownBlock) (.slice (some ad112) t101.length co28) t101) ∧ Aside0 (w'.heap[gb105]? = some (.cells #[.int .i64 a0_0, (.slice A0_1 l0_1.length c0_1)] 25 (0, 0))) ∧ Aside0 (Below w.heap.size w w'))
 case atStart => exact ⟨(y113), (a1), qs, H', ⟨Nat.le_refl _⟩, ⟨qr HO115.out⟩, ⟨by (with_reducible repeat (first | apply Kd.R_alloc | apply Kd.R_drewN | apply Kd.R_drew)); exact Kd.R_mono HO111.out (fun _ hk => hk.2)⟩, ⟨qk BK105.out⟩, ⟨qb HB.out⟩⟩
 clear H'
 try clear c1
 try clear c2
 try clear p2
 try clear q2
 try clear hx2
 try clear c8
 try clear c9
 try clear c17
 try clear c19
 try clear c19b0
 try clear c20
 try clear c20b0
 try clear c21
 try clear c21b0
 try clear c25
 try clear p26
 try clear q26
 try clear hx26
 try clear hcz11_0
 try clear hcz11_1
 try clear hcz13_0
 try clear hcz13_1
 try clear hcz15_0
 try clear hcz15_1
 try clear hcz22_0
 try clear hcz22_1
 try clear hcz26_0
 try clear hcz26_1
 try clear hfz11_0
 try clear hfz11_1
 try clear hfz13_0
 try clear hfz13_1
 try clear hfz15_0
 try clear hfz15_1
 try clear hfz22_0
 try clear hfz22_1
 try clear hfz26_0
 try clear hfz26_1
 try clear hx112_0
 try clear p2
 try clear p112
 try clear q112
 obtain ⟨x8_2, x10_2, rfl, HA, HK2, HO_8, HO_9, BK105, HB⟩ := hrel
 rcases gk with _ | k2
 · exact absurd HA.out (by simp [spec_WayFind.l0])
 have H := HA.out
 clear HA
 simp only [spec_WayFind.l0] at H
 by_cases c30 : x10_2 = a2
 · rw [if_pos c30] at H
   have c30b0 : (x10_2 == a2) = true := beq_iff_eq.mpr c30
   have c30b1 : (x10_2 != a2) = false := bne_eq_false_iff_eq.mpr c30
   clear c30
   simp only [Option.some.injEq, Prod.mk.injEq] at H
   obtain ⟨rfl, rfl⟩ := H
   go_wp2
   repeat (go_quiet (fail); try go_wp2)
   go_ret2
   exact ⟨_, qe, by (with_reducible repeat (first | apply Kd.R_alloc | apply Kd.R_drewN | apply Kd.R_drew)); exact Kd.R_mono HO_8.out (fun _ hk => trivial), qb HB.out⟩
 rw [if_neg c30] at H
 have c30b0 : (x10_2 == a2) = false := beq_eq_false_iff_ne.mpr c30
 have c30b1 : (x10_2 != a2) = true := bne_iff_ne.mpr c30
 obtain ⟨t102, A31, H⟩ := ob H
 have H' := q0 H
 clear H
 obtain ⟨hcz32_0, hcz32_1, hfz32_0, hfz32_1⟩ := b2 BK105
 go_wp2_with (first | (go_at_call 95; (with_reducible refine (spec_l2Next.calls k2 a0_0 _ _ l0_1 x10_2 t102 _ ?side1 ?side2 A31.out).mono ?_); (case side1 => exact qc (Kd.C_below HR0_1.out HB.out)); (case side2 => exact HC0_1.out); rintro e w33 ⟨v117, rfl, ho0, hb⟩; have HO118 := q0 (Kd.R_lower (Kd.R_new' (Kd.R_new' ho0 (Kd.R_lt (qr HO_8.out))) (Kd.R_lt (qr HO_9.out))) (below_size (qb HB.out))); replace HO_8 := q0 (Kd.R_elder' (qr HO_8.out) (Kd.R_base ho0) hb); replace HO_9 := q0 (Kd.R_elder' (qr HO_9.out) (Kd.R_base ho0) hb); replace BK105 := kd BK105 hb; replace HB := bp HB hb; (try clear hb); (try clear hb2); (try clear hk); (try clear hi); (try clear ho0)))
 repeat (go_quiet (first | (go_at_call 95; (with_reducible refine (spec_l2Next.calls k2 a0_0 _ _ l0_1 x10_2 t102 _ ?side1 ?side2 A31.out).mono ?_); (case side1 => exact qc (Kd.C_below HR0_1.out HB.out)); (case side2 => exact HC0_1.out); rintro e w33 ⟨v117, rfl, ho0, hb⟩; have HO118 := q0 (Kd.R_lower (Kd.R_new' (Kd.R_new' ho0 (Kd.R_lt (qr HO_8.out))) (Kd.R_lt (qr HO_9.out))) (below_size (qb HB.out))); replace HO_8 := q0 (Kd.R_elder' (qr HO_8.out) (Kd.R_base ho0) hb); replace HO_9 := q0 (Kd.R_elder' (qr HO_9.out) (Kd.R_base ho0) hb); replace BK105 := kd BK105 hb; replace HB := bp HB hb; (try clear hb); (try clear hb2); (try clear hk); (try clear hi); (try clear ho0))); try go_wp2_with (first | (go_at_call 95; (with_reducible refine (spec_l2Next.calls k2 a0_0 _ _ l0_1 x10_2 t102 _ ?side1 ?side2 A31.out).mono ?_); (case side1 => exact qc (Kd.C_below HR0_1.out HB.out)); (case side2 => exact HC0_1.out); rintro e w33 ⟨v117, rfl, ho0, hb⟩; have HO118 := q0 (Kd.R_lower (Kd.R_new' (Kd.R_new' ho0 (Kd.R_lt (qr HO_8.out))) (Kd.R_lt (qr HO_9.out))) (below_size (qb HB.out))); replace HO_8 := q0 (Kd.R_elder' (qr HO_8.out) (Kd.R_base ho0) hb); replace HO_9 := q0 (Kd.R_elder' (qr HO_9.out) (Kd.R_base ho0) hb); replace BK105 := kd BK105 hb; replace HB := bp HB hb; (try clear hb); (try clear hb2); (try clear hk); (try clear hi); (try clear ho0))))
 go_loopg [10, 12] k2 (fun kq v10 v12 w' => ∃ (x10_3 : Int) (x12_3 : Int), v10 = .int .i64 x10_3 ∧ v12 = .int .i64 x12_3 ∧ Aside0 (spec_WayFind.l1 kq a2 x8_2 t101 x10_3 t102 x12_3 a0_0 l0_1 = some (r1, r2)) ∧ Aside0 (kq ≤ k2) ∧ Aside0 (Kd.R (Kd.int .i64) 3 w' w.heap.size (fun k_ => some k_ ≠ ((.slice (some ad112) t101.length co28) : Value).ownBlock ∧ some k_ ≠ (v117 : Value).ownBlock) u8 x8_2) ∧ Aside0 (Kd.R (Kd.int .i64) 3 w' w.heap.size (fun k_ => some k_ ≠ (u8 : Value).ownBlock ∧ some k_ ≠ (v117 : Value).ownBlock) (.slice (some ad112) t101.length co28) t101) ∧ Aside0 (Kd.R (Kd.int .i64) 3 w' w.heap.size (fun k_ => some k_ ≠ (u8 : Value).ownBlock ∧ some k_ ≠ ((.slice (some ad112) t101.length co28) : Value).ownBlock) v117 t102) ∧ Aside0 (w'.heap[gb105]? = some (.cells #[.int .i64 a0_0, (.slice A0_1 l0_1.length c0_1)] 25 (0, 0))) ∧ Aside0 (Below w.heap.size w w'))
 case atStart => exact ⟨(x10_2), (0), qs, qs, H', ⟨Nat.le_refl _⟩, ⟨qr HO_8.out⟩, ⟨qr HO_9.out⟩, ⟨by (with_reducible repeat (first | apply Kd.R_alloc | apply Kd.R_drewN | apply Kd.R_drew)); exact Kd.R_mono HO118.out (fun _ hk => ⟨hk.1.2, hk.2⟩)⟩, ⟨qk BK105.out⟩, ⟨qb HB.out⟩⟩
 clear H'
 try clear c1
 try clear c2
 try clear p2
 try clear q2
 try clear hx2
 try clear c3
 try clear c8
 try clear c9
 try clear c17
 try clear c19
 try clear c19b0
 try clear c20
 try clear c20b0
 try clear c21
 try clear c21b0
 try clear c25
 try clear p26
 try clear q26
 try clear hx26
 try clear c30
 try clear c30b0
 try clear c30b1
 try clear hcz11_0
 try clear hcz11_1
 try clear hcz13_0
 try clear hcz13_1
 try clear hcz15_0
 try clear hcz15_1
 try clear hcz22_0
 try clear hcz22_1
 try clear hcz26_0
 try clear hcz26_1
 try clear hcz32_0
 try clear hcz32_1
 try clear hfz11_0
 try clear hfz11_1
 try clear hfz13_0
 try clear hfz13_1
 try clear hfz15_0
 try clear hfz15_1
 try clear hfz22_0
 try clear hfz22_1
 try clear hfz26_0
 try clear hfz26_1
 try clear hfz32_0
 try clear hfz32_1
 try clear hx112_0
 try clear p2
 try clear p26
 try clear p112
 try clear q2
 try clear q26
 try clear q112
 obtain ⟨x10_3, x12_3, rfl, rfl, HA, HK3, HO_8, HO_9, HO_11, BK105, HB⟩ := hrel
 rcases gk with _ | k3
 · exact absurd HA.out (by simp [spec_WayFind.l1])
 have H := HA.out
 clear HA
 simp only [spec_WayFind.l1] at H
 by_cases c34 : x12_3 < (t102.length : Int)
 rotate_left
 · rw [if_neg c34] at H
   have c34b0 := decide_eq_false c34
   clear c34
   obtain ⟨c45, H⟩ : (x8_2.length < 17592186044416) ∧ _ := og H
   have LMc45 := q0 c45
   clear c45
   obtain ⟨y126, hy126⟩ : ∃ y_ : List Int, y_ = (x8_2 ++ [x10_3]) := ⟨_, rfl⟩
   replace H : (spec_WayFind.l0 k3 a2 y126 t101 x10_3 a0_0 l0_1) = some (r1, r2) := qy H hy126
   have Ny126 := q0 hy126
   clear hy126
   have H' := q0 H
   clear H
   obtain ⟨Ao46, co46, eo46⟩ := Kd.R_slice HO_11.out
   subst eo46
   go_wp2_with (first | ((with_reducible refine gate_builtin (b := .append) (xs := #[.tmp 68, .tmp 70]) rfl ?_); at_builtin; refine Kd.R_append (Kd.int .i64) (w0 := w) w.heap.size rfl (.tmp 68) (.tmp 70) 60 3 (.int .i64 0) 8 rfl Try.underlying60 info3 rfl (by decide) (by omega) u8 x8_2 x10_3 [.int .i64 x10_3] (fun k_ => some k_ ≠ (.slice (some ad112) t101.length co28 : Value).ownBlock ∧ some k_ ≠ (.slice Ao46 t102.length co46 : Value).ownBlock) (fun _ => False) rfl rfl ?aP (fun _ hk => hk.elim) ?aF ?aO ?aB ?aS ?aL ?_; (case aP => exact rfl); (case aB => exact (qb HB.out)); (case aF => exact (fun k_ hk => ⟨Kd.fresh' (Kd.R_lt (qr HO_9.out)) k_ hk, Kd.fresh' (Kd.R_lt (qr HO_11.out)) k_ hk⟩)); (case aO => exact (qr HO_8.out)); (case aS => exact (below_size (qb HB.out))); (case aL => have := LMc45.out; omega); intro v127 w47 ho hb hg hat; rw [← Ny126.out] at ho; replace HO_9 := q0 (Kd.R_after (ok := (fun k_ => some k_ ≠ (.slice Ao46 t102.length co46 : Value).ownBlock)) (by (with_reducible repeat (first | apply Kd.R_alloc | apply Kd.R_drewN | apply Kd.R_drew)); exact Kd.R_mono HO_9.out (fun _ hk => ⟨hk.2, hk.1⟩)) hg hat); replace HO_11 := q0 (Kd.R_after (ok := (fun k_ => some k_ ≠ (.slice (some ad112) t101.length co28 : Value).ownBlock)) (by (with_reducible repeat (first | apply Kd.R_alloc | apply Kd.R_drewN | apply Kd.R_drew)); exact Kd.R_mono HO_11.out (fun _ hk => ⟨hk.2, hk.1⟩)) hg hat); replace BK105 := q0 (blk_grown (g := gb105) (o := .cells #[.int .i64 a0_0, .slice A0_1 l0_1.length c0_1] 25 (0, 0)) (qk BK105.out) hg (Kd.R_ne HO_8.out BK105.out (by decide))); replace HB := q0 (hb); have HO128 := q0 (ho); clear HO_8; clear ho hb hg hat))
   repeat (go_quiet (first | ((with_reducible refine gate_builtin (b := .append) (xs := #[.tmp 68, .tmp 70]) rfl ?_); at_builtin; refine Kd.R_append (Kd.int .i64) (w0 := w) w.heap.size rfl (.tmp 68) (.tmp 70) 60 3 (.int .i64 0) 8 rfl Try.underlying60 info3 rfl (by decide) (by omega) u8 x8_2 x10_3 [.int .i64 x10_3] (fun k_ => some k_ ≠ (.slice (some ad112) t101.length co28 : Value).ownBlock ∧ some k_ ≠ (.slice Ao46 t102.length co46 : Value).ownBlock) (fun _ => False) rfl rfl ?aP (fun _ hk => hk.elim) ?aF ?aO ?aB ?aS ?aL ?_; (case aP => exact rfl); (case aB => exact (qb HB.out)); (case aF => exact (fun k_ hk => ⟨Kd.fresh' (Kd.R_lt (qr HO_9.out)) k_ hk, Kd.fresh' (Kd.R_lt (qr HO_11.out)) k_ hk⟩)); (case aO => exact (qr HO_8.out)); (case aS => exact (below_size (qb HB.out))); (case aL => have := LMc45.out; omega); intro v127 w47 ho hb hg hat; rw [← Ny126.out] at ho; replace HO_9 := q0 (Kd.R_after (ok := (fun k_ => some k_ ≠ (.slice Ao46 t102.length co46 : Value).ownBlock)) (by (with_reducible repeat (first | apply Kd.R_alloc | apply Kd.R_drewN | apply Kd.R_drew)); exact Kd.R_mono HO_9.out (fun _ hk => ⟨hk.2, hk.1⟩)) hg hat); replace HO_11 := q0 (Kd.R_after (ok := (fun k_ => some k_ ≠ (.slice (some ad112) t101.length co28 : Value).ownBlock)) (by (with_reducible repeat (first | apply Kd.R_alloc | apply Kd.R_drewN | apply Kd.R_drew)); exact Kd.R_mono HO_11.out (fun _ hk => ⟨hk.2, hk.1⟩)) hg hat); replace BK105 := q0 (blk_grown (g := gb105) (o := .cells #[.int .i64 a0_0, .slice A0_1 l0_1.length c0_1] 25 (0, 0)) (qk BK105.out) hg (Kd.R_ne HO_8.out BK105.out (by decide))); replace HB := q0 (hb); have HO128 := q0 (ho); clear HO_8; clear ho hb hg hat)); try go_wp2_with (first | ((with_reducible refine gate_builtin (b := .append) (xs := #[.tmp 68, .tmp 70]) rfl ?_); at_builtin; refine Kd.R_append (Kd.int .i64) (w0 := w) w.heap.size rfl (.tmp 68) (.tmp 70) 60 3 (.int .i64 0) 8 rfl Try.underlying60 info3 rfl (by decide) (by omega) u8 x8_2 x10_3 [.int .i64 x10_3] (fun k_ => some k_ ≠ (.slice (some ad112) t101.length co28 : Value).ownBlock ∧ some k_ ≠ (.slice Ao46 t102.length co46 : Value).ownBlock) (fun _ => False) rfl rfl ?aP (fun _ hk => hk.elim) ?aF ?aO ?aB ?aS ?aL ?_; (case aP => exact rfl); (case aB => exact (qb HB.out)); (case aF => exact (fun k_ hk => ⟨Kd.fresh' (Kd.R_lt (qr HO_9.out)) k_ hk, Kd.fresh' (Kd.R_lt (qr HO_11.out)) k_ hk⟩)); (case aO => exact (qr HO_8.out)); (case aS => exact (below_size (qb HB.out))); (case aL => have := LMc45.out; omega); intro v127 w47 ho hb hg hat; rw [← Ny126.out] at ho; replace HO_9 := q0 (Kd.R_after (ok := (fun k_ => some k_ ≠ (.slice Ao46 t102.length co46 : Value).ownBlock)) (by (with_reducible repeat (first | apply Kd.R_alloc | apply Kd.R_drewN | apply Kd.R_drew)); exact Kd.R_mono HO_9.out (fun _ hk => ⟨hk.2, hk.1⟩)) hg hat); replace HO_11 := q0 (Kd.R_after (ok := (fun k_ => some k_ ≠ (.slice (some ad112) t101.length co28 : Value).ownBlock)) (by (with_reducible repeat (first | apply Kd.R_alloc | apply Kd.R_drewN | apply Kd.R_drew)); exact Kd.R_mono HO_11.out (fun _ hk => ⟨hk.2, hk.1⟩)) hg hat); replace BK105 := q0 (blk_grown (g := gb105) (o := .cells #[.int .i64 a0_0, .slice A0_1 l0_1.length c0_1] 25 (0, 0)) (qk BK105.out) hg (Kd.R_ne HO_8.out BK105.out (by decide))); replace HB := q0 (hb); have HO128 := q0 (ho); clear HO_8; clear ho hb hg hat)))
   go_roundg k3
   case measure => have := HJ3.out; have := HK2.out; have := HK3.out; omega
   case rel => exact ⟨(y126), (x10_3), qs, H', ⟨by have := HJ3.out; have := HK2.out; have := HK3.out; omega⟩, ⟨by (with_reducible repeat (first | apply Kd.R_alloc | apply Kd.R_drewN | apply Kd.R_drew)); exact Kd.R_mono HO128.out (fun _ hk => hk.1)⟩, ⟨by (with_reducible repeat (first | apply Kd.R_alloc | apply Kd.R_drewN | apply Kd.R_drew)); exact Kd.R_mono HO_9.out (fun _ hk => hk.2)⟩, ⟨qk BK105.out⟩, ⟨qb HB.out⟩⟩
 rw [if_pos c34] at H
 have c34b0 := decide_eq_true c34
 clear c34
 obtain ⟨c35, H⟩ : (0 ≤ x12_3) ∧ _ := og H
 have c35b0 := decide_eq_true c35
 clear c35
 obtain ⟨c36, H⟩ : (0 ≤ (rd t102 x12_3)) ∧ _ := og H
 have c36b0 := decide_eq_true c36
 clear c36
 obtain ⟨c37, H⟩ : ((rd t102 x12_3) < (t101.length : Int)) ∧ _ := og H
 have c37b0 := decide_eq_true c37
 clear c37
 obtain ⟨c38, H⟩ : (0 ≤ x10_3) ∧ _ := og H
 have c38b0 := decide_eq_true c38
 clear c38
 obtain ⟨c39, H⟩ : (x10_3 < (t101.length : Int)) ∧ _ := og H
 have c39b0 := decide_eq_true c39
 clear c39
 by_cases c40 : (rd t101 (rd t102 x12_3)) = (wrap64 ((rd t101 x10_3) - 1))
 rotate_left
 · rw [if_neg c40] at H
   have c40b0 : ((rd t101 (rd t102 x12_3)) == (wrap64 ((rd t101 x10_3) - 1))) = false := beq_eq_false_iff_ne.mpr c40
   have c40b1 : ((rd t101 (rd t102 x12_3)) != (wrap64 ((rd t101 x10_3) - 1))) = true := bne_iff_ne.mpr c40
   have H' := q0 H
   clear H
   obtain ⟨Ao44, co44, eo44⟩ := Kd.R_slice HO_11.out
   subst eo44
   have p120 : 0 ≤ (x12_3 : Int) := of_decide_eq_true qa
   have q120 : x12_3 < (t102.length : Int) := of_decide_eq_true qa
   obtain ⟨ad120, e120, hx120_0⟩ := Kd.at_int (Kd.R_reads' HO_11.out).2.2 x12_3 p120 q120
   cases e120
   replace p120 := eq_true p120
   replace q120 := eq_true q120
   have p121 : 0 ≤ ((rd t102 x12_3) : Int) := of_decide_eq_true qa
   have q121 : (rd t102 x12_3) < (t101.length : Int) := of_decide_eq_true qa
   obtain ⟨ad121, e121, hx121_0⟩ := Kd.at_int (Kd.R_reads' HO_9.out).2.2 (rd t102 x12_3) p121 q121
   obtain rfl : ad112 = ad121 := (by injection e121)
   replace p121 := eq_true p121
   replace q121 := eq_true q121
   have p122 : 0 ≤ (x10_3 : Int) := of_decide_eq_true qa
   have q122 : x10_3 < (t101.length : Int) := of_decide_eq_true qa
   obtain ⟨ad122, e122, hx122_0⟩ := Kd.at_int (Kd.R_reads' HO_9.out).2.2 x10_3 p122 q122
   obtain rfl : ad112 = ad122 := (by injection e122)
   replace p122 := eq_true p122
   replace q122 := eq_true q122
   go_wp2
   repeat (go_quiet (fail); try go_wp2)
   go_roundg k3
   case measure => have := HJ3.out; have := HK2.out; have := HK3.out; omega
   case rel => exact ⟨(x10_3), (wrap64 (x12_3 + 1)), qs, qs, H', ⟨by have := HJ3.out; have := HK2.out; have := HK3.out; omega⟩, ⟨qr HO_8.out⟩, ⟨qr HO_9.out⟩, ⟨qr HO_11.out⟩, ⟨qk BK105.out⟩, ⟨qb HB.out⟩⟩
 rw [if_pos c40] at H
 have c40b0 : ((rd t101 (rd t102 x12_3)) == (wrap64 ((rd t101 x10_3) - 1))) = true := beq_iff_eq.mpr c40
 have c40b1 : ((rd t101 (rd t102 x12_3)) != (wrap64 ((rd t101 x10_3) - 1))) = false := bne_eq_false_iff_eq.mpr c40
 clear c40
 obtain ⟨c41, H⟩ : (x8_2.length < 17592186044416) ∧ _ := og H
 have LMc41 := q0 c41
 clear c41
 obtain ⟨y119, hy119⟩ : ∃ y_ : List Int, y_ = (x8_2 ++ [rd t102 x12_3]) := ⟨_, rfl⟩
 replace H : (spec_WayFind.l0 k3 a2 y119 t101 (rd t102 x12_3) a0_0 l0_1) = some (r1, r2) := qy H hy119
 have Ny119 := q0 hy119
 clear hy119
 have H' := q0 H
 clear H
 obtain ⟨Ao42, co42, eo42⟩ := Kd.R_slice HO_11.out
 subst eo42
 have p120 : 0 ≤ (x12_3 : Int) := of_decide_eq_true qa
 have q120 : x12_3 < (t102.length : Int) := of_decide_eq_true qa
 obtain ⟨ad120, e120, hx120_0⟩ := Kd.at_int (Kd.R_reads' HO_11.out).2.2 x12_3 p120 q120
 cases e120
 replace p120 := eq_true p120
 replace q120 := eq_true q120
 have p121 : 0 ≤ ((rd t102 x12_3) : Int) := of_decide_eq_true qa
 have q121 : (rd t102 x12_3) < (t101.length : Int) := of_decide_eq_true qa
 obtain ⟨ad121, e121, hx121_0⟩ := Kd.at_int (Kd.R_reads' HO_9.out).2.2 (rd t102 x12_3) p121 q121
 obtain rfl : ad112 = ad121 := (by injection e121)
 replace p121 := eq_true p121
 replace q121 := eq_true q121
 have p122 : 0 ≤ (x10_3 : Int) := of_decide_eq_true qa
 have q122 : x10_3 < (t101.length : Int) := of_decide_eq_true qa
 obtain ⟨ad122, e122, hx122_0⟩ := Kd.at_int (Kd.R_reads' HO_9.out).2.2 x10_3 p122 q122
 obtain rfl : ad112 = ad122 := (by injection e122)
 replace p122 := eq_true p122
 replace q122 := eq_true q122
 have p123 : 0 ≤ (x12_3 : Int) := of_decide_eq_true qa
 have q123 : x12_3 < (t102.length : Int) := of_decide_eq_true qa
 obtain ⟨ad123, e123, hx123_0⟩ := Kd.at_int (Kd.R_reads' HO_11.out).2.2 x12_3 p123 q123
 obtain rfl : ad120 = ad123 := (by injection e123)
 replace p123 := eq_true p123
 replace q123 := eq_true q123
 go_wp2_with (first | ((with_reducible refine gate_builtin (b := .append) (xs := #[.tmp 68, .tmp 70]) rfl ?_); at_builtin; refine Kd.R_append (Kd.int .i64) (w0 := w) w.heap.size rfl (.tmp 68) (.tmp 70) 60 3 (.int .i64 0) 8 rfl Try.underlying60 info3 rfl (by decide) (by omega) u8 x8_2 (rd t102 x12_3) [.int .i64 (rd t102 x12_3)] (fun k_ => some k_ ≠ (.slice (some ad112) t101.length co28 : Value).ownBlock ∧ some k_ ≠ (.slice (some ad120) t102.length co42 : Value).ownBlock) (fun _ => False) rfl rfl ?aP (fun _ hk => hk.elim) ?aF ?aO ?aB ?aS ?aL ?_; (case aP => exact rfl); (case aB => exact (qb HB.out)); (case aF => exact (fun k_ hk => ⟨Kd.fresh' (Kd.R_lt (qr HO_9.out)) k_ hk, Kd.fresh' (Kd.R_lt (qr HO_11.out)) k_ hk⟩)); (case aO => exact (qr HO_8.out)); (case aS => exact (below_size (qb HB.out))); (case aL => have := LMc41.out; omega); intro v124 w43 ho hb hg hat; rw [← Ny119.out] at ho; replace HO_9 := q0 (Kd.R_after (ok := (fun k_ => some k_ ≠ (.slice (some ad120) t102.length co42 : Value).ownBlock)) (by (with_reducible repeat (first | apply Kd.R_alloc | apply Kd.R_drewN | apply Kd.R_drew)); exact Kd.R_mono HO_9.out (fun _ hk => ⟨hk.2, hk.1⟩)) hg hat); replace HO_11 := q0 (Kd.R_after (ok := (fun k_ => some k_ ≠ (.slice (some ad112) t101.length co28 : Value).ownBlock)) (by (with_reducible repeat (first | apply Kd.R_alloc | apply Kd.R_drewN | apply Kd.R_drew)); exact Kd.R_mono HO_11.out (fun _ hk => ⟨hk.2, hk.1⟩)) hg hat); replace BK105 := q0 (blk_grown (g := gb105) (o := .cells #[.int .i64 a0_0, .slice A0_1 l0_1.length c0_1] 25 (0, 0)) (qk BK105.out) hg (Kd.R_ne HO_8.out BK105.out (by decide))); replace HB := q0 (hb); have HO125 := q0 (ho); clear HO_8; clear ho hb hg hat))
 repeat (go_quiet (first | ((with_reducible refine gate_builtin (b := .append) (xs := #[.tmp 68, .tmp 70]) rfl ?_); at_builtin; refine Kd.R_append (Kd.int .i64) (w0 := w) w.heap.size rfl (.tmp 68) (.tmp 70) 60 3 (.int .i64 0) 8 rfl Try.underlying60 info3 rfl (by decide) (by omega) u8 x8_2 (rd t102 x12_3) [.int .i64 (rd t102 x12_3)] (fun k_ => some k_ ≠ (.slice (some ad112) t101.length co28 : Value).ownBlock ∧ some k_ ≠ (.slice (some ad120) t102.length co42 : Value).ownBlock) (fun _ => False) rfl rfl ?aP (fun _ hk => hk.elim) ?aF ?aO ?aB ?aS ?aL ?_; (case aP => exact rfl); (case aB => exact (qb HB.out)); (case aF => exact (fun k_ hk => ⟨Kd.fresh' (Kd.R_lt (qr HO_9.out)) k_ hk, Kd.fresh' (Kd.R_lt (qr HO_11.out)) k_ hk⟩)); (case aO => exact (qr HO_8.out)); (case aS => exact (below_size (qb HB.out))); (case aL => have := LMc41.out; omega); intro v124 w43 ho hb hg hat; rw [← Ny119.out] at ho; replace HO_9 := q0 (Kd.R_after (ok := (fun k_ => some k_ ≠ (.slice (some ad120) t102.length co42 : Value).ownBlock)) (by (with_reducible repeat (first | apply Kd.R_alloc | apply Kd.R_drewN | apply Kd.R_drew)); exact Kd.R_mono HO_9.out (fun _ hk => ⟨hk.2, hk.1⟩)) hg hat); replace HO_11 := q0 (Kd.R_after (ok := (fun k_ => some k_ ≠ (.slice (some ad112) t101.length co28 : Value).ownBlock)) (by (with_reducible repeat (first | apply Kd.R_alloc | apply Kd.R_drewN | apply Kd.R_drew)); exact Kd.R_mono HO_11.out (fun _ hk => ⟨hk.2, hk.1⟩)) hg hat); replace BK105 := q0 (blk_grown (g := gb105) (o := .cells #[.int .i64 a0_0, .slice A0_1 l0_1.length c0_1] 25 (0, 0)) (qk BK105.out) hg (Kd.R_ne HO_8.out BK105.out (by decide))); replace HB := q0 (hb); have HO125 := q0 (ho); clear HO_8; clear ho hb hg hat)); try go_wp2_with (first | ((with_reducible refine gate_builtin (b := .append) (xs := #[.tmp 68, .tmp 70]) rfl ?_); at_builtin; refine Kd.R_append (Kd.int .i64) (w0 := w) w.heap.size rfl (.tmp 68) (.tmp 70) 60 3 (.int .i64 0) 8 rfl Try.underlying60 info3 rfl (by decide) (by omega) u8 x8_2 (rd t102 x12_3) [.int .i64 (rd t102 x12_3)] (fun k_ => some k_ ≠ (.slice (some ad112) t101.length co28 : Value).ownBlock ∧ some k_ ≠ (.slice (some ad120) t102.length co42 : Value).ownBlock) (fun _ => False) rfl rfl ?aP (fun _ hk => hk.elim) ?aF ?aO ?aB ?aS ?aL ?_; (case aP => exact rfl); (case aB => exact (qb HB.out)); (case aF => exact (fun k_ hk => ⟨Kd.fresh' (Kd.R_lt (qr HO_9.out)) k_ hk, Kd.fresh' (Kd.R_lt (qr HO_11.out)) k_ hk⟩)); (case aO => exact (qr HO_8.out)); (case aS => exact (below_size (qb HB.out))); (case aL => have := LMc41.out; omega); intro v124 w43 ho hb hg hat; rw [← Ny119.out] at ho; replace HO_9 := q0 (Kd.R_after (ok := (fun k_ => some k_ ≠ (.slice (some ad120) t102.length co42 : Value).ownBlock)) (by (with_reducible repeat (first | apply Kd.R_alloc | apply Kd.R_drewN | apply Kd.R_drew)); exact Kd.R_mono HO_9.out (fun _ hk => ⟨hk.2, hk.1⟩)) hg hat); replace HO_11 := q0 (Kd.R_after (ok := (fun k_ => some k_ ≠ (.slice (some ad112) t101.length co28 : Value).ownBlock)) (by (with_reducible repeat (first | apply Kd.R_alloc | apply Kd.R_drewN | apply Kd.R_drew)); exact Kd.R_mono HO_11.out (fun _ hk => ⟨hk.2, hk.1⟩)) hg hat); replace BK105 := q0 (blk_grown (g := gb105) (o := .cells #[.int .i64 a0_0, .slice A0_1 l0_1.length c0_1] 25 (0, 0)) (qk BK105.out) hg (Kd.R_ne HO_8.out BK105.out (by decide))); replace HB := q0 (hb); have HO125 := q0 (ho); clear HO_8; clear ho hb hg hat)))
 go_roundg k3
 case measure => have := HJ3.out; have := HK2.out; have := HK3.out; omega
 case rel => exact ⟨(y119), (rd t102 x12_3), qs, H', ⟨by have := HJ3.out; have := HK2.out; have := HK3.out; omega⟩, ⟨by (with_reducible repeat (first | apply Kd.R_alloc | apply Kd.R_drewN | apply Kd.R_drew)); exact Kd.R_mono HO125.out (fun _ hk => hk.1)⟩, ⟨by (with_reducible repeat (first | apply Kd.R_alloc | apply Kd.R_drewN | apply Kd.R_drew)); exact Kd.R_mono HO_9.out (fun _ hk => hk.2)⟩, ⟨qk BK105.out⟩, ⟨qb HB.out⟩⟩

set_option maxHeartbeats 8000000 in
set_option maxRecDepth 100000 in
theorem spec_TreeRings.calls (k : Nat) (a0_0 : Int) (A0_1 : Option Addr) (c0_1 : Nat) (l0_1 : List (STie)) (r : List (List Int)) (w : World) (hr0_1 : Kd.C kTie w A0_1 l0_1.length l0_1) (hc0_1 : l0_1.length ≤ c0_1) (h : spec_TreeRings.f k a0_0 l0_1 = some r) :
    Calls Try.prog 42 #[.agg #[.int .i64 a0_0, .slice A0_1 l0_1.length c0_1]] w fun e w' => ∃ v0_ : Value, e = .returned (v0_) ∧ Kd.S (Kd.slice 3 (Kd.int .i64)) 60 w' w.heap.size (fun _ => True) v0_ r ∧ Below w.heap.size w w' := by
 have hu25 := Try.underlying25
 have hu32 := Try.underlying32
 have HR0_1 := q0 hr0_1
 have HC0_1 := q0 hc0_1
 clear hr0_1 hc0_1
 have HB := q0 (Below.refl w.heap.size w)
 have H : ((some (([] : List (List Int)) : List (List Int))).bind fun y100 => ((spec_TreeOf.f k a0_0 l0_1).bind fun t104 => ((spec_NetOk.f k a0_0 l0_1).bind fun t101 => (if t101 = true then (spec_TreeRings.l0 k y100 0 a0_0 l0_1 a0_0 t104) else (some y100))))) = some r := h
 clear h
 obtain ⟨y100, hy100⟩ : ∃ y_ : List (List Int), y_ = (([] : List (List Int))) := ⟨_, rfl⟩
 replace H : ((spec_TreeOf.f k a0_0 l0_1).bind fun t104 => ((spec_NetOk.f k a0_0 l0_1).bind fun t101 => (if t101 = true then (spec_TreeRings.l0 k y100 0 a0_0 l0_1 a0_0 t104) else (some y100)))) = some r := qy H hy100
 have Ny100 := q0 hy100
 clear hy100
 obtain ⟨t104, A2, H⟩ := ob H
 obtain ⟨t101, A3, H⟩ := ob H
 by_cases c4 : t101 = true
 rotate_left
 · replace c4 := Bool.eq_false_iff.mpr c4
   subst c4
   rw [if_neg nf] at H
   obtain rfl := Option.some.inj H
   go_enter Try.func42, Try.ntmps42
   try go_wp2_with (first | ((with_reducible refine gd 1 ?_); refine be 1 #[.int .i64 a0_0, .slice A0_1 l0_1.length c0_1] 25 ?_; intro gb105 hg w48 hbox hb; have BK105 := q0 (hbox); have GW105 := gw HB hg; have GE105 := gw HB hg; replace HB := bp HB hb; clear hb hbox hg) | ((with_reducible refine gd 9 ?_); refine Kd.S_lit (Kd.slice 3 (Kd.int .i64)) _ 60 ?hg (N := 9) ?hd (xs := ([] : List (List Int))) (inner := []) (ok := fun _ => True) (okp := fun _ => True) ?hr ?hp (fun _ hk => hk) trivial (Below.refl _ _) (Nat.le_refl _) (by simp) ?_; (case hd => rfl); (case hg => rfl); (case hr => first | (go_simp; done) | (go_simp; rfl)); (case hp => exact (Reps.none _ _)); intro v106 w49 ho50 hb hg_ hnew_; clear hg_ hnew_; (first | rw [← Ny100.out] at ho50 | (simp only [Int.reduceToNat] at ho50; rw [← Ny100.out] at ho50)); have HO107 := q0 (Kd.S_lower ho50 (below_size (qb HB.out))); replace BK105 := kd BK105 hb; replace HB := bp HB hb; clear hb ho50))
   replace HO107 := q0 (Kd.S_drew HO107.out)
   replace BK105 := q0 (blk_drew BK105.out)
   replace HB := q0 (below_drew1 HB.out)
   refine start_ (n := 7) (S := fun w' => w'.cell? ⟨gb105, 0, none⟩ = some (.int .i64 a0_0) ∧ w'.cell? ⟨gb105, 1, none⟩ = some (.slice A0_1 l0_1.length c0_1)) (ds := []) (ba 7 0) (by kernel_rfl) rfl (by kernel_rfl) ⟨bca BK105, bcb BK105⟩ (fun hHeld => ?_)
   generalize w49.drew = w51 at HO107 BK105 HB hHeld ⊢
   refine pw 0 (some 10) (ba 7 1) ?_
   refine tw 1 (some 11) (ba 7 3) hHeld ?_
   refine tw 2 (some 12) (ba 7 7) hHeld ?_
   refine join_ (σ := Value × Nat) 1 (ba 7 63) (fun s_ => [(13, s_.1), (4, .pointer (some ⟨s_.2, 0, none⟩)), (14, .agg #[.int .i64 a0_0, s_.1])]) (fun s_ w' => (w'.cell? ⟨gb105, 0, none⟩ = some (.int .i64 a0_0) ∧ w'.cell? ⟨gb105, 1, none⟩ = some (.slice A0_1 l0_1.length c0_1)) ∧ (Kd.S (Kd.slice 3 (Kd.int .i64)) 60 w' w.heap.size (fun _ => True) v106 y100) ∧ (Kd.R kTie 32 w' w.heap.size (fun _ => True) s_.1 t104) ∧ (w'.heap[gb105]? = some (.cells #[.int .i64 a0_0, .slice A0_1 l0_1.length c0_1] 25 (0, 0))) ∧ (w'.heap[s_.2]? = some (.cells #[.int .i64 0, .slice none 0 0] 25 (0, 0))) ∧ (w.heap.size ≤ s_.2) ∧ (w.heap.size ≤ s_.2) ∧ (gb105 ≠ s_.2) ∧ (s_.2 ≠ gb105) ∧ (Below w.heap.size w w')) ?_ ?_
   rotate_left
   · intro hCont
     refine two_ (i := 3) (j := 5) (Ni := some 13) (Nj := some 4) (ba 7 15) (ba 7 39) rfl rfl rfl rfl (by kernel_rfl) (by decide) (by decide) (fun K hK => ?_) (fun K hK => ?_)
     · skip
       refine goes_ Try.func24 (by kernel_rfl) rfl #[.agg #[.int .i64 a0_0, .slice A0_1 l0_1.length c0_1]] (by rfl) rfl rfl qm ?_
       with_reducible refine (spec_TreeOf.calls k a0_0 _ _ l0_1 t104 _ ?side1 ?side2 A2.out).mono ?_
       (case side1 => exact qc (Kd.C_below HR0_1.out HB.out))
       (case side2 => exact HC0_1.out)
       rintro e w52 ⟨v108, rfl, ho0, hb⟩
       refine ⟨_, rfl, ?_⟩
       replace HO107 := q0 (Kd.S_below (qv HO107.out) hb)
       have HO109 := q0 (Kd.R_lower ho0 (below_size (qb HB.out)))
       replace BK105 := kd BK105 hb
       replace HB := bp HB hb
       (try clear hb)
       (try clear hb2)
       (try clear hk)
       (try clear hi)
       (try clear ho0)
       obtain ⟨Ao53, co53, eo53⟩ := Kd.R_slice HO109.out
       (first | subst eo53 | (injection eo53 with f1_ f2_ f3_; have f4_ := f1_.symm; have f5_ := f3_.symm; clear f1_ f2_ f3_; subst f4_; subst f5_))
       refine hK.out _ _ ⟨bca BK105, bcb BK105⟩ (fun hHeld => ?_)
       clear hK K
       refine nu 13 ?_
       refine pw 4 (some 14) (ba 7 31) ?_
       refine one_ (i := 5) (N := some 4) (ba 7 63) rfl rfl (by kernel_rfl) (by decide) (fun K hK => ?_)
       refine box_step ?hg (N := 4) ?hd (cs := #[.int .i64 0, .slice none 0 0]) (t := 25) ?hr ?_; (case hd => rfl); (case hg => rfl); (case hr => first | (go_simp; done) | (go_simp; rfl))
       intro gb110 hg w54 hbox hb
       replace HO107 := q0 (Kd.S_below (qv HO107.out) hb)
       replace HO109 := q0 (Kd.R_below (qr HO109.out) hb)
       have BK110 := q0 (hbox)
       have GW110 := gw HB hg
       have GE110 := gw HB hg
       replace HB := bp HB hb
       have NB105_110 := nl BK105 hg
       have NB110_105 := ng BK105 hg
       replace BK105 := kd BK105 hb
       clear hb hbox hg
       refine hK.out _ _ ⟨bca BK105, bcb BK105⟩ (fun hHeld => ?_)
       clear hK K
       refine nu 4 ?_
       exact norm_ (by simp only [putAll, Act.put, List.setIfInBounds_toArray, List.set_cons_zero, List.set_cons_succ]) (hCont (.slice Ao53 t104.length co53, gb110) _ ⟨hHeld, (qv HO107.out), (qr HO109.out), (qk BK105.out), (qk BK110.out), GW110.out, GE110.out, NB105_110.out, NB110_105.out, (qb HB.out)⟩)
     · skip
       refine box_step ?hg (N := 4) ?hd (cs := #[.int .i64 0, .slice none 0 0]) (t := 25) ?hr ?_; (case hd => rfl); (case hg => rfl); (case hr => first | (go_simp; done) | (go_simp; rfl))
       intro gb110 hg w52 hbox hb
       replace HO107 := q0 (Kd.S_below (qv HO107.out) hb)
       have BK110 := q0 (hbox)
       have GW110 := gw HB hg
       have GE110 := gw HB hg
       replace HB := bp HB hb
       have NB105_110 := nl BK105 hg
       have NB110_105 := ng BK105 hg
       replace BK105 := kd BK105 hb
       clear hb hbox hg
       refine hK.out _ _ ⟨bca BK105, bcb BK105⟩ (fun hHeld => ?_)
       clear hK K
       refine nu 4 ?_
       refine one_ (i := 3) (N := some 13) (ba 7 47) rfl rfl (by kernel_rfl) (by decide) (fun K hK => ?_)
       refine goes_ Try.func24 (by kernel_rfl) rfl #[.agg #[.int .i64 a0_0, .slice A0_1 l0_1.length c0_1]] (by rfl) rfl rfl qm ?_
       with_reducible refine (spec_TreeOf.calls k a0_0 _ _ l0_1 t104 _ ?side1 ?side2 A2.out).mono ?_
       (case side1 => exact qc (Kd.C_below HR0_1.out HB.out))
       (case side2 => exact HC0_1.out)
       rintro e w53 ⟨v108, rfl, ho0, hb⟩
       refine ⟨_, rfl, ?_⟩
       replace HO107 := q0 (Kd.S_below (qv HO107.out) hb)
       have HO109 := q0 (Kd.R_lower ho0 (below_size (qb HB.out)))
       replace BK105 := kd BK105 hb
       replace BK110 := kd BK110 hb
       replace HB := bp HB hb
       (try clear hb)
       (try clear hb2)
       (try clear hk)
       (try clear hi)
       (try clear ho0)
       obtain ⟨Ao54, co54, eo54⟩ := Kd.R_slice HO109.out
       (first | subst eo54 | (injection eo54 with f1_ f2_ f3_; have f4_ := f1_.symm; have f5_ := f3_.symm; clear f1_ f2_ f3_; subst f4_; subst f5_))
       refine hK.out _ _ ⟨bca BK105, bcb BK105⟩ (fun hHeld => ?_)
       clear hK K
       refine nu 13 ?_
       refine pw 4 (some 14) (ba 7 63) ?_
       exact norm_ (by simp only [putAll, Act.put, List.setIfInBounds_toArray, List.set_cons_zero, List.set_cons_succ]) (hCont (.slice Ao54 t104.length co54, gb110) _ ⟨hHeld, (qv HO107.out), (qr HO109.out), (qk BK105.out), (qk BK110.out), GW110.out, GE110.out, NB105_110.out, NB110_105.out, (qb HB.out)⟩)
   rintro ⟨v108, gb110⟩ w55 ⟨hS_, h0_, h1_, h2_, h3_, h4_, h5_, h6_, h7_, h8_⟩
   have n0_ : Aside0 (Kd.S (Kd.slice 3 (Kd.int .i64)) 60 w55 w.heap.size (fun _ => True) v106 y100) := ⟨h0_⟩
   have n1_ : Aside0 (Kd.R kTie 32 w55 w.heap.size (fun _ => True) v108 t104) := ⟨h1_⟩
   have n2_ : Aside0 (w55.heap[gb105]? = some (.cells #[.int .i64 a0_0, .slice A0_1 l0_1.length c0_1] 25 (0, 0))) := ⟨h2_⟩
   have n3_ : Aside0 (w55.heap[gb110]? = some (.cells #[.int .i64 0, .slice none 0 0] 25 (0, 0))) := ⟨h3_⟩
   have n4_ : Aside0 (w.heap.size ≤ gb110) := ⟨h4_⟩
   have n5_ : Aside0 (w.heap.size ≤ gb110) := ⟨h5_⟩
   have n6_ : Aside0 (gb105 ≠ gb110) := ⟨h6_⟩
   have n7_ : Aside0 (gb110 ≠ gb105) := ⟨h7_⟩
   have n8_ : Aside0 (Below w.heap.size w w55) := ⟨h8_⟩
   clear HO107
   clear BK105
   clear HB
   clear h0_ h1_ h2_ h3_ h4_ h5_ h6_ h7_ h8_
   have HO107 := n0_
   have HO109 := n1_
   have BK105 := n2_
   have BK110 := n3_
   have GW110 := n4_
   have GE110 := n5_
   have NB105_110 := n6_
   have NB110_105 := n7_
   have HB := n8_
   clear n0_ n1_ n2_ n3_ n4_ n5_ n6_ n7_ n8_
   have hHeld : w55.cell? ⟨gb105, 0, none⟩ = some (.int .i64 a0_0) ∧ w55.cell? ⟨gb105, 1, none⟩ = some (.slice A0_1 l0_1.length c0_1) := hS_
   obtain ⟨Ao56, co56, eo56⟩ := Kd.R_slice HO109.out
   (first | subst eo56 | (injection eo56 with f1_ f2_ f3_; have f4_ := f1_.symm; have f5_ := f3_.symm; clear f1_ f2_ f3_; subst f4_; subst f5_))
   refine norm_ (a' := ?_) ?_ ?_
   rotate_left
   · simp only [putAll, Act.put, List.setIfInBounds_toArray, List.set_cons_zero, List.set_cons_succ]
     rfl
   refine one_ (i := 6) (N := none) (ba 7 127) rfl rfl (by kernel_rfl) (by decide) (fun K hK => ?_)
   have hs57 : w55.cell? ⟨gb110, 0, none⟩ = some (.int .i64 0) := (blk_cell BK110.out 0).trans rfl
   have hfs57 := blk_frozen BK110.out 0
   have hns57_0 := NB105_110.out
   have hms57_0 := NB110_105.out
   have hs58 : w55.cell? ⟨gb110, 1, none⟩ = some (.slice none 0 0) := (blk_cell BK110.out 1).trans rfl
   have hfs58 := blk_frozen BK110.out 1
   have hns58_0 := NB105_110.out
   have hms58_0 := NB110_105.out
   refine skip_ (w1 := ?_) (by rfl) rfl ?_ ?_
   rotate_left
   · go_simp
     rfl
   refine hK.out _ _ ⟨((cell_far (p := ⟨gb110, _, none⟩) NB105_110.out _).trans (((cell_far (p := ⟨gb110, _, none⟩) NB105_110.out _).trans (hHeld.1)))), ((cell_far (p := ⟨gb110, _, none⟩) NB105_110.out _).trans (((cell_far (p := ⟨gb110, _, none⟩) NB105_110.out _).trans (hHeld.2))))⟩ (fun hHeld => ?_)
   clear hK K
   refine done_ (by kernel_rfl) ?_
   have hnb59 := NB105_110.out
   have hnc59 := NB110_105.out
   obtain ⟨hcz60_0, hcz60_1, hfz60_0, hfz60_1⟩ := b2 BK105
   try go_wp2_with (first | ((with_reducible refine gf 49 ?_); refine gl 16 Try.func49 #[.agg #[.int .i64 a0_0, .slice A0_1 l0_1.length c0_1]] ?_; (with_reducible refine (spec_NetOk.calls k a0_0 _ _ l0_1 false _ ?side1 ?side2 A3.out).mono ?_); (case side1 => exact Kd.C_below HR0_1.out (qb HB.out)); (case side2 => exact HC0_1.out); rintro e w61 ⟨rfl, hb⟩; refine ⟨_, rfl, ?_⟩; replace HO107 := q0 (Kd.S_below (by (with_reducible repeat (first | apply Kd.S_alloc | apply Kd.S_drewN | apply Kd.S_drew)); exact (Kd.S_mono (Kd.S_far (p := ⟨gb110, 1, none⟩) (Kd.S_far (p := ⟨gb110, 0, none⟩) (Kd.S_types HO107.out BK110.out (by decide)) (fun _ hk => hk.2) (.int .i64 a0_0)) (fun _ hk => hk.2) (.slice Ao56 t104.length co56)) (fun _ h_ => h_.1))) hb); replace HO109 := q0 (Kd.R_below (by (with_reducible repeat (first | apply Kd.R_alloc | apply Kd.R_drewN | apply Kd.R_drew)); exact (rf2 HO109.out BK110.out (fun _ h_ => h_.1))) hb); replace BK105 := q0 (kf BK105.out hb); replace BK110 := q0 (blk_below (g := gb110) (o := .cells #[.int .i64 a0_0, .slice Ao56 t104.length co56] 25 (0, 0)) (by (with_reducible repeat (first | refine blk_drewN ?_ _ | refine blk_drew ?_ | refine blk_alloc ?_ _)); refine blk_put (cs := #[.int .i64 a0_0, .slice none 0 0]) ?_ 1 _ rfl; (with_reducible repeat (first | refine blk_drewN ?_ _ | refine blk_drew ?_ | refine blk_alloc ?_ _)); refine blk_put (cs := #[.int .i64 0, .slice none 0 0]) ?_ 0 _ rfl; (with_reducible repeat (first | refine blk_drewN ?_ _ | refine blk_drew ?_ | refine blk_alloc ?_ _)); exact BK110.out) hb); replace HB := bp HB hb; (try clear hb); (try clear hb2); (try clear hk); (try clear hi)))
   go_ret
   exact ⟨_, qe, qv HO107.out, qb HB.out⟩
 subst c4
 rw [if_pos rfl] at H
 have H' := q0 H
 clear H
 go_enter Try.func42, Try.ntmps42
 try go_wp2_with (first | ((with_reducible refine gd 1 ?_); refine be 1 #[.int .i64 a0_0, .slice A0_1 l0_1.length c0_1] 25 ?_; intro gb105 hg w5 hbox hb; have BK105 := q0 (hbox); have GW105 := gw HB hg; have GE105 := gw HB hg; replace HB := bp HB hb; clear hb hbox hg) | ((with_reducible refine gd 9 ?_); refine Kd.S_lit (Kd.slice 3 (Kd.int .i64)) _ 60 ?hg (N := 9) ?hd (xs := ([] : List (List Int))) (inner := []) (ok := fun _ => True) (okp := fun _ => True) ?hr ?hp (fun _ hk => hk) trivial (Below.refl _ _) (Nat.le_refl _) (by simp) ?_; (case hd => rfl); (case hg => rfl); (case hr => first | (go_simp; done) | (go_simp; rfl)); (case hp => exact (Reps.none _ _)); intro v106 w6 ho7 hb hg_ hnew_; clear hg_ hnew_; (first | rw [← Ny100.out] at ho7 | (simp only [Int.reduceToNat] at ho7; rw [← Ny100.out] at ho7)); have HO107 := q0 (Kd.S_lower ho7 (below_size (qb HB.out))); replace BK105 := kd BK105 hb; replace HB := bp HB hb; clear hb ho7))
 replace HO107 := q0 (Kd.S_drew HO107.out)
 replace BK105 := q0 (blk_drew BK105.out)
 replace HB := q0 (below_drew1 HB.out)
 refine start_ (n := 7) (S := fun w' => w'.cell? ⟨gb105, 0, none⟩ = some (.int .i64 a0_0) ∧ w'.cell? ⟨gb105, 1, none⟩ = some (.slice A0_1 l0_1.length c0_1)) (ds := []) (ba 7 0) (by kernel_rfl) rfl (by kernel_rfl) ⟨bca BK105, bcb BK105⟩ (fun hHeld => ?_)
 generalize w6.drew = w8 at HO107 BK105 HB hHeld ⊢
 refine pw 0 (some 10) (ba 7 1) ?_
 refine tw 1 (some 11) (ba 7 3) hHeld ?_
 refine tw 2 (some 12) (ba 7 7) hHeld ?_
 refine join_ (σ := Value × Nat) 1 (ba 7 63) (fun s_ => [(13, s_.1), (4, .pointer (some ⟨s_.2, 0, none⟩)), (14, .agg #[.int .i64 a0_0, s_.1])]) (fun s_ w' => (w'.cell? ⟨gb105, 0, none⟩ = some (.int .i64 a0_0) ∧ w'.cell? ⟨gb105, 1, none⟩ = some (.slice A0_1 l0_1.length c0_1)) ∧ (Kd.S (Kd.slice 3 (Kd.int .i64)) 60 w' w.heap.size (fun _ => True) v106 y100) ∧ (Kd.R kTie 32 w' w.heap.size (fun _ => True) s_.1 t104) ∧ (w'.heap[gb105]? = some (.cells #[.int .i64 a0_0, .slice A0_1 l0_1.length c0_1] 25 (0, 0))) ∧ (w'.heap[s_.2]? = some (.cells #[.int .i64 0, .slice none 0 0] 25 (0, 0))) ∧ (w.heap.size ≤ s_.2) ∧ (w.heap.size ≤ s_.2) ∧ (gb105 ≠ s_.2) ∧ (s_.2 ≠ gb105) ∧ (Below w.heap.size w w')) ?_ ?_
 rotate_left
 · intro hCont
   refine two_ (i := 3) (j := 5) (Ni := some 13) (Nj := some 4) (ba 7 15) (ba 7 39) rfl rfl rfl rfl (by kernel_rfl) (by decide) (by decide) (fun K hK => ?_) (fun K hK => ?_)
   · skip
     refine goes_ Try.func24 (by kernel_rfl) rfl #[.agg #[.int .i64 a0_0, .slice A0_1 l0_1.length c0_1]] (by rfl) rfl rfl qm ?_
     with_reducible refine (spec_TreeOf.calls k a0_0 _ _ l0_1 t104 _ ?side1 ?side2 A2.out).mono ?_
     (case side1 => exact qc (Kd.C_below HR0_1.out HB.out))
     (case side2 => exact HC0_1.out)
     rintro e w9 ⟨v108, rfl, ho0, hb⟩
     refine ⟨_, rfl, ?_⟩
     replace HO107 := q0 (Kd.S_below (qv HO107.out) hb)
     have HO109 := q0 (Kd.R_lower ho0 (below_size (qb HB.out)))
     replace BK105 := kd BK105 hb
     replace HB := bp HB hb
     (try clear hb)
     (try clear hb2)
     (try clear hk)
     (try clear hi)
     (try clear ho0)
     obtain ⟨Ao10, co10, eo10⟩ := Kd.R_slice HO109.out
     (first | subst eo10 | (injection eo10 with f1_ f2_ f3_; have f4_ := f1_.symm; have f5_ := f3_.symm; clear f1_ f2_ f3_; subst f4_; subst f5_))
     refine hK.out _ _ ⟨bca BK105, bcb BK105⟩ (fun hHeld => ?_)
     clear hK K
     refine nu 13 ?_
     refine pw 4 (some 14) (ba 7 31) ?_
     refine one_ (i := 5) (N := some 4) (ba 7 63) rfl rfl (by kernel_rfl) (by decide) (fun K hK => ?_)
     refine box_step ?hg (N := 4) ?hd (cs := #[.int .i64 0, .slice none 0 0]) (t := 25) ?hr ?_; (case hd => rfl); (case hg => rfl); (case hr => first | (go_simp; done) | (go_simp; rfl))
     intro gb110 hg w11 hbox hb
     replace HO107 := q0 (Kd.S_below (qv HO107.out) hb)
     replace HO109 := q0 (Kd.R_below (qr HO109.out) hb)
     have BK110 := q0 (hbox)
     have GW110 := gw HB hg
     have GE110 := gw HB hg
     replace HB := bp HB hb
     have NB105_110 := nl BK105 hg
     have NB110_105 := ng BK105 hg
     replace BK105 := kd BK105 hb
     clear hb hbox hg
     refine hK.out _ _ ⟨bca BK105, bcb BK105⟩ (fun hHeld => ?_)
     clear hK K
     refine nu 4 ?_
     exact norm_ (by simp only [putAll, Act.put, List.setIfInBounds_toArray, List.set_cons_zero, List.set_cons_succ]) (hCont (.slice Ao10 t104.length co10, gb110) _ ⟨hHeld, (qv HO107.out), (qr HO109.out), (qk BK105.out), (qk BK110.out), GW110.out, GE110.out, NB105_110.out, NB110_105.out, (qb HB.out)⟩)
   · skip
     refine box_step ?hg (N := 4) ?hd (cs := #[.int .i64 0, .slice none 0 0]) (t := 25) ?hr ?_; (case hd => rfl); (case hg => rfl); (case hr => first | (go_simp; done) | (go_simp; rfl))
     intro gb110 hg w9 hbox hb
     replace HO107 := q0 (Kd.S_below (qv HO107.out) hb)
     have BK110 := q0 (hbox)
     have GW110 := gw HB hg
     have GE110 := gw HB hg
     replace HB := bp HB hb
     have NB105_110 := nl BK105 hg
     have NB110_105 := ng BK105 hg
     replace BK105 := kd BK105 hb
     clear hb hbox hg
     refine hK.out _ _ ⟨bca BK105, bcb BK105⟩ (fun hHeld => ?_)
     clear hK K
     refine nu 4 ?_
     refine one_ (i := 3) (N := some 13) (ba 7 47) rfl rfl (by kernel_rfl) (by decide) (fun K hK => ?_)
     refine goes_ Try.func24 (by kernel_rfl) rfl #[.agg #[.int .i64 a0_0, .slice A0_1 l0_1.length c0_1]] (by rfl) rfl rfl qm ?_
     with_reducible refine (spec_TreeOf.calls k a0_0 _ _ l0_1 t104 _ ?side1 ?side2 A2.out).mono ?_
     (case side1 => exact qc (Kd.C_below HR0_1.out HB.out))
     (case side2 => exact HC0_1.out)
     rintro e w10 ⟨v108, rfl, ho0, hb⟩
     refine ⟨_, rfl, ?_⟩
     replace HO107 := q0 (Kd.S_below (qv HO107.out) hb)
     have HO109 := q0 (Kd.R_lower ho0 (below_size (qb HB.out)))
     replace BK105 := kd BK105 hb
     replace BK110 := kd BK110 hb
     replace HB := bp HB hb
     (try clear hb)
     (try clear hb2)
     (try clear hk)
     (try clear hi)
     (try clear ho0)
     obtain ⟨Ao11, co11, eo11⟩ := Kd.R_slice HO109.out
     (first | subst eo11 | (injection eo11 with f1_ f2_ f3_; have f4_ := f1_.symm; have f5_ := f3_.symm; clear f1_ f2_ f3_; subst f4_; subst f5_))
     refine hK.out _ _ ⟨bca BK105, bcb BK105⟩ (fun hHeld => ?_)
     clear hK K
     refine nu 13 ?_
     refine pw 4 (some 14) (ba 7 63) ?_
     exact norm_ (by simp only [putAll, Act.put, List.setIfInBounds_toArray, List.set_cons_zero, List.set_cons_succ]) (hCont (.slice Ao11 t104.length co11, gb110) _ ⟨hHeld, (qv HO107.out), (qr HO109.out), (qk BK105.out), (qk BK110.out), GW110.out, GE110.out, NB105_110.out, NB110_105.out, (qb HB.out)⟩)
 rintro ⟨v108, gb110⟩ w12 ⟨hS_, h0_, h1_, h2_, h3_, h4_, h5_, h6_, h7_, h8_⟩
 have n0_ : Aside0 (Kd.S (Kd.slice 3 (Kd.int .i64)) 60 w12 w.heap.size (fun _ => True) v106 y100) := ⟨h0_⟩
 have n1_ : Aside0 (Kd.R kTie 32 w12 w.heap.size (fun _ => True) v108 t104) := ⟨h1_⟩
 have n2_ : Aside0 (w12.heap[gb105]? = some (.cells #[.int .i64 a0_0, .slice A0_1 l0_1.length c0_1] 25 (0, 0))) := ⟨h2_⟩
 have n3_ : Aside0 (w12.heap[gb110]? = some (.cells #[.int .i64 0, .slice none 0 0] 25 (0, 0))) := ⟨h3_⟩
 have n4_ : Aside0 (w.heap.size ≤ gb110) := ⟨h4_⟩
 have n5_ : Aside0 (w.heap.size ≤ gb110) := ⟨h5_⟩
 have n6_ : Aside0 (gb105 ≠ gb110) := ⟨h6_⟩
 have n7_ : Aside0 (gb110 ≠ gb105) := ⟨h7_⟩
 have n8_ : Aside0 (Below w.heap.size w w12) := ⟨h8_⟩
 clear HO107
 clear BK105
 clear HB
 clear h0_ h1_ h2_ h3_ h4_ h5_ h6_ h7_ h8_
 have HO107 := n0_
 have HO109 := n1_
 have BK105 := n2_
 have BK110 := n3_
 have GW110 := n4_
 have GE110 := n5_
 have NB105_110 := n6_
 have NB110_105 := n7_
 have HB := n8_
 clear n0_ n1_ n2_ n3_ n4_ n5_ n6_ n7_ n8_
 have hHeld : w12.cell? ⟨gb105, 0, none⟩ = some (.int .i64 a0_0) ∧ w12.cell? ⟨gb105, 1, none⟩ = some (.slice A0_1 l0_1.length c0_1) := hS_
 obtain ⟨Ao13, co13, eo13⟩ := Kd.R_slice HO109.out
 (first | subst eo13 | (injection eo13 with f1_ f2_ f3_; have f4_ := f1_.symm; have f5_ := f3_.symm; clear f1_ f2_ f3_; subst f4_; subst f5_))
 refine norm_ (a' := ?_) ?_ ?_
 rotate_left
 · simp only [putAll, Act.put, List.setIfInBounds_toArray, List.set_cons_zero, List.set_cons_succ]
   rfl
 refine one_ (i := 6) (N := none) (ba 7 127) rfl rfl (by kernel_rfl) (by decide) (fun K hK => ?_)
 have hs14 : w12.cell? ⟨gb110, 0, none⟩ = some (.int .i64 0) := (blk_cell BK110.out 0).trans rfl
 have hfs14 := blk_frozen BK110.out 0
 have hns14_0 := NB105_110.out
 have hms14_0 := NB110_105.out
 have hs15 : w12.cell? ⟨gb110, 1, none⟩ = some (.slice none 0 0) := (blk_cell BK110.out 1).trans rfl
 have hfs15 := blk_frozen BK110.out 1
 have hns15_0 := NB105_110.out
 have hms15_0 := NB110_105.out
 refine skip_ (w1 := ?_) (by rfl) rfl ?_ ?_
 rotate_left
 · go_simp
   rfl
 refine hK.out _ _ ⟨((cell_far (p := ⟨gb110, _, none⟩) NB105_110.out _).trans (((cell_far (p := ⟨gb110, _, none⟩) NB105_110.out _).trans (hHeld.1)))), ((cell_far (p := ⟨gb110, _, none⟩) NB105_110.out _).trans (((cell_far (p := ⟨gb110, _, none⟩) NB105_110.out _).trans (hHeld.2))))⟩ (fun hHeld => ?_)
 clear hK K
 refine done_ (by kernel_rfl) ?_
 have hnb16 := NB105_110.out
 have hnc16 := NB110_105.out
 obtain ⟨hcz17_0, hcz17_1, hfz17_0, hfz17_1⟩ := b2 BK105
 try go_wp2_with (first | ((with_reducible refine gf 49 ?_); refine gl 16 Try.func49 #[.agg #[.int .i64 a0_0, .slice A0_1 l0_1.length c0_1]] ?_; (with_reducible refine (spec_NetOk.calls k a0_0 _ _ l0_1 true _ ?side1 ?side2 A3.out).mono ?_); (case side1 => exact Kd.C_below HR0_1.out (qb HB.out)); (case side2 => exact HC0_1.out); rintro e w18 ⟨rfl, hb⟩; refine ⟨_, rfl, ?_⟩; replace HO107 := q0 (Kd.S_below (by (with_reducible repeat (first | apply Kd.S_alloc | apply Kd.S_drewN | apply Kd.S_drew)); exact (Kd.S_mono (Kd.S_far (p := ⟨gb110, 1, none⟩) (Kd.S_far (p := ⟨gb110, 0, none⟩) (Kd.S_types HO107.out BK110.out (by decide)) (fun _ hk => hk.2) (.int .i64 a0_0)) (fun _ hk => hk.2) (.slice Ao13 t104.length co13)) (fun _ h_ => h_.1))) hb); replace HO109 := q0 (Kd.R_below (by (with_reducible repeat (first | apply Kd.R_alloc | apply Kd.R_drewN | apply Kd.R_drew)); exact (rf2 HO109.out BK110.out (fun _ h_ => h_.1))) hb); replace BK105 := q0 (kf BK105.out hb); replace BK110 := q0 (blk_below (g := gb110) (o := .cells #[.int .i64 a0_0, .slice Ao13 t104.length co13] 25 (0, 0)) (by (with_reducible repeat (first | refine blk_drewN ?_ _ | refine blk_drew ?_ | refine blk_alloc ?_ _)); refine blk_put (cs := #[.int .i64 a0_0, .slice none 0 0]) ?_ 1 _ rfl; (with_reducible repeat (first | refine blk_drewN ?_ _ | refine blk_drew ?_ | refine blk_alloc ?_ _)); refine blk_put (cs := #[.int .i64 0, .slice none 0 0]) ?_ 0 _ rfl; (with_reducible repeat (first | refine blk_drewN ?_ _ | refine blk_drew ?_ | refine blk_alloc ?_ _)); exact BK110.out) hb); replace HB := bp HB hb; (try clear hb); (try clear hb2); (try clear hk); (try clear hi)))
 go_loopg [3, 5] k (fun kq v3 v5 w' => ∃ (x3_1 : List (List Int)) (x5_1 : Int), v5 = .int .i64 x5_1 ∧ Aside0 (spec_TreeRings.l0 kq x3_1 x5_1 a0_0 l0_1 a0_0 t104 = some r) ∧ Aside0 (kq ≤ k) ∧ Aside0 (Kd.S (Kd.slice 3 (Kd.int .i64)) 60 w' w.heap.size (fun _ => True) v3 x3_1) ∧ Aside0 (Kd.R kTie 32 w' w.heap.size (fun _ => True) (.slice Ao13 t104.length co13) t104) ∧ Aside0 (w'.heap[gb105]? = some (.cells #[.int .i64 a0_0, (.slice A0_1 l0_1.length c0_1)] 25 (0, 0))) ∧ Aside0 (w'.heap[gb110]? = some (.cells #[.int .i64 a0_0, (.slice Ao13 t104.length co13)] 25 (0, 0))) ∧ Aside0 (Below w.heap.size w w'))
 case atStart => exact ⟨(y100), (0), qs, H', ⟨Nat.le_refl _⟩, ⟨qv HO107.out⟩, ⟨qr HO109.out⟩, ⟨qk BK105.out⟩, ⟨qk BK110.out⟩, ⟨qb HB.out⟩⟩
 clear H'
 try clear c1
 try clear c2
 try clear p2
 try clear c4
 try clear c16
 try clear hcz17_0
 try clear hcz17_1
 try clear hfz17_0
 try clear hfz17_1
 obtain ⟨x3_1, x5_1, rfl, HA, HK1, HO_3, HO_101001, BK105, BK110, HB⟩ := hrel
 rcases gk with _ | k1
 · exact absurd HA.out (by simp [spec_TreeRings.l0])
 have H := HA.out
 clear HA
 simp only [spec_TreeRings.l0] at H
 by_cases c19 : x5_1 < (l0_1.length : Int)
 rotate_left
 · rw [if_neg c19] at H
   have c19b0 := decide_eq_false c19
   clear c19
   obtain rfl := Option.some.inj H
   have hnb46 := NB105_110.out
   have hnc46 := NB110_105.out
   obtain ⟨hcz47_0, hcz47_1, hfz47_0, hfz47_1⟩ := b2 BK105
   go_wp2
   go_ret
   exact ⟨_, qe, qv HO_3.out, qb HB.out⟩
 rw [if_pos c19] at H
 have c19b0 := decide_eq_true c19
 clear c19
 obtain ⟨c20, H⟩ : (0 ≤ x5_1) ∧ _ := og H
 have c20b0 := decide_eq_true c20
 clear c20
 obtain ⟨t102, A21, H⟩ := ob H
 by_cases c22 : t102 = true
 · subst c22
   rw [if_pos rfl] at H
   have H' := q0 H
   clear H
   have hnb23 := NB105_110.out
   have hnc23 := NB110_105.out
   obtain ⟨hcz24_0, hcz24_1, hfz24_0, hfz24_1⟩ := b2 BK105
   have p112 : 0 ≤ (x5_1 : Int) := of_decide_eq_true qa
   have q112 : x5_1 < (l0_1.length : Int) := of_decide_eq_true qa
   obtain ⟨ad112, e112, hx112_0, hx112_1⟩ := at_TTie HR0_1.out x5_1 p112 q112
   cases e112
   replace hx112_0 := hcl HB.out hx112_0
   replace hx112_1 := hcl HB.out hx112_1
   replace p112 := eq_true p112
   replace q112 := eq_true q112
   go_wp2_with (first | ((with_reducible refine gd 6 ?_); refine be 6 #[.int .i64 0, .int .i64 0] 32 ?_; intro gb113 hg w25 hbox hb; replace HO_3 := q0 (Kd.S_below (qv HO_3.out) hb); replace HO_101001 := q0 (Kd.R_below (Kd.R_elderB (qr HO_101001.out) gb113 (Nat.le_of_eq hg.symm)) hb); have BK113 := q0 (hbox); have GW113 := gw HB hg; have GE113 := gw HB hg; replace HB := bp HB hb; have NB105_113 := nl BK105 hg; have NB113_105 := ng BK105 hg; replace BK105 := kd BK105 hb; have NB110_113 := nl BK110 hg; have NB113_110 := ng BK110 hg; replace BK110 := kd BK110 hb; clear hb hbox hg; have hnb26 := NB113_105.out; have hnc26 := NB105_113.out; have hnb27 := NB113_110.out; have hnc27 := NB110_113.out; obtain ⟨hcz28_0, hcz28_1, hfz28_0, hfz28_1⟩ := b2 BK113; obtain ⟨hcz29_0, hcz29_1, hfz29_0, hfz29_1⟩ := b2 BK110) | ((with_reducible refine gf 80 ?_); refine gl 36 Try.func80 #[.agg #[.int .i64 a0_0, .slice Ao13 t104.length co13], .int .i64 ((rd_TTie l0_1 x5_1).f0), .int .i64 ((rd_TTie l0_1 x5_1).f1)] ?_; (with_reducible refine (spec_l1Has.calls k1 a0_0 _ _ t104 ((rd_TTie l0_1 x5_1).f0) ((rd_TTie l0_1 x5_1).f1) true _ ?side1 ?side2 A21.out).mono ?_); (case side1 => refine (Kd.R_reads' (e := 32) (base := w.heap.size) (ok := fun k_ => (True ∧ k_ ≠ gb113)) (n := t104.length) (c := co13) ?_).2.2; exact (by (with_reducible repeat (first | apply Kd.R_alloc | apply Kd.R_drewN | apply Kd.R_drew)); exact (Kd.R_mono (Kd.R_far (p := ⟨gb113, 1, none⟩) (Kd.R_far (p := ⟨gb113, 0, none⟩) (Kd.R_mono HO_101001.out (fun k_ hk => (⟨hk, hk.2⟩ : _ ∧ k_ ≠ gb113))) (fun _ hk => hk.2) (.int .i64 ((rd_TTie l0_1 x5_1).f0))) (fun _ hk => hk.2) (.int .i64 ((rd_TTie l0_1 x5_1).f1))) (fun _ h_ => h_.1)))); (case side2 => exact (Kd.R_reads' HO_101001.out).2.1); rintro e w30 ⟨rfl, hb⟩; refine ⟨_, rfl, ?_⟩; replace HO_3 := q0 (Kd.S_below (by (with_reducible repeat (first | apply Kd.S_alloc | apply Kd.S_drewN | apply Kd.S_drew)); exact (Kd.S_mono (Kd.S_far (p := ⟨gb113, 1, none⟩) (Kd.S_far (p := ⟨gb113, 0, none⟩) (Kd.S_types HO_3.out BK113.out (by decide)) (fun _ hk => hk.2) (.int .i64 ((rd_TTie l0_1 x5_1).f0))) (fun _ hk => hk.2) (.int .i64 ((rd_TTie l0_1 x5_1).f1))) (fun _ h_ => h_.1))) hb); replace HO_101001 := q0 (Kd.R_below (by (with_reducible repeat (first | apply Kd.R_alloc | apply Kd.R_drewN | apply Kd.R_drew)); exact (Kd.R_mono (Kd.R_far (p := ⟨gb113, 1, none⟩) (Kd.R_far (p := ⟨gb113, 0, none⟩) (Kd.R_mono HO_101001.out (fun k_ hk => (⟨hk, hk.2⟩ : _ ∧ k_ ≠ gb113))) (fun _ hk => hk.2) (.int .i64 ((rd_TTie l0_1 x5_1).f0))) (fun _ hk => hk.2) (.int .i64 ((rd_TTie l0_1 x5_1).f1))) (fun _ h_ => h_.1))) hb); replace BK105 := q0 (kf BK105.out hb); replace BK110 := q0 (kf BK110.out hb); replace BK113 := q0 (blk_below (g := gb113) (o := .cells #[.int .i64 ((rd_TTie l0_1 x5_1).f0), .int .i64 ((rd_TTie l0_1 x5_1).f1)] 32 (0, 0)) (by (with_reducible repeat (first | refine blk_drewN ?_ _ | refine blk_drew ?_ | refine blk_alloc ?_ _)); refine blk_put (cs := #[.int .i64 ((rd_TTie l0_1 x5_1).f0), .int .i64 0]) ?_ 1 _ rfl; (with_reducible repeat (first | refine blk_drewN ?_ _ | refine blk_drew ?_ | refine blk_alloc ?_ _)); refine blk_put (cs := #[.int .i64 0, .int .i64 0]) ?_ 0 _ rfl; (with_reducible repeat (first | refine blk_drewN ?_ _ | refine blk_drew ?_ | refine blk_alloc ?_ _)); exact BK113.out) hb); replace HB := bp HB hb; (try clear hb); (try clear hb2); (try clear hk); (try clear hi)))
   go_roundg k1
   case measure => have := HK1.out; omega
   case rel => exact ⟨(x3_1), (wrap64 (x5_1 + 1)), qs, H', ⟨by have := HK1.out; omega⟩, ⟨qv HO_3.out⟩, ⟨by (with_reducible repeat (first | apply Kd.R_alloc | apply Kd.R_drewN | apply Kd.R_drew)); exact Kd.R_mono HO_101001.out (fun _ hk => trivial)⟩, ⟨qk BK105.out⟩, ⟨qk BK110.out⟩, ⟨qb HB.out⟩⟩
 replace c22 := Bool.eq_false_iff.mpr c22
 subst c22
 rw [if_neg nf] at H
 obtain ⟨⟨t103, t114⟩, A31, H⟩ := ob H
 obtain ⟨c32, H⟩ : (x3_1.length < 5864062014805) ∧ _ := og H
 have LMc32 := q0 c32
 clear c32
 obtain ⟨y116, hy116⟩ : ∃ y_ : List (List Int), y_ = (x3_1 ++ [t103]) := ⟨_, rfl⟩
 replace H : (spec_TreeRings.l0 k1 y116 (wrap64 (x5_1 + 1)) a0_0 l0_1 a0_0 t104) = some r := qy H hy116
 have Ny116 := q0 hy116
 clear hy116
 have H' := q0 H
 clear H
 have hnb33 := NB105_110.out
 have hnc33 := NB110_105.out
 obtain ⟨hcz34_0, hcz34_1, hfz34_0, hfz34_1⟩ := b2 BK105
 have p112 : 0 ≤ (x5_1 : Int) := of_decide_eq_true qa
 have q112 : x5_1 < (l0_1.length : Int) := of_decide_eq_true qa
 obtain ⟨ad112, e112, hx112_0, hx112_1⟩ := at_TTie HR0_1.out x5_1 p112 q112
 cases e112
 replace hx112_0 := hcl HB.out hx112_0
 replace hx112_1 := hcl HB.out hx112_1
 replace p112 := eq_true p112
 replace q112 := eq_true q112
 go_wp2_with (first | ((with_reducible refine gd 6 ?_); refine be 6 #[.int .i64 0, .int .i64 0] 32 ?_; intro gb113 hg w35 hbox hb; replace HO_3 := q0 (Kd.S_below (qv HO_3.out) hb); replace HO_101001 := q0 (Kd.R_below (Kd.R_elderB (qr HO_101001.out) gb113 (Nat.le_of_eq hg.symm)) hb); have BK113 := q0 (hbox); have GW113 := gw HB hg; have GE113 := gw HB hg; replace HB := bp HB hb; have NB105_113 := nl BK105 hg; have NB113_105 := ng BK105 hg; replace BK105 := kd BK105 hb; have NB110_113 := nl BK110 hg; have NB113_110 := ng BK110 hg; replace BK110 := kd BK110 hb; clear hb hbox hg; have hnb36 := NB113_105.out; have hnc36 := NB105_113.out; have hnb37 := NB113_110.out; have hnc37 := NB110_113.out; obtain ⟨hcz38_0, hcz38_1, hfz38_0, hfz38_1⟩ := b2 BK113; obtain ⟨hcz39_0, hcz39_1, hfz39_0, hfz39_1⟩ := b2 BK110) | ((with_reducible refine gf 80 ?_); refine gl 36 Try.func80 #[.agg #[.int .i64 a0_0, .slice Ao13 t104.length co13], .int .i64 ((rd_TTie l0_1 x5_1).f0), .int .i64 ((rd_TTie l0_1 x5_1).f1)] ?_; (with_reducible refine (spec_l1Has.calls k1 a0_0 _ _ t104 ((rd_TTie l0_1 x5_1).f0) ((rd_TTie l0_1 x5_1).f1) false _ ?side1 ?side2 A21.out).mono ?_); (case side1 => refine (Kd.R_reads' (e := 32) (base := w.heap.size) (ok := fun k_ => (True ∧ k_ ≠ gb113)) (n := t104.length) (c := co13) ?_).2.2; exact (by (with_reducible repeat (first | apply Kd.R_alloc | apply Kd.R_drewN | apply Kd.R_drew)); exact (Kd.R_mono (Kd.R_far (p := ⟨gb113, 1, none⟩) (Kd.R_far (p := ⟨gb113, 0, none⟩) (Kd.R_mono HO_101001.out (fun k_ hk => (⟨hk, hk.2⟩ : _ ∧ k_ ≠ gb113))) (fun _ hk => hk.2) (.int .i64 ((rd_TTie l0_1 x5_1).f0))) (fun _ hk => hk.2) (.int .i64 ((rd_TTie l0_1 x5_1).f1))) (fun _ h_ => h_.1)))); (case side2 => exact (Kd.R_reads' HO_101001.out).2.1); rintro e w40 ⟨rfl, hb⟩; refine ⟨_, rfl, ?_⟩; replace HO_3 := q0 (Kd.S_below (by (with_reducible repeat (first | apply Kd.S_alloc | apply Kd.S_drewN | apply Kd.S_drew)); exact (Kd.S_mono (Kd.S_far (p := ⟨gb113, 1, none⟩) (Kd.S_far (p := ⟨gb113, 0, none⟩) (Kd.S_types HO_3.out BK113.out (by decide)) (fun _ hk => hk.2) (.int .i64 ((rd_TTie l0_1 x5_1).f0))) (fun _ hk => hk.2) (.int .i64 ((rd_TTie l0_1 x5_1).f1))) (fun _ h_ => h_.1))) hb); replace HO_101001 := q0 (Kd.R_below (by (with_reducible repeat (first | apply Kd.R_alloc | apply Kd.R_drewN | apply Kd.R_drew)); exact (Kd.R_mono (Kd.R_far (p := ⟨gb113, 1, none⟩) (Kd.R_far (p := ⟨gb113, 0, none⟩) (Kd.R_mono HO_101001.out (fun k_ hk => (⟨hk, hk.2⟩ : _ ∧ k_ ≠ gb113))) (fun _ hk => hk.2) (.int .i64 ((rd_TTie l0_1 x5_1).f0))) (fun _ hk => hk.2) (.int .i64 ((rd_TTie l0_1 x5_1).f1))) (fun _ h_ => h_.1))) hb); replace BK105 := q0 (kf BK105.out hb); replace BK110 := q0 (kf BK110.out hb); replace BK113 := q0 (blk_below (g := gb113) (o := .cells #[.int .i64 ((rd_TTie l0_1 x5_1).f0), .int .i64 ((rd_TTie l0_1 x5_1).f1)] 32 (0, 0)) (by (with_reducible repeat (first | refine blk_drewN ?_ _ | refine blk_drew ?_ | refine blk_alloc ?_ _)); refine blk_put (cs := #[.int .i64 ((rd_TTie l0_1 x5_1).f0), .int .i64 0]) ?_ 1 _ rfl; (with_reducible repeat (first | refine blk_drewN ?_ _ | refine blk_drew ?_ | refine blk_alloc ?_ _)); refine blk_put (cs := #[.int .i64 0, .int .i64 0]) ?_ 0 _ rfl; (with_reducible repeat (first | refine blk_drewN ?_ _ | refine blk_drew ?_ | refine blk_alloc ?_ _)); exact BK113.out) hb); replace HB := bp HB hb; (try clear hb); (try clear hb2); (try clear hk); (try clear hi); obtain ⟨hcz41_0, hcz41_1, hfz41_0, hfz41_1⟩ := b2 BK110; obtain ⟨hcz42_0, hcz42_1, hfz42_0, hfz42_1⟩ := b2 BK113) | ((with_reducible refine gf 81 ?_); refine gl 44 Try.func81 #[.agg #[.int .i64 a0_0, .slice Ao13 t104.length co13], .int .i64 ((rd_TTie l0_1 x5_1).f1), .int .i64 ((rd_TTie l0_1 x5_1).f0)] ?_; (with_reducible refine (spec_WayFind.calls k1 a0_0 _ _ t104 ((rd_TTie l0_1 x5_1).f1) ((rd_TTie l0_1 x5_1).f0) t103 t114 _ ?side1 ?side2 A31.out).mono ?_); (case side1 => exact qc (Kd.R_reads' HO_101001.out).2.2); (case side2 => exact (Kd.R_reads' HO_101001.out).2.1); rintro e w43 ⟨v117, rfl, ho0, hb⟩; refine ⟨_, rfl, ?_⟩; replace HO_3 := q0 (Kd.S_elder' (qv HO_3.out) (Kd.R_base ho0) hb); replace HO_101001 := q0 (Kd.R_below (qr HO_101001.out) hb); have HO118 := q0 (Kd.R_lower ho0 (below_size (qb HB.out))); replace BK105 := kd BK105 hb; replace BK110 := kd BK110 hb; replace BK113 := kd BK113 hb; replace HB := bp HB hb; (try clear hb); (try clear hb2); (try clear hk); (try clear hi); (try clear ho0); obtain ⟨Ao45, co45, eo45⟩ := Kd.R_slice HO118.out; subst eo45) | ((with_reducible refine gate_builtin (b := .append) (xs := #[.tmp 47, .tmp 49]) rfl ?_); at_builtin; refine Kd.S_append (Kd.slice 3 (Kd.int .i64)) (w0 := w) w.heap.size rfl (.tmp 47) (.tmp 49) 55 60 (.slice none 0 0) 24 rfl Try.underlying55 info60 rfl (by decide) (by omega) u3 x3_1 t103 [.slice Ao45 t103.length co45] (fun _ => True) (fun k_ => some k_ = (.slice Ao45 t103.length co45 : Value).ownBlock) rfl rfl ?aP (fun k_ hk_ => ((Kd.R_mono (ok' := fun k_ => ((fun _ => True)) k_ ∧ some k_ ≠ (u3 : Value).ownBlock) (Kd.R_apart' (HO118.out) (Kd.S_typed HO_3.out) (by decide)) (fun k_ hk => ⟨trivial, hk.2⟩))).1 k_ hk_.symm) ?aF ?aO ?aB ?aS ?aL ?_; (case aP => exact Kd.M_row (Kd.R_mono (Kd.R_tight rfl (Kd.R_mono (ok' := fun k_ => ((fun _ => True)) k_ ∧ some k_ ≠ (u3 : Value).ownBlock) (Kd.R_apart' (HO118.out) (Kd.S_typed HO_3.out) (by decide)) (fun k_ hk => ⟨trivial, hk.2⟩))) (fun _ h_ => h_))); (case aB => exact (qb HB.out)); (case aF => exact (fun _ _ => trivial)); (case aO => exact (by (with_reducible repeat (first | apply Kd.S_alloc | apply Kd.S_drewN | apply Kd.S_drew)); exact Kd.S_mono HO_3.out (fun k_ hk => ⟨trivial, fun e_ => hk.2 e_⟩))); (case aS => exact (below_size (qb HB.out))); (case aL => have := LMc32.out; omega); intro v119 w44 ho hb hg hat; rw [← Ny116.out] at ho; replace HO_101001 := q0 (Kd.R_over' (qr HO_101001.out) (Kd.S_typed (qv HO_3.out)) (by decide) hg); replace BK105 := q0 (blk_grown (g := gb105) (o := .cells #[.int .i64 a0_0, .slice (some ad112) l0_1.length c0_1] 25 (0, 0)) (qk BK105.out) hg (Kd.S_ne HO_3.out BK105.out (by decide))); replace BK110 := q0 (blk_grown (g := gb110) (o := .cells #[.int .i64 a0_0, .slice Ao13 t104.length co13] 25 (0, 0)) (qk BK110.out) hg (Kd.S_ne HO_3.out BK110.out (by decide))); replace BK113 := q0 (blk_grown (g := gb113) (o := .cells #[.int .i64 ((rd_TTie l0_1 x5_1).f0), .int .i64 ((rd_TTie l0_1 x5_1).f1)] 32 (0, 0)) (qk BK113.out) hg (Kd.S_ne HO_3.out BK113.out (by decide))); replace HB := q0 (hb); have HO120 := q0 (ho); clear HO_3 HO118; clear ho hb hg hat))
 go_roundg k1
 case measure => have := HK1.out; omega
 case rel => exact ⟨(y116), (wrap64 (x5_1 + 1)), qs, H', ⟨by have := HK1.out; omega⟩, ⟨qv HO120.out⟩, ⟨by (with_reducible repeat (first | apply Kd.R_alloc | apply Kd.R_drewN | apply Kd.R_drew)); exact Kd.R_mono HO_101001.out (fun _ hk => trivial)⟩, ⟨qk BK105.out⟩, ⟨qk BK110.out⟩, ⟨qb HB.out⟩⟩

set_option maxHeartbeats 8000000 in
set_option maxRecDepth 100000 in
theorem slices_Index_int.calls (k : Nat) (A0 : Option Addr) (c0 : Nat) (l0 : List Int) (a1 : Int) (r : Int) (w : World) (hr0 : Kd.C (Kd.int .i64) w A0 l0.length l0) (hc0 : l0.length ≤ c0) (h : slices_Index_int.f k l0 a1 = some r) :
    Calls Try.prog 124 #[.slice A0 l0.length c0, .int .i64 a1] w fun e w' => e = .returned (.int .i64 r) ∧ Drawn0 w w' := by
 have HR0 := q0 hr0
 have HC0 := q0 hc0
 clear hr0 hc0
 have H : (slices_Index_int.l0 k l0 a1 (l0.length : Int) 0) = some r := h
 clear h
 have H' := q0 H
 clear H
 go_enter Try.func124, Try.ntmps124
 go_wp2
 go_loopg [8] k (fun kq v8 w' => ∃ (x8_1 : Int), v8 = .int .i64 x8_1 ∧ Aside0 (slices_Index_int.l0 kq l0 a1 (l0.length : Int) x8_1 = some r) ∧ Aside0 (kq ≤ k) ∧ Drawn0 w w')
 case atStart => exact ⟨(0), qs, H', ⟨Nat.le_refl _⟩, by repeat (first | exact Drawn0.refl _ | apply Drawn0.step)⟩
 clear H'
 try clear c1
 try clear p2
 obtain ⟨x8_1, rfl, HA, HK1, ⟨m1, rfl⟩⟩ := hrel
 rcases gk with _ | k1
 · exact absurd HA.out (by simp [slices_Index_int.l0])
 have H := HA.out
 clear HA
 simp only [slices_Index_int.l0] at H
 by_cases c3 : x8_1 < (l0.length : Int)
 rotate_left
 · rw [if_neg c3] at H
   have c3b0 := decide_eq_false c3
   clear c3
   obtain rfl := Option.some.inj H
   go_wp2
   go_ret
   exact ⟨by first | rfl | (simp; done) | (simp [*]; done), by repeat (first | exact Drawn0.refl _ | apply Drawn0.step)⟩
 rw [if_pos c3] at H
 have c3b0 := decide_eq_true c3
 clear c3
 obtain ⟨c4, H⟩ : (0 ≤ x8_1) ∧ _ := og H
 have c4b0 := decide_eq_true c4
 clear c4
 obtain ⟨c5, H⟩ : (x8_1 < (l0.length : Int)) ∧ _ := og H
 have c5b0 := decide_eq_true c5
 clear c5
 by_cases c6 : a1 = (rd l0 x8_1)
 · rw [if_pos c6] at H
   have c6b0 : (a1 == (rd l0 x8_1)) = true := beq_iff_eq.mpr c6
   have c6b1 : (a1 != (rd l0 x8_1)) = false := bne_eq_false_iff_eq.mpr c6
   clear c6
   obtain rfl := Option.some.inj H
   have p100 : 0 ≤ (x8_1 : Int) := of_decide_eq_true qa
   have q100 : x8_1 < (l0.length : Int) := of_decide_eq_true qa
   obtain ⟨ad100, e100, hx100_0⟩ := Kd.at_int HR0.out x8_1 p100 q100
   cases e100
   replace p100 := eq_true p100
   replace q100 := eq_true q100
   go_wp2
   go_ret
   exact ⟨by first | rfl | (simp; done) | (simp [*]; done), by repeat (first | exact Drawn0.refl _ | apply Drawn0.step)⟩
 rw [if_neg c6] at H
 have c6b0 : (a1 == (rd l0 x8_1)) = false := beq_eq_false_iff_ne.mpr c6
 have c6b1 : (a1 != (rd l0 x8_1)) = true := bne_iff_ne.mpr c6
 have H' := q0 H
 clear H
 have p100 : 0 ≤ (x8_1 : Int) := of_decide_eq_true qa
 have q100 : x8_1 < (l0.length : Int) := of_decide_eq_true qa
 obtain ⟨ad100, e100, hx100_0⟩ := Kd.at_int HR0.out x8_1 p100 q100
 cases e100
 replace p100 := eq_true p100
 replace q100 := eq_true q100
 go_wp2
 go_roundg k1
 case measure => have := HK1.out; omega
 case rel => exact ⟨(wrap64 (x8_1 + 1)), qs, H', ⟨by have := HK1.out; omega⟩, by repeat (first | exact Drawn0.refl _ | apply Drawn0.step)⟩

set_option maxHeartbeats 8000000 in
set_option maxRecDepth 100000 in
theorem slices_Contains_int.calls (k : Nat) (A0 : Option Addr) (c0 : Nat) (l0 : List Int) (a1 : Int) (r : Bool) (w : World) (hr0 : Kd.C (Kd.int .i64) w A0 l0.length l0) (hc0 : l0.length ≤ c0) (h : slices_Contains_int.f k l0 a1 = some r) :
    Calls Try.prog 108 #[.slice A0 l0.length c0, .int .i64 a1] w fun e w' => e = .returned (.bool r) ∧ Drawn0 w w' := by
 have HR0 := q0 hr0
 have HC0 := q0 hc0
 clear hr0 hc0
 have H : ((slices_Index_int.f k l0 a1).bind fun t100 => (some (decide (t100 ≥ 0)))) = some r := h
 clear h
 obtain ⟨t100, A3, H⟩ := ob H
 obtain rfl := Option.some.inj H
 go_enter Try.func108, Try.ntmps108
 go_wp2_with (first | ((with_reducible refine gf 124 ?_); refine gl 7 Try.func124 #[.slice A0 l0.length c0, .int .i64 a1] ?_; (with_reducible refine (slices_Index_int.calls k _ _ l0 a1 t100 _ ?side1 ?side2 A3.out).mono ?_); (case side1 => repeat (first | exact HR0.out | (with_reducible refine Kd.C_alloc ?_ _) | (with_reducible refine Kd.C_drewN ?_ _) | (with_reducible refine Kd.C_drew ?_))); (case side2 => exact HC0.out); rintro e w' ⟨rfl, ⟨nd, rfl⟩⟩; refine ⟨_, rfl, ?_⟩))
 go_ret
 exact ⟨by first | rfl | (simp; done) | (simp [*]; done), by repeat (first | exact Drawn0.refl _ | apply Drawn0.step)⟩

set_option maxHeartbeats 8000000 in
set_option maxRecDepth 100000 in
theorem slices_Clone_int.calls (A0 : Option Addr) (c0 : Nat) (l0 : List Int) (r : List Int) (w : World) (hr0 : Kd.C (Kd.int .i64) w A0 l0.length l0) (hc0 : l0.length ≤ c0) (h : slices_Clone_int.f l0 = some r) :
    Calls Try.prog 121 #[.slice A0 l0.length c0] w fun e w' => ∃ v0_ : Value, e = .returned (v0_) ∧ Kd.R (Kd.int .i64) 3 w' w.heap.size (fun _ => True) v0_ r ∧ Below w.heap.size w w' := by
 have q60 : ∀ (w : World) (a : Option Addr) (n c n2 c2 : Nat), (binOp .eql 60 (.slice a n c) (.slice none n2 c2)).run Try.prog w = .ok (.bool a.isNone) w := fun w a n c n2 c2 => Go.Lib.run_eql_slice_nil w _ _ a n c n2 c2 Try.underlying60
 rcases A0 with _ | a0_
 · have hl0 : l0 = [] := by
     cases l0 with
     | nil => rfl
     | cons x l =>
       obtain ⟨ad, c, e, _⟩ := Kd.C_get hr0 0 0 (by omega) (by simp only [List.length_cons]; omega)
       cases e
   subst hl0
   obtain rfl : r = [] := by simp [slices_Clone_int.f] at h; exact h
   go_enter Try.func121, Try.ntmps121
   go_wp2
   go_ret
   exact ⟨_, rfl, Kd.R_nil _ _ _ _ _, Below.refl _ _⟩
 have HR0 := q0 hr0
 have HC0 := q0 hc0
 clear hr0 hc0
 have HB := q0 (Below.refl w.heap.size w)
 have H : ((some (([] : List Int) : List Int)).bind fun y100 => (if y100.length + l0.length < 17592186044416 then (some (y100 ++ l0)) else (none))) = some r := h
 clear h
 obtain ⟨y100, hy100⟩ : ∃ y_ : List Int, y_ = (([] : List Int)) := ⟨_, rfl⟩
 replace H : (if y100.length + l0.length < 17592186044416 then (some (y100 ++ l0)) else (none)) = some r := qy H hy100
 have Ny100 := q0 hy100
 clear hy100
 obtain ⟨c2, H⟩ : (y100.length + l0.length < 17592186044416) ∧ _ := og H
 have LMc2 := q0 c2
 clear c2
 obtain ⟨y101, hy101⟩ : ∃ y_ : List Int, y_ = (y100 ++ l0) := ⟨_, rfl⟩
 replace H : (some y101) = some r := qy H hy101
 have Ny101 := q0 hy101
 clear hy101
 obtain rfl := Option.some.inj H
 go_enter Try.func121, Try.ntmps121
 go_wp2_with (first | ((with_reducible refine gd 5 ?_); refine Kd.R_lit (Kd.int .i64) _ 3 ?hg (N := 5) ?hd (xs := ([] : List Int)) (inner := []) (ok := fun _ => True) (okp := fun _ => True) ?hr ?hp (fun _ hk => hk) trivial (Below.refl _ _) (Nat.le_refl _) (by simp) ?_; (case hd => rfl); (case hg => rfl); (case hr => first | (go_simp; done) | (go_simp; rfl)); (case hp => exact (Reps.none _ _)); intro v102 w3 ho4 hb hg_ hnew_; clear hg_ hnew_; (first | rw [← Ny100.out] at ho4 | (simp only [Int.reduceToNat] at ho4; rw [← Ny100.out] at ho4)); have HO103 := q0 (Kd.R_lower ho4 (below_size (qb HB.out))); replace HB := bp HB hb; clear hb ho4) | ((with_reducible refine gate_builtin (b := .append) (xs := #[.tmp 5, .tmp 6]) rfl ?_); at_builtin; refine Kd.R_append_rows (Kd.int .i64) (w0 := w) w.heap.size rfl (.tmp 5) (.tmp 6) 60 3 (.int .i64 0) 8 rfl Try.underlying60 info3 rfl (by decide) (by omega) v102 y100 l0 _ _ _ (fun _ => True) (fun _ => False) rfl rfl ?aO ?aR (fun _ _ h => h) (fun _ h => h.elim) ?aF ?aB ?aS ?aL ?_; (case aR => repeat (first | exact (Kd.C_below HR0.out HB.out) | (with_reducible refine Kd.C_alloc ?_ _) | (with_reducible refine Kd.C_drewN ?_ _) | (with_reducible refine Kd.C_drew ?_))); (case aB => exact (qb HB.out)); (case aF => exact (fun _ _ => trivial)); (case aO => exact (qr HO103.out)); (case aS => exact (below_size (qb HB.out))); (case aL => have := LMc2.out; omega); intro v104 w5 ho hb hg hat; rw [← Ny101.out] at ho; replace HB := q0 (hb); have HO105 := q0 (ho); clear HO103; clear ho hb hg hat))
 go_ret
 exact ⟨_, qe, qr HO105.out, qb HB.out⟩

end Go.Proofs.Ytgoembpmhlmafaa.P
