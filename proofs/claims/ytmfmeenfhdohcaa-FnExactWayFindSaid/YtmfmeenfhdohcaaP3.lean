import Derived.Test.YtmfmeenfhdohcaaP0
import Derived.Test.YtmfmeenfhdohcaaP2
namespace Go.Proofs.Ytmfmeenfhdohcaa.P
open Go.RowKit Go.Proofs.YtmfmeenfhdohcaaW.PrintWords Go.Proofs.YtmfmeenfhdohcaaW.PrintLast Go.Proofs.YtmfmeenfhdohcaaW.PrintMore
attribute [local go_sem] max2_int min2_int max_two min_two max_three min_three max_four min_four
set_option linter.unusedVariables false
set_option linter.unusedSimpArgs false
attribute [local go_sem high] eqATie
set_option maxHeartbeats 8000000 in
set_option maxRecDepth 100000 in
theorem spec_l2Far.calls (k : Nat) (a0_0 : Int) (A0_1 : Option Addr) (c0_1 : Nat) (l0_1 : List (STie)) (a1 : Int) (r : List Int) (w : World) (hr0_1 : Kd.C kTie w A0_1 l0_1.length l0_1) (hc0_1 : l0_1.length ≤ c0_1) (h : spec_l2Far.f k a0_0 l0_1 a1 = some r) :
    Calls Try.prog 41 #[.agg #[.int .i64 a0_0, .slice A0_1 l0_1.length c0_1], .int .i64 a1] w fun e w' => ∃ v0_ : Value, e = .returned (v0_) ∧ Kd.R (Kd.int .i64) 3 w' w.heap.size (fun _ => True) v0_ r ∧ Below w.heap.size w w' := by
 have hu31 := Try.underlying31
 have HR0_1 := Aside0.mk hr0_1
 have HC0_1 := Aside0.mk hc0_1
 clear hr0_1 hc0_1
 have HB := q0 (Below.refl w.heap.size w)
 have H : (spec_l2Far.l0 k a1 (([] : List Int)) 0 a0_0 l0_1) = some r := h
 clear h
 obtain ⟨y100, hy100⟩ : ∃ y_ : List Int, y_ = (([] : List Int)) := ⟨_, rfl⟩
 replace H : (spec_l2Far.l0 k a1 y100 0 a0_0 l0_1) = some r := qy H hy100
 have Ny100 := Aside0.mk hy100
 clear hy100
 have H' := Aside0.mk H
 clear H
 go_enter Try.func41, Try.ntmps41
 go_wp2_with (first | ((with_reducible refine gate_dst (N := 2) rfl ?_); refine be 2 #[.int .i64 a0_0, .slice A0_1 l0_1.length c0_1] 31 ?_; intro gb102 hg w3 hbox hb; have BK102 := q0 (hbox); have GW102 := q0 ((bs HB.out hg : w.heap.size ≤ gb102)); have GE102 := q0 ((bs HB.out hg : w.heap.size ≤ gb102)); replace HB := q0 (below_step (qb HB.out) hb); clear hb hbox hg) | ((with_reducible refine gate_dst (N := 11) rfl ?_); refine Kd.R_lit (Kd.int .i64) _ 3 ?hg (N := 11) ?hd (xs := ([] : List Int)) (inner := []) (ok := fun _ => True) (okp := fun _ => True) ?hr ?hp (fun _ hk => hk) trivial (Below.refl _ _) (Nat.le_refl _) (by simp) ?_; (case hd => rfl); (case hg => rfl); (case hr => first | (go_simp; done) | (go_simp; rfl)); (case hp => exact (Reps.none _ _)); intro v103 w4 ho5 hb hg_ hnew_; clear hg_ hnew_; (first | rw [← Ny100.out] at ho5 | (simp only [Int.reduceToNat] at ho5; rw [← Ny100.out] at ho5)); have HO104 := q0 (Kd.R_lower ho5 (below_size (qb HB.out))); replace BK102 := q0 (kb BK102.out hb); replace HB := q0 (below_step (qb HB.out) hb); clear hb ho5))
 go_loopg [5, 6] k (fun kq v5 v6 w' => ∃ (x5_1 : List Int) (x6_1 : Int), v6 = .int .i64 x6_1 ∧ Aside0 (spec_l2Far.l0 kq a1 x5_1 x6_1 a0_0 l0_1 = some r) ∧ Aside0 (kq ≤ k) ∧ Aside0 (Kd.R (Kd.int .i64) 3 w' w.heap.size (fun _ => True) v5 x5_1) ∧ Aside0 (w'.heap[gb102]? = some (.cells #[.int .i64 a0_0, (.slice A0_1 l0_1.length c0_1)] 31 (0, 0))) ∧ Aside0 (Below w.heap.size w w'))
 case atStart => exact ⟨(y100), (0), qs, H', ⟨Nat.le_refl _⟩, ⟨qr HO104.out⟩, ⟨qk BK102.out⟩, ⟨qb HB.out⟩⟩
 clear H'
 try clear p2
 try clear c4
 obtain ⟨x5_1, x6_1, rfl, HA, HK1, HO_5, BK102, HB⟩ := hrel
 rcases gk with _ | k1
 · exact absurd HA.out (by simp [spec_l2Far.l0])
 have H := HA.out
 clear HA
 simp only [spec_l2Far.l0] at H
 by_cases c6 : x6_1 < a0_0
 · rw [if_pos c6] at H
   have c6b0 : decide (x6_1 < a0_0) = true := decide_eq_true c6
   clear c6
   by_cases c7 : x5_1.length < 17592186044416
   rotate_left
   · rw [if_neg c7] at H
     exact absurd H (by simp)
   rw [if_pos c7] at H
   have LMc7 := Aside0.mk c7
   clear c7
   obtain ⟨y105, hy105⟩ : ∃ y_ : List Int, y_ = (x5_1 ++ [(-1)]) := ⟨_, rfl⟩
   replace H : (spec_l2Far.l0 k1 a1 y105 (wrap64 (x6_1 + 1)) a0_0 l0_1) = some r := qy H hy105
   have Ny105 := Aside0.mk hy105
   clear hy105
   have H' := Aside0.mk H
   clear H
   have hcz8_0 : wr.cell? ⟨gb102, 0, none⟩ = some (.int .i64 a0_0) := (blk_cell BK102.out 0).trans rfl
   have hcz8_1 : wr.cell? ⟨gb102, 1, none⟩ = some (.slice A0_1 l0_1.length c0_1) := (blk_cell BK102.out 1).trans rfl
   have hfz8_0 := blk_frozen BK102.out 0
   have hfz8_1 := blk_frozen BK102.out 1
   go_wp2_with (first | ((with_reducible refine gate_builtin (b := .append) (xs := #[.tmp 18, .tmp 19]) rfl ?_); at_builtin; refine Kd.R_append (Kd.int .i64) (w0 := w) w.heap.size rfl (.tmp 18) (.tmp 19) 26 3 (.int .i64 0) 8 rfl Try.underlying26 info3 rfl (by decide) (by omega) u5 x5_1 (-1) [.int .i64 (-1)] (fun _ => True) (fun _ => False) rfl rfl ?aP (fun _ hk => hk.elim) ?aF ?aO ?aB ?aS ?aL ?_; (case aP => exact rfl); (case aB => exact (qb HB.out)); (case aF => exact (fun _ _ => trivial)); (case aO => exact (qr HO_5.out)); (case aS => exact (below_size (qb HB.out))); (case aL => have := LMc7.out; omega); intro v106 w9 ho hb hg hat; rw [← Ny105.out] at ho; replace BK102 := q0 (blk_grown (g := gb102) (o := .cells #[.int .i64 a0_0, .slice A0_1 l0_1.length c0_1] 31 (0, 0)) (qk BK102.out) hg (Kd.R_ne HO_5.out BK102.out (by decide))); replace HB := q0 (hb); have HO107 := q0 (ho); clear HO_5; clear ho hb hg hat))
   go_roundg k1
   case measure => have := HK1.out; omega
   case rel => exact ⟨(y105), (wrap64 (x6_1 + 1)), qs, H', ⟨by have := HK1.out; omega⟩, ⟨qr HO107.out⟩, ⟨qk BK102.out⟩, ⟨qb HB.out⟩⟩
 rw [if_neg c6] at H
 have c6b0 : decide (x6_1 < a0_0) = false := decide_eq_false c6
 clear c6
 by_cases c10 : 0 ≤ a1
 rotate_left
 · rw [if_neg c10] at H
   exact absurd H (by simp)
 rw [if_pos c10] at H
 have c10b0 : decide (0 ≤ a1) = true := decide_eq_true c10
 clear c10
 by_cases c11 : a1 < (x5_1.length : Int)
 rotate_left
 · rw [if_neg c11] at H
   exact absurd H (by simp)
 rw [if_pos c11] at H
 have c11b0 : decide (a1 < (x5_1.length : Int)) = true := decide_eq_true c11
 clear c11
 obtain ⟨y108, hy108⟩ : ∃ y_ : List Int, y_ = (x5_1.set (a1 : Int).toNat 0) := ⟨_, rfl⟩
 replace H : (spec_l2Far.l1 k1 y108 (([a1] : List Int)) a0_0 l0_1) = some r := qy H hy108
 have Ny108 := Aside0.mk hy108
 clear hy108
 obtain ⟨y109, hy109⟩ : ∃ y_ : List Int, y_ = (([a1] : List Int)) := ⟨_, rfl⟩
 replace H : (spec_l2Far.l1 k1 y108 y109 a0_0 l0_1) = some r := qy H hy109
 have Ny109 := Aside0.mk hy109
 clear hy109
 have H' := Aside0.mk H
 clear H
 have hcz13_0 : wr.cell? ⟨gb102, 0, none⟩ = some (.int .i64 a0_0) := (blk_cell BK102.out 0).trans rfl
 have hcz13_1 : wr.cell? ⟨gb102, 1, none⟩ = some (.slice A0_1 l0_1.length c0_1) := (blk_cell BK102.out 1).trans rfl
 have hfz13_0 := blk_frozen BK102.out 0
 have hfz13_1 := blk_frozen BK102.out 1
 have p12 : 0 ≤ (a1 : Int) := of_decide_eq_true qa
 have q12 : (a1 : Int) < ((x5_1.length : Int) : Int) := of_decide_eq_true qa
 obtain ⟨go12, co12, eo12, gb12, gl12, cl12, HG12⟩ := Kd.R_form HO_5.out (by omega)
 (first | cases eo12 | (injection eo12 with ea_ en_ ec_; (first | subst ea_ | (injection ea_ with ea_; subst ea_)); subst ec_; clear en_))
 have GB12 := Aside0.mk gb12
 have GG12 := Aside0.mk HG12
 clear gb12 gl12 HG12
 obtain ⟨hx12_0, hf12_0⟩ := Kd.R_celln 0 HO_5.out (a1 : Int) p12 q12
 replace p12 := eq_true p12
 replace q12 := eq_true q12
 have HP14 := Kd.R_putg HO_5.out (a1 : Int) 0
 go_wp2_with (first | ((with_reducible refine gate_store (t := 3) (p := 23) rfl ?_); refine store_event (t := 3) (p := 23) (v := ?vo_w15) (w1 := (wr.setCell ⟨go12, (a1 : Int).toNat, none⟩ (.int .i64 0))) ?hg ?ho ?hn ?hr ?_; (case ho => rfl); (case hg => rfl); (case hn => rfl); (case hr => first | (go_simp; done) | (go_simp; rfl)); intro w15 hw; have hg : wr.grownBy w15 (some go12) := (by rw [hw]; exact HP14.2); have hp_ : Kd.R (Kd.int .i64) 3 w15 w.heap.size (fun _ => True) (.slice (some ⟨go12, 0, none⟩) x5_1.length co12) y108 := (by rw [hw, Ny108.out]; exact HP14.1); clear HP14; replace BK102 := q0 (blk_grown (g := gb102) (o := .cells #[.int .i64 a0_0, .slice A0_1 l0_1.length c0_1] 31 (0, 0)) (qk BK102.out) hg (Kd.R_ne HO_5.out BK102.out (by decide))); replace HO_5 := q0 (hp_); replace HB := q0 ((by rw [hw]; exact below_set (HB.out) GB12.out : Below w.heap.size w w15)); clear hg hw hp_) | ((with_reducible refine gate_dst (N := 25) rfl ?_); refine Kd.R_lit (Kd.int .i64) _ 3 ?hg (N := 25) ?hd (xs := ([a1] : List Int)) (inner := [.int .i64 a1]) (ok := fun _ => True) (okp := fun _ => True) ?hr ?hp (fun _ hk => hk) trivial (Below.refl _ _) (Nat.le_refl _) (by simp) ?_; (case hd => rfl); (case hg => rfl); (case hr => first | (go_simp; done) | (go_simp; rfl)); (case hp => exact (Reps.one (show Kd.M (Kd.int .i64) _ _ _ a1 [.int .i64 a1] from rfl) (Reps.none _ _))); intro v110 w16 ho17 hb hg_ hnew_; clear hg_ hnew_; (first | rw [← Ny109.out] at ho17 | (simp only [Int.reduceToNat] at ho17; rw [← Ny109.out] at ho17)); have HO111 := q0 (Kd.R_lower (Kd.R_new' ho17 (Kd.R_lt (qr HO_5.out))) (below_size (qb HB.out))); replace HO_5 := q0 (Kd.R_elder' (qr HO_5.out) (Kd.R_base ho17) hb); replace BK102 := q0 (kb BK102.out hb); replace HB := q0 (below_step (qb HB.out) hb); clear hb ho17))
 go_loopg [7] k1 (fun kq v7 w' => ∃ (x5_2 : List Int) (x7_2 : List Int), Aside0 (spec_l2Far.l1 kq x5_2 x7_2 a0_0 l0_1 = some r) ∧ Aside0 (kq ≤ k1) ∧ Aside0 (Kd.R (Kd.int .i64) 3 w' w.heap.size (fun k_ => some k_ ≠ (v7 : Value).ownBlock) (.slice (some ⟨go12, 0, none⟩) x5_1.length co12) x5_2) ∧ Aside0 (Kd.Q (Kd.int .i64) 3 w' w.heap.size (fun k_ => some k_ ≠ ((.slice (some ⟨go12, 0, none⟩) x5_1.length co12) : Value).ownBlock) v7 x7_2) ∧ Aside0 (w'.heap[gb102]? = some (.cells #[.int .i64 a0_0, (.slice A0_1 l0_1.length c0_1)] 31 (0, 0))) ∧ Aside0 (Below w.heap.size w w'))
 case atStart => exact ⟨(y108), (y109), H', ⟨Nat.le_refl _⟩, ⟨by (with_reducible repeat (first | apply Kd.R_alloc | apply Kd.R_drewN | apply Kd.R_drew)); exact Kd.R_mono HO_5.out (fun _ hk => hk.2)⟩, ⟨Kd.Q_of_R (by (with_reducible repeat (first | apply Kd.R_alloc | apply Kd.R_drewN | apply Kd.R_drew)); exact Kd.R_mono HO111.out (fun _ hk => hk.2))⟩, ⟨qk BK102.out⟩, ⟨qb HB.out⟩⟩
 clear H'
 try clear c1
 try clear p1
 try clear q1
 try clear hx1
 try clear p2
 try clear c4
 try clear c6
 try clear c6b0
 try clear p6
 try clear c7
 try clear c10
 try clear c10b0
 try clear c11
 try clear c11b0
 try clear p12
 try clear q12
 try clear hx12
 try clear hf12
 try clear hcz13_0
 try clear hcz13_1
 try clear hcz8_0
 try clear hcz8_1
 try clear hfz13_0
 try clear hfz13_1
 try clear hfz8_0
 try clear hfz8_1
 try clear hx12_0
 try clear p12
 try clear p2
 try clear q12
 obtain ⟨x5_2, x7_2, HA, HK2, HO_5, HO_7, BK102, HB⟩ := hrel
 have hl5_2 := (Kd.R_reads' HO_5.out).1
 rw [hl5_2] at HO_5
 (try simp only [hl5_2])
 (try simp only [hl5_2] at BK102)
 (try simp only [hl5_2] at HO_7)
 rcases gk with _ | k2
 · exact absurd HA.out (by simp [spec_l2Far.l1])
 have H := HA.out
 clear HA
 simp only [spec_l2Far.l1] at H
 by_cases c18 : (x7_2.length : Int) > 0
 rotate_left
 · rw [if_neg c18] at H
   have c18b0 : decide (0 < (x7_2.length : Int)) = false := decide_eq_false c18
   have c18b1 : decide (0 < x7_2.length) = false := decide_eq_false (by omega)
   clear c18
   obtain rfl := Option.some.inj H
   obtain ⟨Ao41, co41, eo41, _⟩ := Kd.Q_slice HO_7.out
   subst eo41
   go_wp2
   go_ret
   exact ⟨_, qe, by (with_reducible repeat (first | apply Kd.R_alloc | apply Kd.R_drewN | apply Kd.R_drew)); exact Kd.R_mono HO_5.out (fun _ hk => trivial), qb HB.out⟩
 rw [if_pos c18] at H
 have c18b0 : decide (0 < (x7_2.length : Int)) = true := decide_eq_true c18
 have c18b1 : decide (0 < x7_2.length) = true := decide_eq_true (by omega)
 clear c18
 by_cases c19 : 0 < (x7_2.length : Int)
 rotate_left
 · rw [if_neg c19] at H
   exact absurd H (by simp)
 rw [if_pos c19] at H
 have c19b0 : decide (0 < (x7_2.length : Int)) = true := decide_eq_true c19
 have c19b1 : decide (0 < x7_2.length) = true := decide_eq_true (by omega)
 clear c19
 replace H := Option.bind_eq_some_iff.mp H
 obtain ⟨t101, A112, H⟩ := H
 have A20 := Aside0.mk A112
 clear A112
 by_cases c21 : 1 ≤ (x7_2.length : Int)
 rotate_left
 · rw [if_neg c21] at H
   exact absurd H (by simp)
 rw [if_pos c21] at H
 have c21b0 := eq_true c21
 have c21b1 : decide (1 ≤ (x7_2.length : Int)) = true := decide_eq_true c21
 clear c21
 obtain ⟨y113, hy113⟩ : ∃ y_ : List Int, y_ = (x7_2.drop (1 : Int).toNat) := ⟨_, rfl⟩
 replace H : (spec_l2Far.l2 k2 x5_2 y113 (rd x7_2 0) t101 0 a0_0 l0_1) = some r := qy H hy113
 have Ny113 := Aside0.mk hy113
 clear hy113
 have H' := Aside0.mk H
 clear H
 obtain ⟨Ao22, co22, eo22, _⟩ := Kd.Q_slice HO_7.out
 subst eo22
 have p114 : 0 ≤ (0 : Int) := (by omega)
 have q114 : 0 < (x7_2.length : Int) := of_decide_eq_true qa
 obtain ⟨ad114, e114, hx114_0⟩ := Kd.at_int (Kd.Q_reads' HO_7.out).2.2 0 p114 q114
 cases e114
 have qi114 : (0 < x7_2.length) = True := eq_true (by omega)
 (try rw [show ((0 : Int)).toNat = 0 from rfl] at hx114_0)
 (try rw [Addr.add_zero'] at hx114_0)
 replace p114 := eq_true p114
 replace q114 := eq_true q114
 have hcz23_0 : wr.cell? ⟨gb102, 0, none⟩ = some (.int .i64 a0_0) := (blk_cell BK102.out 0).trans rfl
 have hcz23_1 : wr.cell? ⟨gb102, 1, none⟩ = some (.slice A0_1 l0_1.length c0_1) := (blk_cell BK102.out 1).trans rfl
 have hfz23_0 := blk_frozen BK102.out 0
 have hfz23_1 := blk_frozen BK102.out 1
 go_wp2_with (first | ((with_reducible refine gate_callee (f := 42) rfl ?_); refine gl 34 Try.func42 #[.agg #[.int .i64 a0_0, .slice A0_1 l0_1.length c0_1], .int .i64 (rd x7_2 0)] ?_; (with_reducible refine (spec_l2Next.calls k2 a0_0 _ _ l0_1 (rd x7_2 0) t101 _ ?side1 ?side2 A20.out).mono ?_); (case side1 => exact qc (Kd.C_below HR0_1.out HB.out)); (case side2 => exact HC0_1.out); rintro e w24 ⟨v115, rfl, ho0, hb⟩; refine ⟨_, rfl, ?_⟩; have HO116 := q0 (Kd.R_lower (Kd.R_new' (Kd.R_new' ho0 (Kd.R_lt (qr HO_5.out))) (Kd.Q_lt (qq HO_7.out))) (below_size (qb HB.out))); replace HO_5 := q0 (Kd.R_elder' (qr HO_5.out) (Kd.R_base ho0) hb); replace HO_7 := q0 (Kd.Q_elder' (qq HO_7.out) (Kd.R_base ho0) hb); replace BK102 := q0 (kb BK102.out hb); replace HB := q0 (below_step (qb HB.out) hb); (try clear hb); (try clear hb2); (try clear hk); (try clear hi); (try clear ho0); have q25 : (1 : Int) ≤ ((x7_2.length : Int) : Int) := of_decide_eq_true qa; obtain ⟨i117, hi117, _, hsz25, _⟩ := info_parts info3; have hcut25 := cut_from (P := Try.prog) 26 3 .i64 Try.underlying26 hi117 1 hsz25 (some ad114) x7_2.length co22 1 (by omega) q25; have hr25 := Kd.Q_drop (k := (1 : Int).toNat) HO_7.out (by omega); obtain ⟨A25, hA25⟩ : ∃ A1, A1 = (if co22 = (1 : Int).toNat then (some ad114) else ((some ad114) : Option Addr).map (·.add ((1 : Int).toNat * 1))) := ⟨_, rfl⟩; obtain ⟨c25, hc25⟩ : ∃ c1, c1 = co22 - (1 : Int).toNat := ⟨_, rfl⟩; have hy25 : y113.length = x7_2.length - (1 : Int).toNat := (by rw [Ny113.out, List.length_drop]); rw [← Ny113.out] at hr25; rw [← hy25, ← hA25, ← hc25] at hcut25; replace hr25 : Kd.Q (Kd.int .i64) 3 w24 w.heap.size (fun k_ => some k_ ≠ (.slice (some ⟨go12, 0, none⟩) x5_2.length co12 : Value).ownBlock ∧ some k_ ≠ (v115 : Value).ownBlock) (.slice A25 y113.length c25) y113 := (by rw [hA25, hc25, hy25]; exact hr25); have HE25 : Aside0 ((Value.slice A25 y113.length c25).ownBlock = (.slice (some ad114) x7_2.length co22 : Value).ownBlock) := ⟨by rw [hA25]; split <;> (cases ((some ad114) : Option Addr) <;> rfl)⟩; clear hy25 hi117 hsz25 HO_7 hA25 hc25; have HO118 := Aside0.mk hr25; clear hr25; replace q25 := eq_true q25; have n_ := q0 (Kd.R_mono (ok' := fun k_ => (some k_ ≠ (.slice A25 y113.length c25 : Value).ownBlock ∧ some k_ ≠ (v115 : Value).ownBlock)) HO_5.out (fun k_ hk => ⟨(by rw [HE25.out]; exact hk.1), hk.2⟩)); clear HO_5; have HO_5 := n_; clear n_; have n_ := q0 (Kd.R_mono (ok' := fun k_ => ((True ∧ some k_ ≠ (.slice (some ⟨go12, 0, none⟩) x5_2.length co12 : Value).ownBlock) ∧ some k_ ≠ (.slice A25 y113.length c25 : Value).ownBlock)) HO116.out (fun k_ hk => ⟨⟨trivial, hk.1.2⟩, (by rw [HE25.out]; exact hk.2)⟩)); clear HO116; have HO116 := n_; clear n_))
 go_loopg [7, 10] k2 (fun kq v7 v10 w' => ∃ (x5_3 : List Int) (x7_3 : List Int) (x10_3 : Int), v10 = .int .i64 x10_3 ∧ Aside0 (spec_l2Far.l2 kq x5_3 x7_3 (rd x7_2 0) t101 x10_3 a0_0 l0_1 = some r) ∧ Aside0 (kq ≤ k2) ∧ Aside0 (Kd.R (Kd.int .i64) 3 w' w.heap.size (fun k_ => some k_ ≠ (v7 : Value).ownBlock ∧ some k_ ≠ (v115 : Value).ownBlock) (.slice (some ⟨go12, 0, none⟩) x5_2.length co12) x5_3) ∧ Aside0 (Kd.Q (Kd.int .i64) 3 w' w.heap.size (fun k_ => some k_ ≠ ((.slice (some ⟨go12, 0, none⟩) x5_2.length co12) : Value).ownBlock ∧ some k_ ≠ (v115 : Value).ownBlock) v7 x7_3) ∧ Aside0 (Kd.R (Kd.int .i64) 3 w' w.heap.size (fun k_ => some k_ ≠ ((.slice (some ⟨go12, 0, none⟩) x5_2.length co12) : Value).ownBlock ∧ some k_ ≠ (v7 : Value).ownBlock) v115 t101) ∧ Aside0 (w'.heap[gb102]? = some (.cells #[.int .i64 a0_0, (.slice A0_1 l0_1.length c0_1)] 31 (0, 0))) ∧ Aside0 (Below w.heap.size w w'))
 case atStart => exact ⟨(x5_2), (y113), (0), qs, H', ⟨Nat.le_refl _⟩, ⟨by (try simp only [hl5_2]); (with_reducible repeat (first | apply Kd.R_alloc | apply Kd.R_drewN | apply Kd.R_drew)); exact HO_5.out⟩, ⟨by (try simp only [hl5_2]); (with_reducible repeat (first | apply Kd.Q_alloc | apply Kd.Q_drewN | apply Kd.Q_drew)); exact HO118.out⟩, ⟨by (try simp only [hl5_2]); (with_reducible repeat (first | apply Kd.R_alloc | apply Kd.R_drewN | apply Kd.R_drew)); exact Kd.R_mono HO116.out (fun _ hk => ⟨hk.1.2, hk.2⟩)⟩, ⟨by (try simp only [hl5_2]); (with_reducible repeat (first | refine blk_drewN ?_ _ | refine blk_drew ?_ | refine blk_alloc ?_ _)); exact BK102.out⟩, ⟨qb HB.out⟩⟩
 clear H'
 try clear c1
 try clear p1
 try clear q1
 try clear hx1
 try clear qi1
 try clear c2
 try clear p2
 try clear q2
 try clear c4
 try clear c6
 try clear c6b0
 try clear p6
 try clear c7
 try clear c10
 try clear c10b0
 try clear c11
 try clear c11b0
 try clear p12
 try clear q12
 try clear hx12
 try clear hf12
 try clear p14
 try clear q14
 try clear hx14
 try clear qi14
 try clear c18
 try clear c18b0
 try clear c18b1
 try clear c19
 try clear c19b0
 try clear c19b1
 try clear c21
 try clear c21b0
 try clear c21b1
 try clear c25
 try clear q25
 try clear hcz13_0
 try clear hcz13_1
 try clear hcz23_0
 try clear hcz23_1
 try clear hcz8_0
 try clear hcz8_1
 try clear hfz13_0
 try clear hfz13_1
 try clear hfz23_0
 try clear hfz23_1
 try clear hfz8_0
 try clear hfz8_1
 try clear hx12_0
 try clear hx114_0
 try clear p1
 try clear p12
 try clear p114
 try clear p2
 try clear p6
 try clear q1
 try clear q12
 try clear q114
 try clear q25
 obtain ⟨x5_3, x7_3, x10_3, rfl, HA, HK3, HO_5, HO_7, HO_9, BK102, HB⟩ := hrel
 have hl5_3 := (Kd.R_reads' HO_5.out).1
 rw [hl5_3] at HO_5
 (try simp only [hl5_3])
 (try simp only [hl5_3] at BK102)
 (try simp only [hl5_3] at HO_7)
 (try simp only [hl5_3] at HO_9)
 rcases gk with _ | k3
 · exact absurd HA.out (by simp [spec_l2Far.l2])
 have H := HA.out
 clear HA
 simp only [spec_l2Far.l2] at H
 by_cases c26 : x10_3 < (t101.length : Int)
 rotate_left
 · rw [if_neg c26] at H
   have c26b0 : decide (x10_3 < (t101.length : Int)) = false := decide_eq_false c26
   clear c26
   have H' := Aside0.mk H
   clear H
   obtain ⟨Ao40, co40, eo40⟩ := Kd.R_slice HO_9.out
   subst eo40
   go_wp2
   (try simp only [← hl5_2, ← hl5_3])
   go_roundg k3
   case measure => have := HK1.out; have := HK2.out; have := HK3.out; omega
   case rel => exact ⟨(x5_3), (x7_3), H', ⟨by have := HK1.out; have := HK2.out; have := HK3.out; omega⟩, ⟨by (try simp only [hl5_2]); (try simp only [hl5_3]); (with_reducible repeat (first | apply Kd.R_alloc | apply Kd.R_drewN | apply Kd.R_drew)); exact Kd.R_mono HO_5.out (fun _ hk => hk.1)⟩, ⟨by (try simp only [hl5_2]); (try simp only [hl5_3]); (with_reducible repeat (first | apply Kd.Q_alloc | apply Kd.Q_drewN | apply Kd.Q_drew)); exact Kd.Q_mono HO_7.out (fun _ hk => hk.1)⟩, ⟨by (try simp only [hl5_2]); (try simp only [hl5_3]); (with_reducible repeat (first | refine blk_drewN ?_ _ | refine blk_drew ?_ | refine blk_alloc ?_ _)); exact BK102.out⟩, ⟨qb HB.out⟩⟩
 rw [if_pos c26] at H
 have c26b0 : decide (x10_3 < (t101.length : Int)) = true := decide_eq_true c26
 clear c26
 by_cases c27 : 0 ≤ x10_3
 rotate_left
 · rw [if_neg c27] at H
   exact absurd H (by simp)
 rw [if_pos c27] at H
 have c27b0 : decide (0 ≤ x10_3) = true := decide_eq_true c27
 clear c27
 by_cases c28 : 0 ≤ (rd t101 x10_3)
 rotate_left
 · rw [if_neg c28] at H
   exact absurd H (by simp)
 rw [if_pos c28] at H
 have c28b0 : decide (0 ≤ (rd t101 x10_3)) = true := decide_eq_true c28
 clear c28
 by_cases c29 : (rd t101 x10_3) < (x5_3.length : Int)
 rotate_left
 · rw [if_neg c29] at H
   exact absurd H (by simp)
 rw [if_pos c29] at H
 have c29b0 : decide ((rd t101 x10_3) < (x5_3.length : Int)) = true := decide_eq_true c29
 clear c29
 by_cases c30 : (rd x5_3 (rd t101 x10_3)) < 0
 rotate_left
 · rw [if_neg c30] at H
   have c30b0 : decide ((rd x5_3 (rd t101 x10_3)) < 0) = false := decide_eq_false c30
   clear c30
   have H' := Aside0.mk H
   clear H
   obtain ⟨Ao39, co39, eo39⟩ := Kd.R_slice HO_9.out
   subst eo39
   have p121 : 0 ≤ (x10_3 : Int) := of_decide_eq_true qa
   have q121 : x10_3 < (t101.length : Int) := of_decide_eq_true qa
   obtain ⟨ad121, e121, hx121_0⟩ := Kd.at_int (Kd.R_reads' HO_9.out).2.2 x10_3 p121 q121
   cases e121
   replace p121 := eq_true p121
   replace q121 := eq_true q121
   have p122 : 0 ≤ ((rd t101 x10_3) : Int) := of_decide_eq_true qa
   have q122 : (rd t101 x10_3) < (x5_3.length : Int) := of_decide_eq_true qa
   obtain ⟨ad122, e122, hx122_0⟩ := Kd.at_int (Kd.R_reads' HO_5.out).2.2 (rd t101 x10_3) p122 q122
   obtain rfl : (⟨go12, 0, none⟩ : Addr) = ad122 := (by injection e122)
   (first | simp only [add_plain] at hx122_0 | simp only [add_at] at hx122_0 | simp only [Addr.add, Nat.zero_add] at hx122_0 | skip)
   replace p122 := eq_true p122
   replace q122 := eq_true q122
   go_wp2
   (try simp only [← hl5_3])
   go_roundg k3
   case measure => have := HK1.out; have := HK2.out; have := HK3.out; omega
   case rel => exact ⟨(x5_3), (x7_3), (wrap64 (x10_3 + 1)), qs, H', ⟨by have := HK1.out; have := HK2.out; have := HK3.out; omega⟩, ⟨by (try simp only [hl5_2]); (try simp only [hl5_3]); (with_reducible repeat (first | apply Kd.R_alloc | apply Kd.R_drewN | apply Kd.R_drew)); exact HO_5.out⟩, ⟨by (try simp only [hl5_2]); (try simp only [hl5_3]); (with_reducible repeat (first | apply Kd.Q_alloc | apply Kd.Q_drewN | apply Kd.Q_drew)); exact HO_7.out⟩, ⟨by (try simp only [hl5_2]); (try simp only [hl5_3]); (with_reducible repeat (first | apply Kd.R_alloc | apply Kd.R_drewN | apply Kd.R_drew)); exact HO_9.out⟩, ⟨by (try simp only [hl5_2]); (try simp only [hl5_3]); (with_reducible repeat (first | refine blk_drewN ?_ _ | refine blk_drew ?_ | refine blk_alloc ?_ _)); exact BK102.out⟩, ⟨qb HB.out⟩⟩
 rw [if_pos c30] at H
 have c30b0 : decide ((rd x5_3 (rd t101 x10_3)) < 0) = true := decide_eq_true c30
 clear c30
 by_cases c31 : 0 ≤ (rd x7_2 0)
 rotate_left
 · rw [if_neg c31] at H
   exact absurd H (by simp)
 rw [if_pos c31] at H
 have c31b0 : decide (0 ≤ (rd x7_2 0)) = true := decide_eq_true c31
 clear c31
 by_cases c32 : (rd x7_2 0) < (x5_3.length : Int)
 rotate_left
 · rw [if_neg c32] at H
   exact absurd H (by simp)
 rw [if_pos c32] at H
 have c32b0 : decide ((rd x7_2 0) < (x5_3.length : Int)) = true := decide_eq_true c32
 clear c32
 obtain ⟨y119, hy119⟩ : ∃ y_ : List Int, y_ = (x5_3.set ((rd t101 x10_3) : Int).toNat (wrap64 ((rd x5_3 (rd x7_2 0)) + 1))) := ⟨_, rfl⟩
 replace H : (if x7_3.length < 17592186044416 then (spec_l2Far.l2 k3 y119 (x7_3 ++ [rd t101 x10_3]) (rd x7_2 0) t101 (wrap64 (x10_3 + 1)) a0_0 l0_1) else (none)) = some r := qy H hy119
 have Ny119 := Aside0.mk hy119
 clear hy119
 by_cases c34 : x7_3.length < 17592186044416
 rotate_left
 · rw [if_neg c34] at H
   exact absurd H (by simp)
 rw [if_pos c34] at H
 have LMc34 := Aside0.mk c34
 clear c34
 obtain ⟨y120, hy120⟩ : ∃ y_ : List Int, y_ = (x7_3 ++ [rd t101 x10_3]) := ⟨_, rfl⟩
 replace H : (spec_l2Far.l2 k3 y119 y120 (rd x7_2 0) t101 (wrap64 (x10_3 + 1)) a0_0 l0_1) = some r := qy H hy120
 have Ny120 := Aside0.mk hy120
 clear hy120
 have H' := Aside0.mk H
 clear H
 obtain ⟨Ao35, co35, eo35⟩ := Kd.R_slice HO_9.out
 subst eo35
 have p121 : 0 ≤ (x10_3 : Int) := of_decide_eq_true qa
 have q121 : x10_3 < (t101.length : Int) := of_decide_eq_true qa
 obtain ⟨ad121, e121, hx121_0⟩ := Kd.at_int (Kd.R_reads' HO_9.out).2.2 x10_3 p121 q121
 cases e121
 replace p121 := eq_true p121
 replace q121 := eq_true q121
 have p122 : 0 ≤ ((rd t101 x10_3) : Int) := of_decide_eq_true qa
 have q122 : (rd t101 x10_3) < (x5_3.length : Int) := of_decide_eq_true qa
 obtain ⟨ad122, e122, hx122_0⟩ := Kd.at_int (Kd.R_reads' HO_5.out).2.2 (rd t101 x10_3) p122 q122
 obtain rfl : (⟨go12, 0, none⟩ : Addr) = ad122 := (by injection e122)
 (first | simp only [add_plain] at hx122_0 | simp only [add_at] at hx122_0 | simp only [Addr.add, Nat.zero_add] at hx122_0 | skip)
 replace p122 := eq_true p122
 replace q122 := eq_true q122
 have p123 : 0 ≤ (x10_3 : Int) := of_decide_eq_true qa
 have q123 : x10_3 < (t101.length : Int) := of_decide_eq_true qa
 obtain ⟨ad123, e123, hx123_0⟩ := Kd.at_int (Kd.R_reads' HO_9.out).2.2 x10_3 p123 q123
 obtain rfl : ad121 = ad123 := (by injection e123)
 replace p123 := eq_true p123
 replace q123 := eq_true q123
 have p124 : 0 ≤ ((rd x7_2 0) : Int) := of_decide_eq_true qa
 have q124 : (rd x7_2 0) < (x5_3.length : Int) := of_decide_eq_true qa
 obtain ⟨ad124, e124, hx124_0⟩ := Kd.at_int (Kd.R_reads' HO_5.out).2.2 (rd x7_2 0) p124 q124
 obtain rfl : (⟨go12, 0, none⟩ : Addr) = ad124 := (by injection e124)
 (first | simp only [add_plain] at hx124_0 | simp only [add_at] at hx124_0 | simp only [Addr.add, Nat.zero_add] at hx124_0 | skip)
 replace p124 := eq_true p124
 replace q124 := eq_true q124
 have p33 : 0 ≤ ((rd t101 x10_3) : Int) := of_decide_eq_true qa
 have q33 : ((rd t101 x10_3) : Int) < ((x5_3.length : Int) : Int) := of_decide_eq_true qa
 obtain ⟨hx33_0, hf33_0⟩ := Kd.R_celln 0 HO_5.out ((rd t101 x10_3) : Int) p33 q33
 replace p33 := eq_true p33
 replace q33 := eq_true q33
 have HP36 := Kd.R_putg HO_5.out ((rd t101 x10_3) : Int) (wrap64 ((rd x5_3 (rd x7_2 0)) + 1))
 go_upto_region 16 with (fail)
 go_region
 obtain ⟨w37, hw⟩ : ∃ W_, W_ = (wr.setCell ⟨go12, ((rd t101 x10_3) : Int).toNat, none⟩ (.int .i64 (wrap64 ((rd x5_3 (rd x7_2 0)) + 1)))) := ⟨_, rfl⟩
 rw [← hw]
 have hg : wr.grownBy w37 (some go12) := (by rw [hw]; exact HP36.2)
 have hp_ : Kd.R (Kd.int .i64) 3 w37 w.heap.size (fun k_ => some k_ ≠ (u7 : Value).ownBlock ∧ some k_ ≠ (.slice (some ad121) t101.length co35 : Value).ownBlock) (.slice (some ⟨go12, 0, none⟩) x5_3.length co12) y119 := (by rw [hw, Ny119.out]; exact HP36.1)
 clear HP36
 replace HO_7 := q0 (Kd.Q_after (v := (.slice (some ⟨go12, 0, none⟩) x5_3.length co12)) (v1 := (.slice (some ⟨go12, 0, none⟩) x5_3.length co12)) (ok := (fun k_ => some k_ ≠ (.slice (some ad121) t101.length co35 : Value).ownBlock)) (by (with_reducible repeat (first | apply Kd.Q_alloc | apply Kd.Q_drewN | apply Kd.Q_drew)); exact Kd.Q_mono HO_7.out (fun _ hk => ⟨hk.2, hk.1⟩)) hg (.inl rfl))
 replace HO_9 := q0 (Kd.R_after (v := (.slice (some ⟨go12, 0, none⟩) x5_3.length co12)) (v1 := (.slice (some ⟨go12, 0, none⟩) x5_3.length co12)) (ok := (fun k_ => some k_ ≠ (u7 : Value).ownBlock)) (by (with_reducible repeat (first | apply Kd.R_alloc | apply Kd.R_drewN | apply Kd.R_drew)); exact Kd.R_mono HO_9.out (fun _ hk => ⟨hk.2, hk.1⟩)) hg (.inl rfl))
 replace BK102 := q0 (blk_grown (g := gb102) (o := .cells #[.int .i64 a0_0, .slice A0_1 l0_1.length c0_1] 31 (0, 0)) (qk BK102.out) hg (Kd.R_ne HO_5.out BK102.out (by decide)))
 replace HO_5 := q0 (hp_)
 replace HB := q0 ((by rw [hw]; exact below_set (HB.out) GB12.out : Below w.heap.size w w37))
 clear hg hw hp_
 replace BK102 := q0 (blk_drew BK102.out)
 replace HB := q0 (below_drew1 HB.out)
 replace HO_5 := q0 (Kd.R_drew HO_5.out)
 replace HO_7 := q0 (Kd.Q_drew HO_7.out)
 replace HO_9 := q0 (Kd.R_drew HO_9.out)
 generalize w37.drew = w37d at BK102 HB HO_5 HO_7 HO_9 ⊢
 have p125 : 0 ≤ (x10_3 : Int) := of_decide_eq_true qa
 have q125 : x10_3 < (t101.length : Int) := of_decide_eq_true qa
 obtain ⟨ad125, e125, hx125_0⟩ := Kd.at_int (Kd.R_reads' HO_9.out).2.2 x10_3 p125 q125
 obtain rfl : ad121 = ad125 := (by injection e125)
 replace p125 := eq_true p125
 replace q125 := eq_true q125
 go_wp2_with (((with_reducible refine gate_builtin (b := .append) (xs := #[.tmp 62, .tmp 67]) rfl ?_); at_builtin; refine Kd.Q_append (Kd.int .i64) (w0 := w) w.heap.size rfl (.tmp 62) (.tmp 67) 26 3 (.int .i64 0) 8 rfl Try.underlying26 info3 rfl (by decide) (by omega) u7 x7_3 (rd t101 x10_3) [.int .i64 (rd t101 x10_3)] (fun k_ => some k_ ≠ (.slice (some ⟨go12, 0, none⟩) x5_3.length co12 : Value).ownBlock ∧ some k_ ≠ (.slice (some ad121) t101.length co35 : Value).ownBlock) (fun _ => False) rfl rfl ?aP (fun _ hk => hk.elim) ?aF ?aO ?aB ?aS ?aL ?_; (case aP => exact rfl); (case aB => exact (qb HB.out)); (case aF => exact (fun k_ hk => ⟨Kd.fresh' (Kd.R_lt (qr HO_5.out)) k_ hk, Kd.fresh' (Kd.R_lt (qr HO_9.out)) k_ hk⟩)); (case aO => exact (by (with_reducible repeat (first | apply Kd.Q_alloc | apply Kd.Q_drewN | apply Kd.Q_drew)); exact Kd.Q_mono HO_7.out (fun _ hk => ⟨hk.2, hk.1⟩))); (case aS => exact (below_size (qb HB.out))); (case aL => have := LMc34.out; omega); intro v126 w38 ho hb hg hat; rw [← Ny120.out] at ho; replace HO_5 := q0 (Kd.R_after (ok := (fun k_ => some k_ ≠ (.slice (some ad121) t101.length co35 : Value).ownBlock)) (by (with_reducible repeat (first | apply Kd.R_alloc | apply Kd.R_drewN | apply Kd.R_drew)); exact Kd.R_mono HO_5.out (fun _ hk => ⟨hk.2, hk.1⟩)) hg hat); replace HO_9 := q0 (Kd.R_after (ok := (fun k_ => some k_ ≠ (.slice (some ⟨go12, 0, none⟩) x5_3.length co12 : Value).ownBlock)) (by (with_reducible repeat (first | apply Kd.R_alloc | apply Kd.R_drewN | apply Kd.R_drew)); exact Kd.R_mono HO_9.out (fun _ hk => ⟨hk.2, hk.1⟩)) hg hat); replace BK102 := q0 (blk_grown (g := gb102) (o := .cells #[.int .i64 a0_0, .slice A0_1 l0_1.length c0_1] 31 (0, 0)) (qk BK102.out) hg (Kd.Q_ne HO_7.out BK102.out (by decide))); replace HB := q0 (hb); have HO127 := q0 (ho); clear HO_7; clear ho hb hg hat))
 (try simp only [← hl5_3])
 go_roundg k3
 case measure => have := HK1.out; have := HK2.out; have := HK3.out; omega
 case rel => exact ⟨(y119), (y120), (wrap64 (x10_3 + 1)), qs, H', ⟨by have := HK1.out; have := HK2.out; have := HK3.out; omega⟩, ⟨by (try simp only [hl5_2]); (try simp only [hl5_3]); (with_reducible repeat (first | apply Kd.R_alloc | apply Kd.R_drewN | apply Kd.R_drew)); exact Kd.R_mono HO_5.out (fun _ hk => ⟨hk.2, hk.1⟩)⟩, ⟨by (try simp only [hl5_2]); (try simp only [hl5_3]); (with_reducible repeat (first | apply Kd.Q_alloc | apply Kd.Q_drewN | apply Kd.Q_drew)); exact HO127.out⟩, ⟨by (try simp only [hl5_2]); (try simp only [hl5_3]); (with_reducible repeat (first | apply Kd.R_alloc | apply Kd.R_drewN | apply Kd.R_drew)); exact HO_9.out⟩, ⟨by (try simp only [hl5_2]); (try simp only [hl5_3]); (with_reducible repeat (first | refine blk_drewN ?_ _ | refine blk_drew ?_ | refine blk_alloc ?_ _)); exact BK102.out⟩, ⟨qb HB.out⟩⟩

set_option maxHeartbeats 8000000 in
set_option maxRecDepth 100000 in
theorem spec_WayFind.calls (k : Nat) (a0_0 : Int) (A0_1 : Option Addr) (c0_1 : Nat) (l0_1 : List (STie)) (a1 : Int) (a2 : Int) (r1 : List Int) (r2 : Bool) (w : World) (hr0_1 : Kd.C kTie w A0_1 l0_1.length l0_1) (hc0_1 : l0_1.length ≤ c0_1) (h : spec_WayFind.f k a0_0 l0_1 a1 a2 = some (r1, r2)) :
    Calls Try.prog 14 #[.agg #[.int .i64 a0_0, .slice A0_1 l0_1.length c0_1], .int .i64 a1, .int .i64 a2] w fun e w' => ∃ v0_ : Value, e = .returned (.tuple #[v0_, .bool r2]) ∧ Kd.R (Kd.int .i64) 3 w' w.heap.size (fun _ => True) v0_ r1 ∧ Below w.heap.size w w' := by
 have hu31 := Try.underlying31
 have HR0_1 := Aside0.mk hr0_1
 have HC0_1 := Aside0.mk hc0_1
 clear hr0_1 hc0_1
 have HB := q0 (Below.refl w.heap.size w)
 have H : ((some (([] : List Int) : List Int)).bind fun y100 => ((spec_l1Knot.f k a0_0 l0_1 a1).bind fun t103 => (if t103 = true then ((spec_l1Knot.f k a0_0 l0_1 a2).bind fun t104 => (spec_WayFind.j0 k a1 a2 y100 (!t104) a0_0 l0_1)) else (spec_WayFind.j0 k a1 a2 y100 true a0_0 l0_1)))) = some (r1, r2) := h
 clear h
 obtain ⟨y100, hy100⟩ : ∃ y_ : List Int, y_ = (([] : List Int)) := ⟨_, rfl⟩
 replace H : ((spec_l1Knot.f k a0_0 l0_1 a1).bind fun t103 => (if t103 = true then ((spec_l1Knot.f k a0_0 l0_1 a2).bind fun t104 => (spec_WayFind.j0 k a1 a2 y100 (!t104) a0_0 l0_1)) else (spec_WayFind.j0 k a1 a2 y100 true a0_0 l0_1))) = some (r1, r2) := qy H hy100
 have Ny100 := Aside0.mk hy100
 clear hy100
 have HC4 := Aside0.mk H
 clear H
 go_enter Try.func14, Try.ntmps14
 go_upto_region 2 with (first | ((with_reducible refine gate_dst (N := 3) rfl ?_); refine be 3 #[.int .i64 a0_0, .slice A0_1 l0_1.length c0_1] 31 ?_; intro gb105 hg w5 hbox hb; have BK105 := q0 (hbox); have GW105 := q0 ((bs HB.out hg : w.heap.size ≤ gb105)); have GE105 := q0 ((bs HB.out hg : w.heap.size ≤ gb105)); replace HB := q0 (below_step (qb HB.out) hb); clear hb hbox hg) | ((with_reducible refine gate_dst (N := 13) rfl ?_); refine Kd.R_lit (Kd.int .i64) _ 3 ?hg (N := 13) ?hd (xs := ([] : List Int)) (inner := []) (ok := fun _ => True) (okp := fun _ => True) ?hr ?hp (fun _ hk => hk) trivial (Below.refl _ _) (Nat.le_refl _) (by simp) ?_; (case hd => rfl); (case hg => rfl); (case hr => first | (go_simp; done) | (go_simp; rfl)); (case hp => exact (Reps.none _ _)); intro v106 w6 ho7 hb hg_ hnew_; clear hg_ hnew_; (first | rw [← Ny100.out] at ho7 | (simp only [Int.reduceToNat] at ho7; rw [← Ny100.out] at ho7)); have HO107 := q0 (Kd.R_lower ho7 (below_size (qb HB.out))); replace BK105 := q0 (kb BK105.out hb); replace HB := q0 (below_step (qb HB.out) hb); clear hb ho7))
 repeat (go_quiet (first | ((with_reducible refine gate_dst (N := 3) rfl ?_); refine be 3 #[.int .i64 a0_0, .slice A0_1 l0_1.length c0_1] 31 ?_; intro gb105 hg w5 hbox hb; have BK105 := q0 (hbox); have GW105 := q0 ((bs HB.out hg : w.heap.size ≤ gb105)); have GE105 := q0 ((bs HB.out hg : w.heap.size ≤ gb105)); replace HB := q0 (below_step (qb HB.out) hb); clear hb hbox hg) | ((with_reducible refine gate_dst (N := 13) rfl ?_); refine Kd.R_lit (Kd.int .i64) _ 3 ?hg (N := 13) ?hd (xs := ([] : List Int)) (inner := []) (ok := fun _ => True) (okp := fun _ => True) ?hr ?hp (fun _ hk => hk) trivial (Below.refl _ _) (Nat.le_refl _) (by simp) ?_; (case hd => rfl); (case hg => rfl); (case hr => first | (go_simp; done) | (go_simp; rfl)); (case hp => exact (Reps.none _ _)); intro v106 w6 ho7 hb hg_ hnew_; clear hg_ hnew_; (first | rw [← Ny100.out] at ho7 | (simp only [Int.reduceToNat] at ho7; rw [← Ny100.out] at ho7)); have HO107 := q0 (Kd.R_lower ho7 (below_size (qb HB.out))); replace BK105 := q0 (kb BK105.out hb); replace HB := q0 (below_step (qb HB.out) hb); clear hb ho7)); go_upto_region 2 with (first | ((with_reducible refine gate_dst (N := 3) rfl ?_); refine be 3 #[.int .i64 a0_0, .slice A0_1 l0_1.length c0_1] 31 ?_; intro gb105 hg w5 hbox hb; have BK105 := q0 (hbox); have GW105 := q0 ((bs HB.out hg : w.heap.size ≤ gb105)); have GE105 := q0 ((bs HB.out hg : w.heap.size ≤ gb105)); replace HB := q0 (below_step (qb HB.out) hb); clear hb hbox hg) | ((with_reducible refine gate_dst (N := 13) rfl ?_); refine Kd.R_lit (Kd.int .i64) _ 3 ?hg (N := 13) ?hd (xs := ([] : List Int)) (inner := []) (ok := fun _ => True) (okp := fun _ => True) ?hr ?hp (fun _ hk => hk) trivial (Below.refl _ _) (Nat.le_refl _) (by simp) ?_; (case hd => rfl); (case hg => rfl); (case hr => first | (go_simp; done) | (go_simp; rfl)); (case hp => exact (Reps.none _ _)); intro v106 w6 ho7 hb hg_ hnew_; clear hg_ hnew_; (first | rw [← Ny100.out] at ho7 | (simp only [Int.reduceToNat] at ho7; rw [← Ny100.out] at ho7)); have HO107 := q0 (Kd.R_lower ho7 (below_size (qb HB.out))); replace BK105 := q0 (kb BK105.out hb); replace HB := q0 (below_step (qb HB.out) hb); clear hb ho7)))
 (try simp only [Act.put, List.setIfInBounds_toArray, List.set_cons_zero, List.set_cons_succ])
 go_cut [23] (fun v23 wc => ∃ (kq : Nat) (x23_3 : Bool), v23 = .bool x23_3 ∧ Aside0 (spec_WayFind.j0 kq a1 a2 y100 x23_3 a0_0 l0_1 = some (r1, r2)) ∧ Aside0 (kq ≤ k) ∧ Aside0 (Kd.R (Kd.int .i64) 3 wc w.heap.size (fun _ => True) v106 y100) ∧ Aside0 (wc.heap[gb105]? = some (.cells #[.int .i64 a0_0, (.slice A0_1 l0_1.length c0_1)] 31 (0, 0))) ∧ Aside0 (Below w.heap.size w wc))
 case first =>
   have H := HC4.out
   clear HC4
   replace H := Option.bind_eq_some_iff.mp H
   obtain ⟨t103, A80, H⟩ := H
   have A8 := Aside0.mk A80
   clear A80
   by_cases c9 : t103 = true
   rotate_left
   · replace c9 := Bool.eq_false_iff.mpr c9
     subst c9
     rw [if_neg nf] at H
     have H' := Aside0.mk H
     clear H
     have hcz15_0 : w6.cell? ⟨gb105, 0, none⟩ = some (.int .i64 a0_0) := (blk_cell BK105.out 0).trans rfl
     have hcz15_1 : w6.cell? ⟨gb105, 1, none⟩ = some (.slice A0_1 l0_1.length c0_1) := (blk_cell BK105.out 1).trans rfl
     have hfz15_0 := blk_frozen BK105.out 0
     have hfz15_1 := blk_frozen BK105.out 1
     go_wp2_with (first | (go_at_call 40; (with_reducible refine (spec_l1Knot.calls k a0_0 _ _ l0_1 a1 false _ ?side1 ?side2 A8.out).mono ?_); (case side1 => exact qc (Kd.C_below HR0_1.out HB.out)); (case side2 => exact HC0_1.out); rintro e w16 ⟨rfl, hb⟩; replace HO107 := q0 (Kd.R_below (qr HO107.out) hb); replace BK105 := q0 (kb BK105.out hb); replace HB := q0 (below_step (qb HB.out) hb); (try clear hb); (try clear hb2); (try clear hk); (try clear hi)))
     repeat (go_quiet (first | (go_at_call 40; (with_reducible refine (spec_l1Knot.calls k a0_0 _ _ l0_1 a1 false _ ?side1 ?side2 A8.out).mono ?_); (case side1 => exact qc (Kd.C_below HR0_1.out HB.out)); (case side2 => exact HC0_1.out); rintro e w16 ⟨rfl, hb⟩; replace HO107 := q0 (Kd.R_below (qr HO107.out) hb); replace BK105 := q0 (kb BK105.out hb); replace HB := q0 (below_step (qb HB.out) hb); (try clear hb); (try clear hb2); (try clear hk); (try clear hi))); try go_wp2_with (first | (go_at_call 40; (with_reducible refine (spec_l1Knot.calls k a0_0 _ _ l0_1 a1 false _ ?side1 ?side2 A8.out).mono ?_); (case side1 => exact qc (Kd.C_below HR0_1.out HB.out)); (case side2 => exact HC0_1.out); rintro e w16 ⟨rfl, hb⟩; replace HO107 := q0 (Kd.R_below (qr HO107.out) hb); replace BK105 := q0 (kb BK105.out hb); replace HB := q0 (below_step (qb HB.out) hb); (try clear hb); (try clear hb2); (try clear hk); (try clear hi))))
     go_meet
     case rel => exact ⟨_, (true), qs, H', ⟨by first | omega | exact Nat.le_refl _⟩, ⟨qr HO107.out⟩, ⟨qk BK105.out⟩, ⟨qb HB.out⟩⟩
   subst c9
   rw [if_pos rfl] at H
   replace H := Option.bind_eq_some_iff.mp H
   obtain ⟨t104, A108, H⟩ := H
   have A10 := Aside0.mk A108
   clear A108
   have H' := Aside0.mk H
   clear H
   have hcz11_0 : w6.cell? ⟨gb105, 0, none⟩ = some (.int .i64 a0_0) := (blk_cell BK105.out 0).trans rfl
   have hcz11_1 : w6.cell? ⟨gb105, 1, none⟩ = some (.slice A0_1 l0_1.length c0_1) := (blk_cell BK105.out 1).trans rfl
   have hfz11_0 := blk_frozen BK105.out 0
   have hfz11_1 := blk_frozen BK105.out 1
   go_wp2_with (first | (go_at_call 40; (with_reducible refine (spec_l1Knot.calls k a0_0 _ _ l0_1 a1 true _ ?side1 ?side2 A8.out).mono ?_); (case side1 => exact qc (Kd.C_below HR0_1.out HB.out)); (case side2 => exact HC0_1.out); rintro e w12 ⟨rfl, hb⟩; replace HO107 := q0 (Kd.R_below (qr HO107.out) hb); replace BK105 := q0 (kb BK105.out hb); replace HB := q0 (below_step (qb HB.out) hb); (try clear hb); (try clear hb2); (try clear hk); (try clear hi); have hcz13_0 : w12.cell? ⟨gb105, 0, none⟩ = some (.int .i64 a0_0) := (blk_cell BK105.out 0).trans rfl; have hcz13_1 : w12.cell? ⟨gb105, 1, none⟩ = some (.slice A0_1 l0_1.length c0_1) := (blk_cell BK105.out 1).trans rfl; have hfz13_0 := blk_frozen BK105.out 0; have hfz13_1 := blk_frozen BK105.out 1) | (go_at_call 40; (with_reducible refine (spec_l1Knot.calls k a0_0 _ _ l0_1 a2 t104 _ ?side1 ?side2 A10.out).mono ?_); (case side1 => exact qc (Kd.C_below HR0_1.out HB.out)); (case side2 => exact HC0_1.out); rintro e w14 ⟨rfl, hb⟩; replace HO107 := q0 (Kd.R_below (qr HO107.out) hb); replace BK105 := q0 (kb BK105.out hb); replace HB := q0 (below_step (qb HB.out) hb); (try clear hb); (try clear hb2); (try clear hk); (try clear hi)))
   repeat (go_quiet (first | (go_at_call 40; (with_reducible refine (spec_l1Knot.calls k a0_0 _ _ l0_1 a1 true _ ?side1 ?side2 A8.out).mono ?_); (case side1 => exact qc (Kd.C_below HR0_1.out HB.out)); (case side2 => exact HC0_1.out); rintro e w12 ⟨rfl, hb⟩; replace HO107 := q0 (Kd.R_below (qr HO107.out) hb); replace BK105 := q0 (kb BK105.out hb); replace HB := q0 (below_step (qb HB.out) hb); (try clear hb); (try clear hb2); (try clear hk); (try clear hi); have hcz13_0 : w12.cell? ⟨gb105, 0, none⟩ = some (.int .i64 a0_0) := (blk_cell BK105.out 0).trans rfl; have hcz13_1 : w12.cell? ⟨gb105, 1, none⟩ = some (.slice A0_1 l0_1.length c0_1) := (blk_cell BK105.out 1).trans rfl; have hfz13_0 := blk_frozen BK105.out 0; have hfz13_1 := blk_frozen BK105.out 1) | (go_at_call 40; (with_reducible refine (spec_l1Knot.calls k a0_0 _ _ l0_1 a2 t104 _ ?side1 ?side2 A10.out).mono ?_); (case side1 => exact qc (Kd.C_below HR0_1.out HB.out)); (case side2 => exact HC0_1.out); rintro e w14 ⟨rfl, hb⟩; replace HO107 := q0 (Kd.R_below (qr HO107.out) hb); replace BK105 := q0 (kb BK105.out hb); replace HB := q0 (below_step (qb HB.out) hb); (try clear hb); (try clear hb2); (try clear hk); (try clear hi))); try go_wp2_with (first | (go_at_call 40; (with_reducible refine (spec_l1Knot.calls k a0_0 _ _ l0_1 a1 true _ ?side1 ?side2 A8.out).mono ?_); (case side1 => exact qc (Kd.C_below HR0_1.out HB.out)); (case side2 => exact HC0_1.out); rintro e w12 ⟨rfl, hb⟩; replace HO107 := q0 (Kd.R_below (qr HO107.out) hb); replace BK105 := q0 (kb BK105.out hb); replace HB := q0 (below_step (qb HB.out) hb); (try clear hb); (try clear hb2); (try clear hk); (try clear hi); have hcz13_0 : w12.cell? ⟨gb105, 0, none⟩ = some (.int .i64 a0_0) := (blk_cell BK105.out 0).trans rfl; have hcz13_1 : w12.cell? ⟨gb105, 1, none⟩ = some (.slice A0_1 l0_1.length c0_1) := (blk_cell BK105.out 1).trans rfl; have hfz13_0 := blk_frozen BK105.out 0; have hfz13_1 := blk_frozen BK105.out 1) | (go_at_call 40; (with_reducible refine (spec_l1Knot.calls k a0_0 _ _ l0_1 a2 t104 _ ?side1 ?side2 A10.out).mono ?_); (case side1 => exact qc (Kd.C_below HR0_1.out HB.out)); (case side2 => exact HC0_1.out); rintro e w14 ⟨rfl, hb⟩; replace HO107 := q0 (Kd.R_below (qr HO107.out) hb); replace BK105 := q0 (kb BK105.out hb); replace HB := q0 (below_step (qb HB.out) hb); (try clear hb); (try clear hb2); (try clear hk); (try clear hi))))
   go_meet
   case rel => exact ⟨_, (!t104), qs, H', ⟨by first | omega | exact Nat.le_refl _⟩, ⟨qr HO107.out⟩, ⟨qk BK105.out⟩, ⟨qb HB.out⟩⟩
 clear HC4
 try clear c1
 try clear p2
 try clear c9
 try clear c14
 try clear hcz11_0
 try clear hcz11_1
 try clear hcz13_0
 try clear hcz13_1
 try clear hcz15_0
 try clear hcz15_1
 try clear hfz11_0
 try clear hfz11_1
 try clear hfz13_0
 try clear hfz13_1
 try clear hfz15_0
 try clear hfz15_1
 obtain ⟨kq, x23_3, rfl, HA, HJ3, HO_8, BK105, HB⟩ := hcut
 rcases kq with _ | kj3
 · exact absurd HA.out (by simp [spec_WayFind.j0])
 have H := HA.out
 clear HA
 simp only [spec_WayFind.j0] at H
 by_cases c17 : x23_3 = true
 · subst c17
   rw [if_pos rfl] at H
   simp only [Option.some.injEq, Prod.mk.injEq] at H
   obtain ⟨rfl, rfl⟩ := H
   go_wp2
   repeat (go_quiet (fail); try go_wp2)
   go_ret2
   exact ⟨_, qe, qr HO_8.out, qb HB.out⟩
 replace c17 := Bool.eq_false_iff.mpr c17
 subst c17
 rw [if_neg nf] at H
 replace H := Option.bind_eq_some_iff.mp H
 obtain ⟨t101, A109, H⟩ := H
 have A18 := Aside0.mk A109
 clear A109
 by_cases c19 : 0 ≤ a1
 rotate_left
 · rw [if_neg c19] at H
   exact absurd H (by simp)
 rw [if_pos c19] at H
 have c19b0 : decide (0 ≤ a1) = true := decide_eq_true c19
 clear c19
 by_cases c20 : a1 < (t101.length : Int)
 rotate_left
 · rw [if_neg c20] at H
   exact absurd H (by simp)
 rw [if_pos c20] at H
 have c20b0 : decide (a1 < (t101.length : Int)) = true := decide_eq_true c20
 clear c20
 by_cases c21 : (rd t101 a1) < 0
 · rw [if_pos c21] at H
   have c21b0 : decide ((rd t101 a1) < 0) = true := decide_eq_true c21
   clear c21
   simp only [Option.some.injEq, Prod.mk.injEq] at H
   obtain ⟨rfl, rfl⟩ := H
   have hcz22_0 : wc.cell? ⟨gb105, 0, none⟩ = some (.int .i64 a0_0) := (blk_cell BK105.out 0).trans rfl
   have hcz22_1 : wc.cell? ⟨gb105, 1, none⟩ = some (.slice A0_1 l0_1.length c0_1) := (blk_cell BK105.out 1).trans rfl
   have hfz22_0 := blk_frozen BK105.out 0
   have hfz22_1 := blk_frozen BK105.out 1
   go_wp2_with (first | (go_at_call 41; (with_reducible refine (spec_l2Far.calls kj3 a0_0 _ _ l0_1 a2 t101 _ ?side1 ?side2 A18.out).mono ?_); (case side1 => exact qc (Kd.C_below HR0_1.out HB.out)); (case side2 => exact HC0_1.out); rintro e w23 ⟨v110, rfl, ho0, hb⟩; have HO111 := q0 (Kd.R_lower (Kd.R_new' ho0 (Kd.R_lt (qr HO_8.out))) (below_size (qb HB.out))); replace HO_8 := q0 (Kd.R_elder' (qr HO_8.out) (Kd.R_base ho0) hb); replace BK105 := q0 (kb BK105.out hb); replace HB := q0 (below_step (qb HB.out) hb); (try clear hb); (try clear hb2); (try clear hk); (try clear hi); (try clear ho0); obtain ⟨Ao24, co24, eo24⟩ := Kd.R_slice HO111.out; subst eo24; have p112 : 0 ≤ (a1 : Int) := of_decide_eq_true qa; have q112 : a1 < (t101.length : Int) := of_decide_eq_true qa; obtain ⟨ad112, e112, hx112_0⟩ := Kd.at_int (Kd.R_reads' HO111.out).2.2 a1 p112 q112; cases e112; replace p112 := eq_true p112; replace q112 := eq_true q112))
   repeat (go_quiet (first | (go_at_call 41; (with_reducible refine (spec_l2Far.calls kj3 a0_0 _ _ l0_1 a2 t101 _ ?side1 ?side2 A18.out).mono ?_); (case side1 => exact qc (Kd.C_below HR0_1.out HB.out)); (case side2 => exact HC0_1.out); rintro e w23 ⟨v110, rfl, ho0, hb⟩; have HO111 := q0 (Kd.R_lower (Kd.R_new' ho0 (Kd.R_lt (qr HO_8.out))) (below_size (qb HB.out))); replace HO_8 := q0 (Kd.R_elder' (qr HO_8.out) (Kd.R_base ho0) hb); replace BK105 := q0 (kb BK105.out hb); replace HB := q0 (below_step (qb HB.out) hb); (try clear hb); (try clear hb2); (try clear hk); (try clear hi); (try clear ho0); obtain ⟨Ao24, co24, eo24⟩ := Kd.R_slice HO111.out; subst eo24; have p112 : 0 ≤ (a1 : Int) := of_decide_eq_true qa; have q112 : a1 < (t101.length : Int) := of_decide_eq_true qa; obtain ⟨ad112, e112, hx112_0⟩ := Kd.at_int (Kd.R_reads' HO111.out).2.2 a1 p112 q112; cases e112; replace p112 := eq_true p112; replace q112 := eq_true q112)); try go_wp2_with (first | (go_at_call 41; (with_reducible refine (spec_l2Far.calls kj3 a0_0 _ _ l0_1 a2 t101 _ ?side1 ?side2 A18.out).mono ?_); (case side1 => exact qc (Kd.C_below HR0_1.out HB.out)); (case side2 => exact HC0_1.out); rintro e w23 ⟨v110, rfl, ho0, hb⟩; have HO111 := q0 (Kd.R_lower (Kd.R_new' ho0 (Kd.R_lt (qr HO_8.out))) (below_size (qb HB.out))); replace HO_8 := q0 (Kd.R_elder' (qr HO_8.out) (Kd.R_base ho0) hb); replace BK105 := q0 (kb BK105.out hb); replace HB := q0 (below_step (qb HB.out) hb); (try clear hb); (try clear hb2); (try clear hk); (try clear hi); (try clear ho0); obtain ⟨Ao24, co24, eo24⟩ := Kd.R_slice HO111.out; subst eo24; have p112 : 0 ≤ (a1 : Int) := of_decide_eq_true qa; have q112 : a1 < (t101.length : Int) := of_decide_eq_true qa; obtain ⟨ad112, e112, hx112_0⟩ := Kd.at_int (Kd.R_reads' HO111.out).2.2 a1 p112 q112; cases e112; replace p112 := eq_true p112; replace q112 := eq_true q112)))
   go_ret2
   exact ⟨_, qe, by (with_reducible repeat (first | apply Kd.R_alloc | apply Kd.R_drewN | apply Kd.R_drew)); exact Kd.R_mono HO_8.out (fun _ hk => trivial), qb HB.out⟩
 rw [if_neg c21] at H
 have c21b0 : decide ((rd t101 a1) < 0) = false := decide_eq_false c21
 clear c21
 by_cases c25 : y100.length < 17592186044416
 rotate_left
 · rw [if_neg c25] at H
   exact absurd H (by simp)
 rw [if_pos c25] at H
 have LMc25 := Aside0.mk c25
 clear c25
 obtain ⟨y113, hy113⟩ : ∃ y_ : List Int, y_ = (y100 ++ [a1]) := ⟨_, rfl⟩
 replace H : (spec_WayFind.l0 kj3 a2 y113 t101 a1 a0_0 l0_1) = some (r1, r2) := qy H hy113
 have Ny113 := Aside0.mk hy113
 clear hy113
 have H' := Aside0.mk H
 clear H
 have hcz26_0 : wc.cell? ⟨gb105, 0, none⟩ = some (.int .i64 a0_0) := (blk_cell BK105.out 0).trans rfl
 have hcz26_1 : wc.cell? ⟨gb105, 1, none⟩ = some (.slice A0_1 l0_1.length c0_1) := (blk_cell BK105.out 1).trans rfl
 have hfz26_0 := blk_frozen BK105.out 0
 have hfz26_1 := blk_frozen BK105.out 1
 go_wp2_with (first | (go_at_call 41; (with_reducible refine (spec_l2Far.calls kj3 a0_0 _ _ l0_1 a2 t101 _ ?side1 ?side2 A18.out).mono ?_); (case side1 => exact qc (Kd.C_below HR0_1.out HB.out)); (case side2 => exact HC0_1.out); rintro e w27 ⟨v110, rfl, ho0, hb⟩; have HO111 := q0 (Kd.R_lower (Kd.R_new' ho0 (Kd.R_lt (qr HO_8.out))) (below_size (qb HB.out))); replace HO_8 := q0 (Kd.R_elder' (qr HO_8.out) (Kd.R_base ho0) hb); replace BK105 := q0 (kb BK105.out hb); replace HB := q0 (below_step (qb HB.out) hb); (try clear hb); (try clear hb2); (try clear hk); (try clear hi); (try clear ho0); obtain ⟨Ao28, co28, eo28⟩ := Kd.R_slice HO111.out; subst eo28; have p112 : 0 ≤ (a1 : Int) := of_decide_eq_true qa; have q112 : a1 < (t101.length : Int) := of_decide_eq_true qa; obtain ⟨ad112, e112, hx112_0⟩ := Kd.at_int (Kd.R_reads' HO111.out).2.2 a1 p112 q112; cases e112; replace p112 := eq_true p112; replace q112 := eq_true q112) | ((with_reducible refine gate_builtin (b := .append) (xs := #[.tmp 34, .tmp 36]) rfl ?_); at_builtin; refine Kd.R_append (Kd.int .i64) (w0 := w) w.heap.size rfl (.tmp 34) (.tmp 36) 26 3 (.int .i64 0) 8 rfl Try.underlying26 info3 rfl (by decide) (by omega) v106 y100 a1 [.int .i64 a1] (fun k_ => some k_ ≠ (.slice (some ad112) t101.length co28 : Value).ownBlock) (fun _ => False) rfl rfl ?aP (fun _ hk => hk.elim) ?aF ?aO ?aB ?aS ?aL ?_; (case aP => exact rfl); (case aB => exact (qb HB.out)); (case aF => exact (fun k_ hk => Kd.fresh' (Kd.R_lt (qr HO111.out)) k_ hk)); (case aO => exact (by (with_reducible repeat (first | apply Kd.R_alloc | apply Kd.R_drewN | apply Kd.R_drew)); exact Kd.R_mono HO_8.out (fun _ hk => hk.2))); (case aS => exact (below_size (qb HB.out))); (case aL => have := LMc25.out; omega); intro v114 w29 ho hb hg hat; rw [← Ny113.out] at ho; replace BK105 := q0 (blk_grown (g := gb105) (o := .cells #[.int .i64 a0_0, .slice A0_1 l0_1.length c0_1] 31 (0, 0)) (qk BK105.out) hg (Kd.R_ne HO_8.out BK105.out (by decide))); replace HO111 := q0 (Kd.R_after (ok := (fun _ => True)) (qr HO111.out) hg hat); replace HB := q0 (hb); have HO115 := q0 (ho); clear HO_8; clear ho hb hg hat))
 repeat (go_quiet (first | (go_at_call 41; (with_reducible refine (spec_l2Far.calls kj3 a0_0 _ _ l0_1 a2 t101 _ ?side1 ?side2 A18.out).mono ?_); (case side1 => exact qc (Kd.C_below HR0_1.out HB.out)); (case side2 => exact HC0_1.out); rintro e w27 ⟨v110, rfl, ho0, hb⟩; have HO111 := q0 (Kd.R_lower (Kd.R_new' ho0 (Kd.R_lt (qr HO_8.out))) (below_size (qb HB.out))); replace HO_8 := q0 (Kd.R_elder' (qr HO_8.out) (Kd.R_base ho0) hb); replace BK105 := q0 (kb BK105.out hb); replace HB := q0 (below_step (qb HB.out) hb); (try clear hb); (try clear hb2); (try clear hk); (try clear hi); (try clear ho0); obtain ⟨Ao28, co28, eo28⟩ := Kd.R_slice HO111.out; subst eo28; have p112 : 0 ≤ (a1 : Int) := of_decide_eq_true qa; have q112 : a1 < (t101.length : Int) := of_decide_eq_true qa; obtain ⟨ad112, e112, hx112_0⟩ := Kd.at_int (Kd.R_reads' HO111.out).2.2 a1 p112 q112; cases e112; replace p112 := eq_true p112; replace q112 := eq_true q112) | ((with_reducible refine gate_builtin (b := .append) (xs := #[.tmp 34, .tmp 36]) rfl ?_); at_builtin; refine Kd.R_append (Kd.int .i64) (w0 := w) w.heap.size rfl (.tmp 34) (.tmp 36) 26 3 (.int .i64 0) 8 rfl Try.underlying26 info3 rfl (by decide) (by omega) v106 y100 a1 [.int .i64 a1] (fun k_ => some k_ ≠ (.slice (some ad112) t101.length co28 : Value).ownBlock) (fun _ => False) rfl rfl ?aP (fun _ hk => hk.elim) ?aF ?aO ?aB ?aS ?aL ?_; (case aP => exact rfl); (case aB => exact (qb HB.out)); (case aF => exact (fun k_ hk => Kd.fresh' (Kd.R_lt (qr HO111.out)) k_ hk)); (case aO => exact (by (with_reducible repeat (first | apply Kd.R_alloc | apply Kd.R_drewN | apply Kd.R_drew)); exact Kd.R_mono HO_8.out (fun _ hk => hk.2))); (case aS => exact (below_size (qb HB.out))); (case aL => have := LMc25.out; omega); intro v114 w29 ho hb hg hat; rw [← Ny113.out] at ho; replace BK105 := q0 (blk_grown (g := gb105) (o := .cells #[.int .i64 a0_0, .slice A0_1 l0_1.length c0_1] 31 (0, 0)) (qk BK105.out) hg (Kd.R_ne HO_8.out BK105.out (by decide))); replace HO111 := q0 (Kd.R_after (ok := (fun _ => True)) (qr HO111.out) hg hat); replace HB := q0 (hb); have HO115 := q0 (ho); clear HO_8; clear ho hb hg hat)); try go_wp2_with (first | (go_at_call 41; (with_reducible refine (spec_l2Far.calls kj3 a0_0 _ _ l0_1 a2 t101 _ ?side1 ?side2 A18.out).mono ?_); (case side1 => exact qc (Kd.C_below HR0_1.out HB.out)); (case side2 => exact HC0_1.out); rintro e w27 ⟨v110, rfl, ho0, hb⟩; have HO111 := q0 (Kd.R_lower (Kd.R_new' ho0 (Kd.R_lt (qr HO_8.out))) (below_size (qb HB.out))); replace HO_8 := q0 (Kd.R_elder' (qr HO_8.out) (Kd.R_base ho0) hb); replace BK105 := q0 (kb BK105.out hb); replace HB := q0 (below_step (qb HB.out) hb); (try clear hb); (try clear hb2); (try clear hk); (try clear hi); (try clear ho0); obtain ⟨Ao28, co28, eo28⟩ := Kd.R_slice HO111.out; subst eo28; have p112 : 0 ≤ (a1 : Int) := of_decide_eq_true qa; have q112 : a1 < (t101.length : Int) := of_decide_eq_true qa; obtain ⟨ad112, e112, hx112_0⟩ := Kd.at_int (Kd.R_reads' HO111.out).2.2 a1 p112 q112; cases e112; replace p112 := eq_true p112; replace q112 := eq_true q112) | ((with_reducible refine gate_builtin (b := .append) (xs := #[.tmp 34, .tmp 36]) rfl ?_); at_builtin; refine Kd.R_append (Kd.int .i64) (w0 := w) w.heap.size rfl (.tmp 34) (.tmp 36) 26 3 (.int .i64 0) 8 rfl Try.underlying26 info3 rfl (by decide) (by omega) v106 y100 a1 [.int .i64 a1] (fun k_ => some k_ ≠ (.slice (some ad112) t101.length co28 : Value).ownBlock) (fun _ => False) rfl rfl ?aP (fun _ hk => hk.elim) ?aF ?aO ?aB ?aS ?aL ?_; (case aP => exact rfl); (case aB => exact (qb HB.out)); (case aF => exact (fun k_ hk => Kd.fresh' (Kd.R_lt (qr HO111.out)) k_ hk)); (case aO => exact (by (with_reducible repeat (first | apply Kd.R_alloc | apply Kd.R_drewN | apply Kd.R_drew)); exact Kd.R_mono HO_8.out (fun _ hk => hk.2))); (case aS => exact (below_size (qb HB.out))); (case aL => have := LMc25.out; omega); intro v114 w29 ho hb hg hat; rw [← Ny113.out] at ho; replace BK105 := q0 (blk_grown (g := gb105) (o := .cells #[.int .i64 a0_0, .slice A0_1 l0_1.length c0_1] 31 (0, 0)) (qk BK105.out) hg (Kd.R_ne HO_8.out BK105.out (by decide))); replace HO111 := q0 (Kd.R_after (ok := (fun _ => True)) (qr HO111.out) hg hat); replace HB := q0 (hb); have HO115 := q0 (ho); clear HO_8; clear ho hb hg hat)))
 go_loopg [8, 10] kj3 (fun kq v8 v10 w' => ∃ (x8_2 : List Int) (x10_2 : Int), v10 = .int .i64 x10_2 ∧ Aside0 (spec_WayFind.l0 kq a2 x8_2 t101 x10_2 a0_0 l0_1 = some (r1, r2)) ∧ Aside0 (kq ≤ kj3) ∧ Aside0 (Kd.R (Kd.int .i64) 3 w' w.heap.size (fun k_ => some k_ ≠ ((.slice (some ad112) t101.length co28) : Value).ownBlock) v8 x8_2) ∧ Aside0 (Kd.R (Kd.int .i64) 3 w' w.heap.size (fun k_ => some k_ ≠ (v8 : Value).ownBlock) (.slice (some ad112) t101.length co28) t101) ∧ Aside0 (w'.heap[gb105]? = some (.cells #[.int .i64 a0_0, (.slice A0_1 l0_1.length c0_1)] 31 (0, 0))) ∧ Aside0 (Below w.heap.size w w'))
 case atStart => exact ⟨(y113), (a1), qs, H', ⟨Nat.le_refl _⟩, ⟨qr HO115.out⟩, ⟨by (with_reducible repeat (first | apply Kd.R_alloc | apply Kd.R_drewN | apply Kd.R_drew)); exact Kd.R_mono HO111.out (fun _ hk => hk.2)⟩, ⟨qk BK105.out⟩, ⟨qb HB.out⟩⟩
 clear H'
 try clear c1
 try clear p1
 try clear q1
 try clear hx1
 try clear c2
 try clear p2
 try clear c9
 try clear c14
 try clear p16
 try clear q16
 try clear hx16
 try clear c17
 try clear c19
 try clear c19b0
 try clear c20
 try clear c20b0
 try clear c21
 try clear c21b0
 try clear c25
 try clear hcz11_0
 try clear hcz11_1
 try clear hcz13_0
 try clear hcz13_1
 try clear hcz15_0
 try clear hcz15_1
 try clear hcz22_0
 try clear hcz22_1
 try clear hcz26_0
 try clear hcz26_1
 try clear hfz11_0
 try clear hfz11_1
 try clear hfz13_0
 try clear hfz13_1
 try clear hfz15_0
 try clear hfz15_1
 try clear hfz22_0
 try clear hfz22_1
 try clear hfz26_0
 try clear hfz26_1
 try clear hx112_0
 try clear p112
 try clear p2
 try clear q112
 obtain ⟨x8_2, x10_2, rfl, HA, HK2, HO_8, HO_9, BK105, HB⟩ := hrel
 rcases gk with _ | k2
 · exact absurd HA.out (by simp [spec_WayFind.l0])
 have H := HA.out
 clear HA
 simp only [spec_WayFind.l0] at H
 by_cases c30 : x10_2 = a2
 · rw [if_pos c30] at H
   have c30b0 : (x10_2 == a2) = true := beq_iff_eq.mpr c30
   have c30b1 : (x10_2 != a2) = false := bne_eq_false_iff_eq.mpr c30
   clear c30
   simp only [Option.some.injEq, Prod.mk.injEq] at H
   obtain ⟨rfl, rfl⟩ := H
   go_wp2
   repeat (go_quiet (fail); try go_wp2)
   go_ret2
   exact ⟨_, qe, by (with_reducible repeat (first | apply Kd.R_alloc | apply Kd.R_drewN | apply Kd.R_drew)); exact Kd.R_mono HO_8.out (fun _ hk => trivial), qb HB.out⟩
 rw [if_neg c30] at H
 have c30b0 : (x10_2 == a2) = false := beq_eq_false_iff_ne.mpr c30
 have c30b1 : (x10_2 != a2) = true := bne_iff_ne.mpr c30
 replace H := Option.bind_eq_some_iff.mp H
 obtain ⟨t102, A116, H⟩ := H
 have A31 := Aside0.mk A116
 clear A116
 have H' := Aside0.mk H
 clear H
 have hcz32_0 : wr.cell? ⟨gb105, 0, none⟩ = some (.int .i64 a0_0) := (blk_cell BK105.out 0).trans rfl
 have hcz32_1 : wr.cell? ⟨gb105, 1, none⟩ = some (.slice A0_1 l0_1.length c0_1) := (blk_cell BK105.out 1).trans rfl
 have hfz32_0 := blk_frozen BK105.out 0
 have hfz32_1 := blk_frozen BK105.out 1
 go_wp2_with (first | (go_at_call 42; (with_reducible refine (spec_l2Next.calls k2 a0_0 _ _ l0_1 x10_2 t102 _ ?side1 ?side2 A31.out).mono ?_); (case side1 => exact qc (Kd.C_below HR0_1.out HB.out)); (case side2 => exact HC0_1.out); rintro e w33 ⟨v117, rfl, ho0, hb⟩; have HO118 := q0 (Kd.R_lower (Kd.R_new' (Kd.R_new' ho0 (Kd.R_lt (qr HO_8.out))) (Kd.R_lt (qr HO_9.out))) (below_size (qb HB.out))); replace HO_8 := q0 (Kd.R_elder' (qr HO_8.out) (Kd.R_base ho0) hb); replace HO_9 := q0 (Kd.R_elder' (qr HO_9.out) (Kd.R_base ho0) hb); replace BK105 := q0 (kb BK105.out hb); replace HB := q0 (below_step (qb HB.out) hb); (try clear hb); (try clear hb2); (try clear hk); (try clear hi); (try clear ho0)))
 repeat (go_quiet (first | (go_at_call 42; (with_reducible refine (spec_l2Next.calls k2 a0_0 _ _ l0_1 x10_2 t102 _ ?side1 ?side2 A31.out).mono ?_); (case side1 => exact qc (Kd.C_below HR0_1.out HB.out)); (case side2 => exact HC0_1.out); rintro e w33 ⟨v117, rfl, ho0, hb⟩; have HO118 := q0 (Kd.R_lower (Kd.R_new' (Kd.R_new' ho0 (Kd.R_lt (qr HO_8.out))) (Kd.R_lt (qr HO_9.out))) (below_size (qb HB.out))); replace HO_8 := q0 (Kd.R_elder' (qr HO_8.out) (Kd.R_base ho0) hb); replace HO_9 := q0 (Kd.R_elder' (qr HO_9.out) (Kd.R_base ho0) hb); replace BK105 := q0 (kb BK105.out hb); replace HB := q0 (below_step (qb HB.out) hb); (try clear hb); (try clear hb2); (try clear hk); (try clear hi); (try clear ho0))); try go_wp2_with (first | (go_at_call 42; (with_reducible refine (spec_l2Next.calls k2 a0_0 _ _ l0_1 x10_2 t102 _ ?side1 ?side2 A31.out).mono ?_); (case side1 => exact qc (Kd.C_below HR0_1.out HB.out)); (case side2 => exact HC0_1.out); rintro e w33 ⟨v117, rfl, ho0, hb⟩; have HO118 := q0 (Kd.R_lower (Kd.R_new' (Kd.R_new' ho0 (Kd.R_lt (qr HO_8.out))) (Kd.R_lt (qr HO_9.out))) (below_size (qb HB.out))); replace HO_8 := q0 (Kd.R_elder' (qr HO_8.out) (Kd.R_base ho0) hb); replace HO_9 := q0 (Kd.R_elder' (qr HO_9.out) (Kd.R_base ho0) hb); replace BK105 := q0 (kb BK105.out hb); replace HB := q0 (below_step (qb HB.out) hb); (try clear hb); (try clear hb2); (try clear hk); (try clear hi); (try clear ho0))))
 go_loopg [10, 12] k2 (fun kq v10 v12 w' => ∃ (x10_3 : Int) (x12_3 : Int), v10 = .int .i64 x10_3 ∧ v12 = .int .i64 x12_3 ∧ Aside0 (spec_WayFind.l1 kq a2 x8_2 t101 x10_3 t102 x12_3 a0_0 l0_1 = some (r1, r2)) ∧ Aside0 (kq ≤ k2) ∧ Aside0 (Kd.R (Kd.int .i64) 3 w' w.heap.size (fun k_ => some k_ ≠ ((.slice (some ad112) t101.length co28) : Value).ownBlock ∧ some k_ ≠ (v117 : Value).ownBlock) u8 x8_2) ∧ Aside0 (Kd.R (Kd.int .i64) 3 w' w.heap.size (fun k_ => some k_ ≠ (u8 : Value).ownBlock ∧ some k_ ≠ (v117 : Value).ownBlock) (.slice (some ad112) t101.length co28) t101) ∧ Aside0 (Kd.R (Kd.int .i64) 3 w' w.heap.size (fun k_ => some k_ ≠ (u8 : Value).ownBlock ∧ some k_ ≠ ((.slice (some ad112) t101.length co28) : Value).ownBlock) v117 t102) ∧ Aside0 (w'.heap[gb105]? = some (.cells #[.int .i64 a0_0, (.slice A0_1 l0_1.length c0_1)] 31 (0, 0))) ∧ Aside0 (Below w.heap.size w w'))
 case atStart => exact ⟨(x10_2), (0), qs, qs, H', ⟨Nat.le_refl _⟩, ⟨qr HO_8.out⟩, ⟨qr HO_9.out⟩, ⟨by (with_reducible repeat (first | apply Kd.R_alloc | apply Kd.R_drewN | apply Kd.R_drew)); exact Kd.R_mono HO118.out (fun _ hk => ⟨hk.1.2, hk.2⟩)⟩, ⟨qk BK105.out⟩, ⟨qb HB.out⟩⟩
 clear H'
 try clear c1
 try clear p1
 try clear q1
 try clear hx1
 try clear c2
 try clear p2
 try clear c3
 try clear c9
 try clear c14
 try clear p16
 try clear q16
 try clear hx16
 try clear c17
 try clear c19
 try clear c19b0
 try clear c20
 try clear c20b0
 try clear c21
 try clear c21b0
 try clear c25
 try clear c30
 try clear c30b0
 try clear c30b1
 try clear hcz11_0
 try clear hcz11_1
 try clear hcz13_0
 try clear hcz13_1
 try clear hcz15_0
 try clear hcz15_1
 try clear hcz22_0
 try clear hcz22_1
 try clear hcz26_0
 try clear hcz26_1
 try clear hcz32_0
 try clear hcz32_1
 try clear hfz11_0
 try clear hfz11_1
 try clear hfz13_0
 try clear hfz13_1
 try clear hfz15_0
 try clear hfz15_1
 try clear hfz22_0
 try clear hfz22_1
 try clear hfz26_0
 try clear hfz26_1
 try clear hfz32_0
 try clear hfz32_1
 try clear hx112_0
 try clear p1
 try clear p16
 try clear p112
 try clear p2
 try clear q1
 try clear q16
 try clear q112
 obtain ⟨x10_3, x12_3, rfl, rfl, HA, HK3, HO_8, HO_9, HO_11, BK105, HB⟩ := hrel
 rcases gk with _ | k3
 · exact absurd HA.out (by simp [spec_WayFind.l1])
 have H := HA.out
 clear HA
 simp only [spec_WayFind.l1] at H
 by_cases c34 : x12_3 < (t102.length : Int)
 rotate_left
 · rw [if_neg c34] at H
   have c34b0 : decide (x12_3 < (t102.length : Int)) = false := decide_eq_false c34
   clear c34
   by_cases c45 : x8_2.length < 17592186044416
   rotate_left
   · rw [if_neg c45] at H
     exact absurd H (by simp)
   rw [if_pos c45] at H
   have LMc45 := Aside0.mk c45
   clear c45
   obtain ⟨y126, hy126⟩ : ∃ y_ : List Int, y_ = (x8_2 ++ [x10_3]) := ⟨_, rfl⟩
   replace H : (spec_WayFind.l0 k3 a2 y126 t101 x10_3 a0_0 l0_1) = some (r1, r2) := qy H hy126
   have Ny126 := Aside0.mk hy126
   clear hy126
   have H' := Aside0.mk H
   clear H
   obtain ⟨Ao46, co46, eo46⟩ := Kd.R_slice HO_11.out
   subst eo46
   go_wp2_with (first | ((with_reducible refine gate_builtin (b := .append) (xs := #[.tmp 68, .tmp 70]) rfl ?_); at_builtin; refine Kd.R_append (Kd.int .i64) (w0 := w) w.heap.size rfl (.tmp 68) (.tmp 70) 26 3 (.int .i64 0) 8 rfl Try.underlying26 info3 rfl (by decide) (by omega) u8 x8_2 x10_3 [.int .i64 x10_3] (fun k_ => some k_ ≠ (.slice (some ad112) t101.length co28 : Value).ownBlock ∧ some k_ ≠ (.slice Ao46 t102.length co46 : Value).ownBlock) (fun _ => False) rfl rfl ?aP (fun _ hk => hk.elim) ?aF ?aO ?aB ?aS ?aL ?_; (case aP => exact rfl); (case aB => exact (qb HB.out)); (case aF => exact (fun k_ hk => ⟨Kd.fresh' (Kd.R_lt (qr HO_9.out)) k_ hk, Kd.fresh' (Kd.R_lt (qr HO_11.out)) k_ hk⟩)); (case aO => exact (qr HO_8.out)); (case aS => exact (below_size (qb HB.out))); (case aL => have := LMc45.out; omega); intro v109 w47 ho hb hg hat; rw [← Ny126.out] at ho; replace HO_9 := q0 (Kd.R_after (ok := (fun k_ => some k_ ≠ (.slice Ao46 t102.length co46 : Value).ownBlock)) (by (with_reducible repeat (first | apply Kd.R_alloc | apply Kd.R_drewN | apply Kd.R_drew)); exact Kd.R_mono HO_9.out (fun _ hk => ⟨hk.2, hk.1⟩)) hg hat); replace HO_11 := q0 (Kd.R_after (ok := (fun k_ => some k_ ≠ (.slice (some ad112) t101.length co28 : Value).ownBlock)) (by (with_reducible repeat (first | apply Kd.R_alloc | apply Kd.R_drewN | apply Kd.R_drew)); exact Kd.R_mono HO_11.out (fun _ hk => ⟨hk.2, hk.1⟩)) hg hat); replace BK105 := q0 (blk_grown (g := gb105) (o := .cells #[.int .i64 a0_0, .slice A0_1 l0_1.length c0_1] 31 (0, 0)) (qk BK105.out) hg (Kd.R_ne HO_8.out BK105.out (by decide))); replace HB := q0 (hb); have HO127 := q0 (ho); clear HO_8; clear ho hb hg hat))
   repeat (go_quiet (first | ((with_reducible refine gate_builtin (b := .append) (xs := #[.tmp 68, .tmp 70]) rfl ?_); at_builtin; refine Kd.R_append (Kd.int .i64) (w0 := w) w.heap.size rfl (.tmp 68) (.tmp 70) 26 3 (.int .i64 0) 8 rfl Try.underlying26 info3 rfl (by decide) (by omega) u8 x8_2 x10_3 [.int .i64 x10_3] (fun k_ => some k_ ≠ (.slice (some ad112) t101.length co28 : Value).ownBlock ∧ some k_ ≠ (.slice Ao46 t102.length co46 : Value).ownBlock) (fun _ => False) rfl rfl ?aP (fun _ hk => hk.elim) ?aF ?aO ?aB ?aS ?aL ?_; (case aP => exact rfl); (case aB => exact (qb HB.out)); (case aF => exact (fun k_ hk => ⟨Kd.fresh' (Kd.R_lt (qr HO_9.out)) k_ hk, Kd.fresh' (Kd.R_lt (qr HO_11.out)) k_ hk⟩)); (case aO => exact (qr HO_8.out)); (case aS => exact (below_size (qb HB.out))); (case aL => have := LMc45.out; omega); intro v109 w47 ho hb hg hat; rw [← Ny126.out] at ho; replace HO_9 := q0 (Kd.R_after (ok := (fun k_ => some k_ ≠ (.slice Ao46 t102.length co46 : Value).ownBlock)) (by (with_reducible repeat (first | apply Kd.R_alloc | apply Kd.R_drewN | apply Kd.R_drew)); exact Kd.R_mono HO_9.out (fun _ hk => ⟨hk.2, hk.1⟩)) hg hat); replace HO_11 := q0 (Kd.R_after (ok := (fun k_ => some k_ ≠ (.slice (some ad112) t101.length co28 : Value).ownBlock)) (by (with_reducible repeat (first | apply Kd.R_alloc | apply Kd.R_drewN | apply Kd.R_drew)); exact Kd.R_mono HO_11.out (fun _ hk => ⟨hk.2, hk.1⟩)) hg hat); replace BK105 := q0 (blk_grown (g := gb105) (o := .cells #[.int .i64 a0_0, .slice A0_1 l0_1.length c0_1] 31 (0, 0)) (qk BK105.out) hg (Kd.R_ne HO_8.out BK105.out (by decide))); replace HB := q0 (hb); have HO127 := q0 (ho); clear HO_8; clear ho hb hg hat)); try go_wp2_with (first | ((with_reducible refine gate_builtin (b := .append) (xs := #[.tmp 68, .tmp 70]) rfl ?_); at_builtin; refine Kd.R_append (Kd.int .i64) (w0 := w) w.heap.size rfl (.tmp 68) (.tmp 70) 26 3 (.int .i64 0) 8 rfl Try.underlying26 info3 rfl (by decide) (by omega) u8 x8_2 x10_3 [.int .i64 x10_3] (fun k_ => some k_ ≠ (.slice (some ad112) t101.length co28 : Value).ownBlock ∧ some k_ ≠ (.slice Ao46 t102.length co46 : Value).ownBlock) (fun _ => False) rfl rfl ?aP (fun _ hk => hk.elim) ?aF ?aO ?aB ?aS ?aL ?_; (case aP => exact rfl); (case aB => exact (qb HB.out)); (case aF => exact (fun k_ hk => ⟨Kd.fresh' (Kd.R_lt (qr HO_9.out)) k_ hk, Kd.fresh' (Kd.R_lt (qr HO_11.out)) k_ hk⟩)); (case aO => exact (qr HO_8.out)); (case aS => exact (below_size (qb HB.out))); (case aL => have := LMc45.out; omega); intro v109 w47 ho hb hg hat; rw [← Ny126.out] at ho; replace HO_9 := q0 (Kd.R_after (ok := (fun k_ => some k_ ≠ (.slice Ao46 t102.length co46 : Value).ownBlock)) (by (with_reducible repeat (first | apply Kd.R_alloc | apply Kd.R_drewN | apply Kd.R_drew)); exact Kd.R_mono HO_9.out (fun _ hk => ⟨hk.2, hk.1⟩)) hg hat); replace HO_11 := q0 (Kd.R_after (ok := (fun k_ => some k_ ≠ (.slice (some ad112) t101.length co28 : Value).ownBlock)) (by (with_reducible repeat (first | apply Kd.R_alloc | apply Kd.R_drewN | apply Kd.R_drew)); exact Kd.R_mono HO_11.out (fun _ hk => ⟨hk.2, hk.1⟩)) hg hat); replace BK105 := q0 (blk_grown (g := gb105) (o := .cells #[.int .i64 a0_0, .slice A0_1 l0_1.length c0_1] 31 (0, 0)) (qk BK105.out) hg (Kd.R_ne HO_8.out BK105.out (by decide))); replace HB := q0 (hb); have HO127 := q0 (ho); clear HO_8; clear ho hb hg hat)))
   go_roundg k3
   case measure => have := HJ3.out; have := HK2.out; have := HK3.out; omega
   case rel => exact ⟨(y126), (x10_3), qs, H', ⟨by have := HJ3.out; have := HK2.out; have := HK3.out; omega⟩, ⟨by (with_reducible repeat (first | apply Kd.R_alloc | apply Kd.R_drewN | apply Kd.R_drew)); exact Kd.R_mono HO127.out (fun _ hk => hk.1)⟩, ⟨by (with_reducible repeat (first | apply Kd.R_alloc | apply Kd.R_drewN | apply Kd.R_drew)); exact Kd.R_mono HO_9.out (fun _ hk => hk.2)⟩, ⟨qk BK105.out⟩, ⟨qb HB.out⟩⟩
 rw [if_pos c34] at H
 have c34b0 : decide (x12_3 < (t102.length : Int)) = true := decide_eq_true c34
 clear c34
 by_cases c35 : 0 ≤ x12_3
 rotate_left
 · rw [if_neg c35] at H
   exact absurd H (by simp)
 rw [if_pos c35] at H
 have c35b0 : decide (0 ≤ x12_3) = true := decide_eq_true c35
 clear c35
 by_cases c36 : 0 ≤ (rd t102 x12_3)
 rotate_left
 · rw [if_neg c36] at H
   exact absurd H (by simp)
 rw [if_pos c36] at H
 have c36b0 : decide (0 ≤ (rd t102 x12_3)) = true := decide_eq_true c36
 clear c36
 by_cases c37 : (rd t102 x12_3) < (t101.length : Int)
 rotate_left
 · rw [if_neg c37] at H
   exact absurd H (by simp)
 rw [if_pos c37] at H
 have c37b0 : decide ((rd t102 x12_3) < (t101.length : Int)) = true := decide_eq_true c37
 clear c37
 by_cases c38 : 0 ≤ x10_3
 rotate_left
 · rw [if_neg c38] at H
   exact absurd H (by simp)
 rw [if_pos c38] at H
 have c38b0 : decide (0 ≤ x10_3) = true := decide_eq_true c38
 clear c38
 by_cases c39 : x10_3 < (t101.length : Int)
 rotate_left
 · rw [if_neg c39] at H
   exact absurd H (by simp)
 rw [if_pos c39] at H
 have c39b0 : decide (x10_3 < (t101.length : Int)) = true := decide_eq_true c39
 clear c39
 by_cases c40 : (rd t101 (rd t102 x12_3)) = (wrap64 ((rd t101 x10_3) - 1))
 rotate_left
 · rw [if_neg c40] at H
   have c40b0 : ((rd t101 (rd t102 x12_3)) == (wrap64 ((rd t101 x10_3) - 1))) = false := beq_eq_false_iff_ne.mpr c40
   have c40b1 : ((rd t101 (rd t102 x12_3)) != (wrap64 ((rd t101 x10_3) - 1))) = true := bne_iff_ne.mpr c40
   have H' := Aside0.mk H
   clear H
   obtain ⟨Ao44, co44, eo44⟩ := Kd.R_slice HO_11.out
   subst eo44
   have p120 : 0 ≤ (x12_3 : Int) := of_decide_eq_true qa
   have q120 : x12_3 < (t102.length : Int) := of_decide_eq_true qa
   obtain ⟨ad120, e120, hx120_0⟩ := Kd.at_int (Kd.R_reads' HO_11.out).2.2 x12_3 p120 q120
   cases e120
   replace p120 := eq_true p120
   replace q120 := eq_true q120
   have p121 : 0 ≤ ((rd t102 x12_3) : Int) := of_decide_eq_true qa
   have q121 : (rd t102 x12_3) < (t101.length : Int) := of_decide_eq_true qa
   obtain ⟨ad121, e121, hx121_0⟩ := Kd.at_int (Kd.R_reads' HO_9.out).2.2 (rd t102 x12_3) p121 q121
   obtain rfl : ad112 = ad121 := (by injection e121)
   replace p121 := eq_true p121
   replace q121 := eq_true q121
   have p122 : 0 ≤ (x10_3 : Int) := of_decide_eq_true qa
   have q122 : x10_3 < (t101.length : Int) := of_decide_eq_true qa
   obtain ⟨ad122, e122, hx122_0⟩ := Kd.at_int (Kd.R_reads' HO_9.out).2.2 x10_3 p122 q122
   obtain rfl : ad112 = ad122 := (by injection e122)
   replace p122 := eq_true p122
   replace q122 := eq_true q122
   go_wp2
   repeat (go_quiet (fail); try go_wp2)
   go_roundg k3
   case measure => have := HJ3.out; have := HK2.out; have := HK3.out; omega
   case rel => exact ⟨(x10_3), (wrap64 (x12_3 + 1)), qs, qs, H', ⟨by have := HJ3.out; have := HK2.out; have := HK3.out; omega⟩, ⟨qr HO_8.out⟩, ⟨qr HO_9.out⟩, ⟨qr HO_11.out⟩, ⟨qk BK105.out⟩, ⟨qb HB.out⟩⟩
 rw [if_pos c40] at H
 have c40b0 : ((rd t101 (rd t102 x12_3)) == (wrap64 ((rd t101 x10_3) - 1))) = true := beq_iff_eq.mpr c40
 have c40b1 : ((rd t101 (rd t102 x12_3)) != (wrap64 ((rd t101 x10_3) - 1))) = false := bne_eq_false_iff_eq.mpr c40
 clear c40
 by_cases c41 : x8_2.length < 17592186044416
 rotate_left
 · rw [if_neg c41] at H
   exact absurd H (by simp)
 rw [if_pos c41] at H
 have LMc41 := Aside0.mk c41
 clear c41
 obtain ⟨y119, hy119⟩ : ∃ y_ : List Int, y_ = (x8_2 ++ [rd t102 x12_3]) := ⟨_, rfl⟩
 replace H : (spec_WayFind.l0 k3 a2 y119 t101 (rd t102 x12_3) a0_0 l0_1) = some (r1, r2) := qy H hy119
 have Ny119 := Aside0.mk hy119
 clear hy119
 have H' := Aside0.mk H
 clear H
 obtain ⟨Ao42, co42, eo42⟩ := Kd.R_slice HO_11.out
 subst eo42
 have p120 : 0 ≤ (x12_3 : Int) := of_decide_eq_true qa
 have q120 : x12_3 < (t102.length : Int) := of_decide_eq_true qa
 obtain ⟨ad120, e120, hx120_0⟩ := Kd.at_int (Kd.R_reads' HO_11.out).2.2 x12_3 p120 q120
 cases e120
 replace p120 := eq_true p120
 replace q120 := eq_true q120
 have p121 : 0 ≤ ((rd t102 x12_3) : Int) := of_decide_eq_true qa
 have q121 : (rd t102 x12_3) < (t101.length : Int) := of_decide_eq_true qa
 obtain ⟨ad121, e121, hx121_0⟩ := Kd.at_int (Kd.R_reads' HO_9.out).2.2 (rd t102 x12_3) p121 q121
 obtain rfl : ad112 = ad121 := (by injection e121)
 replace p121 := eq_true p121
 replace q121 := eq_true q121
 have p122 : 0 ≤ (x10_3 : Int) := of_decide_eq_true qa
 have q122 : x10_3 < (t101.length : Int) := of_decide_eq_true qa
 obtain ⟨ad122, e122, hx122_0⟩ := Kd.at_int (Kd.R_reads' HO_9.out).2.2 x10_3 p122 q122
 obtain rfl : ad112 = ad122 := (by injection e122)
 replace p122 := eq_true p122
 replace q122 := eq_true q122
 have p123 : 0 ≤ (x12_3 : Int) := of_decide_eq_true qa
 have q123 : x12_3 < (t102.length : Int) := of_decide_eq_true qa
 obtain ⟨ad123, e123, hx123_0⟩ := Kd.at_int (Kd.R_reads' HO_11.out).2.2 x12_3 p123 q123
 obtain rfl : ad120 = ad123 := (by injection e123)
 replace p123 := eq_true p123
 replace q123 := eq_true q123
 go_wp2_with (first | ((with_reducible refine gate_builtin (b := .append) (xs := #[.tmp 68, .tmp 70]) rfl ?_); at_builtin; refine Kd.R_append (Kd.int .i64) (w0 := w) w.heap.size rfl (.tmp 68) (.tmp 70) 26 3 (.int .i64 0) 8 rfl Try.underlying26 info3 rfl (by decide) (by omega) u8 x8_2 (rd t102 x12_3) [.int .i64 (rd t102 x12_3)] (fun k_ => some k_ ≠ (.slice (some ad112) t101.length co28 : Value).ownBlock ∧ some k_ ≠ (.slice (some ad120) t102.length co42 : Value).ownBlock) (fun _ => False) rfl rfl ?aP (fun _ hk => hk.elim) ?aF ?aO ?aB ?aS ?aL ?_; (case aP => exact rfl); (case aB => exact (qb HB.out)); (case aF => exact (fun k_ hk => ⟨Kd.fresh' (Kd.R_lt (qr HO_9.out)) k_ hk, Kd.fresh' (Kd.R_lt (qr HO_11.out)) k_ hk⟩)); (case aO => exact (qr HO_8.out)); (case aS => exact (below_size (qb HB.out))); (case aL => have := LMc41.out; omega); intro v124 w43 ho hb hg hat; rw [← Ny119.out] at ho; replace HO_9 := q0 (Kd.R_after (ok := (fun k_ => some k_ ≠ (.slice (some ad120) t102.length co42 : Value).ownBlock)) (by (with_reducible repeat (first | apply Kd.R_alloc | apply Kd.R_drewN | apply Kd.R_drew)); exact Kd.R_mono HO_9.out (fun _ hk => ⟨hk.2, hk.1⟩)) hg hat); replace HO_11 := q0 (Kd.R_after (ok := (fun k_ => some k_ ≠ (.slice (some ad112) t101.length co28 : Value).ownBlock)) (by (with_reducible repeat (first | apply Kd.R_alloc | apply Kd.R_drewN | apply Kd.R_drew)); exact Kd.R_mono HO_11.out (fun _ hk => ⟨hk.2, hk.1⟩)) hg hat); replace BK105 := q0 (blk_grown (g := gb105) (o := .cells #[.int .i64 a0_0, .slice A0_1 l0_1.length c0_1] 31 (0, 0)) (qk BK105.out) hg (Kd.R_ne HO_8.out BK105.out (by decide))); replace HB := q0 (hb); have HO125 := q0 (ho); clear HO_8; clear ho hb hg hat))
 repeat (go_quiet (first | ((with_reducible refine gate_builtin (b := .append) (xs := #[.tmp 68, .tmp 70]) rfl ?_); at_builtin; refine Kd.R_append (Kd.int .i64) (w0 := w) w.heap.size rfl (.tmp 68) (.tmp 70) 26 3 (.int .i64 0) 8 rfl Try.underlying26 info3 rfl (by decide) (by omega) u8 x8_2 (rd t102 x12_3) [.int .i64 (rd t102 x12_3)] (fun k_ => some k_ ≠ (.slice (some ad112) t101.length co28 : Value).ownBlock ∧ some k_ ≠ (.slice (some ad120) t102.length co42 : Value).ownBlock) (fun _ => False) rfl rfl ?aP (fun _ hk => hk.elim) ?aF ?aO ?aB ?aS ?aL ?_; (case aP => exact rfl); (case aB => exact (qb HB.out)); (case aF => exact (fun k_ hk => ⟨Kd.fresh' (Kd.R_lt (qr HO_9.out)) k_ hk, Kd.fresh' (Kd.R_lt (qr HO_11.out)) k_ hk⟩)); (case aO => exact (qr HO_8.out)); (case aS => exact (below_size (qb HB.out))); (case aL => have := LMc41.out; omega); intro v124 w43 ho hb hg hat; rw [← Ny119.out] at ho; replace HO_9 := q0 (Kd.R_after (ok := (fun k_ => some k_ ≠ (.slice (some ad120) t102.length co42 : Value).ownBlock)) (by (with_reducible repeat (first | apply Kd.R_alloc | apply Kd.R_drewN | apply Kd.R_drew)); exact Kd.R_mono HO_9.out (fun _ hk => ⟨hk.2, hk.1⟩)) hg hat); replace HO_11 := q0 (Kd.R_after (ok := (fun k_ => some k_ ≠ (.slice (some ad112) t101.length co28 : Value).ownBlock)) (by (with_reducible repeat (first | apply Kd.R_alloc | apply Kd.R_drewN | apply Kd.R_drew)); exact Kd.R_mono HO_11.out (fun _ hk => ⟨hk.2, hk.1⟩)) hg hat); replace BK105 := q0 (blk_grown (g := gb105) (o := .cells #[.int .i64 a0_0, .slice A0_1 l0_1.length c0_1] 31 (0, 0)) (qk BK105.out) hg (Kd.R_ne HO_8.out BK105.out (by decide))); replace HB := q0 (hb); have HO125 := q0 (ho); clear HO_8; clear ho hb hg hat)); try go_wp2_with (first | ((with_reducible refine gate_builtin (b := .append) (xs := #[.tmp 68, .tmp 70]) rfl ?_); at_builtin; refine Kd.R_append (Kd.int .i64) (w0 := w) w.heap.size rfl (.tmp 68) (.tmp 70) 26 3 (.int .i64 0) 8 rfl Try.underlying26 info3 rfl (by decide) (by omega) u8 x8_2 (rd t102 x12_3) [.int .i64 (rd t102 x12_3)] (fun k_ => some k_ ≠ (.slice (some ad112) t101.length co28 : Value).ownBlock ∧ some k_ ≠ (.slice (some ad120) t102.length co42 : Value).ownBlock) (fun _ => False) rfl rfl ?aP (fun _ hk => hk.elim) ?aF ?aO ?aB ?aS ?aL ?_; (case aP => exact rfl); (case aB => exact (qb HB.out)); (case aF => exact (fun k_ hk => ⟨Kd.fresh' (Kd.R_lt (qr HO_9.out)) k_ hk, Kd.fresh' (Kd.R_lt (qr HO_11.out)) k_ hk⟩)); (case aO => exact (qr HO_8.out)); (case aS => exact (below_size (qb HB.out))); (case aL => have := LMc41.out; omega); intro v124 w43 ho hb hg hat; rw [← Ny119.out] at ho; replace HO_9 := q0 (Kd.R_after (ok := (fun k_ => some k_ ≠ (.slice (some ad120) t102.length co42 : Value).ownBlock)) (by (with_reducible repeat (first | apply Kd.R_alloc | apply Kd.R_drewN | apply Kd.R_drew)); exact Kd.R_mono HO_9.out (fun _ hk => ⟨hk.2, hk.1⟩)) hg hat); replace HO_11 := q0 (Kd.R_after (ok := (fun k_ => some k_ ≠ (.slice (some ad112) t101.length co28 : Value).ownBlock)) (by (with_reducible repeat (first | apply Kd.R_alloc | apply Kd.R_drewN | apply Kd.R_drew)); exact Kd.R_mono HO_11.out (fun _ hk => ⟨hk.2, hk.1⟩)) hg hat); replace BK105 := q0 (blk_grown (g := gb105) (o := .cells #[.int .i64 a0_0, .slice A0_1 l0_1.length c0_1] 31 (0, 0)) (qk BK105.out) hg (Kd.R_ne HO_8.out BK105.out (by decide))); replace HB := q0 (hb); have HO125 := q0 (ho); clear HO_8; clear ho hb hg hat)))
 go_roundg k3
 case measure => have := HJ3.out; have := HK2.out; have := HK3.out; omega
 case rel => exact ⟨(y119), (rd t102 x12_3), qs, H', ⟨by have := HJ3.out; have := HK2.out; have := HK3.out; omega⟩, ⟨by (with_reducible repeat (first | apply Kd.R_alloc | apply Kd.R_drewN | apply Kd.R_drew)); exact Kd.R_mono HO125.out (fun _ hk => hk.1)⟩, ⟨by (with_reducible repeat (first | apply Kd.R_alloc | apply Kd.R_drewN | apply Kd.R_drew)); exact Kd.R_mono HO_9.out (fun _ hk => hk.2)⟩, ⟨qk BK105.out⟩, ⟨qb HB.out⟩⟩

set_option maxHeartbeats 8000000 in
set_option maxRecDepth 100000 in
theorem impl_WayFind.calls (k : Nat) (a0_0 : Int) (A0_1 : Option Addr) (c0_1 : Nat) (l0_1 : List (STie)) (a1 : Int) (a2 : Int) (r1 : List Int) (r2 : Bool) (w : World) (hr0_1 : Kd.C kTie w A0_1 l0_1.length l0_1) (hc0_1 : l0_1.length ≤ c0_1) (h : impl_WayFind.f k a0_0 l0_1 a1 a2 = some (r1, r2)) :
    Calls Try.prog 16 #[.agg #[.int .i64 a0_0, .slice A0_1 l0_1.length c0_1], .int .i64 a1, .int .i64 a2] w fun e w' => ∃ v0_ : Value, e = .returned (.tuple #[v0_, .bool r2]) ∧ Kd.R (Kd.int .i64) 3 w' w.heap.size (fun _ => True) v0_ r1 ∧ Below w.heap.size w w' := by
 have hu31 := Try.underlying31
 have HR0_1 := Aside0.mk hr0_1
 have HC0_1 := Aside0.mk hc0_1
 clear hr0_1 hc0_1
 have HB := q0 (Below.refl w.heap.size w)
 have H : ((impl_WayAll.f k a0_0 l0_1 a1 a2).bind fun t100 => (if (t100.length : Int) = 0 then (some ((([] : List Int)), false)) else (if 0 < (t100.length : Int) then (some (rd_LI t100 0, true)) else (none)))) = some (r1, r2) := h
 clear h
 replace H := Option.bind_eq_some_iff.mp H
 obtain ⟨t100, A40, H⟩ := H
 have A4 := Aside0.mk A40
 clear A40
 by_cases c5 : (t100.length : Int) = 0
 · rw [if_pos c5] at H
   have c5b0 : ((t100.length : Int) == 0) = true := beq_iff_eq.mpr c5
   have c5b1 : ((t100.length : Int) != 0) = false := bne_eq_false_iff_eq.mpr c5
   clear c5
   obtain ⟨y101, hy101⟩ : ∃ y_ : List Int, y_ = (([] : List Int)) := ⟨_, rfl⟩
   replace H : (some (y101, false)) = some (r1, r2) := qy H hy101
   have Ny101 := Aside0.mk hy101
   clear hy101
   simp only [Option.some.injEq, Prod.mk.injEq] at H
   obtain ⟨rfl, rfl⟩ := H
   go_enter Try.func16, Try.ntmps16
   go_wp2_with (first | ((with_reducible refine gate_dst (N := 3) rfl ?_); refine be 3 #[.int .i64 a0_0, .slice A0_1 l0_1.length c0_1] 31 ?_; intro gb102 hg w6 hbox hb; have BK102 := q0 (hbox); have GW102 := q0 ((bs HB.out hg : w.heap.size ≤ gb102)); have GE102 := q0 ((bs HB.out hg : w.heap.size ≤ gb102)); replace HB := q0 (below_step (qb HB.out) hb); clear hb hbox hg; have hcz7_0 : w6.cell? ⟨gb102, 0, none⟩ = some (.int .i64 a0_0) := (blk_cell BK102.out 0).trans rfl; have hcz7_1 : w6.cell? ⟨gb102, 1, none⟩ = some (.slice A0_1 l0_1.length c0_1) := (blk_cell BK102.out 1).trans rfl; have hfz7_0 := blk_frozen BK102.out 0; have hfz7_1 := blk_frozen BK102.out 1) | ((with_reducible refine gate_callee (f := 23) rfl ?_); refine gl 12 Try.func23 #[.agg #[.int .i64 a0_0, .slice A0_1 l0_1.length c0_1], .int .i64 a1, .int .i64 a2] ?_; (with_reducible refine (impl_WayAll.calls k a0_0 _ _ l0_1 a1 a2 t100 _ ?side1 ?side2 A4.out).mono ?_); (case side1 => exact qc (Kd.C_below HR0_1.out HB.out)); (case side2 => exact HC0_1.out); rintro e w8 ⟨v103, rfl, ho0, hb⟩; refine ⟨_, rfl, ?_⟩; have HO104 := q0 (Kd.S_lower ho0 (below_size (qb HB.out))); replace BK102 := q0 (kb BK102.out hb); replace HB := q0 (below_step (qb HB.out) hb); (try clear hb); (try clear hb2); (try clear hk); (try clear hi); (try clear ho0); obtain ⟨Ao9, co9, eo9⟩ := Kd.S_slice HO104.out; subst eo9) | ((with_reducible refine gate_dst (N := 16) rfl ?_); refine Kd.R_lit (Kd.int .i64) _ 3 ?hg (N := 16) ?hd (xs := ([] : List Int)) (inner := []) (ok := fun _ => True) (okp := fun _ => True) ?hr ?hp (fun _ hk => hk) trivial (Below.refl _ _) (Nat.le_refl _) (by simp) ?_; (case hd => rfl); (case hg => rfl); (case hr => first | (go_simp; done) | (go_simp; rfl)); (case hp => exact (Reps.none _ _)); intro v105 w10 ho11 hb hg_ hnew_; clear hg_ hnew_; (first | rw [← Ny101.out] at ho11 | (simp only [Int.reduceToNat] at ho11; rw [← Ny101.out] at ho11)); replace HO104 := q0 (Kd.S_elder' (qv HO104.out) (Kd.R_base ho11) hb); have HO106 := q0 (Kd.R_lower ho11 (below_size (qb HB.out))); replace BK102 := q0 (kb BK102.out hb); replace HB := q0 (below_step (qb HB.out) hb); clear hb ho11))
   go_ret2
   exact ⟨_, qe, qr HO106.out, qb HB.out⟩
 rw [if_neg c5] at H
 have c5b0 : ((t100.length : Int) == 0) = false := beq_eq_false_iff_ne.mpr c5
 have c5b1 : ((t100.length : Int) != 0) = true := bne_iff_ne.mpr c5
 have c5b2 : ¬ (t100 = []) := fun h_ => c5 (by rw [h_]; rfl)
 by_cases c12 : 0 < (t100.length : Int)
 rotate_left
 · rw [if_neg c12] at H
   exact absurd H (by simp)
 rw [if_pos c12] at H
 have c12b0 : decide (0 < (t100.length : Int)) = true := decide_eq_true c12
 have c12b1 : decide (0 < t100.length) = true := decide_eq_true (by omega)
 clear c12
 simp only [Option.some.injEq, Prod.mk.injEq] at H
 obtain ⟨rfl, rfl⟩ := H
 go_enter Try.func16, Try.ntmps16
 go_wp2_with (first | ((with_reducible refine gate_dst (N := 3) rfl ?_); refine be 3 #[.int .i64 a0_0, .slice A0_1 l0_1.length c0_1] 31 ?_; intro gb102 hg w13 hbox hb; have BK102 := q0 (hbox); have GW102 := q0 ((bs HB.out hg : w.heap.size ≤ gb102)); have GE102 := q0 ((bs HB.out hg : w.heap.size ≤ gb102)); replace HB := q0 (below_step (qb HB.out) hb); clear hb hbox hg; have hcz14_0 : w13.cell? ⟨gb102, 0, none⟩ = some (.int .i64 a0_0) := (blk_cell BK102.out 0).trans rfl; have hcz14_1 : w13.cell? ⟨gb102, 1, none⟩ = some (.slice A0_1 l0_1.length c0_1) := (blk_cell BK102.out 1).trans rfl; have hfz14_0 := blk_frozen BK102.out 0; have hfz14_1 := blk_frozen BK102.out 1) | ((with_reducible refine gate_callee (f := 23) rfl ?_); refine gl 12 Try.func23 #[.agg #[.int .i64 a0_0, .slice A0_1 l0_1.length c0_1], .int .i64 a1, .int .i64 a2] ?_; (with_reducible refine (impl_WayAll.calls k a0_0 _ _ l0_1 a1 a2 t100 _ ?side1 ?side2 A4.out).mono ?_); (case side1 => exact qc (Kd.C_below HR0_1.out HB.out)); (case side2 => exact HC0_1.out); rintro e w15 ⟨v103, rfl, ho0, hb⟩; refine ⟨_, rfl, ?_⟩; have HO104 := q0 (Kd.S_lower ho0 (below_size (qb HB.out))); replace BK102 := q0 (kb BK102.out hb); replace HB := q0 (below_step (qb HB.out) hb); (try clear hb); (try clear hb2); (try clear hk); (try clear hi); (try clear ho0); obtain ⟨Ao16, co16, eo16⟩ := Kd.S_slice HO104.out; subst eo16; have p107 : 0 ≤ (0 : Int) := (by omega); have q107 : 0 < (t100.length : Int) := of_decide_eq_true qa; obtain ⟨ad107, A107_0, c107_0, e107, hx107_0, hl107_0, hi107_0⟩ := at_LI (Kd.S_reads' HO104.out).2.2 0 p107 q107; cases e107; obtain ⟨ce107, hce107, hMe107, hcc107⟩ := Kd.S_get HO104.out [] 0 p107 (by first | exact q107 | exact of_decide_eq_true qa | (have e_ := (Kd.S_reads' HO104.out).1; omega)); obtain ⟨ve107_0, rfl, ge107_0⟩ := hMe107; have hv107_0 := hcc107 0 _ rfl; rw [Nat.add_zero, show ((Kd.slice 3 (Kd.int .i64))).sz = 1 from rfl, Nat.mul_one] at hv107_0; replace hv107_0 := Option.some.inj (hv107_0.symm.trans hx107_0); rw [hv107_0] at ge107_0; have HL107_0 := q0 (show Kd.R (Kd.int .i64) 3 _ _ _ _ (rd_LI t100 0) from ge107_0); clear hv107_0 ge107_0 hcc107 hce107; have qi107 : (0 < t100.length) = True := eq_true (by omega); (try rw [show ((0 : Int)).toNat = 0 from rfl] at hx107_0); (try rw [Addr.add_zero'] at hx107_0); have HR107_0 := Aside0.mk hi107_0; have HC107_0 := Aside0.mk hl107_0; clear hi107_0 hl107_0; replace p107 := eq_true p107; replace q107 := eq_true q107))
 go_ret2
 exact ⟨_, qe, by (with_reducible repeat (first | apply Kd.R_alloc | apply Kd.R_drewN | apply Kd.R_drew)); exact Kd.R_mono HL107_0.out (fun _ hk => trivial), qb HB.out⟩

end Go.Proofs.Ytmfmeenfhdohcaa.P
