import Derived.Test.YtgoembpmhlmafaaP0
namespace Go.Proofs.Ytgoembpmhlmafaa.P
open Go.RowKit Go.Proofs.YtgoembpmhlmafaaW.PrintWords Go.Proofs.YtgoembpmhlmafaaW.PrintLast Go.Proofs.YtgoembpmhlmafaaW.PrintMore
attribute [local go_sem] max2_int min2_int max_two min_two max_three min_three max_four min_four
set_option linter.unusedVariables false
set_option linter.unusedSimpArgs false
attribute [local go_sem high] eqATie
set_option maxHeartbeats 8000000 in
set_option maxRecDepth 100000 in
theorem laws_szTieS.calls (A0 : Option Addr) (c0 : Nat) (l0 : List (SLTie)) (a1 : Int) (r : Int) (w : World) (hr0 : Kd.C kLTie w A0 l0.length l0) (hc0 : l0.length ≤ c0) (h : laws_szTieS.f l0 a1 = some r) :
    Calls Try.prog 66 #[.slice A0 l0.length c0, .int .i64 a1] w fun e w' => e = .returned (.int .i64 r) ∧ Drawn0 w w' := by
 have HR0 := Aside0.mk hr0
 have HC0 := Aside0.mk hc0
 clear hr0 hc0
 have H : (if (wrap64 (a1 - (l0.length : Int))) < 0 then (some (-1)) else (some (wrap64 (a1 - (l0.length : Int))))) = some r := h
 clear h
 by_cases c3 : (wrap64 (a1 - (l0.length : Int))) < 0
 · rw [if_pos c3] at H
   have c3b0 : decide ((wrap64 (a1 - (l0.length : Int))) < 0) = true := decide_eq_true c3
   clear c3
   obtain rfl := Option.some.inj H
   go_enter Try.func66, Try.ntmps66
   go_wp2
   go_ret
   exact ⟨by first | rfl | (simp; done) | (simp [*]; done), by repeat (first | exact Drawn0.refl _ | apply Drawn0.step)⟩
 rw [if_neg c3] at H
 have c3b0 : decide ((wrap64 (a1 - (l0.length : Int))) < 0) = false := decide_eq_false c3
 clear c3
 obtain rfl := Option.some.inj H
 go_enter Try.func66, Try.ntmps66
 go_wp2
 go_ret
 exact ⟨by first | rfl | (simp; done) | (simp [*]; done), by repeat (first | exact Drawn0.refl _ | apply Drawn0.step)⟩

set_option maxHeartbeats 8000000 in
set_option maxRecDepth 100000 in
theorem laws_szNet.calls (a0_0 : Int) (A0_1 : Option Addr) (c0_1 : Nat) (l0_1 : List (SLTie)) (a1 : Int) (r : Int) (w : World) (hr0_1 : Kd.C kLTie w A0_1 l0_1.length l0_1) (hc0_1 : l0_1.length ≤ c0_1) (h : laws_szNet.f a0_0 l0_1 a1 = some r) :
    Calls Try.prog 26 #[.agg #[.int .i64 a0_0, .slice A0_1 l0_1.length c0_1], .int .i64 a1] w fun e w' => e = .returned (.int .i64 r) ∧ Below w.heap.size w w' := by
 have hu42 := Try.underlying42
 have HR0_1 := Aside0.mk hr0_1
 have HC0_1 := Aside0.mk hc0_1
 clear hr0_1 hc0_1
 have HB := q0 (Below.refl w.heap.size w)
 have H : ((laws_szTieS.f l0_1 a1).bind fun t100 => (if t100 < 0 then (some (-1)) else (some t100))) = some r := h
 clear h
 replace H := Option.bind_eq_some_iff.mp H
 obtain ⟨t100, A30, H⟩ := H
 have A3 := Aside0.mk A30
 clear A30
 by_cases c4 : t100 < 0
 · rw [if_pos c4] at H
   have c4b0 : decide (t100 < 0) = true := decide_eq_true c4
   clear c4
   obtain rfl := Option.some.inj H
   go_enter Try.func26, Try.ntmps26
   go_wp2_with (first | ((with_reducible refine gate_dst (N := 2) rfl ?_); refine be 2 #[.int .i64 a0_0, .slice A0_1 l0_1.length c0_1] 42 ?_; intro gb101 hg w5 hbox hb; have BK101 := q0 (hbox); have GW101 := q0 ((bs HB.out hg : w.heap.size ≤ gb101)); have GE101 := q0 ((bs HB.out hg : w.heap.size ≤ gb101)); replace HB := q0 (below_step (qb HB.out) hb); clear hb hbox hg; have hcz6_0 : w5.cell? ⟨gb101, 0, none⟩ = some (.int .i64 a0_0) := (blk_cell BK101.out 0).trans rfl; have hcz6_1 : w5.cell? ⟨gb101, 1, none⟩ = some (.slice A0_1 l0_1.length c0_1) := (blk_cell BK101.out 1).trans rfl; have hfz6_0 := blk_frozen BK101.out 0; have hfz6_1 := blk_frozen BK101.out 1) | ((with_reducible refine gate_callee (f := 66) rfl ?_); refine gl 8 Try.func66 #[.slice A0_1 l0_1.length c0_1, .int .i64 a1] ?_; (with_reducible refine (laws_szTieS.calls _ _ l0_1 a1 t100 _ ?side1 ?side2 A3.out).mono ?_); (case side1 => exact qc (Kd.C_below HR0_1.out HB.out)); (case side2 => exact HC0_1.out); rintro e w' ⟨rfl, ⟨nd, rfl⟩⟩; refine ⟨_, rfl, ?_⟩))
   go_ret
   exact ⟨qe, qb HB.out⟩
 rw [if_neg c4] at H
 have c4b0 : decide (t100 < 0) = false := decide_eq_false c4
 clear c4
 obtain rfl := Option.some.inj H
 go_enter Try.func26, Try.ntmps26
 go_wp2_with (first | ((with_reducible refine gate_dst (N := 2) rfl ?_); refine be 2 #[.int .i64 a0_0, .slice A0_1 l0_1.length c0_1] 42 ?_; intro gb101 hg w7 hbox hb; have BK101 := q0 (hbox); have GW101 := q0 ((bs HB.out hg : w.heap.size ≤ gb101)); have GE101 := q0 ((bs HB.out hg : w.heap.size ≤ gb101)); replace HB := q0 (below_step (qb HB.out) hb); clear hb hbox hg; have hcz8_0 : w7.cell? ⟨gb101, 0, none⟩ = some (.int .i64 a0_0) := (blk_cell BK101.out 0).trans rfl; have hcz8_1 : w7.cell? ⟨gb101, 1, none⟩ = some (.slice A0_1 l0_1.length c0_1) := (blk_cell BK101.out 1).trans rfl; have hfz8_0 := blk_frozen BK101.out 0; have hfz8_1 := blk_frozen BK101.out 1) | ((with_reducible refine gate_callee (f := 66) rfl ?_); refine gl 8 Try.func66 #[.slice A0_1 l0_1.length c0_1, .int .i64 a1] ?_; (with_reducible refine (laws_szTieS.calls _ _ l0_1 a1 t100 _ ?side1 ?side2 A3.out).mono ?_); (case side1 => exact qc (Kd.C_below HR0_1.out HB.out)); (case side2 => exact HC0_1.out); rintro e w' ⟨rfl, ⟨nd, rfl⟩⟩; refine ⟨_, rfl, ?_⟩))
 go_ret
 exact ⟨qe, qb HB.out⟩

set_option maxHeartbeats 8000000 in
set_option maxRecDepth 100000 in
theorem laws_toTie.calls (a0_0 : Int) (a0_1 : Int) (r1 : Int) (r2 : Int) (w : World) (h : laws_toTie.f a0_0 a0_1 = some (r1, r2)) :
    Calls Try.prog 96 #[.agg #[.int .i64 a0_0, .int .i64 a0_1]] w fun e w' => e = .returned (.agg #[.int .i64 r1, .int .i64 r2]) ∧ Below w.heap.size w w' := by
 have hu95 := Try.underlying95
 have hu32 := Try.underlying32
 have HB := q0 (Below.refl w.heap.size w)
 have H : (some (a0_0, a0_1)) = some (r1, r2) := h
 clear h
 simp only [Option.some.injEq, Prod.mk.injEq] at H
 obtain ⟨rfl, rfl⟩ := H
 go_enter Try.func96, Try.ntmps96
 go_wp2_with (first | ((with_reducible refine gate_dst (N := 1) rfl ?_); refine be 1 #[.int .i64 a0_0, .int .i64 a0_1] 95 ?_; intro gb100 hg w2 hbox hb; have BK100 := q0 (hbox); have GW100 := q0 ((bs HB.out hg : w.heap.size ≤ gb100)); have GE100 := q0 ((bs HB.out hg : w.heap.size ≤ gb100)); replace HB := q0 (below_step (qb HB.out) hb); clear hb hbox hg) | ((with_reducible refine gate_dst (N := 2) rfl ?_); refine be 2 #[.int .i64 0, .int .i64 0] 32 ?_; intro gb101 hg w3 hbox hb; have BK101 := q0 (hbox); have GW101 := q0 ((bs HB.out hg : w.heap.size ≤ gb101)); have GE101 := q0 ((bs HB.out hg : w.heap.size ≤ gb101)); replace HB := q0 (below_step (qb HB.out) hb); have NB100_101 := q0 ((bl BK100.out hg : gb100 ≠ gb101)); have NB101_100 := q0 ((bg BK100.out hg : gb101 ≠ gb100)); replace BK100 := q0 (kb BK100.out hb); clear hb hbox hg) | ((with_reducible refine gate_dst (N := 3) rfl ?_); refine be 3 #[.int .i64 0, .int .i64 0] 32 ?_; intro gb102 hg w4 hbox hb; have BK102 := q0 (hbox); have GW102 := q0 ((bs HB.out hg : w.heap.size ≤ gb102)); have GE102 := q0 ((bs HB.out hg : w.heap.size ≤ gb102)); replace HB := q0 (below_step (qb HB.out) hb); have NB100_102 := q0 ((bl BK100.out hg : gb100 ≠ gb102)); have NB102_100 := q0 ((bg BK100.out hg : gb102 ≠ gb100)); replace BK100 := q0 (kb BK100.out hb); have NB101_102 := q0 ((bl BK101.out hg : gb101 ≠ gb102)); have NB102_101 := q0 ((bg BK101.out hg : gb102 ≠ gb101)); replace BK101 := q0 (kb BK101.out hb); clear hb hbox hg; have hnb5 := NB100_101.out; have hnc5 := NB101_100.out; have hnb6 := NB100_102.out; have hnc6 := NB102_100.out; have hcz7_0 : w4.cell? ⟨gb100, 0, none⟩ = some (.int .i64 a0_0) := (blk_cell BK100.out 0).trans rfl; have hcz7_1 : w4.cell? ⟨gb100, 1, none⟩ = some (.int .i64 a0_1) := (blk_cell BK100.out 1).trans rfl; have hfz7_0 := blk_frozen BK100.out 0; have hfz7_1 := blk_frozen BK100.out 1; have hnb8 := NB102_101.out; have hnc8 := NB101_102.out; have hcz9_0 : w4.cell? ⟨gb102, 0, none⟩ = some (.int .i64 0) := (blk_cell BK102.out 0).trans rfl; have hcz9_1 : w4.cell? ⟨gb102, 1, none⟩ = some (.int .i64 0) := (blk_cell BK102.out 1).trans rfl; have hfz9_0 := blk_frozen BK102.out 0; have hfz9_1 := blk_frozen BK102.out 1; have hcz10_0 : w4.cell? ⟨gb101, 0, none⟩ = some (.int .i64 0) := (blk_cell BK101.out 0).trans rfl; have hcz10_1 : w4.cell? ⟨gb101, 1, none⟩ = some (.int .i64 0) := (blk_cell BK101.out 1).trans rfl; have hfz10_0 := blk_frozen BK101.out 0; have hfz10_1 := blk_frozen BK101.out 1))
 refine bodyPost_ret (results_cell_row rfl _ _ gb101 32 #[.int .i64 a0_0, .int .i64 a0_1] (0, 0) _ rfl (by (with_reducible repeat (first | refine blk_drewN ?_ _ | refine blk_drew ?_ | refine blk_alloc ?_ _)); refine blk_put (cs := #[.int .i64 a0_0, .int .i64 0]) ?_ 1 _ rfl; (with_reducible repeat (first | refine blk_drewN ?_ _ | refine blk_drew ?_ | refine blk_alloc ?_ _)); refine blk_put (cs := #[.int .i64 0, .int .i64 0]) ?_ 0 _ rfl; (with_reducible repeat (first | refine blk_drewN ?_ _ | refine blk_drew ?_ | refine blk_alloc ?_ _)); refine blk_far ?_ NB101_102.out _; (with_reducible repeat (first | refine blk_drewN ?_ _ | refine blk_drew ?_ | refine blk_alloc ?_ _)); refine blk_far ?_ NB101_102.out _; (with_reducible repeat (first | refine blk_drewN ?_ _ | refine blk_drew ?_ | refine blk_alloc ?_ _)); exact BK101.out) Try.underlying32 rfl (by kernel_rfl)) rfl ?_
 exact ⟨qe, qb HB.out⟩

set_option maxHeartbeats 8000000 in
set_option maxRecDepth 100000 in
theorem laws_toTieS.calls (k : Nat) (A0 : Option Addr) (c0 : Nat) (l0 : List (SLTie)) (r : List (STie)) (w : World) (hr0 : Kd.C kLTie w A0 l0.length l0) (hc0 : l0.length ≤ c0) (h : laws_toTieS.f k l0 = some r) :
    Calls Try.prog 70 #[.slice A0 l0.length c0] w fun e w' => ∃ v0_ : Value, e = .returned (v0_) ∧ Kd.R kTie 32 w' w.heap.size (fun _ => True) v0_ r ∧ Below w.heap.size w w' := by
 have hu95 := Try.underlying95
 have hu32 := Try.underlying32
 have HR0 := Aside0.mk hr0
 have HC0 := Aside0.mk hc0
 clear hr0 hc0
 have HB := q0 (Below.refl w.heap.size w)
 have H : (if 0 ≤ (l0.length : Int) then (if ((l0.length : Int) : Int).toNat ≤ 17592186044416 then (laws_toTieS.l0 k l0 (List.replicate ((l0.length : Int) : Int).toNat zTie) 0) else (none)) else (none)) = some r := h
 clear h
 by_cases c2 : 0 ≤ (l0.length : Int)
 rotate_left
 · rw [if_neg c2] at H
   exact absurd H (by simp)
 rw [if_pos c2] at H
 have c2b0 := eq_true c2
 have c2b1 : decide (0 ≤ (l0.length : Int)) = true := decide_eq_true c2
 clear c2
 by_cases c3 : ((l0.length : Int) : Int).toNat ≤ 17592186044416
 rotate_left
 · rw [if_neg c3] at H
   exact absurd H (by simp)
 rw [if_pos c3] at H
 have c3b0 := eq_true c3
 have c3b1 : decide (((l0.length : Int) : Int).toNat ≤ 17592186044416) = true := decide_eq_true c3
 clear c3
 obtain ⟨y101, hy101⟩ : ∃ y_ : List (STie), y_ = (List.replicate ((l0.length : Int) : Int).toNat zTie) := ⟨_, rfl⟩
 replace H : (laws_toTieS.l0 k l0 y101 0) = some r := qy H hy101
 have Ny101 := Aside0.mk hy101
 clear hy101
 have H' := Aside0.mk H
 clear H
 go_enter Try.func70, Try.ntmps70
 go_wp2_with (first | ((with_reducible refine gate_dst (N := 7) rfl ?_); refine Kd.R_make kTie _ 32 rfl (N := 7) rfl 23 _ _ rfl (l0.length : Int) rfl rfl Try.underlying23 (.agg #[(.int .i64 0), (.int .i64 0)]) 16 info32 rfl (by decide) (by omega) zTie (ok := fun _ => True) (okp := fun _ => True) (kTie_mkM _ _ _ zTie ) (fun _ hk => hk) trivial (of_decide_eq_true qa) (Nat.le_trans (Nat.mul_le_mul_right _ (of_decide_eq_true qa : (l0.length : Int).toNat ≤ 17592186044416)) (by omega)) (Below.refl _ _) (Nat.le_refl _) ?_; intro v102 w4 ho5 hb hg_ hnew_; clear hg_ hnew_; (first | rw [← Ny101.out] at ho5 | (simp only [Int.reduceToNat] at ho5; rw [← Ny101.out] at ho5)); have HO103 := q0 (Kd.R_lower ho5 (below_size (qb HB.out))); replace HB := q0 (below_step (qb HB.out) hb); clear hb ho5))
 go_loopg [4] k (fun kq v4 w' => ∃ (x3_1 : List (STie)) (x4_1 : Int), v4 = .int .i64 x4_1 ∧ Aside0 (laws_toTieS.l0 kq l0 x3_1 x4_1 = some r) ∧ Aside0 (kq ≤ k) ∧ Aside0 (Kd.R kTie 32 w' w.heap.size (fun _ => True) v102 x3_1) ∧ Aside0 (Below w.heap.size w w'))
 case atStart => exact ⟨(y101), (0), qs, H', ⟨Nat.le_refl _⟩, ⟨qr HO103.out⟩, ⟨qb HB.out⟩⟩
 clear H'
 try clear c2
 try clear c2b0
 try clear c2b1
 try clear p2
 try clear c3
 try clear c3b0
 try clear c3b1
 obtain ⟨x3_1, x4_1, rfl, HA, HK1, HO_3, HB⟩ := hrel
 rcases gk with _ | k1
 · exact absurd HA.out (by simp [laws_toTieS.l0])
 have H := HA.out
 clear HA
 simp only [laws_toTieS.l0] at H
 by_cases c6 : x4_1 < (l0.length : Int)
 rotate_left
 · rw [if_neg c6] at H
   have c6b0 : decide (x4_1 < (l0.length : Int)) = false := decide_eq_false c6
   clear c6
   obtain rfl := Option.some.inj H
   go_wp2
   go_ret
   exact ⟨_, qe, qr HO_3.out, qb HB.out⟩
 rw [if_pos c6] at H
 have c6b0 : decide (x4_1 < (l0.length : Int)) = true := decide_eq_true c6
 clear c6
 by_cases c7 : 0 ≤ x4_1
 rotate_left
 · rw [if_neg c7] at H
   exact absurd H (by simp)
 rw [if_pos c7] at H
 have c7b0 : decide (0 ≤ x4_1) = true := decide_eq_true c7
 clear c7
 replace H := Option.bind_eq_some_iff.mp H
 obtain ⟨⟨t100, t104⟩, A80, H⟩ := H
 have A8 := Aside0.mk A80
 clear A80
 by_cases c9 : x4_1 < (x3_1.length : Int)
 rotate_left
 · rw [if_neg c9] at H
   exact absurd H (by simp)
 rw [if_pos c9] at H
 have c9b0 : decide (x4_1 < (x3_1.length : Int)) = true := decide_eq_true c9
 clear c9
 obtain ⟨y105, hy105⟩ : ∃ y_ : List (STie), y_ = (x3_1.set (x4_1 : Int).toNat (⟨t100, t104⟩ : STie)) := ⟨_, rfl⟩
 replace H : (laws_toTieS.l0 k1 l0 y105 (wrap64 (x4_1 + 1))) = some r := qy H hy105
 have Ny105 := Aside0.mk hy105
 clear hy105
 have H' := Aside0.mk H
 clear H
 have p106 : 0 ≤ (x4_1 : Int) := of_decide_eq_true qa
 have q106 : x4_1 < (l0.length : Int) := of_decide_eq_true qa
 obtain ⟨ad106, e106, hx106_0, hx106_1⟩ := at_TLTie HR0.out x4_1 p106 q106
 cases e106
 replace hx106_0 := (HB.out.cell (World.block_lt_of_cell? w _ hx106_0)).trans hx106_0
 replace hx106_1 := (HB.out.cell (World.block_lt_of_cell? w _ hx106_1)).trans hx106_1
 replace p106 := eq_true p106
 replace q106 := eq_true q106
 go_wp2_with (first | ((with_reducible refine gate_callee (f := 96) rfl ?_); refine gl 20 Try.func96 #[.agg #[.int .i64 ((rd_TLTie l0 x4_1).f0), .int .i64 ((rd_TLTie l0 x4_1).f1)]] ?_; (with_reducible refine (laws_toTie.calls ((rd_TLTie l0 x4_1).f0) ((rd_TLTie l0 x4_1).f1) t100 t104 _ A8.out).mono ?_); rintro e w11 ⟨rfl, hb⟩; refine ⟨_, rfl, ?_⟩; replace HO_3 := q0 (Kd.R_below (qr HO_3.out) hb); replace HB := q0 (below_step (qb HB.out) hb); (try clear hb); (try clear hb2); (try clear hk); (try clear hi); have p10 : 0 ≤ (x4_1 : Int) := of_decide_eq_true qa; have q10 : (x4_1 : Int) < ((x3_1.length : Int) : Int) := of_decide_eq_true qa; obtain ⟨go10, co10, eo10, gb10, gl10, cl10, HG10⟩ := Kd.R_form HO_3.out (by omega); (first | cases eo10 | (injection eo10 with ea_ en_ ec_; (first | subst ea_ | (injection ea_ with ea_; subst ea_)); subst ec_; clear en_)); have GB10 := Aside0.mk gb10; have GG10 := Aside0.mk HG10; clear gb10 gl10 HG10; obtain ⟨ce10, hcl10, hM10, hcc10, hfr10⟩ := Kd.R_elem HO_3.out zTie (x4_1 : Int) p10 q10; obtain rfl := kTie_openM hM10; have hx10_0 : w11.cell? ⟨go10, (x4_1 : Int).toNat * 2, none⟩ = some (.int .i64 ((rd_TTie x3_1 x4_1).f0)) := hcc10 0 _ rfl; have hx10_1 : w11.cell? ⟨go10, (x4_1 : Int).toNat * 2 + 1, none⟩ = some (.int .i64 ((rd_TTie x3_1 x4_1).f1)) := hcc10 1 _ rfl; have hf10_0 : w11.frozen? ⟨go10, (x4_1 : Int).toNat * 2, none⟩ = false := hfr10 0; have hf10_1 : w11.frozen? ⟨go10, (x4_1 : Int).toNat * 2 + 1, none⟩ = false := hfr10 1; clear hcl10 hcc10 hfr10 hM10; replace p10 := eq_true p10; replace q10 := eq_true q10; have HX12 := q0 (show Kd.R kTie 32 w11 w.heap.size (fun _ => True) (.slice (some ⟨go10, 0, none⟩) x3_1.length co10) x3_1 from (qr HO_3.out)); obtain ⟨ce12, hcl12, hM12, hcc12, hfr12⟩ := Kd.R_elem HX12.out zTie (x4_1 : Int) (of_decide_eq_true qa) (by have h_ : (x4_1 : Int) < ((x3_1.length : Int) : Int) := of_decide_eq_true qa; first | exact h_ | (have e_ := (Kd.R_reads' HO_3.out).1; omega) | simpa using h_); obtain rfl := kTie_openM hM12; have HP12 := Kd.R_seg HX12.out (x4_1 : Int) (of_decide_eq_true qa) (by have h_ : (x4_1 : Int) < ((x3_1.length : Int) : Int) := of_decide_eq_true qa; first | exact h_ | (have e_ := (Kd.R_reads' HO_3.out).1; omega) | simpa using h_) (seg := [.int .i64 t100, .int .i64 t104]) (j := 0) hcl12 hcc12 (show 2 ≤ 2 from by decide) (x' := (⟨t100, t104⟩ : STie)) (kTie_mkM _ _ _ (⟨t100, t104⟩ : STie) ) (fun _ hk => hk); have hx12_0 := hcc12 0 _ rfl; (try simp only [show (kTie).sz = 2 from rfl, Nat.mul_one, Nat.add_zero] at hx12_0); have hf12_0 := hfr12 0; (try simp only [show (kTie).sz = 2 from rfl, Nat.mul_one, Nat.add_zero] at hf12_0); have hx12_1 := hcc12 1 _ rfl; (try simp only [show (kTie).sz = 2 from rfl, Nat.mul_one, Nat.add_zero] at hx12_1); have hf12_1 := hfr12 1; (try simp only [show (kTie).sz = 2 from rfl, Nat.mul_one, Nat.add_zero] at hf12_1); clear hcl12 hcc12 hfr12 hM12) | ((with_reducible refine gate_store (t := 32) (p := 21) rfl ?_); refine store_event (t := 32) (p := 21) (v := ?vo_w13) (w1 := ((w11.setCell ⟨go10, (x4_1 : Int).toNat * 2, none⟩ (.int .i64 t100)).setCell ⟨go10, (x4_1 : Int).toNat * 2 + 1, none⟩ (.int .i64 t104))) ?hg ?ho ?hn ?hr ?_; (case ho => rfl); (case hg => rfl); (case hn => rfl); (case hr => first | (go_simp; done) | (go_simp; rfl)); intro w13 hw; have hg : w11.grownBy w13 (some go10) := (by rw [hw]; exact HP12.2); have hp_ : Kd.R kTie 32 w13 w.heap.size (fun _ => True) (.slice (some ⟨go10, 0, none⟩) x3_1.length co10) y105 := (by rw [hw, Ny105.out]; exact HP12.1); clear HP12; replace HO_3 := q0 (hp_); replace HB := q0 ((by rw [hw]; exact below_set (below_set (HB.out) GB10.out) GB10.out : Below w.heap.size w w13)); clear hg hw hp_))
 go_roundg k1
 case measure => have := HK1.out; omega
 case rel => exact ⟨(y105), (wrap64 (x4_1 + 1)), qs, H', ⟨by have := HK1.out; omega⟩, ⟨qr HO_3.out⟩, ⟨qb HB.out⟩⟩

set_option maxHeartbeats 8000000 in
set_option maxRecDepth 100000 in
theorem laws_toNet.calls (k : Nat) (a0_0 : Int) (A0_1 : Option Addr) (c0_1 : Nat) (l0_1 : List (SLTie)) (r1 : Int) (r2 : List (STie)) (w : World) (hr0_1 : Kd.C kLTie w A0_1 l0_1.length l0_1) (hc0_1 : l0_1.length ≤ c0_1) (h : laws_toNet.f k a0_0 l0_1 = some (r1, r2)) :
    Calls Try.prog 28 #[.agg #[.int .i64 a0_0, .slice A0_1 l0_1.length c0_1]] w fun e w' => ∃ v1_ : Value, e = .returned (.agg #[.int .i64 r1, v1_]) ∧ Kd.R kTie 32 w' w.heap.size (fun _ => True) v1_ r2 ∧ Below w.heap.size w w' := by
 have hu42 := Try.underlying42
 have hu25 := Try.underlying25
 have HR0_1 := Aside0.mk hr0_1
 have HC0_1 := Aside0.mk hc0_1
 clear hr0_1 hc0_1
 have HB := q0 (Below.refl w.heap.size w)
 have H : ((laws_toTieS.f k l0_1).bind fun t100 => (some (a0_0, t100))) = some (r1, r2) := h
 clear h
 replace H := Option.bind_eq_some_iff.mp H
 obtain ⟨t100, A20, H⟩ := H
 have A2 := Aside0.mk A20
 clear A20
 simp only [Option.some.injEq, Prod.mk.injEq] at H
 obtain ⟨rfl, rfl⟩ := H
 go_enter Try.func28, Try.ntmps28
 go_wp2_with (first | ((with_reducible refine gate_dst (N := 1) rfl ?_); refine be 1 #[.int .i64 a0_0, .slice A0_1 l0_1.length c0_1] 42 ?_; intro gb101 hg w3 hbox hb; have BK101 := q0 (hbox); have GW101 := q0 ((bs HB.out hg : w.heap.size ≤ gb101)); have GE101 := q0 ((bs HB.out hg : w.heap.size ≤ gb101)); replace HB := q0 (below_step (qb HB.out) hb); clear hb hbox hg) | ((with_reducible refine gate_dst (N := 2) rfl ?_); refine be 2 #[.int .i64 0, .slice none 0 0] 25 ?_; intro gb102 hg w4 hbox hb; have BK102 := q0 (hbox); have GW102 := q0 ((bs HB.out hg : w.heap.size ≤ gb102)); have GE102 := q0 ((bs HB.out hg : w.heap.size ≤ gb102)); replace HB := q0 (below_step (qb HB.out) hb); have NB101_102 := q0 ((bl BK101.out hg : gb101 ≠ gb102)); have NB102_101 := q0 ((bg BK101.out hg : gb102 ≠ gb101)); replace BK101 := q0 (kb BK101.out hb); clear hb hbox hg) | ((with_reducible refine gate_dst (N := 3) rfl ?_); refine be 3 #[.int .i64 0, .slice none 0 0] 25 ?_; intro gb103 hg w5 hbox hb; have BK103 := q0 (hbox); have GW103 := q0 ((bs HB.out hg : w.heap.size ≤ gb103)); have GE103 := q0 ((bs HB.out hg : w.heap.size ≤ gb103)); replace HB := q0 (below_step (qb HB.out) hb); have NB101_103 := q0 ((bl BK101.out hg : gb101 ≠ gb103)); have NB103_101 := q0 ((bg BK101.out hg : gb103 ≠ gb101)); replace BK101 := q0 (kb BK101.out hb); have NB102_103 := q0 ((bl BK102.out hg : gb102 ≠ gb103)); have NB103_102 := q0 ((bg BK102.out hg : gb103 ≠ gb102)); replace BK102 := q0 (kb BK102.out hb); clear hb hbox hg; have hnb6 := NB101_102.out; have hnc6 := NB102_101.out; have hnb7 := NB101_103.out; have hnc7 := NB103_101.out; have hcz8_0 : w5.cell? ⟨gb101, 0, none⟩ = some (.int .i64 a0_0) := (blk_cell BK101.out 0).trans rfl; have hcz8_1 : w5.cell? ⟨gb101, 1, none⟩ = some (.slice A0_1 l0_1.length c0_1) := (blk_cell BK101.out 1).trans rfl; have hfz8_0 := blk_frozen BK101.out 0; have hfz8_1 := blk_frozen BK101.out 1; have hnb9 := NB103_102.out; have hnc9 := NB102_103.out; have hcz10_0 : w5.cell? ⟨gb103, 0, none⟩ = some (.int .i64 0) := (blk_cell BK103.out 0).trans rfl; have hcz10_1 : w5.cell? ⟨gb103, 1, none⟩ = some (.slice none 0 0) := (blk_cell BK103.out 1).trans rfl; have hfz10_0 := blk_frozen BK103.out 0; have hfz10_1 := blk_frozen BK103.out 1) | ((with_reducible refine gate_callee (f := 70) rfl ?_); refine gl 9 Try.func70 #[.slice A0_1 l0_1.length c0_1] ?_; (with_reducible refine (laws_toTieS.calls k _ _ l0_1 t100 _ ?side1 ?side2 A2.out).mono ?_); (case side1 => exact Kd.C_below HR0_1.out (qb HB.out)); (case side2 => exact HC0_1.out); rintro e w11 ⟨v104, rfl, ho0, hb⟩; refine ⟨_, rfl, ?_⟩; have HO105 := q0 (Kd.R_lower ho0 (below_size (qb HB.out))); replace BK101 := q0 (kf BK101.out hb); replace BK102 := q0 (kf BK102.out hb); replace BK103 := q0 (blk_below (g := gb103) (o := .cells #[.int .i64 a0_0, .slice none 0 0] 25 (0, 0)) (by (with_reducible repeat (first | refine blk_drewN ?_ _ | refine blk_drew ?_ | refine blk_alloc ?_ _)); refine blk_put (cs := #[.int .i64 0, .slice none 0 0]) ?_ 0 _ rfl; (with_reducible repeat (first | refine blk_drewN ?_ _ | refine blk_drew ?_ | refine blk_alloc ?_ _)); exact BK103.out) hb); replace HB := q0 (below_step (qb HB.out) hb); (try clear hb); (try clear hb2); (try clear hk); (try clear hi); (try clear ho0); obtain ⟨Ao12, co12, eo12⟩ := Kd.R_slice HO105.out; subst eo12; have hcz13_0 : w11.cell? ⟨gb103, 0, none⟩ = some (.int .i64 a0_0) := (blk_cell BK103.out 0).trans rfl; have hcz13_1 : w11.cell? ⟨gb103, 1, none⟩ = some (.slice none 0 0) := (blk_cell BK103.out 1).trans rfl; have hfz13_0 := blk_frozen BK103.out 0; have hfz13_1 := blk_frozen BK103.out 1; have hcz14_0 : w11.cell? ⟨gb102, 0, none⟩ = some (.int .i64 0) := (blk_cell BK102.out 0).trans rfl; have hcz14_1 : w11.cell? ⟨gb102, 1, none⟩ = some (.slice none 0 0) := (blk_cell BK102.out 1).trans rfl; have hfz14_0 := blk_frozen BK102.out 0; have hfz14_1 := blk_frozen BK102.out 1))
 refine bodyPost_ret (results_cell_row rfl _ _ gb102 25 #[.int .i64 a0_0, .slice Ao12 t100.length co12] (0, 0) _ rfl (by (with_reducible repeat (first | refine blk_drewN ?_ _ | refine blk_drew ?_ | refine blk_alloc ?_ _)); refine blk_put (cs := #[.int .i64 a0_0, .slice none 0 0]) ?_ 1 _ rfl; (with_reducible repeat (first | refine blk_drewN ?_ _ | refine blk_drew ?_ | refine blk_alloc ?_ _)); refine blk_put (cs := #[.int .i64 0, .slice none 0 0]) ?_ 0 _ rfl; (with_reducible repeat (first | refine blk_drewN ?_ _ | refine blk_drew ?_ | refine blk_alloc ?_ _)); refine blk_far ?_ NB102_103.out _; (with_reducible repeat (first | refine blk_drewN ?_ _ | refine blk_drew ?_ | refine blk_alloc ?_ _)); exact BK102.out) Try.underlying25 rfl (by kernel_rfl)) rfl ?_
 exact ⟨_, qe, by (with_reducible repeat (first | apply Kd.R_alloc | apply Kd.R_drewN | apply Kd.R_drew)); exact Kd.R_mono (Kd.R_far (p := ⟨gb102, 1, none⟩) (Kd.R_far (p := ⟨gb102, 0, none⟩) (Kd.R_far (p := ⟨gb103, 1, none⟩) (Kd.R_types (Kd.R_types HO105.out BK103.out (by decide)) BK102.out (by decide)) (fun _ hk => hk.1.2) (.slice Ao12 t100.length co12)) (fun _ hk => hk.2) (.int .i64 a0_0)) (fun _ hk => hk.2) (.slice Ao12 t100.length co12)) (fun _ hk => trivial), qb HB.out⟩

set_option maxHeartbeats 8000000 in
set_option maxRecDepth 100000 in
theorem laws_eqTie.calls (a0_0 : Int) (a0_1 : Int) (a1_0 : Int) (a1_1 : Int) (r : Bool) (w : World) (h : laws_eqTie.f a0_0 a0_1 a1_0 a1_1 = some r) :
    Calls Try.prog 101 #[.agg #[.int .i64 a0_0, .int .i64 a0_1], .agg #[.int .i64 a1_0, .int .i64 a1_1]] w fun e w' => e = .returned (.bool r) ∧ Below w.heap.size w w' := by
 have hu32 := Try.underlying32
 have HB := q0 (Below.refl w.heap.size w)
 have H : (if a0_0 = a1_0 then (if a0_1 = a1_1 then (some true) else (some false)) else (some false)) = some r := h
 clear h
 by_cases c3 : a0_0 = a1_0
 rotate_left
 · rw [if_neg c3] at H
   have c3b0 : (a0_0 == a1_0) = false := beq_eq_false_iff_ne.mpr c3
   have c3b1 : (a0_0 != a1_0) = true := bne_iff_ne.mpr c3
   obtain rfl := Option.some.inj H
   go_enter Try.func101, Try.ntmps101
   go_wp2_with (first | ((with_reducible refine gate_dst (N := 2) rfl ?_); refine be 2 #[.int .i64 a0_0, .int .i64 a0_1] 32 ?_; intro gb100 hg w15 hbox hb; have BK100 := q0 (hbox); have GW100 := q0 ((bs HB.out hg : w.heap.size ≤ gb100)); have GE100 := q0 ((bs HB.out hg : w.heap.size ≤ gb100)); replace HB := q0 (below_step (qb HB.out) hb); clear hb hbox hg) | ((with_reducible refine gate_dst (N := 3) rfl ?_); refine be 3 #[.int .i64 a1_0, .int .i64 a1_1] 32 ?_; intro gb101 hg w16 hbox hb; have BK101 := q0 (hbox); have GW101 := q0 ((bs HB.out hg : w.heap.size ≤ gb101)); have GE101 := q0 ((bs HB.out hg : w.heap.size ≤ gb101)); replace HB := q0 (below_step (qb HB.out) hb); have NB100_101 := q0 ((bl BK100.out hg : gb100 ≠ gb101)); have NB101_100 := q0 ((bg BK100.out hg : gb101 ≠ gb100)); replace BK100 := q0 (kb BK100.out hb); clear hb hbox hg; have hnb17 := NB100_101.out; have hnc17 := NB101_100.out; have hcz18_0 : w16.cell? ⟨gb100, 0, none⟩ = some (.int .i64 a0_0) := (blk_cell BK100.out 0).trans rfl; have hcz18_1 : w16.cell? ⟨gb100, 1, none⟩ = some (.int .i64 a0_1) := (blk_cell BK100.out 1).trans rfl; have hfz18_0 := blk_frozen BK100.out 0; have hfz18_1 := blk_frozen BK100.out 1; have hcz19_0 : w16.cell? ⟨gb101, 0, none⟩ = some (.int .i64 a1_0) := (blk_cell BK101.out 0).trans rfl; have hcz19_1 : w16.cell? ⟨gb101, 1, none⟩ = some (.int .i64 a1_1) := (blk_cell BK101.out 1).trans rfl; have hfz19_0 := blk_frozen BK101.out 0; have hfz19_1 := blk_frozen BK101.out 1))
   go_ret
   exact ⟨qe, qb HB.out⟩
 rw [if_pos c3] at H
 have c3b0 : (a0_0 == a1_0) = true := beq_iff_eq.mpr c3
 have c3b1 : (a0_0 != a1_0) = false := bne_eq_false_iff_eq.mpr c3
 clear c3
 by_cases c4 : a0_1 = a1_1
 rotate_left
 · rw [if_neg c4] at H
   have c4b0 : (a0_1 == a1_1) = false := beq_eq_false_iff_ne.mpr c4
   have c4b1 : (a0_1 != a1_1) = true := bne_iff_ne.mpr c4
   obtain rfl := Option.some.inj H
   go_enter Try.func101, Try.ntmps101
   go_wp2_with (first | ((with_reducible refine gate_dst (N := 2) rfl ?_); refine be 2 #[.int .i64 a0_0, .int .i64 a0_1] 32 ?_; intro gb100 hg w10 hbox hb; have BK100 := q0 (hbox); have GW100 := q0 ((bs HB.out hg : w.heap.size ≤ gb100)); have GE100 := q0 ((bs HB.out hg : w.heap.size ≤ gb100)); replace HB := q0 (below_step (qb HB.out) hb); clear hb hbox hg) | ((with_reducible refine gate_dst (N := 3) rfl ?_); refine be 3 #[.int .i64 a1_0, .int .i64 a1_1] 32 ?_; intro gb101 hg w11 hbox hb; have BK101 := q0 (hbox); have GW101 := q0 ((bs HB.out hg : w.heap.size ≤ gb101)); have GE101 := q0 ((bs HB.out hg : w.heap.size ≤ gb101)); replace HB := q0 (below_step (qb HB.out) hb); have NB100_101 := q0 ((bl BK100.out hg : gb100 ≠ gb101)); have NB101_100 := q0 ((bg BK100.out hg : gb101 ≠ gb100)); replace BK100 := q0 (kb BK100.out hb); clear hb hbox hg; have hnb12 := NB100_101.out; have hnc12 := NB101_100.out; have hcz13_0 : w11.cell? ⟨gb100, 0, none⟩ = some (.int .i64 a0_0) := (blk_cell BK100.out 0).trans rfl; have hcz13_1 : w11.cell? ⟨gb100, 1, none⟩ = some (.int .i64 a0_1) := (blk_cell BK100.out 1).trans rfl; have hfz13_0 := blk_frozen BK100.out 0; have hfz13_1 := blk_frozen BK100.out 1; have hcz14_0 : w11.cell? ⟨gb101, 0, none⟩ = some (.int .i64 a1_0) := (blk_cell BK101.out 0).trans rfl; have hcz14_1 : w11.cell? ⟨gb101, 1, none⟩ = some (.int .i64 a1_1) := (blk_cell BK101.out 1).trans rfl; have hfz14_0 := blk_frozen BK101.out 0; have hfz14_1 := blk_frozen BK101.out 1))
   go_ret
   exact ⟨qe, qb HB.out⟩
 rw [if_pos c4] at H
 have c4b0 : (a0_1 == a1_1) = true := beq_iff_eq.mpr c4
 have c4b1 : (a0_1 != a1_1) = false := bne_eq_false_iff_eq.mpr c4
 clear c4
 obtain rfl := Option.some.inj H
 go_enter Try.func101, Try.ntmps101
 go_wp2_with (first | ((with_reducible refine gate_dst (N := 2) rfl ?_); refine be 2 #[.int .i64 a0_0, .int .i64 a0_1] 32 ?_; intro gb100 hg w5 hbox hb; have BK100 := q0 (hbox); have GW100 := q0 ((bs HB.out hg : w.heap.size ≤ gb100)); have GE100 := q0 ((bs HB.out hg : w.heap.size ≤ gb100)); replace HB := q0 (below_step (qb HB.out) hb); clear hb hbox hg) | ((with_reducible refine gate_dst (N := 3) rfl ?_); refine be 3 #[.int .i64 a1_0, .int .i64 a1_1] 32 ?_; intro gb101 hg w6 hbox hb; have BK101 := q0 (hbox); have GW101 := q0 ((bs HB.out hg : w.heap.size ≤ gb101)); have GE101 := q0 ((bs HB.out hg : w.heap.size ≤ gb101)); replace HB := q0 (below_step (qb HB.out) hb); have NB100_101 := q0 ((bl BK100.out hg : gb100 ≠ gb101)); have NB101_100 := q0 ((bg BK100.out hg : gb101 ≠ gb100)); replace BK100 := q0 (kb BK100.out hb); clear hb hbox hg; have hnb7 := NB100_101.out; have hnc7 := NB101_100.out; have hcz8_0 : w6.cell? ⟨gb100, 0, none⟩ = some (.int .i64 a0_0) := (blk_cell BK100.out 0).trans rfl; have hcz8_1 : w6.cell? ⟨gb100, 1, none⟩ = some (.int .i64 a0_1) := (blk_cell BK100.out 1).trans rfl; have hfz8_0 := blk_frozen BK100.out 0; have hfz8_1 := blk_frozen BK100.out 1; have hcz9_0 : w6.cell? ⟨gb101, 0, none⟩ = some (.int .i64 a1_0) := (blk_cell BK101.out 0).trans rfl; have hcz9_1 : w6.cell? ⟨gb101, 1, none⟩ = some (.int .i64 a1_1) := (blk_cell BK101.out 1).trans rfl; have hfz9_0 := blk_frozen BK101.out 0; have hfz9_1 := blk_frozen BK101.out 1))
 go_ret
 exact ⟨qe, qb HB.out⟩

def laws_eqTieS.T6 : Bool × List (List Nat × List Nat) := (true, [([], []), ([], []), ([0, 1], [0, 1]), ([2], [2]), ([], []), ([], []), ([4, 5], [4, 5]), ([6], [6]), ([3, 7], [3, 7]), ([8], [8])])
def laws_eqTieS.B6 : List Nat := [0, 0, 3, 7, 0, 0, 48, 112, 255, 511]
theorem laws_eqTieS.tab6 : rtab .any (opsOf Try.f74 6) = laws_eqTieS.T6 := by kernel_rfl
theorem laws_eqTieS.bits6 : waitsOk laws_eqTieS.T6.2 laws_eqTieS.B6 = true := by kernel_rfl
set_option maxHeartbeats 8000000 in
set_option maxRecDepth 100000 in
theorem laws_eqTieS.calls (k : Nat) (A0 : Option Addr) (c0 : Nat) (l0 : List (STie)) (A1 : Option Addr) (c1 : Nat) (l1 : List (STie)) (r : Bool) (w : World) (hr0 : Kd.C kTie w A0 l0.length l0) (hc0 : l0.length ≤ c0) (hr1 : Kd.C kTie w A1 l1.length l1) (hc1 : l1.length ≤ c1) (h : laws_eqTieS.f k l0 l1 = some r) :
    Calls Try.prog 74 #[.slice A0 l0.length c0, .slice A1 l1.length c1] w fun e w' => e = .returned (.bool r) ∧ Below w.heap.size w w' := by
 have hu32 := Try.underlying32
 have HR0 := Aside0.mk hr0
 have HC0 := Aside0.mk hc0
 clear hr0 hc0
 have HR1 := Aside0.mk hr1
 have HC1 := Aside0.mk hc1
 clear hr1 hc1
 have HB := q0 (Below.refl w.heap.size w)
 have H : (if (l0.length : Int) = (l1.length : Int) then (laws_eqTieS.l0 k l0 l1 0) else (some false)) = some r := h
 clear h
 by_cases c3 : (l0.length : Int) = (l1.length : Int)
 rotate_left
 · rw [if_neg c3] at H
   have c3b0 : ((l0.length : Int) == (l1.length : Int)) = false := beq_eq_false_iff_ne.mpr c3
   have c3b1 : ((l0.length : Int) != (l1.length : Int)) = true := bne_iff_ne.mpr c3
   have c3b2 : (l0.length == l1.length) = false := by first | simpa using c3 | (simp at c3 ⊢; omega)
   obtain rfl := Option.some.inj H
   go_enter Try.func74, Try.ntmps74
   go_wp2
   go_ret
   exact ⟨qe, qb HB.out⟩
 rw [if_pos c3] at H
 have c3b0 : ((l0.length : Int) == (l1.length : Int)) = true := beq_iff_eq.mpr c3
 have c3b1 : ((l0.length : Int) != (l1.length : Int)) = false := bne_eq_false_iff_eq.mpr c3
 have c3b2 : (l0.length == l1.length) = true := by first | simpa using c3 | (simp at c3 ⊢; omega)
 clear c3
 have H' := Aside0.mk H
 clear H
 go_enter Try.func74, Try.ntmps74
 go_wp2
 go_loopg [5] k (fun kq v5 w' => ∃ (x5_1 : Int), v5 = .int .i64 x5_1 ∧ Aside0 (laws_eqTieS.l0 kq l0 l1 x5_1 = some r) ∧ Aside0 (kq ≤ k) ∧ Aside0 (Below w.heap.size w w'))
 case atStart => exact ⟨(0), qs, H', ⟨Nat.le_refl _⟩, ⟨qb HB.out⟩⟩
 clear H'
 try clear c1
 try clear p2
 try clear c3
 try clear c3b0
 try clear c3b1
 try clear c3b2
 obtain ⟨x5_1, rfl, HA, HK1, HB⟩ := hrel
 rcases gk with _ | k1
 · exact absurd HA.out (by simp [laws_eqTieS.l0])
 have H := HA.out
 clear HA
 simp only [laws_eqTieS.l0] at H
 by_cases c4 : x5_1 < (l0.length : Int)
 rotate_left
 · rw [if_neg c4] at H
   have c4b0 : decide (x5_1 < (l0.length : Int)) = false := decide_eq_false c4
   clear c4
   obtain rfl := Option.some.inj H
   go_wp2
   go_ret
   exact ⟨qe, qb HB.out⟩
 rw [if_pos c4] at H
 have c4b0 : decide (x5_1 < (l0.length : Int)) = true := decide_eq_true c4
 clear c4
 by_cases c5 : 0 ≤ x5_1
 rotate_left
 · rw [if_neg c5] at H
   exact absurd H (by simp)
 rw [if_pos c5] at H
 have c5b0 : decide (0 ≤ x5_1) = true := decide_eq_true c5
 clear c5
 by_cases c6 : x5_1 < (l1.length : Int)
 rotate_left
 · rw [if_neg c6] at H
   exact absurd H (by simp)
 rw [if_pos c6] at H
 have c6b0 : decide (x5_1 < (l1.length : Int)) = true := decide_eq_true c6
 clear c6
 replace H := Option.bind_eq_some_iff.mp H
 obtain ⟨t100, A70, H⟩ := H
 have A7 := Aside0.mk A70
 clear A70
 by_cases c8 : t100 = true
 rotate_left
 · replace c8 := Bool.eq_false_iff.mpr c8
   subst c8
   rw [if_neg nf] at H
   obtain rfl := Option.some.inj H
   try go_wp2
   replace HB := q0 (below_drew1 HB.out)
   have p101 : 0 ≤ (x5_1 : Int) := of_decide_eq_true qa
   have q101 : x5_1 < (l0.length : Int) := of_decide_eq_true qa
   obtain ⟨ad101, e101, hx101_0, hx101_1⟩ := at_TTie HR0.out x5_1 p101 q101
   have hw101_1 := hx101_1
   have hw101_0 := hx101_0
   cases e101
   replace hx101_0 := (HB.out.cell (World.block_lt_of_cell? w _ hx101_0)).trans hx101_0
   replace hx101_1 := (HB.out.cell (World.block_lt_of_cell? w _ hx101_1)).trans hx101_1
   replace p101 := eq_true p101
   replace q101 := eq_true q101
   have p102 : 0 ≤ (x5_1 : Int) := of_decide_eq_true qa
   have q102 : x5_1 < (l1.length : Int) := of_decide_eq_true qa
   obtain ⟨ad102, e102, hx102_0, hx102_1⟩ := at_TTie HR1.out x5_1 p102 q102
   have hw102_1 := hx102_1
   have hw102_0 := hx102_0
   cases e102
   replace hx102_0 := (HB.out.cell (World.block_lt_of_cell? w _ hx102_0)).trans hx102_0
   replace hx102_1 := (HB.out.cell (World.block_lt_of_cell? w _ hx102_1)).trans hx102_1
   replace p102 := eq_true p102
   replace q102 := eq_true q102
   refine start_ (n := 10) (S := fun w' => w'.cell? (ad101.add ((x5_1).toNat * 2)) = some (.int .i64 ((rd_TTie l0 x5_1).f0)) ∧ w'.cell? ⟨(ad101.add ((x5_1).toNat * 2)).block, (ad101.add ((x5_1).toNat * 2)).off + 1, none⟩ = some (.int .i64 ((rd_TTie l0 x5_1).f1)) ∧ w'.cell? (ad102.add ((x5_1).toNat * 2)) = some (.int .i64 ((rd_TTie l1 x5_1).f0)) ∧ w'.cell? ⟨(ad102.add ((x5_1).toNat * 2)).block, (ad102.add ((x5_1).toNat * 2)).off + 1, none⟩ = some (.int .i64 ((rd_TTie l1 x5_1).f1))) (ds := []) (ba 10 0) (by kernel_rfl) rfl (by kernel_rfl) ⟨((HB.out.cell (World.block_lt_of_cell? w _ hw101_0)).trans hw101_0), ((HB.out.cell (World.block_lt_of_cell? w _ hw101_1)).trans hw101_1), ((HB.out.cell (World.block_lt_of_cell? w _ hw102_0)).trans hw102_0), ((HB.out.cell (World.block_lt_of_cell? w _ hw102_1)).trans hw102_1)⟩ (fun hHeld => ?_); refine with_tabW laws_eqTieS.tab6 laws_eqTieS.bits6 (fun HT_ HW_ => ?_)
   generalize wr.drew = w11 at HB hx101_0 hx101_1 hx102_0 hx102_1 hHeld ⊢
   refine pu 0 (some 17) (ba 10 1) HT_.out ?_
   refine pu 1 (some 18) (ba 10 3) HT_.out ?_
   refine pu 2 (some 19) (ba 10 7) HT_.out ?_
   refine pu 4 (some 21) (ba 10 23) HT_.out ?_
   refine pu 5 (some 22) (ba 10 55) HT_.out ?_
   refine pu 6 (some 23) (ba 10 119) HT_.out ?_
   refine tu 3 (some 20) (ba 10 127) HT_.out HW_.out hHeld ?_
   refine tu 7 (some 24) (ba 10 255) HT_.out HW_.out hHeld ?_
   refine one_ (i := 8) (N := some 25) (ba 10 511) rfl rfl (one_of HT_.out (by kernel_rfl)) (by decide) (fun K hK => ?_)
   refine goes_ Try.func101 (by kernel_rfl) rfl #[.agg #[.int .i64 ((rd_TTie l0 x5_1).f0), .int .i64 ((rd_TTie l0 x5_1).f1)], .agg #[.int .i64 ((rd_TTie l1 x5_1).f0), .int .i64 ((rd_TTie l1 x5_1).f1)]] (by rfl) rfl rfl qm ?_
   with_reducible refine (laws_eqTie.calls ((rd_TTie l0 x5_1).f0) ((rd_TTie l0 x5_1).f1) ((rd_TTie l1 x5_1).f0) ((rd_TTie l1 x5_1).f1) false _ A7.out).mono ?_
   rintro e w12 ⟨rfl, hb⟩
   refine ⟨_, rfl, ?_⟩
   replace HB := q0 (below_step (qb HB.out) hb)
   (try clear hb)
   (try clear hb2)
   (try clear hk)
   (try clear hi)
   refine hK.out _ _ ⟨((HB.out.cell (World.block_lt_of_cell? w _ hw101_0)).trans hw101_0), ((HB.out.cell (World.block_lt_of_cell? w _ hw101_1)).trans hw101_1), ((HB.out.cell (World.block_lt_of_cell? w _ hw102_0)).trans hw102_0), ((HB.out.cell (World.block_lt_of_cell? w _ hw102_1)).trans hw102_1)⟩ (fun hHeld => ?_)
   clear hK K
   refine nu 25 ?_
   refine pu 9 (some 26) (ba 10 1023) HT_.out ?_
   refine done_ (done_of HT_.out (by kernel_rfl)) ?_
   try go_wp2
   go_ret
   exact ⟨qe, qb HB.out⟩
 subst c8
 rw [if_pos rfl] at H
 have H' := Aside0.mk H
 clear H
 try go_wp2
 replace HB := q0 (below_drew1 HB.out)
 have p101 : 0 ≤ (x5_1 : Int) := of_decide_eq_true qa
 have q101 : x5_1 < (l0.length : Int) := of_decide_eq_true qa
 obtain ⟨ad101, e101, hx101_0, hx101_1⟩ := at_TTie HR0.out x5_1 p101 q101
 have hw101_1 := hx101_1
 have hw101_0 := hx101_0
 cases e101
 replace hx101_0 := (HB.out.cell (World.block_lt_of_cell? w _ hx101_0)).trans hx101_0
 replace hx101_1 := (HB.out.cell (World.block_lt_of_cell? w _ hx101_1)).trans hx101_1
 replace p101 := eq_true p101
 replace q101 := eq_true q101
 have p102 : 0 ≤ (x5_1 : Int) := of_decide_eq_true qa
 have q102 : x5_1 < (l1.length : Int) := of_decide_eq_true qa
 obtain ⟨ad102, e102, hx102_0, hx102_1⟩ := at_TTie HR1.out x5_1 p102 q102
 have hw102_1 := hx102_1
 have hw102_0 := hx102_0
 cases e102
 replace hx102_0 := (HB.out.cell (World.block_lt_of_cell? w _ hx102_0)).trans hx102_0
 replace hx102_1 := (HB.out.cell (World.block_lt_of_cell? w _ hx102_1)).trans hx102_1
 replace p102 := eq_true p102
 replace q102 := eq_true q102
 refine start_ (n := 10) (S := fun w' => w'.cell? (ad101.add ((x5_1).toNat * 2)) = some (.int .i64 ((rd_TTie l0 x5_1).f0)) ∧ w'.cell? ⟨(ad101.add ((x5_1).toNat * 2)).block, (ad101.add ((x5_1).toNat * 2)).off + 1, none⟩ = some (.int .i64 ((rd_TTie l0 x5_1).f1)) ∧ w'.cell? (ad102.add ((x5_1).toNat * 2)) = some (.int .i64 ((rd_TTie l1 x5_1).f0)) ∧ w'.cell? ⟨(ad102.add ((x5_1).toNat * 2)).block, (ad102.add ((x5_1).toNat * 2)).off + 1, none⟩ = some (.int .i64 ((rd_TTie l1 x5_1).f1))) (ds := []) (ba 10 0) (by kernel_rfl) rfl (by kernel_rfl) ⟨((HB.out.cell (World.block_lt_of_cell? w _ hw101_0)).trans hw101_0), ((HB.out.cell (World.block_lt_of_cell? w _ hw101_1)).trans hw101_1), ((HB.out.cell (World.block_lt_of_cell? w _ hw102_0)).trans hw102_0), ((HB.out.cell (World.block_lt_of_cell? w _ hw102_1)).trans hw102_1)⟩ (fun hHeld => ?_); refine with_tabW laws_eqTieS.tab6 laws_eqTieS.bits6 (fun HT_ HW_ => ?_)
 generalize wr.drew = w9 at HB hx101_0 hx101_1 hx102_0 hx102_1 hHeld ⊢
 refine pu 0 (some 17) (ba 10 1) HT_.out ?_
 refine pu 1 (some 18) (ba 10 3) HT_.out ?_
 refine pu 2 (some 19) (ba 10 7) HT_.out ?_
 refine pu 4 (some 21) (ba 10 23) HT_.out ?_
 refine pu 5 (some 22) (ba 10 55) HT_.out ?_
 refine pu 6 (some 23) (ba 10 119) HT_.out ?_
 refine tu 3 (some 20) (ba 10 127) HT_.out HW_.out hHeld ?_
 refine tu 7 (some 24) (ba 10 255) HT_.out HW_.out hHeld ?_
 refine one_ (i := 8) (N := some 25) (ba 10 511) rfl rfl (one_of HT_.out (by kernel_rfl)) (by decide) (fun K hK => ?_)
 refine goes_ Try.func101 (by kernel_rfl) rfl #[.agg #[.int .i64 ((rd_TTie l0 x5_1).f0), .int .i64 ((rd_TTie l0 x5_1).f1)], .agg #[.int .i64 ((rd_TTie l1 x5_1).f0), .int .i64 ((rd_TTie l1 x5_1).f1)]] (by rfl) rfl rfl qm ?_
 with_reducible refine (laws_eqTie.calls ((rd_TTie l0 x5_1).f0) ((rd_TTie l0 x5_1).f1) ((rd_TTie l1 x5_1).f0) ((rd_TTie l1 x5_1).f1) true _ A7.out).mono ?_
 rintro e w10 ⟨rfl, hb⟩
 refine ⟨_, rfl, ?_⟩
 replace HB := q0 (below_step (qb HB.out) hb)
 (try clear hb)
 (try clear hb2)
 (try clear hk)
 (try clear hi)
 refine hK.out _ _ ⟨((HB.out.cell (World.block_lt_of_cell? w _ hw101_0)).trans hw101_0), ((HB.out.cell (World.block_lt_of_cell? w _ hw101_1)).trans hw101_1), ((HB.out.cell (World.block_lt_of_cell? w _ hw102_0)).trans hw102_0), ((HB.out.cell (World.block_lt_of_cell? w _ hw102_1)).trans hw102_1)⟩ (fun hHeld => ?_)
 clear hK K
 refine nu 25 ?_
 refine pu 9 (some 26) (ba 10 1023) HT_.out ?_
 refine done_ (done_of HT_.out (by kernel_rfl)) ?_
 try go_wp2
 go_roundg k1
 case measure => have := HK1.out; omega
 case rel => exact ⟨(wrap64 (x5_1 + 1)), qs, H', ⟨by have := HK1.out; omega⟩, ⟨qb HB.out⟩⟩

set_option maxHeartbeats 8000000 in
set_option maxRecDepth 100000 in
theorem laws_eqNet.calls (k : Nat) (a0_0 : Int) (A0_1 : Option Addr) (c0_1 : Nat) (l0_1 : List (STie)) (a1_0 : Int) (A1_1 : Option Addr) (c1_1 : Nat) (l1_1 : List (STie)) (r : Bool) (w : World) (hr0_1 : Kd.C kTie w A0_1 l0_1.length l0_1) (hc0_1 : l0_1.length ≤ c0_1) (hr1_1 : Kd.C kTie w A1_1 l1_1.length l1_1) (hc1_1 : l1_1.length ≤ c1_1) (h : laws_eqNet.f k a0_0 l0_1 a1_0 l1_1 = some r) :
    Calls Try.prog 30 #[.agg #[.int .i64 a0_0, .slice A0_1 l0_1.length c0_1], .agg #[.int .i64 a1_0, .slice A1_1 l1_1.length c1_1]] w fun e w' => e = .returned (.bool r) ∧ Below w.heap.size w w' := by
 have hu25 := Try.underlying25
 have HR0_1 := Aside0.mk hr0_1
 have HC0_1 := Aside0.mk hc0_1
 clear hr0_1 hc0_1
 have HR1_1 := Aside0.mk hr1_1
 have HC1_1 := Aside0.mk hc1_1
 clear hr1_1 hc1_1
 have HB := q0 (Below.refl w.heap.size w)
 have H : (if a0_0 = a1_0 then ((laws_eqTieS.f k l0_1 l1_1).bind fun t100 => (if t100 = true then (some true) else (some false))) else (some false)) = some r := h
 clear h
 by_cases c3 : a0_0 = a1_0
 rotate_left
 · rw [if_neg c3] at H
   have c3b0 : (a0_0 == a1_0) = false := beq_eq_false_iff_ne.mpr c3
   have c3b1 : (a0_0 != a1_0) = true := bne_iff_ne.mpr c3
   obtain rfl := Option.some.inj H
   go_enter Try.func30, Try.ntmps30
   go_wp2_with (first | ((with_reducible refine gate_dst (N := 2) rfl ?_); refine be 2 #[.int .i64 a0_0, .slice A0_1 l0_1.length c0_1] 25 ?_; intro gb101 hg w18 hbox hb; have BK101 := q0 (hbox); have GW101 := q0 ((bs HB.out hg : w.heap.size ≤ gb101)); have GE101 := q0 ((bs HB.out hg : w.heap.size ≤ gb101)); replace HB := q0 (below_step (qb HB.out) hb); clear hb hbox hg) | ((with_reducible refine gate_dst (N := 3) rfl ?_); refine be 3 #[.int .i64 a1_0, .slice A1_1 l1_1.length c1_1] 25 ?_; intro gb102 hg w19 hbox hb; have BK102 := q0 (hbox); have GW102 := q0 ((bs HB.out hg : w.heap.size ≤ gb102)); have GE102 := q0 ((bs HB.out hg : w.heap.size ≤ gb102)); replace HB := q0 (below_step (qb HB.out) hb); have NB101_102 := q0 ((bl BK101.out hg : gb101 ≠ gb102)); have NB102_101 := q0 ((bg BK101.out hg : gb102 ≠ gb101)); replace BK101 := q0 (kb BK101.out hb); clear hb hbox hg; have hnb20 := NB101_102.out; have hnc20 := NB102_101.out; have hcz21_0 : w19.cell? ⟨gb101, 0, none⟩ = some (.int .i64 a0_0) := (blk_cell BK101.out 0).trans rfl; have hcz21_1 : w19.cell? ⟨gb101, 1, none⟩ = some (.slice A0_1 l0_1.length c0_1) := (blk_cell BK101.out 1).trans rfl; have hfz21_0 := blk_frozen BK101.out 0; have hfz21_1 := blk_frozen BK101.out 1; have hcz22_0 : w19.cell? ⟨gb102, 0, none⟩ = some (.int .i64 a1_0) := (blk_cell BK102.out 0).trans rfl; have hcz22_1 : w19.cell? ⟨gb102, 1, none⟩ = some (.slice A1_1 l1_1.length c1_1) := (blk_cell BK102.out 1).trans rfl; have hfz22_0 := blk_frozen BK102.out 0; have hfz22_1 := blk_frozen BK102.out 1))
   go_ret
   exact ⟨qe, qb HB.out⟩
 rw [if_pos c3] at H
 have c3b0 : (a0_0 == a1_0) = true := beq_iff_eq.mpr c3
 have c3b1 : (a0_0 != a1_0) = false := bne_eq_false_iff_eq.mpr c3
 clear c3
 replace H := Option.bind_eq_some_iff.mp H
 obtain ⟨t100, A40, H⟩ := H
 have A4 := Aside0.mk A40
 clear A40
 by_cases c5 : t100 = true
 · subst c5
   rw [if_pos rfl] at H
   obtain rfl := Option.some.inj H
   go_enter Try.func30, Try.ntmps30
   go_wp2_with (first | ((with_reducible refine gate_dst (N := 2) rfl ?_); refine be 2 #[.int .i64 a0_0, .slice A0_1 l0_1.length c0_1] 25 ?_; intro gb101 hg w6 hbox hb; have BK101 := q0 (hbox); have GW101 := q0 ((bs HB.out hg : w.heap.size ≤ gb101)); have GE101 := q0 ((bs HB.out hg : w.heap.size ≤ gb101)); replace HB := q0 (below_step (qb HB.out) hb); clear hb hbox hg) | ((with_reducible refine gate_dst (N := 3) rfl ?_); refine be 3 #[.int .i64 a1_0, .slice A1_1 l1_1.length c1_1] 25 ?_; intro gb102 hg w7 hbox hb; have BK102 := q0 (hbox); have GW102 := q0 ((bs HB.out hg : w.heap.size ≤ gb102)); have GE102 := q0 ((bs HB.out hg : w.heap.size ≤ gb102)); replace HB := q0 (below_step (qb HB.out) hb); have NB101_102 := q0 ((bl BK101.out hg : gb101 ≠ gb102)); have NB102_101 := q0 ((bg BK101.out hg : gb102 ≠ gb101)); replace BK101 := q0 (kb BK101.out hb); clear hb hbox hg; have hnb8 := NB101_102.out; have hnc8 := NB102_101.out; have hcz9_0 : w7.cell? ⟨gb101, 0, none⟩ = some (.int .i64 a0_0) := (blk_cell BK101.out 0).trans rfl; have hcz9_1 : w7.cell? ⟨gb101, 1, none⟩ = some (.slice A0_1 l0_1.length c0_1) := (blk_cell BK101.out 1).trans rfl; have hfz9_0 := blk_frozen BK101.out 0; have hfz9_1 := blk_frozen BK101.out 1; have hcz10_0 : w7.cell? ⟨gb102, 0, none⟩ = some (.int .i64 a1_0) := (blk_cell BK102.out 0).trans rfl; have hcz10_1 : w7.cell? ⟨gb102, 1, none⟩ = some (.slice A1_1 l1_1.length c1_1) := (blk_cell BK102.out 1).trans rfl; have hfz10_0 := blk_frozen BK102.out 0; have hfz10_1 := blk_frozen BK102.out 1) | ((with_reducible refine gate_callee (f := 74) rfl ?_); refine gl 14 Try.func74 #[.slice A0_1 l0_1.length c0_1, .slice A1_1 l1_1.length c1_1] ?_; (with_reducible refine (laws_eqTieS.calls k _ _ l0_1 _ _ l1_1 true _ ?side1 ?side2 ?side3 ?side4 A4.out).mono ?_); (case side1 => exact qc (Kd.C_below HR0_1.out HB.out)); (case side2 => exact HC0_1.out); (case side3 => exact qc (Kd.C_below HR1_1.out HB.out)); (case side4 => exact HC1_1.out); rintro e w11 ⟨rfl, hb⟩; refine ⟨_, rfl, ?_⟩; replace BK101 := q0 (kb BK101.out hb); replace BK102 := q0 (kb BK102.out hb); replace HB := q0 (below_step (qb HB.out) hb); (try clear hb); (try clear hb2); (try clear hk); (try clear hi)))
   go_ret
   exact ⟨qe, qb HB.out⟩
 replace c5 := Bool.eq_false_iff.mpr c5
 subst c5
 rw [if_neg nf] at H
 obtain rfl := Option.some.inj H
 go_enter Try.func30, Try.ntmps30
 go_wp2_with (first | ((with_reducible refine gate_dst (N := 2) rfl ?_); refine be 2 #[.int .i64 a0_0, .slice A0_1 l0_1.length c0_1] 25 ?_; intro gb101 hg w12 hbox hb; have BK101 := q0 (hbox); have GW101 := q0 ((bs HB.out hg : w.heap.size ≤ gb101)); have GE101 := q0 ((bs HB.out hg : w.heap.size ≤ gb101)); replace HB := q0 (below_step (qb HB.out) hb); clear hb hbox hg) | ((with_reducible refine gate_dst (N := 3) rfl ?_); refine be 3 #[.int .i64 a1_0, .slice A1_1 l1_1.length c1_1] 25 ?_; intro gb102 hg w13 hbox hb; have BK102 := q0 (hbox); have GW102 := q0 ((bs HB.out hg : w.heap.size ≤ gb102)); have GE102 := q0 ((bs HB.out hg : w.heap.size ≤ gb102)); replace HB := q0 (below_step (qb HB.out) hb); have NB101_102 := q0 ((bl BK101.out hg : gb101 ≠ gb102)); have NB102_101 := q0 ((bg BK101.out hg : gb102 ≠ gb101)); replace BK101 := q0 (kb BK101.out hb); clear hb hbox hg; have hnb14 := NB101_102.out; have hnc14 := NB102_101.out; have hcz15_0 : w13.cell? ⟨gb101, 0, none⟩ = some (.int .i64 a0_0) := (blk_cell BK101.out 0).trans rfl; have hcz15_1 : w13.cell? ⟨gb101, 1, none⟩ = some (.slice A0_1 l0_1.length c0_1) := (blk_cell BK101.out 1).trans rfl; have hfz15_0 := blk_frozen BK101.out 0; have hfz15_1 := blk_frozen BK101.out 1; have hcz16_0 : w13.cell? ⟨gb102, 0, none⟩ = some (.int .i64 a1_0) := (blk_cell BK102.out 0).trans rfl; have hcz16_1 : w13.cell? ⟨gb102, 1, none⟩ = some (.slice A1_1 l1_1.length c1_1) := (blk_cell BK102.out 1).trans rfl; have hfz16_0 := blk_frozen BK102.out 0; have hfz16_1 := blk_frozen BK102.out 1) | ((with_reducible refine gate_callee (f := 74) rfl ?_); refine gl 14 Try.func74 #[.slice A0_1 l0_1.length c0_1, .slice A1_1 l1_1.length c1_1] ?_; (with_reducible refine (laws_eqTieS.calls k _ _ l0_1 _ _ l1_1 false _ ?side1 ?side2 ?side3 ?side4 A4.out).mono ?_); (case side1 => exact qc (Kd.C_below HR0_1.out HB.out)); (case side2 => exact HC0_1.out); (case side3 => exact qc (Kd.C_below HR1_1.out HB.out)); (case side4 => exact HC1_1.out); rintro e w17 ⟨rfl, hb⟩; refine ⟨_, rfl, ?_⟩; replace BK101 := q0 (kb BK101.out hb); replace BK102 := q0 (kb BK102.out hb); replace HB := q0 (below_step (qb HB.out) hb); (try clear hb); (try clear hb2); (try clear hk); (try clear hi)))
 go_ret
 exact ⟨qe, qb HB.out⟩

set_option maxHeartbeats 8000000 in
set_option maxRecDepth 100000 in
theorem laws_markTieS.calls (k : Nat) (P0_ : Nat → Prop) (u101_ : Value) (l0 : List (STie)) (a1 : Int) (r1 : Int) (r2 : List (STie)) (w0 w : World) (hB : Below w0.heap.size w0 w) (ho0 : Kd.R kTie 32 w w0.heap.size P0_ u101_ l0) (h : laws_markTieS.f k l0 a1 = some (r1, r2)) :
    Calls Try.prog 75 #[u101_, .int .i64 a1] w fun e w' => e = .returned (.int .i64 r1) ∧ Kd.R kTie 32 w' w0.heap.size (fun k_ => (P0_ k_ ∨ w.heap.size ≤ k_)) u101_ r2 ∧ Below w0.heap.size w0 w' ∧ Kept w w' (fun k_ => P0_ k_) := by
 have HO0 := q0 (show Kd.R kTie 32 w w0.heap.size (fun k_ => (P0_ k_ ∨ w.heap.size ≤ k_)) u101_ l0 from Kd.R_mono ho0 (fun k_ hk => (.inl hk)))
 have HK := q0 (Kept.refl w (fun k_ => P0_ k_))
 have HW0 := Aside0.mk hB.size
 have HB := Aside0.mk hB
 clear hB
 have H : (laws_markTieS.l0 k l0 a1 0) = some (r1, r2) := h
 clear h
 have H' := Aside0.mk H
 clear H
 go_enter Try.func75, Try.ntmps75
 go_wp2
 go_loopg [1, 5] k (fun kq v1 v5 w' => ∃ (x0_1 : List (STie)) (x1_1 : Int) (x5_1 : Int), v1 = .int .i64 x1_1 ∧ v5 = .int .i64 x5_1 ∧ Aside0 (laws_markTieS.l0 kq x0_1 x1_1 x5_1 = some (r1, r2)) ∧ Aside0 (kq ≤ k) ∧ Aside0 (Kd.R kTie 32 w' w0.heap.size (fun k_ => (P0_ k_ ∨ w.heap.size ≤ k_)) u101_ x0_1) ∧ Aside0 (Kept w w' (fun k_ => P0_ k_)) ∧ Aside0 (Below w0.heap.size w0 w'))
 case atStart => exact ⟨(l0), (a1), (0), qs, qs, H', ⟨Nat.le_refl _⟩, ⟨qr HO0.out⟩, ⟨qp HK.out⟩, ⟨qb HB.out⟩⟩
 clear H'
 try clear p2
 obtain ⟨x0_1, x1_1, x5_1, rfl, rfl, HA, HK1, HO_0, HK, HB⟩ := hrel
 rcases gk with _ | k1
 · exact absurd HA.out (by simp [laws_markTieS.l0])
 have H := HA.out
 clear HA
 simp only [laws_markTieS.l0] at H
 by_cases c3 : x5_1 < (x0_1.length : Int)
 rotate_left
 · rw [if_neg c3] at H
   have c3b0 : decide (x5_1 < (x0_1.length : Int)) = false := decide_eq_false c3
   clear c3
   simp only [Option.some.injEq, Prod.mk.injEq] at H
   obtain ⟨rfl, rfl⟩ := H
   obtain ⟨Ao12, co12, eo12⟩ := Kd.R_slice HO_0.out
   subst eo12
   go_wp2
   go_ret
   exact ⟨qe, qr HO_0.out, qb HB.out, qp HK.out⟩
 rw [if_pos c3] at H
 have c3b0 : decide (x5_1 < (x0_1.length : Int)) = true := decide_eq_true c3
 clear c3
 by_cases c4 : 0 ≤ x5_1
 rotate_left
 · rw [if_neg c4] at H
   exact absurd H (by simp)
 rw [if_pos c4] at H
 have c4b0 : decide (0 ≤ x5_1) = true := decide_eq_true c4
 clear c4
 obtain ⟨y100, hy100⟩ : ∃ y_ : List (STie), y_ = (x0_1.set (x5_1 : Int).toNat (⟨x1_1, (rd_TTie x0_1 x5_1).f1⟩ : STie)) := ⟨_, rfl⟩
 replace H : (laws_markTieS.l0 k1 (y100.set (x5_1 : Int).toNat (⟨(rd_TTie y100 x5_1).f0, wrap64 (x1_1 + 1)⟩ : STie)) (wrap64 ((wrap64 (x1_1 + 1)) + 1)) (wrap64 (x5_1 + 1))) = some (r1, r2) := qy H hy100
 have Ny100 := Aside0.mk hy100
 clear hy100
 obtain ⟨y102, hy102⟩ : ∃ y_ : List (STie), y_ = (y100.set (x5_1 : Int).toNat (⟨(rd_TTie y100 x5_1).f0, wrap64 (x1_1 + 1)⟩ : STie)) := ⟨_, rfl⟩
 replace H : (laws_markTieS.l0 k1 y102 (wrap64 ((wrap64 (x1_1 + 1)) + 1)) (wrap64 (x5_1 + 1))) = some (r1, r2) := qy H hy102
 have Ny102 := Aside0.mk hy102
 clear hy102
 have H' := Aside0.mk H
 clear H
 obtain ⟨Ao7, co7, eo7⟩ := Kd.R_slice HO_0.out
 subst eo7
 have p5 : 0 ≤ (x5_1 : Int) := of_decide_eq_true qa
 have q5 : (x5_1 : Int) < ((x0_1.length : Int) : Int) := of_decide_eq_true qa
 obtain ⟨go5, co5, eo5, gb5, gl5, cl5, HG5⟩ := Kd.R_form HO_0.out (by omega)
 (first | cases eo5 | (injection eo5 with ea_ en_ ec_; (first | subst ea_ | (injection ea_ with ea_; subst ea_)); subst ec_; clear en_))
 have GB5 := Aside0.mk gb5
 have GG5 := Aside0.mk HG5
 clear gb5 gl5 HG5
 have HMgo5 := q0 (show (P0_ go5 ∨ w.heap.size ≤ go5) from (HO_0.out.1 _ rfl))
 obtain ⟨ce5, hcl5, hM5, hcc5, hfr5⟩ := Kd.R_elem HO_0.out zTie (x5_1 : Int) p5 q5
 obtain rfl := kTie_openM hM5
 have hx5_0 : wr.cell? ⟨go5, (x5_1 : Int).toNat * 2, none⟩ = some (.int .i64 ((rd_TTie x0_1 x5_1).f0)) := hcc5 0 _ rfl
 have hx5_1 : wr.cell? ⟨go5, (x5_1 : Int).toNat * 2 + 1, none⟩ = some (.int .i64 ((rd_TTie x0_1 x5_1).f1)) := hcc5 1 _ rfl
 have hf5_0 : wr.frozen? ⟨go5, (x5_1 : Int).toNat * 2, none⟩ = false := hfr5 0
 have hf5_1 : wr.frozen? ⟨go5, (x5_1 : Int).toNat * 2 + 1, none⟩ = false := hfr5 1
 clear hcl5 hcc5 hfr5 hM5
 replace p5 := eq_true p5
 replace q5 := eq_true q5
 have HX8 := q0 (show Kd.R kTie 32 wr w0.heap.size (fun k_ => (P0_ k_ ∨ w.heap.size ≤ k_)) (.slice (some ⟨go5, 0, none⟩) x0_1.length co7) x0_1 from (qr HO_0.out))
 obtain ⟨ce8, hcl8, hM8, hcc8, hfr8⟩ := Kd.R_elem HX8.out zTie (x5_1 : Int) (of_decide_eq_true qa) (by have h_ : (x5_1 : Int) < ((x0_1.length : Int) : Int) := of_decide_eq_true qa; first | exact h_ | (have e_ := (Kd.R_reads' HO_0.out).1; omega) | simpa using h_)
 obtain rfl := kTie_openM hM8
 have HP8 := Kd.R_seg HX8.out (x5_1 : Int) (of_decide_eq_true qa) (by have h_ : (x5_1 : Int) < ((x0_1.length : Int) : Int) := of_decide_eq_true qa; first | exact h_ | (have e_ := (Kd.R_reads' HO_0.out).1; omega) | simpa using h_) (seg := [.int .i64 x1_1]) (j := 0) hcl8 hcc8 (show 1 ≤ 2 from by decide) (x' := (⟨x1_1, (rd_TTie x0_1 x5_1).f1⟩ : STie)) (kTie_mkM _ _ _ (⟨x1_1, (rd_TTie x0_1 x5_1).f1⟩ : STie) ) (fun _ hk => hk)
 have hx8_0 := hcc8 0 _ rfl
 (try simp only [show (kTie).sz = 2 from rfl, Nat.mul_one, Nat.add_zero] at hx8_0)
 have hf8_0 := hfr8 0
 (try simp only [show (kTie).sz = 2 from rfl, Nat.mul_one, Nat.add_zero] at hf8_0)
 clear hcl8 hcc8 hfr8 hM8
 go_wp2_with (first | ((with_reducible refine gate_store (t := 3) (p := 16) rfl ?_); refine store_event (t := 3) (p := 16) (v := ?vo_w9) (w1 := (wr.setCell ⟨go5, (x5_1 : Int).toNat * 2, none⟩ (.int .i64 x1_1))) ?hg ?ho ?hn ?hr ?_; (case ho => rfl); (case hg => rfl); (case hn => rfl); (case hr => first | (go_simp; done) | (go_simp; rfl)); intro w9 hw; have hg : wr.grownBy w9 (some go5) := (by rw [hw]; exact HP8.2); have hp_ : Kd.R kTie 32 w9 w0.heap.size (fun k_ => (P0_ k_ ∨ w.heap.size ≤ k_)) (.slice (some ⟨go5, 0, none⟩) x0_1.length co7) y100 := (by rw [hw, Ny100.out]; exact HP8.1); clear HP8; replace HB := q0 ((by rw [hw]; exact below_set (HB.out) GB5.out : Below w0.heap.size w0 w9)); replace HK := q0 (Kept.of_grown (S := (fun k_ => P0_ k_)) hg (qp HK.out) (fun k_ e_ => (HO_0.out.1 k_ e_))); replace HO_0 := q0 (hp_); clear hg hw hp_; have p6 : 0 ≤ (x5_1 : Int) := of_decide_eq_true qa; have q6 : (x5_1 : Int) < ((x0_1.length : Int) : Int) := of_decide_eq_true qa; obtain ⟨ce6, hcl6, hM6, hcc6, hfr6⟩ := Kd.R_elem HO_0.out zTie (x5_1 : Int) p6 q6; obtain rfl := kTie_openM hM6; have hx6_0 : w9.cell? ⟨go5, (x5_1 : Int).toNat * 2, none⟩ = some (.int .i64 ((rd_TTie y100 x5_1).f0)) := hcc6 0 _ rfl; have hx6_1 : w9.cell? ⟨go5, (x5_1 : Int).toNat * 2 + 1, none⟩ = some (.int .i64 ((rd_TTie y100 x5_1).f1)) := hcc6 1 _ rfl; have hf6_0 : w9.frozen? ⟨go5, (x5_1 : Int).toNat * 2, none⟩ = false := hfr6 0; have hf6_1 : w9.frozen? ⟨go5, (x5_1 : Int).toNat * 2 + 1, none⟩ = false := hfr6 1; clear hcl6 hcc6 hfr6 hM6; replace p6 := eq_true p6; replace q6 := eq_true q6; have HX10 := q0 (show Kd.R kTie 32 w9 w0.heap.size (fun k_ => (P0_ k_ ∨ w.heap.size ≤ k_)) (.slice (some ⟨go5, 0, none⟩) x0_1.length co7) y100 from (qr HO_0.out)); obtain ⟨ce10, hcl10, hM10, hcc10, hfr10⟩ := Kd.R_elem HX10.out zTie (x5_1 : Int) (of_decide_eq_true qa) (by have h_ : (x5_1 : Int) < ((x0_1.length : Int) : Int) := of_decide_eq_true qa; first | exact h_ | (have e_ := (Kd.R_reads' HO_0.out).1; omega) | simpa using h_); obtain rfl := kTie_openM hM10; have HP10 := Kd.R_seg HX10.out (x5_1 : Int) (of_decide_eq_true qa) (by have h_ : (x5_1 : Int) < ((x0_1.length : Int) : Int) := of_decide_eq_true qa; first | exact h_ | (have e_ := (Kd.R_reads' HO_0.out).1; omega) | simpa using h_) (seg := [.int .i64 (wrap64 (x1_1 + 1))]) (j := 1) hcl10 hcc10 (show 2 ≤ 2 from by decide) (x' := (⟨(rd_TTie y100 x5_1).f0, wrap64 (x1_1 + 1)⟩ : STie)) (kTie_mkM _ _ _ (⟨(rd_TTie y100 x5_1).f0, wrap64 (x1_1 + 1)⟩ : STie) ) (fun _ hk => hk); have hx10_1 := hcc10 1 _ rfl; (try simp only [show (kTie).sz = 2 from rfl, Nat.mul_one, Nat.add_zero] at hx10_1); have hf10_1 := hfr10 1; (try simp only [show (kTie).sz = 2 from rfl, Nat.mul_one, Nat.add_zero] at hf10_1); clear hcl10 hcc10 hfr10 hM10) | ((with_reducible refine gate_store (t := 3) (p := 23) rfl ?_); refine store_event (t := 3) (p := 23) (v := ?vo_w11) (w1 := (w9.setCell ⟨go5, (x5_1 : Int).toNat * 2 + 1, none⟩ (.int .i64 (wrap64 (x1_1 + 1))))) ?hg ?ho ?hn ?hr ?_; (case ho => rfl); (case hg => rfl); (case hn => rfl); (case hr => first | (go_simp; done) | (go_simp; rfl)); intro w11 hw; have hg : w9.grownBy w11 (some go5) := (by rw [hw]; exact HP10.2); have hp_ : Kd.R kTie 32 w11 w0.heap.size (fun k_ => (P0_ k_ ∨ w.heap.size ≤ k_)) (.slice (some ⟨go5, 0, none⟩) x0_1.length co7) y102 := (by rw [hw, Ny102.out]; exact HP10.1); clear HP10; replace HB := q0 ((by rw [hw]; exact below_set (HB.out) GB5.out : Below w0.heap.size w0 w11)); replace HK := q0 (Kept.of_grown (S := (fun k_ => P0_ k_)) hg (qp HK.out) (fun k_ e_ => (HO_0.out.1 k_ e_))); replace HO_0 := q0 (hp_); clear hg hw hp_))
 go_roundg k1
 case measure => have := HK1.out; omega
 case rel => exact ⟨(y102), (wrap64 ((wrap64 (x1_1 + 1)) + 1)), (wrap64 (x5_1 + 1)), qs, qs, H', ⟨by have := HK1.out; omega⟩, ⟨qr HO_0.out⟩, ⟨qp HK.out⟩, ⟨qb HB.out⟩⟩

set_option maxHeartbeats 8000000 in
set_option maxRecDepth 100000 in
theorem laws_markNet.calls (k : Nat) (a0_0 : Int) (P0_1_ : Nat → Prop) (u101_ : Value) (l0_1 : List (STie)) (a1 : Int) (r1 : Int) (r2 : List (STie)) (w0 w : World) (hB : Below w0.heap.size w0 w) (ho0_1 : Kd.R kTie 32 w w0.heap.size P0_1_ u101_ l0_1) (h : laws_markNet.f k a0_0 l0_1 a1 = some (r1, r2)) :
    Calls Try.prog 31 #[.agg #[.int .i64 a0_0, u101_], .int .i64 a1] w fun e w' => e = .returned (.int .i64 r1) ∧ Kd.R kTie 32 w' w0.heap.size (fun k_ => (P0_1_ k_ ∨ w.heap.size ≤ k_)) u101_ r2 ∧ Below w0.heap.size w0 w' ∧ Kept w w' (fun k_ => P0_1_ k_) := by
 have hu25 := Try.underlying25
 have HO0_1 := q0 (show Kd.R kTie 32 w w0.heap.size (fun k_ => (P0_1_ k_ ∨ w.heap.size ≤ k_)) u101_ l0_1 from Kd.R_mono ho0_1 (fun k_ hk => (.inl hk)))
 have HK := q0 (Kept.refl w (fun k_ => P0_1_ k_))
 have HW0 := Aside0.mk hB.size
 have HB := Aside0.mk hB
 clear hB
 have H : ((laws_markTieS.f k l0_1 a1).bind fun bt100 => (some (bt100.1, bt100.2))) = some (r1, r2) := h
 clear h
 replace H := Option.bind_eq_some_iff.mp H
 obtain ⟨⟨t100, t102⟩, A30, H⟩ := H
 have A3 := Aside0.mk A30
 clear A30
 simp only [Option.some.injEq, Prod.mk.injEq] at H
 obtain ⟨rfl, rfl⟩ := H
 obtain ⟨Ao4, co4, eo4⟩ := Kd.R_slice HO0_1.out
 subst eo4
 go_enter Try.func31, Try.ntmps31
 go_wp2_with (first | ((with_reducible refine gate_dst (N := 2) rfl ?_); refine be 2 #[.int .i64 a0_0, .slice Ao4 l0_1.length co4] 25 ?_; intro gb103 hg w5 hbox hb; replace HO0_1 := q0 (Kd.R_below (by (with_reducible repeat (first | apply Kd.R_alloc | apply Kd.R_drewN | apply Kd.R_drew)); exact HO0_1.out) hb); have BK103 := q0 (hbox); have GW103 := q0 ((by rw [hg]; exact (by first | exact HK.out.1 | exact (qp HK.out).1) : w.heap.size ≤ gb103)); replace HK := q0 (Kept.below (S := (fun k_ => P0_1_ k_)) (qp HK.out) hb); have GE103 := q0 ((bs HB.out hg : w0.heap.size ≤ gb103)); replace HB := q0 (below_step (qb HB.out) hb); clear hb hbox hg; have hcz6_0 : w5.cell? ⟨gb103, 0, none⟩ = some (.int .i64 a0_0) := (blk_cell BK103.out 0).trans rfl; have hcz6_1 : w5.cell? ⟨gb103, 1, none⟩ = some (.slice Ao4 l0_1.length co4) := (blk_cell BK103.out 1).trans rfl; have hfz6_0 := blk_frozen BK103.out 0; have hfz6_1 := blk_frozen BK103.out 1) | ((with_reducible refine gate_callee (f := 75) rfl ?_); refine gl 8 Try.func75 #[.slice Ao4 l0_1.length co4, .int .i64 a1] ?_; (with_reducible refine (laws_markTieS.calls k (fun k_ => some k_ = (.slice Ao4 l0_1.length co4 : Value).ownBlock) (.slice Ao4 l0_1.length co4) l0_1 a1 t100 t102 w0 _ ?side1 ?side2 A3.out).mono ?_); (case side1 => exact qb HB.out); (case side2 => exact Kd.R_tight rfl HO0_1.out); rintro e w7 ⟨rfl, hy0, hb, hkp⟩; refine ⟨_, rfl, ?_⟩; replace BK103 := q0 (blk_kept (qk BK103.out) hkp (fun hs_ => (fun e_ => (Kd.R_ne HO0_1.out BK103.out (by decide)) e_) hs_)); replace HK := q0 (Kept.then_ (S := (fun k_ => P0_1_ k_)) (qp HK.out) hkp (fun k_ hs_ => (fun e_ => (HO0_1.out.1 k_ e_.symm)) hs_)); replace HO0_1 := q0 (Kd.R_reok rfl hy0 (fun k_ e_ => HO0_1.out.1 k_ e_)); replace HB := q0 (hb); (try clear hb); (try clear hkp); (try clear hy0)))
 go_ret
 exact ⟨qe, by (with_reducible repeat (first | apply Kd.R_alloc | apply Kd.R_drewN | apply Kd.R_drew)); exact HO0_1.out, qb HB.out, qp HK.out⟩

set_option maxHeartbeats 8000000 in
set_option maxRecDepth 100000 in
theorem spec_l1Less.calls (a0_0 : Int) (a0_1 : Int) (a1_0 : Int) (a1_1 : Int) (r : Bool) (w : World) (h : spec_l1Less.f a0_0 a0_1 a1_0 a1_1 = some r) :
    Calls Try.prog 69 #[.agg #[.int .i64 a0_0, .int .i64 a0_1], .agg #[.int .i64 a1_0, .int .i64 a1_1]] w fun e w' => e = .returned (.bool r) ∧ Below w.heap.size w w' := by
 have hu32 := Try.underlying32
 have HB := q0 (Below.refl w.heap.size w)
 have H : (if a0_0 < a1_0 then (some true) else (if a0_0 = a1_0 then (some (decide (a0_1 < a1_1))) else (some false))) = some r := h
 clear h
 by_cases c3 : a0_0 < a1_0
 · rw [if_pos c3] at H
   have c3b0 : decide (a0_0 < a1_0) = true := decide_eq_true c3
   clear c3
   obtain rfl := Option.some.inj H
   go_enter Try.func69, Try.ntmps69
   go_wp2_with (first | ((with_reducible refine gate_dst (N := 2) rfl ?_); refine be 2 #[.int .i64 a0_0, .int .i64 a0_1] 32 ?_; intro gb100 hg w4 hbox hb; have BK100 := q0 (hbox); have GW100 := q0 ((bs HB.out hg : w.heap.size ≤ gb100)); have GE100 := q0 ((bs HB.out hg : w.heap.size ≤ gb100)); replace HB := q0 (below_step (qb HB.out) hb); clear hb hbox hg) | ((with_reducible refine gate_dst (N := 3) rfl ?_); refine be 3 #[.int .i64 a1_0, .int .i64 a1_1] 32 ?_; intro gb101 hg w5 hbox hb; have BK101 := q0 (hbox); have GW101 := q0 ((bs HB.out hg : w.heap.size ≤ gb101)); have GE101 := q0 ((bs HB.out hg : w.heap.size ≤ gb101)); replace HB := q0 (below_step (qb HB.out) hb); have NB100_101 := q0 ((bl BK100.out hg : gb100 ≠ gb101)); have NB101_100 := q0 ((bg BK100.out hg : gb101 ≠ gb100)); replace BK100 := q0 (kb BK100.out hb); clear hb hbox hg; have hnb6 := NB100_101.out; have hnc6 := NB101_100.out; have hcz7_0 : w5.cell? ⟨gb100, 0, none⟩ = some (.int .i64 a0_0) := (blk_cell BK100.out 0).trans rfl; have hcz7_1 : w5.cell? ⟨gb100, 1, none⟩ = some (.int .i64 a0_1) := (blk_cell BK100.out 1).trans rfl; have hfz7_0 := blk_frozen BK100.out 0; have hfz7_1 := blk_frozen BK100.out 1; have hcz8_0 : w5.cell? ⟨gb101, 0, none⟩ = some (.int .i64 a1_0) := (blk_cell BK101.out 0).trans rfl; have hcz8_1 : w5.cell? ⟨gb101, 1, none⟩ = some (.int .i64 a1_1) := (blk_cell BK101.out 1).trans rfl; have hfz8_0 := blk_frozen BK101.out 0; have hfz8_1 := blk_frozen BK101.out 1))
   go_ret
   exact ⟨qe, qb HB.out⟩
 rw [if_neg c3] at H
 have c3b0 : decide (a0_0 < a1_0) = false := decide_eq_false c3
 clear c3
 by_cases c9 : a0_0 = a1_0
 rotate_left
 · rw [if_neg c9] at H
   have c9b0 : (a0_0 == a1_0) = false := beq_eq_false_iff_ne.mpr c9
   have c9b1 : (a0_0 != a1_0) = true := bne_iff_ne.mpr c9
   obtain rfl := Option.some.inj H
   go_enter Try.func69, Try.ntmps69
   go_wp2_with (first | ((with_reducible refine gate_dst (N := 2) rfl ?_); refine be 2 #[.int .i64 a0_0, .int .i64 a0_1] 32 ?_; intro gb100 hg w15 hbox hb; have BK100 := q0 (hbox); have GW100 := q0 ((bs HB.out hg : w.heap.size ≤ gb100)); have GE100 := q0 ((bs HB.out hg : w.heap.size ≤ gb100)); replace HB := q0 (below_step (qb HB.out) hb); clear hb hbox hg) | ((with_reducible refine gate_dst (N := 3) rfl ?_); refine be 3 #[.int .i64 a1_0, .int .i64 a1_1] 32 ?_; intro gb101 hg w16 hbox hb; have BK101 := q0 (hbox); have GW101 := q0 ((bs HB.out hg : w.heap.size ≤ gb101)); have GE101 := q0 ((bs HB.out hg : w.heap.size ≤ gb101)); replace HB := q0 (below_step (qb HB.out) hb); have NB100_101 := q0 ((bl BK100.out hg : gb100 ≠ gb101)); have NB101_100 := q0 ((bg BK100.out hg : gb101 ≠ gb100)); replace BK100 := q0 (kb BK100.out hb); clear hb hbox hg; have hnb17 := NB100_101.out; have hnc17 := NB101_100.out; have hcz18_0 : w16.cell? ⟨gb100, 0, none⟩ = some (.int .i64 a0_0) := (blk_cell BK100.out 0).trans rfl; have hcz18_1 : w16.cell? ⟨gb100, 1, none⟩ = some (.int .i64 a0_1) := (blk_cell BK100.out 1).trans rfl; have hfz18_0 := blk_frozen BK100.out 0; have hfz18_1 := blk_frozen BK100.out 1; have hcz19_0 : w16.cell? ⟨gb101, 0, none⟩ = some (.int .i64 a1_0) := (blk_cell BK101.out 0).trans rfl; have hcz19_1 : w16.cell? ⟨gb101, 1, none⟩ = some (.int .i64 a1_1) := (blk_cell BK101.out 1).trans rfl; have hfz19_0 := blk_frozen BK101.out 0; have hfz19_1 := blk_frozen BK101.out 1))
   go_ret
   exact ⟨qe, qb HB.out⟩
 rw [if_pos c9] at H
 have c9b0 : (a0_0 == a1_0) = true := beq_iff_eq.mpr c9
 have c9b1 : (a0_0 != a1_0) = false := bne_eq_false_iff_eq.mpr c9
 clear c9
 obtain rfl := Option.some.inj H
 go_enter Try.func69, Try.ntmps69
 go_wp2_with (first | ((with_reducible refine gate_dst (N := 2) rfl ?_); refine be 2 #[.int .i64 a0_0, .int .i64 a0_1] 32 ?_; intro gb100 hg w10 hbox hb; have BK100 := q0 (hbox); have GW100 := q0 ((bs HB.out hg : w.heap.size ≤ gb100)); have GE100 := q0 ((bs HB.out hg : w.heap.size ≤ gb100)); replace HB := q0 (below_step (qb HB.out) hb); clear hb hbox hg) | ((with_reducible refine gate_dst (N := 3) rfl ?_); refine be 3 #[.int .i64 a1_0, .int .i64 a1_1] 32 ?_; intro gb101 hg w11 hbox hb; have BK101 := q0 (hbox); have GW101 := q0 ((bs HB.out hg : w.heap.size ≤ gb101)); have GE101 := q0 ((bs HB.out hg : w.heap.size ≤ gb101)); replace HB := q0 (below_step (qb HB.out) hb); have NB100_101 := q0 ((bl BK100.out hg : gb100 ≠ gb101)); have NB101_100 := q0 ((bg BK100.out hg : gb101 ≠ gb100)); replace BK100 := q0 (kb BK100.out hb); clear hb hbox hg; have hnb12 := NB100_101.out; have hnc12 := NB101_100.out; have hcz13_0 : w11.cell? ⟨gb100, 0, none⟩ = some (.int .i64 a0_0) := (blk_cell BK100.out 0).trans rfl; have hcz13_1 : w11.cell? ⟨gb100, 1, none⟩ = some (.int .i64 a0_1) := (blk_cell BK100.out 1).trans rfl; have hfz13_0 := blk_frozen BK100.out 0; have hfz13_1 := blk_frozen BK100.out 1; have hcz14_0 : w11.cell? ⟨gb101, 0, none⟩ = some (.int .i64 a1_0) := (blk_cell BK101.out 0).trans rfl; have hcz14_1 : w11.cell? ⟨gb101, 1, none⟩ = some (.int .i64 a1_1) := (blk_cell BK101.out 1).trans rfl; have hfz14_0 := blk_frozen BK101.out 0; have hfz14_1 := blk_frozen BK101.out 1))
 go_ret
 exact ⟨qe, qb HB.out⟩

set_option maxHeartbeats 8000000 in
set_option maxRecDepth 100000 in
theorem spec_l6In.calls (a0 : Int) (a1 : Int) (a2 : Int) (r : Bool) (w : World) (h : spec_l6In.f a0 a1 a2 = some r) :
    Calls Try.prog 88 #[.int .i64 a0, .int .i64 a1, .int .i64 a2] w fun e w' => e = .returned (.bool r) ∧ Drawn0 w w' := by
 have H : (if a0 ≥ a1 then (some (decide (a0 ≤ a2))) else (some false)) = some r := h
 clear h
 by_cases c4 : a0 ≥ a1
 · rw [if_pos c4] at H
   have c4b0 : decide (a1 ≤ a0) = true := decide_eq_true c4
   clear c4
   obtain rfl := Option.some.inj H
   go_enter Try.func88, Try.ntmps88
   go_wp2
   go_ret
   exact ⟨by first | rfl | (simp; done) | (simp [*]; done), by repeat (first | exact Drawn0.refl _ | apply Drawn0.step)⟩
 rw [if_neg c4] at H
 have c4b0 : decide (a1 ≤ a0) = false := decide_eq_false c4
 clear c4
 obtain rfl := Option.some.inj H
 go_enter Try.func88, Try.ntmps88
 go_wp2
 go_ret
 exact ⟨by first | rfl | (simp; done) | (simp [*]; done), by repeat (first | exact Drawn0.refl _ | apply Drawn0.step)⟩

def spec_NetOk.T7 : Bool × List (List Nat × List Nat) := (true, [([], []), ([0], [0]), ([], []), ([2], [2]), ([3], [3]), ([1, 4], [1, 4]), ([5], [5]), ([6, 5], [6]), ([7], [7]), ([8, 7], [7, 8]), ([7], [7]), ([10, 7], [7, 10]), ([11, 7], [7, 11]), ([7], [7]), ([13, 7], [7, 13]), ([14, 7], [7, 14]), ([9, 12, 15, 7, 7], [7, 9, 12, 15]), ([16, 7], [7, 16]), ([7, 17], [7, 17]), ([18, 16], [18]), ([19], [19]), ([20, 19], [19, 20]), ([21, 19, 19], [19, 21]), ([22], [22]), ([23, 22], [22, 23]), ([22], [22]), ([25, 22], [22, 25]), ([24, 26, 22], [22, 24, 26]), ([27, 22], [22, 27]), ([22], [22]), ([28, 29, 22, 22], [22, 28, 29]), ([30, 22], [22, 30]), ([22, 31, 19], [19, 22, 31]), ([19, 32], [19, 32])])
def spec_NetOk.B7 : List Nat := [0, 1, 0, 4, 12, 31, 63, 127, 255, 511, 255, 1279, 3327, 255, 8447, 24831, 65535, 131071, 262143, 524287, 1048575, 2097151, 4194303, 8388607, 16777215, 8388607, 41943039, 134217727, 268435455, 8388607, 1073741823, 2147483647, 4294967295, 8589934591]
theorem spec_NetOk.tab7 : rtab .any (opsOf Try.f49 7) = spec_NetOk.T7 := by kernel_rfl
theorem spec_NetOk.bits7 : waitsOk spec_NetOk.T7.2 spec_NetOk.B7 = true := by kernel_rfl
set_option maxHeartbeats 8000000 in
set_option maxRecDepth 100000 in
theorem spec_NetOk.calls (k : Nat) (a0_0 : Int) (A0_1 : Option Addr) (c0_1 : Nat) (l0_1 : List (STie)) (r : Bool) (w : World) (hr0_1 : Kd.C kTie w A0_1 l0_1.length l0_1) (hc0_1 : l0_1.length ≤ c0_1) (h : spec_NetOk.f k a0_0 l0_1 = some r) :
    Calls Try.prog 49 #[.agg #[.int .i64 a0_0, .slice A0_1 l0_1.length c0_1]] w fun e w' => e = .returned (.bool r) ∧ Below w.heap.size w w' := by
 have hu25 := Try.underlying25
 have hu32 := Try.underlying32
 have HR0_1 := Aside0.mk hr0_1
 have HC0_1 := Aside0.mk hc0_1
 clear hr0_1 hc0_1
 have HB := q0 (Below.refl w.heap.size w)
 have H : ((spec_l6In.f a0_0 0 8).bind fun t100 => (if t100 = true then (spec_NetOk.j0 k (decide ((l0_1.length : Int) > 64)) a0_0 l0_1) else (spec_NetOk.j0 k true a0_0 l0_1))) = some r := h
 clear h
 have HC2 := Aside0.mk H
 clear H
 go_enter Try.func49, Try.ntmps49
 go_upto_region 1 with (first | ((with_reducible refine gate_dst (N := 1) rfl ?_); (try (refine gate_guard (by rfl) ?_; dsimp only)); refine be 1 #[.int .i64 a0_0, .slice A0_1 l0_1.length c0_1] 25 ?_; intro gb104 hg w3 hbox hb; have BK104 := q0 (hbox); have GW104 := q0 ((bs HB.out hg : w.heap.size ≤ gb104)); have GE104 := q0 ((bs HB.out hg : w.heap.size ≤ gb104)); replace HB := q0 (below_step (qb HB.out) hb); clear hb hbox hg))
 (try simp only [Act.put, List.setIfInBounds_toArray, List.set_cons_zero, List.set_cons_succ])
 go_cut [14] (fun v14 wc => ∃ (kq : Nat) (x14_1 : Bool), v14 = .bool x14_1 ∧ Aside0 (spec_NetOk.j0 kq x14_1 a0_0 l0_1 = some r) ∧ Aside0 (kq ≤ k) ∧ Aside0 (wc.heap[gb104]? = some (.cells #[.int .i64 a0_0, (.slice A0_1 l0_1.length c0_1)] 25 (0, 0))) ∧ Aside0 (Below w.heap.size w wc))
 case first =>
   have H := HC2.out
   clear HC2
   replace H := Option.bind_eq_some_iff.mp H
   obtain ⟨t100, A40, H⟩ := H
   have A4 := Aside0.mk A40
   clear A40
   by_cases c5 : t100 = true
   · subst c5
     rw [if_pos rfl] at H
     have H' := Aside0.mk H
     clear H
     have hcz6_0 : w3.cell? ⟨gb104, 0, none⟩ = some (.int .i64 a0_0) := (blk_cell BK104.out 0).trans rfl
     have hcz6_1 : w3.cell? ⟨gb104, 1, none⟩ = some (.slice A0_1 l0_1.length c0_1) := (blk_cell BK104.out 1).trans rfl
     have hfz6_0 := blk_frozen BK104.out 0
     have hfz6_1 := blk_frozen BK104.out 1
     go_wp2_with (first | ((with_reducible refine gate_callee (f := 88) rfl ?_); refine gl 7 Try.func88 #[.int .i64 a0_0, .int .i64 0, .int .i64 8] ?_; (with_reducible refine (spec_l6In.calls a0_0 0 8 true _ A4.out).mono ?_); rintro e w' ⟨rfl, ⟨nd, rfl⟩⟩; refine ⟨_, rfl, ?_⟩))
     go_meet
     case rel => exact ⟨_, (decide ((l0_1.length : Int) > 64)), qs, H', ⟨by first | omega | exact Nat.le_refl _⟩, ⟨qk BK104.out⟩, ⟨qb HB.out⟩⟩
   replace c5 := Bool.eq_false_iff.mpr c5
   subst c5
   rw [if_neg nf] at H
   have H' := Aside0.mk H
   clear H
   have hcz7_0 : w3.cell? ⟨gb104, 0, none⟩ = some (.int .i64 a0_0) := (blk_cell BK104.out 0).trans rfl
   have hcz7_1 : w3.cell? ⟨gb104, 1, none⟩ = some (.slice A0_1 l0_1.length c0_1) := (blk_cell BK104.out 1).trans rfl
   have hfz7_0 := blk_frozen BK104.out 0
   have hfz7_1 := blk_frozen BK104.out 1
   go_wp2_with (first | ((with_reducible refine gate_callee (f := 88) rfl ?_); refine gl 7 Try.func88 #[.int .i64 a0_0, .int .i64 0, .int .i64 8] ?_; (with_reducible refine (spec_l6In.calls a0_0 0 8 false _ A4.out).mono ?_); rintro e w' ⟨rfl, ⟨nd, rfl⟩⟩; refine ⟨_, rfl, ?_⟩))
   go_meet
   case rel => exact ⟨_, (true), qs, H', ⟨by first | omega | exact Nat.le_refl _⟩, ⟨qk BK104.out⟩, ⟨qb HB.out⟩⟩
 clear HC2
 try clear p2
 try clear c4
 try clear c5
 try clear hcz6_0
 try clear hcz6_1
 try clear hcz7_0
 try clear hcz7_1
 try clear hfz6_0
 try clear hfz6_1
 try clear hfz7_0
 try clear hfz7_1
 obtain ⟨kq, x14_1, rfl, HA, HJ1, BK104, HB⟩ := hcut
 rcases kq with _ | kj1
 · exact absurd HA.out (by simp [spec_NetOk.j0])
 have H := HA.out
 clear HA
 simp only [spec_NetOk.j0] at H
 by_cases c8 : x14_1 = true
 · subst c8
   rw [if_pos rfl] at H
   obtain rfl := Option.some.inj H
   go_wp2
   go_ret
   exact ⟨qe, qb HB.out⟩
 replace c8 := Bool.eq_false_iff.mpr c8
 subst c8
 rw [if_neg nf] at H
 have H' := Aside0.mk H
 clear H
 go_wp2
 go_loopg [3] kj1 (fun kq v3 w' => ∃ (x3_2 : Int), v3 = .int .i64 x3_2 ∧ Aside0 (spec_NetOk.l0 kq x3_2 a0_0 l0_1 = some r) ∧ Aside0 (kq ≤ kj1) ∧ Aside0 (w'.heap[gb104]? = some (.cells #[.int .i64 a0_0, (.slice A0_1 l0_1.length c0_1)] 25 (0, 0))) ∧ Aside0 (Below w.heap.size w w'))
 case atStart => exact ⟨(0), qs, H', ⟨Nat.le_refl _⟩, ⟨qk BK104.out⟩, ⟨qb HB.out⟩⟩
 clear H'
 try clear p2
 try clear c4
 try clear c5
 try clear c8
 try clear hcz6_0
 try clear hcz6_1
 try clear hcz7_0
 try clear hcz7_1
 try clear hfz6_0
 try clear hfz6_1
 try clear hfz7_0
 try clear hfz7_1
 try clear p2
 obtain ⟨x3_2, rfl, HA, HK2, BK104, HB⟩ := hrel
 rcases gk with _ | k2
 · exact absurd HA.out (by simp [spec_NetOk.l0])
 have H := HA.out
 clear HA
 simp only [spec_NetOk.l0] at H
 by_cases c9 : x3_2 < (l0_1.length : Int)
 rotate_left
 · rw [if_neg c9] at H
   have c9b0 : decide (x3_2 < (l0_1.length : Int)) = false := decide_eq_false c9
   clear c9
   obtain rfl := Option.some.inj H
   have hcz53_0 : wr.cell? ⟨gb104, 0, none⟩ = some (.int .i64 a0_0) := (blk_cell BK104.out 0).trans rfl
   have hcz53_1 : wr.cell? ⟨gb104, 1, none⟩ = some (.slice A0_1 l0_1.length c0_1) := (blk_cell BK104.out 1).trans rfl
   have hfz53_0 := blk_frozen BK104.out 0
   have hfz53_1 := blk_frozen BK104.out 1
   go_wp2
   go_ret
   exact ⟨qe, qb HB.out⟩
 rw [if_pos c9] at H
 have c9b0 : decide (x3_2 < (l0_1.length : Int)) = true := decide_eq_true c9
 clear c9
 by_cases c10 : 0 ≤ x3_2
 rotate_left
 · rw [if_neg c10] at H
   exact absurd H (by simp)
 rw [if_pos c10] at H
 have c10b0 : decide (0 ≤ x3_2) = true := decide_eq_true c10
 clear c10
 replace H := Option.bind_eq_some_iff.mp H
 obtain ⟨t101, A105, H⟩ := H
 have A11 := Aside0.mk A105
 clear A105
 by_cases c12 : t101 = true
 rotate_left
 · replace c12 := Bool.eq_false_iff.mpr c12
   subst c12
   rw [if_neg nf] at H
   obtain rfl := Option.some.inj H
   have hcz47_0 : wr.cell? ⟨gb104, 0, none⟩ = some (.int .i64 a0_0) := (blk_cell BK104.out 0).trans rfl
   have hcz47_1 : wr.cell? ⟨gb104, 1, none⟩ = some (.slice A0_1 l0_1.length c0_1) := (blk_cell BK104.out 1).trans rfl
   have hfz47_0 := blk_frozen BK104.out 0
   have hfz47_1 := blk_frozen BK104.out 1
   have p108 : 0 ≤ (x3_2 : Int) := of_decide_eq_true qa
   have q108 : x3_2 < (l0_1.length : Int) := of_decide_eq_true qa
   obtain ⟨ad108, e108, hx108_0, hx108_1⟩ := at_TTie HR0_1.out x3_2 p108 q108
   cases e108
   replace hx108_0 := (HB.out.cell (World.block_lt_of_cell? w _ hx108_0)).trans hx108_0
   replace hx108_1 := (HB.out.cell (World.block_lt_of_cell? w _ hx108_1)).trans hx108_1
   replace p108 := eq_true p108
   replace q108 := eq_true q108
   try go_wp2_with (first | ((with_reducible refine gate_dst (N := 4) rfl ?_); (try (refine gate_guard (by rfl) ?_; dsimp only)); refine be 4 #[.int .i64 0, .int .i64 0] 32 ?_; intro gb109 hg w48 hbox hb; have BK109 := q0 (hbox); have GW109 := q0 ((bs HB.out hg : w.heap.size ≤ gb109)); have GE109 := q0 ((bs HB.out hg : w.heap.size ≤ gb109)); replace HB := q0 (below_step (qb HB.out) hb); have NB104_109 := q0 ((bl BK104.out hg : gb104 ≠ gb109)); have NB109_104 := q0 ((bg BK104.out hg : gb109 ≠ gb104)); replace BK104 := q0 (kb BK104.out hb); clear hb hbox hg; have hnb49 := NB109_104.out; have hnc49 := NB104_109.out; have hcz50_0 : w48.cell? ⟨gb109, 0, none⟩ = some (.int .i64 0) := (blk_cell BK109.out 0).trans rfl; have hcz50_1 : w48.cell? ⟨gb109, 1, none⟩ = some (.int .i64 0) := (blk_cell BK109.out 1).trans rfl; have hfz50_0 := blk_frozen BK109.out 0; have hfz50_1 := blk_frozen BK109.out 1))
   have n0_ : Aside0 (((w48.setCell ⟨gb109, 0, none⟩ (.int .i64 ((rd_TTie l0_1 x3_2).f0))).setCell ⟨gb109, 1, none⟩ (.int .i64 ((rd_TTie l0_1 x3_2).f1))).heap[gb104]? = some (.cells #[.int .i64 a0_0, .slice (some ad108) l0_1.length c0_1] 25 (0, 0))) := ⟨qf BK104.out⟩
   have n1_ : Aside0 (((w48.setCell ⟨gb109, 0, none⟩ (.int .i64 ((rd_TTie l0_1 x3_2).f0))).setCell ⟨gb109, 1, none⟩ (.int .i64 ((rd_TTie l0_1 x3_2).f1))).heap[gb109]? = some (.cells #[.int .i64 ((rd_TTie l0_1 x3_2).f0), .int .i64 ((rd_TTie l0_1 x3_2).f1)] 32 (0, 0))) := ⟨by (with_reducible repeat (first | refine blk_drewN ?_ _ | refine blk_drew ?_ | refine blk_alloc ?_ _)); refine blk_put (cs := #[.int .i64 ((rd_TTie l0_1 x3_2).f0), .int .i64 0]) ?_ 1 _ rfl; (with_reducible repeat (first | refine blk_drewN ?_ _ | refine blk_drew ?_ | refine blk_alloc ?_ _)); refine blk_put (cs := #[.int .i64 0, .int .i64 0]) ?_ 0 _ rfl; (with_reducible repeat (first | refine blk_drewN ?_ _ | refine blk_drew ?_ | refine blk_alloc ?_ _)); exact BK109.out⟩
   have n2_ : Aside0 (Below w.heap.size w ((w48.setCell ⟨gb109, 0, none⟩ (.int .i64 ((rd_TTie l0_1 x3_2).f0))).setCell ⟨gb109, 1, none⟩ (.int .i64 ((rd_TTie l0_1 x3_2).f1)))) := ⟨qb HB.out⟩
   (try clear BK104)
   (try clear BK109)
   (try clear HB)
   generalize ((w48.setCell ⟨gb109, 0, none⟩ (.int .i64 ((rd_TTie l0_1 x3_2).f0))).setCell ⟨gb109, 1, none⟩ (.int .i64 ((rd_TTie l0_1 x3_2).f1))) = w51 at n0_ n1_ n2_ ⊢
   have BK104 := n0_
   have BK109 := n1_
   have HB := n2_
   clear n0_ n1_ n2_
   replace BK104 := q0 (blk_drew BK104.out)
   replace BK109 := q0 (blk_drew BK109.out)
   replace HB := q0 (below_drew1 HB.out)
   refine start_ (n := 34) (S := fun w' => w'.cell? ⟨gb109, 0, none⟩ = some (.int .i64 ((rd_TTie l0_1 x3_2).f0)) ∧ w'.cell? ⟨gb109, 1, none⟩ = some (.int .i64 ((rd_TTie l0_1 x3_2).f1)) ∧ w'.cell? ⟨gb104, 0, none⟩ = some (.int .i64 a0_0) ∧ w'.cell? ⟨gb104, 1, none⟩ = some (.slice (some ad108) l0_1.length c0_1)) (ds := []) (ba 34 0) (by kernel_rfl) rfl (by kernel_rfl) ⟨(blk_cell BK109.out 0).trans rfl, (blk_cell BK109.out 1).trans rfl, (blk_cell BK104.out 0).trans rfl, (blk_cell BK104.out 1).trans rfl⟩ (fun hHeld => ?_); refine with_tabW spec_NetOk.tab7 spec_NetOk.bits7 (fun HT_ HW_ => ?_)
   generalize w51.drew = w52 at BK104 BK109 HB hHeld ⊢
   refine pu 0 (some 27) (ba 34 1) HT_.out ?_
   refine pu 2 (some 29) (ba 34 5) HT_.out ?_
   refine tu 1 (some 28) (ba 34 7) HT_.out HW_.out hHeld ?_
   refine tu 3 (some 30) (ba 34 15) HT_.out HW_.out hHeld ?_
   refine pu 4 (some 31) (ba 34 31) HT_.out ?_
   refine one_ (i := 5) (N := some 32) (ba 34 63) rfl rfl (one_of HT_.out (by kernel_rfl)) (by decide) (fun K hK => ?_)
   refine goes_ Try.func88 (by kernel_rfl) rfl #[.int .i64 ((rd_TTie l0_1 x3_2).f0), .int .i64 0, .int .i64 (wrap64 (a0_0 - 1))] (by rfl) rfl rfl qm ?_
   with_reducible refine (spec_l6In.calls ((rd_TTie l0_1 x3_2).f0) 0 (wrap64 (a0_0 - 1)) false _ A11.out).mono ?_
   rintro e w' ⟨rfl, ⟨nd, rfl⟩⟩
   refine ⟨_, rfl, ?_⟩
   refine hK.out _ _ ⟨(blk_cell BK109.out 0).trans rfl, (blk_cell BK109.out 1).trans rfl, (blk_cell BK104.out 0).trans rfl, (blk_cell BK104.out 1).trans rfl⟩ (fun hHeld => ?_)
   clear hK K
   refine nu 32 ?_
   refine pu 6 (some 33) (ba 34 127) HT_.out ?_
   refine pu 7 (some 34) (ba 34 255) HT_.out ?_
   refine pv 8 (some 35) (ba 34 511) HT_.out ?_
   refine pv 9 (some 36) (ba 34 1023) HT_.out ?_
   refine pv 10 (some 37) (ba 34 2047) HT_.out ?_
   refine pv 11 (some 38) (ba 34 4095) HT_.out ?_
   refine pv 12 (some 39) (ba 34 8191) HT_.out ?_
   refine pv 13 (some 40) (ba 34 16383) HT_.out ?_
   refine pv 14 (some 41) (ba 34 32767) HT_.out ?_
   refine pv 15 (some 42) (ba 34 65535) HT_.out ?_
   refine pv 16 (some 43) (ba 34 131071) HT_.out ?_
   refine pv 17 (some 44) (ba 34 262143) HT_.out ?_
   refine pu 18 (some 45) (ba 34 524287) HT_.out ?_
   refine pu 19 (some 46) (ba 34 1048575) HT_.out ?_
   refine pv 20 (some 47) (ba 34 2097151) HT_.out ?_
   refine pv 21 (some 48) (ba 34 4194303) HT_.out ?_
   refine pv 22 (some 49) (ba 34 8388607) HT_.out ?_
   refine pv 23 (some 50) (ba 34 16777215) HT_.out ?_
   refine pv 24 (some 51) (ba 34 33554431) HT_.out ?_
   refine pv 25 (some 52) (ba 34 67108863) HT_.out ?_
   refine pv 26 (some 53) (ba 34 134217727) HT_.out ?_
   refine pv 27 (some 54) (ba 34 268435455) HT_.out ?_
   refine pv 28 (some 55) (ba 34 536870911) HT_.out ?_
   refine pv 29 (some 56) (ba 34 1073741823) HT_.out ?_
   refine pv 30 (some 57) (ba 34 2147483647) HT_.out ?_
   refine pv 31 (some 58) (ba 34 4294967295) HT_.out ?_
   refine pv 32 (some 59) (ba 34 8589934591) HT_.out ?_
   refine pu 33 (some 60) (ba 34 17179869183) HT_.out ?_
   refine done_ (done_of HT_.out (by kernel_rfl)) ?_
   try go_wp2
   go_ret
   exact ⟨qe, qb HB.out⟩
 subst c12
 rw [if_pos rfl] at H
 replace H := Option.bind_eq_some_iff.mp H
 obtain ⟨t102, A106, H⟩ := H
 have A13 := Aside0.mk A106
 clear A106
 by_cases c14 : t102 = true
 rotate_left
 · replace c14 := Bool.eq_false_iff.mpr c14
   subst c14
   rw [if_neg nf] at H
   obtain rfl := Option.some.inj H
   have hcz41_0 : wr.cell? ⟨gb104, 0, none⟩ = some (.int .i64 a0_0) := (blk_cell BK104.out 0).trans rfl
   have hcz41_1 : wr.cell? ⟨gb104, 1, none⟩ = some (.slice A0_1 l0_1.length c0_1) := (blk_cell BK104.out 1).trans rfl
   have hfz41_0 := blk_frozen BK104.out 0
   have hfz41_1 := blk_frozen BK104.out 1
   have p108 : 0 ≤ (x3_2 : Int) := of_decide_eq_true qa
   have q108 : x3_2 < (l0_1.length : Int) := of_decide_eq_true qa
   obtain ⟨ad108, e108, hx108_0, hx108_1⟩ := at_TTie HR0_1.out x3_2 p108 q108
   cases e108
   replace hx108_0 := (HB.out.cell (World.block_lt_of_cell? w _ hx108_0)).trans hx108_0
   replace hx108_1 := (HB.out.cell (World.block_lt_of_cell? w _ hx108_1)).trans hx108_1
   replace p108 := eq_true p108
   replace q108 := eq_true q108
   try go_wp2_with (first | ((with_reducible refine gate_dst (N := 4) rfl ?_); (try (refine gate_guard (by rfl) ?_; dsimp only)); refine be 4 #[.int .i64 0, .int .i64 0] 32 ?_; intro gb109 hg w42 hbox hb; have BK109 := q0 (hbox); have GW109 := q0 ((bs HB.out hg : w.heap.size ≤ gb109)); have GE109 := q0 ((bs HB.out hg : w.heap.size ≤ gb109)); replace HB := q0 (below_step (qb HB.out) hb); have NB104_109 := q0 ((bl BK104.out hg : gb104 ≠ gb109)); have NB109_104 := q0 ((bg BK104.out hg : gb109 ≠ gb104)); replace BK104 := q0 (kb BK104.out hb); clear hb hbox hg; have hnb43 := NB109_104.out; have hnc43 := NB104_109.out; have hcz44_0 : w42.cell? ⟨gb109, 0, none⟩ = some (.int .i64 0) := (blk_cell BK109.out 0).trans rfl; have hcz44_1 : w42.cell? ⟨gb109, 1, none⟩ = some (.int .i64 0) := (blk_cell BK109.out 1).trans rfl; have hfz44_0 := blk_frozen BK109.out 0; have hfz44_1 := blk_frozen BK109.out 1))
   have n0_ : Aside0 (((w42.setCell ⟨gb109, 0, none⟩ (.int .i64 ((rd_TTie l0_1 x3_2).f0))).setCell ⟨gb109, 1, none⟩ (.int .i64 ((rd_TTie l0_1 x3_2).f1))).heap[gb104]? = some (.cells #[.int .i64 a0_0, .slice (some ad108) l0_1.length c0_1] 25 (0, 0))) := ⟨qf BK104.out⟩
   have n1_ : Aside0 (((w42.setCell ⟨gb109, 0, none⟩ (.int .i64 ((rd_TTie l0_1 x3_2).f0))).setCell ⟨gb109, 1, none⟩ (.int .i64 ((rd_TTie l0_1 x3_2).f1))).heap[gb109]? = some (.cells #[.int .i64 ((rd_TTie l0_1 x3_2).f0), .int .i64 ((rd_TTie l0_1 x3_2).f1)] 32 (0, 0))) := ⟨by (with_reducible repeat (first | refine blk_drewN ?_ _ | refine blk_drew ?_ | refine blk_alloc ?_ _)); refine blk_put (cs := #[.int .i64 ((rd_TTie l0_1 x3_2).f0), .int .i64 0]) ?_ 1 _ rfl; (with_reducible repeat (first | refine blk_drewN ?_ _ | refine blk_drew ?_ | refine blk_alloc ?_ _)); refine blk_put (cs := #[.int .i64 0, .int .i64 0]) ?_ 0 _ rfl; (with_reducible repeat (first | refine blk_drewN ?_ _ | refine blk_drew ?_ | refine blk_alloc ?_ _)); exact BK109.out⟩
   have n2_ : Aside0 (Below w.heap.size w ((w42.setCell ⟨gb109, 0, none⟩ (.int .i64 ((rd_TTie l0_1 x3_2).f0))).setCell ⟨gb109, 1, none⟩ (.int .i64 ((rd_TTie l0_1 x3_2).f1)))) := ⟨qb HB.out⟩
   (try clear BK104)
   (try clear BK109)
   (try clear HB)
   generalize ((w42.setCell ⟨gb109, 0, none⟩ (.int .i64 ((rd_TTie l0_1 x3_2).f0))).setCell ⟨gb109, 1, none⟩ (.int .i64 ((rd_TTie l0_1 x3_2).f1))) = w45 at n0_ n1_ n2_ ⊢
   have BK104 := n0_
   have BK109 := n1_
   have HB := n2_
   clear n0_ n1_ n2_
   replace BK104 := q0 (blk_drew BK104.out)
   replace BK109 := q0 (blk_drew BK109.out)
   replace HB := q0 (below_drew1 HB.out)
   refine start_ (n := 34) (S := fun w' => w'.cell? ⟨gb109, 0, none⟩ = some (.int .i64 ((rd_TTie l0_1 x3_2).f0)) ∧ w'.cell? ⟨gb109, 1, none⟩ = some (.int .i64 ((rd_TTie l0_1 x3_2).f1)) ∧ w'.cell? ⟨gb104, 0, none⟩ = some (.int .i64 a0_0) ∧ w'.cell? ⟨gb104, 1, none⟩ = some (.slice (some ad108) l0_1.length c0_1)) (ds := []) (ba 34 0) (by kernel_rfl) rfl (by kernel_rfl) ⟨(blk_cell BK109.out 0).trans rfl, (blk_cell BK109.out 1).trans rfl, (blk_cell BK104.out 0).trans rfl, (blk_cell BK104.out 1).trans rfl⟩ (fun hHeld => ?_); refine with_tabW spec_NetOk.tab7 spec_NetOk.bits7 (fun HT_ HW_ => ?_)
   generalize w45.drew = w46 at BK104 BK109 HB hHeld ⊢
   refine pu 0 (some 27) (ba 34 1) HT_.out ?_
   refine pu 2 (some 29) (ba 34 5) HT_.out ?_
   refine tu 1 (some 28) (ba 34 7) HT_.out HW_.out hHeld ?_
   refine tu 3 (some 30) (ba 34 15) HT_.out HW_.out hHeld ?_
   refine pu 4 (some 31) (ba 34 31) HT_.out ?_
   refine one_ (i := 5) (N := some 32) (ba 34 63) rfl rfl (one_of HT_.out (by kernel_rfl)) (by decide) (fun K hK => ?_)
   refine goes_ Try.func88 (by kernel_rfl) rfl #[.int .i64 ((rd_TTie l0_1 x3_2).f0), .int .i64 0, .int .i64 (wrap64 (a0_0 - 1))] (by rfl) rfl rfl qm ?_
   with_reducible refine (spec_l6In.calls ((rd_TTie l0_1 x3_2).f0) 0 (wrap64 (a0_0 - 1)) true _ A11.out).mono ?_
   rintro e w' ⟨rfl, ⟨nd, rfl⟩⟩
   refine ⟨_, rfl, ?_⟩
   refine hK.out _ _ ⟨(blk_cell BK109.out 0).trans rfl, (blk_cell BK109.out 1).trans rfl, (blk_cell BK104.out 0).trans rfl, (blk_cell BK104.out 1).trans rfl⟩ (fun hHeld => ?_)
   clear hK K
   refine nu 32 ?_
   refine pu 6 (some 33) (ba 34 127) HT_.out ?_
   refine pu 7 (some 34) (ba 34 255) HT_.out ?_
   refine pu 8 (some 35) (ba 34 511) HT_.out ?_
   refine pu 10 (some 37) (ba 34 1535) HT_.out ?_
   refine pu 13 (some 40) (ba 34 9727) HT_.out ?_
   refine tu 9 (some 36) (ba 34 10239) HT_.out HW_.out hHeld ?_
   refine tu 11 (some 38) (ba 34 12287) HT_.out HW_.out hHeld ?_
   refine pu 12 (some 39) (ba 34 16383) HT_.out ?_
   refine tu 14 (some 41) (ba 34 32767) HT_.out HW_.out hHeld ?_
   refine pu 15 (some 42) (ba 34 65535) HT_.out ?_
   refine one_ (i := 16) (N := some 43) (ba 34 131071) rfl rfl (one_of HT_.out (by kernel_rfl)) (by decide) (fun K hK => ?_)
   refine goes_ Try.func88 (by kernel_rfl) rfl #[.int .i64 ((rd_TTie l0_1 x3_2).f1), .int .i64 (wrap64 (((rd_TTie l0_1 x3_2).f0) + 1)), .int .i64 (wrap64 (a0_0 - 1))] (by rfl) rfl rfl qm ?_
   with_reducible refine (spec_l6In.calls ((rd_TTie l0_1 x3_2).f1) (wrap64 (((rd_TTie l0_1 x3_2).f0) + 1)) (wrap64 (a0_0 - 1)) false _ A13.out).mono ?_
   rintro e w' ⟨rfl, ⟨nd, rfl⟩⟩
   refine ⟨_, rfl, ?_⟩
   refine hK.out _ _ ⟨(blk_cell BK109.out 0).trans rfl, (blk_cell BK109.out 1).trans rfl, (blk_cell BK104.out 0).trans rfl, (blk_cell BK104.out 1).trans rfl⟩ (fun hHeld => ?_)
   clear hK K
   refine nu 43 ?_
   refine pu 17 (some 44) (ba 34 262143) HT_.out ?_
   refine pu 18 (some 45) (ba 34 524287) HT_.out ?_
   refine pu 19 (some 46) (ba 34 1048575) HT_.out ?_
   refine pv 20 (some 47) (ba 34 2097151) HT_.out ?_
   refine pv 21 (some 48) (ba 34 4194303) HT_.out ?_
   refine pv 22 (some 49) (ba 34 8388607) HT_.out ?_
   refine pv 23 (some 50) (ba 34 16777215) HT_.out ?_
   refine pv 24 (some 51) (ba 34 33554431) HT_.out ?_
   refine pv 25 (some 52) (ba 34 67108863) HT_.out ?_
   refine pv 26 (some 53) (ba 34 134217727) HT_.out ?_
   refine pv 27 (some 54) (ba 34 268435455) HT_.out ?_
   refine pv 28 (some 55) (ba 34 536870911) HT_.out ?_
   refine pv 29 (some 56) (ba 34 1073741823) HT_.out ?_
   refine pv 30 (some 57) (ba 34 2147483647) HT_.out ?_
   refine pv 31 (some 58) (ba 34 4294967295) HT_.out ?_
   refine pv 32 (some 59) (ba 34 8589934591) HT_.out ?_
   refine pu 33 (some 60) (ba 34 17179869183) HT_.out ?_
   refine done_ (done_of HT_.out (by kernel_rfl)) ?_
   try go_wp2
   go_ret
   exact ⟨qe, qb HB.out⟩
 subst c14
 rw [if_pos rfl] at H
 by_cases c15 : x3_2 > 0
 rotate_left
 · rw [if_neg c15] at H
   have c15b0 : decide (0 < x3_2) = false := decide_eq_false c15
   clear c15
   have H' := Aside0.mk H
   clear H
   have hcz35_0 : wr.cell? ⟨gb104, 0, none⟩ = some (.int .i64 a0_0) := (blk_cell BK104.out 0).trans rfl
   have hcz35_1 : wr.cell? ⟨gb104, 1, none⟩ = some (.slice A0_1 l0_1.length c0_1) := (blk_cell BK104.out 1).trans rfl
   have hfz35_0 := blk_frozen BK104.out 0
   have hfz35_1 := blk_frozen BK104.out 1
   have p108 : 0 ≤ (x3_2 : Int) := of_decide_eq_true qa
   have q108 : x3_2 < (l0_1.length : Int) := of_decide_eq_true qa
   obtain ⟨ad108, e108, hx108_0, hx108_1⟩ := at_TTie HR0_1.out x3_2 p108 q108
   cases e108
   replace hx108_0 := (HB.out.cell (World.block_lt_of_cell? w _ hx108_0)).trans hx108_0
   replace hx108_1 := (HB.out.cell (World.block_lt_of_cell? w _ hx108_1)).trans hx108_1
   replace p108 := eq_true p108
   replace q108 := eq_true q108
   try go_wp2_with (first | ((with_reducible refine gate_dst (N := 4) rfl ?_); (try (refine gate_guard (by rfl) ?_; dsimp only)); refine be 4 #[.int .i64 0, .int .i64 0] 32 ?_; intro gb109 hg w36 hbox hb; have BK109 := q0 (hbox); have GW109 := q0 ((bs HB.out hg : w.heap.size ≤ gb109)); have GE109 := q0 ((bs HB.out hg : w.heap.size ≤ gb109)); replace HB := q0 (below_step (qb HB.out) hb); have NB104_109 := q0 ((bl BK104.out hg : gb104 ≠ gb109)); have NB109_104 := q0 ((bg BK104.out hg : gb109 ≠ gb104)); replace BK104 := q0 (kb BK104.out hb); clear hb hbox hg; have hnb37 := NB109_104.out; have hnc37 := NB104_109.out; have hcz38_0 : w36.cell? ⟨gb109, 0, none⟩ = some (.int .i64 0) := (blk_cell BK109.out 0).trans rfl; have hcz38_1 : w36.cell? ⟨gb109, 1, none⟩ = some (.int .i64 0) := (blk_cell BK109.out 1).trans rfl; have hfz38_0 := blk_frozen BK109.out 0; have hfz38_1 := blk_frozen BK109.out 1))
   have n0_ : Aside0 (((w36.setCell ⟨gb109, 0, none⟩ (.int .i64 ((rd_TTie l0_1 x3_2).f0))).setCell ⟨gb109, 1, none⟩ (.int .i64 ((rd_TTie l0_1 x3_2).f1))).heap[gb104]? = some (.cells #[.int .i64 a0_0, .slice (some ad108) l0_1.length c0_1] 25 (0, 0))) := ⟨qf BK104.out⟩
   have n1_ : Aside0 (((w36.setCell ⟨gb109, 0, none⟩ (.int .i64 ((rd_TTie l0_1 x3_2).f0))).setCell ⟨gb109, 1, none⟩ (.int .i64 ((rd_TTie l0_1 x3_2).f1))).heap[gb109]? = some (.cells #[.int .i64 ((rd_TTie l0_1 x3_2).f0), .int .i64 ((rd_TTie l0_1 x3_2).f1)] 32 (0, 0))) := ⟨by (with_reducible repeat (first | refine blk_drewN ?_ _ | refine blk_drew ?_ | refine blk_alloc ?_ _)); refine blk_put (cs := #[.int .i64 ((rd_TTie l0_1 x3_2).f0), .int .i64 0]) ?_ 1 _ rfl; (with_reducible repeat (first | refine blk_drewN ?_ _ | refine blk_drew ?_ | refine blk_alloc ?_ _)); refine blk_put (cs := #[.int .i64 0, .int .i64 0]) ?_ 0 _ rfl; (with_reducible repeat (first | refine blk_drewN ?_ _ | refine blk_drew ?_ | refine blk_alloc ?_ _)); exact BK109.out⟩
   have n2_ : Aside0 (Below w.heap.size w ((w36.setCell ⟨gb109, 0, none⟩ (.int .i64 ((rd_TTie l0_1 x3_2).f0))).setCell ⟨gb109, 1, none⟩ (.int .i64 ((rd_TTie l0_1 x3_2).f1)))) := ⟨qb HB.out⟩
   (try clear BK104)
   (try clear BK109)
   (try clear HB)
   generalize ((w36.setCell ⟨gb109, 0, none⟩ (.int .i64 ((rd_TTie l0_1 x3_2).f0))).setCell ⟨gb109, 1, none⟩ (.int .i64 ((rd_TTie l0_1 x3_2).f1))) = w39 at n0_ n1_ n2_ ⊢
   have BK104 := n0_
   have BK109 := n1_
   have HB := n2_
   clear n0_ n1_ n2_
   replace BK104 := q0 (blk_drew BK104.out)
   replace BK109 := q0 (blk_drew BK109.out)
   replace HB := q0 (below_drew1 HB.out)
   refine start_ (n := 34) (S := fun w' => w'.cell? ⟨gb109, 0, none⟩ = some (.int .i64 ((rd_TTie l0_1 x3_2).f0)) ∧ w'.cell? ⟨gb109, 1, none⟩ = some (.int .i64 ((rd_TTie l0_1 x3_2).f1)) ∧ w'.cell? ⟨gb104, 0, none⟩ = some (.int .i64 a0_0) ∧ w'.cell? ⟨gb104, 1, none⟩ = some (.slice (some ad108) l0_1.length c0_1)) (ds := []) (ba 34 0) (by kernel_rfl) rfl (by kernel_rfl) ⟨(blk_cell BK109.out 0).trans rfl, (blk_cell BK109.out 1).trans rfl, (blk_cell BK104.out 0).trans rfl, (blk_cell BK104.out 1).trans rfl⟩ (fun hHeld => ?_); refine with_tabW spec_NetOk.tab7 spec_NetOk.bits7 (fun HT_ HW_ => ?_)
   generalize w39.drew = w40 at BK104 BK109 HB hHeld ⊢
   refine pu 0 (some 27) (ba 34 1) HT_.out ?_
   refine pu 2 (some 29) (ba 34 5) HT_.out ?_
   refine tu 1 (some 28) (ba 34 7) HT_.out HW_.out hHeld ?_
   refine tu 3 (some 30) (ba 34 15) HT_.out HW_.out hHeld ?_
   refine pu 4 (some 31) (ba 34 31) HT_.out ?_
   refine one_ (i := 5) (N := some 32) (ba 34 63) rfl rfl (one_of HT_.out (by kernel_rfl)) (by decide) (fun K hK => ?_)
   refine goes_ Try.func88 (by kernel_rfl) rfl #[.int .i64 ((rd_TTie l0_1 x3_2).f0), .int .i64 0, .int .i64 (wrap64 (a0_0 - 1))] (by rfl) rfl rfl qm ?_
   with_reducible refine (spec_l6In.calls ((rd_TTie l0_1 x3_2).f0) 0 (wrap64 (a0_0 - 1)) true _ A11.out).mono ?_
   rintro e w' ⟨rfl, ⟨nd, rfl⟩⟩
   refine ⟨_, rfl, ?_⟩
   refine hK.out _ _ ⟨(blk_cell BK109.out 0).trans rfl, (blk_cell BK109.out 1).trans rfl, (blk_cell BK104.out 0).trans rfl, (blk_cell BK104.out 1).trans rfl⟩ (fun hHeld => ?_)
   clear hK K
   refine nu 32 ?_
   refine pu 6 (some 33) (ba 34 127) HT_.out ?_
   refine pu 7 (some 34) (ba 34 255) HT_.out ?_
   refine pu 8 (some 35) (ba 34 511) HT_.out ?_
   refine pu 10 (some 37) (ba 34 1535) HT_.out ?_
   refine pu 13 (some 40) (ba 34 9727) HT_.out ?_
   refine tu 9 (some 36) (ba 34 10239) HT_.out HW_.out hHeld ?_
   refine tu 11 (some 38) (ba 34 12287) HT_.out HW_.out hHeld ?_
   refine pu 12 (some 39) (ba 34 16383) HT_.out ?_
   refine tu 14 (some 41) (ba 34 32767) HT_.out HW_.out hHeld ?_
   refine pu 15 (some 42) (ba 34 65535) HT_.out ?_
   refine one_ (i := 16) (N := some 43) (ba 34 131071) rfl rfl (one_of HT_.out (by kernel_rfl)) (by decide) (fun K hK => ?_)
   refine goes_ Try.func88 (by kernel_rfl) rfl #[.int .i64 ((rd_TTie l0_1 x3_2).f1), .int .i64 (wrap64 (((rd_TTie l0_1 x3_2).f0) + 1)), .int .i64 (wrap64 (a0_0 - 1))] (by rfl) rfl rfl qm ?_
   with_reducible refine (spec_l6In.calls ((rd_TTie l0_1 x3_2).f1) (wrap64 (((rd_TTie l0_1 x3_2).f0) + 1)) (wrap64 (a0_0 - 1)) true _ A13.out).mono ?_
   rintro e w' ⟨rfl, ⟨nd, rfl⟩⟩
   refine ⟨_, rfl, ?_⟩
   refine hK.out _ _ ⟨(blk_cell BK109.out 0).trans rfl, (blk_cell BK109.out 1).trans rfl, (blk_cell BK104.out 0).trans rfl, (blk_cell BK104.out 1).trans rfl⟩ (fun hHeld => ?_)
   clear hK K
   refine nu 43 ?_
   refine pu 17 (some 44) (ba 34 262143) HT_.out ?_
   refine pu 18 (some 45) (ba 34 524287) HT_.out ?_
   refine pu 19 (some 46) (ba 34 1048575) HT_.out ?_
   refine pu 20 (some 47) (ba 34 2097151) HT_.out ?_
   refine pu 21 (some 48) (ba 34 4194303) HT_.out ?_
   refine pu 22 (some 49) (ba 34 8388607) HT_.out ?_
   refine pv 23 (some 50) (ba 34 16777215) HT_.out ?_
   refine pv 24 (some 51) (ba 34 33554431) HT_.out ?_
   refine pv 25 (some 52) (ba 34 67108863) HT_.out ?_
   refine pv 26 (some 53) (ba 34 134217727) HT_.out ?_
   refine pv 27 (some 54) (ba 34 268435455) HT_.out ?_
   refine pv 28 (some 55) (ba 34 536870911) HT_.out ?_
   refine pv 29 (some 56) (ba 34 1073741823) HT_.out ?_
   refine pv 30 (some 57) (ba 34 2147483647) HT_.out ?_
   refine pv 31 (some 58) (ba 34 4294967295) HT_.out ?_
   refine pu 32 (some 59) (ba 34 8589934591) HT_.out ?_
   refine pu 33 (some 60) (ba 34 17179869183) HT_.out ?_
   refine done_ (done_of HT_.out (by kernel_rfl)) ?_
   try go_wp2
   go_roundg k2
   case measure => have := HJ1.out; have := HK2.out; omega
   case rel => exact ⟨(wrap64 (x3_2 + 1)), qs, H', ⟨by have := HJ1.out; have := HK2.out; omega⟩, ⟨qk BK104.out⟩, ⟨qb HB.out⟩⟩
 rw [if_pos c15] at H
 have c15b0 : decide (0 < x3_2) = true := decide_eq_true c15
 clear c15
 obtain ⟨ji16, hji16⟩ : ∃ j_ : Int, (wrap64 (x3_2 - 1)) = j_ := ⟨_, rfl⟩
 replace H : (if 0 ≤ (ji16) then (if (ji16) < (l0_1.length : Int) then ((spec_l1Less.f ((rd_TTie l0_1 (ji16)).f0) ((rd_TTie l0_1 (ji16)).f1) ((rd_TTie l0_1 x3_2).f0) ((rd_TTie l0_1 x3_2).f1)).bind fun t103 => (if t103 = true then (spec_NetOk.l0 k2 (wrap64 (x3_2 + 1)) a0_0 l0_1) else (some false))) else (none)) else (none)) = some r := by first | (rw [hji16] at H; exact H) | (simp only [hji16] at H ⊢; exact H)
 (try rw [hji16] at A11)
 (try rw [hji16] at A13)
 have hji16w : (IntKind.i64.wrap (x3_2 - 1)) = ji16 := (i64_w _).trans hji16
 by_cases c17 : 0 ≤ (ji16)
 rotate_left
 · rw [if_neg c17] at H
   exact absurd H (by simp)
 rw [if_pos c17] at H
 have c17b0 : decide (0 ≤ (ji16)) = true := decide_eq_true c17
 clear c17
 by_cases c18 : (ji16) < (l0_1.length : Int)
 rotate_left
 · rw [if_neg c18] at H
   exact absurd H (by simp)
 rw [if_pos c18] at H
 have c18b0 : decide ((ji16) < (l0_1.length : Int)) = true := decide_eq_true c18
 clear c18
 replace H := Option.bind_eq_some_iff.mp H
 obtain ⟨t103, A107, H⟩ := H
 have A19 := Aside0.mk A107
 clear A107
 by_cases c20 : t103 = true
 rotate_left
 · replace c20 := Bool.eq_false_iff.mpr c20
   subst c20
   rw [if_neg nf] at H
   obtain rfl := Option.some.inj H
   have hcz28_0 : wr.cell? ⟨gb104, 0, none⟩ = some (.int .i64 a0_0) := (blk_cell BK104.out 0).trans rfl
   have hcz28_1 : wr.cell? ⟨gb104, 1, none⟩ = some (.slice A0_1 l0_1.length c0_1) := (blk_cell BK104.out 1).trans rfl
   have hfz28_0 := blk_frozen BK104.out 0
   have hfz28_1 := blk_frozen BK104.out 1
   have p108 : 0 ≤ (x3_2 : Int) := of_decide_eq_true qa
   have q108 : x3_2 < (l0_1.length : Int) := of_decide_eq_true qa
   obtain ⟨ad108, e108, hx108_0, hx108_1⟩ := at_TTie HR0_1.out x3_2 p108 q108
   cases e108
   replace hx108_0 := (HB.out.cell (World.block_lt_of_cell? w _ hx108_0)).trans hx108_0
   replace hx108_1 := (HB.out.cell (World.block_lt_of_cell? w _ hx108_1)).trans hx108_1
   replace p108 := eq_true p108
   replace q108 := eq_true q108
   try go_wp2_with (first | ((with_reducible refine gate_dst (N := 4) rfl ?_); (try (refine gate_guard (by rfl) ?_; dsimp only)); refine be 4 #[.int .i64 0, .int .i64 0] 32 ?_; intro gb109 hg w29 hbox hb; have BK109 := q0 (hbox); have GW109 := q0 ((bs HB.out hg : w.heap.size ≤ gb109)); have GE109 := q0 ((bs HB.out hg : w.heap.size ≤ gb109)); replace HB := q0 (below_step (qb HB.out) hb); have NB104_109 := q0 ((bl BK104.out hg : gb104 ≠ gb109)); have NB109_104 := q0 ((bg BK104.out hg : gb109 ≠ gb104)); replace BK104 := q0 (kb BK104.out hb); clear hb hbox hg; have hnb30 := NB109_104.out; have hnc30 := NB104_109.out; have hcz31_0 : w29.cell? ⟨gb109, 0, none⟩ = some (.int .i64 0) := (blk_cell BK109.out 0).trans rfl; have hcz31_1 : w29.cell? ⟨gb109, 1, none⟩ = some (.int .i64 0) := (blk_cell BK109.out 1).trans rfl; have hfz31_0 := blk_frozen BK109.out 0; have hfz31_1 := blk_frozen BK109.out 1))
   have n0_ : Aside0 (((w29.setCell ⟨gb109, 0, none⟩ (.int .i64 ((rd_TTie l0_1 x3_2).f0))).setCell ⟨gb109, 1, none⟩ (.int .i64 ((rd_TTie l0_1 x3_2).f1))).heap[gb104]? = some (.cells #[.int .i64 a0_0, .slice (some ad108) l0_1.length c0_1] 25 (0, 0))) := ⟨qf BK104.out⟩
   have n1_ : Aside0 (((w29.setCell ⟨gb109, 0, none⟩ (.int .i64 ((rd_TTie l0_1 x3_2).f0))).setCell ⟨gb109, 1, none⟩ (.int .i64 ((rd_TTie l0_1 x3_2).f1))).heap[gb109]? = some (.cells #[.int .i64 ((rd_TTie l0_1 x3_2).f0), .int .i64 ((rd_TTie l0_1 x3_2).f1)] 32 (0, 0))) := ⟨by (with_reducible repeat (first | refine blk_drewN ?_ _ | refine blk_drew ?_ | refine blk_alloc ?_ _)); refine blk_put (cs := #[.int .i64 ((rd_TTie l0_1 x3_2).f0), .int .i64 0]) ?_ 1 _ rfl; (with_reducible repeat (first | refine blk_drewN ?_ _ | refine blk_drew ?_ | refine blk_alloc ?_ _)); refine blk_put (cs := #[.int .i64 0, .int .i64 0]) ?_ 0 _ rfl; (with_reducible repeat (first | refine blk_drewN ?_ _ | refine blk_drew ?_ | refine blk_alloc ?_ _)); exact BK109.out⟩
   have n2_ : Aside0 (Below w.heap.size w ((w29.setCell ⟨gb109, 0, none⟩ (.int .i64 ((rd_TTie l0_1 x3_2).f0))).setCell ⟨gb109, 1, none⟩ (.int .i64 ((rd_TTie l0_1 x3_2).f1)))) := ⟨qb HB.out⟩
   (try clear BK104)
   (try clear BK109)
   (try clear HB)
   generalize ((w29.setCell ⟨gb109, 0, none⟩ (.int .i64 ((rd_TTie l0_1 x3_2).f0))).setCell ⟨gb109, 1, none⟩ (.int .i64 ((rd_TTie l0_1 x3_2).f1))) = w32 at n0_ n1_ n2_ ⊢
   have BK104 := n0_
   have BK109 := n1_
   have HB := n2_
   clear n0_ n1_ n2_
   replace BK104 := q0 (blk_drew BK104.out)
   replace BK109 := q0 (blk_drew BK109.out)
   replace HB := q0 (below_drew1 HB.out)
   have p110 : 0 ≤ ((ji16) : Int) := of_decide_eq_true qa
   have q110 : (ji16) < (l0_1.length : Int) := of_decide_eq_true qa
   obtain ⟨ad110, e110, hx110_0, hx110_1⟩ := at_TTie HR0_1.out (ji16) p110 q110
   have hw110_1 := hx110_1
   have hw110_0 := hx110_0
   obtain rfl : ad108 = ad110 := (by injection e110)
   replace hx110_0 := (HB.out.cell (World.block_lt_of_cell? w _ hx110_0)).trans hx110_0
   replace hx110_1 := (HB.out.cell (World.block_lt_of_cell? w _ hx110_1)).trans hx110_1
   replace p110 := eq_true p110
   replace q110 := eq_true q110
   refine start_ (n := 34) (S := fun w' => w'.cell? ⟨gb109, 0, none⟩ = some (.int .i64 ((rd_TTie l0_1 x3_2).f0)) ∧ w'.cell? ⟨gb109, 1, none⟩ = some (.int .i64 ((rd_TTie l0_1 x3_2).f1)) ∧ w'.cell? ⟨gb104, 0, none⟩ = some (.int .i64 a0_0) ∧ w'.cell? ⟨gb104, 1, none⟩ = some (.slice (some ad108) l0_1.length c0_1) ∧ w'.cell? (ad108.add (((ji16)).toNat * 2)) = some (.int .i64 ((rd_TTie l0_1 (ji16)).f0)) ∧ w'.cell? ⟨(ad108.add (((ji16)).toNat * 2)).block, (ad108.add (((ji16)).toNat * 2)).off + 1, none⟩ = some (.int .i64 ((rd_TTie l0_1 (ji16)).f1))) (ds := []) (ba 34 0) (by kernel_rfl) rfl (by kernel_rfl) ⟨(blk_cell BK109.out 0).trans rfl, (blk_cell BK109.out 1).trans rfl, (blk_cell BK104.out 0).trans rfl, (blk_cell BK104.out 1).trans rfl, ((HB.out.cell (World.block_lt_of_cell? w _ hw110_0)).trans hw110_0), ((HB.out.cell (World.block_lt_of_cell? w _ hw110_1)).trans hw110_1)⟩ (fun hHeld => ?_); refine with_tabW spec_NetOk.tab7 spec_NetOk.bits7 (fun HT_ HW_ => ?_)
   generalize w32.drew = w33 at BK104 BK109 HB hx110_0 hx110_1 hHeld ⊢
   refine pu 0 (some 27) (ba 34 1) HT_.out ?_
   refine pu 2 (some 29) (ba 34 5) HT_.out ?_
   refine tu 1 (some 28) (ba 34 7) HT_.out HW_.out hHeld ?_
   refine tu 3 (some 30) (ba 34 15) HT_.out HW_.out hHeld ?_
   refine pu 4 (some 31) (ba 34 31) HT_.out ?_
   refine one_ (i := 5) (N := some 32) (ba 34 63) rfl rfl (one_of HT_.out (by kernel_rfl)) (by decide) (fun K hK => ?_)
   refine goes_ Try.func88 (by kernel_rfl) rfl #[.int .i64 ((rd_TTie l0_1 x3_2).f0), .int .i64 0, .int .i64 (wrap64 (a0_0 - 1))] (by rfl) rfl rfl qm ?_
   with_reducible refine (spec_l6In.calls ((rd_TTie l0_1 x3_2).f0) 0 (wrap64 (a0_0 - 1)) true _ A11.out).mono ?_
   rintro e w' ⟨rfl, ⟨nd, rfl⟩⟩
   refine ⟨_, rfl, ?_⟩
   refine hK.out _ _ ⟨(blk_cell BK109.out 0).trans rfl, (blk_cell BK109.out 1).trans rfl, (blk_cell BK104.out 0).trans rfl, (blk_cell BK104.out 1).trans rfl, ((HB.out.cell (World.block_lt_of_cell? w _ hw110_0)).trans hw110_0), ((HB.out.cell (World.block_lt_of_cell? w _ hw110_1)).trans hw110_1)⟩ (fun hHeld => ?_)
   clear hK K
   refine nu 32 ?_
   refine pu 6 (some 33) (ba 34 127) HT_.out ?_
   refine pu 7 (some 34) (ba 34 255) HT_.out ?_
   refine pu 8 (some 35) (ba 34 511) HT_.out ?_
   refine pu 10 (some 37) (ba 34 1535) HT_.out ?_
   refine pu 13 (some 40) (ba 34 9727) HT_.out ?_
   refine tu 9 (some 36) (ba 34 10239) HT_.out HW_.out hHeld ?_
   refine tu 11 (some 38) (ba 34 12287) HT_.out HW_.out hHeld ?_
   refine pu 12 (some 39) (ba 34 16383) HT_.out ?_
   refine tu 14 (some 41) (ba 34 32767) HT_.out HW_.out hHeld ?_
   refine pu 15 (some 42) (ba 34 65535) HT_.out ?_
   refine one_ (i := 16) (N := some 43) (ba 34 131071) rfl rfl (one_of HT_.out (by kernel_rfl)) (by decide) (fun K hK => ?_)
   refine goes_ Try.func88 (by kernel_rfl) rfl #[.int .i64 ((rd_TTie l0_1 x3_2).f1), .int .i64 (wrap64 (((rd_TTie l0_1 x3_2).f0) + 1)), .int .i64 (wrap64 (a0_0 - 1))] (by rfl) rfl rfl qm ?_
   with_reducible refine (spec_l6In.calls ((rd_TTie l0_1 x3_2).f1) (wrap64 (((rd_TTie l0_1 x3_2).f0) + 1)) (wrap64 (a0_0 - 1)) true _ A13.out).mono ?_
   rintro e w' ⟨rfl, ⟨nd, rfl⟩⟩
   refine ⟨_, rfl, ?_⟩
   refine hK.out _ _ ⟨(blk_cell BK109.out 0).trans rfl, (blk_cell BK109.out 1).trans rfl, (blk_cell BK104.out 0).trans rfl, (blk_cell BK104.out 1).trans rfl, ((HB.out.cell (World.block_lt_of_cell? w _ hw110_0)).trans hw110_0), ((HB.out.cell (World.block_lt_of_cell? w _ hw110_1)).trans hw110_1)⟩ (fun hHeld => ?_)
   clear hK K
   refine nu 43 ?_
   refine pu 17 (some 44) (ba 34 262143) HT_.out ?_
   refine pu 18 (some 45) (ba 34 524287) HT_.out ?_
   refine pu 19 (some 46) (ba 34 1048575) HT_.out ?_
   refine pu 20 (some 47) (ba 34 2097151) HT_.out ?_
   refine pu 21 (some 48) (ba 34 4194303) HT_.out ?_
   refine pu 22 (some 49) (ba 34 8388607) HT_.out ?_
   refine pu 23 (some 50) (ba 34 16777215) HT_.out ?_
   refine pu 25 (some 52) (ba 34 50331647) HT_.out ?_
   refine pu 26 (some 53) (ba 34 117440511) HT_.out ?_
   refine tu 24 (some 51) (ba 34 134217727) HT_.out HW_.out hHeld ?_
   refine pu 27 (some 54) (ba 34 268435455) HT_.out ?_
   refine tu 28 (some 55) (ba 34 536870911) HT_.out HW_.out hHeld ?_
   refine tu 29 (some 56) (ba 34 1073741823) HT_.out HW_.out hHeld ?_
   refine one_ (i := 30) (N := some 57) (ba 34 2147483647) rfl rfl (one_of HT_.out (by kernel_rfl)) (by decide) (fun K hK => ?_)
   refine goes_ Try.func69 (by kernel_rfl) rfl #[.agg #[.int .i64 ((rd_TTie l0_1 (ji16)).f0), .int .i64 ((rd_TTie l0_1 (ji16)).f1)], .agg #[.int .i64 ((rd_TTie l0_1 x3_2).f0), .int .i64 ((rd_TTie l0_1 x3_2).f1)]] (by rfl) rfl rfl (by (try simp only [List.map_toArray, List.map_cons, List.map_nil]); first | done | (simp only [hji16]; rfl) | rfl | (simp only [List.length_drop, List.length_take]; rfl)) ?_
   with_reducible refine (spec_l1Less.calls ((rd_TTie l0_1 (ji16)).f0) ((rd_TTie l0_1 (ji16)).f1) ((rd_TTie l0_1 x3_2).f0) ((rd_TTie l0_1 x3_2).f1) false _ A19.out).mono ?_
   rintro e w34 ⟨rfl, hb⟩
   refine ⟨_, rfl, ?_⟩
   replace BK104 := q0 (kb BK104.out hb)
   replace BK109 := q0 (kb BK109.out hb)
   replace HB := q0 (below_step (qb HB.out) hb)
   (try clear hb)
   (try clear hb2)
   (try clear hk)
   (try clear hi)
   refine hK.out _ _ ⟨(blk_cell BK109.out 0).trans rfl, (blk_cell BK109.out 1).trans rfl, (blk_cell BK104.out 0).trans rfl, (blk_cell BK104.out 1).trans rfl, ((HB.out.cell (World.block_lt_of_cell? w _ hw110_0)).trans hw110_0), ((HB.out.cell (World.block_lt_of_cell? w _ hw110_1)).trans hw110_1)⟩ (fun hHeld => ?_)
   clear hK K
   refine nu 57 ?_
   refine pu 31 (some 58) (ba 34 4294967295) HT_.out ?_
   refine pu 32 (some 59) (ba 34 8589934591) HT_.out ?_
   refine pu 33 (some 60) (ba 34 17179869183) HT_.out ?_
   refine done_ (done_of HT_.out (by kernel_rfl)) ?_
   try go_wp2
   go_ret
   exact ⟨by first | rfl | (simp [errW_none, errW_some] <;> rfl) | (simp only [← hji16]; first | rfl | (simp [errW_none, errW_some] <;> rfl)) | (simp [*, errW_none, errW_some] <;> rfl), qb HB.out⟩
 subst c20
 rw [if_pos rfl] at H
 have H' := Aside0.mk H
 clear H
 have hcz21_0 : wr.cell? ⟨gb104, 0, none⟩ = some (.int .i64 a0_0) := (blk_cell BK104.out 0).trans rfl
 have hcz21_1 : wr.cell? ⟨gb104, 1, none⟩ = some (.slice A0_1 l0_1.length c0_1) := (blk_cell BK104.out 1).trans rfl
 have hfz21_0 := blk_frozen BK104.out 0
 have hfz21_1 := blk_frozen BK104.out 1
 have p108 : 0 ≤ (x3_2 : Int) := of_decide_eq_true qa
 have q108 : x3_2 < (l0_1.length : Int) := of_decide_eq_true qa
 obtain ⟨ad108, e108, hx108_0, hx108_1⟩ := at_TTie HR0_1.out x3_2 p108 q108
 cases e108
 replace hx108_0 := (HB.out.cell (World.block_lt_of_cell? w _ hx108_0)).trans hx108_0
 replace hx108_1 := (HB.out.cell (World.block_lt_of_cell? w _ hx108_1)).trans hx108_1
 replace p108 := eq_true p108
 replace q108 := eq_true q108
 try go_wp2_with (first | ((with_reducible refine gate_dst (N := 4) rfl ?_); (try (refine gate_guard (by rfl) ?_; dsimp only)); refine be 4 #[.int .i64 0, .int .i64 0] 32 ?_; intro gb109 hg w22 hbox hb; have BK109 := q0 (hbox); have GW109 := q0 ((bs HB.out hg : w.heap.size ≤ gb109)); have GE109 := q0 ((bs HB.out hg : w.heap.size ≤ gb109)); replace HB := q0 (below_step (qb HB.out) hb); have NB104_109 := q0 ((bl BK104.out hg : gb104 ≠ gb109)); have NB109_104 := q0 ((bg BK104.out hg : gb109 ≠ gb104)); replace BK104 := q0 (kb BK104.out hb); clear hb hbox hg; have hnb23 := NB109_104.out; have hnc23 := NB104_109.out; have hcz24_0 : w22.cell? ⟨gb109, 0, none⟩ = some (.int .i64 0) := (blk_cell BK109.out 0).trans rfl; have hcz24_1 : w22.cell? ⟨gb109, 1, none⟩ = some (.int .i64 0) := (blk_cell BK109.out 1).trans rfl; have hfz24_0 := blk_frozen BK109.out 0; have hfz24_1 := blk_frozen BK109.out 1))
 have n0_ : Aside0 (((w22.setCell ⟨gb109, 0, none⟩ (.int .i64 ((rd_TTie l0_1 x3_2).f0))).setCell ⟨gb109, 1, none⟩ (.int .i64 ((rd_TTie l0_1 x3_2).f1))).heap[gb104]? = some (.cells #[.int .i64 a0_0, .slice (some ad108) l0_1.length c0_1] 25 (0, 0))) := ⟨qf BK104.out⟩
 have n1_ : Aside0 (((w22.setCell ⟨gb109, 0, none⟩ (.int .i64 ((rd_TTie l0_1 x3_2).f0))).setCell ⟨gb109, 1, none⟩ (.int .i64 ((rd_TTie l0_1 x3_2).f1))).heap[gb109]? = some (.cells #[.int .i64 ((rd_TTie l0_1 x3_2).f0), .int .i64 ((rd_TTie l0_1 x3_2).f1)] 32 (0, 0))) := ⟨by (with_reducible repeat (first | refine blk_drewN ?_ _ | refine blk_drew ?_ | refine blk_alloc ?_ _)); refine blk_put (cs := #[.int .i64 ((rd_TTie l0_1 x3_2).f0), .int .i64 0]) ?_ 1 _ rfl; (with_reducible repeat (first | refine blk_drewN ?_ _ | refine blk_drew ?_ | refine blk_alloc ?_ _)); refine blk_put (cs := #[.int .i64 0, .int .i64 0]) ?_ 0 _ rfl; (with_reducible repeat (first | refine blk_drewN ?_ _ | refine blk_drew ?_ | refine blk_alloc ?_ _)); exact BK109.out⟩
 have n2_ : Aside0 (Below w.heap.size w ((w22.setCell ⟨gb109, 0, none⟩ (.int .i64 ((rd_TTie l0_1 x3_2).f0))).setCell ⟨gb109, 1, none⟩ (.int .i64 ((rd_TTie l0_1 x3_2).f1)))) := ⟨qb HB.out⟩
 (try clear BK104)
 (try clear BK109)
 (try clear HB)
 generalize ((w22.setCell ⟨gb109, 0, none⟩ (.int .i64 ((rd_TTie l0_1 x3_2).f0))).setCell ⟨gb109, 1, none⟩ (.int .i64 ((rd_TTie l0_1 x3_2).f1))) = w25 at n0_ n1_ n2_ ⊢
 have BK104 := n0_
 have BK109 := n1_
 have HB := n2_
 clear n0_ n1_ n2_
 replace BK104 := q0 (blk_drew BK104.out)
 replace BK109 := q0 (blk_drew BK109.out)
 replace HB := q0 (below_drew1 HB.out)
 have p110 : 0 ≤ ((ji16) : Int) := of_decide_eq_true qa
 have q110 : (ji16) < (l0_1.length : Int) := of_decide_eq_true qa
 obtain ⟨ad110, e110, hx110_0, hx110_1⟩ := at_TTie HR0_1.out (ji16) p110 q110
 have hw110_1 := hx110_1
 have hw110_0 := hx110_0
 obtain rfl : ad108 = ad110 := (by injection e110)
 replace hx110_0 := (HB.out.cell (World.block_lt_of_cell? w _ hx110_0)).trans hx110_0
 replace hx110_1 := (HB.out.cell (World.block_lt_of_cell? w _ hx110_1)).trans hx110_1
 replace p110 := eq_true p110
 replace q110 := eq_true q110
 refine start_ (n := 34) (S := fun w' => w'.cell? ⟨gb109, 0, none⟩ = some (.int .i64 ((rd_TTie l0_1 x3_2).f0)) ∧ w'.cell? ⟨gb109, 1, none⟩ = some (.int .i64 ((rd_TTie l0_1 x3_2).f1)) ∧ w'.cell? ⟨gb104, 0, none⟩ = some (.int .i64 a0_0) ∧ w'.cell? ⟨gb104, 1, none⟩ = some (.slice (some ad108) l0_1.length c0_1) ∧ w'.cell? (ad108.add (((ji16)).toNat * 2)) = some (.int .i64 ((rd_TTie l0_1 (ji16)).f0)) ∧ w'.cell? ⟨(ad108.add (((ji16)).toNat * 2)).block, (ad108.add (((ji16)).toNat * 2)).off + 1, none⟩ = some (.int .i64 ((rd_TTie l0_1 (ji16)).f1))) (ds := []) (ba 34 0) (by kernel_rfl) rfl (by kernel_rfl) ⟨(blk_cell BK109.out 0).trans rfl, (blk_cell BK109.out 1).trans rfl, (blk_cell BK104.out 0).trans rfl, (blk_cell BK104.out 1).trans rfl, ((HB.out.cell (World.block_lt_of_cell? w _ hw110_0)).trans hw110_0), ((HB.out.cell (World.block_lt_of_cell? w _ hw110_1)).trans hw110_1)⟩ (fun hHeld => ?_); refine with_tabW spec_NetOk.tab7 spec_NetOk.bits7 (fun HT_ HW_ => ?_)
 generalize w25.drew = w26 at BK104 BK109 HB hx110_0 hx110_1 hHeld ⊢
 refine pu 0 (some 27) (ba 34 1) HT_.out ?_
 refine pu 2 (some 29) (ba 34 5) HT_.out ?_
 refine tu 1 (some 28) (ba 34 7) HT_.out HW_.out hHeld ?_
 refine tu 3 (some 30) (ba 34 15) HT_.out HW_.out hHeld ?_
 refine pu 4 (some 31) (ba 34 31) HT_.out ?_
 refine one_ (i := 5) (N := some 32) (ba 34 63) rfl rfl (one_of HT_.out (by kernel_rfl)) (by decide) (fun K hK => ?_)
 refine goes_ Try.func88 (by kernel_rfl) rfl #[.int .i64 ((rd_TTie l0_1 x3_2).f0), .int .i64 0, .int .i64 (wrap64 (a0_0 - 1))] (by rfl) rfl rfl qm ?_
 with_reducible refine (spec_l6In.calls ((rd_TTie l0_1 x3_2).f0) 0 (wrap64 (a0_0 - 1)) true _ A11.out).mono ?_
 rintro e w' ⟨rfl, ⟨nd, rfl⟩⟩
 refine ⟨_, rfl, ?_⟩
 refine hK.out _ _ ⟨(blk_cell BK109.out 0).trans rfl, (blk_cell BK109.out 1).trans rfl, (blk_cell BK104.out 0).trans rfl, (blk_cell BK104.out 1).trans rfl, ((HB.out.cell (World.block_lt_of_cell? w _ hw110_0)).trans hw110_0), ((HB.out.cell (World.block_lt_of_cell? w _ hw110_1)).trans hw110_1)⟩ (fun hHeld => ?_)
 clear hK K
 refine nu 32 ?_
 refine pu 6 (some 33) (ba 34 127) HT_.out ?_
 refine pu 7 (some 34) (ba 34 255) HT_.out ?_
 refine pu 8 (some 35) (ba 34 511) HT_.out ?_
 refine pu 10 (some 37) (ba 34 1535) HT_.out ?_
 refine pu 13 (some 40) (ba 34 9727) HT_.out ?_
 refine tu 9 (some 36) (ba 34 10239) HT_.out HW_.out hHeld ?_
 refine tu 11 (some 38) (ba 34 12287) HT_.out HW_.out hHeld ?_
 refine pu 12 (some 39) (ba 34 16383) HT_.out ?_
 refine tu 14 (some 41) (ba 34 32767) HT_.out HW_.out hHeld ?_
 refine pu 15 (some 42) (ba 34 65535) HT_.out ?_
 refine one_ (i := 16) (N := some 43) (ba 34 131071) rfl rfl (one_of HT_.out (by kernel_rfl)) (by decide) (fun K hK => ?_)
 refine goes_ Try.func88 (by kernel_rfl) rfl #[.int .i64 ((rd_TTie l0_1 x3_2).f1), .int .i64 (wrap64 (((rd_TTie l0_1 x3_2).f0) + 1)), .int .i64 (wrap64 (a0_0 - 1))] (by rfl) rfl rfl qm ?_
 with_reducible refine (spec_l6In.calls ((rd_TTie l0_1 x3_2).f1) (wrap64 (((rd_TTie l0_1 x3_2).f0) + 1)) (wrap64 (a0_0 - 1)) true _ A13.out).mono ?_
 rintro e w' ⟨rfl, ⟨nd, rfl⟩⟩
 refine ⟨_, rfl, ?_⟩
 refine hK.out _ _ ⟨(blk_cell BK109.out 0).trans rfl, (blk_cell BK109.out 1).trans rfl, (blk_cell BK104.out 0).trans rfl, (blk_cell BK104.out 1).trans rfl, ((HB.out.cell (World.block_lt_of_cell? w _ hw110_0)).trans hw110_0), ((HB.out.cell (World.block_lt_of_cell? w _ hw110_1)).trans hw110_1)⟩ (fun hHeld => ?_)
 clear hK K
 refine nu 43 ?_
 refine pu 17 (some 44) (ba 34 262143) HT_.out ?_
 refine pu 18 (some 45) (ba 34 524287) HT_.out ?_
 refine pu 19 (some 46) (ba 34 1048575) HT_.out ?_
 refine pu 20 (some 47) (ba 34 2097151) HT_.out ?_
 refine pu 21 (some 48) (ba 34 4194303) HT_.out ?_
 refine pu 22 (some 49) (ba 34 8388607) HT_.out ?_
 refine pu 23 (some 50) (ba 34 16777215) HT_.out ?_
 refine pu 25 (some 52) (ba 34 50331647) HT_.out ?_
 refine pu 26 (some 53) (ba 34 117440511) HT_.out ?_
 refine tu 24 (some 51) (ba 34 134217727) HT_.out HW_.out hHeld ?_
 refine pu 27 (some 54) (ba 34 268435455) HT_.out ?_
 refine tu 28 (some 55) (ba 34 536870911) HT_.out HW_.out hHeld ?_
 refine tu 29 (some 56) (ba 34 1073741823) HT_.out HW_.out hHeld ?_
 refine one_ (i := 30) (N := some 57) (ba 34 2147483647) rfl rfl (one_of HT_.out (by kernel_rfl)) (by decide) (fun K hK => ?_)
 refine goes_ Try.func69 (by kernel_rfl) rfl #[.agg #[.int .i64 ((rd_TTie l0_1 (ji16)).f0), .int .i64 ((rd_TTie l0_1 (ji16)).f1)], .agg #[.int .i64 ((rd_TTie l0_1 x3_2).f0), .int .i64 ((rd_TTie l0_1 x3_2).f1)]] (by rfl) rfl rfl (by (try simp only [List.map_toArray, List.map_cons, List.map_nil]); first | done | (simp only [hji16]; rfl) | rfl | (simp only [List.length_drop, List.length_take]; rfl)) ?_
 with_reducible refine (spec_l1Less.calls ((rd_TTie l0_1 (ji16)).f0) ((rd_TTie l0_1 (ji16)).f1) ((rd_TTie l0_1 x3_2).f0) ((rd_TTie l0_1 x3_2).f1) true _ A19.out).mono ?_
 rintro e w27 ⟨rfl, hb⟩
 refine ⟨_, rfl, ?_⟩
 replace BK104 := q0 (kb BK104.out hb)
 replace BK109 := q0 (kb BK109.out hb)
 replace HB := q0 (below_step (qb HB.out) hb)
 (try clear hb)
 (try clear hb2)
 (try clear hk)
 (try clear hi)
 refine hK.out _ _ ⟨(blk_cell BK109.out 0).trans rfl, (blk_cell BK109.out 1).trans rfl, (blk_cell BK104.out 0).trans rfl, (blk_cell BK104.out 1).trans rfl, ((HB.out.cell (World.block_lt_of_cell? w _ hw110_0)).trans hw110_0), ((HB.out.cell (World.block_lt_of_cell? w _ hw110_1)).trans hw110_1)⟩ (fun hHeld => ?_)
 clear hK K
 refine nu 57 ?_
 refine pu 31 (some 58) (ba 34 4294967295) HT_.out ?_
 refine pu 32 (some 59) (ba 34 8589934591) HT_.out ?_
 refine pu 33 (some 60) (ba 34 17179869183) HT_.out ?_
 refine done_ (done_of HT_.out (by kernel_rfl)) ?_
 try go_wp2
 go_roundg k2
 case measure => have := HJ1.out; have := HK2.out; omega
 case rel => exact ⟨(wrap64 (x3_2 + 1)), qs, H', ⟨by have := HJ1.out; have := HK2.out; omega⟩, ⟨qk BK104.out⟩, ⟨qb HB.out⟩⟩

set_option maxHeartbeats 8000000 in
set_option maxRecDepth 100000 in
theorem spec_l1Knot.calls (k : Nat) (a0_0 : Int) (A0_1 : Option Addr) (c0_1 : Nat) (l0_1 : List (STie)) (a1 : Int) (r : Bool) (w : World) (hr0_1 : Kd.C kTie w A0_1 l0_1.length l0_1) (hc0_1 : l0_1.length ≤ c0_1) (h : spec_l1Knot.f k a0_0 l0_1 a1 = some r) :
    Calls Try.prog 67 #[.agg #[.int .i64 a0_0, .slice A0_1 l0_1.length c0_1], .int .i64 a1] w fun e w' => e = .returned (.bool r) ∧ Below w.heap.size w w' := by
 have hu25 := Try.underlying25
 have HR0_1 := Aside0.mk hr0_1
 have HC0_1 := Aside0.mk hc0_1
 clear hr0_1 hc0_1
 have HB := q0 (Below.refl w.heap.size w)
 have H : ((spec_NetOk.f k a0_0 l0_1).bind fun t100 => (if t100 = true then ((spec_l6In.f a1 0 (wrap64 (a0_0 - 1))).bind fun t101 => (some t101)) else (some false))) = some r := h
 clear h
 replace H := Option.bind_eq_some_iff.mp H
 obtain ⟨t100, A30, H⟩ := H
 have A3 := Aside0.mk A30
 clear A30
 by_cases c4 : t100 = true
 rotate_left
 · replace c4 := Bool.eq_false_iff.mpr c4
   subst c4
   rw [if_neg nf] at H
   obtain rfl := Option.some.inj H
   go_enter Try.func67, Try.ntmps67
   go_wp2_with (first | ((with_reducible refine gate_dst (N := 2) rfl ?_); refine be 2 #[.int .i64 a0_0, .slice A0_1 l0_1.length c0_1] 25 ?_; intro gb102 hg w10 hbox hb; have BK102 := q0 (hbox); have GW102 := q0 ((bs HB.out hg : w.heap.size ≤ gb102)); have GE102 := q0 ((bs HB.out hg : w.heap.size ≤ gb102)); replace HB := q0 (below_step (qb HB.out) hb); clear hb hbox hg; have hcz11_0 : w10.cell? ⟨gb102, 0, none⟩ = some (.int .i64 a0_0) := (blk_cell BK102.out 0).trans rfl; have hcz11_1 : w10.cell? ⟨gb102, 1, none⟩ = some (.slice A0_1 l0_1.length c0_1) := (blk_cell BK102.out 1).trans rfl; have hfz11_0 := blk_frozen BK102.out 0; have hfz11_1 := blk_frozen BK102.out 1) | ((with_reducible refine gate_callee (f := 49) rfl ?_); refine gl 6 Try.func49 #[.agg #[.int .i64 a0_0, .slice A0_1 l0_1.length c0_1]] ?_; (with_reducible refine (spec_NetOk.calls k a0_0 _ _ l0_1 false _ ?side1 ?side2 A3.out).mono ?_); (case side1 => exact qc (Kd.C_below HR0_1.out HB.out)); (case side2 => exact HC0_1.out); rintro e w12 ⟨rfl, hb⟩; refine ⟨_, rfl, ?_⟩; replace BK102 := q0 (kb BK102.out hb); replace HB := q0 (below_step (qb HB.out) hb); (try clear hb); (try clear hb2); (try clear hk); (try clear hi)))
   go_ret
   exact ⟨qe, qb HB.out⟩
 subst c4
 rw [if_pos rfl] at H
 replace H := Option.bind_eq_some_iff.mp H
 obtain ⟨t101, A50, H⟩ := H
 have A5 := Aside0.mk A50
 clear A50
 obtain rfl := Option.some.inj H
 go_enter Try.func67, Try.ntmps67
 go_wp2_with (first | ((with_reducible refine gate_dst (N := 2) rfl ?_); refine be 2 #[.int .i64 a0_0, .slice A0_1 l0_1.length c0_1] 25 ?_; intro gb102 hg w6 hbox hb; have BK102 := q0 (hbox); have GW102 := q0 ((bs HB.out hg : w.heap.size ≤ gb102)); have GE102 := q0 ((bs HB.out hg : w.heap.size ≤ gb102)); replace HB := q0 (below_step (qb HB.out) hb); clear hb hbox hg; have hcz7_0 : w6.cell? ⟨gb102, 0, none⟩ = some (.int .i64 a0_0) := (blk_cell BK102.out 0).trans rfl; have hcz7_1 : w6.cell? ⟨gb102, 1, none⟩ = some (.slice A0_1 l0_1.length c0_1) := (blk_cell BK102.out 1).trans rfl; have hfz7_0 := blk_frozen BK102.out 0; have hfz7_1 := blk_frozen BK102.out 1) | ((with_reducible refine gate_callee (f := 49) rfl ?_); refine gl 6 Try.func49 #[.agg #[.int .i64 a0_0, .slice A0_1 l0_1.length c0_1]] ?_; (with_reducible refine (spec_NetOk.calls k a0_0 _ _ l0_1 true _ ?side1 ?side2 A3.out).mono ?_); (case side1 => exact qc (Kd.C_below HR0_1.out HB.out)); (case side2 => exact HC0_1.out); rintro e w8 ⟨rfl, hb⟩; refine ⟨_, rfl, ?_⟩; replace BK102 := q0 (kb BK102.out hb); replace HB := q0 (below_step (qb HB.out) hb); (try clear hb); (try clear hb2); (try clear hk); (try clear hi); have hcz9_0 : w8.cell? ⟨gb102, 0, none⟩ = some (.int .i64 a0_0) := (blk_cell BK102.out 0).trans rfl; have hcz9_1 : w8.cell? ⟨gb102, 1, none⟩ = some (.slice A0_1 l0_1.length c0_1) := (blk_cell BK102.out 1).trans rfl; have hfz9_0 := blk_frozen BK102.out 0; have hfz9_1 := blk_frozen BK102.out 1) | (go_at_call 88; (with_reducible refine (spec_l6In.calls a1 0 (wrap64 (a0_0 - 1)) t101 _ A5.out).mono ?_); rintro e w' ⟨rfl, ⟨nd, rfl⟩⟩))
 go_ret
 exact ⟨qe, qb HB.out⟩

set_option maxHeartbeats 8000000 in
set_option maxRecDepth 100000 in
theorem spec_l1Tie.calls (a0 : Int) (a1 : Int) (r1 : Int) (r2 : Int) (w : World) (h : spec_l1Tie.f a0 a1 = some (r1, r2)) :
    Calls Try.prog 68 #[.int .i64 a0, .int .i64 a1] w fun e w' => e = .returned (.agg #[.int .i64 r1, .int .i64 r2]) ∧ Below w.heap.size w w' := by
 have hu32 := Try.underlying32
 have HB := q0 (Below.refl w.heap.size w)
 have H : (if a0 < a1 then (some (a0, a1)) else (some (a1, a0))) = some (r1, r2) := h
 clear h
 by_cases c3 : a0 < a1
 · rw [if_pos c3] at H
   have c3b0 : decide (a0 < a1) = true := decide_eq_true c3
   clear c3
   simp only [Option.some.injEq, Prod.mk.injEq] at H
   obtain ⟨rfl, rfl⟩ := H
   go_enter Try.func68, Try.ntmps68
   go_wp2_with (first | ((with_reducible refine gate_dst (N := 4) rfl ?_); refine be 4 #[.int .i64 0, .int .i64 0] 32 ?_; intro gb100 hg w4 hbox hb; have BK100 := q0 (hbox); have GW100 := q0 ((bs HB.out hg : w.heap.size ≤ gb100)); have GE100 := q0 ((bs HB.out hg : w.heap.size ≤ gb100)); replace HB := q0 (below_step (qb HB.out) hb); clear hb hbox hg; have hcz5_0 : w4.cell? ⟨gb100, 0, none⟩ = some (.int .i64 0) := (blk_cell BK100.out 0).trans rfl; have hcz5_1 : w4.cell? ⟨gb100, 1, none⟩ = some (.int .i64 0) := (blk_cell BK100.out 1).trans rfl; have hfz5_0 := blk_frozen BK100.out 0; have hfz5_1 := blk_frozen BK100.out 1))
   refine bodyPost_ret (results_cell_row rfl _ _ gb100 32 #[.int .i64 a0, .int .i64 a1] (0, 0) _ rfl (by (with_reducible repeat (first | refine blk_drewN ?_ _ | refine blk_drew ?_ | refine blk_alloc ?_ _)); refine blk_put (cs := #[.int .i64 a0, .int .i64 0]) ?_ 1 _ rfl; (with_reducible repeat (first | refine blk_drewN ?_ _ | refine blk_drew ?_ | refine blk_alloc ?_ _)); refine blk_put (cs := #[.int .i64 0, .int .i64 0]) ?_ 0 _ rfl; (with_reducible repeat (first | refine blk_drewN ?_ _ | refine blk_drew ?_ | refine blk_alloc ?_ _)); exact BK100.out) Try.underlying32 rfl (by kernel_rfl)) rfl ?_
   exact ⟨qe, qb HB.out⟩
 rw [if_neg c3] at H
 have c3b0 : decide (a0 < a1) = false := decide_eq_false c3
 clear c3
 simp only [Option.some.injEq, Prod.mk.injEq] at H
 obtain ⟨rfl, rfl⟩ := H
 go_enter Try.func68, Try.ntmps68
 go_wp2_with (first | ((with_reducible refine gate_dst (N := 4) rfl ?_); refine be 4 #[.int .i64 0, .int .i64 0] 32 ?_; intro gb100 hg w6 hbox hb; have BK100 := q0 (hbox); have GW100 := q0 ((bs HB.out hg : w.heap.size ≤ gb100)); have GE100 := q0 ((bs HB.out hg : w.heap.size ≤ gb100)); replace HB := q0 (below_step (qb HB.out) hb); clear hb hbox hg; have hcz7_0 : w6.cell? ⟨gb100, 0, none⟩ = some (.int .i64 0) := (blk_cell BK100.out 0).trans rfl; have hcz7_1 : w6.cell? ⟨gb100, 1, none⟩ = some (.int .i64 0) := (blk_cell BK100.out 1).trans rfl; have hfz7_0 := blk_frozen BK100.out 0; have hfz7_1 := blk_frozen BK100.out 1))
 refine bodyPost_ret (results_cell_row rfl _ _ gb100 32 #[.int .i64 a1, .int .i64 a0] (0, 0) _ rfl (by (with_reducible repeat (first | refine blk_drewN ?_ _ | refine blk_drew ?_ | refine blk_alloc ?_ _)); refine blk_put (cs := #[.int .i64 a1, .int .i64 0]) ?_ 1 _ rfl; (with_reducible repeat (first | refine blk_drewN ?_ _ | refine blk_drew ?_ | refine blk_alloc ?_ _)); refine blk_put (cs := #[.int .i64 0, .int .i64 0]) ?_ 0 _ rfl; (with_reducible repeat (first | refine blk_drewN ?_ _ | refine blk_drew ?_ | refine blk_alloc ?_ _)); exact BK100.out) Try.underlying32 rfl (by kernel_rfl)) rfl ?_
 exact ⟨qe, qb HB.out⟩

attribute [local go_sem high] eqATie
def spec_l1Has.T4 : Bool × List (List Nat × List Nat) := (true, [([], []), ([0], [0]), ([], []), ([1, 2], [1, 2]), ([3], [3]), ([], []), ([], []), ([5, 6], [5, 6]), ([4, 7], [4, 7])])
def spec_l1Has.B4 : List Nat := [0, 1, 0, 7, 15, 0, 0, 96, 255]
theorem spec_l1Has.tab4 : rtab .any (opsOf Try.f80 4) = spec_l1Has.T4 := by kernel_rfl
theorem spec_l1Has.bits4 : waitsOk spec_l1Has.T4.2 spec_l1Has.B4 = true := by kernel_rfl
set_option maxHeartbeats 8000000 in
set_option maxRecDepth 100000 in
theorem spec_l1Has.calls (k : Nat) (a0_0 : Int) (A0_1 : Option Addr) (c0_1 : Nat) (l0_1 : List (STie)) (a1 : Int) (a2 : Int) (r : Bool) (w : World) (hr0_1 : Kd.C kTie w A0_1 l0_1.length l0_1) (hc0_1 : l0_1.length ≤ c0_1) (h : spec_l1Has.f k a0_0 l0_1 a1 a2 = some r) :
    Calls Try.prog 80 #[.agg #[.int .i64 a0_0, .slice A0_1 l0_1.length c0_1], .int .i64 a1, .int .i64 a2] w fun e w' => e = .returned (.bool r) ∧ Below w.heap.size w w' := by
 have hu25 := Try.underlying25
 have hu32 := Try.underlying32
 have HR0_1 := Aside0.mk hr0_1
 have HC0_1 := Aside0.mk hc0_1
 clear hr0_1 hc0_1
 have HB := q0 (Below.refl w.heap.size w)
 have H : (spec_l1Has.l0 k a1 a2 0 a0_0 l0_1) = some r := h
 clear h
 have H' := Aside0.mk H
 clear H
 go_enter Try.func80, Try.ntmps80
 go_wp2_with (first | ((with_reducible refine gate_dst (N := 3) rfl ?_); refine be 3 #[.int .i64 a0_0, .slice A0_1 l0_1.length c0_1] 25 ?_; intro gb102 hg w4 hbox hb; have BK102 := q0 (hbox); have GW102 := q0 ((bs HB.out hg : w.heap.size ≤ gb102)); have GE102 := q0 ((bs HB.out hg : w.heap.size ≤ gb102)); replace HB := q0 (below_step (qb HB.out) hb); clear hb hbox hg))
 go_loopg [7] k (fun kq v7 w' => ∃ (x7_1 : Int), v7 = .int .i64 x7_1 ∧ Aside0 (spec_l1Has.l0 kq a1 a2 x7_1 a0_0 l0_1 = some r) ∧ Aside0 (kq ≤ k) ∧ Aside0 (w'.heap[gb102]? = some (.cells #[.int .i64 a0_0, (.slice A0_1 l0_1.length c0_1)] 25 (0, 0))) ∧ Aside0 (Below w.heap.size w w'))
 case atStart => exact ⟨(0), qs, H', ⟨Nat.le_refl _⟩, ⟨qk BK102.out⟩, ⟨qb HB.out⟩⟩
 clear H'
 try clear p2
 obtain ⟨x7_1, rfl, HA, HK1, BK102, HB⟩ := hrel
 rcases gk with _ | k1
 · exact absurd HA.out (by simp [spec_l1Has.l0])
 have H := HA.out
 clear HA
 simp only [spec_l1Has.l0] at H
 by_cases c5 : x7_1 < (l0_1.length : Int)
 rotate_left
 · rw [if_neg c5] at H
   have c5b0 : decide (x7_1 < (l0_1.length : Int)) = false := decide_eq_false c5
   clear c5
   obtain rfl := Option.some.inj H
   have hcz15_0 : wr.cell? ⟨gb102, 0, none⟩ = some (.int .i64 a0_0) := (blk_cell BK102.out 0).trans rfl
   have hcz15_1 : wr.cell? ⟨gb102, 1, none⟩ = some (.slice A0_1 l0_1.length c0_1) := (blk_cell BK102.out 1).trans rfl
   have hfz15_0 := blk_frozen BK102.out 0
   have hfz15_1 := blk_frozen BK102.out 1
   go_wp2
   go_ret
   exact ⟨qe, qb HB.out⟩
 rw [if_pos c5] at H
 have c5b0 : decide (x7_1 < (l0_1.length : Int)) = true := decide_eq_true c5
 clear c5
 by_cases c6 : 0 ≤ x7_1
 rotate_left
 · rw [if_neg c6] at H
   exact absurd H (by simp)
 rw [if_pos c6] at H
 have c6b0 : decide (0 ≤ x7_1) = true := decide_eq_true c6
 clear c6
 replace H := Option.bind_eq_some_iff.mp H
 obtain ⟨⟨t101, t103⟩, A70, H⟩ := H
 have A7 := Aside0.mk A70
 clear A70
 by_cases c8 : (((rd_TTie l0_1 x7_1).f0) == t101 && (((rd_TTie l0_1 x7_1).f1) == t103)) = true
 · rw [if_pos c8] at H
   have c8b0 : (((rd_TTie l0_1 x7_1).f0) == t101 && (((rd_TTie l0_1 x7_1).f1) == t103)) = true := c8
   (try (have c8b1 : decide (((rd_TTie l0_1 x7_1).f0) = t101 && (((rd_TTie l0_1 x7_1).f1) == t103)) = true := by simpa using c8))
   (try (have c8b2 : (((rd_TTie l0_1 x7_1).f0) == t101 && (((rd_TTie l0_1 x7_1).f1) == t103)) = true := by simpa using c8))
   clear c8
   obtain rfl := Option.some.inj H
   have hcz9_0 : wr.cell? ⟨gb102, 0, none⟩ = some (.int .i64 a0_0) := (blk_cell BK102.out 0).trans rfl
   have hcz9_1 : wr.cell? ⟨gb102, 1, none⟩ = some (.slice A0_1 l0_1.length c0_1) := (blk_cell BK102.out 1).trans rfl
   have hfz9_0 := blk_frozen BK102.out 0
   have hfz9_1 := blk_frozen BK102.out 1
   try go_wp2
   replace BK102 := q0 (blk_drew BK102.out)
   replace HB := q0 (below_drew1 HB.out)
   have p100 : 0 ≤ (x7_1 : Int) := of_decide_eq_true qa
   have q100 : x7_1 < (l0_1.length : Int) := of_decide_eq_true qa
   obtain ⟨ad100, e100, hx100_0, hx100_1⟩ := at_TTie HR0_1.out x7_1 p100 q100
   have hw100_1 := hx100_1
   have hw100_0 := hx100_0
   cases e100
   replace hx100_0 := (HB.out.cell (World.block_lt_of_cell? w _ hx100_0)).trans hx100_0
   replace hx100_1 := (HB.out.cell (World.block_lt_of_cell? w _ hx100_1)).trans hx100_1
   replace p100 := eq_true p100
   replace q100 := eq_true q100
   refine start_ (n := 9) (S := fun w' => w'.cell? ⟨gb102, 0, none⟩ = some (.int .i64 a0_0) ∧ w'.cell? ⟨gb102, 1, none⟩ = some (.slice (some ad100) l0_1.length c0_1) ∧ w'.cell? (ad100.add ((x7_1).toNat * 2)) = some (.int .i64 ((rd_TTie l0_1 x7_1).f0)) ∧ w'.cell? ⟨(ad100.add ((x7_1).toNat * 2)).block, (ad100.add ((x7_1).toNat * 2)).off + 1, none⟩ = some (.int .i64 ((rd_TTie l0_1 x7_1).f1))) (ds := []) (ba 9 0) (by kernel_rfl) rfl (by kernel_rfl) ⟨(blk_cell BK102.out 0).trans rfl, (blk_cell BK102.out 1).trans rfl, ((HB.out.cell (World.block_lt_of_cell? w _ hw100_0)).trans hw100_0), ((HB.out.cell (World.block_lt_of_cell? w _ hw100_1)).trans hw100_1)⟩ (fun hHeld => ?_); refine with_tabW spec_l1Has.tab4 spec_l1Has.bits4 (fun HT_ HW_ => ?_)
   generalize wr.drew = w10 at BK102 HB hx100_0 hx100_1 hHeld ⊢
   refine pu 0 (some 15) (ba 9 1) HT_.out ?_
   refine pu 2 (some 17) (ba 9 5) HT_.out ?_
   refine pu 5 (some 20) (ba 9 37) HT_.out ?_
   refine pu 6 (some 21) (ba 9 101) HT_.out ?_
   refine tu 1 (some 16) (ba 9 103) HT_.out HW_.out hHeld ?_
   refine pu 3 (some 18) (ba 9 111) HT_.out ?_
   refine tu 4 (some 19) (ba 9 127) HT_.out HW_.out hHeld ?_
   refine one_ (i := 7) (N := some 22) (ba 9 255) rfl rfl (one_of HT_.out (by kernel_rfl)) (by decide) (fun K hK => ?_)
   refine goes_ Try.func68 (by kernel_rfl) rfl #[.int .i64 a1, .int .i64 a2] (by rfl) rfl rfl qm ?_
   with_reducible refine (spec_l1Tie.calls a1 a2 t101 t103 _ A7.out).mono ?_
   rintro e w11 ⟨rfl, hb⟩
   refine ⟨_, rfl, ?_⟩
   replace BK102 := q0 (kb BK102.out hb)
   replace HB := q0 (below_step (qb HB.out) hb)
   (try clear hb)
   (try clear hb2)
   (try clear hk)
   (try clear hi)
   refine hK.out _ _ ⟨(blk_cell BK102.out 0).trans rfl, (blk_cell BK102.out 1).trans rfl, ((HB.out.cell (World.block_lt_of_cell? w _ hw100_0)).trans hw100_0), ((HB.out.cell (World.block_lt_of_cell? w _ hw100_1)).trans hw100_1)⟩ (fun hHeld => ?_)
   clear hK K
   refine nu 22 ?_
   refine pu 8 (some 23) (ba 9 511) HT_.out ?_
   refine done_ (done_of HT_.out (by kernel_rfl)) ?_
   try go_wp2
   go_ret
   exact ⟨qe, qb HB.out⟩
 rw [if_neg c8] at H
 have c8b0 : (((rd_TTie l0_1 x7_1).f0) == t101 && (((rd_TTie l0_1 x7_1).f1) == t103)) = false := by simpa using c8
 (try (have c8b1 : decide (((rd_TTie l0_1 x7_1).f0) = t101 && (((rd_TTie l0_1 x7_1).f1) == t103)) = false := by simpa using c8))
 (try (have c8b2 : (((rd_TTie l0_1 x7_1).f0) == t101 && (((rd_TTie l0_1 x7_1).f1) == t103)) = false := by simpa using c8))
 (try (have c8b3 : ¬ (((rd_TTie l0_1 x7_1).f0) = t101 && (((rd_TTie l0_1 x7_1).f1) == t103)) := by simpa using c8))
 clear c8
 have H' := Aside0.mk H
 clear H
 have hcz12_0 : wr.cell? ⟨gb102, 0, none⟩ = some (.int .i64 a0_0) := (blk_cell BK102.out 0).trans rfl
 have hcz12_1 : wr.cell? ⟨gb102, 1, none⟩ = some (.slice A0_1 l0_1.length c0_1) := (blk_cell BK102.out 1).trans rfl
 have hfz12_0 := blk_frozen BK102.out 0
 have hfz12_1 := blk_frozen BK102.out 1
 try go_wp2
 replace BK102 := q0 (blk_drew BK102.out)
 replace HB := q0 (below_drew1 HB.out)
 have p100 : 0 ≤ (x7_1 : Int) := of_decide_eq_true qa
 have q100 : x7_1 < (l0_1.length : Int) := of_decide_eq_true qa
 obtain ⟨ad100, e100, hx100_0, hx100_1⟩ := at_TTie HR0_1.out x7_1 p100 q100
 have hw100_1 := hx100_1
 have hw100_0 := hx100_0
 cases e100
 replace hx100_0 := (HB.out.cell (World.block_lt_of_cell? w _ hx100_0)).trans hx100_0
 replace hx100_1 := (HB.out.cell (World.block_lt_of_cell? w _ hx100_1)).trans hx100_1
 replace p100 := eq_true p100
 replace q100 := eq_true q100
 refine start_ (n := 9) (S := fun w' => w'.cell? ⟨gb102, 0, none⟩ = some (.int .i64 a0_0) ∧ w'.cell? ⟨gb102, 1, none⟩ = some (.slice (some ad100) l0_1.length c0_1) ∧ w'.cell? (ad100.add ((x7_1).toNat * 2)) = some (.int .i64 ((rd_TTie l0_1 x7_1).f0)) ∧ w'.cell? ⟨(ad100.add ((x7_1).toNat * 2)).block, (ad100.add ((x7_1).toNat * 2)).off + 1, none⟩ = some (.int .i64 ((rd_TTie l0_1 x7_1).f1))) (ds := []) (ba 9 0) (by kernel_rfl) rfl (by kernel_rfl) ⟨(blk_cell BK102.out 0).trans rfl, (blk_cell BK102.out 1).trans rfl, ((HB.out.cell (World.block_lt_of_cell? w _ hw100_0)).trans hw100_0), ((HB.out.cell (World.block_lt_of_cell? w _ hw100_1)).trans hw100_1)⟩ (fun hHeld => ?_); refine with_tabW spec_l1Has.tab4 spec_l1Has.bits4 (fun HT_ HW_ => ?_)
 generalize wr.drew = w13 at BK102 HB hx100_0 hx100_1 hHeld ⊢
 refine pu 0 (some 15) (ba 9 1) HT_.out ?_
 refine pu 2 (some 17) (ba 9 5) HT_.out ?_
 refine pu 5 (some 20) (ba 9 37) HT_.out ?_
 refine pu 6 (some 21) (ba 9 101) HT_.out ?_
 refine tu 1 (some 16) (ba 9 103) HT_.out HW_.out hHeld ?_
 refine pu 3 (some 18) (ba 9 111) HT_.out ?_
 refine tu 4 (some 19) (ba 9 127) HT_.out HW_.out hHeld ?_
 refine one_ (i := 7) (N := some 22) (ba 9 255) rfl rfl (one_of HT_.out (by kernel_rfl)) (by decide) (fun K hK => ?_)
 refine goes_ Try.func68 (by kernel_rfl) rfl #[.int .i64 a1, .int .i64 a2] (by rfl) rfl rfl qm ?_
 with_reducible refine (spec_l1Tie.calls a1 a2 t101 t103 _ A7.out).mono ?_
 rintro e w14 ⟨rfl, hb⟩
 refine ⟨_, rfl, ?_⟩
 replace BK102 := q0 (kb BK102.out hb)
 replace HB := q0 (below_step (qb HB.out) hb)
 (try clear hb)
 (try clear hb2)
 (try clear hk)
 (try clear hi)
 refine hK.out _ _ ⟨(blk_cell BK102.out 0).trans rfl, (blk_cell BK102.out 1).trans rfl, ((HB.out.cell (World.block_lt_of_cell? w _ hw100_0)).trans hw100_0), ((HB.out.cell (World.block_lt_of_cell? w _ hw100_1)).trans hw100_1)⟩ (fun hHeld => ?_)
 clear hK K
 refine nu 22 ?_
 refine pu 8 (some 23) (ba 9 511) HT_.out ?_
 refine done_ (done_of HT_.out (by kernel_rfl)) ?_
 try go_wp2
 go_roundg k1
 case measure => have := HK1.out; omega
 case rel => exact ⟨(wrap64 (x7_1 + 1)), qs, H', ⟨by have := HK1.out; omega⟩, ⟨qk BK102.out⟩, ⟨qb HB.out⟩⟩

set_option maxHeartbeats 8000000 in
set_option maxRecDepth 100000 in
theorem cmp_Or_int.calls (k : Nat) (A0 : Option Addr) (c0 : Nat) (l0 : List Int) (r : Int) (w : World) (hr0 : Kd.C (Kd.int .i64) w A0 l0.length l0) (hc0 : l0.length ≤ c0) (h : cmp_Or_int.f k l0 = some r) :
    Calls Try.prog 99 #[.slice A0 l0.length c0] w fun e w' => e = .returned (.int .i64 r) ∧ Drawn0 w w' := by
 have HR0 := Aside0.mk hr0
 have HC0 := Aside0.mk hc0
 clear hr0 hc0
 have H : (cmp_Or_int.l0 k 0 l0 (l0.length : Int) 0) = some r := h
 clear h
 have H' := Aside0.mk H
 clear H
 go_enter Try.func99, Try.ntmps99
 go_wp2
 go_loopg [8] k (fun kq v8 w' => ∃ (x8_1 : Int), v8 = .int .i64 x8_1 ∧ Aside0 (cmp_Or_int.l0 kq 0 l0 (l0.length : Int) x8_1 = some r) ∧ Aside0 (kq ≤ k) ∧ Drawn0 w w')
 case atStart => exact ⟨(0), qs, H', ⟨Nat.le_refl _⟩, by repeat (first | exact Drawn0.refl _ | apply Drawn0.step)⟩
 clear H'
 obtain ⟨x8_1, rfl, HA, HK1, ⟨m1, rfl⟩⟩ := hrel
 rcases gk with _ | k1
 · exact absurd HA.out (by simp [cmp_Or_int.l0])
 have H := HA.out
 clear HA
 simp only [cmp_Or_int.l0] at H
 by_cases c2 : x8_1 < (l0.length : Int)
 rotate_left
 · rw [if_neg c2] at H
   have c2b0 : decide (x8_1 < (l0.length : Int)) = false := decide_eq_false c2
   clear c2
   obtain rfl := Option.some.inj H
   go_wp2
   go_ret
   exact ⟨by first | rfl | (simp; done) | (simp [*]; done), by repeat (first | exact Drawn0.refl _ | apply Drawn0.step)⟩
 rw [if_pos c2] at H
 have c2b0 : decide (x8_1 < (l0.length : Int)) = true := decide_eq_true c2
 clear c2
 by_cases c3 : 0 ≤ x8_1
 rotate_left
 · rw [if_neg c3] at H
   exact absurd H (by simp)
 rw [if_pos c3] at H
 have c3b0 : decide (0 ≤ x8_1) = true := decide_eq_true c3
 clear c3
 by_cases c4 : x8_1 < (l0.length : Int)
 rotate_left
 · rw [if_neg c4] at H
   exact absurd H (by simp)
 rw [if_pos c4] at H
 have c4b0 : decide (x8_1 < (l0.length : Int)) = true := decide_eq_true c4
 clear c4
 by_cases c5 : (rd l0 x8_1) = 0
 rotate_left
 · rw [if_neg c5] at H
   have c5b0 : ((rd l0 x8_1) == 0) = false := beq_eq_false_iff_ne.mpr c5
   have c5b1 : ((rd l0 x8_1) != 0) = true := bne_iff_ne.mpr c5
   obtain rfl := Option.some.inj H
   have p100 : 0 ≤ (x8_1 : Int) := of_decide_eq_true qa
   have q100 : x8_1 < (l0.length : Int) := of_decide_eq_true qa
   obtain ⟨ad100, e100, hx100_0⟩ := Kd.at_int HR0.out x8_1 p100 q100
   cases e100
   replace p100 := eq_true p100
   replace q100 := eq_true q100
   go_wp2
   go_ret
   exact ⟨by first | rfl | (simp; done) | (simp [*]; done), by repeat (first | exact Drawn0.refl _ | apply Drawn0.step)⟩
 rw [if_pos c5] at H
 have c5b0 : ((rd l0 x8_1) == 0) = true := beq_iff_eq.mpr c5
 have c5b1 : ((rd l0 x8_1) != 0) = false := bne_eq_false_iff_eq.mpr c5
 clear c5
 have H' := Aside0.mk H
 clear H
 have p100 : 0 ≤ (x8_1 : Int) := of_decide_eq_true qa
 have q100 : x8_1 < (l0.length : Int) := of_decide_eq_true qa
 obtain ⟨ad100, e100, hx100_0⟩ := Kd.at_int HR0.out x8_1 p100 q100
 cases e100
 replace p100 := eq_true p100
 replace q100 := eq_true q100
 go_wp2
 go_roundg k1
 case measure => have := HK1.out; omega
 case rel => exact ⟨(wrap64 (x8_1 + 1)), qs, H', ⟨by have := HK1.out; omega⟩, by repeat (first | exact Drawn0.refl _ | apply Drawn0.step)⟩

set_option maxHeartbeats 8000000 in
set_option maxRecDepth 100000 in
theorem cmp_isNaN_int.calls (a0 : Int) (r : Bool) (w : World) (h : cmp_isNaN_int.f a0 = some r) :
    Calls Try.prog 120 #[.int .i64 a0] w fun e w' => e = .returned (.bool r) ∧ Drawn0 w w' := by
 have H : (some (a0 != a0)) = some r := h
 clear h
 obtain rfl := Option.some.inj H
 go_enter Try.func120, Try.ntmps120
 go_wp2
 go_ret
 exact ⟨by first | rfl | (simp; done) | (simp [*]; done), by repeat (first | exact Drawn0.refl _ | apply Drawn0.step)⟩

set_option maxHeartbeats 8000000 in
set_option maxRecDepth 100000 in
theorem cmp_Compare_int.calls (a0 : Int) (a1 : Int) (r : Int) (w : World) (h : cmp_Compare_int.f a0 a1 = some r) :
    Calls Try.prog 100 #[.int .i64 a0, .int .i64 a1] w fun e w' => e = .returned (.int .i64 r) ∧ Drawn0 w w' := by
 have H : ((cmp_isNaN_int.f a0).bind fun t100 => ((cmp_isNaN_int.f a1).bind fun t101 => (if t100 = true then (if t101 = true then (some 0) else (some (-1))) else (if t101 = true then (some 1) else (if a0 < a1 then (some (-1)) else (if a0 > a1 then (some 1) else (some 0))))))) = some r := h
 clear h
 replace H := Option.bind_eq_some_iff.mp H
 obtain ⟨t100, A30, H⟩ := H
 have A3 := Aside0.mk A30
 clear A30
 replace H := Option.bind_eq_some_iff.mp H
 obtain ⟨t101, A40, H⟩ := H
 have A4 := Aside0.mk A40
 clear A40
 by_cases c5 : t100 = true
 · subst c5
   rw [if_pos rfl] at H
   by_cases c6 : t101 = true
   · subst c6
     rw [if_pos rfl] at H
     obtain rfl := Option.some.inj H
     go_enter Try.func100, Try.ntmps100
     go_wp2_with (first | ((with_reducible refine gate_callee (f := 120) rfl ?_); refine gl 8 Try.func120 #[.int .i64 a0] ?_; (with_reducible refine (cmp_isNaN_int.calls a0 true _ A3.out).mono ?_); rintro e w' ⟨rfl, ⟨nd, rfl⟩⟩; refine ⟨_, rfl, ?_⟩) | ((with_reducible refine gate_callee (f := 120) rfl ?_); refine gl 10 Try.func120 #[.int .i64 a1] ?_; (with_reducible refine (cmp_isNaN_int.calls a1 true _ A4.out).mono ?_); rintro e w' ⟨rfl, ⟨nd, rfl⟩⟩; refine ⟨_, rfl, ?_⟩))
     go_ret
     exact ⟨by first | rfl | (simp; done) | (simp [*]; done), by repeat (first | exact Drawn0.refl _ | apply Drawn0.step)⟩
   replace c6 := Bool.eq_false_iff.mpr c6
   subst c6
   rw [if_neg nf] at H
   obtain rfl := Option.some.inj H
   go_enter Try.func100, Try.ntmps100
   go_wp2_with (first | ((with_reducible refine gate_callee (f := 120) rfl ?_); refine gl 8 Try.func120 #[.int .i64 a0] ?_; (with_reducible refine (cmp_isNaN_int.calls a0 true _ A3.out).mono ?_); rintro e w' ⟨rfl, ⟨nd, rfl⟩⟩; refine ⟨_, rfl, ?_⟩) | ((with_reducible refine gate_callee (f := 120) rfl ?_); refine gl 10 Try.func120 #[.int .i64 a1] ?_; (with_reducible refine (cmp_isNaN_int.calls a1 false _ A4.out).mono ?_); rintro e w' ⟨rfl, ⟨nd, rfl⟩⟩; refine ⟨_, rfl, ?_⟩))
   go_ret
   exact ⟨by first | rfl | (simp; done) | (simp [*]; done), by repeat (first | exact Drawn0.refl _ | apply Drawn0.step)⟩
 replace c5 := Bool.eq_false_iff.mpr c5
 subst c5
 rw [if_neg nf] at H
 by_cases c7 : t101 = true
 · subst c7
   rw [if_pos rfl] at H
   obtain rfl := Option.some.inj H
   go_enter Try.func100, Try.ntmps100
   go_wp2_with (first | ((with_reducible refine gate_callee (f := 120) rfl ?_); refine gl 8 Try.func120 #[.int .i64 a0] ?_; (with_reducible refine (cmp_isNaN_int.calls a0 false _ A3.out).mono ?_); rintro e w' ⟨rfl, ⟨nd, rfl⟩⟩; refine ⟨_, rfl, ?_⟩) | ((with_reducible refine gate_callee (f := 120) rfl ?_); refine gl 10 Try.func120 #[.int .i64 a1] ?_; (with_reducible refine (cmp_isNaN_int.calls a1 true _ A4.out).mono ?_); rintro e w' ⟨rfl, ⟨nd, rfl⟩⟩; refine ⟨_, rfl, ?_⟩))
   go_ret
   exact ⟨by first | rfl | (simp; done) | (simp [*]; done), by repeat (first | exact Drawn0.refl _ | apply Drawn0.step)⟩
 replace c7 := Bool.eq_false_iff.mpr c7
 subst c7
 rw [if_neg nf] at H
 by_cases c8 : a0 < a1
 · rw [if_pos c8] at H
   have c8b0 : decide (a0 < a1) = true := decide_eq_true c8
   clear c8
   obtain rfl := Option.some.inj H
   go_enter Try.func100, Try.ntmps100
   go_wp2_with (first | ((with_reducible refine gate_callee (f := 120) rfl ?_); refine gl 8 Try.func120 #[.int .i64 a0] ?_; (with_reducible refine (cmp_isNaN_int.calls a0 false _ A3.out).mono ?_); rintro e w' ⟨rfl, ⟨nd, rfl⟩⟩; refine ⟨_, rfl, ?_⟩) | ((with_reducible refine gate_callee (f := 120) rfl ?_); refine gl 10 Try.func120 #[.int .i64 a1] ?_; (with_reducible refine (cmp_isNaN_int.calls a1 false _ A4.out).mono ?_); rintro e w' ⟨rfl, ⟨nd, rfl⟩⟩; refine ⟨_, rfl, ?_⟩))
   go_ret
   exact ⟨by first | rfl | (simp; done) | (simp [*]; done), by repeat (first | exact Drawn0.refl _ | apply Drawn0.step)⟩
 rw [if_neg c8] at H
 have c8b0 : decide (a0 < a1) = false := decide_eq_false c8
 clear c8
 by_cases c9 : a0 > a1
 · rw [if_pos c9] at H
   have c9b0 : decide (a1 < a0) = true := decide_eq_true c9
   clear c9
   obtain rfl := Option.some.inj H
   go_enter Try.func100, Try.ntmps100
   go_wp2_with (first | ((with_reducible refine gate_callee (f := 120) rfl ?_); refine gl 8 Try.func120 #[.int .i64 a0] ?_; (with_reducible refine (cmp_isNaN_int.calls a0 false _ A3.out).mono ?_); rintro e w' ⟨rfl, ⟨nd, rfl⟩⟩; refine ⟨_, rfl, ?_⟩) | ((with_reducible refine gate_callee (f := 120) rfl ?_); refine gl 10 Try.func120 #[.int .i64 a1] ?_; (with_reducible refine (cmp_isNaN_int.calls a1 false _ A4.out).mono ?_); rintro e w' ⟨rfl, ⟨nd, rfl⟩⟩; refine ⟨_, rfl, ?_⟩))
   go_ret
   exact ⟨by first | rfl | (simp; done) | (simp [*]; done), by repeat (first | exact Drawn0.refl _ | apply Drawn0.step)⟩
 rw [if_neg c9] at H
 have c9b0 : decide (a1 < a0) = false := decide_eq_false c9
 clear c9
 obtain rfl := Option.some.inj H
 go_enter Try.func100, Try.ntmps100
 go_wp2_with (first | ((with_reducible refine gate_callee (f := 120) rfl ?_); refine gl 8 Try.func120 #[.int .i64 a0] ?_; (with_reducible refine (cmp_isNaN_int.calls a0 false _ A3.out).mono ?_); rintro e w' ⟨rfl, ⟨nd, rfl⟩⟩; refine ⟨_, rfl, ?_⟩) | ((with_reducible refine gate_callee (f := 120) rfl ?_); refine gl 10 Try.func120 #[.int .i64 a1] ?_; (with_reducible refine (cmp_isNaN_int.calls a1 false _ A4.out).mono ?_); rintro e w' ⟨rfl, ⟨nd, rfl⟩⟩; refine ⟨_, rfl, ?_⟩))
 go_ret
 exact ⟨by first | rfl | (simp; done) | (simp [*]; done), by repeat (first | exact Drawn0.refl _ | apply Drawn0.step)⟩

def impl_tieOrder.T1 : Bool × List (List Nat × List Nat) := (true, [([], []), ([0], [0]), ([], []), ([2], [2]), ([1, 3], [1, 3]), ([], []), ([5], [5]), ([], []), ([7], [7]), ([6, 8, 4], [6, 8]), ([4, 9], [4, 9]), ([10, 9], [10]), ([11, 11, 0, 1, 2, 3, 4, 5, 6, 7, 8, 9, 10, 11], [11])])
def impl_tieOrder.B1 : List Nat := [0, 1, 0, 4, 15, 0, 32, 0, 128, 511, 1023, 2047, 4095]
theorem impl_tieOrder.tab1 : rtab .any (opsOf Try.f73 1) = impl_tieOrder.T1 := by kernel_rfl
theorem impl_tieOrder.bits1 : waitsOk impl_tieOrder.T1.2 impl_tieOrder.B1 = true := by kernel_rfl
set_option maxHeartbeats 8000000 in
set_option maxRecDepth 100000 in
theorem impl_tieOrder.calls (k : Nat) (a0_0 : Int) (a0_1 : Int) (a1_0 : Int) (a1_1 : Int) (r : Int) (w : World) (h : impl_tieOrder.f k a0_0 a0_1 a1_0 a1_1 = some r) :
    Calls Try.prog 73 #[.agg #[.int .i64 a0_0, .int .i64 a0_1], .agg #[.int .i64 a1_0, .int .i64 a1_1]] w fun e w' => e = .returned (.int .i64 r) ∧ Below w.heap.size w w' := by
 have hu32 := Try.underlying32
 have HB := q0 (Below.refl w.heap.size w)
 have H : ((cmp_Compare_int.f a0_0 a1_0).bind fun t100 => ((cmp_Compare_int.f a0_1 a1_1).bind fun t101 => ((cmp_Or_int.f k (([t100, t101] : List Int))).bind fun t102 => (some t102)))) = some r := h
 clear h
 replace H := Option.bind_eq_some_iff.mp H
 obtain ⟨t100, A30, H⟩ := H
 have A3 := Aside0.mk A30
 clear A30
 replace H := Option.bind_eq_some_iff.mp H
 obtain ⟨t101, A40, H⟩ := H
 have A4 := Aside0.mk A40
 clear A40
 obtain ⟨y103, hy103⟩ : ∃ y_ : List Int, y_ = (([t100, t101] : List Int)) := ⟨_, rfl⟩
 replace H : ((cmp_Or_int.f k y103).bind fun t102 => (some t102)) = some r := qy H hy103
 have Ny103 := Aside0.mk hy103
 clear hy103
 replace H := Option.bind_eq_some_iff.mp H
 obtain ⟨t102, A50, H⟩ := H
 have A5 := Aside0.mk A50
 clear A50
 obtain rfl := Option.some.inj H
 go_enter Try.func73, Try.ntmps73
 try go_wp2_with (first | ((with_reducible refine gate_dst (N := 2) rfl ?_); refine be 2 #[.int .i64 a0_0, .int .i64 a0_1] 32 ?_; intro gb104 hg w6 hbox hb; have BK104 := q0 (hbox); have GW104 := q0 ((bs HB.out hg : w.heap.size ≤ gb104)); have GE104 := q0 ((bs HB.out hg : w.heap.size ≤ gb104)); replace HB := q0 (below_step (qb HB.out) hb); clear hb hbox hg) | ((with_reducible refine gate_dst (N := 3) rfl ?_); refine be 3 #[.int .i64 a1_0, .int .i64 a1_1] 32 ?_; intro gb105 hg w7 hbox hb; have BK105 := q0 (hbox); have GW105 := q0 ((bs HB.out hg : w.heap.size ≤ gb105)); have GE105 := q0 ((bs HB.out hg : w.heap.size ≤ gb105)); replace HB := q0 (below_step (qb HB.out) hb); have NB104_105 := q0 ((bl BK104.out hg : gb104 ≠ gb105)); have NB105_104 := q0 ((bg BK104.out hg : gb105 ≠ gb104)); replace BK104 := q0 (kb BK104.out hb); clear hb hbox hg))
 replace BK104 := q0 (blk_drew BK104.out)
 replace BK105 := q0 (blk_drew BK105.out)
 replace HB := q0 (below_drew1 HB.out)
 refine start_ (n := 13) (S := fun w' => w'.cell? ⟨gb104, 0, none⟩ = some (.int .i64 a0_0) ∧ w'.cell? ⟨gb104, 1, none⟩ = some (.int .i64 a0_1) ∧ w'.cell? ⟨gb105, 0, none⟩ = some (.int .i64 a1_0) ∧ w'.cell? ⟨gb105, 1, none⟩ = some (.int .i64 a1_1)) (ds := []) (ba 13 0) (by kernel_rfl) rfl (by kernel_rfl) ⟨(blk_cell BK104.out 0).trans rfl, (blk_cell BK104.out 1).trans rfl, (blk_cell BK105.out 0).trans rfl, (blk_cell BK105.out 1).trans rfl⟩ (fun hHeld => ?_); refine with_tabW impl_tieOrder.tab1 impl_tieOrder.bits1 (fun HT_ HW_ => ?_)
 generalize w7.drew = w8 at BK104 BK105 HB hHeld ⊢
 refine pu 0 (some 5) (ba 13 1) HT_.out ?_
 refine pu 2 (some 7) (ba 13 5) HT_.out ?_
 refine pu 5 (some 10) (ba 13 37) HT_.out ?_
 refine pu 7 (some 12) (ba 13 165) HT_.out ?_
 refine tu 1 (some 6) (ba 13 167) HT_.out HW_.out hHeld ?_
 refine tu 3 (some 8) (ba 13 175) HT_.out HW_.out hHeld ?_
 refine tu 6 (some 11) (ba 13 239) HT_.out HW_.out hHeld ?_
 refine tu 8 (some 13) (ba 13 495) HT_.out HW_.out hHeld ?_
 refine one_ (i := 4) (N := some 9) (ba 13 511) rfl rfl (one_of HT_.out (by kernel_rfl)) (by decide) (fun K hK => ?_)
 refine goes_ Try.func100 (by kernel_rfl) rfl #[.int .i64 a0_0, .int .i64 a1_0] (by rfl) rfl rfl qm ?_
 with_reducible refine (cmp_Compare_int.calls a0_0 a1_0 t100 _ A3.out).mono ?_
 rintro e w' ⟨rfl, ⟨nd, rfl⟩⟩
 refine ⟨_, rfl, ?_⟩
 refine hK.out _ _ ⟨(blk_cell BK104.out 0).trans rfl, (blk_cell BK104.out 1).trans rfl, (blk_cell BK105.out 0).trans rfl, (blk_cell BK105.out 1).trans rfl⟩ (fun hHeld => ?_)
 clear hK K
 refine nu 9 ?_
 refine one_ (i := 9) (N := some 14) (ba 13 1023) rfl rfl (one_of HT_.out (by kernel_rfl)) (by decide) (fun K hK => ?_)
 refine goes_ Try.func100 (by kernel_rfl) rfl #[.int .i64 a0_1, .int .i64 a1_1] (by rfl) rfl rfl qm ?_
 with_reducible refine (cmp_Compare_int.calls a0_1 a1_1 t101 _ A4.out).mono ?_
 rintro e w' ⟨rfl, ⟨nd, rfl⟩⟩
 refine ⟨_, rfl, ?_⟩
 refine hK.out _ _ ⟨(blk_cell BK104.out 0).trans rfl, (blk_cell BK104.out 1).trans rfl, (blk_cell BK105.out 0).trans rfl, (blk_cell BK105.out 1).trans rfl⟩ (fun hHeld => ?_)
 clear hK K
 refine nu 14 ?_
 refine one_ (i := 10) (N := some 15) (ba 13 2047) rfl rfl (one_of HT_.out (by kernel_rfl)) (by decide) (fun K hK => ?_)
 refine Kd.R_lit_step (Kd.int .i64) _ 3 ?hg (N := 15) ?hd (xs := ([t100, t101] : List Int)) (inner := [.int .i64 t100, .int .i64 t101]) (ok := fun _ => True) (okp := fun _ => True) ?hr ?hp (fun _ hk => hk) trivial (Below.refl _ _) (Nat.le_refl _) (by simp) ?_; (case hd => rfl); (case hg => rfl); (case hr => first | (go_simp; done) | (go_simp; rfl)); (case hp => exact (Reps.one (show Kd.M (Kd.int .i64) _ _ _ t100 [.int .i64 t100] from rfl) (Reps.one (show Kd.M (Kd.int .i64) _ _ _ t101 [.int .i64 t101] from rfl) (Reps.none _ _))))
 intro v106 w9 ho10 hb hg_ hnew_
 clear hg_ hnew_
 (first | rw [← Ny103.out] at ho10 | (simp only [Int.reduceToNat] at ho10; rw [← Ny103.out] at ho10))
 have HO107 := q0 (Kd.R_lower ho10 (below_size (qb HB.out)))
 replace BK104 := q0 (kb BK104.out hb)
 replace BK105 := q0 (kb BK105.out hb)
 replace HB := q0 (below_step (qb HB.out) hb)
 clear hb ho10
 obtain ⟨Ao11, co11, eo11⟩ := Kd.R_slice HO107.out
 (first | subst eo11 | (injection eo11 with f1_ f2_ f3_; have f4_ := f1_.symm; have f5_ := f3_.symm; clear f1_ f2_ f3_; subst f4_; subst f5_))
 refine hK.out _ _ ⟨(blk_cell BK104.out 0).trans rfl, (blk_cell BK104.out 1).trans rfl, (blk_cell BK105.out 0).trans rfl, (blk_cell BK105.out 1).trans rfl⟩ (fun hHeld => ?_)
 clear hK K
 refine nu 15 ?_
 refine one_ (i := 11) (N := some 16) (ba 13 4095) rfl rfl (one_of HT_.out (by kernel_rfl)) (by decide) (fun K hK => ?_)
 refine goes_ Try.func99 (by kernel_rfl) rfl #[.slice Ao11 y103.length co11] (by rfl) rfl rfl qm ?_
 with_reducible refine (cmp_Or_int.calls k _ _ y103 t102 _ ?side1 ?side2 A5.out).mono ?_
 (case side1 => exact qc (Kd.R_reads' HO107.out).2.2)
 (case side2 => exact (Kd.R_reads' HO107.out).2.1)
 rintro e w' ⟨rfl, ⟨nd, rfl⟩⟩
 refine ⟨_, rfl, ?_⟩
 refine hK.out _ _ ⟨(blk_cell BK104.out 0).trans rfl, (blk_cell BK104.out 1).trans rfl, (blk_cell BK105.out 0).trans rfl, (blk_cell BK105.out 1).trans rfl⟩ (fun hHeld => ?_)
 clear hK K
 refine nu 16 ?_
 refine pu 12 (some 4) (ba 13 8191) HT_.out ?_
 refine done_ (done_of HT_.out (by kernel_rfl)) ?_
 try go_wp2
 go_ret
 exact ⟨qe, qb HB.out⟩

def impl_ascending.T4 : Bool × List (List Nat × List Nat) := (true, [([], []), ([], []), ([1], [1]), ([0, 2], [0, 2]), ([3], [3]), ([], []), ([], []), ([5, 6], [5, 6]), ([7], [7]), ([4, 8], [4, 8]), ([9], [9])])
def impl_ascending.B4 : List Nat := [0, 0, 2, 7, 15, 0, 0, 96, 224, 511, 1023]
theorem impl_ascending.tab4 : rtab .any (opsOf Try.f78 4) = impl_ascending.T4 := by kernel_rfl
theorem impl_ascending.bits4 : waitsOk impl_ascending.T4.2 impl_ascending.B4 = true := by kernel_rfl
set_option maxHeartbeats 8000000 in
set_option maxRecDepth 100000 in
theorem impl_ascending.calls (k : Nat) (A0 : Option Addr) (c0 : Nat) (l0 : List (STie)) (r : Bool) (w : World) (hr0 : Kd.C kTie w A0 l0.length l0) (hc0 : l0.length ≤ c0) (h : impl_ascending.f k l0 = some r) :
    Calls Try.prog 78 #[.slice A0 l0.length c0] w fun e w' => e = .returned (.bool r) ∧ Below w.heap.size w w' := by
 have hu32 := Try.underlying32
 have HR0 := Aside0.mk hr0
 have HC0 := Aside0.mk hc0
 clear hr0 hc0
 have HB := q0 (Below.refl w.heap.size w)
 have H : (impl_ascending.l0 k l0 1) = some r := h
 clear h
 have H' := Aside0.mk H
 clear H
 go_enter Try.func78, Try.ntmps78
 go_wp2
 go_loopg [3] k (fun kq v3 w' => ∃ (x3_1 : Int), v3 = .int .i64 x3_1 ∧ Aside0 (impl_ascending.l0 kq l0 x3_1 = some r) ∧ Aside0 (kq ≤ k) ∧ Aside0 (Below w.heap.size w w'))
 case atStart => exact ⟨(1), qs, H', ⟨Nat.le_refl _⟩, ⟨qb HB.out⟩⟩
 clear H'
 obtain ⟨x3_1, rfl, HA, HK1, HB⟩ := hrel
 rcases gk with _ | k1
 · exact absurd HA.out (by simp [impl_ascending.l0])
 have H := HA.out
 clear HA
 simp only [impl_ascending.l0] at H
 by_cases c2 : x3_1 < (l0.length : Int)
 rotate_left
 · rw [if_neg c2] at H
   have c2b0 : decide (x3_1 < (l0.length : Int)) = false := decide_eq_false c2
   clear c2
   obtain rfl := Option.some.inj H
   go_wp2
   go_ret
   exact ⟨qe, qb HB.out⟩
 rw [if_pos c2] at H
 have c2b0 : decide (x3_1 < (l0.length : Int)) = true := decide_eq_true c2
 clear c2
 obtain ⟨ji3, hji3⟩ : ∃ j_ : Int, (wrap64 (x3_1 - 1)) = j_ := ⟨_, rfl⟩
 replace H : (if 0 ≤ (ji3) then (if (ji3) < (l0.length : Int) then (if 0 ≤ x3_1 then ((impl_tieOrder.f k1 ((rd_TTie l0 (ji3)).f0) ((rd_TTie l0 (ji3)).f1) ((rd_TTie l0 x3_1).f0) ((rd_TTie l0 x3_1).f1)).bind fun t100 => (if t100 ≥ 0 then (some false) else (impl_ascending.l0 k1 l0 (wrap64 (x3_1 + 1))))) else (none)) else (none)) else (none)) = some r := by first | (rw [hji3] at H; exact H) | (simp only [hji3] at H ⊢; exact H)
 have hji3w : (IntKind.i64.wrap (x3_1 - 1)) = ji3 := (i64_w _).trans hji3
 by_cases c4 : 0 ≤ (ji3)
 rotate_left
 · rw [if_neg c4] at H
   exact absurd H (by simp)
 rw [if_pos c4] at H
 have c4b0 : decide (0 ≤ (ji3)) = true := decide_eq_true c4
 clear c4
 by_cases c5 : (ji3) < (l0.length : Int)
 rotate_left
 · rw [if_neg c5] at H
   exact absurd H (by simp)
 rw [if_pos c5] at H
 have c5b0 : decide ((ji3) < (l0.length : Int)) = true := decide_eq_true c5
 clear c5
 by_cases c6 : 0 ≤ x3_1
 rotate_left
 · rw [if_neg c6] at H
   exact absurd H (by simp)
 rw [if_pos c6] at H
 have c6b0 : decide (0 ≤ x3_1) = true := decide_eq_true c6
 clear c6
 replace H := Option.bind_eq_some_iff.mp H
 obtain ⟨t100, A70, H⟩ := H
 have A7 := Aside0.mk A70
 clear A70
 by_cases c8 : t100 ≥ 0
 · rw [if_pos c8] at H
   have c8b0 : decide (0 ≤ t100) = true := decide_eq_true c8
   clear c8
   obtain rfl := Option.some.inj H
   try go_wp2
   replace HB := q0 (below_drew1 HB.out)
   have p101 : 0 ≤ ((ji3) : Int) := of_decide_eq_true qa
   have q101 : (ji3) < (l0.length : Int) := of_decide_eq_true qa
   obtain ⟨ad101, e101, hx101_0, hx101_1⟩ := at_TTie HR0.out (ji3) p101 q101
   have hw101_1 := hx101_1
   have hw101_0 := hx101_0
   cases e101
   replace hx101_0 := (HB.out.cell (World.block_lt_of_cell? w _ hx101_0)).trans hx101_0
   replace hx101_1 := (HB.out.cell (World.block_lt_of_cell? w _ hx101_1)).trans hx101_1
   replace p101 := eq_true p101
   replace q101 := eq_true q101
   have p102 : 0 ≤ (x3_1 : Int) := of_decide_eq_true qa
   have q102 : x3_1 < (l0.length : Int) := of_decide_eq_true qa
   obtain ⟨ad102, e102, hx102_0, hx102_1⟩ := at_TTie HR0.out x3_1 p102 q102
   have hw102_1 := hx102_1
   have hw102_0 := hx102_0
   obtain rfl : ad101 = ad102 := (by injection e102)
   replace hx102_0 := (HB.out.cell (World.block_lt_of_cell? w _ hx102_0)).trans hx102_0
   replace hx102_1 := (HB.out.cell (World.block_lt_of_cell? w _ hx102_1)).trans hx102_1
   replace p102 := eq_true p102
   replace q102 := eq_true q102
   refine start_ (n := 11) (S := fun w' => w'.cell? (ad101.add (((ji3)).toNat * 2)) = some (.int .i64 ((rd_TTie l0 (ji3)).f0)) ∧ w'.cell? ⟨(ad101.add (((ji3)).toNat * 2)).block, (ad101.add (((ji3)).toNat * 2)).off + 1, none⟩ = some (.int .i64 ((rd_TTie l0 (ji3)).f1)) ∧ w'.cell? (ad101.add ((x3_1).toNat * 2)) = some (.int .i64 ((rd_TTie l0 x3_1).f0)) ∧ w'.cell? ⟨(ad101.add ((x3_1).toNat * 2)).block, (ad101.add ((x3_1).toNat * 2)).off + 1, none⟩ = some (.int .i64 ((rd_TTie l0 x3_1).f1))) (ds := []) (ba 11 0) (by kernel_rfl) rfl (by kernel_rfl) ⟨((HB.out.cell (World.block_lt_of_cell? w _ hw101_0)).trans hw101_0), ((HB.out.cell (World.block_lt_of_cell? w _ hw101_1)).trans hw101_1), ((HB.out.cell (World.block_lt_of_cell? w _ hw102_0)).trans hw102_0), ((HB.out.cell (World.block_lt_of_cell? w _ hw102_1)).trans hw102_1)⟩ (fun hHeld => ?_); refine with_tabW impl_ascending.tab4 impl_ascending.bits4 (fun HT_ HW_ => ?_)
   generalize wr.drew = w9 at HB hx101_0 hx101_1 hx102_0 hx102_1 hHeld ⊢
   refine pu 0 (some 10) (ba 11 1) HT_.out ?_
   refine pu 1 (some 11) (ba 11 3) HT_.out ?_
   refine pu 2 (some 12) (ba 11 7) HT_.out ?_
   refine pu 3 (some 13) (ba 11 15) HT_.out ?_
   refine pu 5 (some 15) (ba 11 47) HT_.out ?_
   refine pu 6 (some 16) (ba 11 111) HT_.out ?_
   refine pu 7 (some 17) (ba 11 239) HT_.out ?_
   refine tu 4 (some 14) (ba 11 255) HT_.out HW_.out hHeld ?_
   refine tu 8 (some 18) (ba 11 511) HT_.out HW_.out hHeld ?_
   refine one_ (i := 9) (N := some 19) (ba 11 1023) rfl rfl (one_of HT_.out (by kernel_rfl)) (by decide) (fun K hK => ?_)
   refine goes_ Try.func73 (by kernel_rfl) rfl #[.agg #[.int .i64 ((rd_TTie l0 (ji3)).f0), .int .i64 ((rd_TTie l0 (ji3)).f1)], .agg #[.int .i64 ((rd_TTie l0 x3_1).f0), .int .i64 ((rd_TTie l0 x3_1).f1)]] (by rfl) rfl rfl (by (try simp only [List.map_toArray, List.map_cons, List.map_nil]); first | done | (simp only [hji3]; rfl) | rfl | (simp only [List.length_drop, List.length_take]; rfl)) ?_
   with_reducible refine (impl_tieOrder.calls k1 ((rd_TTie l0 (ji3)).f0) ((rd_TTie l0 (ji3)).f1) ((rd_TTie l0 x3_1).f0) ((rd_TTie l0 x3_1).f1) t100 _ A7.out).mono ?_
   rintro e w10 ⟨rfl, hb⟩
   refine ⟨_, rfl, ?_⟩
   replace HB := q0 (below_step (qb HB.out) hb)
   (try clear hb)
   (try clear hb2)
   (try clear hk)
   (try clear hi)
   refine hK.out _ _ ⟨((HB.out.cell (World.block_lt_of_cell? w _ hw101_0)).trans hw101_0), ((HB.out.cell (World.block_lt_of_cell? w _ hw101_1)).trans hw101_1), ((HB.out.cell (World.block_lt_of_cell? w _ hw102_0)).trans hw102_0), ((HB.out.cell (World.block_lt_of_cell? w _ hw102_1)).trans hw102_1)⟩ (fun hHeld => ?_)
   clear hK K
   refine nu 19 ?_
   refine pu 10 (some 20) (ba 11 2047) HT_.out ?_
   refine done_ (done_of HT_.out (by kernel_rfl)) ?_
   try go_wp2
   go_ret
   exact ⟨by first | rfl | (simp [errW_none, errW_some] <;> rfl) | (simp only [← hji3]; first | rfl | (simp [errW_none, errW_some] <;> rfl)) | (simp [*, errW_none, errW_some] <;> rfl), qb HB.out⟩
 rw [if_neg c8] at H
 have c8b0 : decide (0 ≤ t100) = false := decide_eq_false c8
 clear c8
 have H' := Aside0.mk H
 clear H
 try go_wp2
 replace HB := q0 (below_drew1 HB.out)
 have p101 : 0 ≤ ((ji3) : Int) := of_decide_eq_true qa
 have q101 : (ji3) < (l0.length : Int) := of_decide_eq_true qa
 obtain ⟨ad101, e101, hx101_0, hx101_1⟩ := at_TTie HR0.out (ji3) p101 q101
 have hw101_1 := hx101_1
 have hw101_0 := hx101_0
 cases e101
 replace hx101_0 := (HB.out.cell (World.block_lt_of_cell? w _ hx101_0)).trans hx101_0
 replace hx101_1 := (HB.out.cell (World.block_lt_of_cell? w _ hx101_1)).trans hx101_1
 replace p101 := eq_true p101
 replace q101 := eq_true q101
 have p102 : 0 ≤ (x3_1 : Int) := of_decide_eq_true qa
 have q102 : x3_1 < (l0.length : Int) := of_decide_eq_true qa
 obtain ⟨ad102, e102, hx102_0, hx102_1⟩ := at_TTie HR0.out x3_1 p102 q102
 have hw102_1 := hx102_1
 have hw102_0 := hx102_0
 obtain rfl : ad101 = ad102 := (by injection e102)
 replace hx102_0 := (HB.out.cell (World.block_lt_of_cell? w _ hx102_0)).trans hx102_0
 replace hx102_1 := (HB.out.cell (World.block_lt_of_cell? w _ hx102_1)).trans hx102_1
 replace p102 := eq_true p102
 replace q102 := eq_true q102
 refine start_ (n := 11) (S := fun w' => w'.cell? (ad101.add (((ji3)).toNat * 2)) = some (.int .i64 ((rd_TTie l0 (ji3)).f0)) ∧ w'.cell? ⟨(ad101.add (((ji3)).toNat * 2)).block, (ad101.add (((ji3)).toNat * 2)).off + 1, none⟩ = some (.int .i64 ((rd_TTie l0 (ji3)).f1)) ∧ w'.cell? (ad101.add ((x3_1).toNat * 2)) = some (.int .i64 ((rd_TTie l0 x3_1).f0)) ∧ w'.cell? ⟨(ad101.add ((x3_1).toNat * 2)).block, (ad101.add ((x3_1).toNat * 2)).off + 1, none⟩ = some (.int .i64 ((rd_TTie l0 x3_1).f1))) (ds := []) (ba 11 0) (by kernel_rfl) rfl (by kernel_rfl) ⟨((HB.out.cell (World.block_lt_of_cell? w _ hw101_0)).trans hw101_0), ((HB.out.cell (World.block_lt_of_cell? w _ hw101_1)).trans hw101_1), ((HB.out.cell (World.block_lt_of_cell? w _ hw102_0)).trans hw102_0), ((HB.out.cell (World.block_lt_of_cell? w _ hw102_1)).trans hw102_1)⟩ (fun hHeld => ?_); refine with_tabW impl_ascending.tab4 impl_ascending.bits4 (fun HT_ HW_ => ?_)
 generalize wr.drew = w11 at HB hx101_0 hx101_1 hx102_0 hx102_1 hHeld ⊢
 refine pu 0 (some 10) (ba 11 1) HT_.out ?_
 refine pu 1 (some 11) (ba 11 3) HT_.out ?_
 refine pu 2 (some 12) (ba 11 7) HT_.out ?_
 refine pu 3 (some 13) (ba 11 15) HT_.out ?_
 refine pu 5 (some 15) (ba 11 47) HT_.out ?_
 refine pu 6 (some 16) (ba 11 111) HT_.out ?_
 refine pu 7 (some 17) (ba 11 239) HT_.out ?_
 refine tu 4 (some 14) (ba 11 255) HT_.out HW_.out hHeld ?_
 refine tu 8 (some 18) (ba 11 511) HT_.out HW_.out hHeld ?_
 refine one_ (i := 9) (N := some 19) (ba 11 1023) rfl rfl (one_of HT_.out (by kernel_rfl)) (by decide) (fun K hK => ?_)
 refine goes_ Try.func73 (by kernel_rfl) rfl #[.agg #[.int .i64 ((rd_TTie l0 (ji3)).f0), .int .i64 ((rd_TTie l0 (ji3)).f1)], .agg #[.int .i64 ((rd_TTie l0 x3_1).f0), .int .i64 ((rd_TTie l0 x3_1).f1)]] (by rfl) rfl rfl (by (try simp only [List.map_toArray, List.map_cons, List.map_nil]); first | done | (simp only [hji3]; rfl) | rfl | (simp only [List.length_drop, List.length_take]; rfl)) ?_
 with_reducible refine (impl_tieOrder.calls k1 ((rd_TTie l0 (ji3)).f0) ((rd_TTie l0 (ji3)).f1) ((rd_TTie l0 x3_1).f0) ((rd_TTie l0 x3_1).f1) t100 _ A7.out).mono ?_
 rintro e w12 ⟨rfl, hb⟩
 refine ⟨_, rfl, ?_⟩
 replace HB := q0 (below_step (qb HB.out) hb)
 (try clear hb)
 (try clear hb2)
 (try clear hk)
 (try clear hi)
 refine hK.out _ _ ⟨((HB.out.cell (World.block_lt_of_cell? w _ hw101_0)).trans hw101_0), ((HB.out.cell (World.block_lt_of_cell? w _ hw101_1)).trans hw101_1), ((HB.out.cell (World.block_lt_of_cell? w _ hw102_0)).trans hw102_0), ((HB.out.cell (World.block_lt_of_cell? w _ hw102_1)).trans hw102_1)⟩ (fun hHeld => ?_)
 clear hK K
 refine nu 19 ?_
 refine pu 10 (some 20) (ba 11 2047) HT_.out ?_
 refine done_ (done_of HT_.out (by kernel_rfl)) ?_
 try go_wp2
 go_roundg k1
 case measure => have := HK1.out; omega
 case rel => exact ⟨(wrap64 (x3_1 + 1)), qs, H', ⟨by have := HK1.out; omega⟩, ⟨qb HB.out⟩⟩

set_option maxHeartbeats 8000000 in
set_option maxRecDepth 100000 in
theorem impl_NetOk.calls (k : Nat) (a0_0 : Int) (A0_1 : Option Addr) (c0_1 : Nat) (l0_1 : List (STie)) (r : Bool) (w : World) (hr0_1 : Kd.C kTie w A0_1 l0_1.length l0_1) (hc0_1 : l0_1.length ≤ c0_1) (h : impl_NetOk.f k a0_0 l0_1 = some r) :
    Calls Try.prog 37 #[.agg #[.int .i64 a0_0, .slice A0_1 l0_1.length c0_1]] w fun e w' => e = .returned (.bool r) ∧ Below w.heap.size w w' := by
 have hu25 := Try.underlying25
 have hu32 := Try.underlying32
 have HR0_1 := Aside0.mk hr0_1
 have HC0_1 := Aside0.mk hc0_1
 clear hr0_1 hc0_1
 have HB := q0 (Below.refl w.heap.size w)
 have H : (if a0_0 < 0 then (impl_NetOk.j0 k true a0_0 l0_1) else (impl_NetOk.j0 k (decide (a0_0 > 8)) a0_0 l0_1)) = some r := h
 clear h
 have HC2 := Aside0.mk H
 clear H
 go_enter Try.func37, Try.ntmps37
 go_upto_region 1 with (first | ((with_reducible refine gate_dst (N := 1) rfl ?_); refine be 1 #[.int .i64 a0_0, .slice A0_1 l0_1.length c0_1] 25 ?_; intro gb102 hg w3 hbox hb; have BK102 := q0 (hbox); have GW102 := q0 ((bs HB.out hg : w.heap.size ≤ gb102)); have GE102 := q0 ((bs HB.out hg : w.heap.size ≤ gb102)); replace HB := q0 (below_step (qb HB.out) hb); clear hb hbox hg))
 (try simp only [Act.put, List.setIfInBounds_toArray, List.set_cons_zero, List.set_cons_succ])
 go_cut [12] (fun v12 wc => ∃ (kq : Nat) (x12_1 : Bool), v12 = .bool x12_1 ∧ Aside0 (impl_NetOk.j0 kq x12_1 a0_0 l0_1 = some r) ∧ Aside0 (kq ≤ k) ∧ Aside0 (wc.heap[gb102]? = some (.cells #[.int .i64 a0_0, (.slice A0_1 l0_1.length c0_1)] 25 (0, 0))) ∧ Aside0 (Below w.heap.size w wc))
 case first =>
   have H := HC2.out
   clear HC2
   by_cases c4 : a0_0 < 0
   · rw [if_pos c4] at H
     have c4b0 : decide (a0_0 < 0) = true := decide_eq_true c4
     clear c4
     (first | rw [c4b0] | (simp only [i64_w, i32_w]; rw [c4b0]) | skip)
     have H' := Aside0.mk H
     clear H
     have hcz5_0 : w3.cell? ⟨gb102, 0, none⟩ = some (.int .i64 a0_0) := (blk_cell BK102.out 0).trans rfl
     have hcz5_1 : w3.cell? ⟨gb102, 1, none⟩ = some (.slice A0_1 l0_1.length c0_1) := (blk_cell BK102.out 1).trans rfl
     have hfz5_0 := blk_frozen BK102.out 0
     have hfz5_1 := blk_frozen BK102.out 1
     go_wp2
     go_meet
     case rel => exact ⟨_, (true), qs, H', ⟨by first | omega | exact Nat.le_refl _⟩, ⟨qk BK102.out⟩, ⟨qb HB.out⟩⟩
   rw [if_neg c4] at H
   have c4b0 : decide (a0_0 < 0) = false := decide_eq_false c4
   clear c4
   (first | rw [c4b0] | (simp only [i64_w, i32_w]; rw [c4b0]) | skip)
   have H' := Aside0.mk H
   clear H
   have hcz6_0 : w3.cell? ⟨gb102, 0, none⟩ = some (.int .i64 a0_0) := (blk_cell BK102.out 0).trans rfl
   have hcz6_1 : w3.cell? ⟨gb102, 1, none⟩ = some (.slice A0_1 l0_1.length c0_1) := (blk_cell BK102.out 1).trans rfl
   have hfz6_0 := blk_frozen BK102.out 0
   have hfz6_1 := blk_frozen BK102.out 1
   go_wp2
   go_meet
   case rel => exact ⟨_, (decide (a0_0 > 8)), qs, H', ⟨by first | omega | exact Nat.le_refl _⟩, ⟨qk BK102.out⟩, ⟨qb HB.out⟩⟩
 clear HC2
 try clear p2
 try clear c3
 try clear c4
 try clear c4b0
 try clear hcz5_0
 try clear hcz5_1
 try clear hcz6_0
 try clear hcz6_1
 try clear hfz5_0
 try clear hfz5_1
 try clear hfz6_0
 try clear hfz6_1
 obtain ⟨kq, x12_1, rfl, HA, HJ1, BK102, HB⟩ := hcut
 rcases kq with _ | kj1
 · exact absurd HA.out (by simp [impl_NetOk.j0])
 have H := HA.out
 clear HA
 simp only [impl_NetOk.j0] at H
 by_cases c7 : x12_1 = true
 · subst c7
   rw [if_pos rfl] at H
   obtain rfl := Option.some.inj H
   go_wp2
   go_ret
   exact ⟨qe, qb HB.out⟩
 replace c7 := Bool.eq_false_iff.mpr c7
 subst c7
 rw [if_neg nf] at H
 have H' := Aside0.mk H
 clear H
 have hcz8_0 : wc.cell? ⟨gb102, 0, none⟩ = some (.int .i64 a0_0) := (blk_cell BK102.out 0).trans rfl
 have hcz8_1 : wc.cell? ⟨gb102, 1, none⟩ = some (.slice A0_1 l0_1.length c0_1) := (blk_cell BK102.out 1).trans rfl
 have hfz8_0 := blk_frozen BK102.out 0
 have hfz8_1 := blk_frozen BK102.out 1
 go_wp2
 go_loopg [16] kj1 (fun kq v16 w' => ∃ (x16_2 : Int), v16 = .int .i64 x16_2 ∧ Aside0 (impl_NetOk.l0 kq l0_1 (l0_1.length : Int) x16_2 a0_0 l0_1 = some r) ∧ Aside0 (kq ≤ kj1) ∧ Aside0 (w'.heap[gb102]? = some (.cells #[.int .i64 a0_0, (.slice A0_1 l0_1.length c0_1)] 25 (0, 0))) ∧ Aside0 (Below w.heap.size w w'))
 case atStart => exact ⟨(0), qs, H', ⟨Nat.le_refl _⟩, ⟨qk BK102.out⟩, ⟨qb HB.out⟩⟩
 clear H'
 try clear p2
 try clear c3
 try clear c4
 try clear c4b0
 try clear c7
 try clear hcz5_0
 try clear hcz5_1
 try clear hcz6_0
 try clear hcz6_1
 try clear hcz8_0
 try clear hcz8_1
 try clear hfz5_0
 try clear hfz5_1
 try clear hfz6_0
 try clear hfz6_1
 try clear hfz8_0
 try clear hfz8_1
 try clear p2
 obtain ⟨x16_2, rfl, HA, HK2, BK102, HB⟩ := hrel
 rcases gk with _ | k2
 · exact absurd HA.out (by simp [impl_NetOk.l0])
 have H := HA.out
 clear HA
 simp only [impl_NetOk.l0] at H
 by_cases c9 : x16_2 < (l0_1.length : Int)
 rotate_left
 · rw [if_neg c9] at H
   have c9b0 : decide (x16_2 < (l0_1.length : Int)) = false := decide_eq_false c9
   clear c9
   replace H := Option.bind_eq_some_iff.mp H
   obtain ⟨t101, A104, H⟩ := H
   have A29 := Aside0.mk A104
   clear A104
   obtain rfl := Option.some.inj H
   have hcz30_0 : wr.cell? ⟨gb102, 0, none⟩ = some (.int .i64 a0_0) := (blk_cell BK102.out 0).trans rfl
   have hcz30_1 : wr.cell? ⟨gb102, 1, none⟩ = some (.slice A0_1 l0_1.length c0_1) := (blk_cell BK102.out 1).trans rfl
   have hfz30_0 := blk_frozen BK102.out 0
   have hfz30_1 := blk_frozen BK102.out 1
   go_wp2_with (first | ((with_reducible refine gate_callee (f := 78) rfl ?_); refine gl 40 Try.func78 #[.slice A0_1 l0_1.length c0_1] ?_; (with_reducible refine (impl_ascending.calls k2 _ _ l0_1 t101 _ ?side1 ?side2 A29.out).mono ?_); (case side1 => exact qc (Kd.C_below HR0_1.out HB.out)); (case side2 => exact HC0_1.out); rintro e w31 ⟨rfl, hb⟩; refine ⟨_, rfl, ?_⟩; replace BK102 := q0 (kb BK102.out hb); replace HB := q0 (below_step (qb HB.out) hb); (try clear hb); (try clear hb2); (try clear hk); (try clear hi)))
   go_ret
   exact ⟨qe, qb HB.out⟩
 rw [if_pos c9] at H
 have c9b0 : decide (x16_2 < (l0_1.length : Int)) = true := decide_eq_true c9
 clear c9
 by_cases c10 : 0 ≤ x16_2
 rotate_left
 · rw [if_neg c10] at H
   exact absurd H (by simp)
 rw [if_pos c10] at H
 have c10b0 : decide (0 ≤ x16_2) = true := decide_eq_true c10
 clear c10
 by_cases c11 : x16_2 < (l0_1.length : Int)
 rotate_left
 · rw [if_neg c11] at H
   exact absurd H (by simp)
 rw [if_pos c11] at H
 have c11b0 : decide (x16_2 < (l0_1.length : Int)) = true := decide_eq_true c11
 clear c11
 by_cases c12 : ((rd_TTie l0_1 x16_2).f0) < 0
 · rw [if_pos c12] at H
   have c12b0 : decide (((rd_TTie l0_1 x16_2).f0) < 0) = true := decide_eq_true c12
   clear c12
   obtain rfl := Option.some.inj H
   have p100 : 0 ≤ (x16_2 : Int) := of_decide_eq_true qa
   have q100 : x16_2 < (l0_1.length : Int) := of_decide_eq_true qa
   obtain ⟨ad100, e100, hx100_0, hx100_1⟩ := at_TTie HR0_1.out x16_2 p100 q100
   cases e100
   replace hx100_0 := (HB.out.cell (World.block_lt_of_cell? w _ hx100_0)).trans hx100_0
   replace hx100_1 := (HB.out.cell (World.block_lt_of_cell? w _ hx100_1)).trans hx100_1
   replace p100 := eq_true p100
   replace q100 := eq_true q100
   go_wp2_with (first | ((with_reducible refine gate_dst (N := 4) rfl ?_); refine be 4 #[.int .i64 0, .int .i64 0] 32 ?_; intro gb103 hg w13 hbox hb; have BK103 := q0 (hbox); have GW103 := q0 ((bs HB.out hg : w.heap.size ≤ gb103)); have GE103 := q0 ((bs HB.out hg : w.heap.size ≤ gb103)); replace HB := q0 (below_step (qb HB.out) hb); have NB102_103 := q0 ((bl BK102.out hg : gb102 ≠ gb103)); have NB103_102 := q0 ((bg BK102.out hg : gb103 ≠ gb102)); replace BK102 := q0 (kb BK102.out hb); clear hb hbox hg; have hnb14 := NB103_102.out; have hnc14 := NB102_103.out; have hcz15_0 : w13.cell? ⟨gb103, 0, none⟩ = some (.int .i64 0) := (blk_cell BK103.out 0).trans rfl; have hcz15_1 : w13.cell? ⟨gb103, 1, none⟩ = some (.int .i64 0) := (blk_cell BK103.out 1).trans rfl; have hfz15_0 := blk_frozen BK103.out 0; have hfz15_1 := blk_frozen BK103.out 1))
   go_ret
   exact ⟨qe, qb HB.out⟩
 rw [if_neg c12] at H
 have c12b0 : decide (((rd_TTie l0_1 x16_2).f0) < 0) = false := decide_eq_false c12
 clear c12
 by_cases c16 : ((rd_TTie l0_1 x16_2).f0) ≥ ((rd_TTie l0_1 x16_2).f1)
 · rw [if_pos c16] at H
   have c16b0 : decide (((rd_TTie l0_1 x16_2).f1) ≤ ((rd_TTie l0_1 x16_2).f0)) = true := decide_eq_true c16
   clear c16
   obtain rfl := Option.some.inj H
   have p100 : 0 ≤ (x16_2 : Int) := of_decide_eq_true qa
   have q100 : x16_2 < (l0_1.length : Int) := of_decide_eq_true qa
   obtain ⟨ad100, e100, hx100_0, hx100_1⟩ := at_TTie HR0_1.out x16_2 p100 q100
   cases e100
   replace hx100_0 := (HB.out.cell (World.block_lt_of_cell? w _ hx100_0)).trans hx100_0
   replace hx100_1 := (HB.out.cell (World.block_lt_of_cell? w _ hx100_1)).trans hx100_1
   replace p100 := eq_true p100
   replace q100 := eq_true q100
   go_wp2_with (first | ((with_reducible refine gate_dst (N := 4) rfl ?_); refine be 4 #[.int .i64 0, .int .i64 0] 32 ?_; intro gb103 hg w17 hbox hb; have BK103 := q0 (hbox); have GW103 := q0 ((bs HB.out hg : w.heap.size ≤ gb103)); have GE103 := q0 ((bs HB.out hg : w.heap.size ≤ gb103)); replace HB := q0 (below_step (qb HB.out) hb); have NB102_103 := q0 ((bl BK102.out hg : gb102 ≠ gb103)); have NB103_102 := q0 ((bg BK102.out hg : gb103 ≠ gb102)); replace BK102 := q0 (kb BK102.out hb); clear hb hbox hg; have hnb18 := NB103_102.out; have hnc18 := NB102_103.out; have hcz19_0 : w17.cell? ⟨gb103, 0, none⟩ = some (.int .i64 0) := (blk_cell BK103.out 0).trans rfl; have hcz19_1 : w17.cell? ⟨gb103, 1, none⟩ = some (.int .i64 0) := (blk_cell BK103.out 1).trans rfl; have hfz19_0 := blk_frozen BK103.out 0; have hfz19_1 := blk_frozen BK103.out 1))
   go_ret
   exact ⟨qe, qb HB.out⟩
 rw [if_neg c16] at H
 have c16b0 : decide (((rd_TTie l0_1 x16_2).f1) ≤ ((rd_TTie l0_1 x16_2).f0)) = false := decide_eq_false c16
 clear c16
 by_cases c20 : ((rd_TTie l0_1 x16_2).f1) ≥ a0_0
 · rw [if_pos c20] at H
   have c20b0 : decide (a0_0 ≤ ((rd_TTie l0_1 x16_2).f1)) = true := decide_eq_true c20
   clear c20
   obtain rfl := Option.some.inj H
   have p100 : 0 ≤ (x16_2 : Int) := of_decide_eq_true qa
   have q100 : x16_2 < (l0_1.length : Int) := of_decide_eq_true qa
   obtain ⟨ad100, e100, hx100_0, hx100_1⟩ := at_TTie HR0_1.out x16_2 p100 q100
   cases e100
   replace hx100_0 := (HB.out.cell (World.block_lt_of_cell? w _ hx100_0)).trans hx100_0
   replace hx100_1 := (HB.out.cell (World.block_lt_of_cell? w _ hx100_1)).trans hx100_1
   replace p100 := eq_true p100
   replace q100 := eq_true q100
   go_wp2_with (first | ((with_reducible refine gate_dst (N := 4) rfl ?_); refine be 4 #[.int .i64 0, .int .i64 0] 32 ?_; intro gb103 hg w21 hbox hb; have BK103 := q0 (hbox); have GW103 := q0 ((bs HB.out hg : w.heap.size ≤ gb103)); have GE103 := q0 ((bs HB.out hg : w.heap.size ≤ gb103)); replace HB := q0 (below_step (qb HB.out) hb); have NB102_103 := q0 ((bl BK102.out hg : gb102 ≠ gb103)); have NB103_102 := q0 ((bg BK102.out hg : gb103 ≠ gb102)); replace BK102 := q0 (kb BK102.out hb); clear hb hbox hg; have hnb22 := NB103_102.out; have hnc22 := NB102_103.out; have hcz23_0 : w21.cell? ⟨gb103, 0, none⟩ = some (.int .i64 0) := (blk_cell BK103.out 0).trans rfl; have hcz23_1 : w21.cell? ⟨gb103, 1, none⟩ = some (.int .i64 0) := (blk_cell BK103.out 1).trans rfl; have hfz23_0 := blk_frozen BK103.out 0; have hfz23_1 := blk_frozen BK103.out 1; have hcz24_0 : w21.cell? ⟨gb102, 0, none⟩ = some (.int .i64 a0_0) := (blk_cell BK102.out 0).trans rfl; have hcz24_1 : w21.cell? ⟨gb102, 1, none⟩ = some (.slice (some ad100) l0_1.length c0_1) := (blk_cell BK102.out 1).trans rfl; have hfz24_0 := blk_frozen BK102.out 0; have hfz24_1 := blk_frozen BK102.out 1))
   go_ret
   exact ⟨qe, qb HB.out⟩
 rw [if_neg c20] at H
 have c20b0 : decide (a0_0 ≤ ((rd_TTie l0_1 x16_2).f1)) = false := decide_eq_false c20
 clear c20
 have H' := Aside0.mk H
 clear H
 have p100 : 0 ≤ (x16_2 : Int) := of_decide_eq_true qa
 have q100 : x16_2 < (l0_1.length : Int) := of_decide_eq_true qa
 obtain ⟨ad100, e100, hx100_0, hx100_1⟩ := at_TTie HR0_1.out x16_2 p100 q100
 cases e100
 replace hx100_0 := (HB.out.cell (World.block_lt_of_cell? w _ hx100_0)).trans hx100_0
 replace hx100_1 := (HB.out.cell (World.block_lt_of_cell? w _ hx100_1)).trans hx100_1
 replace p100 := eq_true p100
 replace q100 := eq_true q100
 go_wp2_with (first | ((with_reducible refine gate_dst (N := 4) rfl ?_); refine be 4 #[.int .i64 0, .int .i64 0] 32 ?_; intro gb103 hg w25 hbox hb; have BK103 := q0 (hbox); have GW103 := q0 ((bs HB.out hg : w.heap.size ≤ gb103)); have GE103 := q0 ((bs HB.out hg : w.heap.size ≤ gb103)); replace HB := q0 (below_step (qb HB.out) hb); have NB102_103 := q0 ((bl BK102.out hg : gb102 ≠ gb103)); have NB103_102 := q0 ((bg BK102.out hg : gb103 ≠ gb102)); replace BK102 := q0 (kb BK102.out hb); clear hb hbox hg; have hnb26 := NB103_102.out; have hnc26 := NB102_103.out; have hcz27_0 : w25.cell? ⟨gb103, 0, none⟩ = some (.int .i64 0) := (blk_cell BK103.out 0).trans rfl; have hcz27_1 : w25.cell? ⟨gb103, 1, none⟩ = some (.int .i64 0) := (blk_cell BK103.out 1).trans rfl; have hfz27_0 := blk_frozen BK103.out 0; have hfz27_1 := blk_frozen BK103.out 1; have hcz28_0 : w25.cell? ⟨gb102, 0, none⟩ = some (.int .i64 a0_0) := (blk_cell BK102.out 0).trans rfl; have hcz28_1 : w25.cell? ⟨gb102, 1, none⟩ = some (.slice (some ad100) l0_1.length c0_1) := (blk_cell BK102.out 1).trans rfl; have hfz28_0 := blk_frozen BK102.out 0; have hfz28_1 := blk_frozen BK102.out 1))
 go_roundg k2
 case measure => have := HJ1.out; have := HK2.out; omega
 case rel => exact ⟨(wrap64 (x16_2 + 1)), qs, H', ⟨by have := HJ1.out; have := HK2.out; omega⟩, ⟨qf BK102.out⟩, ⟨qb HB.out⟩⟩

attribute [local go_sem high] eqATie
set_option maxHeartbeats 8000000 in
set_option maxRecDepth 100000 in
theorem slices_Index_Tie.calls (k : Nat) (A0 : Option Addr) (c0 : Nat) (l0 : List (STie)) (a1_0 : Int) (a1_1 : Int) (r : Int) (w : World) (hr0 : Kd.C kTie w A0 l0.length l0) (hc0 : l0.length ≤ c0) (h : slices_Index_Tie.f k l0 a1_0 a1_1 = some r) :
    Calls Try.prog 104 #[.slice A0 l0.length c0, .agg #[.int .i64 a1_0, .int .i64 a1_1]] w fun e w' => e = .returned (.int .i64 r) ∧ Below w.heap.size w w' := by
 have hu32 := Try.underlying32
 have HR0 := Aside0.mk hr0
 have HC0 := Aside0.mk hc0
 clear hr0 hc0
 have HB := q0 (Below.refl w.heap.size w)
 have H : (slices_Index_Tie.l0 k l0 (l0.length : Int) 0 a1_0 a1_1) = some r := h
 clear h
 have H' := Aside0.mk H
 clear H
 go_enter Try.func104, Try.ntmps104
 go_wp2_with (first | ((with_reducible refine gate_dst (N := 3) rfl ?_); refine be 3 #[.int .i64 a1_0, .int .i64 a1_1] 32 ?_; intro gb101 hg w3 hbox hb; have BK101 := q0 (hbox); have GW101 := q0 ((bs HB.out hg : w.heap.size ≤ gb101)); have GE101 := q0 ((bs HB.out hg : w.heap.size ≤ gb101)); replace HB := q0 (below_step (qb HB.out) hb); clear hb hbox hg))
 repeat (go_quiet (first | ((with_reducible refine gate_dst (N := 3) rfl ?_); refine be 3 #[.int .i64 a1_0, .int .i64 a1_1] 32 ?_; intro gb101 hg w3 hbox hb; have BK101 := q0 (hbox); have GW101 := q0 ((bs HB.out hg : w.heap.size ≤ gb101)); have GE101 := q0 ((bs HB.out hg : w.heap.size ≤ gb101)); replace HB := q0 (below_step (qb HB.out) hb); clear hb hbox hg)); try go_wp2_with (first | ((with_reducible refine gate_dst (N := 3) rfl ?_); refine be 3 #[.int .i64 a1_0, .int .i64 a1_1] 32 ?_; intro gb101 hg w3 hbox hb; have BK101 := q0 (hbox); have GW101 := q0 ((bs HB.out hg : w.heap.size ≤ gb101)); have GE101 := q0 ((bs HB.out hg : w.heap.size ≤ gb101)); replace HB := q0 (below_step (qb HB.out) hb); clear hb hbox hg)))
 go_loopg [8] k (fun kq v8 w' => ∃ (x8_1 : Int), v8 = .int .i64 x8_1 ∧ Aside0 (slices_Index_Tie.l0 kq l0 (l0.length : Int) x8_1 a1_0 a1_1 = some r) ∧ Aside0 (kq ≤ k) ∧ Aside0 (w'.heap[gb101]? = some (.cells #[.int .i64 a1_0, .int .i64 a1_1] 32 (0, 0))) ∧ Aside0 (Below w.heap.size w w'))
 case atStart => exact ⟨(0), qs, H', ⟨Nat.le_refl _⟩, ⟨qk BK101.out⟩, ⟨qb HB.out⟩⟩
 clear H'
 try clear c1
 try clear p2
 obtain ⟨x8_1, rfl, HA, HK1, BK101, HB⟩ := hrel
 rcases gk with _ | k1
 · exact absurd HA.out (by simp [slices_Index_Tie.l0])
 have H := HA.out
 clear HA
 simp only [slices_Index_Tie.l0] at H
 by_cases c4 : x8_1 < (l0.length : Int)
 rotate_left
 · rw [if_neg c4] at H
   have c4b0 : decide (x8_1 < (l0.length : Int)) = false := decide_eq_false c4
   clear c4
   obtain rfl := Option.some.inj H
   go_wp2
   repeat (go_quiet (fail); try go_wp2)
   go_ret
   exact ⟨qe, qb HB.out⟩
 rw [if_pos c4] at H
 have c4b0 : decide (x8_1 < (l0.length : Int)) = true := decide_eq_true c4
 clear c4
 by_cases c5 : 0 ≤ x8_1
 rotate_left
 · rw [if_neg c5] at H
   exact absurd H (by simp)
 rw [if_pos c5] at H
 have c5b0 : decide (0 ≤ x8_1) = true := decide_eq_true c5
 clear c5
 by_cases c6 : x8_1 < (l0.length : Int)
 rotate_left
 · rw [if_neg c6] at H
   exact absurd H (by simp)
 rw [if_pos c6] at H
 have c6b0 : decide (x8_1 < (l0.length : Int)) = true := decide_eq_true c6
 clear c6
 by_cases c7 : (a1_0 == ((rd_TTie l0 x8_1).f0) && (a1_1 == ((rd_TTie l0 x8_1).f1))) = true
 · rw [if_pos c7] at H
   have c7b0 : (a1_0 == ((rd_TTie l0 x8_1).f0) && (a1_1 == ((rd_TTie l0 x8_1).f1))) = true := c7
   (try (have c7b1 : decide (a1_0 = ((rd_TTie l0 x8_1).f0) && (a1_1 == ((rd_TTie l0 x8_1).f1))) = true := by simpa using c7))
   (try (have c7b2 : (a1_0 == ((rd_TTie l0 x8_1).f0) && (a1_1 == ((rd_TTie l0 x8_1).f1))) = true := by simpa using c7))
   clear c7
   obtain rfl := Option.some.inj H
   have hcz8_0 : wr.cell? ⟨gb101, 0, none⟩ = some (.int .i64 a1_0) := (blk_cell BK101.out 0).trans rfl
   have hcz8_1 : wr.cell? ⟨gb101, 1, none⟩ = some (.int .i64 a1_1) := (blk_cell BK101.out 1).trans rfl
   have hfz8_0 := blk_frozen BK101.out 0
   have hfz8_1 := blk_frozen BK101.out 1
   have p100 : 0 ≤ (x8_1 : Int) := of_decide_eq_true qa
   have q100 : x8_1 < (l0.length : Int) := of_decide_eq_true qa
   obtain ⟨ad100, e100, hx100_0, hx100_1⟩ := at_TTie HR0.out x8_1 p100 q100
   cases e100
   replace hx100_0 := (HB.out.cell (World.block_lt_of_cell? w _ hx100_0)).trans hx100_0
   replace hx100_1 := (HB.out.cell (World.block_lt_of_cell? w _ hx100_1)).trans hx100_1
   replace p100 := eq_true p100
   replace q100 := eq_true q100
   go_wp2
   repeat (go_quiet (fail); try go_wp2)
   go_ret
   exact ⟨qe, qb HB.out⟩
 rw [if_neg c7] at H
 have c7b0 : (a1_0 == ((rd_TTie l0 x8_1).f0) && (a1_1 == ((rd_TTie l0 x8_1).f1))) = false := by simpa using c7
 (try (have c7b1 : decide (a1_0 = ((rd_TTie l0 x8_1).f0) && (a1_1 == ((rd_TTie l0 x8_1).f1))) = false := by simpa using c7))
 (try (have c7b2 : (a1_0 == ((rd_TTie l0 x8_1).f0) && (a1_1 == ((rd_TTie l0 x8_1).f1))) = false := by simpa using c7))
 (try (have c7b3 : ¬ (a1_0 = ((rd_TTie l0 x8_1).f0) && (a1_1 == ((rd_TTie l0 x8_1).f1))) := by simpa using c7))
 clear c7
 have H' := Aside0.mk H
 clear H
 have hcz9_0 : wr.cell? ⟨gb101, 0, none⟩ = some (.int .i64 a1_0) := (blk_cell BK101.out 0).trans rfl
 have hcz9_1 : wr.cell? ⟨gb101, 1, none⟩ = some (.int .i64 a1_1) := (blk_cell BK101.out 1).trans rfl
 have hfz9_0 := blk_frozen BK101.out 0
 have hfz9_1 := blk_frozen BK101.out 1
 have p100 : 0 ≤ (x8_1 : Int) := of_decide_eq_true qa
 have q100 : x8_1 < (l0.length : Int) := of_decide_eq_true qa
 obtain ⟨ad100, e100, hx100_0, hx100_1⟩ := at_TTie HR0.out x8_1 p100 q100
 cases e100
 replace hx100_0 := (HB.out.cell (World.block_lt_of_cell? w _ hx100_0)).trans hx100_0
 replace hx100_1 := (HB.out.cell (World.block_lt_of_cell? w _ hx100_1)).trans hx100_1
 replace p100 := eq_true p100
 replace q100 := eq_true q100
 go_wp2
 repeat (go_quiet (fail); try go_wp2)
 go_roundg k1
 case measure => have := HK1.out; omega
 case rel => exact ⟨(wrap64 (x8_1 + 1)), qs, H', ⟨by have := HK1.out; omega⟩, ⟨qk BK101.out⟩, ⟨qb HB.out⟩⟩

set_option maxHeartbeats 8000000 in
set_option maxRecDepth 100000 in
theorem slices_Contains_Tie.calls (k : Nat) (A0 : Option Addr) (c0 : Nat) (l0 : List (STie)) (a1_0 : Int) (a1_1 : Int) (r : Bool) (w : World) (hr0 : Kd.C kTie w A0 l0.length l0) (hc0 : l0.length ≤ c0) (h : slices_Contains_Tie.f k l0 a1_0 a1_1 = some r) :
    Calls Try.prog 82 #[.slice A0 l0.length c0, .agg #[.int .i64 a1_0, .int .i64 a1_1]] w fun e w' => e = .returned (.bool r) ∧ Below w.heap.size w w' := by
 have hu32 := Try.underlying32
 have HR0 := Aside0.mk hr0
 have HC0 := Aside0.mk hc0
 clear hr0 hc0
 have HB := q0 (Below.refl w.heap.size w)
 have H : ((slices_Index_Tie.f k l0 a1_0 a1_1).bind fun t100 => (some (decide (t100 ≥ 0)))) = some r := h
 clear h
 replace H := Option.bind_eq_some_iff.mp H
 obtain ⟨t100, A30, H⟩ := H
 have A3 := Aside0.mk A30
 clear A30
 obtain rfl := Option.some.inj H
 go_enter Try.func82, Try.ntmps82
 go_wp2_with (first | ((with_reducible refine gate_dst (N := 3) rfl ?_); refine be 3 #[.int .i64 a1_0, .int .i64 a1_1] 32 ?_; intro gb101 hg w4 hbox hb; have BK101 := q0 (hbox); have GW101 := q0 ((bs HB.out hg : w.heap.size ≤ gb101)); have GE101 := q0 ((bs HB.out hg : w.heap.size ≤ gb101)); replace HB := q0 (below_step (qb HB.out) hb); clear hb hbox hg; have hcz5_0 : w4.cell? ⟨gb101, 0, none⟩ = some (.int .i64 a1_0) := (blk_cell BK101.out 0).trans rfl; have hcz5_1 : w4.cell? ⟨gb101, 1, none⟩ = some (.int .i64 a1_1) := (blk_cell BK101.out 1).trans rfl; have hfz5_0 := blk_frozen BK101.out 0; have hfz5_1 := blk_frozen BK101.out 1) | ((with_reducible refine gate_callee (f := 104) rfl ?_); refine gl 7 Try.func104 #[.slice A0 l0.length c0, .agg #[.int .i64 a1_0, .int .i64 a1_1]] ?_; (with_reducible refine (slices_Index_Tie.calls k _ _ l0 a1_0 a1_1 t100 _ ?side1 ?side2 A3.out).mono ?_); (case side1 => exact qc (Kd.C_below HR0.out HB.out)); (case side2 => exact HC0.out); rintro e w6 ⟨rfl, hb⟩; refine ⟨_, rfl, ?_⟩; replace BK101 := q0 (kb BK101.out hb); replace HB := q0 (below_step (qb HB.out) hb); (try clear hb); (try clear hb2); (try clear hk); (try clear hi)))
 go_ret
 exact ⟨qe, qb HB.out⟩

set_option maxHeartbeats 8000000 in
set_option maxRecDepth 100000 in
theorem impl_tie.calls (a0 : Int) (a1 : Int) (r1 : Int) (r2 : Int) (w : World) (h : impl_tie.f a0 a1 = some (r1, r2)) :
    Calls Try.prog 56 #[.int .i64 a0, .int .i64 a1] w fun e w' => e = .returned (.agg #[.int .i64 r1, .int .i64 r2]) ∧ Below w.heap.size w w' := by
 have hu32 := Try.underlying32
 have HB := q0 (Below.refl w.heap.size w)
 have H : (some (mn a0 a1, mx a0 a1)) = some (r1, r2) := h
 clear h
 obtain ⟨ji3, hji3⟩ : ∃ j_ : Int, (mn a0 a1) = j_ := ⟨_, rfl⟩
 replace H : (some (ji3, mx a0 a1)) = some (r1, r2) := by first | (rw [hji3] at H; exact H) | (simp only [hji3] at H ⊢; exact H)
 have hji3_ : (if a1 < a0 then a1 else a0) = ji3 := hji3
 obtain ⟨ji4, hji4⟩ : ∃ j_ : Int, (mx a0 a1) = j_ := ⟨_, rfl⟩
 replace H : (some (ji3, ji4)) = some (r1, r2) := by first | (rw [hji4] at H; exact H) | (simp only [hji4] at H ⊢; exact H)
 have hji4_ : (if a0 < a1 then a1 else a0) = ji4 := hji4
 simp only [Option.some.injEq, Prod.mk.injEq] at H
 obtain ⟨rfl, rfl⟩ := H
 go_enter Try.func56, Try.ntmps56
 go_wp2_with (first | ((with_reducible refine gate_dst (N := 4) rfl ?_); refine be 4 #[.int .i64 0, .int .i64 0] 32 ?_; intro gb100 hg w5 hbox hb; have BK100 := q0 (hbox); have GW100 := q0 ((bs HB.out hg : w.heap.size ≤ gb100)); have GE100 := q0 ((bs HB.out hg : w.heap.size ≤ gb100)); replace HB := q0 (below_step (qb HB.out) hb); clear hb hbox hg; have hcz6_0 : w5.cell? ⟨gb100, 0, none⟩ = some (.int .i64 0) := (blk_cell BK100.out 0).trans rfl; have hcz6_1 : w5.cell? ⟨gb100, 1, none⟩ = some (.int .i64 0) := (blk_cell BK100.out 1).trans rfl; have hfz6_0 := blk_frozen BK100.out 0; have hfz6_1 := blk_frozen BK100.out 1))
 refine bodyPost_ret (results_cell_row rfl _ _ gb100 32 #[.int .i64 ji3, .int .i64 ji4] (0, 0) _ rfl (by (with_reducible repeat (first | refine blk_drewN ?_ _ | refine blk_drew ?_ | refine blk_alloc ?_ _)); refine blk_put (cs := #[.int .i64 ji3, .int .i64 0]) ?_ 1 _ rfl; (with_reducible repeat (first | refine blk_drewN ?_ _ | refine blk_drew ?_ | refine blk_alloc ?_ _)); refine blk_put (cs := #[.int .i64 0, .int .i64 0]) ?_ 0 _ rfl; (with_reducible repeat (first | refine blk_drewN ?_ _ | refine blk_drew ?_ | refine blk_alloc ?_ _)); exact BK100.out) Try.underlying32 rfl (by kernel_rfl)) rfl ?_
 exact ⟨by first | rfl | (simp [errW_none, errW_some] <;> rfl) | (simp only [← hji3, ← hji4]; first | rfl | (simp [errW_none, errW_some] <;> rfl)) | (simp [*, errW_none, errW_some] <;> rfl), qb HB.out⟩

set_option maxHeartbeats 8000000 in
set_option maxRecDepth 100000 in
theorem impl_Net_has.calls (k : Nat) (a0_0 : Int) (A0_1 : Option Addr) (c0_1 : Nat) (l0_1 : List (STie)) (a1 : Int) (a2 : Int) (r : Bool) (w : World) (hr0_1 : Kd.C kTie w A0_1 l0_1.length l0_1) (hc0_1 : l0_1.length ≤ c0_1) (h : impl_Net_has.f k a0_0 l0_1 a1 a2 = some r) :
    Calls Try.prog 71 #[.agg #[.int .i64 a0_0, .slice A0_1 l0_1.length c0_1], .int .i64 a1, .int .i64 a2] w fun e w' => e = .returned (.bool r) ∧ Below w.heap.size w w' := by
 have hu25 := Try.underlying25
 have HR0_1 := Aside0.mk hr0_1
 have HC0_1 := Aside0.mk hc0_1
 clear hr0_1 hc0_1
 have HB := q0 (Below.refl w.heap.size w)
 have H : ((impl_tie.f a1 a2).bind fun bt100 => ((slices_Contains_Tie.f k l0_1 bt100.1 bt100.2).bind fun t101 => (some t101))) = some r := h
 clear h
 replace H := Option.bind_eq_some_iff.mp H
 obtain ⟨⟨t100, t102⟩, A40, H⟩ := H
 have A4 := Aside0.mk A40
 clear A40
 replace H := Option.bind_eq_some_iff.mp H
 obtain ⟨t101, A50, H⟩ := H
 have A5 := Aside0.mk A50
 clear A50
 obtain rfl := Option.some.inj H
 go_enter Try.func71, Try.ntmps71
 try go_wp2_with (first | ((with_reducible refine gate_dst (N := 3) rfl ?_); refine be 3 #[.int .i64 a0_0, .slice A0_1 l0_1.length c0_1] 25 ?_; intro gb103 hg w6 hbox hb; have BK103 := q0 (hbox); have GW103 := q0 ((bs HB.out hg : w.heap.size ≤ gb103)); have GE103 := q0 ((bs HB.out hg : w.heap.size ≤ gb103)); replace HB := q0 (below_step (qb HB.out) hb); clear hb hbox hg))
 replace BK103 := q0 (blk_drew BK103.out)
 replace HB := q0 (below_drew1 HB.out)
 refine start_ (n := 7) (S := fun w' => w'.cell? ⟨gb103, 0, none⟩ = some (.int .i64 a0_0) ∧ w'.cell? ⟨gb103, 1, none⟩ = some (.slice A0_1 l0_1.length c0_1)) (ds := []) (ba 7 0) (by kernel_rfl) rfl (by kernel_rfl) ⟨(blk_cell BK103.out 0).trans rfl, (blk_cell BK103.out 1).trans rfl⟩ (fun hHeld => ?_)
 generalize w6.drew = w7 at BK103 HB hHeld ⊢
 refine pw 0 (some 7) (ba 7 1) ?_
 refine pw 2 (some 9) (ba 7 5) ?_
 refine pw 3 (some 10) (ba 7 13) ?_
 refine tw 1 (some 8) (ba 7 15) hHeld ?_
 refine one_ (i := 4) (N := some 11) (ba 7 31) rfl rfl (by kernel_rfl) (by decide) (fun K hK => ?_)
 refine goes_ Try.func56 (by kernel_rfl) rfl #[.int .i64 a1, .int .i64 a2] (by rfl) rfl rfl qm ?_
 with_reducible refine (impl_tie.calls a1 a2 t100 t102 _ A4.out).mono ?_
 rintro e w8 ⟨rfl, hb⟩
 refine ⟨_, rfl, ?_⟩
 replace BK103 := q0 (kb BK103.out hb)
 replace HB := q0 (below_step (qb HB.out) hb)
 (try clear hb)
 (try clear hb2)
 (try clear hk)
 (try clear hi)
 refine hK.out _ _ ⟨(blk_cell BK103.out 0).trans rfl, (blk_cell BK103.out 1).trans rfl⟩ (fun hHeld => ?_)
 clear hK K
 refine nu 11 ?_
 refine one_ (i := 5) (N := some 12) (ba 7 63) rfl rfl (by kernel_rfl) (by decide) (fun K hK => ?_)
 refine goes_ Try.func82 (by kernel_rfl) rfl #[.slice A0_1 l0_1.length c0_1, .agg #[.int .i64 t100, .int .i64 t102]] (by rfl) rfl rfl qm ?_
 with_reducible refine (slices_Contains_Tie.calls k _ _ l0_1 t100 t102 t101 _ ?side1 ?side2 A5.out).mono ?_
 (case side1 => exact qc (Kd.C_below HR0_1.out HB.out))
 (case side2 => exact HC0_1.out)
 rintro e w9 ⟨rfl, hb⟩
 refine ⟨_, rfl, ?_⟩
 replace BK103 := q0 (kb BK103.out hb)
 replace HB := q0 (below_step (qb HB.out) hb)
 (try clear hb)
 (try clear hb2)
 (try clear hk)
 (try clear hi)
 refine hK.out _ _ ⟨(blk_cell BK103.out 0).trans rfl, (blk_cell BK103.out 1).trans rfl⟩ (fun hHeld => ?_)
 clear hK K
 refine nu 12 ?_
 refine pw 6 (some 6) (ba 7 127) ?_
 refine done_ (by kernel_rfl) ?_
 try go_wp2
 go_ret
 exact ⟨qe, qb HB.out⟩

end Go.Proofs.Ytgoembpmhlmafaa.P
