import Derived.Test.YtgoembpmhlmafaaP0
import Derived.Test.YtgoembpmhlmafaaP1
import Derived.Test.YtgoembpmhlmafaaP4
namespace Go.Proofs.Ytgoembpmhlmafaa.P
open Go.RowKit Go.Proofs.YtgoembpmhlmafaaW.PrintWords Go.Proofs.YtgoembpmhlmafaaW.PrintLast Go.Proofs.YtgoembpmhlmafaaW.PrintMore
attribute [local go_sem] max2_int min2_int max_two min_two max_three min_three max_four min_four
set_option linter.unusedVariables false
set_option linter.unusedSimpArgs false
attribute [local go_sem high] eqATie
set_option maxHeartbeats 8000000 in
set_option maxRecDepth 100000 in
theorem laws_szTieS.calls (A0 : Option Addr) (c0 : Nat) (l0 : List (SLTie)) (a1 : Int) (r : Int) (w : World) (hr0 : Kd.C kLTie w A0 l0.length l0) (hc0 : l0.length ≤ c0) (h : laws_szTieS.f l0 a1 = some r) :
    Calls Try.prog 66 #[.slice A0 l0.length c0, .int .i64 a1] w fun e w' => e = .returned (.int .i64 r) ∧ Drawn0 w w' := by
 have HR0 := Aside0.mk hr0
 have HC0 := Aside0.mk hc0
 clear hr0 hc0
 have H : (if (wrap64 (a1 - (l0.length : Int))) < 0 then (some (-1)) else (some (wrap64 (a1 - (l0.length : Int))))) = some r := h
 clear h
 by_cases c3 : (wrap64 (a1 - (l0.length : Int))) < 0
 · rw [if_pos c3] at H
   have c3b0 : decide ((wrap64 (a1 - (l0.length : Int))) < 0) = true := decide_eq_true c3
   clear c3
   obtain rfl := Option.some.inj H
   go_enter Try.func66, Try.ntmps66
   go_wp2
   go_ret
   exact ⟨by first | rfl | (simp; done) | (simp [*]; done), by repeat (first | exact Drawn0.refl _ | apply Drawn0.step)⟩
 rw [if_neg c3] at H
 have c3b0 : decide ((wrap64 (a1 - (l0.length : Int))) < 0) = false := decide_eq_false c3
 clear c3
 obtain rfl := Option.some.inj H
 go_enter Try.func66, Try.ntmps66
 go_wp2
 go_ret
 exact ⟨by first | rfl | (simp; done) | (simp [*]; done), by repeat (first | exact Drawn0.refl _ | apply Drawn0.step)⟩

set_option maxHeartbeats 8000000 in
set_option maxRecDepth 100000 in
theorem laws_szNet.calls (a0_0 : Int) (A0_1 : Option Addr) (c0_1 : Nat) (l0_1 : List (SLTie)) (a1 : Int) (r : Int) (w : World) (hr0_1 : Kd.C kLTie w A0_1 l0_1.length l0_1) (hc0_1 : l0_1.length ≤ c0_1) (h : laws_szNet.f a0_0 l0_1 a1 = some r) :
    Calls Try.prog 26 #[.agg #[.int .i64 a0_0, .slice A0_1 l0_1.length c0_1], .int .i64 a1] w fun e w' => e = .returned (.int .i64 r) ∧ Below w.heap.size w w' := by
 have hu42 := Try.underlying42
 have HR0_1 := Aside0.mk hr0_1
 have HC0_1 := Aside0.mk hc0_1
 clear hr0_1 hc0_1
 have HB := q0 (Below.refl w.heap.size w)
 have H : ((laws_szTieS.f l0_1 a1).bind fun t100 => (if t100 < 0 then (some (-1)) else (some t100))) = some r := h
 clear h
 replace H := Option.bind_eq_some_iff.mp H
 obtain ⟨t100, A30, H⟩ := H
 have A3 := Aside0.mk A30
 clear A30
 by_cases c4 : t100 < 0
 · rw [if_pos c4] at H
   have c4b0 : decide (t100 < 0) = true := decide_eq_true c4
   clear c4
   obtain rfl := Option.some.inj H
   go_enter Try.func26, Try.ntmps26
   go_wp2_with (first | ((with_reducible refine gate_dst (N := 2) rfl ?_); refine be 2 #[.int .i64 a0_0, .slice A0_1 l0_1.length c0_1] 42 ?_; intro gb101 hg w5 hbox hb; have BK101 := q0 (hbox); have GW101 := q0 ((bs HB.out hg : w.heap.size ≤ gb101)); have GE101 := q0 ((bs HB.out hg : w.heap.size ≤ gb101)); replace HB := q0 (below_step (qb HB.out) hb); clear hb hbox hg; have hcz6_0 : w5.cell? ⟨gb101, 0, none⟩ = some (.int .i64 a0_0) := (blk_cell BK101.out 0).trans rfl; have hcz6_1 : w5.cell? ⟨gb101, 1, none⟩ = some (.slice A0_1 l0_1.length c0_1) := (blk_cell BK101.out 1).trans rfl; have hfz6_0 := blk_frozen BK101.out 0; have hfz6_1 := blk_frozen BK101.out 1) | ((with_reducible refine gate_callee (f := 66) rfl ?_); refine gl 8 Try.func66 #[.slice A0_1 l0_1.length c0_1, .int .i64 a1] ?_; (with_reducible refine (laws_szTieS.calls _ _ l0_1 a1 t100 _ ?side1 ?side2 A3.out).mono ?_); (case side1 => exact qc (Kd.C_below HR0_1.out HB.out)); (case side2 => exact HC0_1.out); rintro e w' ⟨rfl, ⟨nd, rfl⟩⟩; refine ⟨_, rfl, ?_⟩))
   go_ret
   exact ⟨qe, qb HB.out⟩
 rw [if_neg c4] at H
 have c4b0 : decide (t100 < 0) = false := decide_eq_false c4
 clear c4
 obtain rfl := Option.some.inj H
 go_enter Try.func26, Try.ntmps26
 go_wp2_with (first | ((with_reducible refine gate_dst (N := 2) rfl ?_); refine be 2 #[.int .i64 a0_0, .slice A0_1 l0_1.length c0_1] 42 ?_; intro gb101 hg w7 hbox hb; have BK101 := q0 (hbox); have GW101 := q0 ((bs HB.out hg : w.heap.size ≤ gb101)); have GE101 := q0 ((bs HB.out hg : w.heap.size ≤ gb101)); replace HB := q0 (below_step (qb HB.out) hb); clear hb hbox hg; have hcz8_0 : w7.cell? ⟨gb101, 0, none⟩ = some (.int .i64 a0_0) := (blk_cell BK101.out 0).trans rfl; have hcz8_1 : w7.cell? ⟨gb101, 1, none⟩ = some (.slice A0_1 l0_1.length c0_1) := (blk_cell BK101.out 1).trans rfl; have hfz8_0 := blk_frozen BK101.out 0; have hfz8_1 := blk_frozen BK101.out 1) | ((with_reducible refine gate_callee (f := 66) rfl ?_); refine gl 8 Try.func66 #[.slice A0_1 l0_1.length c0_1, .int .i64 a1] ?_; (with_reducible refine (laws_szTieS.calls _ _ l0_1 a1 t100 _ ?side1 ?side2 A3.out).mono ?_); (case side1 => exact qc (Kd.C_below HR0_1.out HB.out)); (case side2 => exact HC0_1.out); rintro e w' ⟨rfl, ⟨nd, rfl⟩⟩; refine ⟨_, rfl, ?_⟩))
 go_ret
 exact ⟨qe, qb HB.out⟩

set_option maxHeartbeats 8000000 in
set_option maxRecDepth 100000 in
theorem laws_toTie.calls (a0_0 : Int) (a0_1 : Int) (r1 : Int) (r2 : Int) (w : World) (h : laws_toTie.f a0_0 a0_1 = some (r1, r2)) :
    Calls Try.prog 96 #[.agg #[.int .i64 a0_0, .int .i64 a0_1]] w fun e w' => e = .returned (.agg #[.int .i64 r1, .int .i64 r2]) ∧ Below w.heap.size w w' := by
 have hu95 := Try.underlying95
 have hu32 := Try.underlying32
 have HB := q0 (Below.refl w.heap.size w)
 have H : (some (a0_0, a0_1)) = some (r1, r2) := h
 clear h
 simp only [Option.some.injEq, Prod.mk.injEq] at H
 obtain ⟨rfl, rfl⟩ := H
 go_enter Try.func96, Try.ntmps96
 go_wp2_with (first | ((with_reducible refine gate_dst (N := 1) rfl ?_); refine be 1 #[.int .i64 a0_0, .int .i64 a0_1] 95 ?_; intro gb100 hg w2 hbox hb; have BK100 := q0 (hbox); have GW100 := q0 ((bs HB.out hg : w.heap.size ≤ gb100)); have GE100 := q0 ((bs HB.out hg : w.heap.size ≤ gb100)); replace HB := q0 (below_step (qb HB.out) hb); clear hb hbox hg) | ((with_reducible refine gate_dst (N := 2) rfl ?_); refine be 2 #[.int .i64 0, .int .i64 0] 32 ?_; intro gb101 hg w3 hbox hb; have BK101 := q0 (hbox); have GW101 := q0 ((bs HB.out hg : w.heap.size ≤ gb101)); have GE101 := q0 ((bs HB.out hg : w.heap.size ≤ gb101)); replace HB := q0 (below_step (qb HB.out) hb); have NB100_101 := q0 ((bl BK100.out hg : gb100 ≠ gb101)); have NB101_100 := q0 ((bg BK100.out hg : gb101 ≠ gb100)); replace BK100 := q0 (kb BK100.out hb); clear hb hbox hg) | ((with_reducible refine gate_dst (N := 3) rfl ?_); refine be 3 #[.int .i64 0, .int .i64 0] 32 ?_; intro gb102 hg w4 hbox hb; have BK102 := q0 (hbox); have GW102 := q0 ((bs HB.out hg : w.heap.size ≤ gb102)); have GE102 := q0 ((bs HB.out hg : w.heap.size ≤ gb102)); replace HB := q0 (below_step (qb HB.out) hb); have NB100_102 := q0 ((bl BK100.out hg : gb100 ≠ gb102)); have NB102_100 := q0 ((bg BK100.out hg : gb102 ≠ gb100)); replace BK100 := q0 (kb BK100.out hb); have NB101_102 := q0 ((bl BK101.out hg : gb101 ≠ gb102)); have NB102_101 := q0 ((bg BK101.out hg : gb102 ≠ gb101)); replace BK101 := q0 (kb BK101.out hb); clear hb hbox hg; have hnb5 := NB100_101.out; have hnc5 := NB101_100.out; have hnb6 := NB100_102.out; have hnc6 := NB102_100.out; have hcz7_0 : w4.cell? ⟨gb100, 0, none⟩ = some (.int .i64 a0_0) := (blk_cell BK100.out 0).trans rfl; have hcz7_1 : w4.cell? ⟨gb100, 1, none⟩ = some (.int .i64 a0_1) := (blk_cell BK100.out 1).trans rfl; have hfz7_0 := blk_frozen BK100.out 0; have hfz7_1 := blk_frozen BK100.out 1; have hnb8 := NB102_101.out; have hnc8 := NB101_102.out; have hcz9_0 : w4.cell? ⟨gb102, 0, none⟩ = some (.int .i64 0) := (blk_cell BK102.out 0).trans rfl; have hcz9_1 : w4.cell? ⟨gb102, 1, none⟩ = some (.int .i64 0) := (blk_cell BK102.out 1).trans rfl; have hfz9_0 := blk_frozen BK102.out 0; have hfz9_1 := blk_frozen BK102.out 1; have hcz10_0 : w4.cell? ⟨gb101, 0, none⟩ = some (.int .i64 0) := (blk_cell BK101.out 0).trans rfl; have hcz10_1 : w4.cell? ⟨gb101, 1, none⟩ = some (.int .i64 0) := (blk_cell BK101.out 1).trans rfl; have hfz10_0 := blk_frozen BK101.out 0; have hfz10_1 := blk_frozen BK101.out 1))
 refine bodyPost_ret (results_cell_row rfl _ _ gb101 32 #[.int .i64 a0_0, .int .i64 a0_1] (0, 0) _ rfl (by (with_reducible repeat (first | refine blk_drewN ?_ _ | refine blk_drew ?_ | refine blk_alloc ?_ _)); refine blk_put (cs := #[.int .i64 a0_0, .int .i64 0]) ?_ 1 _ rfl; (with_reducible repeat (first | refine blk_drewN ?_ _ | refine blk_drew ?_ | refine blk_alloc ?_ _)); refine blk_put (cs := #[.int .i64 0, .int .i64 0]) ?_ 0 _ rfl; (with_reducible repeat (first | refine blk_drewN ?_ _ | refine blk_drew ?_ | refine blk_alloc ?_ _)); refine blk_far ?_ NB101_102.out _; (with_reducible repeat (first | refine blk_drewN ?_ _ | refine blk_drew ?_ | refine blk_alloc ?_ _)); refine blk_far ?_ NB101_102.out _; (with_reducible repeat (first | refine blk_drewN ?_ _ | refine blk_drew ?_ | refine blk_alloc ?_ _)); exact BK101.out) Try.underlying32 rfl (by kernel_rfl)) rfl ?_
 exact ⟨qe, qb HB.out⟩

set_option maxHeartbeats 8000000 in
set_option maxRecDepth 100000 in
theorem laws_toTieS.calls (k : Nat) (A0 : Option Addr) (c0 : Nat) (l0 : List (SLTie)) (r : List (STie)) (w : World) (hr0 : Kd.C kLTie w A0 l0.length l0) (hc0 : l0.length ≤ c0) (h : laws_toTieS.f k l0 = some r) :
    Calls Try.prog 70 #[.slice A0 l0.length c0] w fun e w' => ∃ v0_ : Value, e = .returned (v0_) ∧ Kd.R kTie 32 w' w.heap.size (fun _ => True) v0_ r ∧ Below w.heap.size w w' := by
 have hu95 := Try.underlying95
 have hu32 := Try.underlying32
 have HR0 := Aside0.mk hr0
 have HC0 := Aside0.mk hc0
 clear hr0 hc0
 have HB := q0 (Below.refl w.heap.size w)
 have H : (if 0 ≤ (l0.length : Int) then (if ((l0.length : Int) : Int).toNat ≤ 17592186044416 then (laws_toTieS.l0 k l0 (List.replicate ((l0.length : Int) : Int).toNat zTie) 0) else (none)) else (none)) = some r := h
 clear h
 by_cases c2 : 0 ≤ (l0.length : Int)
 rotate_left
 · rw [if_neg c2] at H
   exact absurd H (by simp)
 rw [if_pos c2] at H
 have c2b0 := eq_true c2
 have c2b1 : decide (0 ≤ (l0.length : Int)) = true := decide_eq_true c2
 clear c2
 by_cases c3 : ((l0.length : Int) : Int).toNat ≤ 17592186044416
 rotate_left
 · rw [if_neg c3] at H
   exact absurd H (by simp)
 rw [if_pos c3] at H
 have c3b0 := eq_true c3
 have c3b1 : decide (((l0.length : Int) : Int).toNat ≤ 17592186044416) = true := decide_eq_true c3
 clear c3
 obtain ⟨y101, hy101⟩ : ∃ y_ : List (STie), y_ = (List.replicate ((l0.length : Int) : Int).toNat zTie) := ⟨_, rfl⟩
 replace H : (laws_toTieS.l0 k l0 y101 0) = some r := qy H hy101
 have Ny101 := Aside0.mk hy101
 clear hy101
 have H' := Aside0.mk H
 clear H
 go_enter Try.func70, Try.ntmps70
 go_wp2_with (first | ((with_reducible refine gate_dst (N := 7) rfl ?_); refine Kd.R_make kTie _ 32 rfl (N := 7) rfl 23 _ _ rfl (l0.length : Int) rfl rfl Try.underlying23 (.agg #[(.int .i64 0), (.int .i64 0)]) 16 info32 rfl (by decide) (by omega) zTie (ok := fun _ => True) (okp := fun _ => True) (kTie_mkM _ _ _ zTie ) (fun _ hk => hk) trivial (of_decide_eq_true qa) (Nat.le_trans (Nat.mul_le_mul_right _ (of_decide_eq_true qa : (l0.length : Int).toNat ≤ 17592186044416)) (by omega)) (Below.refl _ _) (Nat.le_refl _) ?_; intro v102 w4 ho5 hb hg_ hnew_; clear hg_ hnew_; (first | rw [← Ny101.out] at ho5 | (simp only [Int.reduceToNat] at ho5; rw [← Ny101.out] at ho5)); have HO103 := q0 (Kd.R_lower ho5 (below_size (qb HB.out))); replace HB := q0 (below_step (qb HB.out) hb); clear hb ho5))
 go_loopg [4] k (fun kq v4 w' => ∃ (x3_1 : List (STie)) (x4_1 : Int), v4 = .int .i64 x4_1 ∧ Aside0 (laws_toTieS.l0 kq l0 x3_1 x4_1 = some r) ∧ Aside0 (kq ≤ k) ∧ Aside0 (Kd.R kTie 32 w' w.heap.size (fun _ => True) v102 x3_1) ∧ Aside0 (Below w.heap.size w w'))
 case atStart => exact ⟨(y101), (0), qs, H', ⟨Nat.le_refl _⟩, ⟨qr HO103.out⟩, ⟨qb HB.out⟩⟩
 clear H'
 try clear c2
 try clear c2b0
 try clear c2b1
 try clear p2
 try clear c3
 try clear c3b0
 try clear c3b1
 obtain ⟨x3_1, x4_1, rfl, HA, HK1, HO_3, HB⟩ := hrel
 rcases gk with _ | k1
 · exact absurd HA.out (by simp [laws_toTieS.l0])
 have H := HA.out
 clear HA
 simp only [laws_toTieS.l0] at H
 by_cases c6 : x4_1 < (l0.length : Int)
 rotate_left
 · rw [if_neg c6] at H
   have c6b0 : decide (x4_1 < (l0.length : Int)) = false := decide_eq_false c6
   clear c6
   obtain rfl := Option.some.inj H
   go_wp2
   go_ret
   exact ⟨_, qe, qr HO_3.out, qb HB.out⟩
 rw [if_pos c6] at H
 have c6b0 : decide (x4_1 < (l0.length : Int)) = true := decide_eq_true c6
 clear c6
 by_cases c7 : 0 ≤ x4_1
 rotate_left
 · rw [if_neg c7] at H
   exact absurd H (by simp)
 rw [if_pos c7] at H
 have c7b0 : decide (0 ≤ x4_1) = true := decide_eq_true c7
 clear c7
 replace H := Option.bind_eq_some_iff.mp H
 obtain ⟨⟨t100, t104⟩, A80, H⟩ := H
 have A8 := Aside0.mk A80
 clear A80
 by_cases c9 : x4_1 < (x3_1.length : Int)
 rotate_left
 · rw [if_neg c9] at H
   exact absurd H (by simp)
 rw [if_pos c9] at H
 have c9b0 : decide (x4_1 < (x3_1.length : Int)) = true := decide_eq_true c9
 clear c9
 obtain ⟨y105, hy105⟩ : ∃ y_ : List (STie), y_ = (x3_1.set (x4_1 : Int).toNat (⟨t100, t104⟩ : STie)) := ⟨_, rfl⟩
 replace H : (laws_toTieS.l0 k1 l0 y105 (wrap64 (x4_1 + 1))) = some r := qy H hy105
 have Ny105 := Aside0.mk hy105
 clear hy105
 have H' := Aside0.mk H
 clear H
 have p106 : 0 ≤ (x4_1 : Int) := of_decide_eq_true qa
 have q106 : x4_1 < (l0.length : Int) := of_decide_eq_true qa
 obtain ⟨ad106, e106, hx106_0, hx106_1⟩ := at_TLTie HR0.out x4_1 p106 q106
 cases e106
 replace hx106_0 := (HB.out.cell (World.block_lt_of_cell? w _ hx106_0)).trans hx106_0
 replace hx106_1 := (HB.out.cell (World.block_lt_of_cell? w _ hx106_1)).trans hx106_1
 replace p106 := eq_true p106
 replace q106 := eq_true q106
 go_wp2_with (first | ((with_reducible refine gate_callee (f := 96) rfl ?_); refine gl 20 Try.func96 #[.agg #[.int .i64 ((rd_TLTie l0 x4_1).f0), .int .i64 ((rd_TLTie l0 x4_1).f1)]] ?_; (with_reducible refine (laws_toTie.calls ((rd_TLTie l0 x4_1).f0) ((rd_TLTie l0 x4_1).f1) t100 t104 _ A8.out).mono ?_); rintro e w11 ⟨rfl, hb⟩; refine ⟨_, rfl, ?_⟩; replace HO_3 := q0 (Kd.R_below (qr HO_3.out) hb); replace HB := q0 (below_step (qb HB.out) hb); (try clear hb); (try clear hb2); (try clear hk); (try clear hi); have p10 : 0 ≤ (x4_1 : Int) := of_decide_eq_true qa; have q10 : (x4_1 : Int) < ((x3_1.length : Int) : Int) := of_decide_eq_true qa; obtain ⟨go10, co10, eo10, gb10, gl10, cl10, HG10⟩ := Kd.R_form HO_3.out (by omega); (first | cases eo10 | (injection eo10 with ea_ en_ ec_; (first | subst ea_ | (injection ea_ with ea_; subst ea_)); subst ec_; clear en_)); have GB10 := Aside0.mk gb10; have GG10 := Aside0.mk HG10; clear gb10 gl10 HG10; obtain ⟨ce10, hcl10, hM10, hcc10, hfr10⟩ := Kd.R_elem HO_3.out zTie (x4_1 : Int) p10 q10; obtain rfl := kTie_openM hM10; have hx10_0 : w11.cell? ⟨go10, (x4_1 : Int).toNat * 2, none⟩ = some (.int .i64 ((rd_TTie x3_1 x4_1).f0)) := hcc10 0 _ rfl; have hx10_1 : w11.cell? ⟨go10, (x4_1 : Int).toNat * 2 + 1, none⟩ = some (.int .i64 ((rd_TTie x3_1 x4_1).f1)) := hcc10 1 _ rfl; have hf10_0 : w11.frozen? ⟨go10, (x4_1 : Int).toNat * 2, none⟩ = false := hfr10 0; have hf10_1 : w11.frozen? ⟨go10, (x4_1 : Int).toNat * 2 + 1, none⟩ = false := hfr10 1; clear hcl10 hcc10 hfr10 hM10; replace p10 := eq_true p10; replace q10 := eq_true q10; have HX12 := q0 (show Kd.R kTie 32 w11 w.heap.size (fun _ => True) (.slice (some ⟨go10, 0, none⟩) x3_1.length co10) x3_1 from (qr HO_3.out)); obtain ⟨ce12, hcl12, hM12, hcc12, hfr12⟩ := Kd.R_elem HX12.out zTie (x4_1 : Int) (of_decide_eq_true qa) (by have h_ : (x4_1 : Int) < ((x3_1.length : Int) : Int) := of_decide_eq_true qa; first | exact h_ | (have e_ := (Kd.R_reads' HO_3.out).1; omega) | simpa using h_); obtain rfl := kTie_openM hM12; have HP12 := Kd.R_seg HX12.out (x4_1 : Int) (of_decide_eq_true qa) (by have h_ : (x4_1 : Int) < ((x3_1.length : Int) : Int) := of_decide_eq_true qa; first | exact h_ | (have e_ := (Kd.R_reads' HO_3.out).1; omega) | simpa using h_) (seg := [.int .i64 t100, .int .i64 t104]) (j := 0) hcl12 hcc12 (show 2 ≤ 2 from by decide) (x' := (⟨t100, t104⟩ : STie)) (kTie_mkM _ _ _ (⟨t100, t104⟩ : STie) ) (fun _ hk => hk); have hx12_0 := hcc12 0 _ rfl; (try simp only [show (kTie).sz = 2 from rfl, Nat.mul_one, Nat.add_zero] at hx12_0); have hf12_0 := hfr12 0; (try simp only [show (kTie).sz = 2 from rfl, Nat.mul_one, Nat.add_zero] at hf12_0); have hx12_1 := hcc12 1 _ rfl; (try simp only [show (kTie).sz = 2 from rfl, Nat.mul_one, Nat.add_zero] at hx12_1); have hf12_1 := hfr12 1; (try simp only [show (kTie).sz = 2 from rfl, Nat.mul_one, Nat.add_zero] at hf12_1); clear hcl12 hcc12 hfr12 hM12) | ((with_reducible refine gate_store (t := 32) (p := 21) rfl ?_); refine store_event (t := 32) (p := 21) (v := ?vo_w13) (w1 := ((w11.setCell ⟨go10, (x4_1 : Int).toNat * 2, none⟩ (.int .i64 t100)).setCell ⟨go10, (x4_1 : Int).toNat * 2 + 1, none⟩ (.int .i64 t104))) ?hg ?ho ?hn ?hr ?_; (case ho => rfl); (case hg => rfl); (case hn => rfl); (case hr => first | (go_simp; done) | (go_simp; rfl)); intro w13 hw; have hg : w11.grownBy w13 (some go10) := (by rw [hw]; exact HP12.2); have hp_ : Kd.R kTie 32 w13 w.heap.size (fun _ => True) (.slice (some ⟨go10, 0, none⟩) x3_1.length co10) y105 := (by rw [hw, Ny105.out]; exact HP12.1); clear HP12; replace HO_3 := q0 (hp_); replace HB := q0 ((by rw [hw]; exact below_set (below_set (HB.out) GB10.out) GB10.out : Below w.heap.size w w13)); clear hg hw hp_))
 go_roundg k1
 case measure => have := HK1.out; omega
 case rel => exact ⟨(y105), (wrap64 (x4_1 + 1)), qs, H', ⟨by have := HK1.out; omega⟩, ⟨qr HO_3.out⟩, ⟨qb HB.out⟩⟩

set_option maxHeartbeats 8000000 in
set_option maxRecDepth 100000 in
theorem laws_toNet.calls (k : Nat) (a0_0 : Int) (A0_1 : Option Addr) (c0_1 : Nat) (l0_1 : List (SLTie)) (r1 : Int) (r2 : List (STie)) (w : World) (hr0_1 : Kd.C kLTie w A0_1 l0_1.length l0_1) (hc0_1 : l0_1.length ≤ c0_1) (h : laws_toNet.f k a0_0 l0_1 = some (r1, r2)) :
    Calls Try.prog 28 #[.agg #[.int .i64 a0_0, .slice A0_1 l0_1.length c0_1]] w fun e w' => ∃ v1_ : Value, e = .returned (.agg #[.int .i64 r1, v1_]) ∧ Kd.R kTie 32 w' w.heap.size (fun _ => True) v1_ r2 ∧ Below w.heap.size w w' := by
 have hu42 := Try.underlying42
 have hu25 := Try.underlying25
 have HR0_1 := Aside0.mk hr0_1
 have HC0_1 := Aside0.mk hc0_1
 clear hr0_1 hc0_1
 have HB := q0 (Below.refl w.heap.size w)
 have H : ((laws_toTieS.f k l0_1).bind fun t100 => (some (a0_0, t100))) = some (r1, r2) := h
 clear h
 replace H := Option.bind_eq_some_iff.mp H
 obtain ⟨t100, A20, H⟩ := H
 have A2 := Aside0.mk A20
 clear A20
 simp only [Option.some.injEq, Prod.mk.injEq] at H
 obtain ⟨rfl, rfl⟩ := H
 go_enter Try.func28, Try.ntmps28
 go_wp2_with (first | ((with_reducible refine gate_dst (N := 1) rfl ?_); refine be 1 #[.int .i64 a0_0, .slice A0_1 l0_1.length c0_1] 42 ?_; intro gb101 hg w3 hbox hb; have BK101 := q0 (hbox); have GW101 := q0 ((bs HB.out hg : w.heap.size ≤ gb101)); have GE101 := q0 ((bs HB.out hg : w.heap.size ≤ gb101)); replace HB := q0 (below_step (qb HB.out) hb); clear hb hbox hg) | ((with_reducible refine gate_dst (N := 2) rfl ?_); refine be 2 #[.int .i64 0, .slice none 0 0] 25 ?_; intro gb102 hg w4 hbox hb; have BK102 := q0 (hbox); have GW102 := q0 ((bs HB.out hg : w.heap.size ≤ gb102)); have GE102 := q0 ((bs HB.out hg : w.heap.size ≤ gb102)); replace HB := q0 (below_step (qb HB.out) hb); have NB101_102 := q0 ((bl BK101.out hg : gb101 ≠ gb102)); have NB102_101 := q0 ((bg BK101.out hg : gb102 ≠ gb101)); replace BK101 := q0 (kb BK101.out hb); clear hb hbox hg) | ((with_reducible refine gate_dst (N := 3) rfl ?_); refine be 3 #[.int .i64 0, .slice none 0 0] 25 ?_; intro gb103 hg w5 hbox hb; have BK103 := q0 (hbox); have GW103 := q0 ((bs HB.out hg : w.heap.size ≤ gb103)); have GE103 := q0 ((bs HB.out hg : w.heap.size ≤ gb103)); replace HB := q0 (below_step (qb HB.out) hb); have NB101_103 := q0 ((bl BK101.out hg : gb101 ≠ gb103)); have NB103_101 := q0 ((bg BK101.out hg : gb103 ≠ gb101)); replace BK101 := q0 (kb BK101.out hb); have NB102_103 := q0 ((bl BK102.out hg : gb102 ≠ gb103)); have NB103_102 := q0 ((bg BK102.out hg : gb103 ≠ gb102)); replace BK102 := q0 (kb BK102.out hb); clear hb hbox hg; have hnb6 := NB101_102.out; have hnc6 := NB102_101.out; have hnb7 := NB101_103.out; have hnc7 := NB103_101.out; have hcz8_0 : w5.cell? ⟨gb101, 0, none⟩ = some (.int .i64 a0_0) := (blk_cell BK101.out 0).trans rfl; have hcz8_1 : w5.cell? ⟨gb101, 1, none⟩ = some (.slice A0_1 l0_1.length c0_1) := (blk_cell BK101.out 1).trans rfl; have hfz8_0 := blk_frozen BK101.out 0; have hfz8_1 := blk_frozen BK101.out 1; have hnb9 := NB103_102.out; have hnc9 := NB102_103.out; have hcz10_0 : w5.cell? ⟨gb103, 0, none⟩ = some (.int .i64 0) := (blk_cell BK103.out 0).trans rfl; have hcz10_1 : w5.cell? ⟨gb103, 1, none⟩ = some (.slice none 0 0) := (blk_cell BK103.out 1).trans rfl; have hfz10_0 := blk_frozen BK103.out 0; have hfz10_1 := blk_frozen BK103.out 1) | ((with_reducible refine gate_callee (f := 70) rfl ?_); refine gl 9 Try.func70 #[.slice A0_1 l0_1.length c0_1] ?_; (with_reducible refine (laws_toTieS.calls k _ _ l0_1 t100 _ ?side1 ?side2 A2.out).mono ?_); (case side1 => exact Kd.C_below HR0_1.out (qb HB.out)); (case side2 => exact HC0_1.out); rintro e w11 ⟨v104, rfl, ho0, hb⟩; refine ⟨_, rfl, ?_⟩; have HO105 := q0 (Kd.R_lower ho0 (below_size (qb HB.out))); replace BK101 := q0 (kf BK101.out hb); replace BK102 := q0 (kf BK102.out hb); replace BK103 := q0 (blk_below (g := gb103) (o := .cells #[.int .i64 a0_0, .slice none 0 0] 25 (0, 0)) (by (with_reducible repeat (first | refine blk_drewN ?_ _ | refine blk_drew ?_ | refine blk_alloc ?_ _)); refine blk_put (cs := #[.int .i64 0, .slice none 0 0]) ?_ 0 _ rfl; (with_reducible repeat (first | refine blk_drewN ?_ _ | refine blk_drew ?_ | refine blk_alloc ?_ _)); exact BK103.out) hb); replace HB := q0 (below_step (qb HB.out) hb); (try clear hb); (try clear hb2); (try clear hk); (try clear hi); (try clear ho0); obtain ⟨Ao12, co12, eo12⟩ := Kd.R_slice HO105.out; subst eo12; have hcz13_0 : w11.cell? ⟨gb103, 0, none⟩ = some (.int .i64 a0_0) := (blk_cell BK103.out 0).trans rfl; have hcz13_1 : w11.cell? ⟨gb103, 1, none⟩ = some (.slice none 0 0) := (blk_cell BK103.out 1).trans rfl; have hfz13_0 := blk_frozen BK103.out 0; have hfz13_1 := blk_frozen BK103.out 1; have hcz14_0 : w11.cell? ⟨gb102, 0, none⟩ = some (.int .i64 0) := (blk_cell BK102.out 0).trans rfl; have hcz14_1 : w11.cell? ⟨gb102, 1, none⟩ = some (.slice none 0 0) := (blk_cell BK102.out 1).trans rfl; have hfz14_0 := blk_frozen BK102.out 0; have hfz14_1 := blk_frozen BK102.out 1))
 refine bodyPost_ret (results_cell_row rfl _ _ gb102 25 #[.int .i64 a0_0, .slice Ao12 t100.length co12] (0, 0) _ rfl (by (with_reducible repeat (first | refine blk_drewN ?_ _ | refine blk_drew ?_ | refine blk_alloc ?_ _)); refine blk_put (cs := #[.int .i64 a0_0, .slice none 0 0]) ?_ 1 _ rfl; (with_reducible repeat (first | refine blk_drewN ?_ _ | refine blk_drew ?_ | refine blk_alloc ?_ _)); refine blk_put (cs := #[.int .i64 0, .slice none 0 0]) ?_ 0 _ rfl; (with_reducible repeat (first | refine blk_drewN ?_ _ | refine blk_drew ?_ | refine blk_alloc ?_ _)); refine blk_far ?_ NB102_103.out _; (with_reducible repeat (first | refine blk_drewN ?_ _ | refine blk_drew ?_ | refine blk_alloc ?_ _)); exact BK102.out) Try.underlying25 rfl (by kernel_rfl)) rfl ?_
 exact ⟨_, qe, by (with_reducible repeat (first | apply Kd.R_alloc | apply Kd.R_drewN | apply Kd.R_drew)); exact Kd.R_mono (Kd.R_far (p := ⟨gb102, 1, none⟩) (Kd.R_far (p := ⟨gb102, 0, none⟩) (Kd.R_far (p := ⟨gb103, 1, none⟩) (Kd.R_types (Kd.R_types HO105.out BK103.out (by decide)) BK102.out (by decide)) (fun _ hk => hk.1.2) (.slice Ao12 t100.length co12)) (fun _ hk => hk.2) (.int .i64 a0_0)) (fun _ hk => hk.2) (.slice Ao12 t100.length co12)) (fun _ hk => trivial), qb HB.out⟩

set_option maxHeartbeats 8000000 in
set_option maxRecDepth 100000 in
theorem laws_eqTie.calls (a0_0 : Int) (a0_1 : Int) (a1_0 : Int) (a1_1 : Int) (r : Bool) (w : World) (h : laws_eqTie.f a0_0 a0_1 a1_0 a1_1 = some r) :
    Calls Try.prog 101 #[.agg #[.int .i64 a0_0, .int .i64 a0_1], .agg #[.int .i64 a1_0, .int .i64 a1_1]] w fun e w' => e = .returned (.bool r) ∧ Below w.heap.size w w' := by
 have hu32 := Try.underlying32
 have HB := q0 (Below.refl w.heap.size w)
 have H : (if a0_0 = a1_0 then (if a0_1 = a1_1 then (some true) else (some false)) else (some false)) = some r := h
 clear h
 by_cases c3 : a0_0 = a1_0
 rotate_left
 · rw [if_neg c3] at H
   have c3b0 : (a0_0 == a1_0) = false := beq_eq_false_iff_ne.mpr c3
   have c3b1 : (a0_0 != a1_0) = true := bne_iff_ne.mpr c3
   obtain rfl := Option.some.inj H
   go_enter Try.func101, Try.ntmps101
   go_wp2_with (first | ((with_reducible refine gate_dst (N := 2) rfl ?_); refine be 2 #[.int .i64 a0_0, .int .i64 a0_1] 32 ?_; intro gb100 hg w15 hbox hb; have BK100 := q0 (hbox); have GW100 := q0 ((bs HB.out hg : w.heap.size ≤ gb100)); have GE100 := q0 ((bs HB.out hg : w.heap.size ≤ gb100)); replace HB := q0 (below_step (qb HB.out) hb); clear hb hbox hg) | ((with_reducible refine gate_dst (N := 3) rfl ?_); refine be 3 #[.int .i64 a1_0, .int .i64 a1_1] 32 ?_; intro gb101 hg w16 hbox hb; have BK101 := q0 (hbox); have GW101 := q0 ((bs HB.out hg : w.heap.size ≤ gb101)); have GE101 := q0 ((bs HB.out hg : w.heap.size ≤ gb101)); replace HB := q0 (below_step (qb HB.out) hb); have NB100_101 := q0 ((bl BK100.out hg : gb100 ≠ gb101)); have NB101_100 := q0 ((bg BK100.out hg : gb101 ≠ gb100)); replace BK100 := q0 (kb BK100.out hb); clear hb hbox hg; have hnb17 := NB100_101.out; have hnc17 := NB101_100.out; have hcz18_0 : w16.cell? ⟨gb100, 0, none⟩ = some (.int .i64 a0_0) := (blk_cell BK100.out 0).trans rfl; have hcz18_1 : w16.cell? ⟨gb100, 1, none⟩ = some (.int .i64 a0_1) := (blk_cell BK100.out 1).trans rfl; have hfz18_0 := blk_frozen BK100.out 0; have hfz18_1 := blk_frozen BK100.out 1; have hcz19_0 : w16.cell? ⟨gb101, 0, none⟩ = some (.int .i64 a1_0) := (blk_cell BK101.out 0).trans rfl; have hcz19_1 : w16.cell? ⟨gb101, 1, none⟩ = some (.int .i64 a1_1) := (blk_cell BK101.out 1).trans rfl; have hfz19_0 := blk_frozen BK101.out 0; have hfz19_1 := blk_frozen BK101.out 1))
   go_ret
   exact ⟨qe, qb HB.out⟩
 rw [if_pos c3] at H
 have c3b0 : (a0_0 == a1_0) = true := beq_iff_eq.mpr c3
 have c3b1 : (a0_0 != a1_0) = false := bne_eq_false_iff_eq.mpr c3
 clear c3
 by_cases c4 : a0_1 = a1_1
 rotate_left
 · rw [if_neg c4] at H
   have c4b0 : (a0_1 == a1_1) = false := beq_eq_false_iff_ne.mpr c4
   have c4b1 : (a0_1 != a1_1) = true := bne_iff_ne.mpr c4
   obtain rfl := Option.some.inj H
   go_enter Try.func101, Try.ntmps101
   go_wp2_with (first | ((with_reducible refine gate_dst (N := 2) rfl ?_); refine be 2 #[.int .i64 a0_0, .int .i64 a0_1] 32 ?_; intro gb100 hg w10 hbox hb; have BK100 := q0 (hbox); have GW100 := q0 ((bs HB.out hg : w.heap.size ≤ gb100)); have GE100 := q0 ((bs HB.out hg : w.heap.size ≤ gb100)); replace HB := q0 (below_step (qb HB.out) hb); clear hb hbox hg) | ((with_reducible refine gate_dst (N := 3) rfl ?_); refine be 3 #[.int .i64 a1_0, .int .i64 a1_1] 32 ?_; intro gb101 hg w11 hbox hb; have BK101 := q0 (hbox); have GW101 := q0 ((bs HB.out hg : w.heap.size ≤ gb101)); have GE101 := q0 ((bs HB.out hg : w.heap.size ≤ gb101)); replace HB := q0 (below_step (qb HB.out) hb); have NB100_101 := q0 ((bl BK100.out hg : gb100 ≠ gb101)); have NB101_100 := q0 ((bg BK100.out hg : gb101 ≠ gb100)); replace BK100 := q0 (kb BK100.out hb); clear hb hbox hg; have hnb12 := NB100_101.out; have hnc12 := NB101_100.out; have hcz13_0 : w11.cell? ⟨gb100, 0, none⟩ = some (.int .i64 a0_0) := (blk_cell BK100.out 0).trans rfl; have hcz13_1 : w11.cell? ⟨gb100, 1, none⟩ = some (.int .i64 a0_1) := (blk_cell BK100.out 1).trans rfl; have hfz13_0 := blk_frozen BK100.out 0; have hfz13_1 := blk_frozen BK100.out 1; have hcz14_0 : w11.cell? ⟨gb101, 0, none⟩ = some (.int .i64 a1_0) := (blk_cell BK101.out 0).trans rfl; have hcz14_1 : w11.cell? ⟨gb101, 1, none⟩ = some (.int .i64 a1_1) := (blk_cell BK101.out 1).trans rfl; have hfz14_0 := blk_frozen BK101.out 0; have hfz14_1 := blk_frozen BK101.out 1))
   go_ret
   exact ⟨qe, qb HB.out⟩
 rw [if_pos c4] at H
 have c4b0 : (a0_1 == a1_1) = true := beq_iff_eq.mpr c4
 have c4b1 : (a0_1 != a1_1) = false := bne_eq_false_iff_eq.mpr c4
 clear c4
 obtain rfl := Option.some.inj H
 go_enter Try.func101, Try.ntmps101
 go_wp2_with (first | ((with_reducible refine gate_dst (N := 2) rfl ?_); refine be 2 #[.int .i64 a0_0, .int .i64 a0_1] 32 ?_; intro gb100 hg w5 hbox hb; have BK100 := q0 (hbox); have GW100 := q0 ((bs HB.out hg : w.heap.size ≤ gb100)); have GE100 := q0 ((bs HB.out hg : w.heap.size ≤ gb100)); replace HB := q0 (below_step (qb HB.out) hb); clear hb hbox hg) | ((with_reducible refine gate_dst (N := 3) rfl ?_); refine be 3 #[.int .i64 a1_0, .int .i64 a1_1] 32 ?_; intro gb101 hg w6 hbox hb; have BK101 := q0 (hbox); have GW101 := q0 ((bs HB.out hg : w.heap.size ≤ gb101)); have GE101 := q0 ((bs HB.out hg : w.heap.size ≤ gb101)); replace HB := q0 (below_step (qb HB.out) hb); have NB100_101 := q0 ((bl BK100.out hg : gb100 ≠ gb101)); have NB101_100 := q0 ((bg BK100.out hg : gb101 ≠ gb100)); replace BK100 := q0 (kb BK100.out hb); clear hb hbox hg; have hnb7 := NB100_101.out; have hnc7 := NB101_100.out; have hcz8_0 : w6.cell? ⟨gb100, 0, none⟩ = some (.int .i64 a0_0) := (blk_cell BK100.out 0).trans rfl; have hcz8_1 : w6.cell? ⟨gb100, 1, none⟩ = some (.int .i64 a0_1) := (blk_cell BK100.out 1).trans rfl; have hfz8_0 := blk_frozen BK100.out 0; have hfz8_1 := blk_frozen BK100.out 1; have hcz9_0 : w6.cell? ⟨gb101, 0, none⟩ = some (.int .i64 a1_0) := (blk_cell BK101.out 0).trans rfl; have hcz9_1 : w6.cell? ⟨gb101, 1, none⟩ = some (.int .i64 a1_1) := (blk_cell BK101.out 1).trans rfl; have hfz9_0 := blk_frozen BK101.out 0; have hfz9_1 := blk_frozen BK101.out 1))
 go_ret
 exact ⟨qe, qb HB.out⟩

def laws_eqTieS.T6 : Bool × List (List Nat × List Nat) := (true, [([], []), ([], []), ([0, 1], [0, 1]), ([2], [2]), ([], []), ([], []), ([4, 5], [4, 5]), ([6], [6]), ([3, 7], [3, 7]), ([8], [8])])
def laws_eqTieS.B6 : List Nat := [0, 0, 3, 7, 0, 0, 48, 112, 255, 511]
theorem laws_eqTieS.tab6 : rtab .any (opsOf Try.f74 6) = laws_eqTieS.T6 := by kernel_rfl
theorem laws_eqTieS.bits6 : waitsOk laws_eqTieS.T6.2 laws_eqTieS.B6 = true := by kernel_rfl
set_option maxHeartbeats 8000000 in
set_option maxRecDepth 100000 in
theorem laws_eqTieS.calls (k : Nat) (A0 : Option Addr) (c0 : Nat) (l0 : List (STie)) (A1 : Option Addr) (c1 : Nat) (l1 : List (STie)) (r : Bool) (w : World) (hr0 : Kd.C kTie w A0 l0.length l0) (hc0 : l0.length ≤ c0) (hr1 : Kd.C kTie w A1 l1.length l1) (hc1 : l1.length ≤ c1) (h : laws_eqTieS.f k l0 l1 = some r) :
    Calls Try.prog 74 #[.slice A0 l0.length c0, .slice A1 l1.length c1] w fun e w' => e = .returned (.bool r) ∧ Below w.heap.size w w' := by
 have hu32 := Try.underlying32
 have HR0 := Aside0.mk hr0
 have HC0 := Aside0.mk hc0
 clear hr0 hc0
 have HR1 := Aside0.mk hr1
 have HC1 := Aside0.mk hc1
 clear hr1 hc1
 have HB := q0 (Below.refl w.heap.size w)
 have H : (if (l0.length : Int) = (l1.length : Int) then (laws_eqTieS.l0 k l0 l1 0) else (some false)) = some r := h
 clear h
 by_cases c3 : (l0.length : Int) = (l1.length : Int)
 rotate_left
 · rw [if_neg c3] at H
   have c3b0 : ((l0.length : Int) == (l1.length : Int)) = false := beq_eq_false_iff_ne.mpr c3
   have c3b1 : ((l0.length : Int) != (l1.length : Int)) = true := bne_iff_ne.mpr c3
   have c3b2 : (l0.length == l1.length) = false := by first | simpa using c3 | (simp at c3 ⊢; omega)
   obtain rfl := Option.some.inj H
   go_enter Try.func74, Try.ntmps74
   go_wp2
   go_ret
   exact ⟨qe, qb HB.out⟩
 rw [if_pos c3] at H
 have c3b0 : ((l0.length : Int) == (l1.length : Int)) = true := beq_iff_eq.mpr c3
 have c3b1 : ((l0.length : Int) != (l1.length : Int)) = false := bne_eq_false_iff_eq.mpr c3
 have c3b2 : (l0.length == l1.length) = true := by first | simpa using c3 | (simp at c3 ⊢; omega)
 clear c3
 have H' := Aside0.mk H
 clear H
 go_enter Try.func74, Try.ntmps74
 go_wp2
 go_loopg [5] k (fun kq v5 w' => ∃ (x5_1 : Int), v5 = .int .i64 x5_1 ∧ Aside0 (laws_eqTieS.l0 kq l0 l1 x5_1 = some r) ∧ Aside0 (kq ≤ k) ∧ Aside0 (Below w.heap.size w w'))
 case atStart => exact ⟨(0), qs, H', ⟨Nat.le_refl _⟩, ⟨qb HB.out⟩⟩
 clear H'
 try clear c1
 try clear p2
 try clear c3
 try clear c3b0
 try clear c3b1
 try clear c3b2
 obtain ⟨x5_1, rfl, HA, HK1, HB⟩ := hrel
 rcases gk with _ | k1
 · exact absurd HA.out (by simp [laws_eqTieS.l0])
 have H := HA.out
 clear HA
 simp only [laws_eqTieS.l0] at H
 by_cases c4 : x5_1 < (l0.length : Int)
 rotate_left
 · rw [if_neg c4] at H
   have c4b0 : decide (x5_1 < (l0.length : Int)) = false := decide_eq_false c4
   clear c4
   obtain rfl := Option.some.inj H
   go_wp2
   go_ret
   exact ⟨qe, qb HB.out⟩
 rw [if_pos c4] at H
 have c4b0 : decide (x5_1 < (l0.length : Int)) = true := decide_eq_true c4
 clear c4
 by_cases c5 : 0 ≤ x5_1
 rotate_left
 · rw [if_neg c5] at H
   exact absurd H (by simp)
 rw [if_pos c5] at H
 have c5b0 : decide (0 ≤ x5_1) = true := decide_eq_true c5
 clear c5
 by_cases c6 : x5_1 < (l1.length : Int)
 rotate_left
 · rw [if_neg c6] at H
   exact absurd H (by simp)
 rw [if_pos c6] at H
 have c6b0 : decide (x5_1 < (l1.length : Int)) = true := decide_eq_true c6
 clear c6
 replace H := Option.bind_eq_some_iff.mp H
 obtain ⟨t100, A70, H⟩ := H
 have A7 := Aside0.mk A70
 clear A70
 by_cases c8 : t100 = true
 rotate_left
 · replace c8 := Bool.eq_false_iff.mpr c8
   subst c8
   rw [if_neg nf] at H
   obtain rfl := Option.some.inj H
   try go_wp2
   replace HB := q0 (below_drew1 HB.out)
   have p101 : 0 ≤ (x5_1 : Int) := of_decide_eq_true qa
   have q101 : x5_1 < (l0.length : Int) := of_decide_eq_true qa
   obtain ⟨ad101, e101, hx101_0, hx101_1⟩ := at_TTie HR0.out x5_1 p101 q101
   have hw101_1 := hx101_1
   have hw101_0 := hx101_0
   cases e101
   replace hx101_0 := (HB.out.cell (World.block_lt_of_cell? w _ hx101_0)).trans hx101_0
   replace hx101_1 := (HB.out.cell (World.block_lt_of_cell? w _ hx101_1)).trans hx101_1
   replace p101 := eq_true p101
   replace q101 := eq_true q101
   have p102 : 0 ≤ (x5_1 : Int) := of_decide_eq_true qa
   have q102 : x5_1 < (l1.length : Int) := of_decide_eq_true qa
   obtain ⟨ad102, e102, hx102_0, hx102_1⟩ := at_TTie HR1.out x5_1 p102 q102
   have hw102_1 := hx102_1
   have hw102_0 := hx102_0
   cases e102
   replace hx102_0 := (HB.out.cell (World.block_lt_of_cell? w _ hx102_0)).trans hx102_0
   replace hx102_1 := (HB.out.cell (World.block_lt_of_cell? w _ hx102_1)).trans hx102_1
   replace p102 := eq_true p102
   replace q102 := eq_true q102
   refine start_ (n := 10) (S := fun w' => w'.cell? (ad101.add ((x5_1).toNat * 2)) = some (.int .i64 ((rd_TTie l0 x5_1).f0)) ∧ w'.cell? ⟨(ad101.add ((x5_1).toNat * 2)).block, (ad101.add ((x5_1).toNat * 2)).off + 1, none⟩ = some (.int .i64 ((rd_TTie l0 x5_1).f1)) ∧ w'.cell? (ad102.add ((x5_1).toNat * 2)) = some (.int .i64 ((rd_TTie l1 x5_1).f0)) ∧ w'.cell? ⟨(ad102.add ((x5_1).toNat * 2)).block, (ad102.add ((x5_1).toNat * 2)).off + 1, none⟩ = some (.int .i64 ((rd_TTie l1 x5_1).f1))) (ds := []) (ba 10 0) (by kernel_rfl) rfl (by kernel_rfl) ⟨((HB.out.cell (World.block_lt_of_cell? w _ hw101_0)).trans hw101_0), ((HB.out.cell (World.block_lt_of_cell? w _ hw101_1)).trans hw101_1), ((HB.out.cell (World.block_lt_of_cell? w _ hw102_0)).trans hw102_0), ((HB.out.cell (World.block_lt_of_cell? w _ hw102_1)).trans hw102_1)⟩ (fun hHeld => ?_); refine with_tabW laws_eqTieS.tab6 laws_eqTieS.bits6 (fun HT_ HW_ => ?_)
   generalize wr.drew = w11 at HB hx101_0 hx101_1 hx102_0 hx102_1 hHeld ⊢
   refine pu 0 (some 17) (ba 10 1) HT_.out ?_
   refine pu 1 (some 18) (ba 10 3) HT_.out ?_
   refine pu 2 (some 19) (ba 10 7) HT_.out ?_
   refine pu 4 (some 21) (ba 10 23) HT_.out ?_
   refine pu 5 (some 22) (ba 10 55) HT_.out ?_
   refine pu 6 (some 23) (ba 10 119) HT_.out ?_
   refine tu 3 (some 20) (ba 10 127) HT_.out HW_.out hHeld ?_
   refine tu 7 (some 24) (ba 10 255) HT_.out HW_.out hHeld ?_
   refine one_ (i := 8) (N := some 25) (ba 10 511) rfl rfl (one_of HT_.out (by kernel_rfl)) (by decide) (fun K hK => ?_)
   refine goes_ Try.func101 (by kernel_rfl) rfl #[.agg #[.int .i64 ((rd_TTie l0 x5_1).f0), .int .i64 ((rd_TTie l0 x5_1).f1)], .agg #[.int .i64 ((rd_TTie l1 x5_1).f0), .int .i64 ((rd_TTie l1 x5_1).f1)]] (by rfl) rfl rfl qm ?_
   with_reducible refine (laws_eqTie.calls ((rd_TTie l0 x5_1).f0) ((rd_TTie l0 x5_1).f1) ((rd_TTie l1 x5_1).f0) ((rd_TTie l1 x5_1).f1) false _ A7.out).mono ?_
   rintro e w12 ⟨rfl, hb⟩
   refine ⟨_, rfl, ?_⟩
   replace HB := q0 (below_step (qb HB.out) hb)
   (try clear hb)
   (try clear hb2)
   (try clear hk)
   (try clear hi)
   refine hK.out _ _ ⟨((HB.out.cell (World.block_lt_of_cell? w _ hw101_0)).trans hw101_0), ((HB.out.cell (World.block_lt_of_cell? w _ hw101_1)).trans hw101_1), ((HB.out.cell (World.block_lt_of_cell? w _ hw102_0)).trans hw102_0), ((HB.out.cell (World.block_lt_of_cell? w _ hw102_1)).trans hw102_1)⟩ (fun hHeld => ?_)
   clear hK K
   refine nu 25 ?_
   refine pu 9 (some 26) (ba 10 1023) HT_.out ?_
   refine done_ (done_of HT_.out (by kernel_rfl)) ?_
   try go_wp2
   go_ret
   exact ⟨qe, qb HB.out⟩
 subst c8
 rw [if_pos rfl] at H
 have H' := Aside0.mk H
 clear H
 try go_wp2
 replace HB := q0 (below_drew1 HB.out)
 have p101 : 0 ≤ (x5_1 : Int) := of_decide_eq_true qa
 have q101 : x5_1 < (l0.length : Int) := of_decide_eq_true qa
 obtain ⟨ad101, e101, hx101_0, hx101_1⟩ := at_TTie HR0.out x5_1 p101 q101
 have hw101_1 := hx101_1
 have hw101_0 := hx101_0
 cases e101
 replace hx101_0 := (HB.out.cell (World.block_lt_of_cell? w _ hx101_0)).trans hx101_0
 replace hx101_1 := (HB.out.cell (World.block_lt_of_cell? w _ hx101_1)).trans hx101_1
 replace p101 := eq_true p101
 replace q101 := eq_true q101
 have p102 : 0 ≤ (x5_1 : Int) := of_decide_eq_true qa
 have q102 : x5_1 < (l1.length : Int) := of_decide_eq_true qa
 obtain ⟨ad102, e102, hx102_0, hx102_1⟩ := at_TTie HR1.out x5_1 p102 q102
 have hw102_1 := hx102_1
 have hw102_0 := hx102_0
 cases e102
 replace hx102_0 := (HB.out.cell (World.block_lt_of_cell? w _ hx102_0)).trans hx102_0
 replace hx102_1 := (HB.out.cell (World.block_lt_of_cell? w _ hx102_1)).trans hx102_1
 replace p102 := eq_true p102
 replace q102 := eq_true q102
 refine start_ (n := 10) (S := fun w' => w'.cell? (ad101.add ((x5_1).toNat * 2)) = some (.int .i64 ((rd_TTie l0 x5_1).f0)) ∧ w'.cell? ⟨(ad101.add ((x5_1).toNat * 2)).block, (ad101.add ((x5_1).toNat * 2)).off + 1, none⟩ = some (.int .i64 ((rd_TTie l0 x5_1).f1)) ∧ w'.cell? (ad102.add ((x5_1).toNat * 2)) = some (.int .i64 ((rd_TTie l1 x5_1).f0)) ∧ w'.cell? ⟨(ad102.add ((x5_1).toNat * 2)).block, (ad102.add ((x5_1).toNat * 2)).off + 1, none⟩ = some (.int .i64 ((rd_TTie l1 x5_1).f1))) (ds := []) (ba 10 0) (by kernel_rfl) rfl (by kernel_rfl) ⟨((HB.out.cell (World.block_lt_of_cell? w _ hw101_0)).trans hw101_0), ((HB.out.cell (World.block_lt_of_cell? w _ hw101_1)).trans hw101_1), ((HB.out.cell (World.block_lt_of_cell? w _ hw102_0)).trans hw102_0), ((HB.out.cell (World.block_lt_of_cell? w _ hw102_1)).trans hw102_1)⟩ (fun hHeld => ?_); refine with_tabW laws_eqTieS.tab6 laws_eqTieS.bits6 (fun HT_ HW_ => ?_)
 generalize wr.drew = w9 at HB hx101_0 hx101_1 hx102_0 hx102_1 hHeld ⊢
 refine pu 0 (some 17) (ba 10 1) HT_.out ?_
 refine pu 1 (some 18) (ba 10 3) HT_.out ?_
 refine pu 2 (some 19) (ba 10 7) HT_.out ?_
 refine pu 4 (some 21) (ba 10 23) HT_.out ?_
 refine pu 5 (some 22) (ba 10 55) HT_.out ?_
 refine pu 6 (some 23) (ba 10 119) HT_.out ?_
 refine tu 3 (some 20) (ba 10 127) HT_.out HW_.out hHeld ?_
 refine tu 7 (some 24) (ba 10 255) HT_.out HW_.out hHeld ?_
 refine one_ (i := 8) (N := some 25) (ba 10 511) rfl rfl (one_of HT_.out (by kernel_rfl)) (by decide) (fun K hK => ?_)
 refine goes_ Try.func101 (by kernel_rfl) rfl #[.agg #[.int .i64 ((rd_TTie l0 x5_1).f0), .int .i64 ((rd_TTie l0 x5_1).f1)], .agg #[.int .i64 ((rd_TTie l1 x5_1).f0), .int .i64 ((rd_TTie l1 x5_1).f1)]] (by rfl) rfl rfl qm ?_
 with_reducible refine (laws_eqTie.calls ((rd_TTie l0 x5_1).f0) ((rd_TTie l0 x5_1).f1) ((rd_TTie l1 x5_1).f0) ((rd_TTie l1 x5_1).f1) true _ A7.out).mono ?_
 rintro e w10 ⟨rfl, hb⟩
 refine ⟨_, rfl, ?_⟩
 replace HB := q0 (below_step (qb HB.out) hb)
 (try clear hb)
 (try clear hb2)
 (try clear hk)
 (try clear hi)
 refine hK.out _ _ ⟨((HB.out.cell (World.block_lt_of_cell? w _ hw101_0)).trans hw101_0), ((HB.out.cell (World.block_lt_of_cell? w _ hw101_1)).trans hw101_1), ((HB.out.cell (World.block_lt_of_cell? w _ hw102_0)).trans hw102_0), ((HB.out.cell (World.block_lt_of_cell? w _ hw102_1)).trans hw102_1)⟩ (fun hHeld => ?_)
 clear hK K
 refine nu 25 ?_
 refine pu 9 (some 26) (ba 10 1023) HT_.out ?_
 refine done_ (done_of HT_.out (by kernel_rfl)) ?_
 try go_wp2
 go_roundg k1
 case measure => have := HK1.out; omega
 case rel => exact ⟨(wrap64 (x5_1 + 1)), qs, H', ⟨by have := HK1.out; omega⟩, ⟨qb HB.out⟩⟩

set_option maxHeartbeats 8000000 in
set_option maxRecDepth 100000 in
theorem laws_eqNet.calls (k : Nat) (a0_0 : Int) (A0_1 : Option Addr) (c0_1 : Nat) (l0_1 : List (STie)) (a1_0 : Int) (A1_1 : Option Addr) (c1_1 : Nat) (l1_1 : List (STie)) (r : Bool) (w : World) (hr0_1 : Kd.C kTie w A0_1 l0_1.length l0_1) (hc0_1 : l0_1.length ≤ c0_1) (hr1_1 : Kd.C kTie w A1_1 l1_1.length l1_1) (hc1_1 : l1_1.length ≤ c1_1) (h : laws_eqNet.f k a0_0 l0_1 a1_0 l1_1 = some r) :
    Calls Try.prog 30 #[.agg #[.int .i64 a0_0, .slice A0_1 l0_1.length c0_1], .agg #[.int .i64 a1_0, .slice A1_1 l1_1.length c1_1]] w fun e w' => e = .returned (.bool r) ∧ Below w.heap.size w w' := by
 have hu25 := Try.underlying25
 have HR0_1 := Aside0.mk hr0_1
 have HC0_1 := Aside0.mk hc0_1
 clear hr0_1 hc0_1
 have HR1_1 := Aside0.mk hr1_1
 have HC1_1 := Aside0.mk hc1_1
 clear hr1_1 hc1_1
 have HB := q0 (Below.refl w.heap.size w)
 have H : (if a0_0 = a1_0 then ((laws_eqTieS.f k l0_1 l1_1).bind fun t100 => (if t100 = true then (some true) else (some false))) else (some false)) = some r := h
 clear h
 by_cases c3 : a0_0 = a1_0
 rotate_left
 · rw [if_neg c3] at H
   have c3b0 : (a0_0 == a1_0) = false := beq_eq_false_iff_ne.mpr c3
   have c3b1 : (a0_0 != a1_0) = true := bne_iff_ne.mpr c3
   obtain rfl := Option.some.inj H
   go_enter Try.func30, Try.ntmps30
   go_wp2_with (first | ((with_reducible refine gate_dst (N := 2) rfl ?_); refine be 2 #[.int .i64 a0_0, .slice A0_1 l0_1.length c0_1] 25 ?_; intro gb101 hg w18 hbox hb; have BK101 := q0 (hbox); have GW101 := q0 ((bs HB.out hg : w.heap.size ≤ gb101)); have GE101 := q0 ((bs HB.out hg : w.heap.size ≤ gb101)); replace HB := q0 (below_step (qb HB.out) hb); clear hb hbox hg) | ((with_reducible refine gate_dst (N := 3) rfl ?_); refine be 3 #[.int .i64 a1_0, .slice A1_1 l1_1.length c1_1] 25 ?_; intro gb102 hg w19 hbox hb; have BK102 := q0 (hbox); have GW102 := q0 ((bs HB.out hg : w.heap.size ≤ gb102)); have GE102 := q0 ((bs HB.out hg : w.heap.size ≤ gb102)); replace HB := q0 (below_step (qb HB.out) hb); have NB101_102 := q0 ((bl BK101.out hg : gb101 ≠ gb102)); have NB102_101 := q0 ((bg BK101.out hg : gb102 ≠ gb101)); replace BK101 := q0 (kb BK101.out hb); clear hb hbox hg; have hnb20 := NB101_102.out; have hnc20 := NB102_101.out; have hcz21_0 : w19.cell? ⟨gb101, 0, none⟩ = some (.int .i64 a0_0) := (blk_cell BK101.out 0).trans rfl; have hcz21_1 : w19.cell? ⟨gb101, 1, none⟩ = some (.slice A0_1 l0_1.length c0_1) := (blk_cell BK101.out 1).trans rfl; have hfz21_0 := blk_frozen BK101.out 0; have hfz21_1 := blk_frozen BK101.out 1; have hcz22_0 : w19.cell? ⟨gb102, 0, none⟩ = some (.int .i64 a1_0) := (blk_cell BK102.out 0).trans rfl; have hcz22_1 : w19.cell? ⟨gb102, 1, none⟩ = some (.slice A1_1 l1_1.length c1_1) := (blk_cell BK102.out 1).trans rfl; have hfz22_0 := blk_frozen BK102.out 0; have hfz22_1 := blk_frozen BK102.out 1))
   go_ret
   exact ⟨qe, qb HB.out⟩
 rw [if_pos c3] at H
 have c3b0 : (a0_0 == a1_0) = true := beq_iff_eq.mpr c3
 have c3b1 : (a0_0 != a1_0) = false := bne_eq_false_iff_eq.mpr c3
 clear c3
 replace H := Option.bind_eq_some_iff.mp H
 obtain ⟨t100, A40, H⟩ := H
 have A4 := Aside0.mk A40
 clear A40
 by_cases c5 : t100 = true
 · subst c5
   rw [if_pos rfl] at H
   obtain rfl := Option.some.inj H
   go_enter Try.func30, Try.ntmps30
   go_wp2_with (first | ((with_reducible refine gate_dst (N := 2) rfl ?_); refine be 2 #[.int .i64 a0_0, .slice A0_1 l0_1.length c0_1] 25 ?_; intro gb101 hg w6 hbox hb; have BK101 := q0 (hbox); have GW101 := q0 ((bs HB.out hg : w.heap.size ≤ gb101)); have GE101 := q0 ((bs HB.out hg : w.heap.size ≤ gb101)); replace HB := q0 (below_step (qb HB.out) hb); clear hb hbox hg) | ((with_reducible refine gate_dst (N := 3) rfl ?_); refine be 3 #[.int .i64 a1_0, .slice A1_1 l1_1.length c1_1] 25 ?_; intro gb102 hg w7 hbox hb; have BK102 := q0 (hbox); have GW102 := q0 ((bs HB.out hg : w.heap.size ≤ gb102)); have GE102 := q0 ((bs HB.out hg : w.heap.size ≤ gb102)); replace HB := q0 (below_step (qb HB.out) hb); have NB101_102 := q0 ((bl BK101.out hg : gb101 ≠ gb102)); have NB102_101 := q0 ((bg BK101.out hg : gb102 ≠ gb101)); replace BK101 := q0 (kb BK101.out hb); clear hb hbox hg; have hnb8 := NB101_102.out; have hnc8 := NB102_101.out; have hcz9_0 : w7.cell? ⟨gb101, 0, none⟩ = some (.int .i64 a0_0) := (blk_cell BK101.out 0).trans rfl; have hcz9_1 : w7.cell? ⟨gb101, 1, none⟩ = some (.slice A0_1 l0_1.length c0_1) := (blk_cell BK101.out 1).trans rfl; have hfz9_0 := blk_frozen BK101.out 0; have hfz9_1 := blk_frozen BK101.out 1; have hcz10_0 : w7.cell? ⟨gb102, 0, none⟩ = some (.int .i64 a1_0) := (blk_cell BK102.out 0).trans rfl; have hcz10_1 : w7.cell? ⟨gb102, 1, none⟩ = some (.slice A1_1 l1_1.length c1_1) := (blk_cell BK102.out 1).trans rfl; have hfz10_0 := blk_frozen BK102.out 0; have hfz10_1 := blk_frozen BK102.out 1) | ((with_reducible refine gate_callee (f := 74) rfl ?_); refine gl 14 Try.func74 #[.slice A0_1 l0_1.length c0_1, .slice A1_1 l1_1.length c1_1] ?_; (with_reducible refine (laws_eqTieS.calls k _ _ l0_1 _ _ l1_1 true _ ?side1 ?side2 ?side3 ?side4 A4.out).mono ?_); (case side1 => exact qc (Kd.C_below HR0_1.out HB.out)); (case side2 => exact HC0_1.out); (case side3 => exact qc (Kd.C_below HR1_1.out HB.out)); (case side4 => exact HC1_1.out); rintro e w11 ⟨rfl, hb⟩; refine ⟨_, rfl, ?_⟩; replace BK101 := q0 (kb BK101.out hb); replace BK102 := q0 (kb BK102.out hb); replace HB := q0 (below_step (qb HB.out) hb); (try clear hb); (try clear hb2); (try clear hk); (try clear hi)))
   go_ret
   exact ⟨qe, qb HB.out⟩
 replace c5 := Bool.eq_false_iff.mpr c5
 subst c5
 rw [if_neg nf] at H
 obtain rfl := Option.some.inj H
 go_enter Try.func30, Try.ntmps30
 go_wp2_with (first | ((with_reducible refine gate_dst (N := 2) rfl ?_); refine be 2 #[.int .i64 a0_0, .slice A0_1 l0_1.length c0_1] 25 ?_; intro gb101 hg w12 hbox hb; have BK101 := q0 (hbox); have GW101 := q0 ((bs HB.out hg : w.heap.size ≤ gb101)); have GE101 := q0 ((bs HB.out hg : w.heap.size ≤ gb101)); replace HB := q0 (below_step (qb HB.out) hb); clear hb hbox hg) | ((with_reducible refine gate_dst (N := 3) rfl ?_); refine be 3 #[.int .i64 a1_0, .slice A1_1 l1_1.length c1_1] 25 ?_; intro gb102 hg w13 hbox hb; have BK102 := q0 (hbox); have GW102 := q0 ((bs HB.out hg : w.heap.size ≤ gb102)); have GE102 := q0 ((bs HB.out hg : w.heap.size ≤ gb102)); replace HB := q0 (below_step (qb HB.out) hb); have NB101_102 := q0 ((bl BK101.out hg : gb101 ≠ gb102)); have NB102_101 := q0 ((bg BK101.out hg : gb102 ≠ gb101)); replace BK101 := q0 (kb BK101.out hb); clear hb hbox hg; have hnb14 := NB101_102.out; have hnc14 := NB102_101.out; have hcz15_0 : w13.cell? ⟨gb101, 0, none⟩ = some (.int .i64 a0_0) := (blk_cell BK101.out 0).trans rfl; have hcz15_1 : w13.cell? ⟨gb101, 1, none⟩ = some (.slice A0_1 l0_1.length c0_1) := (blk_cell BK101.out 1).trans rfl; have hfz15_0 := blk_frozen BK101.out 0; have hfz15_1 := blk_frozen BK101.out 1; have hcz16_0 : w13.cell? ⟨gb102, 0, none⟩ = some (.int .i64 a1_0) := (blk_cell BK102.out 0).trans rfl; have hcz16_1 : w13.cell? ⟨gb102, 1, none⟩ = some (.slice A1_1 l1_1.length c1_1) := (blk_cell BK102.out 1).trans rfl; have hfz16_0 := blk_frozen BK102.out 0; have hfz16_1 := blk_frozen BK102.out 1) | ((with_reducible refine gate_callee (f := 74) rfl ?_); refine gl 14 Try.func74 #[.slice A0_1 l0_1.length c0_1, .slice A1_1 l1_1.length c1_1] ?_; (with_reducible refine (laws_eqTieS.calls k _ _ l0_1 _ _ l1_1 false _ ?side1 ?side2 ?side3 ?side4 A4.out).mono ?_); (case side1 => exact qc (Kd.C_below HR0_1.out HB.out)); (case side2 => exact HC0_1.out); (case side3 => exact qc (Kd.C_below HR1_1.out HB.out)); (case side4 => exact HC1_1.out); rintro e w17 ⟨rfl, hb⟩; refine ⟨_, rfl, ?_⟩; replace BK101 := q0 (kb BK101.out hb); replace BK102 := q0 (kb BK102.out hb); replace HB := q0 (below_step (qb HB.out) hb); (try clear hb); (try clear hb2); (try clear hk); (try clear hi)))
 go_ret
 exact ⟨qe, qb HB.out⟩

set_option maxHeartbeats 8000000 in
set_option maxRecDepth 100000 in
theorem laws_markTieS.calls (k : Nat) (P0_ : Nat → Prop) (u101_ : Value) (l0 : List (STie)) (a1 : Int) (r1 : Int) (r2 : List (STie)) (w0 w : World) (hB : Below w0.heap.size w0 w) (ho0 : Kd.R kTie 32 w w0.heap.size P0_ u101_ l0) (h : laws_markTieS.f k l0 a1 = some (r1, r2)) :
    Calls Try.prog 75 #[u101_, .int .i64 a1] w fun e w' => e = .returned (.int .i64 r1) ∧ Kd.R kTie 32 w' w0.heap.size (fun k_ => (P0_ k_ ∨ w.heap.size ≤ k_)) u101_ r2 ∧ Below w0.heap.size w0 w' ∧ Kept w w' (fun k_ => P0_ k_) := by
 have HO0 := q0 (show Kd.R kTie 32 w w0.heap.size (fun k_ => (P0_ k_ ∨ w.heap.size ≤ k_)) u101_ l0 from Kd.R_mono ho0 (fun k_ hk => (.inl hk)))
 have HK := q0 (Kept.refl w (fun k_ => P0_ k_))
 have HW0 := Aside0.mk hB.size
 have HB := Aside0.mk hB
 clear hB
 have H : (laws_markTieS.l0 k l0 a1 0) = some (r1, r2) := h
 clear h
 have H' := Aside0.mk H
 clear H
 go_enter Try.func75, Try.ntmps75
 go_wp2
 go_loopg [1, 5] k (fun kq v1 v5 w' => ∃ (x0_1 : List (STie)) (x1_1 : Int) (x5_1 : Int), v1 = .int .i64 x1_1 ∧ v5 = .int .i64 x5_1 ∧ Aside0 (laws_markTieS.l0 kq x0_1 x1_1 x5_1 = some (r1, r2)) ∧ Aside0 (kq ≤ k) ∧ Aside0 (Kd.R kTie 32 w' w0.heap.size (fun k_ => (P0_ k_ ∨ w.heap.size ≤ k_)) u101_ x0_1) ∧ Aside0 (Kept w w' (fun k_ => P0_ k_)) ∧ Aside0 (Below w0.heap.size w0 w'))
 case atStart => exact ⟨(l0), (a1), (0), qs, qs, H', ⟨Nat.le_refl _⟩, ⟨qr HO0.out⟩, ⟨by repeat (first | (with_reducible first | exact HK.out | apply Kept.alloc | apply Kept.drewN | apply Kept.drew) | exact HK.out)⟩, ⟨qb HB.out⟩⟩
 clear H'
 try clear p2
 obtain ⟨x0_1, x1_1, x5_1, rfl, rfl, HA, HK1, HO_0, HK, HB⟩ := hrel
 rcases gk with _ | k1
 · exact absurd HA.out (by simp [laws_markTieS.l0])
 have H := HA.out
 clear HA
 simp only [laws_markTieS.l0] at H
 by_cases c3 : x5_1 < (x0_1.length : Int)
 rotate_left
 · rw [if_neg c3] at H
   have c3b0 : decide (x5_1 < (x0_1.length : Int)) = false := decide_eq_false c3
   clear c3
   simp only [Option.some.injEq, Prod.mk.injEq] at H
   obtain ⟨rfl, rfl⟩ := H
   obtain ⟨Ao12, co12, eo12⟩ := Kd.R_slice HO_0.out
   subst eo12
   go_wp2
   go_ret
   exact ⟨qe, qr HO_0.out, qb HB.out, by repeat (first | (with_reducible first | exact HK.out | apply Kept.alloc | apply Kept.drewN | apply Kept.drew) | exact HK.out)⟩
 rw [if_pos c3] at H
 have c3b0 : decide (x5_1 < (x0_1.length : Int)) = true := decide_eq_true c3
 clear c3
 by_cases c4 : 0 ≤ x5_1
 rotate_left
 · rw [if_neg c4] at H
   exact absurd H (by simp)
 rw [if_pos c4] at H
 have c4b0 : decide (0 ≤ x5_1) = true := decide_eq_true c4
 clear c4
 obtain ⟨y100, hy100⟩ : ∃ y_ : List (STie), y_ = (x0_1.set (x5_1 : Int).toNat (⟨x1_1, (rd_TTie x0_1 x5_1).f1⟩ : STie)) := ⟨_, rfl⟩
 replace H : (laws_markTieS.l0 k1 (y100.set (x5_1 : Int).toNat (⟨(rd_TTie y100 x5_1).f0, wrap64 (x1_1 + 1)⟩ : STie)) (wrap64 ((wrap64 (x1_1 + 1)) + 1)) (wrap64 (x5_1 + 1))) = some (r1, r2) := qy H hy100
 have Ny100 := Aside0.mk hy100
 clear hy100
 obtain ⟨y102, hy102⟩ : ∃ y_ : List (STie), y_ = (y100.set (x5_1 : Int).toNat (⟨(rd_TTie y100 x5_1).f0, wrap64 (x1_1 + 1)⟩ : STie)) := ⟨_, rfl⟩
 replace H : (laws_markTieS.l0 k1 y102 (wrap64 ((wrap64 (x1_1 + 1)) + 1)) (wrap64 (x5_1 + 1))) = some (r1, r2) := qy H hy102
 have Ny102 := Aside0.mk hy102
 clear hy102
 have H' := Aside0.mk H
 clear H
 obtain ⟨Ao7, co7, eo7⟩ := Kd.R_slice HO_0.out
 subst eo7
 have p5 : 0 ≤ (x5_1 : Int) := of_decide_eq_true qa
 have q5 : (x5_1 : Int) < ((x0_1.length : Int) : Int) := of_decide_eq_true qa
 obtain ⟨go5, co5, eo5, gb5, gl5, cl5, HG5⟩ := Kd.R_form HO_0.out (by omega)
 (first | cases eo5 | (injection eo5 with ea_ en_ ec_; (first | subst ea_ | (injection ea_ with ea_; subst ea_)); subst ec_; clear en_))
 have GB5 := Aside0.mk gb5
 have GG5 := Aside0.mk HG5
 clear gb5 gl5 HG5
 have HMgo5 := q0 (show (P0_ go5 ∨ w.heap.size ≤ go5) from (HO_0.out.1 _ rfl))
 obtain ⟨ce5, hcl5, hM5, hcc5, hfr5⟩ := Kd.R_elem HO_0.out zTie (x5_1 : Int) p5 q5
 obtain rfl := kTie_openM hM5
 have hx5_0 : wr.cell? ⟨go5, (x5_1 : Int).toNat * 2, none⟩ = some (.int .i64 ((rd_TTie x0_1 x5_1).f0)) := hcc5 0 _ rfl
 have hx5_1 : wr.cell? ⟨go5, (x5_1 : Int).toNat * 2 + 1, none⟩ = some (.int .i64 ((rd_TTie x0_1 x5_1).f1)) := hcc5 1 _ rfl
 have hf5_0 : wr.frozen? ⟨go5, (x5_1 : Int).toNat * 2, none⟩ = false := hfr5 0
 have hf5_1 : wr.frozen? ⟨go5, (x5_1 : Int).toNat * 2 + 1, none⟩ = false := hfr5 1
 clear hcl5 hcc5 hfr5 hM5
 replace p5 := eq_true p5
 replace q5 := eq_true q5
 have HX8 := q0 (show Kd.R kTie 32 wr w0.heap.size (fun k_ => (P0_ k_ ∨ w.heap.size ≤ k_)) (.slice (some ⟨go5, 0, none⟩) x0_1.length co7) x0_1 from (qr HO_0.out))
 obtain ⟨ce8, hcl8, hM8, hcc8, hfr8⟩ := Kd.R_elem HX8.out zTie (x5_1 : Int) (of_decide_eq_true qa) (by have h_ : (x5_1 : Int) < ((x0_1.length : Int) : Int) := of_decide_eq_true qa; first | exact h_ | (have e_ := (Kd.R_reads' HO_0.out).1; omega) | simpa using h_)
 obtain rfl := kTie_openM hM8
 have HP8 := Kd.R_seg HX8.out (x5_1 : Int) (of_decide_eq_true qa) (by have h_ : (x5_1 : Int) < ((x0_1.length : Int) : Int) := of_decide_eq_true qa; first | exact h_ | (have e_ := (Kd.R_reads' HO_0.out).1; omega) | simpa using h_) (seg := [.int .i64 x1_1]) (j := 0) hcl8 hcc8 (show 1 ≤ 2 from by decide) (x' := (⟨x1_1, (rd_TTie x0_1 x5_1).f1⟩ : STie)) (kTie_mkM _ _ _ (⟨x1_1, (rd_TTie x0_1 x5_1).f1⟩ : STie) ) (fun _ hk => hk)
 have hx8_0 := hcc8 0 _ rfl
 (try simp only [show (kTie).sz = 2 from rfl, Nat.mul_one, Nat.add_zero] at hx8_0)
 have hf8_0 := hfr8 0
 (try simp only [show (kTie).sz = 2 from rfl, Nat.mul_one, Nat.add_zero] at hf8_0)
 clear hcl8 hcc8 hfr8 hM8
 go_wp2_with (first | ((with_reducible refine gate_store (t := 3) (p := 16) rfl ?_); refine store_event (t := 3) (p := 16) (v := ?vo_w9) (w1 := (wr.setCell ⟨go5, (x5_1 : Int).toNat * 2, none⟩ (.int .i64 x1_1))) ?hg ?ho ?hn ?hr ?_; (case ho => rfl); (case hg => rfl); (case hn => rfl); (case hr => first | (go_simp; done) | (go_simp; rfl)); intro w9 hw; have hg : wr.grownBy w9 (some go5) := (by rw [hw]; exact HP8.2); have hp_ : Kd.R kTie 32 w9 w0.heap.size (fun k_ => (P0_ k_ ∨ w.heap.size ≤ k_)) (.slice (some ⟨go5, 0, none⟩) x0_1.length co7) y100 := (by rw [hw, Ny100.out]; exact HP8.1); clear HP8; replace HB := q0 ((by rw [hw]; exact below_set (HB.out) GB5.out : Below w0.heap.size w0 w9)); replace HK := q0 (Kept.of_grown (S := (fun k_ => P0_ k_)) hg (by repeat (first | (with_reducible first | exact HK.out | apply Kept.alloc | apply Kept.drewN | apply Kept.drew) | exact HK.out)) (fun k_ e_ => (HO_0.out.1 k_ e_))); replace HO_0 := q0 (hp_); clear hg hw hp_; have p6 : 0 ≤ (x5_1 : Int) := of_decide_eq_true qa; have q6 : (x5_1 : Int) < ((x0_1.length : Int) : Int) := of_decide_eq_true qa; obtain ⟨ce6, hcl6, hM6, hcc6, hfr6⟩ := Kd.R_elem HO_0.out zTie (x5_1 : Int) p6 q6; obtain rfl := kTie_openM hM6; have hx6_0 : w9.cell? ⟨go5, (x5_1 : Int).toNat * 2, none⟩ = some (.int .i64 ((rd_TTie y100 x5_1).f0)) := hcc6 0 _ rfl; have hx6_1 : w9.cell? ⟨go5, (x5_1 : Int).toNat * 2 + 1, none⟩ = some (.int .i64 ((rd_TTie y100 x5_1).f1)) := hcc6 1 _ rfl; have hf6_0 : w9.frozen? ⟨go5, (x5_1 : Int).toNat * 2, none⟩ = false := hfr6 0; have hf6_1 : w9.frozen? ⟨go5, (x5_1 : Int).toNat * 2 + 1, none⟩ = false := hfr6 1; clear hcl6 hcc6 hfr6 hM6; replace p6 := eq_true p6; replace q6 := eq_true q6; have HX10 := q0 (show Kd.R kTie 32 w9 w0.heap.size (fun k_ => (P0_ k_ ∨ w.heap.size ≤ k_)) (.slice (some ⟨go5, 0, none⟩) x0_1.length co7) y100 from (qr HO_0.out)); obtain ⟨ce10, hcl10, hM10, hcc10, hfr10⟩ := Kd.R_elem HX10.out zTie (x5_1 : Int) (of_decide_eq_true qa) (by have h_ : (x5_1 : Int) < ((x0_1.length : Int) : Int) := of_decide_eq_true qa; first | exact h_ | (have e_ := (Kd.R_reads' HO_0.out).1; omega) | simpa using h_); obtain rfl := kTie_openM hM10; have HP10 := Kd.R_seg HX10.out (x5_1 : Int) (of_decide_eq_true qa) (by have h_ : (x5_1 : Int) < ((x0_1.length : Int) : Int) := of_decide_eq_true qa; first | exact h_ | (have e_ := (Kd.R_reads' HO_0.out).1; omega) | simpa using h_) (seg := [.int .i64 (wrap64 (x1_1 + 1))]) (j := 1) hcl10 hcc10 (show 2 ≤ 2 from by decide) (x' := (⟨(rd_TTie y100 x5_1).f0, wrap64 (x1_1 + 1)⟩ : STie)) (kTie_mkM _ _ _ (⟨(rd_TTie y100 x5_1).f0, wrap64 (x1_1 + 1)⟩ : STie) ) (fun _ hk => hk); have hx10_1 := hcc10 1 _ rfl; (try simp only [show (kTie).sz = 2 from rfl, Nat.mul_one, Nat.add_zero] at hx10_1); have hf10_1 := hfr10 1; (try simp only [show (kTie).sz = 2 from rfl, Nat.mul_one, Nat.add_zero] at hf10_1); clear hcl10 hcc10 hfr10 hM10) | ((with_reducible refine gate_store (t := 3) (p := 23) rfl ?_); refine store_event (t := 3) (p := 23) (v := ?vo_w11) (w1 := (w9.setCell ⟨go5, (x5_1 : Int).toNat * 2 + 1, none⟩ (.int .i64 (wrap64 (x1_1 + 1))))) ?hg ?ho ?hn ?hr ?_; (case ho => rfl); (case hg => rfl); (case hn => rfl); (case hr => first | (go_simp; done) | (go_simp; rfl)); intro w11 hw; have hg : w9.grownBy w11 (some go5) := (by rw [hw]; exact HP10.2); have hp_ : Kd.R kTie 32 w11 w0.heap.size (fun k_ => (P0_ k_ ∨ w.heap.size ≤ k_)) (.slice (some ⟨go5, 0, none⟩) x0_1.length co7) y102 := (by rw [hw, Ny102.out]; exact HP10.1); clear HP10; replace HB := q0 ((by rw [hw]; exact below_set (HB.out) GB5.out : Below w0.heap.size w0 w11)); replace HK := q0 (Kept.of_grown (S := (fun k_ => P0_ k_)) hg (by repeat (first | (with_reducible first | exact HK.out | apply Kept.alloc | apply Kept.drewN | apply Kept.drew) | exact HK.out)) (fun k_ e_ => (HO_0.out.1 k_ e_))); replace HO_0 := q0 (hp_); clear hg hw hp_))
 go_roundg k1
 case measure => have := HK1.out; omega
 case rel => exact ⟨(y102), (wrap64 ((wrap64 (x1_1 + 1)) + 1)), (wrap64 (x5_1 + 1)), qs, qs, H', ⟨by have := HK1.out; omega⟩, ⟨qr HO_0.out⟩, ⟨by repeat (first | (with_reducible first | exact HK.out | apply Kept.alloc | apply Kept.drewN | apply Kept.drew) | exact HK.out)⟩, ⟨qb HB.out⟩⟩

set_option maxHeartbeats 8000000 in
set_option maxRecDepth 100000 in
theorem laws_markNet.calls (k : Nat) (a0_0 : Int) (P0_1_ : Nat → Prop) (u101_ : Value) (l0_1 : List (STie)) (a1 : Int) (r1 : Int) (r2 : List (STie)) (w0 w : World) (hB : Below w0.heap.size w0 w) (ho0_1 : Kd.R kTie 32 w w0.heap.size P0_1_ u101_ l0_1) (h : laws_markNet.f k a0_0 l0_1 a1 = some (r1, r2)) :
    Calls Try.prog 31 #[.agg #[.int .i64 a0_0, u101_], .int .i64 a1] w fun e w' => e = .returned (.int .i64 r1) ∧ Kd.R kTie 32 w' w0.heap.size (fun k_ => (P0_1_ k_ ∨ w.heap.size ≤ k_)) u101_ r2 ∧ Below w0.heap.size w0 w' ∧ Kept w w' (fun k_ => P0_1_ k_) := by
 have hu25 := Try.underlying25
 have HO0_1 := q0 (show Kd.R kTie 32 w w0.heap.size (fun k_ => (P0_1_ k_ ∨ w.heap.size ≤ k_)) u101_ l0_1 from Kd.R_mono ho0_1 (fun k_ hk => (.inl hk)))
 have HK := q0 (Kept.refl w (fun k_ => P0_1_ k_))
 have HW0 := Aside0.mk hB.size
 have HB := Aside0.mk hB
 clear hB
 have H : ((laws_markTieS.f k l0_1 a1).bind fun bt100 => (some (bt100.1, bt100.2))) = some (r1, r2) := h
 clear h
 replace H := Option.bind_eq_some_iff.mp H
 obtain ⟨⟨t100, t102⟩, A30, H⟩ := H
 have A3 := Aside0.mk A30
 clear A30
 simp only [Option.some.injEq, Prod.mk.injEq] at H
 obtain ⟨rfl, rfl⟩ := H
 obtain ⟨Ao4, co4, eo4⟩ := Kd.R_slice HO0_1.out
 subst eo4
 go_enter Try.func31, Try.ntmps31
 go_wp2_with (first | ((with_reducible refine gate_dst (N := 2) rfl ?_); refine be 2 #[.int .i64 a0_0, .slice Ao4 l0_1.length co4] 25 ?_; intro gb103 hg w5 hbox hb; replace HO0_1 := q0 (Kd.R_below (by (with_reducible repeat (first | apply Kd.R_alloc | apply Kd.R_drewN | apply Kd.R_drew)); exact HO0_1.out) hb); have BK103 := q0 (hbox); have GW103 := q0 ((by rw [hg]; exact (by first | exact HK.out.1 | exact (show Kept w _ (fun k_ => P0_1_ k_) from by repeat (first | (with_reducible first | exact HK.out | apply Kept.alloc | apply Kept.drewN | apply Kept.drew) | exact HK.out)).1) : w.heap.size ≤ gb103)); replace HK := q0 (Kept.below (S := (fun k_ => P0_1_ k_)) (by repeat (first | (with_reducible first | exact HK.out | apply Kept.alloc | apply Kept.drewN | apply Kept.drew) | exact HK.out)) hb); have GE103 := q0 ((bs HB.out hg : w0.heap.size ≤ gb103)); replace HB := q0 (below_step (qb HB.out) hb); clear hb hbox hg; have hcz6_0 : w5.cell? ⟨gb103, 0, none⟩ = some (.int .i64 a0_0) := (blk_cell BK103.out 0).trans rfl; have hcz6_1 : w5.cell? ⟨gb103, 1, none⟩ = some (.slice Ao4 l0_1.length co4) := (blk_cell BK103.out 1).trans rfl; have hfz6_0 := blk_frozen BK103.out 0; have hfz6_1 := blk_frozen BK103.out 1) | ((with_reducible refine gate_callee (f := 75) rfl ?_); refine gl 8 Try.func75 #[.slice Ao4 l0_1.length co4, .int .i64 a1] ?_; (with_reducible refine (laws_markTieS.calls k (fun k_ => some k_ = (.slice Ao4 l0_1.length co4 : Value).ownBlock) (.slice Ao4 l0_1.length co4) l0_1 a1 t100 t102 w0 _ ?side1 ?side2 A3.out).mono ?_); (case side1 => exact qb HB.out); (case side2 => exact Kd.R_tight rfl HO0_1.out); rintro e w7 ⟨rfl, hy0, hb, hkp⟩; refine ⟨_, rfl, ?_⟩; replace BK103 := q0 (blk_kept (qk BK103.out) hkp (fun hs_ => (fun e_ => (Kd.R_ne HO0_1.out BK103.out (by decide)) e_) hs_)); replace HK := q0 (Kept.then_ (S := (fun k_ => P0_1_ k_)) (by repeat (first | (with_reducible first | exact HK.out | apply Kept.alloc | apply Kept.drewN | apply Kept.drew | refine Kept.setCell ?_ (.inr GW103.out) _) | exact HK.out)) hkp (fun k_ hs_ => (fun e_ => (HO0_1.out.1 k_ e_.symm)) hs_)); replace HO0_1 := q0 (Kd.R_reok rfl hy0 (fun k_ e_ => HO0_1.out.1 k_ e_)); replace HB := q0 (hb); (try clear hb); (try clear hkp); (try clear hy0)))
 go_ret
 exact ⟨qe, by (with_reducible repeat (first | apply Kd.R_alloc | apply Kd.R_drewN | apply Kd.R_drew)); exact HO0_1.out, qb HB.out, by repeat (first | (with_reducible first | exact HK.out | apply Kept.alloc | apply Kept.drewN | apply Kept.drew | refine Kept.setCell ?_ (.inr GW103.out) _) | exact HK.out)⟩

set_option maxHeartbeats 8000000 in
set_option maxRecDepth 100000 in
theorem laws_heldTieS.calls (k : Nat) (A0 : Option Addr) (c0 : Nat) (l0 : List (STie)) (a1 : Int) (r : Int) (w : World) (hr0 : Kd.C kTie w A0 l0.length l0) (hc0 : l0.length ≤ c0) (h : laws_heldTieS.f k l0 a1 = some r) :
    Calls Try.prog 76 #[.slice A0 l0.length c0, .int .i64 a1] w fun e w' => e = .returned (.int .i64 r) ∧ Drawn0 w w' := by
 have HR0 := Aside0.mk hr0
 have HC0 := Aside0.mk hc0
 clear hr0 hc0
 have H : (laws_heldTieS.l0 k l0 a1 0) = some r := h
 clear h
 have H' := Aside0.mk H
 clear H
 go_enter Try.func76, Try.ntmps76
 go_wp2
 go_loopg [1, 5] k (fun kq v1 v5 w' => ∃ (x1_1 : Int) (x5_1 : Int), v1 = .int .i64 x1_1 ∧ v5 = .int .i64 x5_1 ∧ Aside0 (laws_heldTieS.l0 kq l0 x1_1 x5_1 = some r) ∧ Aside0 (kq ≤ k) ∧ Drawn0 w w')
 case atStart => exact ⟨(a1), (0), qs, qs, H', ⟨Nat.le_refl _⟩, by repeat (first | exact Drawn0.refl _ | apply Drawn0.step)⟩
 clear H'
 try clear p2
 obtain ⟨x1_1, x5_1, rfl, rfl, HA, HK1, ⟨m1, rfl⟩⟩ := hrel
 rcases gk with _ | k1
 · exact absurd HA.out (by simp [laws_heldTieS.l0])
 have H := HA.out
 clear HA
 simp only [laws_heldTieS.l0] at H
 by_cases c3 : x5_1 < (l0.length : Int)
 rotate_left
 · rw [if_neg c3] at H
   have c3b0 : decide (x5_1 < (l0.length : Int)) = false := decide_eq_false c3
   clear c3
   obtain rfl := Option.some.inj H
   go_wp2
   go_ret
   exact ⟨by first | rfl | (simp; done) | (simp [*]; done), by repeat (first | exact Drawn0.refl _ | apply Drawn0.step)⟩
 rw [if_pos c3] at H
 have c3b0 : decide (x5_1 < (l0.length : Int)) = true := decide_eq_true c3
 clear c3
 by_cases c4 : 0 ≤ x5_1
 rotate_left
 · rw [if_neg c4] at H
   exact absurd H (by simp)
 rw [if_pos c4] at H
 have c4b0 : decide (0 ≤ x5_1) = true := decide_eq_true c4
 clear c4
 by_cases c5 : ((rd_TTie l0 x5_1).f0) = x1_1
 rotate_left
 · rw [if_neg c5] at H
   have c5b0 : (((rd_TTie l0 x5_1).f0) == x1_1) = false := beq_eq_false_iff_ne.mpr c5
   have c5b1 : (((rd_TTie l0 x5_1).f0) != x1_1) = true := bne_iff_ne.mpr c5
   obtain rfl := Option.some.inj H
   have p100 : 0 ≤ (x5_1 : Int) := of_decide_eq_true qa
   have q100 : x5_1 < (l0.length : Int) := of_decide_eq_true qa
   obtain ⟨ad100, e100, hx100_0, hx100_1⟩ := at_TTie HR0.out x5_1 p100 q100
   cases e100
   replace p100 := eq_true p100
   replace q100 := eq_true q100
   go_wp2
   go_ret
   exact ⟨by first | rfl | (simp; done) | (simp [*]; done), by repeat (first | exact Drawn0.refl _ | apply Drawn0.step)⟩
 rw [if_pos c5] at H
 have c5b0 : (((rd_TTie l0 x5_1).f0) == x1_1) = true := beq_iff_eq.mpr c5
 have c5b1 : (((rd_TTie l0 x5_1).f0) != x1_1) = false := bne_eq_false_iff_eq.mpr c5
 clear c5
 by_cases c6 : ((rd_TTie l0 x5_1).f1) = (wrap64 (x1_1 + 1))
 rotate_left
 · rw [if_neg c6] at H
   have c6b0 : (((rd_TTie l0 x5_1).f1) == (wrap64 (x1_1 + 1))) = false := beq_eq_false_iff_ne.mpr c6
   have c6b1 : (((rd_TTie l0 x5_1).f1) != (wrap64 (x1_1 + 1))) = true := bne_iff_ne.mpr c6
   obtain rfl := Option.some.inj H
   have p100 : 0 ≤ (x5_1 : Int) := of_decide_eq_true qa
   have q100 : x5_1 < (l0.length : Int) := of_decide_eq_true qa
   obtain ⟨ad100, e100, hx100_0, hx100_1⟩ := at_TTie HR0.out x5_1 p100 q100
   cases e100
   replace p100 := eq_true p100
   replace q100 := eq_true q100
   have p101 : 0 ≤ (x5_1 : Int) := of_decide_eq_true qa
   have q101 : x5_1 < (l0.length : Int) := of_decide_eq_true qa
   obtain ⟨ad101, e101, hx101_0, hx101_1⟩ := at_TTie HR0.out x5_1 p101 q101
   obtain rfl : ad100 = ad101 := (by injection e101)
   replace p101 := eq_true p101
   replace q101 := eq_true q101
   go_wp2
   go_ret
   exact ⟨by first | rfl | (simp; done) | (simp [*]; done), by repeat (first | exact Drawn0.refl _ | apply Drawn0.step)⟩
 rw [if_pos c6] at H
 have c6b0 : (((rd_TTie l0 x5_1).f1) == (wrap64 (x1_1 + 1))) = true := beq_iff_eq.mpr c6
 have c6b1 : (((rd_TTie l0 x5_1).f1) != (wrap64 (x1_1 + 1))) = false := bne_eq_false_iff_eq.mpr c6
 clear c6
 have H' := Aside0.mk H
 clear H
 have p100 : 0 ≤ (x5_1 : Int) := of_decide_eq_true qa
 have q100 : x5_1 < (l0.length : Int) := of_decide_eq_true qa
 obtain ⟨ad100, e100, hx100_0, hx100_1⟩ := at_TTie HR0.out x5_1 p100 q100
 cases e100
 replace p100 := eq_true p100
 replace q100 := eq_true q100
 have p101 : 0 ≤ (x5_1 : Int) := of_decide_eq_true qa
 have q101 : x5_1 < (l0.length : Int) := of_decide_eq_true qa
 obtain ⟨ad101, e101, hx101_0, hx101_1⟩ := at_TTie HR0.out x5_1 p101 q101
 obtain rfl : ad100 = ad101 := (by injection e101)
 replace p101 := eq_true p101
 replace q101 := eq_true q101
 go_wp2
 go_roundg k1
 case measure => have := HK1.out; omega
 case rel => exact ⟨(wrap64 ((wrap64 (x1_1 + 1)) + 1)), (wrap64 (x5_1 + 1)), qs, qs, H', ⟨by have := HK1.out; omega⟩, by repeat (first | exact Drawn0.refl _ | apply Drawn0.step)⟩

set_option maxHeartbeats 8000000 in
set_option maxRecDepth 100000 in
theorem laws_heldNet.calls (k : Nat) (a0_0 : Int) (A0_1 : Option Addr) (c0_1 : Nat) (l0_1 : List (STie)) (a1 : Int) (r : Int) (w : World) (hr0_1 : Kd.C kTie w A0_1 l0_1.length l0_1) (hc0_1 : l0_1.length ≤ c0_1) (h : laws_heldNet.f k a0_0 l0_1 a1 = some r) :
    Calls Try.prog 32 #[.agg #[.int .i64 a0_0, .slice A0_1 l0_1.length c0_1], .int .i64 a1] w fun e w' => e = .returned (.int .i64 r) ∧ Below w.heap.size w w' := by
 have hu25 := Try.underlying25
 have HR0_1 := Aside0.mk hr0_1
 have HC0_1 := Aside0.mk hc0_1
 clear hr0_1 hc0_1
 have HB := q0 (Below.refl w.heap.size w)
 have H : ((laws_heldTieS.f k l0_1 a1).bind fun t100 => (if t100 < 0 then (some (-1)) else (some t100))) = some r := h
 clear h
 replace H := Option.bind_eq_some_iff.mp H
 obtain ⟨t100, A30, H⟩ := H
 have A3 := Aside0.mk A30
 clear A30
 by_cases c4 : t100 < 0
 · rw [if_pos c4] at H
   have c4b0 : decide (t100 < 0) = true := decide_eq_true c4
   clear c4
   obtain rfl := Option.some.inj H
   go_enter Try.func32, Try.ntmps32
   go_wp2_with (first | ((with_reducible refine gate_dst (N := 2) rfl ?_); refine be 2 #[.int .i64 a0_0, .slice A0_1 l0_1.length c0_1] 25 ?_; intro gb101 hg w5 hbox hb; have BK101 := q0 (hbox); have GW101 := q0 ((bs HB.out hg : w.heap.size ≤ gb101)); have GE101 := q0 ((bs HB.out hg : w.heap.size ≤ gb101)); replace HB := q0 (below_step (qb HB.out) hb); clear hb hbox hg; have hcz6_0 : w5.cell? ⟨gb101, 0, none⟩ = some (.int .i64 a0_0) := (blk_cell BK101.out 0).trans rfl; have hcz6_1 : w5.cell? ⟨gb101, 1, none⟩ = some (.slice A0_1 l0_1.length c0_1) := (blk_cell BK101.out 1).trans rfl; have hfz6_0 := blk_frozen BK101.out 0; have hfz6_1 := blk_frozen BK101.out 1) | ((with_reducible refine gate_callee (f := 76) rfl ?_); refine gl 8 Try.func76 #[.slice A0_1 l0_1.length c0_1, .int .i64 a1] ?_; (with_reducible refine (laws_heldTieS.calls k _ _ l0_1 a1 t100 _ ?side1 ?side2 A3.out).mono ?_); (case side1 => exact qc (Kd.C_below HR0_1.out HB.out)); (case side2 => exact HC0_1.out); rintro e w' ⟨rfl, ⟨nd, rfl⟩⟩; refine ⟨_, rfl, ?_⟩))
   go_ret
   exact ⟨qe, qb HB.out⟩
 rw [if_neg c4] at H
 have c4b0 : decide (t100 < 0) = false := decide_eq_false c4
 clear c4
 obtain rfl := Option.some.inj H
 go_enter Try.func32, Try.ntmps32
 go_wp2_with (first | ((with_reducible refine gate_dst (N := 2) rfl ?_); refine be 2 #[.int .i64 a0_0, .slice A0_1 l0_1.length c0_1] 25 ?_; intro gb101 hg w7 hbox hb; have BK101 := q0 (hbox); have GW101 := q0 ((bs HB.out hg : w.heap.size ≤ gb101)); have GE101 := q0 ((bs HB.out hg : w.heap.size ≤ gb101)); replace HB := q0 (below_step (qb HB.out) hb); clear hb hbox hg; have hcz8_0 : w7.cell? ⟨gb101, 0, none⟩ = some (.int .i64 a0_0) := (blk_cell BK101.out 0).trans rfl; have hcz8_1 : w7.cell? ⟨gb101, 1, none⟩ = some (.slice A0_1 l0_1.length c0_1) := (blk_cell BK101.out 1).trans rfl; have hfz8_0 := blk_frozen BK101.out 0; have hfz8_1 := blk_frozen BK101.out 1) | ((with_reducible refine gate_callee (f := 76) rfl ?_); refine gl 8 Try.func76 #[.slice A0_1 l0_1.length c0_1, .int .i64 a1] ?_; (with_reducible refine (laws_heldTieS.calls k _ _ l0_1 a1 t100 _ ?side1 ?side2 A3.out).mono ?_); (case side1 => exact qc (Kd.C_below HR0_1.out HB.out)); (case side2 => exact HC0_1.out); rintro e w' ⟨rfl, ⟨nd, rfl⟩⟩; refine ⟨_, rfl, ?_⟩))
 go_ret
 exact ⟨qe, qb HB.out⟩

set_option maxHeartbeats 8000000 in
set_option maxRecDepth 100000 in
theorem laws_FnExactNetAdd.calls (k : Nat) (a0_0 : Int) (A0_1 : Option Addr) (c0_1 : Nat) (l0_1 : List (SLTie)) (a1 : Int) (a2 : Int) (r : Bool) (w : World) (hr0_1 : Kd.C kLTie w A0_1 l0_1.length l0_1) (hc0_1 : l0_1.length ≤ c0_1) (h : laws_FnExactNetAdd.f k a0_0 l0_1 a1 a2 = some r) :
    Calls Try.prog 6 #[.agg #[.int .i64 a0_0, .slice A0_1 l0_1.length c0_1], .int .i64 a1, .int .i64 a2] w fun e w' => e = .returned (.bool r) ∧ Below w.heap.size w w' := by
 have hu42 := Try.underlying42
 have hu25 := Try.underlying25
 have HR0_1 := Aside0.mk hr0_1
 have HC0_1 := Aside0.mk hc0_1
 clear hr0_1 hc0_1
 have HB := q0 (Below.refl w.heap.size w)
 have H : ((laws_szNet.f a0_0 l0_1 1048576).bind fun t100 => (if t100 < 0 then (some true) else ((laws_toNet.f k a0_0 l0_1).bind fun bt114 => ((spec_NetAdd.f k bt114.1 bt114.2 a1 a2).bind fun bt115 => ((laws_toNet.f k a0_0 l0_1).bind fun bt101 => ((impl_NetAdd.f k bt101.1 bt101.2 a1 a2).bind fun bt102 => ((laws_eqNet.f k bt102.1 bt102.2.1 bt115.1 bt115.2.1).bind fun t103 => (if t103 = true then (laws_FnExactNetAdd.j0 k a1 a2 bt115.2.2 bt102.2.2 (bt102.2.2 != bt115.2.2) a0_0 l0_1 bt115.1 bt115.2.1 bt101.1 bt101.2 bt102.1 bt102.2.1) else (laws_FnExactNetAdd.j0 k a1 a2 bt115.2.2 bt102.2.2 true a0_0 l0_1 bt115.1 bt115.2.1 bt101.1 bt101.2 bt102.1 bt102.2.1))))))))) = some r := h
 clear h
 replace H := Option.bind_eq_some_iff.mp H
 obtain ⟨t100, A40, H⟩ := H
 have A4 := Aside0.mk A40
 clear A40
 by_cases c5 : t100 < 0
 · rw [if_pos c5] at H
   have c5b0 : decide (t100 < 0) = true := decide_eq_true c5
   clear c5
   obtain rfl := Option.some.inj H
   go_enter Try.func6, Try.ntmps6
   go_wp2_with (first | ((with_reducible refine gate_dst (N := 3) rfl ?_); refine be 3 #[.int .i64 a0_0, .slice A0_1 l0_1.length c0_1] 42 ?_; intro gb116 hg w6 hbox hb; have BK116 := q0 (hbox); have GW116 := q0 ((bs HB.out hg : w.heap.size ≤ gb116)); have GE116 := q0 ((bs HB.out hg : w.heap.size ≤ gb116)); replace HB := q0 (below_step (qb HB.out) hb); clear hb hbox hg; have hcz7_0 : w6.cell? ⟨gb116, 0, none⟩ = some (.int .i64 a0_0) := (blk_cell BK116.out 0).trans rfl; have hcz7_1 : w6.cell? ⟨gb116, 1, none⟩ = some (.slice A0_1 l0_1.length c0_1) := (blk_cell BK116.out 1).trans rfl; have hfz7_0 := blk_frozen BK116.out 0; have hfz7_1 := blk_frozen BK116.out 1) | ((with_reducible refine gate_callee (f := 26) rfl ?_); refine gl 20 Try.func26 #[.agg #[.int .i64 a0_0, .slice A0_1 l0_1.length c0_1], .int .i64 1048576] ?_; (with_reducible refine (laws_szNet.calls a0_0 _ _ l0_1 1048576 t100 _ ?side1 ?side2 A4.out).mono ?_); (case side1 => exact qc (Kd.C_below HR0_1.out HB.out)); (case side2 => exact HC0_1.out); rintro e w8 ⟨rfl, hb⟩; refine ⟨_, rfl, ?_⟩; replace BK116 := q0 (kb BK116.out hb); replace HB := q0 (below_step (qb HB.out) hb); (try clear hb); (try clear hb2); (try clear hk); (try clear hi)))
   go_ret
   exact ⟨qe, qb HB.out⟩
 rw [if_neg c5] at H
 have c5b0 : decide (t100 < 0) = false := decide_eq_false c5
 clear c5
 replace H := Option.bind_eq_some_iff.mp H
 obtain ⟨⟨t114, t117⟩, A90, H⟩ := H
 have A9 := Aside0.mk A90
 clear A90
 replace H := Option.bind_eq_some_iff.mp H
 obtain ⟨⟨t115, t118, t119⟩, A120, H⟩ := H
 have A10 := Aside0.mk A120
 clear A120
 replace H := Option.bind_eq_some_iff.mp H
 obtain ⟨⟨t101, t121⟩, A122, H⟩ := H
 have A11 := Aside0.mk A122
 clear A122
 replace H := Option.bind_eq_some_iff.mp H
 obtain ⟨⟨t102, t123, t124⟩, A125, H⟩ := H
 have A12 := Aside0.mk A125
 clear A125
 have HC13 := Aside0.mk H
 clear H
 go_enter Try.func6, Try.ntmps6
 go_upto_region 8 with (first | ((with_reducible refine gate_dst (N := 3) rfl ?_); refine be 3 #[.int .i64 a0_0, .slice A0_1 l0_1.length c0_1] 42 ?_; intro gb116 hg w14 hbox hb; have BK116 := q0 (hbox); have GW116 := q0 ((bs HB.out hg : w.heap.size ≤ gb116)); have GE116 := q0 ((bs HB.out hg : w.heap.size ≤ gb116)); replace HB := q0 (below_step (qb HB.out) hb); clear hb hbox hg; have hcz15_0 : w14.cell? ⟨gb116, 0, none⟩ = some (.int .i64 a0_0) := (blk_cell BK116.out 0).trans rfl; have hcz15_1 : w14.cell? ⟨gb116, 1, none⟩ = some (.slice A0_1 l0_1.length c0_1) := (blk_cell BK116.out 1).trans rfl; have hfz15_0 := blk_frozen BK116.out 0; have hfz15_1 := blk_frozen BK116.out 1) | ((with_reducible refine gate_callee (f := 26) rfl ?_); refine gl 20 Try.func26 #[.agg #[.int .i64 a0_0, .slice A0_1 l0_1.length c0_1], .int .i64 1048576] ?_; (with_reducible refine (laws_szNet.calls a0_0 _ _ l0_1 1048576 t100 _ ?side1 ?side2 A4.out).mono ?_); (case side1 => exact qc (Kd.C_below HR0_1.out HB.out)); (case side2 => exact HC0_1.out); rintro e w16 ⟨rfl, hb⟩; refine ⟨_, rfl, ?_⟩; replace BK116 := q0 (kb BK116.out hb); replace HB := q0 (below_step (qb HB.out) hb); (try clear hb); (try clear hb2); (try clear hk); (try clear hi); have hcz17_0 : w16.cell? ⟨gb116, 0, none⟩ = some (.int .i64 a0_0) := (blk_cell BK116.out 0).trans rfl; have hcz17_1 : w16.cell? ⟨gb116, 1, none⟩ = some (.slice A0_1 l0_1.length c0_1) := (blk_cell BK116.out 1).trans rfl; have hfz17_0 := blk_frozen BK116.out 0; have hfz17_1 := blk_frozen BK116.out 1) | ((with_reducible refine gate_callee (f := 28) rfl ?_); refine gl 25 Try.func28 #[.agg #[.int .i64 a0_0, .slice A0_1 l0_1.length c0_1]] ?_; (with_reducible refine (laws_toNet.calls k a0_0 _ _ l0_1 t114 t117 _ ?side1 ?side2 A9.out).mono ?_); (case side1 => exact qc (Kd.C_below HR0_1.out HB.out)); (case side2 => exact HC0_1.out); rintro e w18 ⟨v126, rfl, ho0, hb⟩; refine ⟨_, rfl, ?_⟩; have HO127 := q0 (Kd.R_lower ho0 (below_size (qb HB.out))); replace BK116 := q0 (kb BK116.out hb); replace HB := q0 (below_step (qb HB.out) hb); (try clear hb); (try clear hb2); (try clear hk); (try clear hi); (try clear ho0); obtain ⟨Ao19, co19, eo19⟩ := Kd.R_slice HO127.out; subst eo19) | ((with_reducible refine gate_callee (f := 27) rfl ?_); refine gl 28 Try.func27 #[.agg #[.int .i64 t114, .slice Ao19 t117.length co19], .int .i64 a1, .int .i64 a2] ?_; (with_reducible refine (spec_NetAdd.calls k t114 _ _ t117 a1 a2 t115 t118 t119 _ ?side1 ?side2 A10.out).mono ?_); (case side1 => exact qc (Kd.R_reads' HO127.out).2.2); (case side2 => exact (Kd.R_reads' HO127.out).2.1); rintro e w20 ⟨v128, rfl, ho0, hb⟩; refine ⟨_, rfl, ?_⟩; have HO129 := q0 (Kd.R_lower (Kd.R_new' ho0 (Kd.R_lt (qr HO127.out))) (below_size (qb HB.out))); replace HO127 := q0 (Kd.R_elder' (qr HO127.out) (Kd.R_base ho0) hb); replace BK116 := q0 (kb BK116.out hb); replace HB := q0 (below_step (qb HB.out) hb); (try clear hb); (try clear hb2); (try clear hk); (try clear hi); (try clear ho0)) | ((with_reducible refine gate_dst (N := 8) rfl ?_); refine be 8 #[.int .i64 0, .slice none 0 0] 25 ?_; intro gb130 hg w21 hbox hb; replace HO127 := q0 (Kd.R_below (qr HO127.out) hb); replace HO129 := q0 (Kd.R_below (qr HO129.out) hb); have BK130 := q0 (hbox); have GW130 := q0 ((bs HB.out hg : w.heap.size ≤ gb130)); have GE130 := q0 ((bs HB.out hg : w.heap.size ≤ gb130)); replace HB := q0 (below_step (qb HB.out) hb); have NB116_130 := q0 ((bl BK116.out hg : gb116 ≠ gb130)); have NB130_116 := q0 ((bg BK116.out hg : gb130 ≠ gb116)); replace BK116 := q0 (kb BK116.out hb); clear hb hbox hg; have hnb22 := NB130_116.out; have hnc22 := NB116_130.out; have hcz23_0 : w21.cell? ⟨gb130, 0, none⟩ = some (.int .i64 0) := (blk_cell BK130.out 0).trans rfl; have hcz23_1 : w21.cell? ⟨gb130, 1, none⟩ = some (.slice none 0 0) := (blk_cell BK130.out 1).trans rfl; have hfz23_0 := blk_frozen BK130.out 0; have hfz23_1 := blk_frozen BK130.out 1; obtain ⟨Ao24, co24, eo24⟩ := Kd.R_slice HO129.out; subst eo24; have hcz25_0 : w21.cell? ⟨gb116, 0, none⟩ = some (.int .i64 a0_0) := (blk_cell BK116.out 0).trans rfl; have hcz25_1 : w21.cell? ⟨gb116, 1, none⟩ = some (.slice A0_1 l0_1.length c0_1) := (blk_cell BK116.out 1).trans rfl; have hfz25_0 := blk_frozen BK116.out 0; have hfz25_1 := blk_frozen BK116.out 1) | ((with_reducible refine gate_callee (f := 28) rfl ?_); refine gl 32 Try.func28 #[.agg #[.int .i64 a0_0, .slice A0_1 l0_1.length c0_1]] ?_; (with_reducible refine (laws_toNet.calls k a0_0 _ _ l0_1 t101 t121 _ ?side1 ?side2 A11.out).mono ?_); (case side1 => exact Kd.C_below HR0_1.out (qb HB.out)); (case side2 => exact HC0_1.out); rintro e w26 ⟨v131, rfl, ho0, hb⟩; refine ⟨_, rfl, ?_⟩; have HO132 := q0 (Kd.R_lower (Kd.R_new' (Kd.R_new' ho0 (Kd.R_lt (by (with_reducible repeat (first | apply Kd.R_alloc | apply Kd.R_drewN | apply Kd.R_drew)); exact (rf2 HO127.out BK130.out (fun _ h_ => h_.1))))) (Kd.R_lt (by (with_reducible repeat (first | apply Kd.R_alloc | apply Kd.R_drewN | apply Kd.R_drew)); exact (rf2 HO129.out BK130.out (fun _ h_ => h_.1))))) (below_size (qb HB.out))); replace HO127 := q0 (Kd.R_elder' (by (with_reducible repeat (first | apply Kd.R_alloc | apply Kd.R_drewN | apply Kd.R_drew)); exact (rf2 HO127.out BK130.out (fun _ h_ => h_.1))) (Kd.R_base ho0) hb); replace HO129 := q0 (Kd.R_elder' (by (with_reducible repeat (first | apply Kd.R_alloc | apply Kd.R_drewN | apply Kd.R_drew)); exact (rf2 HO129.out BK130.out (fun _ h_ => h_.1))) (Kd.R_base ho0) hb); replace BK116 := q0 (kf BK116.out hb); replace BK130 := q0 (blk_below (g := gb130) (o := .cells #[.int .i64 t115, .slice Ao24 t118.length co24] 25 (0, 0)) (by (with_reducible repeat (first | refine blk_drewN ?_ _ | refine blk_drew ?_ | refine blk_alloc ?_ _)); refine blk_put (cs := #[.int .i64 t115, .slice none 0 0]) ?_ 1 _ rfl; (with_reducible repeat (first | refine blk_drewN ?_ _ | refine blk_drew ?_ | refine blk_alloc ?_ _)); refine blk_put (cs := #[.int .i64 0, .slice none 0 0]) ?_ 0 _ rfl; (with_reducible repeat (first | refine blk_drewN ?_ _ | refine blk_drew ?_ | refine blk_alloc ?_ _)); exact BK130.out) hb); replace HB := q0 (below_step (qb HB.out) hb); (try clear hb); (try clear hb2); (try clear hk); (try clear hi); (try clear ho0)) | ((with_reducible refine gate_dst (N := 10) rfl ?_); refine be 10 #[.int .i64 0, .slice none 0 0] 25 ?_; intro gb133 hg w27 hbox hb; replace HO127 := q0 (Kd.R_below (qr HO127.out) hb); replace HO129 := q0 (Kd.R_below (qr HO129.out) hb); replace HO132 := q0 (Kd.R_below (qr HO132.out) hb); have BK133 := q0 (hbox); have GW133 := q0 ((bs HB.out hg : w.heap.size ≤ gb133)); have GE133 := q0 ((bs HB.out hg : w.heap.size ≤ gb133)); replace HB := q0 (below_step (qb HB.out) hb); have NB116_133 := q0 ((bl BK116.out hg : gb116 ≠ gb133)); have NB133_116 := q0 ((bg BK116.out hg : gb133 ≠ gb116)); replace BK116 := q0 (kb BK116.out hb); have NB130_133 := q0 ((bl BK130.out hg : gb130 ≠ gb133)); have NB133_130 := q0 ((bg BK130.out hg : gb133 ≠ gb130)); replace BK130 := q0 (kb BK130.out hb); clear hb hbox hg; have hnb28 := NB133_116.out; have hnc28 := NB116_133.out; have hnb29 := NB133_130.out; have hnc29 := NB130_133.out; have hcz30_0 : w27.cell? ⟨gb133, 0, none⟩ = some (.int .i64 0) := (blk_cell BK133.out 0).trans rfl; have hcz30_1 : w27.cell? ⟨gb133, 1, none⟩ = some (.slice none 0 0) := (blk_cell BK133.out 1).trans rfl; have hfz30_0 := blk_frozen BK133.out 0; have hfz30_1 := blk_frozen BK133.out 1; obtain ⟨Ao31, co31, eo31⟩ := Kd.R_slice HO132.out; subst eo31) | ((with_reducible refine gate_callee (f := 29) rfl ?_); refine gl 37 Try.func29 #[.agg #[.int .i64 t101, .slice Ao31 t121.length co31], .int .i64 a1, .int .i64 a2] ?_; (with_reducible refine (impl_NetAdd.calls k t101 _ _ t121 a1 a2 t102 t123 t124 _ ?side1 ?side2 A12.out).mono ?_); (case side1 => refine (Kd.R_reads' (e := 32) (base := w.heap.size) (ok := fun k_ => ((True ∧ some k_ ≠ (.slice Ao19 t117.length co19 : Value).ownBlock) ∧ some k_ ≠ (.slice Ao24 t118.length co24 : Value).ownBlock)) (n := t121.length) (c := co31) ?_).2.2; exact (by (with_reducible repeat (first | apply Kd.R_alloc | apply Kd.R_drewN | apply Kd.R_drew)); exact (rf2 HO132.out BK133.out (fun _ h_ => h_.1)))); (case side2 => exact (Kd.R_reads' HO132.out).2.1); rintro e w32 ⟨v134, rfl, ho0, hb⟩; refine ⟨_, rfl, ?_⟩; have HO135 := q0 (Kd.R_lower (Kd.R_new' (Kd.R_new' (Kd.R_new' ho0 (Kd.R_lt (by (with_reducible repeat (first | apply Kd.R_alloc | apply Kd.R_drewN | apply Kd.R_drew)); exact (rf2 HO127.out BK133.out (fun _ h_ => h_.1))))) (Kd.R_lt (by (with_reducible repeat (first | apply Kd.R_alloc | apply Kd.R_drewN | apply Kd.R_drew)); exact (rf2 HO129.out BK133.out (fun _ h_ => h_.1))))) (Kd.R_lt (by (with_reducible repeat (first | apply Kd.R_alloc | apply Kd.R_drewN | apply Kd.R_drew)); exact (rf2 HO132.out BK133.out (fun _ h_ => h_.1))))) (below_size (qb HB.out))); replace HO127 := q0 (Kd.R_elder' (by (with_reducible repeat (first | apply Kd.R_alloc | apply Kd.R_drewN | apply Kd.R_drew)); exact (rf2 HO127.out BK133.out (fun _ h_ => h_.1))) (Kd.R_base ho0) hb); replace HO129 := q0 (Kd.R_elder' (by (with_reducible repeat (first | apply Kd.R_alloc | apply Kd.R_drewN | apply Kd.R_drew)); exact (rf2 HO129.out BK133.out (fun _ h_ => h_.1))) (Kd.R_base ho0) hb); replace HO132 := q0 (Kd.R_elder' (by (with_reducible repeat (first | apply Kd.R_alloc | apply Kd.R_drewN | apply Kd.R_drew)); exact (rf2 HO132.out BK133.out (fun _ h_ => h_.1))) (Kd.R_base ho0) hb); replace BK116 := q0 (kf BK116.out hb); replace BK130 := q0 (kf BK130.out hb); replace BK133 := q0 (blk_below (g := gb133) (o := .cells #[.int .i64 t101, .slice Ao31 t121.length co31] 25 (0, 0)) (by (with_reducible repeat (first | refine blk_drewN ?_ _ | refine blk_drew ?_ | refine blk_alloc ?_ _)); refine blk_put (cs := #[.int .i64 t101, .slice none 0 0]) ?_ 1 _ rfl; (with_reducible repeat (first | refine blk_drewN ?_ _ | refine blk_drew ?_ | refine blk_alloc ?_ _)); refine blk_put (cs := #[.int .i64 0, .slice none 0 0]) ?_ 0 _ rfl; (with_reducible repeat (first | refine blk_drewN ?_ _ | refine blk_drew ?_ | refine blk_alloc ?_ _)); exact BK133.out) hb); replace HB := q0 (below_step (qb HB.out) hb); (try clear hb); (try clear hb2); (try clear hk); (try clear hi); (try clear ho0)) | ((with_reducible refine gate_dst (N := 11) rfl ?_); refine be 11 #[.int .i64 0, .slice none 0 0] 25 ?_; intro gb136 hg w33 hbox hb; replace HO127 := q0 (Kd.R_below (qr HO127.out) hb); replace HO129 := q0 (Kd.R_below (qr HO129.out) hb); replace HO132 := q0 (Kd.R_below (qr HO132.out) hb); replace HO135 := q0 (Kd.R_below (qr HO135.out) hb); have BK136 := q0 (hbox); have GW136 := q0 ((bs HB.out hg : w.heap.size ≤ gb136)); have GE136 := q0 ((bs HB.out hg : w.heap.size ≤ gb136)); replace HB := q0 (below_step (qb HB.out) hb); have NB116_136 := q0 ((bl BK116.out hg : gb116 ≠ gb136)); have NB136_116 := q0 ((bg BK116.out hg : gb136 ≠ gb116)); replace BK116 := q0 (kb BK116.out hb); have NB130_136 := q0 ((bl BK130.out hg : gb130 ≠ gb136)); have NB136_130 := q0 ((bg BK130.out hg : gb136 ≠ gb130)); replace BK130 := q0 (kb BK130.out hb); have NB133_136 := q0 ((bl BK133.out hg : gb133 ≠ gb136)); have NB136_133 := q0 ((bg BK133.out hg : gb136 ≠ gb133)); replace BK133 := q0 (kb BK133.out hb); clear hb hbox hg; have hnb34 := NB136_116.out; have hnc34 := NB116_136.out; have hnb35 := NB136_130.out; have hnc35 := NB130_136.out; have hnb36 := NB136_133.out; have hnc36 := NB133_136.out; have hcz37_0 : w33.cell? ⟨gb136, 0, none⟩ = some (.int .i64 0) := (blk_cell BK136.out 0).trans rfl; have hcz37_1 : w33.cell? ⟨gb136, 1, none⟩ = some (.slice none 0 0) := (blk_cell BK136.out 1).trans rfl; have hfz37_0 := blk_frozen BK136.out 0; have hfz37_1 := blk_frozen BK136.out 1; obtain ⟨Ao38, co38, eo38⟩ := Kd.R_slice HO135.out; subst eo38))
 (try simp only [Act.put, List.setIfInBounds_toArray, List.set_cons_zero, List.set_cons_succ])
 go_cut [48] (fun v48 wc => ∃ (kq : Nat) (x48_12 : Bool), v48 = .bool x48_12 ∧ Aside0 (laws_FnExactNetAdd.j0 kq a1 a2 t119 t124 x48_12 a0_0 l0_1 t115 t118 t101 t121 t102 t123 = some r) ∧ Aside0 (kq ≤ k) ∧ Aside0 (Kd.R kTie 32 wc w.heap.size (fun k_ => some k_ ≠ ((.slice Ao31 t121.length co31) : Value).ownBlock ∧ some k_ ≠ ((.slice Ao38 t123.length co38) : Value).ownBlock) (.slice Ao24 t118.length co24) t118) ∧ Aside0 (Kd.R kTie 32 wc w.heap.size (fun k_ => some k_ ≠ ((.slice Ao24 t118.length co24) : Value).ownBlock ∧ some k_ ≠ ((.slice Ao38 t123.length co38) : Value).ownBlock) (.slice Ao31 t121.length co31) t121) ∧ Aside0 (Kd.R kTie 32 wc w.heap.size (fun k_ => some k_ ≠ ((.slice Ao24 t118.length co24) : Value).ownBlock ∧ some k_ ≠ ((.slice Ao31 t121.length co31) : Value).ownBlock) (.slice Ao38 t123.length co38) t123) ∧ Aside0 (wc.heap[gb116]? = some (.cells #[.int .i64 a0_0, (.slice A0_1 l0_1.length c0_1)] 42 (0, 0))) ∧ Aside0 (wc.heap[gb130]? = some (.cells #[.int .i64 t115, (.slice Ao24 t118.length co24)] 25 (0, 0))) ∧ Aside0 (wc.heap[gb133]? = some (.cells #[.int .i64 t101, (.slice Ao31 t121.length co31)] 25 (0, 0))) ∧ Aside0 (wc.heap[gb136]? = some (.cells #[.int .i64 t102, (.slice Ao38 t123.length co38)] 25 (0, 0))) ∧ Aside0 (Below w.heap.size w wc))
 case first =>
   have H := HC13.out
   clear HC13
   replace H := Option.bind_eq_some_iff.mp H
   obtain ⟨t103, A137, H⟩ := H
   have A39 := Aside0.mk A137
   clear A137
   by_cases c40 : t103 = true
   · subst c40
     rw [if_pos rfl] at H
     have H' := Aside0.mk H
     clear H
     have hnb41 := NB136_116.out
     have hnc41 := NB116_136.out
     have hnb42 := NB136_130.out
     have hnc42 := NB130_136.out
     have hnb43 := NB136_133.out
     have hnc43 := NB133_136.out
     have hcz44_0 : w33.cell? ⟨gb136, 0, none⟩ = some (.int .i64 0) := (blk_cell BK136.out 0).trans rfl
     have hcz44_1 : w33.cell? ⟨gb136, 1, none⟩ = some (.slice none 0 0) := (blk_cell BK136.out 1).trans rfl
     have hfz44_0 := blk_frozen BK136.out 0
     have hfz44_1 := blk_frozen BK136.out 1
     have hnb45 := NB130_116.out
     have hnc45 := NB116_130.out
     have hnb46 := NB130_133.out
     have hnc46 := NB133_130.out
     have hcz47_0 : w33.cell? ⟨gb130, 0, none⟩ = some (.int .i64 t115) := (blk_cell BK130.out 0).trans rfl
     have hcz47_1 : w33.cell? ⟨gb130, 1, none⟩ = some (.slice Ao24 t118.length co24) := (blk_cell BK130.out 1).trans rfl
     have hfz47_0 := blk_frozen BK130.out 0
     have hfz47_1 := blk_frozen BK130.out 1
     go_wp2_with (first | ((with_reducible refine gate_callee (f := 30) rfl ?_); refine gl 42 Try.func30 #[.agg #[.int .i64 t102, .slice Ao38 t123.length co38], .agg #[.int .i64 t115, .slice Ao24 t118.length co24]] ?_; (with_reducible refine (laws_eqNet.calls k t102 _ _ t123 t115 _ _ t118 true _ ?side1 ?side2 ?side3 ?side4 A39.out).mono ?_); (case side1 => refine (Kd.R_reads' (e := 32) (base := w.heap.size) (ok := fun k_ => (((True ∧ some k_ ≠ (.slice Ao19 t117.length co19 : Value).ownBlock) ∧ some k_ ≠ (.slice Ao24 t118.length co24 : Value).ownBlock) ∧ some k_ ≠ (.slice Ao31 t121.length co31 : Value).ownBlock)) (n := t123.length) (c := co38) ?_).2.2; exact (by (with_reducible repeat (first | apply Kd.R_alloc | apply Kd.R_drewN | apply Kd.R_drew)); exact (rf2 HO135.out BK136.out (fun _ h_ => h_.1)))); (case side2 => exact (Kd.R_reads' HO135.out).2.1); (case side3 => refine (Kd.R_reads' (e := 32) (base := w.heap.size) (ok := fun k_ => (((True ∧ some k_ ≠ (.slice Ao19 t117.length co19 : Value).ownBlock) ∧ some k_ ≠ (.slice Ao31 t121.length co31 : Value).ownBlock) ∧ some k_ ≠ (.slice Ao38 t123.length co38 : Value).ownBlock)) (n := t118.length) (c := co24) ?_).2.2; exact (by (with_reducible repeat (first | apply Kd.R_alloc | apply Kd.R_drewN | apply Kd.R_drew)); exact (rf2 HO129.out BK136.out (fun _ h_ => h_.1)))); (case side4 => exact (Kd.R_reads' HO129.out).2.1); rintro e w48 ⟨rfl, hb⟩; refine ⟨_, rfl, ?_⟩; replace HO127 := q0 (Kd.R_below (by (with_reducible repeat (first | apply Kd.R_alloc | apply Kd.R_drewN | apply Kd.R_drew)); exact (rf2 HO127.out BK136.out (fun _ h_ => h_.1))) hb); replace HO129 := q0 (Kd.R_below (by (with_reducible repeat (first | apply Kd.R_alloc | apply Kd.R_drewN | apply Kd.R_drew)); exact (rf2 HO129.out BK136.out (fun _ h_ => h_.1))) hb); replace HO132 := q0 (Kd.R_below (by (with_reducible repeat (first | apply Kd.R_alloc | apply Kd.R_drewN | apply Kd.R_drew)); exact (rf2 HO132.out BK136.out (fun _ h_ => h_.1))) hb); replace HO135 := q0 (Kd.R_below (by (with_reducible repeat (first | apply Kd.R_alloc | apply Kd.R_drewN | apply Kd.R_drew)); exact (rf2 HO135.out BK136.out (fun _ h_ => h_.1))) hb); replace BK116 := q0 (kf BK116.out hb); replace BK130 := q0 (kf BK130.out hb); replace BK133 := q0 (kf BK133.out hb); replace BK136 := q0 (blk_below (g := gb136) (o := .cells #[.int .i64 t102, .slice Ao38 t123.length co38] 25 (0, 0)) (by (with_reducible repeat (first | refine blk_drewN ?_ _ | refine blk_drew ?_ | refine blk_alloc ?_ _)); refine blk_put (cs := #[.int .i64 t102, .slice none 0 0]) ?_ 1 _ rfl; (with_reducible repeat (first | refine blk_drewN ?_ _ | refine blk_drew ?_ | refine blk_alloc ?_ _)); refine blk_put (cs := #[.int .i64 0, .slice none 0 0]) ?_ 0 _ rfl; (with_reducible repeat (first | refine blk_drewN ?_ _ | refine blk_drew ?_ | refine blk_alloc ?_ _)); exact BK136.out) hb); replace HB := q0 (below_step (qb HB.out) hb); (try clear hb); (try clear hb2); (try clear hk); (try clear hi)))
     go_meet
     case rel => exact ⟨_, ((t124 != t119)), qs, H', ⟨by first | omega | exact Nat.le_refl _⟩, ⟨by (with_reducible repeat (first | apply Kd.R_alloc | apply Kd.R_drewN | apply Kd.R_drew)); exact Kd.R_mono HO129.out (fun _ hk => ⟨hk.1.2, hk.2⟩)⟩, ⟨by (with_reducible repeat (first | apply Kd.R_alloc | apply Kd.R_drewN | apply Kd.R_drew)); exact Kd.R_mono HO132.out (fun _ hk => ⟨hk.1.2, hk.2⟩)⟩, ⟨by (with_reducible repeat (first | apply Kd.R_alloc | apply Kd.R_drewN | apply Kd.R_drew)); exact Kd.R_mono HO135.out (fun _ hk => ⟨hk.1.2, hk.2⟩)⟩, ⟨qk BK116.out⟩, ⟨qk BK130.out⟩, ⟨qk BK133.out⟩, ⟨qk BK136.out⟩, ⟨qb HB.out⟩⟩
   replace c40 := Bool.eq_false_iff.mpr c40
   subst c40
   rw [if_neg nf] at H
   have H' := Aside0.mk H
   clear H
   have hnb49 := NB136_116.out
   have hnc49 := NB116_136.out
   have hnb50 := NB136_130.out
   have hnc50 := NB130_136.out
   have hnb51 := NB136_133.out
   have hnc51 := NB133_136.out
   have hcz52_0 : w33.cell? ⟨gb136, 0, none⟩ = some (.int .i64 0) := (blk_cell BK136.out 0).trans rfl
   have hcz52_1 : w33.cell? ⟨gb136, 1, none⟩ = some (.slice none 0 0) := (blk_cell BK136.out 1).trans rfl
   have hfz52_0 := blk_frozen BK136.out 0
   have hfz52_1 := blk_frozen BK136.out 1
   have hnb53 := NB130_116.out
   have hnc53 := NB116_130.out
   have hnb54 := NB130_133.out
   have hnc54 := NB133_130.out
   have hcz55_0 : w33.cell? ⟨gb130, 0, none⟩ = some (.int .i64 t115) := (blk_cell BK130.out 0).trans rfl
   have hcz55_1 : w33.cell? ⟨gb130, 1, none⟩ = some (.slice Ao24 t118.length co24) := (blk_cell BK130.out 1).trans rfl
   have hfz55_0 := blk_frozen BK130.out 0
   have hfz55_1 := blk_frozen BK130.out 1
   go_wp2_with (first | ((with_reducible refine gate_callee (f := 30) rfl ?_); refine gl 42 Try.func30 #[.agg #[.int .i64 t102, .slice Ao38 t123.length co38], .agg #[.int .i64 t115, .slice Ao24 t118.length co24]] ?_; (with_reducible refine (laws_eqNet.calls k t102 _ _ t123 t115 _ _ t118 false _ ?side1 ?side2 ?side3 ?side4 A39.out).mono ?_); (case side1 => refine (Kd.R_reads' (e := 32) (base := w.heap.size) (ok := fun k_ => (((True ∧ some k_ ≠ (.slice Ao19 t117.length co19 : Value).ownBlock) ∧ some k_ ≠ (.slice Ao24 t118.length co24 : Value).ownBlock) ∧ some k_ ≠ (.slice Ao31 t121.length co31 : Value).ownBlock)) (n := t123.length) (c := co38) ?_).2.2; exact (by (with_reducible repeat (first | apply Kd.R_alloc | apply Kd.R_drewN | apply Kd.R_drew)); exact (rf2 HO135.out BK136.out (fun _ h_ => h_.1)))); (case side2 => exact (Kd.R_reads' HO135.out).2.1); (case side3 => refine (Kd.R_reads' (e := 32) (base := w.heap.size) (ok := fun k_ => (((True ∧ some k_ ≠ (.slice Ao19 t117.length co19 : Value).ownBlock) ∧ some k_ ≠ (.slice Ao31 t121.length co31 : Value).ownBlock) ∧ some k_ ≠ (.slice Ao38 t123.length co38 : Value).ownBlock)) (n := t118.length) (c := co24) ?_).2.2; exact (by (with_reducible repeat (first | apply Kd.R_alloc | apply Kd.R_drewN | apply Kd.R_drew)); exact (rf2 HO129.out BK136.out (fun _ h_ => h_.1)))); (case side4 => exact (Kd.R_reads' HO129.out).2.1); rintro e w56 ⟨rfl, hb⟩; refine ⟨_, rfl, ?_⟩; replace HO127 := q0 (Kd.R_below (by (with_reducible repeat (first | apply Kd.R_alloc | apply Kd.R_drewN | apply Kd.R_drew)); exact (rf2 HO127.out BK136.out (fun _ h_ => h_.1))) hb); replace HO129 := q0 (Kd.R_below (by (with_reducible repeat (first | apply Kd.R_alloc | apply Kd.R_drewN | apply Kd.R_drew)); exact (rf2 HO129.out BK136.out (fun _ h_ => h_.1))) hb); replace HO132 := q0 (Kd.R_below (by (with_reducible repeat (first | apply Kd.R_alloc | apply Kd.R_drewN | apply Kd.R_drew)); exact (rf2 HO132.out BK136.out (fun _ h_ => h_.1))) hb); replace HO135 := q0 (Kd.R_below (by (with_reducible repeat (first | apply Kd.R_alloc | apply Kd.R_drewN | apply Kd.R_drew)); exact (rf2 HO135.out BK136.out (fun _ h_ => h_.1))) hb); replace BK116 := q0 (kf BK116.out hb); replace BK130 := q0 (kf BK130.out hb); replace BK133 := q0 (kf BK133.out hb); replace BK136 := q0 (blk_below (g := gb136) (o := .cells #[.int .i64 t102, .slice Ao38 t123.length co38] 25 (0, 0)) (by (with_reducible repeat (first | refine blk_drewN ?_ _ | refine blk_drew ?_ | refine blk_alloc ?_ _)); refine blk_put (cs := #[.int .i64 t102, .slice none 0 0]) ?_ 1 _ rfl; (with_reducible repeat (first | refine blk_drewN ?_ _ | refine blk_drew ?_ | refine blk_alloc ?_ _)); refine blk_put (cs := #[.int .i64 0, .slice none 0 0]) ?_ 0 _ rfl; (with_reducible repeat (first | refine blk_drewN ?_ _ | refine blk_drew ?_ | refine blk_alloc ?_ _)); exact BK136.out) hb); replace HB := q0 (below_step (qb HB.out) hb); (try clear hb); (try clear hb2); (try clear hk); (try clear hi)))
   go_meet
   case rel => exact ⟨_, (true), qs, H', ⟨by first | omega | exact Nat.le_refl _⟩, ⟨by (with_reducible repeat (first | apply Kd.R_alloc | apply Kd.R_drewN | apply Kd.R_drew)); exact Kd.R_mono HO129.out (fun _ hk => ⟨hk.1.2, hk.2⟩)⟩, ⟨by (with_reducible repeat (first | apply Kd.R_alloc | apply Kd.R_drewN | apply Kd.R_drew)); exact Kd.R_mono HO132.out (fun _ hk => ⟨hk.1.2, hk.2⟩)⟩, ⟨by (with_reducible repeat (first | apply Kd.R_alloc | apply Kd.R_drewN | apply Kd.R_drew)); exact Kd.R_mono HO135.out (fun _ hk => ⟨hk.1.2, hk.2⟩)⟩, ⟨qk BK116.out⟩, ⟨qk BK130.out⟩, ⟨qk BK133.out⟩, ⟨qk BK136.out⟩, ⟨qb HB.out⟩⟩
 clear HC13
 try clear c2
 try clear p2
 try clear c3
 try clear c4
 try clear c5
 try clear c5b0
 try clear c6
 try clear c22
 try clear c26
 try clear c27
 try clear c28
 try clear c29
 try clear c30
 try clear c34
 try clear c35
 try clear c36
 try clear c40
 try clear c41
 try clear c42
 try clear c43
 try clear c45
 try clear c46
 try clear c49
 try clear c50
 try clear c51
 try clear c53
 try clear c54
 try clear hcz15_0
 try clear hcz15_1
 try clear hcz17_0
 try clear hcz17_1
 try clear hcz23_0
 try clear hcz23_1
 try clear hcz25_0
 try clear hcz25_1
 try clear hcz30_0
 try clear hcz30_1
 try clear hcz37_0
 try clear hcz37_1
 try clear hcz44_0
 try clear hcz44_1
 try clear hcz47_0
 try clear hcz47_1
 try clear hcz52_0
 try clear hcz52_1
 try clear hcz55_0
 try clear hcz55_1
 try clear hcz7_0
 try clear hcz7_1
 try clear hfz15_0
 try clear hfz15_1
 try clear hfz17_0
 try clear hfz17_1
 try clear hfz23_0
 try clear hfz23_1
 try clear hfz25_0
 try clear hfz25_1
 try clear hfz30_0
 try clear hfz30_1
 try clear hfz37_0
 try clear hfz37_1
 try clear hfz44_0
 try clear hfz44_1
 try clear hfz47_0
 try clear hfz47_1
 try clear hfz52_0
 try clear hfz52_1
 try clear hfz55_0
 try clear hfz55_1
 try clear hfz7_0
 try clear hfz7_1
 obtain ⟨kq, x48_12, rfl, HA, HJ12, HO_101001, HO_102001, HO_103001, BK116, BK130, BK133, BK136, HB⟩ := hcut
 rcases kq with _ | kj12
 · exact absurd HA.out (by simp [laws_FnExactNetAdd.j0])
 have H := HA.out
 clear HA
 simp only [laws_FnExactNetAdd.j0] at H
 by_cases c57 : x48_12 = true
 · subst c57
   rw [if_pos rfl] at H
   obtain rfl := Option.some.inj H
   go_wp2
   go_ret
   exact ⟨qe, qb HB.out⟩
 replace c57 := Bool.eq_false_iff.mpr c57
 subst c57
 rw [if_neg nf] at H
 replace H := Option.bind_eq_some_iff.mp H
 obtain ⟨⟨t104, t138⟩, A139, H⟩ := H
 have A58 := Aside0.mk A139
 clear A139
 replace H := Option.bind_eq_some_iff.mp H
 obtain ⟨t105, A140, H⟩ := H
 have A59 := Aside0.mk A140
 clear A140
 by_cases c60 : t105 = true
 rotate_left
 · replace c60 := Bool.eq_false_iff.mpr c60
   subst c60
   rw [if_neg nf] at H
   obtain rfl := Option.some.inj H
   try go_wp2
   replace HO_101001 := q0 (Kd.R_drew HO_101001.out)
   replace HO_102001 := q0 (Kd.R_drew HO_102001.out)
   replace HO_103001 := q0 (Kd.R_drew HO_103001.out)
   replace BK116 := q0 (blk_drew BK116.out)
   replace BK130 := q0 (blk_drew BK130.out)
   replace BK133 := q0 (blk_drew BK133.out)
   replace BK136 := q0 (blk_drew BK136.out)
   replace HB := q0 (below_drew1 HB.out)
   refine start_ (n := 5) (S := fun w' => w'.cell? ⟨gb133, 0, none⟩ = some (.int .i64 t101) ∧ w'.cell? ⟨gb133, 1, none⟩ = some (.slice Ao31 t121.length co31) ∧ w'.cell? ⟨gb116, 0, none⟩ = some (.int .i64 a0_0) ∧ w'.cell? ⟨gb116, 1, none⟩ = some (.slice A0_1 l0_1.length c0_1)) (ds := []) (ba 5 0) (by kernel_rfl) rfl (by kernel_rfl) ⟨(blk_cell BK133.out 0).trans rfl, (blk_cell BK133.out 1).trans rfl, (blk_cell BK116.out 0).trans rfl, (blk_cell BK116.out 1).trans rfl⟩ (fun hHeld => ?_)
   generalize wc.drew = w235 at HO_101001 HO_102001 HO_103001 BK116 BK130 BK133 BK136 HB hHeld ⊢
   refine tw 0 (some 49) (ba 5 1) hHeld ?_
   refine tw 1 (some 50) (ba 5 3) hHeld ?_
   refine one_ (i := 2) (N := some 51) (ba 5 7) rfl rfl (by kernel_rfl) (by decide) (fun K hK => ?_)
   refine goes_ Try.func28 (by kernel_rfl) rfl #[.agg #[.int .i64 a0_0, .slice A0_1 l0_1.length c0_1]] (by rfl) rfl rfl qm ?_
   with_reducible refine (laws_toNet.calls kj12 a0_0 _ _ l0_1 t104 t138 _ ?side1 ?side2 A58.out).mono ?_
   (case side1 => exact qc (Kd.C_below HR0_1.out HB.out))
   (case side2 => exact HC0_1.out)
   rintro e w236 ⟨v143, rfl, ho0, hb⟩
   refine ⟨_, rfl, ?_⟩
   have HO144 := q0 (Kd.R_lower (Kd.R_new' (Kd.R_new' (Kd.R_new' ho0 (Kd.R_lt (qr HO_101001.out))) (Kd.R_lt (qr HO_102001.out))) (Kd.R_lt (qr HO_103001.out))) (below_size (qb HB.out)))
   replace HO_101001 := q0 (Kd.R_elder' (qr HO_101001.out) (Kd.R_base ho0) hb)
   replace HO_102001 := q0 (Kd.R_elder' (qr HO_102001.out) (Kd.R_base ho0) hb)
   replace HO_103001 := q0 (Kd.R_elder' (qr HO_103001.out) (Kd.R_base ho0) hb)
   replace BK116 := q0 (kb BK116.out hb)
   replace BK130 := q0 (kb BK130.out hb)
   replace BK133 := q0 (kb BK133.out hb)
   replace BK136 := q0 (kb BK136.out hb)
   replace HB := q0 (below_step (qb HB.out) hb)
   (try clear hb)
   (try clear hb2)
   (try clear hk)
   (try clear hi)
   (try clear ho0)
   obtain ⟨Ao237, co237, eo237⟩ := Kd.R_slice HO144.out
   (first | subst eo237 | (injection eo237 with f1_ f2_ f3_; have f4_ := f1_.symm; have f5_ := f3_.symm; clear f1_ f2_ f3_; subst f4_; subst f5_))
   refine hK.out _ _ ⟨(blk_cell BK133.out 0).trans rfl, (blk_cell BK133.out 1).trans rfl, (blk_cell BK116.out 0).trans rfl, (blk_cell BK116.out 1).trans rfl⟩ (fun hHeld => ?_)
   clear hK K
   refine nu 51 ?_
   refine one_ (i := 3) (N := some 52) (ba 5 15) rfl rfl (by kernel_rfl) (by decide) (fun K hK => ?_)
   refine goes_ Try.func30 (by kernel_rfl) rfl #[.agg #[.int .i64 t101, .slice Ao31 t121.length co31], .agg #[.int .i64 t104, .slice Ao237 t138.length co237]] (by rfl) rfl rfl qm ?_
   with_reducible refine (laws_eqNet.calls kj12 t101 _ _ t121 t104 _ _ t138 false _ ?side1 ?side2 ?side3 ?side4 A59.out).mono ?_
   (case side1 => exact qc (Kd.R_reads' HO_102001.out).2.2)
   (case side2 => exact (Kd.R_reads' HO_102001.out).2.1)
   (case side3 => exact qc (Kd.R_reads' HO144.out).2.2)
   (case side4 => exact (Kd.R_reads' HO144.out).2.1)
   rintro e w238 ⟨rfl, hb⟩
   refine ⟨_, rfl, ?_⟩
   replace HO_101001 := q0 (Kd.R_below (qr HO_101001.out) hb)
   replace HO_102001 := q0 (Kd.R_below (qr HO_102001.out) hb)
   replace HO_103001 := q0 (Kd.R_below (qr HO_103001.out) hb)
   replace HO144 := q0 (Kd.R_below (qr HO144.out) hb)
   replace BK116 := q0 (kb BK116.out hb)
   replace BK130 := q0 (kb BK130.out hb)
   replace BK133 := q0 (kb BK133.out hb)
   replace BK136 := q0 (kb BK136.out hb)
   replace HB := q0 (below_step (qb HB.out) hb)
   (try clear hb)
   (try clear hb2)
   (try clear hk)
   (try clear hi)
   refine hK.out _ _ ⟨(blk_cell BK133.out 0).trans rfl, (blk_cell BK133.out 1).trans rfl, (blk_cell BK116.out 0).trans rfl, (blk_cell BK116.out 1).trans rfl⟩ (fun hHeld => ?_)
   clear hK K
   refine nu 52 ?_
   refine pw 4 (some 53) (ba 5 31) ?_
   refine done_ (by kernel_rfl) ?_
   try go_wp2
   go_ret
   exact ⟨qe, qb HB.out⟩
 subst c60
 rw [if_pos rfl] at H
 replace H := Option.bind_eq_some_iff.mp H
 obtain ⟨⟨t106, t141⟩, A142, H⟩ := H
 have A61 := Aside0.mk A142
 clear A142
 have HC62 := Aside0.mk H
 clear H
 try go_wp2
 replace HO_101001 := q0 (Kd.R_drew HO_101001.out)
 replace HO_102001 := q0 (Kd.R_drew HO_102001.out)
 replace HO_103001 := q0 (Kd.R_drew HO_103001.out)
 replace BK116 := q0 (blk_drew BK116.out)
 replace BK130 := q0 (blk_drew BK130.out)
 replace BK133 := q0 (blk_drew BK133.out)
 replace BK136 := q0 (blk_drew BK136.out)
 replace HB := q0 (below_drew1 HB.out)
 refine start_ (n := 5) (S := fun w' => w'.cell? ⟨gb133, 0, none⟩ = some (.int .i64 t101) ∧ w'.cell? ⟨gb133, 1, none⟩ = some (.slice Ao31 t121.length co31) ∧ w'.cell? ⟨gb116, 0, none⟩ = some (.int .i64 a0_0) ∧ w'.cell? ⟨gb116, 1, none⟩ = some (.slice A0_1 l0_1.length c0_1)) (ds := []) (ba 5 0) (by kernel_rfl) rfl (by kernel_rfl) ⟨(blk_cell BK133.out 0).trans rfl, (blk_cell BK133.out 1).trans rfl, (blk_cell BK116.out 0).trans rfl, (blk_cell BK116.out 1).trans rfl⟩ (fun hHeld => ?_)
 generalize wc.drew = w63 at HO_101001 HO_102001 HO_103001 BK116 BK130 BK133 BK136 HB hHeld ⊢
 refine tw 0 (some 49) (ba 5 1) hHeld ?_
 refine tw 1 (some 50) (ba 5 3) hHeld ?_
 refine one_ (i := 2) (N := some 51) (ba 5 7) rfl rfl (by kernel_rfl) (by decide) (fun K hK => ?_)
 refine goes_ Try.func28 (by kernel_rfl) rfl #[.agg #[.int .i64 a0_0, .slice A0_1 l0_1.length c0_1]] (by rfl) rfl rfl qm ?_
 with_reducible refine (laws_toNet.calls kj12 a0_0 _ _ l0_1 t104 t138 _ ?side1 ?side2 A58.out).mono ?_
 (case side1 => exact qc (Kd.C_below HR0_1.out HB.out))
 (case side2 => exact HC0_1.out)
 rintro e w64 ⟨v143, rfl, ho0, hb⟩
 refine ⟨_, rfl, ?_⟩
 have HO144 := q0 (Kd.R_lower (Kd.R_new' (Kd.R_new' (Kd.R_new' ho0 (Kd.R_lt (qr HO_101001.out))) (Kd.R_lt (qr HO_102001.out))) (Kd.R_lt (qr HO_103001.out))) (below_size (qb HB.out)))
 replace HO_101001 := q0 (Kd.R_elder' (qr HO_101001.out) (Kd.R_base ho0) hb)
 replace HO_102001 := q0 (Kd.R_elder' (qr HO_102001.out) (Kd.R_base ho0) hb)
 replace HO_103001 := q0 (Kd.R_elder' (qr HO_103001.out) (Kd.R_base ho0) hb)
 replace BK116 := q0 (kb BK116.out hb)
 replace BK130 := q0 (kb BK130.out hb)
 replace BK133 := q0 (kb BK133.out hb)
 replace BK136 := q0 (kb BK136.out hb)
 replace HB := q0 (below_step (qb HB.out) hb)
 (try clear hb)
 (try clear hb2)
 (try clear hk)
 (try clear hi)
 (try clear ho0)
 obtain ⟨Ao65, co65, eo65⟩ := Kd.R_slice HO144.out
 (first | subst eo65 | (injection eo65 with f1_ f2_ f3_; have f4_ := f1_.symm; have f5_ := f3_.symm; clear f1_ f2_ f3_; subst f4_; subst f5_))
 refine hK.out _ _ ⟨(blk_cell BK133.out 0).trans rfl, (blk_cell BK133.out 1).trans rfl, (blk_cell BK116.out 0).trans rfl, (blk_cell BK116.out 1).trans rfl⟩ (fun hHeld => ?_)
 clear hK K
 refine nu 51 ?_
 refine one_ (i := 3) (N := some 52) (ba 5 15) rfl rfl (by kernel_rfl) (by decide) (fun K hK => ?_)
 refine goes_ Try.func30 (by kernel_rfl) rfl #[.agg #[.int .i64 t101, .slice Ao31 t121.length co31], .agg #[.int .i64 t104, .slice Ao65 t138.length co65]] (by rfl) rfl rfl qm ?_
 with_reducible refine (laws_eqNet.calls kj12 t101 _ _ t121 t104 _ _ t138 true _ ?side1 ?side2 ?side3 ?side4 A59.out).mono ?_
 (case side1 => exact qc (Kd.R_reads' HO_102001.out).2.2)
 (case side2 => exact (Kd.R_reads' HO_102001.out).2.1)
 (case side3 => exact qc (Kd.R_reads' HO144.out).2.2)
 (case side4 => exact (Kd.R_reads' HO144.out).2.1)
 rintro e w66 ⟨rfl, hb⟩
 refine ⟨_, rfl, ?_⟩
 replace HO_101001 := q0 (Kd.R_below (qr HO_101001.out) hb)
 replace HO_102001 := q0 (Kd.R_below (qr HO_102001.out) hb)
 replace HO_103001 := q0 (Kd.R_below (qr HO_103001.out) hb)
 replace HO144 := q0 (Kd.R_below (qr HO144.out) hb)
 replace BK116 := q0 (kb BK116.out hb)
 replace BK130 := q0 (kb BK130.out hb)
 replace BK133 := q0 (kb BK133.out hb)
 replace BK136 := q0 (kb BK136.out hb)
 replace HB := q0 (below_step (qb HB.out) hb)
 (try clear hb)
 (try clear hb2)
 (try clear hk)
 (try clear hi)
 refine hK.out _ _ ⟨(blk_cell BK133.out 0).trans rfl, (blk_cell BK133.out 1).trans rfl, (blk_cell BK116.out 0).trans rfl, (blk_cell BK116.out 1).trans rfl⟩ (fun hHeld => ?_)
 clear hK K
 refine nu 52 ?_
 refine pw 4 (some 53) (ba 5 31) ?_
 refine done_ (by kernel_rfl) ?_
 have hnb67 := NB133_116.out
 have hnc67 := NB116_133.out
 have hnb68 := NB133_130.out
 have hnc68 := NB130_133.out
 have hnb69 := NB133_136.out
 have hnc69 := NB136_133.out
 have hcz70_0 : w66.cell? ⟨gb133, 0, none⟩ = some (.int .i64 t101) := (blk_cell BK133.out 0).trans rfl
 have hcz70_1 : w66.cell? ⟨gb133, 1, none⟩ = some (.slice Ao31 t121.length co31) := (blk_cell BK133.out 1).trans rfl
 have hfz70_0 := blk_frozen BK133.out 0
 have hfz70_1 := blk_frozen BK133.out 1
 go_upto_region 14 with (first | ((with_reducible refine gate_callee (f := 31) rfl ?_); refine gl 56 Try.func31 #[.agg #[.int .i64 t101, .slice Ao31 t121.length co31], .int .i64 1] ?_; (with_reducible refine (laws_markNet.calls kj12 t101 (fun k_ => some k_ = (.slice Ao31 t121.length co31 : Value).ownBlock) (.slice Ao31 t121.length co31) t121 1 t106 t141 w _ ?side1 ?side2 A61.out).mono ?_); (case side1 => exact qb HB.out); (case side2 => exact Kd.R_tight rfl HO_102001.out); rintro e w71 ⟨rfl, hy0, hb, hkp⟩; refine ⟨_, rfl, ?_⟩; replace HO_101001 := q0 (Kd.R_mono (ok' := fun k_ => some k_ ≠ (.slice Ao31 t121.length co31 : Value).ownBlock ∧ some k_ ≠ (.slice Ao38 t123.length co38 : Value).ownBlock ∧ some k_ ≠ (.slice Ao65 t138.length co65 : Value).ownBlock) (Kd.R_keptB (HO_101001.out) hkp (fun k_ hk_ hs_ => (hk_.1.1) hs_)) (fun k_ hk_ => ⟨hk_.1.1.1, hk_.1.1.2, hk_.1.2⟩)); replace HO_103001 := q0 (Kd.R_mono (ok' := fun k_ => some k_ ≠ (.slice Ao24 t118.length co24 : Value).ownBlock ∧ some k_ ≠ (.slice Ao31 t121.length co31 : Value).ownBlock ∧ some k_ ≠ (.slice Ao65 t138.length co65 : Value).ownBlock) (Kd.R_keptB (HO_103001.out) hkp (fun k_ hk_ hs_ => (hk_.1.2) hs_)) (fun k_ hk_ => ⟨hk_.1.1.1, hk_.1.1.2, hk_.1.2⟩)); replace BK116 := q0 (blk_kept (qk BK116.out) hkp (fun hs_ => (fun e_ => (Kd.R_ne HO_102001.out BK116.out (by decide)) e_) hs_)); replace BK130 := q0 (blk_kept (qk BK130.out) hkp (fun hs_ => (fun e_ => (Kd.R_ne HO_102001.out BK130.out (by decide)) e_) hs_)); replace BK133 := q0 (blk_kept (qk BK133.out) hkp (fun hs_ => (fun e_ => (Kd.R_ne HO_102001.out BK133.out (by decide)) e_) hs_)); replace BK136 := q0 (blk_kept (qk BK136.out) hkp (fun hs_ => (fun e_ => (Kd.R_ne HO_102001.out BK136.out (by decide)) e_) hs_)); replace HO_102001 := q0 (Kd.R_reok rfl hy0 (fun k_ e_ => HO_102001.out.1 k_ e_)); replace HO144 := q0 (Kd.R_mono (ok' := fun k_ => some k_ ≠ (.slice Ao24 t118.length co24 : Value).ownBlock ∧ some k_ ≠ (.slice Ao31 t121.length co31 : Value).ownBlock ∧ some k_ ≠ (.slice Ao38 t123.length co38 : Value).ownBlock) (Kd.R_keptB (HO144.out) hkp (fun k_ hk_ hs_ => (hk_.1.2) hs_)) (fun k_ hk_ => ⟨hk_.1.1.1.2, hk_.1.1.2, hk_.1.2⟩)); replace HB := q0 (hb); (try clear hb); (try clear hkp); (try clear hy0)))
 (try simp only [Act.put, List.setIfInBounds_toArray, List.set_cons_zero, List.set_cons_succ])
 go_cut [69] (fun v69 wc => ∃ (kq : Nat) (x69_61 : Bool), v69 = .bool x69_61 ∧ Aside0 (laws_FnExactNetAdd.j1 kq a1 a2 t119 x69_61 a0_0 l0_1 t115 t118 t102 t123 = some r) ∧ Aside0 (kq ≤ kj12) ∧ Aside0 (Kd.R kTie 32 wc w.heap.size (fun k_ => some k_ ≠ ((.slice Ao31 t121.length co31) : Value).ownBlock ∧ some k_ ≠ ((.slice Ao38 t123.length co38) : Value).ownBlock) (.slice Ao24 t118.length co24) t118) ∧ Aside0 (Kd.R kTie 32 wc w.heap.size (fun k_ => some k_ ≠ ((.slice Ao24 t118.length co24) : Value).ownBlock ∧ some k_ ≠ ((.slice Ao38 t123.length co38) : Value).ownBlock) (.slice Ao31 t121.length co31) t141) ∧ Aside0 (Kd.R kTie 32 wc w.heap.size (fun k_ => some k_ ≠ ((.slice Ao24 t118.length co24) : Value).ownBlock ∧ some k_ ≠ ((.slice Ao31 t121.length co31) : Value).ownBlock) (.slice Ao38 t123.length co38) t123) ∧ Aside0 (wc.heap[gb116]? = some (.cells #[.int .i64 a0_0, (.slice A0_1 l0_1.length c0_1)] 42 (0, 0))) ∧ Aside0 (wc.heap[gb130]? = some (.cells #[.int .i64 t115, (.slice Ao24 t118.length co24)] 25 (0, 0))) ∧ Aside0 (wc.heap[gb133]? = some (.cells #[.int .i64 t101, (.slice Ao31 t121.length co31)] 25 (0, 0))) ∧ Aside0 (wc.heap[gb136]? = some (.cells #[.int .i64 t102, (.slice Ao38 t123.length co38)] 25 (0, 0))) ∧ Aside0 (Below w.heap.size w wc))
 case first =>
   have H := HC62.out
   clear HC62
   by_cases c72 : t106 < 0
   · rw [if_pos c72] at H
     have c72b0 : decide (t106 < 0) = true := decide_eq_true c72
     clear c72
     (first | rw [c72b0] | (simp only [i64_w, i32_w]; rw [c72b0]) | skip)
     have H' := Aside0.mk H
     clear H
     go_wp2
     go_meet
     case rel => exact ⟨_, (true), qs, H', ⟨by have := HJ12.out; first | omega | exact Nat.le_refl _⟩, ⟨by (with_reducible repeat (first | apply Kd.R_alloc | apply Kd.R_drewN | apply Kd.R_drew)); exact Kd.R_mono HO_101001.out (fun _ hk => ⟨hk.1, hk.2.1⟩)⟩, ⟨by (with_reducible repeat (first | apply Kd.R_alloc | apply Kd.R_drewN | apply Kd.R_drew)); exact Kd.R_mono HO_102001.out (fun _ hk => ⟨hk.1.1, hk.1.2⟩)⟩, ⟨by (with_reducible repeat (first | apply Kd.R_alloc | apply Kd.R_drewN | apply Kd.R_drew)); exact Kd.R_mono HO_103001.out (fun _ hk => ⟨hk.1, hk.2.1⟩)⟩, ⟨qk BK116.out⟩, ⟨qk BK130.out⟩, ⟨qk BK133.out⟩, ⟨qk BK136.out⟩, ⟨qb HB.out⟩⟩
   rw [if_neg c72] at H
   have c72b0 : decide (t106 < 0) = false := decide_eq_false c72
   clear c72
   (first | rw [c72b0] | (simp only [i64_w, i32_w]; rw [c72b0]) | skip)
   replace H := Option.bind_eq_some_iff.mp H
   obtain ⟨t107, A145, H⟩ := H
   have A73 := Aside0.mk A145
   clear A145
   by_cases c74 : t107 = true
   · subst c74
     rw [if_pos rfl] at H
     have H' := Aside0.mk H
     clear H
     have hnb75 := NB136_116.out
     have hnc75 := NB116_136.out
     have hnb76 := NB136_130.out
     have hnc76 := NB130_136.out
     have hnb77 := NB136_133.out
     have hnc77 := NB133_136.out
     have hcz78_0 : w71.cell? ⟨gb136, 0, none⟩ = some (.int .i64 t102) := (blk_cell BK136.out 0).trans rfl
     have hcz78_1 : w71.cell? ⟨gb136, 1, none⟩ = some (.slice Ao38 t123.length co38) := (blk_cell BK136.out 1).trans rfl
     have hfz78_0 := blk_frozen BK136.out 0
     have hfz78_1 := blk_frozen BK136.out 1
     have hnb79 := NB130_116.out
     have hnc79 := NB116_130.out
     have hnb80 := NB130_133.out
     have hnc80 := NB133_130.out
     have hcz81_0 : w71.cell? ⟨gb130, 0, none⟩ = some (.int .i64 t115) := (blk_cell BK130.out 0).trans rfl
     have hcz81_1 : w71.cell? ⟨gb130, 1, none⟩ = some (.slice Ao24 t118.length co24) := (blk_cell BK130.out 1).trans rfl
     have hfz81_0 := blk_frozen BK130.out 0
     have hfz81_1 := blk_frozen BK130.out 1
     go_wp2_with (first | (go_at_call 30; (with_reducible refine (laws_eqNet.calls kj12 t102 _ _ t123 t115 _ _ t118 true _ ?side1 ?side2 ?side3 ?side4 A73.out).mono ?_); (case side1 => exact qc (Kd.R_reads' HO_103001.out).2.2); (case side2 => exact (Kd.R_reads' HO_103001.out).2.1); (case side3 => exact qc (Kd.R_reads' HO_101001.out).2.2); (case side4 => exact (Kd.R_reads' HO_101001.out).2.1); rintro e w82 ⟨rfl, hb⟩; replace HO_101001 := q0 (Kd.R_below (qr HO_101001.out) hb); replace HO_102001 := q0 (Kd.R_below (qr HO_102001.out) hb); replace HO_103001 := q0 (Kd.R_below (qr HO_103001.out) hb); replace HO144 := q0 (Kd.R_below (qr HO144.out) hb); replace BK116 := q0 (kb BK116.out hb); replace BK130 := q0 (kb BK130.out hb); replace BK133 := q0 (kb BK133.out hb); replace BK136 := q0 (kb BK136.out hb); replace HB := q0 (below_step (qb HB.out) hb); (try clear hb); (try clear hb2); (try clear hk); (try clear hi)))
     go_meet
     case rel => exact ⟨_, ((t124 != t119)), qs, H', ⟨by have := HJ12.out; first | omega | exact Nat.le_refl _⟩, ⟨by (with_reducible repeat (first | apply Kd.R_alloc | apply Kd.R_drewN | apply Kd.R_drew)); exact Kd.R_mono HO_101001.out (fun _ hk => ⟨hk.1, hk.2.1⟩)⟩, ⟨by (with_reducible repeat (first | apply Kd.R_alloc | apply Kd.R_drewN | apply Kd.R_drew)); exact Kd.R_mono HO_102001.out (fun _ hk => ⟨hk.1.1, hk.1.2⟩)⟩, ⟨by (with_reducible repeat (first | apply Kd.R_alloc | apply Kd.R_drewN | apply Kd.R_drew)); exact Kd.R_mono HO_103001.out (fun _ hk => ⟨hk.1, hk.2.1⟩)⟩, ⟨qk BK116.out⟩, ⟨qk BK130.out⟩, ⟨qk BK133.out⟩, ⟨qk BK136.out⟩, ⟨qb HB.out⟩⟩
   replace c74 := Bool.eq_false_iff.mpr c74
   subst c74
   rw [if_neg nf] at H
   have H' := Aside0.mk H
   clear H
   have hnb83 := NB136_116.out
   have hnc83 := NB116_136.out
   have hnb84 := NB136_130.out
   have hnc84 := NB130_136.out
   have hnb85 := NB136_133.out
   have hnc85 := NB133_136.out
   have hcz86_0 : w71.cell? ⟨gb136, 0, none⟩ = some (.int .i64 t102) := (blk_cell BK136.out 0).trans rfl
   have hcz86_1 : w71.cell? ⟨gb136, 1, none⟩ = some (.slice Ao38 t123.length co38) := (blk_cell BK136.out 1).trans rfl
   have hfz86_0 := blk_frozen BK136.out 0
   have hfz86_1 := blk_frozen BK136.out 1
   have hnb87 := NB130_116.out
   have hnc87 := NB116_130.out
   have hnb88 := NB130_133.out
   have hnc88 := NB133_130.out
   have hcz89_0 : w71.cell? ⟨gb130, 0, none⟩ = some (.int .i64 t115) := (blk_cell BK130.out 0).trans rfl
   have hcz89_1 : w71.cell? ⟨gb130, 1, none⟩ = some (.slice Ao24 t118.length co24) := (blk_cell BK130.out 1).trans rfl
   have hfz89_0 := blk_frozen BK130.out 0
   have hfz89_1 := blk_frozen BK130.out 1
   go_wp2_with (first | (go_at_call 30; (with_reducible refine (laws_eqNet.calls kj12 t102 _ _ t123 t115 _ _ t118 false _ ?side1 ?side2 ?side3 ?side4 A73.out).mono ?_); (case side1 => exact qc (Kd.R_reads' HO_103001.out).2.2); (case side2 => exact (Kd.R_reads' HO_103001.out).2.1); (case side3 => exact qc (Kd.R_reads' HO_101001.out).2.2); (case side4 => exact (Kd.R_reads' HO_101001.out).2.1); rintro e w90 ⟨rfl, hb⟩; replace HO_101001 := q0 (Kd.R_below (qr HO_101001.out) hb); replace HO_102001 := q0 (Kd.R_below (qr HO_102001.out) hb); replace HO_103001 := q0 (Kd.R_below (qr HO_103001.out) hb); replace HO144 := q0 (Kd.R_below (qr HO144.out) hb); replace BK116 := q0 (kb BK116.out hb); replace BK130 := q0 (kb BK130.out hb); replace BK133 := q0 (kb BK133.out hb); replace BK136 := q0 (kb BK136.out hb); replace HB := q0 (below_step (qb HB.out) hb); (try clear hb); (try clear hb2); (try clear hk); (try clear hi)))
   go_meet
   case rel => exact ⟨_, (true), qs, H', ⟨by have := HJ12.out; first | omega | exact Nat.le_refl _⟩, ⟨by (with_reducible repeat (first | apply Kd.R_alloc | apply Kd.R_drewN | apply Kd.R_drew)); exact Kd.R_mono HO_101001.out (fun _ hk => ⟨hk.1, hk.2.1⟩)⟩, ⟨by (with_reducible repeat (first | apply Kd.R_alloc | apply Kd.R_drewN | apply Kd.R_drew)); exact Kd.R_mono HO_102001.out (fun _ hk => ⟨hk.1.1, hk.1.2⟩)⟩, ⟨by (with_reducible repeat (first | apply Kd.R_alloc | apply Kd.R_drewN | apply Kd.R_drew)); exact Kd.R_mono HO_103001.out (fun _ hk => ⟨hk.1, hk.2.1⟩)⟩, ⟨qk BK116.out⟩, ⟨qk BK130.out⟩, ⟨qk BK133.out⟩, ⟨qk BK136.out⟩, ⟨qb HB.out⟩⟩
 clear HC62
 try clear c2
 try clear p2
 try clear c3
 try clear c4
 try clear c5
 try clear c5b0
 try clear c6
 try clear c7
 try clear c8
 try clear c22
 try clear c26
 try clear c27
 try clear c28
 try clear c29
 try clear c30
 try clear c31
 try clear c34
 try clear c35
 try clear c36
 try clear c40
 try clear c41
 try clear c42
 try clear c43
 try clear c45
 try clear c46
 try clear c49
 try clear c50
 try clear c51
 try clear c53
 try clear c54
 try clear c57
 try clear c60
 try clear c67
 try clear c68
 try clear c69
 try clear c72
 try clear c72b0
 try clear c74
 try clear c75
 try clear c76
 try clear c77
 try clear c79
 try clear c80
 try clear c83
 try clear c84
 try clear c85
 try clear c87
 try clear c88
 try clear hcz15_0
 try clear hcz15_1
 try clear hcz17_0
 try clear hcz17_1
 try clear hcz23_0
 try clear hcz23_1
 try clear hcz25_0
 try clear hcz25_1
 try clear hcz30_0
 try clear hcz30_1
 try clear hcz37_0
 try clear hcz37_1
 try clear hcz44_0
 try clear hcz44_1
 try clear hcz47_0
 try clear hcz47_1
 try clear hcz52_0
 try clear hcz52_1
 try clear hcz55_0
 try clear hcz55_1
 try clear hcz70_0
 try clear hcz70_1
 try clear hcz78_0
 try clear hcz78_1
 try clear hcz7_0
 try clear hcz7_1
 try clear hcz81_0
 try clear hcz81_1
 try clear hcz86_0
 try clear hcz86_1
 try clear hcz89_0
 try clear hcz89_1
 try clear hfz15_0
 try clear hfz15_1
 try clear hfz17_0
 try clear hfz17_1
 try clear hfz23_0
 try clear hfz23_1
 try clear hfz25_0
 try clear hfz25_1
 try clear hfz30_0
 try clear hfz30_1
 try clear hfz37_0
 try clear hfz37_1
 try clear hfz44_0
 try clear hfz44_1
 try clear hfz47_0
 try clear hfz47_1
 try clear hfz52_0
 try clear hfz52_1
 try clear hfz55_0
 try clear hfz55_1
 try clear hfz70_0
 try clear hfz70_1
 try clear hfz78_0
 try clear hfz78_1
 try clear hfz7_0
 try clear hfz7_1
 try clear hfz81_0
 try clear hfz81_1
 try clear hfz86_0
 try clear hfz86_1
 try clear hfz89_0
 try clear hfz89_1
 try clear p2
 obtain ⟨kq, x69_61, rfl, HA, HJ61, HO_101001, HO_102001, HO_103001, BK116, BK130, BK133, BK136, HB⟩ := hcut
 have hl102001_61 := (Kd.R_reads' HO_102001.out).1
 rw [hl102001_61] at HO_102001
 (try simp only [hl102001_61])
 (try simp only [hl102001_61] at BK116)
 (try simp only [hl102001_61] at BK130)
 (try simp only [hl102001_61] at BK133)
 (try simp only [hl102001_61] at BK136)
 (try simp only [hl102001_61] at HO_101001)
 (try simp only [hl102001_61] at HO_103001)
 rcases kq with _ | kj61
 · exact absurd HA.out (by simp [laws_FnExactNetAdd.j1])
 have H := HA.out
 clear HA
 simp only [laws_FnExactNetAdd.j1] at H
 by_cases c91 : x69_61 = true
 · subst c91
   rw [if_pos rfl] at H
   obtain rfl := Option.some.inj H
   go_wp2
   go_ret
   exact ⟨qe, qb HB.out⟩
 replace c91 := Bool.eq_false_iff.mpr c91
 subst c91
 rw [if_neg nf] at H
 replace H := Option.bind_eq_some_iff.mp H
 obtain ⟨⟨t108, t146⟩, A147, H⟩ := H
 have A92 := Aside0.mk A147
 clear A147
 replace H := Option.bind_eq_some_iff.mp H
 obtain ⟨t109, A148, H⟩ := H
 have A93 := Aside0.mk A148
 clear A148
 by_cases c94 : t109 < 0
 · rw [if_pos c94] at H
   have c94b0 : decide (t109 < 0) = true := decide_eq_true c94
   clear c94
   obtain rfl := Option.some.inj H
   have hnb95 := NB136_116.out
   have hnc95 := NB116_136.out
   have hnb96 := NB136_130.out
   have hnc96 := NB130_136.out
   have hnb97 := NB136_133.out
   have hnc97 := NB133_136.out
   have hcz98_0 : wc.cell? ⟨gb136, 0, none⟩ = some (.int .i64 t102) := (blk_cell BK136.out 0).trans rfl
   have hcz98_1 : wc.cell? ⟨gb136, 1, none⟩ = some (.slice Ao38 t123.length co38) := (blk_cell BK136.out 1).trans rfl
   have hfz98_0 := blk_frozen BK136.out 0
   have hfz98_1 := blk_frozen BK136.out 1
   go_wp2_with (first | ((with_reducible refine gate_callee (f := 31) rfl ?_); refine gl 72 Try.func31 #[.agg #[.int .i64 t102, .slice Ao38 t123.length co38], .int .i64 1] ?_; (with_reducible refine (laws_markNet.calls kj61 t102 (fun k_ => some k_ = (.slice Ao38 t123.length co38 : Value).ownBlock) (.slice Ao38 t123.length co38) t123 1 t108 t146 w _ ?side1 ?side2 A92.out).mono ?_); (case side1 => exact qb HB.out); (case side2 => exact Kd.R_tight rfl HO_103001.out); rintro e w99 ⟨rfl, hy0, hb, hkp⟩; refine ⟨_, rfl, ?_⟩; replace HO_101001 := q0 (Kd.R_mono (ok' := fun k_ => some k_ ≠ (.slice Ao31 t141.length co31 : Value).ownBlock ∧ some k_ ≠ (.slice Ao38 t123.length co38 : Value).ownBlock) (Kd.R_keptB (HO_101001.out) hkp (fun k_ hk_ hs_ => (hk_.2) hs_)) (fun k_ hk_ => ⟨hk_.1.1, hk_.1.2⟩)); replace HO_102001 := q0 (Kd.R_mono (ok' := fun k_ => some k_ ≠ (.slice Ao24 t118.length co24 : Value).ownBlock ∧ some k_ ≠ (.slice Ao38 t123.length co38 : Value).ownBlock) (Kd.R_keptB (HO_102001.out) hkp (fun k_ hk_ hs_ => (hk_.2) hs_)) (fun k_ hk_ => ⟨hk_.1.1, hk_.1.2⟩)); replace BK116 := q0 (blk_kept (qk BK116.out) hkp (fun hs_ => (fun e_ => (Kd.R_ne HO_103001.out BK116.out (by decide)) e_) hs_)); replace BK130 := q0 (blk_kept (qk BK130.out) hkp (fun hs_ => (fun e_ => (Kd.R_ne HO_103001.out BK130.out (by decide)) e_) hs_)); replace BK133 := q0 (blk_kept (qk BK133.out) hkp (fun hs_ => (fun e_ => (Kd.R_ne HO_103001.out BK133.out (by decide)) e_) hs_)); replace BK136 := q0 (blk_kept (qk BK136.out) hkp (fun hs_ => (fun e_ => (Kd.R_ne HO_103001.out BK136.out (by decide)) e_) hs_)); replace HO_103001 := q0 (Kd.R_reok rfl hy0 (fun k_ e_ => HO_103001.out.1 k_ e_)); replace HB := q0 (hb); (try clear hb); (try clear hkp); (try clear hy0); have hcz120_0 : w99.cell? ⟨gb136, 0, none⟩ = some (.int .i64 t102) := (blk_cell BK136.out 0).trans rfl; have hcz120_1 : w99.cell? ⟨gb136, 1, none⟩ = some (.slice Ao38 t123.length co38) := (blk_cell BK136.out 1).trans rfl; have hfz120_0 := blk_frozen BK136.out 0; have hfz120_1 := blk_frozen BK136.out 1) | ((with_reducible refine gate_callee (f := 32) rfl ?_); refine goesL_ (some 75) rfl rfl Try.func32 (by kernel_rfl) rfl #[.agg #[.int .i64 t102, .slice Ao38 t146.length co38], .int .i64 1] rfl (by (try simp only [List.map_toArray, List.map_cons, List.map_nil]); first | done | (rw [show t146.length = t123.length from (Kd.R_reads' HO_103001.out).1.symm] <;> rfl) | rfl | (simp only [List.length_drop, List.length_take]; rfl)) ?_; (with_reducible refine (laws_heldNet.calls kj61 t102 _ _ t146 1 t109 _ ?side1 ?side2 A93.out).mono ?_); (case side1 => exact qc (Kd.R_reads' HO_103001.out).2.2); (case side2 => rw [show t146.length = t123.length from (Kd.R_reads' HO_103001.out).1.symm]; exact (Kd.R_reads' HO_103001.out).2.1); rintro e w149 ⟨rfl, hb⟩; refine ⟨_, rfl, ?_⟩; replace HO_101001 := q0 (Kd.R_below (qr HO_101001.out) hb); replace HO_102001 := q0 (Kd.R_below (qr HO_102001.out) hb); replace HO_103001 := q0 (Kd.R_below (qr HO_103001.out) hb); replace BK116 := q0 (kb BK116.out hb); replace BK130 := q0 (kb BK130.out hb); replace BK133 := q0 (kb BK133.out hb); replace BK136 := q0 (kb BK136.out hb); replace HB := q0 (below_step (qb HB.out) hb); (try clear hb); (try clear hb2); (try clear hk); (try clear hi)))
   go_ret
   exact ⟨qe, qb HB.out⟩
 rw [if_neg c94] at H
 have c94b0 : decide (t109 < 0) = false := decide_eq_false c94
 clear c94
 by_cases c150 : t109 = t108
 rotate_left
 · rw [if_neg c150] at H
   have c150b0 : (t109 == t108) = false := beq_eq_false_iff_ne.mpr c150
   have c150b1 : (t109 != t108) = true := bne_iff_ne.mpr c150
   obtain rfl := Option.some.inj H
   have hnb228 := NB136_116.out
   have hnc228 := NB116_136.out
   have hnb229 := NB136_130.out
   have hnc229 := NB130_136.out
   have hnb230 := NB136_133.out
   have hnc230 := NB133_136.out
   have hcz231_0 : wc.cell? ⟨gb136, 0, none⟩ = some (.int .i64 t102) := (blk_cell BK136.out 0).trans rfl
   have hcz231_1 : wc.cell? ⟨gb136, 1, none⟩ = some (.slice Ao38 t123.length co38) := (blk_cell BK136.out 1).trans rfl
   have hfz231_0 := blk_frozen BK136.out 0
   have hfz231_1 := blk_frozen BK136.out 1
   go_wp2_with (first | ((with_reducible refine gate_callee (f := 31) rfl ?_); refine gl 72 Try.func31 #[.agg #[.int .i64 t102, .slice Ao38 t123.length co38], .int .i64 1] ?_; (with_reducible refine (laws_markNet.calls kj61 t102 (fun k_ => some k_ = (.slice Ao38 t123.length co38 : Value).ownBlock) (.slice Ao38 t123.length co38) t123 1 t108 t146 w _ ?side1 ?side2 A92.out).mono ?_); (case side1 => exact qb HB.out); (case side2 => exact Kd.R_tight rfl HO_103001.out); rintro e w232 ⟨rfl, hy0, hb, hkp⟩; refine ⟨_, rfl, ?_⟩; replace HO_101001 := q0 (Kd.R_mono (ok' := fun k_ => some k_ ≠ (.slice Ao31 t141.length co31 : Value).ownBlock ∧ some k_ ≠ (.slice Ao38 t123.length co38 : Value).ownBlock) (Kd.R_keptB (HO_101001.out) hkp (fun k_ hk_ hs_ => (hk_.2) hs_)) (fun k_ hk_ => ⟨hk_.1.1, hk_.1.2⟩)); replace HO_102001 := q0 (Kd.R_mono (ok' := fun k_ => some k_ ≠ (.slice Ao24 t118.length co24 : Value).ownBlock ∧ some k_ ≠ (.slice Ao38 t123.length co38 : Value).ownBlock) (Kd.R_keptB (HO_102001.out) hkp (fun k_ hk_ hs_ => (hk_.2) hs_)) (fun k_ hk_ => ⟨hk_.1.1, hk_.1.2⟩)); replace BK116 := q0 (blk_kept (qk BK116.out) hkp (fun hs_ => (fun e_ => (Kd.R_ne HO_103001.out BK116.out (by decide)) e_) hs_)); replace BK130 := q0 (blk_kept (qk BK130.out) hkp (fun hs_ => (fun e_ => (Kd.R_ne HO_103001.out BK130.out (by decide)) e_) hs_)); replace BK133 := q0 (blk_kept (qk BK133.out) hkp (fun hs_ => (fun e_ => (Kd.R_ne HO_103001.out BK133.out (by decide)) e_) hs_)); replace BK136 := q0 (blk_kept (qk BK136.out) hkp (fun hs_ => (fun e_ => (Kd.R_ne HO_103001.out BK136.out (by decide)) e_) hs_)); replace HO_103001 := q0 (Kd.R_reok rfl hy0 (fun k_ e_ => HO_103001.out.1 k_ e_)); replace HB := q0 (hb); (try clear hb); (try clear hkp); (try clear hy0); have hcz233_0 : w232.cell? ⟨gb136, 0, none⟩ = some (.int .i64 t102) := (blk_cell BK136.out 0).trans rfl; have hcz233_1 : w232.cell? ⟨gb136, 1, none⟩ = some (.slice Ao38 t123.length co38) := (blk_cell BK136.out 1).trans rfl; have hfz233_0 := blk_frozen BK136.out 0; have hfz233_1 := blk_frozen BK136.out 1) | ((with_reducible refine gate_callee (f := 32) rfl ?_); refine goesL_ (some 75) rfl rfl Try.func32 (by kernel_rfl) rfl #[.agg #[.int .i64 t102, .slice Ao38 t146.length co38], .int .i64 1] rfl (by (try simp only [List.map_toArray, List.map_cons, List.map_nil]); first | done | (rw [show t146.length = t123.length from (Kd.R_reads' HO_103001.out).1.symm] <;> rfl) | rfl | (simp only [List.length_drop, List.length_take]; rfl)) ?_; (with_reducible refine (laws_heldNet.calls kj61 t102 _ _ t146 1 t109 _ ?side1 ?side2 A93.out).mono ?_); (case side1 => exact qc (Kd.R_reads' HO_103001.out).2.2); (case side2 => rw [show t146.length = t123.length from (Kd.R_reads' HO_103001.out).1.symm]; exact (Kd.R_reads' HO_103001.out).2.1); rintro e w234 ⟨rfl, hb⟩; refine ⟨_, rfl, ?_⟩; replace HO_101001 := q0 (Kd.R_below (qr HO_101001.out) hb); replace HO_102001 := q0 (Kd.R_below (qr HO_102001.out) hb); replace HO_103001 := q0 (Kd.R_below (qr HO_103001.out) hb); replace BK116 := q0 (kb BK116.out hb); replace BK130 := q0 (kb BK130.out hb); replace BK133 := q0 (kb BK133.out hb); replace BK136 := q0 (kb BK136.out hb); replace HB := q0 (below_step (qb HB.out) hb); (try clear hb); (try clear hb2); (try clear hk); (try clear hi)))
   go_ret
   exact ⟨qe, qb HB.out⟩
 rw [if_pos c150] at H
 have c150b0 : (t109 == t108) = true := beq_iff_eq.mpr c150
 have c150b1 : (t109 != t108) = false := bne_eq_false_iff_eq.mpr c150
 clear c150
 replace H := Option.bind_eq_some_iff.mp H
 obtain ⟨⟨t110, t151⟩, A152, H⟩ := H
 have A153 := Aside0.mk A152
 clear A152
 replace H := Option.bind_eq_some_iff.mp H
 obtain ⟨⟨t111, t154, t155⟩, A156, H⟩ := H
 have A157 := Aside0.mk A156
 clear A156
 have HC158 := Aside0.mk H
 clear H
 have hnb159 := NB136_116.out
 have hnc159 := NB116_136.out
 have hnb160 := NB136_130.out
 have hnc160 := NB130_136.out
 have hnb161 := NB136_133.out
 have hnc161 := NB133_136.out
 have hcz162_0 : wc.cell? ⟨gb136, 0, none⟩ = some (.int .i64 t102) := (blk_cell BK136.out 0).trans rfl
 have hcz162_1 : wc.cell? ⟨gb136, 1, none⟩ = some (.slice Ao38 t123.length co38) := (blk_cell BK136.out 1).trans rfl
 have hfz162_0 := blk_frozen BK136.out 0
 have hfz162_1 := blk_frozen BK136.out 1
 go_upto_region 25 with (first | ((with_reducible refine gate_callee (f := 31) rfl ?_); refine gl 72 Try.func31 #[.agg #[.int .i64 t102, .slice Ao38 t123.length co38], .int .i64 1] ?_; (with_reducible refine (laws_markNet.calls kj61 t102 (fun k_ => some k_ = (.slice Ao38 t123.length co38 : Value).ownBlock) (.slice Ao38 t123.length co38) t123 1 t108 t146 w _ ?side1 ?side2 A92.out).mono ?_); (case side1 => exact qb HB.out); (case side2 => exact Kd.R_tight rfl HO_103001.out); rintro e w122 ⟨rfl, hy0, hb, hkp⟩; refine ⟨_, rfl, ?_⟩; replace HO_101001 := q0 (Kd.R_mono (ok' := fun k_ => some k_ ≠ (.slice Ao31 t141.length co31 : Value).ownBlock ∧ some k_ ≠ (.slice Ao38 t123.length co38 : Value).ownBlock) (Kd.R_keptB (HO_101001.out) hkp (fun k_ hk_ hs_ => (hk_.2) hs_)) (fun k_ hk_ => ⟨hk_.1.1, hk_.1.2⟩)); replace HO_102001 := q0 (Kd.R_mono (ok' := fun k_ => some k_ ≠ (.slice Ao24 t118.length co24 : Value).ownBlock ∧ some k_ ≠ (.slice Ao38 t123.length co38 : Value).ownBlock) (Kd.R_keptB (HO_102001.out) hkp (fun k_ hk_ hs_ => (hk_.2) hs_)) (fun k_ hk_ => ⟨hk_.1.1, hk_.1.2⟩)); replace BK116 := q0 (blk_kept (qk BK116.out) hkp (fun hs_ => (fun e_ => (Kd.R_ne HO_103001.out BK116.out (by decide)) e_) hs_)); replace BK130 := q0 (blk_kept (qk BK130.out) hkp (fun hs_ => (fun e_ => (Kd.R_ne HO_103001.out BK130.out (by decide)) e_) hs_)); replace BK133 := q0 (blk_kept (qk BK133.out) hkp (fun hs_ => (fun e_ => (Kd.R_ne HO_103001.out BK133.out (by decide)) e_) hs_)); replace BK136 := q0 (blk_kept (qk BK136.out) hkp (fun hs_ => (fun e_ => (Kd.R_ne HO_103001.out BK136.out (by decide)) e_) hs_)); replace HO_103001 := q0 (Kd.R_reok rfl hy0 (fun k_ e_ => HO_103001.out.1 k_ e_)); replace HB := q0 (hb); (try clear hb); (try clear hkp); (try clear hy0); have hcz163_0 : w122.cell? ⟨gb136, 0, none⟩ = some (.int .i64 t102) := (blk_cell BK136.out 0).trans rfl; have hcz163_1 : w122.cell? ⟨gb136, 1, none⟩ = some (.slice Ao38 t123.length co38) := (blk_cell BK136.out 1).trans rfl; have hfz163_0 := blk_frozen BK136.out 0; have hfz163_1 := blk_frozen BK136.out 1) | ((with_reducible refine gate_callee (f := 32) rfl ?_); refine goesL_ (some 75) rfl rfl Try.func32 (by kernel_rfl) rfl #[.agg #[.int .i64 t102, .slice Ao38 t146.length co38], .int .i64 1] rfl (by (try simp only [List.map_toArray, List.map_cons, List.map_nil]); first | done | (rw [show t146.length = t123.length from (Kd.R_reads' HO_103001.out).1.symm] <;> rfl) | rfl | (simp only [List.length_drop, List.length_take]; rfl)) ?_; (with_reducible refine (laws_heldNet.calls kj61 t102 _ _ t146 1 t109 _ ?side1 ?side2 A93.out).mono ?_); (case side1 => exact qc (Kd.R_reads' HO_103001.out).2.2); (case side2 => rw [show t146.length = t123.length from (Kd.R_reads' HO_103001.out).1.symm]; exact (Kd.R_reads' HO_103001.out).2.1); rintro e w164 ⟨rfl, hb⟩; refine ⟨_, rfl, ?_⟩; replace HO_101001 := q0 (Kd.R_below (qr HO_101001.out) hb); replace HO_102001 := q0 (Kd.R_below (qr HO_102001.out) hb); replace HO_103001 := q0 (Kd.R_below (qr HO_103001.out) hb); replace BK116 := q0 (kb BK116.out hb); replace BK130 := q0 (kb BK130.out hb); replace BK133 := q0 (kb BK133.out hb); replace BK136 := q0 (kb BK136.out hb); replace HB := q0 (below_step (qb HB.out) hb); (try clear hb); (try clear hb2); (try clear hk); (try clear hi); have hnb165 := NB116_130.out; have hnc165 := NB130_116.out; have hnb166 := NB116_133.out; have hnc166 := NB133_116.out; have hcz167_0 : w164.cell? ⟨gb116, 0, none⟩ = some (.int .i64 a0_0) := (blk_cell BK116.out 0).trans rfl; have hcz167_1 : w164.cell? ⟨gb116, 1, none⟩ = some (.slice A0_1 l0_1.length c0_1) := (blk_cell BK116.out 1).trans rfl; have hfz167_0 := blk_frozen BK116.out 0; have hfz167_1 := blk_frozen BK116.out 1) | ((with_reducible refine gate_callee (f := 28) rfl ?_); refine gl 83 Try.func28 #[.agg #[.int .i64 a0_0, .slice A0_1 l0_1.length c0_1]] ?_; (with_reducible refine (laws_toNet.calls kj61 a0_0 _ _ l0_1 t110 t151 _ ?side1 ?side2 A153.out).mono ?_); (case side1 => exact qc (Kd.C_below HR0_1.out HB.out)); (case side2 => exact HC0_1.out); rintro e w168 ⟨v169, rfl, ho0, hb⟩; refine ⟨_, rfl, ?_⟩; have HO170 := q0 (Kd.R_lower (Kd.R_new' (Kd.R_new' (Kd.R_new' ho0 (Kd.R_lt (qr HO_101001.out))) (Kd.R_lt (qr HO_102001.out))) (Kd.R_lt (qr HO_103001.out))) (below_size (qb HB.out))); replace HO_101001 := q0 (Kd.R_elder' (qr HO_101001.out) (Kd.R_base ho0) hb); replace HO_102001 := q0 (Kd.R_elder' (qr HO_102001.out) (Kd.R_base ho0) hb); replace HO_103001 := q0 (Kd.R_elder' (qr HO_103001.out) (Kd.R_base ho0) hb); replace BK116 := q0 (kb BK116.out hb); replace BK130 := q0 (kb BK130.out hb); replace BK133 := q0 (kb BK133.out hb); replace BK136 := q0 (kb BK136.out hb); replace HB := q0 (below_step (qb HB.out) hb); (try clear hb); (try clear hb2); (try clear hk); (try clear hi); (try clear ho0); obtain ⟨Ao171, co171, eo171⟩ := Kd.R_slice HO170.out; subst eo171) | ((with_reducible refine gate_callee (f := 29) rfl ?_); refine gl 86 Try.func29 #[.agg #[.int .i64 t110, .slice Ao171 t151.length co171], .int .i64 a1, .int .i64 a2] ?_; (with_reducible refine (impl_NetAdd.calls kj61 t110 _ _ t151 a1 a2 t111 t154 t155 _ ?side1 ?side2 A157.out).mono ?_); (case side1 => exact qc (Kd.R_reads' HO170.out).2.2); (case side2 => exact (Kd.R_reads' HO170.out).2.1); rintro e w172 ⟨v173, rfl, ho0, hb⟩; refine ⟨_, rfl, ?_⟩; have HO174 := q0 (Kd.R_lower (Kd.R_new' (Kd.R_new' (Kd.R_new' (Kd.R_new' ho0 (Kd.R_lt (qr HO_101001.out))) (Kd.R_lt (qr HO_102001.out))) (Kd.R_lt (qr HO_103001.out))) (Kd.R_lt (qr HO170.out))) (below_size (qb HB.out))); replace HO_101001 := q0 (Kd.R_elder' (qr HO_101001.out) (Kd.R_base ho0) hb); replace HO_102001 := q0 (Kd.R_elder' (qr HO_102001.out) (Kd.R_base ho0) hb); replace HO_103001 := q0 (Kd.R_elder' (qr HO_103001.out) (Kd.R_base ho0) hb); replace HO170 := q0 (Kd.R_elder' (qr HO170.out) (Kd.R_base ho0) hb); replace BK116 := q0 (kb BK116.out hb); replace BK130 := q0 (kb BK130.out hb); replace BK133 := q0 (kb BK133.out hb); replace BK136 := q0 (kb BK136.out hb); replace HB := q0 (below_step (qb HB.out) hb); (try clear hb); (try clear hb2); (try clear hk); (try clear hi); (try clear ho0)) | ((with_reducible refine gate_dst (N := 16) rfl ?_); refine be 16 #[.int .i64 0, .slice none 0 0] 25 ?_; intro gb175 hg w176 hbox hb; replace HO_101001 := q0 (Kd.R_below (qr HO_101001.out) hb); replace HO_102001 := q0 (Kd.R_below (qr HO_102001.out) hb); replace HO_103001 := q0 (Kd.R_below (qr HO_103001.out) hb); replace HO170 := q0 (Kd.R_below (qr HO170.out) hb); replace HO174 := q0 (Kd.R_below (qr HO174.out) hb); have BK175 := q0 (hbox); have GW175 := q0 ((bs HB.out hg : w.heap.size ≤ gb175)); have GE175 := q0 ((bs HB.out hg : w.heap.size ≤ gb175)); replace HB := q0 (below_step (qb HB.out) hb); have NB116_175 := q0 ((bl BK116.out hg : gb116 ≠ gb175)); have NB175_116 := q0 ((bg BK116.out hg : gb175 ≠ gb116)); replace BK116 := q0 (kb BK116.out hb); have NB130_175 := q0 ((bl BK130.out hg : gb130 ≠ gb175)); have NB175_130 := q0 ((bg BK130.out hg : gb175 ≠ gb130)); replace BK130 := q0 (kb BK130.out hb); have NB133_175 := q0 ((bl BK133.out hg : gb133 ≠ gb175)); have NB175_133 := q0 ((bg BK133.out hg : gb175 ≠ gb133)); replace BK133 := q0 (kb BK133.out hb); have NB136_175 := q0 ((bl BK136.out hg : gb136 ≠ gb175)); have NB175_136 := q0 ((bg BK136.out hg : gb175 ≠ gb136)); replace BK136 := q0 (kb BK136.out hb); clear hb hbox hg; have hnb125 := NB175_116.out; have hnc125 := NB116_175.out; have hnb177 := NB175_130.out; have hnc177 := NB130_175.out; have hnb178 := NB175_133.out; have hnc178 := NB133_175.out; have hnb179 := NB175_136.out; have hnc179 := NB136_175.out; have hcz180_0 : w176.cell? ⟨gb175, 0, none⟩ = some (.int .i64 0) := (blk_cell BK175.out 0).trans rfl; have hcz180_1 : w176.cell? ⟨gb175, 1, none⟩ = some (.slice none 0 0) := (blk_cell BK175.out 1).trans rfl; have hfz180_0 := blk_frozen BK175.out 0; have hfz180_1 := blk_frozen BK175.out 1; obtain ⟨Ao181, co181, eo181⟩ := Kd.R_slice HO174.out; subst eo181))
 (try simp only [Act.put, List.setIfInBounds_toArray, List.set_cons_zero, List.set_cons_succ])
 go_cut [97] (fun v97 wc => ∃ (kq : Nat) (x97_157 : Bool), v97 = .bool x97_157 ∧ Aside0 (laws_FnExactNetAdd.j2 kq t108 x97_157 t102 t146 = some r) ∧ Aside0 (kq ≤ kj61) ∧ Aside0 (Kd.R kTie 32 wc w.heap.size (fun k_ => some k_ ≠ ((.slice Ao31 t141.length co31) : Value).ownBlock ∧ some k_ ≠ ((.slice Ao38 t123.length co38) : Value).ownBlock ∧ some k_ ≠ ((.slice Ao181 t154.length co181) : Value).ownBlock) (.slice Ao24 t118.length co24) t118) ∧ Aside0 (Kd.R kTie 32 wc w.heap.size (fun k_ => some k_ ≠ ((.slice Ao24 t118.length co24) : Value).ownBlock ∧ some k_ ≠ ((.slice Ao38 t123.length co38) : Value).ownBlock ∧ some k_ ≠ ((.slice Ao181 t154.length co181) : Value).ownBlock) (.slice Ao31 t141.length co31) t141) ∧ Aside0 (Kd.R kTie 32 wc w.heap.size (fun k_ => some k_ ≠ ((.slice Ao24 t118.length co24) : Value).ownBlock ∧ some k_ ≠ ((.slice Ao31 t141.length co31) : Value).ownBlock ∧ some k_ ≠ ((.slice Ao181 t154.length co181) : Value).ownBlock) (.slice Ao38 t123.length co38) t146) ∧ Aside0 (Kd.R kTie 32 wc w.heap.size (fun k_ => some k_ ≠ ((.slice Ao24 t118.length co24) : Value).ownBlock ∧ some k_ ≠ ((.slice Ao31 t141.length co31) : Value).ownBlock ∧ some k_ ≠ ((.slice Ao38 t123.length co38) : Value).ownBlock) (.slice Ao181 t154.length co181) t154) ∧ Aside0 (wc.heap[gb116]? = some (.cells #[.int .i64 a0_0, (.slice A0_1 l0_1.length c0_1)] 42 (0, 0))) ∧ Aside0 (wc.heap[gb130]? = some (.cells #[.int .i64 t115, (.slice Ao24 t118.length co24)] 25 (0, 0))) ∧ Aside0 (wc.heap[gb133]? = some (.cells #[.int .i64 t101, (.slice Ao31 t141.length co31)] 25 (0, 0))) ∧ Aside0 (wc.heap[gb136]? = some (.cells #[.int .i64 t102, (.slice Ao38 t123.length co38)] 25 (0, 0))) ∧ Aside0 (wc.heap[gb175]? = some (.cells #[.int .i64 t111, (.slice Ao181 t154.length co181)] 25 (0, 0))) ∧ Aside0 (Below w.heap.size w wc))
 case first =>
   have H := HC158.out
   clear HC158
   replace H := Option.bind_eq_some_iff.mp H
   obtain ⟨t112, A182, H⟩ := H
   have A183 := Aside0.mk A182
   clear A182
   by_cases c184 : t112 = true
   · subst c184
     rw [if_pos rfl] at H
     have H' := Aside0.mk H
     clear H
     have hnb185 := NB175_116.out
     have hnc185 := NB116_175.out
     have hnb186 := NB175_130.out
     have hnc186 := NB130_175.out
     have hnb187 := NB175_133.out
     have hnc187 := NB133_175.out
     have hnb188 := NB175_136.out
     have hnc188 := NB136_175.out
     have hcz189_0 : w176.cell? ⟨gb175, 0, none⟩ = some (.int .i64 0) := (blk_cell BK175.out 0).trans rfl
     have hcz189_1 : w176.cell? ⟨gb175, 1, none⟩ = some (.slice none 0 0) := (blk_cell BK175.out 1).trans rfl
     have hfz189_0 := blk_frozen BK175.out 0
     have hfz189_1 := blk_frozen BK175.out 1
     have hnb190 := NB130_116.out
     have hnc190 := NB116_130.out
     have hnb191 := NB130_133.out
     have hnc191 := NB133_130.out
     have hnb192 := NB130_136.out
     have hnc192 := NB136_130.out
     have hcz193_0 : w176.cell? ⟨gb130, 0, none⟩ = some (.int .i64 t115) := (blk_cell BK130.out 0).trans rfl
     have hcz193_1 : w176.cell? ⟨gb130, 1, none⟩ = some (.slice Ao24 t118.length co24) := (blk_cell BK130.out 1).trans rfl
     have hfz193_0 := blk_frozen BK130.out 0
     have hfz193_1 := blk_frozen BK130.out 1
     go_wp2_with (first | ((with_reducible refine gate_callee (f := 30) rfl ?_); refine gl 91 Try.func30 #[.agg #[.int .i64 t111, .slice Ao181 t154.length co181], .agg #[.int .i64 t115, .slice Ao24 t118.length co24]] ?_; (with_reducible refine (laws_eqNet.calls kj61 t111 _ _ t154 t115 _ _ t118 true _ ?side1 ?side2 ?side3 ?side4 A183.out).mono ?_); (case side1 => refine (Kd.R_reads' (e := 32) (base := w.heap.size) (ok := fun k_ => ((((True ∧ some k_ ≠ (.slice Ao24 t118.length co24 : Value).ownBlock) ∧ some k_ ≠ (.slice Ao31 t141.length co31 : Value).ownBlock) ∧ some k_ ≠ (.slice Ao38 t123.length co38 : Value).ownBlock) ∧ some k_ ≠ (.slice Ao171 t151.length co171 : Value).ownBlock)) (n := t154.length) (c := co181) ?_).2.2; exact (by (with_reducible repeat (first | apply Kd.R_alloc | apply Kd.R_drewN | apply Kd.R_drew)); exact (rf2 HO174.out BK175.out (fun _ h_ => h_.1)))); (case side2 => exact (Kd.R_reads' HO174.out).2.1); (case side3 => refine (Kd.R_reads' (e := 32) (base := w.heap.size) (ok := fun k_ => (((some k_ ≠ (.slice Ao31 t141.length co31 : Value).ownBlock ∧ some k_ ≠ (.slice Ao38 t123.length co38 : Value).ownBlock) ∧ some k_ ≠ (.slice Ao171 t151.length co171 : Value).ownBlock) ∧ some k_ ≠ (.slice Ao181 t154.length co181 : Value).ownBlock)) (n := t118.length) (c := co24) ?_).2.2; exact (by (with_reducible repeat (first | apply Kd.R_alloc | apply Kd.R_drewN | apply Kd.R_drew)); exact (rf2 HO_101001.out BK175.out (fun _ h_ => h_.1)))); (case side4 => exact (Kd.R_reads' HO_101001.out).2.1); rintro e w194 ⟨rfl, hb⟩; refine ⟨_, rfl, ?_⟩; replace HO_101001 := q0 (Kd.R_below (by (with_reducible repeat (first | apply Kd.R_alloc | apply Kd.R_drewN | apply Kd.R_drew)); exact (rf2 HO_101001.out BK175.out (fun _ h_ => h_.1))) hb); replace HO_102001 := q0 (Kd.R_below (by (with_reducible repeat (first | apply Kd.R_alloc | apply Kd.R_drewN | apply Kd.R_drew)); exact (rf2 HO_102001.out BK175.out (fun _ h_ => h_.1))) hb); replace HO_103001 := q0 (Kd.R_below (by (with_reducible repeat (first | apply Kd.R_alloc | apply Kd.R_drewN | apply Kd.R_drew)); exact (rf2 HO_103001.out BK175.out (fun _ h_ => h_.1))) hb); replace HO170 := q0 (Kd.R_below (by (with_reducible repeat (first | apply Kd.R_alloc | apply Kd.R_drewN | apply Kd.R_drew)); exact (rf2 HO170.out BK175.out (fun _ h_ => h_.1))) hb); replace HO174 := q0 (Kd.R_below (by (with_reducible repeat (first | apply Kd.R_alloc | apply Kd.R_drewN | apply Kd.R_drew)); exact (rf2 HO174.out BK175.out (fun _ h_ => h_.1))) hb); replace BK116 := q0 (kf BK116.out hb); replace BK130 := q0 (kf BK130.out hb); replace BK133 := q0 (kf BK133.out hb); replace BK136 := q0 (kf BK136.out hb); replace BK175 := q0 (blk_below (g := gb175) (o := .cells #[.int .i64 t111, .slice Ao181 t154.length co181] 25 (0, 0)) (by (with_reducible repeat (first | refine blk_drewN ?_ _ | refine blk_drew ?_ | refine blk_alloc ?_ _)); refine blk_put (cs := #[.int .i64 t111, .slice none 0 0]) ?_ 1 _ rfl; (with_reducible repeat (first | refine blk_drewN ?_ _ | refine blk_drew ?_ | refine blk_alloc ?_ _)); refine blk_put (cs := #[.int .i64 0, .slice none 0 0]) ?_ 0 _ rfl; (with_reducible repeat (first | refine blk_drewN ?_ _ | refine blk_drew ?_ | refine blk_alloc ?_ _)); exact BK175.out) hb); replace HB := q0 (below_step (qb HB.out) hb); (try clear hb); (try clear hb2); (try clear hk); (try clear hi)))
     go_meet
     case rel => exact ⟨_, ((t155 != t119)), qs, H', ⟨by have := HJ12.out; have := HJ61.out; first | omega | exact Nat.le_refl _⟩, ⟨by (try simp only [hl102001_61]); (with_reducible repeat (first | apply Kd.R_alloc | apply Kd.R_drewN | apply Kd.R_drew)); exact Kd.R_mono HO_101001.out (fun _ hk => ⟨hk.1.1.1, ⟨hk.1.1.2, hk.2⟩⟩)⟩, ⟨by (try simp only [hl102001_61]); (with_reducible repeat (first | apply Kd.R_alloc | apply Kd.R_drewN | apply Kd.R_drew)); exact Kd.R_mono HO_102001.out (fun _ hk => ⟨hk.1.1.1, ⟨hk.1.1.2, hk.2⟩⟩)⟩, ⟨by (try simp only [hl102001_61]); (with_reducible repeat (first | apply Kd.R_alloc | apply Kd.R_drewN | apply Kd.R_drew)); exact Kd.R_mono HO_103001.out (fun _ hk => ⟨hk.1.1.1, ⟨hk.1.1.2, hk.2⟩⟩)⟩, ⟨by (try simp only [hl102001_61]); (with_reducible repeat (first | apply Kd.R_alloc | apply Kd.R_drewN | apply Kd.R_drew)); exact Kd.R_mono HO174.out (fun _ hk => ⟨hk.1.1.1.2, ⟨hk.1.1.2, hk.1.2⟩⟩)⟩, ⟨by (try simp only [hl102001_61]); (with_reducible repeat (first | refine blk_drewN ?_ _ | refine blk_drew ?_ | refine blk_alloc ?_ _)); exact BK116.out⟩, ⟨by (try simp only [hl102001_61]); (with_reducible repeat (first | refine blk_drewN ?_ _ | refine blk_drew ?_ | refine blk_alloc ?_ _)); exact BK130.out⟩, ⟨by (try simp only [hl102001_61]); (with_reducible repeat (first | refine blk_drewN ?_ _ | refine blk_drew ?_ | refine blk_alloc ?_ _)); exact BK133.out⟩, ⟨by (try simp only [hl102001_61]); (with_reducible repeat (first | refine blk_drewN ?_ _ | refine blk_drew ?_ | refine blk_alloc ?_ _)); exact BK136.out⟩, ⟨by (try simp only [hl102001_61]); (with_reducible repeat (first | refine blk_drewN ?_ _ | refine blk_drew ?_ | refine blk_alloc ?_ _)); exact BK175.out⟩, ⟨qb HB.out⟩⟩
   replace c184 := Bool.eq_false_iff.mpr c184
   subst c184
   rw [if_neg nf] at H
   have H' := Aside0.mk H
   clear H
   have hnb195 := NB175_116.out
   have hnc195 := NB116_175.out
   have hnb196 := NB175_130.out
   have hnc196 := NB130_175.out
   have hnb197 := NB175_133.out
   have hnc197 := NB133_175.out
   have hnb198 := NB175_136.out
   have hnc198 := NB136_175.out
   have hcz199_0 : w176.cell? ⟨gb175, 0, none⟩ = some (.int .i64 0) := (blk_cell BK175.out 0).trans rfl
   have hcz199_1 : w176.cell? ⟨gb175, 1, none⟩ = some (.slice none 0 0) := (blk_cell BK175.out 1).trans rfl
   have hfz199_0 := blk_frozen BK175.out 0
   have hfz199_1 := blk_frozen BK175.out 1
   have hnb200 := NB130_116.out
   have hnc200 := NB116_130.out
   have hnb201 := NB130_133.out
   have hnc201 := NB133_130.out
   have hnb202 := NB130_136.out
   have hnc202 := NB136_130.out
   have hcz203_0 : w176.cell? ⟨gb130, 0, none⟩ = some (.int .i64 t115) := (blk_cell BK130.out 0).trans rfl
   have hcz203_1 : w176.cell? ⟨gb130, 1, none⟩ = some (.slice Ao24 t118.length co24) := (blk_cell BK130.out 1).trans rfl
   have hfz203_0 := blk_frozen BK130.out 0
   have hfz203_1 := blk_frozen BK130.out 1
   go_wp2_with (first | ((with_reducible refine gate_callee (f := 30) rfl ?_); refine gl 91 Try.func30 #[.agg #[.int .i64 t111, .slice Ao181 t154.length co181], .agg #[.int .i64 t115, .slice Ao24 t118.length co24]] ?_; (with_reducible refine (laws_eqNet.calls kj61 t111 _ _ t154 t115 _ _ t118 false _ ?side1 ?side2 ?side3 ?side4 A183.out).mono ?_); (case side1 => refine (Kd.R_reads' (e := 32) (base := w.heap.size) (ok := fun k_ => ((((True ∧ some k_ ≠ (.slice Ao24 t118.length co24 : Value).ownBlock) ∧ some k_ ≠ (.slice Ao31 t141.length co31 : Value).ownBlock) ∧ some k_ ≠ (.slice Ao38 t123.length co38 : Value).ownBlock) ∧ some k_ ≠ (.slice Ao171 t151.length co171 : Value).ownBlock)) (n := t154.length) (c := co181) ?_).2.2; exact (by (with_reducible repeat (first | apply Kd.R_alloc | apply Kd.R_drewN | apply Kd.R_drew)); exact (rf2 HO174.out BK175.out (fun _ h_ => h_.1)))); (case side2 => exact (Kd.R_reads' HO174.out).2.1); (case side3 => refine (Kd.R_reads' (e := 32) (base := w.heap.size) (ok := fun k_ => (((some k_ ≠ (.slice Ao31 t141.length co31 : Value).ownBlock ∧ some k_ ≠ (.slice Ao38 t123.length co38 : Value).ownBlock) ∧ some k_ ≠ (.slice Ao171 t151.length co171 : Value).ownBlock) ∧ some k_ ≠ (.slice Ao181 t154.length co181 : Value).ownBlock)) (n := t118.length) (c := co24) ?_).2.2; exact (by (with_reducible repeat (first | apply Kd.R_alloc | apply Kd.R_drewN | apply Kd.R_drew)); exact (rf2 HO_101001.out BK175.out (fun _ h_ => h_.1)))); (case side4 => exact (Kd.R_reads' HO_101001.out).2.1); rintro e w204 ⟨rfl, hb⟩; refine ⟨_, rfl, ?_⟩; replace HO_101001 := q0 (Kd.R_below (by (with_reducible repeat (first | apply Kd.R_alloc | apply Kd.R_drewN | apply Kd.R_drew)); exact (rf2 HO_101001.out BK175.out (fun _ h_ => h_.1))) hb); replace HO_102001 := q0 (Kd.R_below (by (with_reducible repeat (first | apply Kd.R_alloc | apply Kd.R_drewN | apply Kd.R_drew)); exact (rf2 HO_102001.out BK175.out (fun _ h_ => h_.1))) hb); replace HO_103001 := q0 (Kd.R_below (by (with_reducible repeat (first | apply Kd.R_alloc | apply Kd.R_drewN | apply Kd.R_drew)); exact (rf2 HO_103001.out BK175.out (fun _ h_ => h_.1))) hb); replace HO170 := q0 (Kd.R_below (by (with_reducible repeat (first | apply Kd.R_alloc | apply Kd.R_drewN | apply Kd.R_drew)); exact (rf2 HO170.out BK175.out (fun _ h_ => h_.1))) hb); replace HO174 := q0 (Kd.R_below (by (with_reducible repeat (first | apply Kd.R_alloc | apply Kd.R_drewN | apply Kd.R_drew)); exact (rf2 HO174.out BK175.out (fun _ h_ => h_.1))) hb); replace BK116 := q0 (kf BK116.out hb); replace BK130 := q0 (kf BK130.out hb); replace BK133 := q0 (kf BK133.out hb); replace BK136 := q0 (kf BK136.out hb); replace BK175 := q0 (blk_below (g := gb175) (o := .cells #[.int .i64 t111, .slice Ao181 t154.length co181] 25 (0, 0)) (by (with_reducible repeat (first | refine blk_drewN ?_ _ | refine blk_drew ?_ | refine blk_alloc ?_ _)); refine blk_put (cs := #[.int .i64 t111, .slice none 0 0]) ?_ 1 _ rfl; (with_reducible repeat (first | refine blk_drewN ?_ _ | refine blk_drew ?_ | refine blk_alloc ?_ _)); refine blk_put (cs := #[.int .i64 0, .slice none 0 0]) ?_ 0 _ rfl; (with_reducible repeat (first | refine blk_drewN ?_ _ | refine blk_drew ?_ | refine blk_alloc ?_ _)); exact BK175.out) hb); replace HB := q0 (below_step (qb HB.out) hb); (try clear hb); (try clear hb2); (try clear hk); (try clear hi)))
   go_meet
   case rel => exact ⟨_, (true), qs, H', ⟨by have := HJ12.out; have := HJ61.out; first | omega | exact Nat.le_refl _⟩, ⟨by (try simp only [hl102001_61]); (with_reducible repeat (first | apply Kd.R_alloc | apply Kd.R_drewN | apply Kd.R_drew)); exact Kd.R_mono HO_101001.out (fun _ hk => ⟨hk.1.1.1, ⟨hk.1.1.2, hk.2⟩⟩)⟩, ⟨by (try simp only [hl102001_61]); (with_reducible repeat (first | apply Kd.R_alloc | apply Kd.R_drewN | apply Kd.R_drew)); exact Kd.R_mono HO_102001.out (fun _ hk => ⟨hk.1.1.1, ⟨hk.1.1.2, hk.2⟩⟩)⟩, ⟨by (try simp only [hl102001_61]); (with_reducible repeat (first | apply Kd.R_alloc | apply Kd.R_drewN | apply Kd.R_drew)); exact Kd.R_mono HO_103001.out (fun _ hk => ⟨hk.1.1.1, ⟨hk.1.1.2, hk.2⟩⟩)⟩, ⟨by (try simp only [hl102001_61]); (with_reducible repeat (first | apply Kd.R_alloc | apply Kd.R_drewN | apply Kd.R_drew)); exact Kd.R_mono HO174.out (fun _ hk => ⟨hk.1.1.1.2, ⟨hk.1.1.2, hk.1.2⟩⟩)⟩, ⟨by (try simp only [hl102001_61]); (with_reducible repeat (first | refine blk_drewN ?_ _ | refine blk_drew ?_ | refine blk_alloc ?_ _)); exact BK116.out⟩, ⟨by (try simp only [hl102001_61]); (with_reducible repeat (first | refine blk_drewN ?_ _ | refine blk_drew ?_ | refine blk_alloc ?_ _)); exact BK130.out⟩, ⟨by (try simp only [hl102001_61]); (with_reducible repeat (first | refine blk_drewN ?_ _ | refine blk_drew ?_ | refine blk_alloc ?_ _)); exact BK133.out⟩, ⟨by (try simp only [hl102001_61]); (with_reducible repeat (first | refine blk_drewN ?_ _ | refine blk_drew ?_ | refine blk_alloc ?_ _)); exact BK136.out⟩, ⟨by (try simp only [hl102001_61]); (with_reducible repeat (first | refine blk_drewN ?_ _ | refine blk_drew ?_ | refine blk_alloc ?_ _)); exact BK175.out⟩, ⟨qb HB.out⟩⟩
 clear HC158
 try clear c1
 try clear c2
 try clear p2
 try clear c3
 try clear c4
 try clear c5
 try clear c5b0
 try clear c6
 try clear c7
 try clear c8
 try clear c9
 try clear c10
 try clear c11
 try clear c12
 try clear c13
 try clear c14
 try clear c22
 try clear c26
 try clear c27
 try clear c28
 try clear c29
 try clear c30
 try clear c31
 try clear c32
 try clear c34
 try clear c35
 try clear c36
 try clear c40
 try clear c41
 try clear c42
 try clear c43
 try clear c45
 try clear c46
 try clear c49
 try clear c50
 try clear c51
 try clear c53
 try clear c54
 try clear c57
 try clear c60
 try clear c67
 try clear c68
 try clear c69
 try clear c72
 try clear c72b0
 try clear c74
 try clear c75
 try clear c76
 try clear c77
 try clear c79
 try clear c80
 try clear c83
 try clear c84
 try clear c85
 try clear c87
 try clear c88
 try clear c91
 try clear c94
 try clear c94b0
 try clear c95
 try clear c96
 try clear c97
 try clear c150
 try clear c150b0
 try clear c150b1
 try clear c159
 try clear c160
 try clear c161
 try clear c165
 try clear c166
 try clear c125
 try clear c177
 try clear c178
 try clear c179
 try clear c184
 try clear c185
 try clear c186
 try clear c187
 try clear c188
 try clear c190
 try clear c191
 try clear c192
 try clear c195
 try clear c196
 try clear c197
 try clear c198
 try clear c200
 try clear c201
 try clear c202
 try clear hcz120_0
 try clear hcz120_1
 try clear hcz162_0
 try clear hcz162_1
 try clear hcz163_0
 try clear hcz163_1
 try clear hcz167_0
 try clear hcz167_1
 try clear hcz180_0
 try clear hcz180_1
 try clear hcz189_0
 try clear hcz189_1
 try clear hcz193_0
 try clear hcz193_1
 try clear hcz199_0
 try clear hcz199_1
 try clear hcz203_0
 try clear hcz203_1
 try clear hcz15_0
 try clear hcz15_1
 try clear hcz17_0
 try clear hcz17_1
 try clear hcz23_0
 try clear hcz23_1
 try clear hcz25_0
 try clear hcz25_1
 try clear hcz30_0
 try clear hcz30_1
 try clear hcz37_0
 try clear hcz37_1
 try clear hcz44_0
 try clear hcz44_1
 try clear hcz47_0
 try clear hcz47_1
 try clear hcz52_0
 try clear hcz52_1
 try clear hcz55_0
 try clear hcz55_1
 try clear hcz70_0
 try clear hcz70_1
 try clear hcz78_0
 try clear hcz78_1
 try clear hcz7_0
 try clear hcz7_1
 try clear hcz81_0
 try clear hcz81_1
 try clear hcz86_0
 try clear hcz86_1
 try clear hcz89_0
 try clear hcz89_1
 try clear hcz98_0
 try clear hcz98_1
 try clear hfz120_0
 try clear hfz120_1
 try clear hfz162_0
 try clear hfz162_1
 try clear hfz163_0
 try clear hfz163_1
 try clear hfz167_0
 try clear hfz167_1
 try clear hfz180_0
 try clear hfz180_1
 try clear hfz189_0
 try clear hfz189_1
 try clear hfz193_0
 try clear hfz193_1
 try clear hfz199_0
 try clear hfz199_1
 try clear hfz203_0
 try clear hfz203_1
 try clear hfz15_0
 try clear hfz15_1
 try clear hfz17_0
 try clear hfz17_1
 try clear hfz23_0
 try clear hfz23_1
 try clear hfz25_0
 try clear hfz25_1
 try clear hfz30_0
 try clear hfz30_1
 try clear hfz37_0
 try clear hfz37_1
 try clear hfz44_0
 try clear hfz44_1
 try clear hfz47_0
 try clear hfz47_1
 try clear hfz52_0
 try clear hfz52_1
 try clear hfz55_0
 try clear hfz55_1
 try clear hfz70_0
 try clear hfz70_1
 try clear hfz78_0
 try clear hfz78_1
 try clear hfz7_0
 try clear hfz7_1
 try clear hfz81_0
 try clear hfz81_1
 try clear hfz86_0
 try clear hfz86_1
 try clear hfz89_0
 try clear hfz89_1
 try clear hfz98_0
 try clear hfz98_1
 try clear p2
 obtain ⟨kq, x97_157, rfl, HA, HJ157, HO_101001, HO_102001, HO_103001, HO_112001, BK116, BK130, BK133, BK136, BK175, HB⟩ := hcut
 have hl103001_157 := (Kd.R_reads' HO_103001.out).1
 rw [hl103001_157] at HO_103001
 (try simp only [hl103001_157])
 (try simp only [hl103001_157] at BK116)
 (try simp only [hl103001_157] at BK130)
 (try simp only [hl103001_157] at BK133)
 (try simp only [hl103001_157] at BK136)
 (try simp only [hl103001_157] at BK175)
 (try simp only [hl103001_157] at HO_101001)
 (try simp only [hl103001_157] at HO_102001)
 (try simp only [hl103001_157] at HO_112001)
 rcases kq with _ | kj157
 · exact absurd HA.out (by simp [laws_FnExactNetAdd.j2])
 have H := HA.out
 clear HA
 simp only [laws_FnExactNetAdd.j2] at H
 by_cases c205 : x97_157 = true
 · subst c205
   rw [if_pos rfl] at H
   obtain rfl := Option.some.inj H
   go_wp2
   go_ret
   exact ⟨qe, qb HB.out⟩
 replace c205 := Bool.eq_false_iff.mpr c205
 subst c205
 rw [if_neg nf] at H
 replace H := Option.bind_eq_some_iff.mp H
 obtain ⟨t113, A206, H⟩ := H
 have A207 := Aside0.mk A206
 clear A206
 by_cases c208 : t113 < 0
 · rw [if_pos c208] at H
   have c208b0 : decide (t113 < 0) = true := decide_eq_true c208
   clear c208
   obtain rfl := Option.some.inj H
   have hnb209 := NB136_116.out
   have hnc209 := NB116_136.out
   have hnb210 := NB136_130.out
   have hnc210 := NB130_136.out
   have hnb211 := NB136_133.out
   have hnc211 := NB133_136.out
   have hnb212 := NB136_175.out
   have hnc212 := NB175_136.out
   have hcz213_0 : wc.cell? ⟨gb136, 0, none⟩ = some (.int .i64 t102) := (blk_cell BK136.out 0).trans rfl
   have hcz213_1 : wc.cell? ⟨gb136, 1, none⟩ = some (.slice Ao38 t146.length co38) := (blk_cell BK136.out 1).trans rfl
   have hfz213_0 := blk_frozen BK136.out 0
   have hfz213_1 := blk_frozen BK136.out 1
   go_wp2_with (first | ((with_reducible refine gate_callee (f := 32) rfl ?_); refine gl 100 Try.func32 #[.agg #[.int .i64 t102, .slice Ao38 t146.length co38], .int .i64 1] ?_; (with_reducible refine (laws_heldNet.calls kj157 t102 _ _ t146 1 t113 _ ?side1 ?side2 A207.out).mono ?_); (case side1 => exact qc (Kd.R_reads' HO_103001.out).2.2); (case side2 => exact (Kd.R_reads' HO_103001.out).2.1); rintro e w214 ⟨rfl, hb⟩; refine ⟨_, rfl, ?_⟩; replace HO_101001 := q0 (Kd.R_below (qr HO_101001.out) hb); replace HO_102001 := q0 (Kd.R_below (qr HO_102001.out) hb); replace HO_103001 := q0 (Kd.R_below (qr HO_103001.out) hb); replace HO_112001 := q0 (Kd.R_below (qr HO_112001.out) hb); replace BK116 := q0 (kb BK116.out hb); replace BK130 := q0 (kb BK130.out hb); replace BK133 := q0 (kb BK133.out hb); replace BK136 := q0 (kb BK136.out hb); replace BK175 := q0 (kb BK175.out hb); replace HB := q0 (below_step (qb HB.out) hb); (try clear hb); (try clear hb2); (try clear hk); (try clear hi)))
   go_ret
   exact ⟨qe, qb HB.out⟩
 rw [if_neg c208] at H
 have c208b0 : decide (t113 < 0) = false := decide_eq_false c208
 clear c208
 by_cases c215 : t113 = t108
 rotate_left
 · rw [if_neg c215] at H
   have c215b0 : (t113 == t108) = false := beq_eq_false_iff_ne.mpr c215
   have c215b1 : (t113 != t108) = true := bne_iff_ne.mpr c215
   obtain rfl := Option.some.inj H
   have hnb222 := NB136_116.out
   have hnc222 := NB116_136.out
   have hnb223 := NB136_130.out
   have hnc223 := NB130_136.out
   have hnb224 := NB136_133.out
   have hnc224 := NB133_136.out
   have hnb225 := NB136_175.out
   have hnc225 := NB175_136.out
   have hcz226_0 : wc.cell? ⟨gb136, 0, none⟩ = some (.int .i64 t102) := (blk_cell BK136.out 0).trans rfl
   have hcz226_1 : wc.cell? ⟨gb136, 1, none⟩ = some (.slice Ao38 t146.length co38) := (blk_cell BK136.out 1).trans rfl
   have hfz226_0 := blk_frozen BK136.out 0
   have hfz226_1 := blk_frozen BK136.out 1
   go_wp2_with (first | ((with_reducible refine gate_callee (f := 32) rfl ?_); refine gl 100 Try.func32 #[.agg #[.int .i64 t102, .slice Ao38 t146.length co38], .int .i64 1] ?_; (with_reducible refine (laws_heldNet.calls kj157 t102 _ _ t146 1 t113 _ ?side1 ?side2 A207.out).mono ?_); (case side1 => exact qc (Kd.R_reads' HO_103001.out).2.2); (case side2 => exact (Kd.R_reads' HO_103001.out).2.1); rintro e w227 ⟨rfl, hb⟩; refine ⟨_, rfl, ?_⟩; replace HO_101001 := q0 (Kd.R_below (qr HO_101001.out) hb); replace HO_102001 := q0 (Kd.R_below (qr HO_102001.out) hb); replace HO_103001 := q0 (Kd.R_below (qr HO_103001.out) hb); replace HO_112001 := q0 (Kd.R_below (qr HO_112001.out) hb); replace BK116 := q0 (kb BK116.out hb); replace BK130 := q0 (kb BK130.out hb); replace BK133 := q0 (kb BK133.out hb); replace BK136 := q0 (kb BK136.out hb); replace BK175 := q0 (kb BK175.out hb); replace HB := q0 (below_step (qb HB.out) hb); (try clear hb); (try clear hb2); (try clear hk); (try clear hi)))
   go_ret
   exact ⟨qe, qb HB.out⟩
 rw [if_pos c215] at H
 have c215b0 : (t113 == t108) = true := beq_iff_eq.mpr c215
 have c215b1 : (t113 != t108) = false := bne_eq_false_iff_eq.mpr c215
 clear c215
 obtain rfl := Option.some.inj H
 have hnb216 := NB136_116.out
 have hnc216 := NB116_136.out
 have hnb217 := NB136_130.out
 have hnc217 := NB130_136.out
 have hnb218 := NB136_133.out
 have hnc218 := NB133_136.out
 have hnb219 := NB136_175.out
 have hnc219 := NB175_136.out
 have hcz220_0 : wc.cell? ⟨gb136, 0, none⟩ = some (.int .i64 t102) := (blk_cell BK136.out 0).trans rfl
 have hcz220_1 : wc.cell? ⟨gb136, 1, none⟩ = some (.slice Ao38 t146.length co38) := (blk_cell BK136.out 1).trans rfl
 have hfz220_0 := blk_frozen BK136.out 0
 have hfz220_1 := blk_frozen BK136.out 1
 go_wp2_with (first | ((with_reducible refine gate_callee (f := 32) rfl ?_); refine gl 100 Try.func32 #[.agg #[.int .i64 t102, .slice Ao38 t146.length co38], .int .i64 1] ?_; (with_reducible refine (laws_heldNet.calls kj157 t102 _ _ t146 1 t113 _ ?side1 ?side2 A207.out).mono ?_); (case side1 => exact qc (Kd.R_reads' HO_103001.out).2.2); (case side2 => exact (Kd.R_reads' HO_103001.out).2.1); rintro e w221 ⟨rfl, hb⟩; refine ⟨_, rfl, ?_⟩; replace HO_101001 := q0 (Kd.R_below (qr HO_101001.out) hb); replace HO_102001 := q0 (Kd.R_below (qr HO_102001.out) hb); replace HO_103001 := q0 (Kd.R_below (qr HO_103001.out) hb); replace HO_112001 := q0 (Kd.R_below (qr HO_112001.out) hb); replace BK116 := q0 (kb BK116.out hb); replace BK130 := q0 (kb BK130.out hb); replace BK133 := q0 (kb BK133.out hb); replace BK136 := q0 (kb BK136.out hb); replace BK175 := q0 (kb BK175.out hb); replace HB := q0 (below_step (qb HB.out) hb); (try clear hb); (try clear hb2); (try clear hk); (try clear hi)))
 go_ret
 exact ⟨qe, qb HB.out⟩

end Go.Proofs.Ytgoembpmhlmafaa.P
