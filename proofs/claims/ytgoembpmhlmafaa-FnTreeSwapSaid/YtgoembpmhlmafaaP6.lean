import Derived.Test.YtgoembpmhlmafaaP0
import Derived.Test.YtgoembpmhlmafaaP1
import Derived.Test.YtgoembpmhlmafaaS
namespace Go.Proofs.Ytgoembpmhlmafaa.P
open Go.RowKit Go.Proofs.YtgoembpmhlmafaaW.PrintWords Go.Proofs.YtgoembpmhlmafaaW.PrintLast Go.Proofs.YtgoembpmhlmafaaW.PrintMore
attribute [local go_sem] max2_int min2_int max_two min_two max_three min_three max_four min_four
set_option linter.unusedVariables false
set_option linter.unusedSimpArgs false
attribute [local go_sem high] eqATie

def impl_NetAdd.T3 : Bool × List (List Nat × List Nat) := (true, [([], []), ([0], [0]), ([], []), ([], []), ([3], [3]), ([2, 4], [2, 4]), ([], []), ([], []), ([6, 7, 5], [6, 7]), ([8], [8]), ([5, 9, 8], [5, 9]), ([1, 10], [1, 10]), ([], []), ([12, 11, 10, 0, 1, 2, 3, 4, 5, 6, 7, 8, 9, 10, 11, 12], [11, 12])])
def impl_NetAdd.B3 : List Nat := [0, 1, 0, 0, 8, 28, 0, 0, 252, 508, 1020, 2047, 0, 8191]
theorem impl_NetAdd.tab3 : rtab .any (opsOf Try.f29 3) = impl_NetAdd.T3 := by kernel_rfl
theorem impl_NetAdd.bits3 : waitsOk impl_NetAdd.T3.2 impl_NetAdd.B3 = true := by kernel_rfl
set_option maxHeartbeats 8000000 in
set_option maxRecDepth 100000 in
theorem impl_NetAdd.calls (k : Nat) (a0_0 : Int) (A0_1 : Option Addr) (c0_1 : Nat) (l0_1 : List (STie)) (a1 : Int) (a2 : Int) (r1 : Int) (r2 : List (STie)) (r3 : Bool) (w : World) (hr0_1 : Kd.C kTie w A0_1 l0_1.length l0_1) (hc0_1 : l0_1.length ≤ c0_1) (h : impl_NetAdd.f k a0_0 l0_1 a1 a2 = some (r1, r2, r3)) :
  Calls Try.prog 29 #[.agg #[.int .i64 a0_0, .slice A0_1 l0_1.length c0_1], .int .i64 a1, .int .i64 a2] w fun e w' => ∃ v1_ : Value, e = .returned (.tuple #[.agg #[.int .i64 r1, v1_], .bool r3]) ∧ Kd.R kTie 32 w' w.heap.size (fun _ => True) v1_ r2 ∧ Below w.heap.size w w' := by
 have hu25 := Try.underlying25
 have HR0_1 := q0 hr0_1
 have HC0_1 := q0 hc0_1
 clear hr0_1 hc0_1
 have HB := q0 (Below.refl w.heap.size w)
 have H : ((impl_NetOk.f k a0_0 l0_1).bind fun t106 => (if t106 = true then ((impl_Net_knot.f a0_0 l0_1 a1).bind fun t107 => (if t107 = true then ((impl_Net_knot.f a0_0 l0_1 a2).bind fun t108 => (if t108 = true then (if a1 = a2 then (impl_NetAdd.j0 k a1 a2 true a0_0 l0_1) else ((impl_Net_has.f k a0_0 l0_1 a1 a2).bind fun t109 => (impl_NetAdd.j0 k a1 a2 t109 a0_0 l0_1))) else (impl_NetAdd.j0 k a1 a2 true a0_0 l0_1))) else (impl_NetAdd.j0 k a1 a2 true a0_0 l0_1))) else (impl_NetAdd.j0 k a1 a2 true a0_0 l0_1))) = some (r1, r2, r3) := h
 clear h
 have HC4 := q0 H
 clear H
 go_enter Try.func29, Try.ntmps29
 go_upto_region 1 with (first | ((with_reducible refine gd 3 ?_); refine be 3 #[.int .i64 a0_0, .slice A0_1 l0_1.length c0_1] 25 ?_; intro gb110 hg w5 hbox hb; have BK110 := q0 (hbox); have GW110 := gw HB hg; have GE110 := gw HB hg; replace HB := bp HB hb; clear hb hbox hg) | ((with_reducible refine gd 6 ?_); refine be 6 #[.int .i64 0, .slice none 0 0] 25 ?_; intro gb100 hg w6 hbox hb; have BK100 := q0 (hbox); have GW100 := gw HB hg; have GE100 := gw HB hg; replace HB := bp HB hb; have NB110_100 := nl BK110 hg; have NB100_110 := ng BK110 hg; replace BK110 := kd BK110 hb; clear hb hbox hg))
 (try simp only [Act.put, List.setIfInBounds_toArray, List.set_cons_zero, List.set_cons_succ])
 go_cut [34] (fun v34 wc => ∃ (kq : Nat) (x34_3 : Bool), v34 = .bool x34_3 ∧ Aside0 (impl_NetAdd.j0 kq a1 a2 x34_3 a0_0 l0_1 = some (r1, r2, r3)) ∧ Aside0 (kq ≤ k) ∧ Aside0 (wc.heap[gb110]? = some (.cells #[.int .i64 a0_0, (.slice A0_1 l0_1.length c0_1)] 25 (0, 0))) ∧ Aside0 (wc.heap[gb100]? = some (.cells #[.int .i64 0, (.slice none 0 0)] 25 (0, 0))) ∧ Aside0 (Below w.heap.size w wc))
 case first =>
  have H := HC4.out
  clear HC4
  obtain ⟨t106, A7, H⟩ := ob H
  by_cases c8 : t106 = true
  rotate_left
  ·replace c8 := Bool.eq_false_iff.mpr c8
   subst c8
   rw [if_neg nf] at H
   have H' := q0 H
   clear H
   have hnb43 := NB110_100.out
   have hnc43 := NB100_110.out
   obtain ⟨hcz44_0, hcz44_1, hfz44_0, hfz44_1⟩ := b2 BK110
   go_wp2_with (first | ((with_reducible refine gf 37 ?_); refine gl 10 Try.func37 #[.agg #[.int .i64 a0_0, .slice A0_1 l0_1.length c0_1]] ?_; (with_reducible refine (impl_NetOk.calls k a0_0 _ _ l0_1 false _ ?side1 ?side2 A7.out).mono ?_); (case side1 => exact qc (Kd.C_below HR0_1.out HB.out)); (case side2 => exact HC0_1.out); rintro e w45 ⟨rfl, hb⟩; refine ⟨_, rfl, ?_⟩; replace BK110 := kd BK110 hb; replace BK100 := kd BK100 hb; replace HB := bp HB hb; (try clear hb); (try clear hb2); (try clear hk); (try clear hi)))
   go_meet
   case rel => exact ⟨_, (true), qs, H', ⟨by first | omega | exact Nat.le_refl _⟩, ⟨qk BK110.out⟩, ⟨qk BK100.out⟩, ⟨qb HB.out⟩⟩
  subst c8
  rw [if_pos rfl] at H
  obtain ⟨t107, A9, H⟩ := ob H
  by_cases c10 : t107 = true
  rotate_left
  ·replace c10 := Bool.eq_false_iff.mpr c10
   subst c10
   rw [if_neg nf] at H
   have H' := q0 H
   clear H
   have hnb38 := NB110_100.out
   have hnc38 := NB100_110.out
   obtain ⟨hcz39_0, hcz39_1, hfz39_0, hfz39_1⟩ := b2 BK110
   go_wp2_with (first | ((with_reducible refine gf 37 ?_); refine gl 10 Try.func37 #[.agg #[.int .i64 a0_0, .slice A0_1 l0_1.length c0_1]] ?_; (with_reducible refine (impl_NetOk.calls k a0_0 _ _ l0_1 true _ ?side1 ?side2 A7.out).mono ?_); (case side1 => exact qc (Kd.C_below HR0_1.out HB.out)); (case side2 => exact HC0_1.out); rintro e w40 ⟨rfl, hb⟩; refine ⟨_, rfl, ?_⟩; replace BK110 := kd BK110 hb; replace BK100 := kd BK100 hb; replace HB := bp HB hb; (try clear hb); (try clear hb2); (try clear hk); (try clear hi); obtain ⟨hcz41_0, hcz41_1, hfz41_0, hfz41_1⟩ := b2 BK110) | (go_at_call 57; (with_reducible refine (impl_Net_knot.calls a0_0 _ _ l0_1 a1 false _ ?side1 ?side2 A9.out).mono ?_); (case side1 => exact qc (Kd.C_below HR0_1.out HB.out)); (case side2 => exact HC0_1.out); rintro e w42 ⟨rfl, hb⟩; replace BK110 := kd BK110 hb; replace BK100 := kd BK100 hb; replace HB := bp HB hb; (try clear hb); (try clear hb2); (try clear hk); (try clear hi)))
   go_meet
   case rel => exact ⟨_, (true), qs, H', ⟨by first | omega | exact Nat.le_refl _⟩, ⟨qk BK110.out⟩, ⟨qk BK100.out⟩, ⟨qb HB.out⟩⟩
  subst c10
  rw [if_pos rfl] at H
  obtain ⟨t108, A11, H⟩ := ob H
  by_cases c12 : t108 = true
  rotate_left
  ·replace c12 := Bool.eq_false_iff.mpr c12
   subst c12
   rw [if_neg nf] at H
   have H' := q0 H
   clear H
   have hnb31 := NB110_100.out
   have hnc31 := NB100_110.out
   obtain ⟨hcz32_0, hcz32_1, hfz32_0, hfz32_1⟩ := b2 BK110
   go_wp2_with (first | ((with_reducible refine gf 37 ?_); refine gl 10 Try.func37 #[.agg #[.int .i64 a0_0, .slice A0_1 l0_1.length c0_1]] ?_; (with_reducible refine (impl_NetOk.calls k a0_0 _ _ l0_1 true _ ?side1 ?side2 A7.out).mono ?_); (case side1 => exact qc (Kd.C_below HR0_1.out HB.out)); (case side2 => exact HC0_1.out); rintro e w33 ⟨rfl, hb⟩; refine ⟨_, rfl, ?_⟩; replace BK110 := kd BK110 hb; replace BK100 := kd BK100 hb; replace HB := bp HB hb; (try clear hb); (try clear hb2); (try clear hk); (try clear hi); obtain ⟨hcz34_0, hcz34_1, hfz34_0, hfz34_1⟩ := b2 BK110) | (go_at_call 57; (with_reducible refine (impl_Net_knot.calls a0_0 _ _ l0_1 a1 true _ ?side1 ?side2 A9.out).mono ?_); (case side1 => exact qc (Kd.C_below HR0_1.out HB.out)); (case side2 => exact HC0_1.out); rintro e w35 ⟨rfl, hb⟩; replace BK110 := kd BK110 hb; replace BK100 := kd BK100 hb; replace HB := bp HB hb; (try clear hb); (try clear hb2); (try clear hk); (try clear hi); obtain ⟨hcz36_0, hcz36_1, hfz36_0, hfz36_1⟩ := b2 BK110) | (go_at_call 57; (with_reducible refine (impl_Net_knot.calls a0_0 _ _ l0_1 a2 false _ ?side1 ?side2 A11.out).mono ?_); (case side1 => exact qc (Kd.C_below HR0_1.out HB.out)); (case side2 => exact HC0_1.out); rintro e w37 ⟨rfl, hb⟩; replace BK110 := kd BK110 hb; replace BK100 := kd BK100 hb; replace HB := bp HB hb; (try clear hb); (try clear hb2); (try clear hk); (try clear hi)))
   go_meet
   case rel => exact ⟨_, (true), qs, H', ⟨by first | omega | exact Nat.le_refl _⟩, ⟨qk BK110.out⟩, ⟨qk BK100.out⟩, ⟨qb HB.out⟩⟩
  subst c12
  rw [if_pos rfl] at H
  by_cases c13 : a1 = a2
  ·rw [if_pos c13] at H
   have c13b0 : (a1 == a2) = true := beq_iff_eq.mpr c13
   have c13b1 : (a1 != a2) = false := bne_eq_false_iff_eq.mpr c13
   clear c13
   (first | rw [c13b0] | (simp only [i64_w, i32_w]; rw [c13b0]) | skip)
   have H' := q0 H
   clear H
   have hnb14 := NB110_100.out
   have hnc14 := NB100_110.out
   obtain ⟨hcz15_0, hcz15_1, hfz15_0, hfz15_1⟩ := b2 BK110
   go_wp2_with (first | ((with_reducible refine gf 37 ?_); refine gl 10 Try.func37 #[.agg #[.int .i64 a0_0, .slice A0_1 l0_1.length c0_1]] ?_; (with_reducible refine (impl_NetOk.calls k a0_0 _ _ l0_1 true _ ?side1 ?side2 A7.out).mono ?_); (case side1 => exact qc (Kd.C_below HR0_1.out HB.out)); (case side2 => exact HC0_1.out); rintro e w16 ⟨rfl, hb⟩; refine ⟨_, rfl, ?_⟩; replace BK110 := kd BK110 hb; replace BK100 := kd BK100 hb; replace HB := bp HB hb; (try clear hb); (try clear hb2); (try clear hk); (try clear hi); obtain ⟨hcz17_0, hcz17_1, hfz17_0, hfz17_1⟩ := b2 BK110) | (go_at_call 57; (with_reducible refine (impl_Net_knot.calls a0_0 _ _ l0_1 a1 true _ ?side1 ?side2 A9.out).mono ?_); (case side1 => exact qc (Kd.C_below HR0_1.out HB.out)); (case side2 => exact HC0_1.out); rintro e w18 ⟨rfl, hb⟩; replace BK110 := kd BK110 hb; replace BK100 := kd BK100 hb; replace HB := bp HB hb; (try clear hb); (try clear hb2); (try clear hk); (try clear hi); obtain ⟨hcz19_0, hcz19_1, hfz19_0, hfz19_1⟩ := b2 BK110) | (go_at_call 57; (with_reducible refine (impl_Net_knot.calls a0_0 _ _ l0_1 a2 true _ ?side1 ?side2 A11.out).mono ?_); (case side1 => exact qc (Kd.C_below HR0_1.out HB.out)); (case side2 => exact HC0_1.out); rintro e w20 ⟨rfl, hb⟩; replace BK110 := kd BK110 hb; replace BK100 := kd BK100 hb; replace HB := bp HB hb; (try clear hb); (try clear hb2); (try clear hk); (try clear hi)))
   go_meet
   case rel => exact ⟨_, (true), qs, H', ⟨by first | omega | exact Nat.le_refl _⟩, ⟨qk BK110.out⟩, ⟨qk BK100.out⟩, ⟨qb HB.out⟩⟩
  rw [if_neg c13] at H
  have c13b0 : (a1 == a2) = false := beq_eq_false_iff_ne.mpr c13
  have c13b1 : (a1 != a2) = true := bne_iff_ne.mpr c13
  (first | rw [c13b0] | (simp only [i64_w, i32_w]; rw [c13b0]) | skip)
  obtain ⟨t109, A21, H⟩ := ob H
  have H' := q0 H
  clear H
  have hnb22 := NB110_100.out
  have hnc22 := NB100_110.out
  obtain ⟨hcz23_0, hcz23_1, hfz23_0, hfz23_1⟩ := b2 BK110
  go_wp2_with (first | ((with_reducible refine gf 37 ?_); refine gl 10 Try.func37 #[.agg #[.int .i64 a0_0, .slice A0_1 l0_1.length c0_1]] ?_; (with_reducible refine (impl_NetOk.calls k a0_0 _ _ l0_1 true _ ?side1 ?side2 A7.out).mono ?_); (case side1 => exact qc (Kd.C_below HR0_1.out HB.out)); (case side2 => exact HC0_1.out); rintro e w24 ⟨rfl, hb⟩; refine ⟨_, rfl, ?_⟩; replace BK110 := kd BK110 hb; replace BK100 := kd BK100 hb; replace HB := bp HB hb; (try clear hb); (try clear hb2); (try clear hk); (try clear hi); obtain ⟨hcz25_0, hcz25_1, hfz25_0, hfz25_1⟩ := b2 BK110) | (go_at_call 57; (with_reducible refine (impl_Net_knot.calls a0_0 _ _ l0_1 a1 true _ ?side1 ?side2 A9.out).mono ?_); (case side1 => exact qc (Kd.C_below HR0_1.out HB.out)); (case side2 => exact HC0_1.out); rintro e w26 ⟨rfl, hb⟩; replace BK110 := kd BK110 hb; replace BK100 := kd BK100 hb; replace HB := bp HB hb; (try clear hb); (try clear hb2); (try clear hk); (try clear hi); obtain ⟨hcz27_0, hcz27_1, hfz27_0, hfz27_1⟩ := b2 BK110) | (go_at_call 57; (with_reducible refine (impl_Net_knot.calls a0_0 _ _ l0_1 a2 true _ ?side1 ?side2 A11.out).mono ?_); (case side1 => exact qc (Kd.C_below HR0_1.out HB.out)); (case side2 => exact HC0_1.out); rintro e w28 ⟨rfl, hb⟩; replace BK110 := kd BK110 hb; replace BK100 := kd BK100 hb; replace HB := bp HB hb; (try clear hb); (try clear hb2); (try clear hk); (try clear hi); obtain ⟨hcz29_0, hcz29_1, hfz29_0, hfz29_1⟩ := b2 BK110) | (go_at_call 71; (with_reducible refine (impl_Net_has.calls k a0_0 _ _ l0_1 a1 a2 t109 _ ?side1 ?side2 A21.out).mono ?_); (case side1 => exact qc (Kd.C_below HR0_1.out HB.out)); (case side2 => exact HC0_1.out); rintro e w30 ⟨rfl, hb⟩; replace BK110 := kd BK110 hb; replace BK100 := kd BK100 hb; replace HB := bp HB hb; (try clear hb); (try clear hb2); (try clear hk); (try clear hi)))
  go_meet
  case rel => exact ⟨_, (t109), qs, H', ⟨by first | omega | exact Nat.le_refl _⟩, ⟨qk BK110.out⟩, ⟨qk BK100.out⟩, ⟨qb HB.out⟩⟩
 clear HC4
 try clear c1
 try clear c2
 try clear p2
 try clear c3
 try clear c4
 try clear c8
 try clear c10
 try clear c12
 try clear c13
 try clear c13b0
 try clear c13b1
 try clear c14
 try clear c22
 try clear c29
 try clear c31
 try clear c37
 try clear c38
 try clear c43
 try clear hcz15_0
 try clear hcz15_1
 try clear hcz17_0
 try clear hcz17_1
 try clear hcz19_0
 try clear hcz19_1
 try clear hcz23_0
 try clear hcz23_1
 try clear hcz25_0
 try clear hcz25_1
 try clear hcz27_0
 try clear hcz27_1
 try clear hcz29_0
 try clear hcz29_1
 try clear hcz32_0
 try clear hcz32_1
 try clear hcz34_0
 try clear hcz34_1
 try clear hcz36_0
 try clear hcz36_1
 try clear hcz39_0
 try clear hcz39_1
 try clear hcz41_0
 try clear hcz41_1
 try clear hcz44_0
 try clear hcz44_1
 try clear hfz15_0
 try clear hfz15_1
 try clear hfz17_0
 try clear hfz17_1
 try clear hfz19_0
 try clear hfz19_1
 try clear hfz23_0
 try clear hfz23_1
 try clear hfz25_0
 try clear hfz25_1
 try clear hfz27_0
 try clear hfz27_1
 try clear hfz29_0
 try clear hfz29_1
 try clear hfz32_0
 try clear hfz32_1
 try clear hfz34_0
 try clear hfz34_1
 try clear hfz36_0
 try clear hfz36_1
 try clear hfz39_0
 try clear hfz39_1
 try clear hfz41_0
 try clear hfz41_1
 try clear hfz44_0
 try clear hfz44_1
 obtain ⟨kq, x34_3, rfl, HA, HJ3, BK110, BK100, HB⟩ := hcut
 rcases kq with _ | kj3
 ·exact absurd HA.out (by simp [impl_NetAdd.j0])
 have H := HA.out
 clear HA
 simp only [impl_NetAdd.j0] at H
 by_cases c46 : x34_3 = true
 ·subst c46
  rw [if_pos rfl] at H
  simp only [Option.some.injEq, Prod.mk.injEq] at H
  obtain ⟨rfl, rfl, rfl⟩ := H
  have hnb47 := NB100_110.out
  have hnc47 := NB110_100.out
  obtain ⟨hcz48_0, hcz48_1, hfz48_0, hfz48_1⟩ := b2 BK100
  go_wp2
  refine bodyPost_ret (results_ct rfl _ _ gb100 25 #[.int .i64 0, .slice none 0 0] (0, 0) _ rfl (by (with_reducible repeat (first | refine blk_drewN ?_ _ | refine blk_drew ?_ | refine blk_alloc ?_ _)); refine blk_put (cs := #[.int .i64 0, .slice none 0 0]) ?_ 1 _ rfl; (with_reducible repeat (first | refine blk_drewN ?_ _ | refine blk_drew ?_ | refine blk_alloc ?_ _)); refine blk_put (cs := #[.int .i64 0, .slice none 0 0]) ?_ 0 _ rfl; (with_reducible repeat (first | refine blk_drewN ?_ _ | refine blk_drew ?_ | refine blk_alloc ?_ _)); exact BK100.out) Try.underlying25 rfl (by kernel_rfl)) rfl ?_
  exact ⟨_, qe, by first | exact Kd.R_nil _ _ _ _ _ | exact Kd.N_nil _ _ _ _ _ | exact Kd.V_nil _ _ _ _ _ | exact Kd.Q_nil _ _ _ _ _ | exact Kd.S_nil _ _ _ _ _, qb HB.out⟩
 replace c46 := Bool.eq_false_iff.mpr c46
 subst c46
 rw [if_neg nf] at H
 obtain ⟨y101, hy101⟩ : ∃ y_ : List (STie), y_ = (([] : List (STie))) := ⟨_, rfl⟩
 replace H : (if y101.length + l0_1.length < 8796093022208 then ((some (y101 ++ l0_1 : List (STie))).bind fun y102 => ((impl_tie.f a1 a2).bind fun bt103 => ((some (([(⟨bt103.1, bt103.2⟩ : STie)] : List (STie)) : List (STie))).bind fun y104 => (if y102.length + y104.length < 8796093022208 then ((slices_SortFunc_Tie.f kj3 (y102 ++ y104)).bind fun t105 => (some (a0_0, t105, true))) else (none))))) else (none)) = some (r1, r2, r3) := qy H hy101
 have Ny101 := q0 hy101
 clear hy101
 obtain ⟨c49, H⟩ : (y101.length + l0_1.length < 8796093022208) ∧ _ := og H
 have LMc49 := q0 c49
 clear c49
 obtain ⟨y102, hy102⟩ : ∃ y_ : List (STie), y_ = (y101 ++ l0_1) := ⟨_, rfl⟩
 replace H : ((impl_tie.f a1 a2).bind fun bt103 => ((some (([(⟨bt103.1, bt103.2⟩ : STie)] : List (STie)) : List (STie))).bind fun y104 => (if y102.length + y104.length < 8796093022208 then ((slices_SortFunc_Tie.f kj3 (y102 ++ y104)).bind fun t105 => (some (a0_0, t105, true))) else (none)))) = some (r1, r2, r3) := qy H hy102
 have Ny102 := q0 hy102
 clear hy102
 obtain ⟨⟨t103, t113⟩, A50, H⟩ := ob H
 obtain ⟨y104, hy104⟩ : ∃ y_ : List (STie), y_ = (([(⟨t103, t113⟩ : STie)] : List (STie))) := ⟨_, rfl⟩
 replace H : (if y102.length + y104.length < 8796093022208 then ((slices_SortFunc_Tie.f kj3 (y102 ++ y104)).bind fun t105 => (some (a0_0, t105, true))) else (none)) = some (r1, r2, r3) := qy H hy104
 have Ny104 := q0 hy104
 clear hy104
 obtain ⟨c51, H⟩ : (y102.length + y104.length < 8796093022208) ∧ _ := og H
 have LMc51 := q0 c51
 clear c51
 obtain ⟨y115, hy115⟩ : ∃ y_ : List (STie), y_ = (y102 ++ y104) := ⟨_, rfl⟩
 replace H : ((slices_SortFunc_Tie.f kj3 y115).bind fun t105 => (some (a0_0, t105, true))) = some (r1, r2, r3) := qy H hy115
 have Ny115 := q0 hy115
 clear hy115
 obtain ⟨t105, A52, H⟩ := ob H
 simp only [Option.some.injEq, Prod.mk.injEq] at H
 obtain ⟨rfl, rfl, rfl⟩ := H
 try go_wp2
 replace BK110 := q0 (blk_drew BK110.out)
 replace BK100 := q0 (blk_drew BK100.out)
 replace HB := q0 (below_drew1 HB.out)
 refine start_ (n := 14) (S := fun w' => w'.cell? ⟨gb110, 0, none⟩ = some (.int .i64 a0_0) ∧ w'.cell? ⟨gb110, 1, none⟩ = some (.slice A0_1 l0_1.length c0_1)) (ds := []) (ba 14 0) (by kernel_rfl) rfl (by kernel_rfl) ⟨bca BK110, bcb BK110⟩ (fun hHeld => ?_); refine with_tabW impl_NetAdd.tab3 impl_NetAdd.bits3 (fun HT_ HW_ => ?_)
 generalize wc.drew = w53 at BK110 BK100 HB hHeld ⊢
 refine pU 0 36 14 1 HT_ ?_
 refine pU 3 39 14 9 HT_ ?_
 refine pU 6 42 14 73 HT_ ?_
 refine pU 7 43 14 201 HT_ ?_
 refine tU 1 37 14 203 HT_ HW_ hHeld ?_
 refine tU 4 40 14 219 HT_ HW_ hHeld ?_
 refine join_ (σ := Value × Value × Value × Value × Nat) 1 (ba 14 8191) (fun s_ => [(38, s_.1), (41, s_.2.1), (44, .agg #[.int .i64 t103, .int .i64 t113]), (45, s_.2.2.1), (46, s_.2.2.2.1), (8, .pointer (some ⟨s_.2.2.2.2, 0, none⟩)), (47, .agg #[.int .i64 a0_0, s_.2.2.2.1])]) (fun s_ w' => (w'.cell? ⟨gb110, 0, none⟩ = some (.int .i64 a0_0) ∧ w'.cell? ⟨gb110, 1, none⟩ = some (.slice A0_1 l0_1.length c0_1)) ∧ (Kd.R kTie 32 w' w.heap.size (fun k_ => some k_ ≠ (s_.2.2.2.1 : Value).ownBlock) s_.2.2.1 y104) ∧ (Kd.R kTie 32 w' w.heap.size (fun k_ => some k_ ≠ (s_.2.2.1 : Value).ownBlock) s_.2.2.2.1 y115) ∧ (w'.heap[gb110]? = some (.cells #[.int .i64 a0_0, .slice A0_1 l0_1.length c0_1] 25 (0, 0))) ∧ (w'.heap[gb100]? = some (.cells #[.int .i64 0, .slice none 0 0] 25 (0, 0))) ∧ (w'.heap[s_.2.2.2.2]? = some (.cells #[.int .i64 0, .slice none 0 0] 25 (0, 0))) ∧ (w.heap.size ≤ s_.2.2.2.2) ∧ (w.heap.size ≤ s_.2.2.2.2) ∧ (gb110 ≠ s_.2.2.2.2) ∧ (s_.2.2.2.2 ≠ gb110) ∧ (gb100 ≠ s_.2.2.2.2) ∧ (s_.2.2.2.2 ≠ gb100) ∧ (Below w.heap.size w w')) ?_ ?_
 rotate_left
 ·intro hJ2_5_8_9_10_12
  refine join_ (σ := Value × Value × Value × Value) 2 (ba 14 4095) (fun s_ => [(38, s_.1), (41, s_.2.1), (44, .agg #[.int .i64 t103, .int .i64 t113]), (45, s_.2.2.1), (46, s_.2.2.2), (47, .agg #[.int .i64 a0_0, s_.2.2.2])]) (fun s_ w' => (w'.cell? ⟨gb110, 0, none⟩ = some (.int .i64 a0_0) ∧ w'.cell? ⟨gb110, 1, none⟩ = some (.slice A0_1 l0_1.length c0_1)) ∧ (Kd.R kTie 32 w' w.heap.size (fun k_ => some k_ ≠ (s_.2.2.2 : Value).ownBlock) s_.2.2.1 y104) ∧ (Kd.R kTie 32 w' w.heap.size (fun k_ => some k_ ≠ (s_.2.2.1 : Value).ownBlock) s_.2.2.2 y115) ∧ (w'.heap[gb110]? = some (.cells #[.int .i64 a0_0, .slice A0_1 l0_1.length c0_1] 25 (0, 0))) ∧ (w'.heap[gb100]? = some (.cells #[.int .i64 0, .slice none 0 0] 25 (0, 0))) ∧ (Below w.heap.size w w')) ?_ ?_
  rotate_left
  ·intro hJ2_5_8_9_10
   refine join_ (σ := Value × Value × Value × Nat) 3 (ba 14 5119) (fun s_ => [(38, s_.1), (41, s_.2.1), (44, .agg #[.int .i64 t103, .int .i64 t113]), (45, s_.2.2.1), (8, .pointer (some ⟨s_.2.2.2, 0, none⟩))]) (fun s_ w' => (w'.cell? ⟨gb110, 0, none⟩ = some (.int .i64 a0_0) ∧ w'.cell? ⟨gb110, 1, none⟩ = some (.slice A0_1 l0_1.length c0_1)) ∧ (Kd.R kTie 32 w' w.heap.size (fun k_ => some k_ ≠ (s_.2.2.1 : Value).ownBlock) s_.2.1 y102) ∧ (Kd.R kTie 32 w' w.heap.size (fun k_ => some k_ ≠ (s_.2.1 : Value).ownBlock) s_.2.2.1 y104) ∧ (w'.heap[gb110]? = some (.cells #[.int .i64 a0_0, .slice A0_1 l0_1.length c0_1] 25 (0, 0))) ∧ (w'.heap[gb100]? = some (.cells #[.int .i64 0, .slice none 0 0] 25 (0, 0))) ∧ (w'.heap[s_.2.2.2]? = some (.cells #[.int .i64 0, .slice none 0 0] 25 (0, 0))) ∧ (w.heap.size ≤ s_.2.2.2) ∧ (w.heap.size ≤ s_.2.2.2) ∧ (gb110 ≠ s_.2.2.2) ∧ (s_.2.2.2 ≠ gb110) ∧ (gb100 ≠ s_.2.2.2) ∧ (s_.2.2.2 ≠ gb100) ∧ (Below w.heap.size w w')) ?_ ?_
   rotate_left
   ·intro hJ2_5_8_9_12
    refine join_ (σ := Value × Value × Value) 4 (ba 14 1023) (fun s_ => [(38, s_.1), (41, s_.2.1), (44, .agg #[.int .i64 t103, .int .i64 t113]), (45, s_.2.2)]) (fun s_ w' => (w'.cell? ⟨gb110, 0, none⟩ = some (.int .i64 a0_0) ∧ w'.cell? ⟨gb110, 1, none⟩ = some (.slice A0_1 l0_1.length c0_1)) ∧ (Kd.R kTie 32 w' w.heap.size (fun k_ => some k_ ≠ (s_.2.2 : Value).ownBlock) s_.2.1 y102) ∧ (Kd.R kTie 32 w' w.heap.size (fun k_ => some k_ ≠ (s_.2.1 : Value).ownBlock) s_.2.2 y104) ∧ (w'.heap[gb110]? = some (.cells #[.int .i64 a0_0, .slice A0_1 l0_1.length c0_1] 25 (0, 0))) ∧ (w'.heap[gb100]? = some (.cells #[.int .i64 0, .slice none 0 0] 25 (0, 0))) ∧ (Below w.heap.size w w')) ?_ ?_
    rotate_left
    ·intro hJ2_5_8_9
     refine join_ (σ := Value × Value × Nat) 4 (ba 14 4607) (fun s_ => [(38, s_.1), (41, s_.2.1), (44, .agg #[.int .i64 t103, .int .i64 t113]), (8, .pointer (some ⟨s_.2.2, 0, none⟩))]) (fun s_ w' => (w'.cell? ⟨gb110, 0, none⟩ = some (.int .i64 a0_0) ∧ w'.cell? ⟨gb110, 1, none⟩ = some (.slice A0_1 l0_1.length c0_1)) ∧ (Kd.R kTie 32 w' w.heap.size (fun _ => True) s_.2.1 y102) ∧ (w'.heap[gb110]? = some (.cells #[.int .i64 a0_0, .slice A0_1 l0_1.length c0_1] 25 (0, 0))) ∧ (w'.heap[gb100]? = some (.cells #[.int .i64 0, .slice none 0 0] 25 (0, 0))) ∧ (w'.heap[s_.2.2]? = some (.cells #[.int .i64 0, .slice none 0 0] 25 (0, 0))) ∧ (w.heap.size ≤ s_.2.2) ∧ (w.heap.size ≤ s_.2.2) ∧ (gb110 ≠ s_.2.2) ∧ (s_.2.2 ≠ gb110) ∧ (gb100 ≠ s_.2.2) ∧ (s_.2.2 ≠ gb100) ∧ (Below w.heap.size w w')) ?_ ?_
     rotate_left
     ·intro hJ2_5_8_12
      refine join_ (σ := Value × Value) 5 (ba 14 511) (fun s_ => [(38, s_.1), (41, s_.2), (44, .agg #[.int .i64 t103, .int .i64 t113])]) (fun s_ w' => (w'.cell? ⟨gb110, 0, none⟩ = some (.int .i64 a0_0) ∧ w'.cell? ⟨gb110, 1, none⟩ = some (.slice A0_1 l0_1.length c0_1)) ∧ (Kd.R kTie 32 w' w.heap.size (fun _ => True) s_.2 y102) ∧ (w'.heap[gb110]? = some (.cells #[.int .i64 a0_0, .slice A0_1 l0_1.length c0_1] 25 (0, 0))) ∧ (w'.heap[gb100]? = some (.cells #[.int .i64 0, .slice none 0 0] 25 (0, 0))) ∧ (Below w.heap.size w w')) ?_ ?_
      rotate_left
      ·intro hJ2_5_8
       refine join_ (σ := Value × Value × Nat) 5 (ba 14 4351) (fun s_ => [(38, s_.1), (41, s_.2.1), (8, .pointer (some ⟨s_.2.2, 0, none⟩))]) (fun s_ w' => (w'.cell? ⟨gb110, 0, none⟩ = some (.int .i64 a0_0) ∧ w'.cell? ⟨gb110, 1, none⟩ = some (.slice A0_1 l0_1.length c0_1)) ∧ (Kd.R kTie 32 w' w.heap.size (fun _ => True) s_.2.1 y102) ∧ (w'.heap[gb110]? = some (.cells #[.int .i64 a0_0, .slice A0_1 l0_1.length c0_1] 25 (0, 0))) ∧ (w'.heap[gb100]? = some (.cells #[.int .i64 0, .slice none 0 0] 25 (0, 0))) ∧ (w'.heap[s_.2.2]? = some (.cells #[.int .i64 0, .slice none 0 0] 25 (0, 0))) ∧ (w.heap.size ≤ s_.2.2) ∧ (w.heap.size ≤ s_.2.2) ∧ (gb110 ≠ s_.2.2) ∧ (s_.2.2 ≠ gb110) ∧ (gb100 ≠ s_.2.2) ∧ (s_.2.2 ≠ gb100) ∧ (Below w.heap.size w w')) ?_ ?_
       rotate_left
       ·intro hJ2_5_12
        refine join_ (σ := Value × Value) 6 (ba 14 255) (fun s_ => [(38, s_.1), (41, s_.2)]) (fun s_ w' => (w'.cell? ⟨gb110, 0, none⟩ = some (.int .i64 a0_0) ∧ w'.cell? ⟨gb110, 1, none⟩ = some (.slice A0_1 l0_1.length c0_1)) ∧ (Kd.R kTie 32 w' w.heap.size (fun _ => True) s_.2 y102) ∧ (w'.heap[gb110]? = some (.cells #[.int .i64 a0_0, .slice A0_1 l0_1.length c0_1] 25 (0, 0))) ∧ (w'.heap[gb100]? = some (.cells #[.int .i64 0, .slice none 0 0] 25 (0, 0))) ∧ (Below w.heap.size w w')) ?_ ?_
        rotate_left
        ·intro hJ2_5
         refine join_ (σ := Value × Nat) 6 (ba 14 4319) (fun s_ => [(38, s_.1), (8, .pointer (some ⟨s_.2, 0, none⟩))]) (fun s_ w' => (w'.cell? ⟨gb110, 0, none⟩ = some (.int .i64 a0_0) ∧ w'.cell? ⟨gb110, 1, none⟩ = some (.slice A0_1 l0_1.length c0_1)) ∧ (Kd.R kTie 32 w' w.heap.size (fun _ => True) s_.1 y101) ∧ (w'.heap[gb110]? = some (.cells #[.int .i64 a0_0, .slice A0_1 l0_1.length c0_1] 25 (0, 0))) ∧ (w'.heap[gb100]? = some (.cells #[.int .i64 0, .slice none 0 0] 25 (0, 0))) ∧ (w'.heap[s_.2]? = some (.cells #[.int .i64 0, .slice none 0 0] 25 (0, 0))) ∧ (w.heap.size ≤ s_.2) ∧ (w.heap.size ≤ s_.2) ∧ (gb110 ≠ s_.2) ∧ (s_.2 ≠ gb110) ∧ (gb100 ≠ s_.2) ∧ (s_.2 ≠ gb100) ∧ (Below w.heap.size w w')) ?_ ?_
         rotate_left
         ·intro hJ2_12
          refine join_ (σ := Value) 7 (ba 14 223) (fun s_ => [(38, s_)]) (fun s_ w' => (w'.cell? ⟨gb110, 0, none⟩ = some (.int .i64 a0_0) ∧ w'.cell? ⟨gb110, 1, none⟩ = some (.slice A0_1 l0_1.length c0_1)) ∧ (Kd.R kTie 32 w' w.heap.size (fun _ => True) s_ y101) ∧ (w'.heap[gb110]? = some (.cells #[.int .i64 a0_0, .slice A0_1 l0_1.length c0_1] 25 (0, 0))) ∧ (w'.heap[gb100]? = some (.cells #[.int .i64 0, .slice none 0 0] 25 (0, 0))) ∧ (Below w.heap.size w w')) ?_ ?_
          rotate_left
          ·intro hJ2
           refine join_ (σ := Nat) 7 (ba 14 4315) (fun s_ => [(8, .pointer (some ⟨s_, 0, none⟩))]) (fun s_ w' => (w'.cell? ⟨gb110, 0, none⟩ = some (.int .i64 a0_0) ∧ w'.cell? ⟨gb110, 1, none⟩ = some (.slice A0_1 l0_1.length c0_1)) ∧ (w'.heap[gb110]? = some (.cells #[.int .i64 a0_0, .slice A0_1 l0_1.length c0_1] 25 (0, 0))) ∧ (w'.heap[gb100]? = some (.cells #[.int .i64 0, .slice none 0 0] 25 (0, 0))) ∧ (w'.heap[s_]? = some (.cells #[.int .i64 0, .slice none 0 0] 25 (0, 0))) ∧ (w.heap.size ≤ s_) ∧ (w.heap.size ≤ s_) ∧ (gb110 ≠ s_) ∧ (s_ ≠ gb110) ∧ (gb100 ≠ s_) ∧ (s_ ≠ gb100) ∧ (Below w.heap.size w w')) ?_ ?_
           rotate_left
           ·intro hJ12
            refine two_ (i := 2) (j := 12) (Ni := some 38) (Nj := some 8) (ba 14 223) (ba 14 4315) rfl rfl rfl rfl (two_of HT_.out (by kernel_rfl)) (by decide) (by decide) (fun K hK => ?_) (fun K hK => ?_)
            ·skip
             refine Kd.R_lit_step kTie _ 32 ?hg (N := 38) ?hd (xs := ([] : List (STie))) (inner := []) (ok := fun _ => True) (okp := fun _ => True) ?hr ?hp (fun _ hk => hk) trivial (Below.refl _ _) (Nat.le_refl _) (by simp) ?_; (case hd => rfl); (case hg => rfl); (case hr => first | (go_simp; done) | (go_simp; rfl)); (case hp => exact (Reps.none _ _))
             intro v117 w54 ho55 hb hg_ hnew_
             clear hg_ hnew_
             (first | rw [← Ny101.out] at ho55 | (simp only [Int.reduceToNat] at ho55; rw [← Ny101.out] at ho55))
             have HO118 := q0 (Kd.R_lower ho55 (below_size (qb HB.out)))
             replace BK110 := kd BK110 hb
             replace BK100 := kd BK100 hb
             replace HB := bp HB hb
             clear hb ho55
             refine hK.out _ _ ⟨bca BK110, bcb BK110⟩ (fun hHeld => ?_)
             clear hK K
             refine nu 38 ?_
             exact norm_ (by first | (simp only [putAll, Act.put, List.setIfInBounds_toArray, List.set_cons_zero, List.set_cons_succ]; done) | (simp only [putAll, Act.put, List.setIfInBounds_toArray, List.set_cons_zero, List.set_cons_succ]; rfl)) (hJ2 (v117) _ ⟨hHeld, (qr HO118.out), (qk BK110.out), (qk BK100.out), (qb HB.out)⟩)
            ·skip
             refine box_step ?hg (N := 8) ?hd (cs := #[.int .i64 0, .slice none 0 0]) (t := 25) ?hr ?_; (case hd => rfl); (case hg => rfl); (case hr => first | (go_simp; done) | (go_simp; rfl))
             intro gb119 hg w54 hbox hb
             have BK119 := q0 (hbox)
             have GW119 := gw HB hg
             have GE119 := gw HB hg
             replace HB := bp HB hb
             have NB110_119 := nl BK110 hg
             have NB119_110 := ng BK110 hg
             replace BK110 := kd BK110 hb
             have NB100_119 := nl BK100 hg
             have NB119_100 := ng BK100 hg
             replace BK100 := kd BK100 hb
             clear hb hbox hg
             refine hK.out _ _ ⟨bca BK110, bcb BK110⟩ (fun hHeld => ?_)
             clear hK K
             refine nu 8 ?_
             exact norm_ (by first | (simp only [putAll, Act.put, List.setIfInBounds_toArray, List.set_cons_zero, List.set_cons_succ]; done) | (simp only [putAll, Act.put, List.setIfInBounds_toArray, List.set_cons_zero, List.set_cons_succ]; rfl)) (hJ12 (gb119) _ ⟨hHeld, (qk BK110.out), (qk BK100.out), (qk BK119.out), GW119.out, GE119.out, NB110_119.out, NB119_110.out, NB100_119.out, NB119_100.out, (qb HB.out)⟩)
           ·skip
            rintro gb119 w55 ⟨hS_, h0_, h1_, h2_, h3_, h4_, h5_, h6_, h7_, h8_, h9_⟩
            have n0_ : Aside0 (w55.heap[gb110]? = some (.cells #[.int .i64 a0_0, .slice A0_1 l0_1.length c0_1] 25 (0, 0))) := ⟨h0_⟩
            have n1_ : Aside0 (w55.heap[gb100]? = some (.cells #[.int .i64 0, .slice none 0 0] 25 (0, 0))) := ⟨h1_⟩
            have n2_ : Aside0 (w55.heap[gb119]? = some (.cells #[.int .i64 0, .slice none 0 0] 25 (0, 0))) := ⟨h2_⟩
            have n3_ : Aside0 (w.heap.size ≤ gb119) := ⟨h3_⟩
            have n4_ : Aside0 (w.heap.size ≤ gb119) := ⟨h4_⟩
            have n5_ : Aside0 (gb110 ≠ gb119) := ⟨h5_⟩
            have n6_ : Aside0 (gb119 ≠ gb110) := ⟨h6_⟩
            have n7_ : Aside0 (gb100 ≠ gb119) := ⟨h7_⟩
            have n8_ : Aside0 (gb119 ≠ gb100) := ⟨h8_⟩
            have n9_ : Aside0 (Below w.heap.size w w55) := ⟨h9_⟩
            clear BK110 BK100 HB h0_ h1_ h2_ h3_ h4_ h5_ h6_ h7_ h8_ h9_
            have BK110 := n0_
            have BK100 := n1_
            have BK119 := n2_
            have GW119 := n3_
            have GE119 := n4_
            have NB110_119 := n5_
            have NB119_110 := n6_
            have NB100_119 := n7_
            have NB119_100 := n8_
            have HB := n9_
            clear n0_ n1_ n2_ n3_ n4_ n5_ n6_ n7_ n8_ n9_
            have hHeld : w55.cell? ⟨gb110, 0, none⟩ = some (.int .i64 a0_0) ∧ w55.cell? ⟨gb110, 1, none⟩ = some (.slice A0_1 l0_1.length c0_1) := hS_
            refine norm_ (a' := ?_) ?_ ?_
            rotate_left
            ·simp only [putAll, Act.put, List.setIfInBounds_toArray, List.set_cons_zero, List.set_cons_succ]
             rfl
            refine one_ (i := 2) (N := some 38) (ba 14 4319) rfl rfl (one_of HT_.out (by kernel_rfl)) (by decide) (fun K hK => ?_)
            refine Kd.R_lit_step kTie _ 32 ?hg (N := 38) ?hd (xs := ([] : List (STie))) (inner := []) (ok := fun _ => True) (okp := fun _ => True) ?hr ?hp (fun _ hk => hk) trivial (Below.refl _ _) (Nat.le_refl _) (by simp) ?_; (case hd => rfl); (case hg => rfl); (case hr => first | (go_simp; done) | (go_simp; rfl)); (case hp => exact (Reps.none _ _))
            intro v117 w56 ho57 hb hg_ hnew_
            clear hg_ hnew_
            (first | rw [← Ny101.out] at ho57 | (simp only [Int.reduceToNat] at ho57; rw [← Ny101.out] at ho57))
            have HO118 := q0 (Kd.R_lower ho57 (below_size (qb HB.out)))
            replace BK110 := kd BK110 hb
            replace BK100 := kd BK100 hb
            replace BK119 := kd BK119 hb
            replace HB := bp HB hb
            clear hb ho57
            refine hK.out _ _ ⟨bca BK110, bcb BK110⟩ (fun hHeld => ?_)
            clear hK K
            refine nu 38 ?_
            exact norm_ (by first | (simp only [putAll, Act.put, List.setIfInBounds_toArray, List.set_cons_zero, List.set_cons_succ]; done) | (simp only [putAll, Act.put, List.setIfInBounds_toArray, List.set_cons_zero, List.set_cons_succ]; rfl)) (hJ2_12 (v117, gb119) _ ⟨hHeld, (qr HO118.out), (qk BK110.out), (qk BK100.out), (qk BK119.out), GW119.out, GE119.out, NB110_119.out, NB119_110.out, NB100_119.out, NB119_100.out, (qb HB.out)⟩)
          ·skip
           rintro v117 w56 ⟨hS_, h0_, h1_, h2_, h3_⟩
           have n0_ : Aside0 (Kd.R kTie 32 w56 w.heap.size (fun _ => True) v117 y101) := ⟨h0_⟩
           have n1_ : Aside0 (w56.heap[gb110]? = some (.cells #[.int .i64 a0_0, .slice A0_1 l0_1.length c0_1] 25 (0, 0))) := ⟨h1_⟩
           have n2_ : Aside0 (w56.heap[gb100]? = some (.cells #[.int .i64 0, .slice none 0 0] 25 (0, 0))) := ⟨h2_⟩
           have n3_ : Aside0 (Below w.heap.size w w56) := ⟨h3_⟩
           clear BK110 BK100 HB h0_ h1_ h2_ h3_
           have HO118 := n0_
           have BK110 := n1_
           have BK100 := n2_
           have HB := n3_
           clear n0_ n1_ n2_ n3_
           have hHeld : w56.cell? ⟨gb110, 0, none⟩ = some (.int .i64 a0_0) ∧ w56.cell? ⟨gb110, 1, none⟩ = some (.slice A0_1 l0_1.length c0_1) := hS_
           refine norm_ (a' := ?_) ?_ ?_
           rotate_left
           ·simp only [putAll, Act.put, List.setIfInBounds_toArray, List.set_cons_zero, List.set_cons_succ]
            rfl
           refine two_ (i := 5) (j := 12) (Ni := some 41) (Nj := some 8) (ba 14 255) (ba 14 4319) rfl rfl rfl rfl (two_of HT_.out (by kernel_rfl)) (by decide) (by decide) (fun K hK => ?_) (fun K hK => ?_)
           ·skip
            refine Kd.R_append_rows_step kTie (w0 := w) w.heap.size (by rfl) (.tmp 38) (.tmp 40) 23 32 (.agg #[(.int .i64 0), (.int .i64 0)]) 16 rfl Try.underlying23 info32 rfl (by decide) (by omega) v117 y101 l0_1 _ _ _ (fun _ => True) (fun _ => False) rfl rfl ?aO ?aR (fun _ _ h => h) (fun _ h => h.elim) ?aF ?aB ?aS ?aL ?_
            (case aR => repeat (first | exact (Kd.C_below HR0_1.out HB.out) | (with_reducible refine Kd.C_alloc ?_ _) | (with_reducible refine Kd.C_drewN ?_ _) | (with_reducible refine Kd.C_drew ?_)))
            (case aB => exact (qb HB.out))
            (case aF => exact (fun _ _ => trivial))
            (case aO => exact (qr HO118.out))
            (case aS => exact (below_size (qb HB.out)))
            (case aL => have := LMc49.out; omega)
            intro v120 w57 ho hb hg hat
            rw [← Ny102.out] at ho
            replace BK110 := q0 (blk_grown (g := gb110) (o := .cells #[.int .i64 a0_0, .slice A0_1 l0_1.length c0_1] 25 (0, 0)) (qk BK110.out) hg (Kd.R_ne HO118.out BK110.out (by decide)))
            replace BK100 := q0 (blk_grown (g := gb100) (o := .cells #[.int .i64 0, .slice none 0 0] 25 (0, 0)) (qk BK100.out) hg (Kd.R_ne HO118.out BK100.out (by decide)))
            replace HB := q0 (hb)
            have HO121 := q0 (ho)
            clear HO118 ho hb hg hat
            refine hK.out _ _ ⟨bca BK110, bcb BK110⟩ (fun hHeld => ?_)
            clear hK K
            refine nu 41 ?_
            exact norm_ (by first | (simp only [putAll, Act.put, List.setIfInBounds_toArray, List.set_cons_zero, List.set_cons_succ]; done) | (simp only [putAll, Act.put, List.setIfInBounds_toArray, List.set_cons_zero, List.set_cons_succ]; rfl)) (hJ2_5 (v117, v120) _ ⟨hHeld, (qr HO121.out), (qk BK110.out), (qk BK100.out), (qb HB.out)⟩)
           ·skip
            refine box_step ?hg (N := 8) ?hd (cs := #[.int .i64 0, .slice none 0 0]) (t := 25) ?hr ?_; (case hd => rfl); (case hg => rfl); (case hr => first | (go_simp; done) | (go_simp; rfl))
            intro gb119 hg w57 hbox hb
            replace HO118 := q0 (Kd.R_below (qr HO118.out) hb)
            have BK119 := q0 (hbox)
            have GW119 := gw HB hg
            have GE119 := gw HB hg
            replace HB := bp HB hb
            have NB110_119 := nl BK110 hg
            have NB119_110 := ng BK110 hg
            replace BK110 := kd BK110 hb
            have NB100_119 := nl BK100 hg
            have NB119_100 := ng BK100 hg
            replace BK100 := kd BK100 hb
            clear hb hbox hg
            refine hK.out _ _ ⟨bca BK110, bcb BK110⟩ (fun hHeld => ?_)
            clear hK K
            refine nu 8 ?_
            exact norm_ (by first | (simp only [putAll, Act.put, List.setIfInBounds_toArray, List.set_cons_zero, List.set_cons_succ]; done) | (simp only [putAll, Act.put, List.setIfInBounds_toArray, List.set_cons_zero, List.set_cons_succ]; rfl)) (hJ2_12 (v117, gb119) _ ⟨hHeld, (qr HO118.out), (qk BK110.out), (qk BK100.out), (qk BK119.out), GW119.out, GE119.out, NB110_119.out, NB119_110.out, NB100_119.out, NB119_100.out, (qb HB.out)⟩)
         ·skip
          rintro ⟨v117, gb119⟩ w57 ⟨hS_, h0_, h1_, h2_, h3_, h4_, h5_, h6_, h7_, h8_, h9_, h10_⟩
          have n0_ : Aside0 (Kd.R kTie 32 w57 w.heap.size (fun _ => True) v117 y101) := ⟨h0_⟩
          have n1_ : Aside0 (w57.heap[gb110]? = some (.cells #[.int .i64 a0_0, .slice A0_1 l0_1.length c0_1] 25 (0, 0))) := ⟨h1_⟩
          have n2_ : Aside0 (w57.heap[gb100]? = some (.cells #[.int .i64 0, .slice none 0 0] 25 (0, 0))) := ⟨h2_⟩
          have n3_ : Aside0 (w57.heap[gb119]? = some (.cells #[.int .i64 0, .slice none 0 0] 25 (0, 0))) := ⟨h3_⟩
          have n4_ : Aside0 (w.heap.size ≤ gb119) := ⟨h4_⟩
          have n5_ : Aside0 (w.heap.size ≤ gb119) := ⟨h5_⟩
          have n6_ : Aside0 (gb110 ≠ gb119) := ⟨h6_⟩
          have n7_ : Aside0 (gb119 ≠ gb110) := ⟨h7_⟩
          have n8_ : Aside0 (gb100 ≠ gb119) := ⟨h8_⟩
          have n9_ : Aside0 (gb119 ≠ gb100) := ⟨h9_⟩
          have n10_ : Aside0 (Below w.heap.size w w57) := ⟨h10_⟩
          clear BK110 BK100 HB h0_ h1_ h2_ h3_ h4_ h5_ h6_ h7_ h8_ h9_ h10_
          have HO118 := n0_
          have BK110 := n1_
          have BK100 := n2_
          have BK119 := n3_
          have GW119 := n4_
          have GE119 := n5_
          have NB110_119 := n6_
          have NB119_110 := n7_
          have NB100_119 := n8_
          have NB119_100 := n9_
          have HB := n10_
          clear n0_ n1_ n2_ n3_ n4_ n5_ n6_ n7_ n8_ n9_ n10_
          have hHeld : w57.cell? ⟨gb110, 0, none⟩ = some (.int .i64 a0_0) ∧ w57.cell? ⟨gb110, 1, none⟩ = some (.slice A0_1 l0_1.length c0_1) := hS_
          refine norm_ (a' := ?_) ?_ ?_
          rotate_left
          ·simp only [putAll, Act.put, List.setIfInBounds_toArray, List.set_cons_zero, List.set_cons_succ]
           rfl
          refine one_ (i := 5) (N := some 41) (ba 14 4351) rfl rfl (one_of HT_.out (by kernel_rfl)) (by decide) (fun K hK => ?_)
          refine Kd.R_append_rows_step kTie (w0 := w) w.heap.size (by rfl) (.tmp 38) (.tmp 40) 23 32 (.agg #[(.int .i64 0), (.int .i64 0)]) 16 rfl Try.underlying23 info32 rfl (by decide) (by omega) v117 y101 l0_1 _ _ _ (fun _ => True) (fun _ => False) rfl rfl ?aO ?aR (fun _ _ h => h) (fun _ h => h.elim) ?aF ?aB ?aS ?aL ?_
          (case aR => repeat (first | exact (Kd.C_below HR0_1.out HB.out) | (with_reducible refine Kd.C_alloc ?_ _) | (with_reducible refine Kd.C_drewN ?_ _) | (with_reducible refine Kd.C_drew ?_)))
          (case aB => exact (qb HB.out))
          (case aF => exact (fun _ _ => trivial))
          (case aO => exact (qr HO118.out))
          (case aS => exact (below_size (qb HB.out)))
          (case aL => have := LMc49.out; omega)
          intro v120 w58 ho hb hg hat
          rw [← Ny102.out] at ho
          replace BK110 := q0 (blk_grown (g := gb110) (o := .cells #[.int .i64 a0_0, .slice A0_1 l0_1.length c0_1] 25 (0, 0)) (qk BK110.out) hg (Kd.R_ne HO118.out BK110.out (by decide)))
          replace BK100 := q0 (blk_grown (g := gb100) (o := .cells #[.int .i64 0, .slice none 0 0] 25 (0, 0)) (qk BK100.out) hg (Kd.R_ne HO118.out BK100.out (by decide)))
          replace BK119 := q0 (blk_grown (g := gb119) (o := .cells #[.int .i64 0, .slice none 0 0] 25 (0, 0)) (qk BK119.out) hg (Kd.R_ne HO118.out BK119.out (by decide)))
          replace HB := q0 (hb)
          have HO121 := q0 (ho)
          clear HO118 ho hb hg hat
          refine hK.out _ _ ⟨bca BK110, bcb BK110⟩ (fun hHeld => ?_)
          clear hK K
          refine nu 41 ?_
          exact norm_ (by first | (simp only [putAll, Act.put, List.setIfInBounds_toArray, List.set_cons_zero, List.set_cons_succ]; done) | (simp only [putAll, Act.put, List.setIfInBounds_toArray, List.set_cons_zero, List.set_cons_succ]; rfl)) (hJ2_5_12 (v117, v120, gb119) _ ⟨hHeld, (qr HO121.out), (qk BK110.out), (qk BK100.out), (qk BK119.out), GW119.out, GE119.out, NB110_119.out, NB119_110.out, NB100_119.out, NB119_100.out, (qb HB.out)⟩)
        ·skip
         rintro ⟨v117, v120⟩ w57 ⟨hS_, h0_, h1_, h2_, h3_⟩
         have n0_ : Aside0 (Kd.R kTie 32 w57 w.heap.size (fun _ => True) v120 y102) := ⟨h0_⟩
         have n1_ : Aside0 (w57.heap[gb110]? = some (.cells #[.int .i64 a0_0, .slice A0_1 l0_1.length c0_1] 25 (0, 0))) := ⟨h1_⟩
         have n2_ : Aside0 (w57.heap[gb100]? = some (.cells #[.int .i64 0, .slice none 0 0] 25 (0, 0))) := ⟨h2_⟩
         have n3_ : Aside0 (Below w.heap.size w w57) := ⟨h3_⟩
         clear BK110 BK100 HB h0_ h1_ h2_ h3_
         have HO121 := n0_
         have BK110 := n1_
         have BK100 := n2_
         have HB := n3_
         clear n0_ n1_ n2_ n3_
         have hHeld : w57.cell? ⟨gb110, 0, none⟩ = some (.int .i64 a0_0) ∧ w57.cell? ⟨gb110, 1, none⟩ = some (.slice A0_1 l0_1.length c0_1) := hS_
         refine norm_ (a' := ?_) ?_ ?_
         rotate_left
         ·simp only [putAll, Act.put, List.setIfInBounds_toArray, List.set_cons_zero, List.set_cons_succ]
          rfl
         refine two_ (i := 8) (j := 12) (Ni := some 44) (Nj := some 8) (ba 14 511) (ba 14 4351) rfl rfl rfl rfl (two_of HT_.out (by kernel_rfl)) (by decide) (by decide) (fun K hK => ?_) (fun K hK => ?_)
         ·skip
          refine goes_ Try.func56 (by kernel_rfl) rfl #[.int .i64 a1, .int .i64 a2] (by rfl) rfl rfl qm ?_
          with_reducible refine (impl_tie.calls a1 a2 t103 t113 _ A50.out).mono ?_
          rintro e w58 ⟨rfl, hb⟩
          refine ⟨_, rfl, ?_⟩
          replace HO121 := q0 (Kd.R_below (qr HO121.out) hb)
          replace BK110 := kd BK110 hb
          replace BK100 := kd BK100 hb
          replace HB := bp HB hb
          (try clear hb)
          (try clear hb2)
          (try clear hk)
          (try clear hi)
          refine hK.out _ _ ⟨bca BK110, bcb BK110⟩ (fun hHeld => ?_)
          clear hK K
          refine nu 44 ?_
          exact norm_ (by first | (simp only [putAll, Act.put, List.setIfInBounds_toArray, List.set_cons_zero, List.set_cons_succ]; done) | (simp only [putAll, Act.put, List.setIfInBounds_toArray, List.set_cons_zero, List.set_cons_succ]; rfl)) (hJ2_5_8 (v117, v120) _ ⟨hHeld, (qr HO121.out), (qk BK110.out), (qk BK100.out), (qb HB.out)⟩)
         ·skip
          refine box_step ?hg (N := 8) ?hd (cs := #[.int .i64 0, .slice none 0 0]) (t := 25) ?hr ?_; (case hd => rfl); (case hg => rfl); (case hr => first | (go_simp; done) | (go_simp; rfl))
          intro gb119 hg w58 hbox hb
          replace HO121 := q0 (Kd.R_below (qr HO121.out) hb)
          have BK119 := q0 (hbox)
          have GW119 := gw HB hg
          have GE119 := gw HB hg
          replace HB := bp HB hb
          have NB110_119 := nl BK110 hg
          have NB119_110 := ng BK110 hg
          replace BK110 := kd BK110 hb
          have NB100_119 := nl BK100 hg
          have NB119_100 := ng BK100 hg
          replace BK100 := kd BK100 hb
          clear hb hbox hg
          refine hK.out _ _ ⟨bca BK110, bcb BK110⟩ (fun hHeld => ?_)
          clear hK K
          refine nu 8 ?_
          exact norm_ (by first | (simp only [putAll, Act.put, List.setIfInBounds_toArray, List.set_cons_zero, List.set_cons_succ]; done) | (simp only [putAll, Act.put, List.setIfInBounds_toArray, List.set_cons_zero, List.set_cons_succ]; rfl)) (hJ2_5_12 (v117, v120, gb119) _ ⟨hHeld, (qr HO121.out), (qk BK110.out), (qk BK100.out), (qk BK119.out), GW119.out, GE119.out, NB110_119.out, NB119_110.out, NB100_119.out, NB119_100.out, (qb HB.out)⟩)
       ·skip
        rintro ⟨v117, v120, gb119⟩ w58 ⟨hS_, h0_, h1_, h2_, h3_, h4_, h5_, h6_, h7_, h8_, h9_, h10_⟩
        have n0_ : Aside0 (Kd.R kTie 32 w58 w.heap.size (fun _ => True) v120 y102) := ⟨h0_⟩
        have n1_ : Aside0 (w58.heap[gb110]? = some (.cells #[.int .i64 a0_0, .slice A0_1 l0_1.length c0_1] 25 (0, 0))) := ⟨h1_⟩
        have n2_ : Aside0 (w58.heap[gb100]? = some (.cells #[.int .i64 0, .slice none 0 0] 25 (0, 0))) := ⟨h2_⟩
        have n3_ : Aside0 (w58.heap[gb119]? = some (.cells #[.int .i64 0, .slice none 0 0] 25 (0, 0))) := ⟨h3_⟩
        have n4_ : Aside0 (w.heap.size ≤ gb119) := ⟨h4_⟩
        have n5_ : Aside0 (w.heap.size ≤ gb119) := ⟨h5_⟩
        have n6_ : Aside0 (gb110 ≠ gb119) := ⟨h6_⟩
        have n7_ : Aside0 (gb119 ≠ gb110) := ⟨h7_⟩
        have n8_ : Aside0 (gb100 ≠ gb119) := ⟨h8_⟩
        have n9_ : Aside0 (gb119 ≠ gb100) := ⟨h9_⟩
        have n10_ : Aside0 (Below w.heap.size w w58) := ⟨h10_⟩
        clear BK110 BK100 HB h0_ h1_ h2_ h3_ h4_ h5_ h6_ h7_ h8_ h9_ h10_
        have HO121 := n0_
        have BK110 := n1_
        have BK100 := n2_
        have BK119 := n3_
        have GW119 := n4_
        have GE119 := n5_
        have NB110_119 := n6_
        have NB119_110 := n7_
        have NB100_119 := n8_
        have NB119_100 := n9_
        have HB := n10_
        clear n0_ n1_ n2_ n3_ n4_ n5_ n6_ n7_ n8_ n9_ n10_
        have hHeld : w58.cell? ⟨gb110, 0, none⟩ = some (.int .i64 a0_0) ∧ w58.cell? ⟨gb110, 1, none⟩ = some (.slice A0_1 l0_1.length c0_1) := hS_
        refine norm_ (a' := ?_) ?_ ?_
        rotate_left
        ·simp only [putAll, Act.put, List.setIfInBounds_toArray, List.set_cons_zero, List.set_cons_succ]
         rfl
        refine one_ (i := 8) (N := some 44) (ba 14 4607) rfl rfl (one_of HT_.out (by kernel_rfl)) (by decide) (fun K hK => ?_)
        refine goes_ Try.func56 (by kernel_rfl) rfl #[.int .i64 a1, .int .i64 a2] (by rfl) rfl rfl qm ?_
        with_reducible refine (impl_tie.calls a1 a2 t103 t113 _ A50.out).mono ?_
        rintro e w59 ⟨rfl, hb⟩
        refine ⟨_, rfl, ?_⟩
        replace HO121 := q0 (Kd.R_below (qr HO121.out) hb)
        replace BK110 := kd BK110 hb
        replace BK100 := kd BK100 hb
        replace BK119 := kd BK119 hb
        replace HB := bp HB hb
        (try clear hb)
        (try clear hb2)
        (try clear hk)
        (try clear hi)
        refine hK.out _ _ ⟨bca BK110, bcb BK110⟩ (fun hHeld => ?_)
        clear hK K
        refine nu 44 ?_
        exact norm_ (by first | (simp only [putAll, Act.put, List.setIfInBounds_toArray, List.set_cons_zero, List.set_cons_succ]; done) | (simp only [putAll, Act.put, List.setIfInBounds_toArray, List.set_cons_zero, List.set_cons_succ]; rfl)) (hJ2_5_8_12 (v117, v120, gb119) _ ⟨hHeld, (qr HO121.out), (qk BK110.out), (qk BK100.out), (qk BK119.out), GW119.out, GE119.out, NB110_119.out, NB119_110.out, NB100_119.out, NB119_100.out, (qb HB.out)⟩)
      ·skip
       rintro ⟨v117, v120⟩ w58 ⟨hS_, h0_, h1_, h2_, h3_⟩
       have n0_ : Aside0 (Kd.R kTie 32 w58 w.heap.size (fun _ => True) v120 y102) := ⟨h0_⟩
       have n1_ : Aside0 (w58.heap[gb110]? = some (.cells #[.int .i64 a0_0, .slice A0_1 l0_1.length c0_1] 25 (0, 0))) := ⟨h1_⟩
       have n2_ : Aside0 (w58.heap[gb100]? = some (.cells #[.int .i64 0, .slice none 0 0] 25 (0, 0))) := ⟨h2_⟩
       have n3_ : Aside0 (Below w.heap.size w w58) := ⟨h3_⟩
       clear BK110 BK100 HB h0_ h1_ h2_ h3_
       have HO121 := n0_
       have BK110 := n1_
       have BK100 := n2_
       have HB := n3_
       clear n0_ n1_ n2_ n3_
       have hHeld : w58.cell? ⟨gb110, 0, none⟩ = some (.int .i64 a0_0) ∧ w58.cell? ⟨gb110, 1, none⟩ = some (.slice A0_1 l0_1.length c0_1) := hS_
       refine norm_ (a' := ?_) ?_ ?_
       rotate_left
       ·simp only [putAll, Act.put, List.setIfInBounds_toArray, List.set_cons_zero, List.set_cons_succ]
        rfl
       refine two_ (i := 9) (j := 12) (Ni := some 45) (Nj := some 8) (ba 14 1023) (ba 14 4607) rfl rfl rfl rfl (two_of HT_.out (by kernel_rfl)) (by decide) (by decide) (fun K hK => ?_) (fun K hK => ?_)
       ·skip
        refine Kd.R_lit_step kTie _ 32 ?hg (N := 45) ?hd (xs := ([(⟨t103, t113⟩ : STie)] : List (STie))) (inner := [.int .i64 t103, .int .i64 t113]) (ok := fun _ => True) (okp := fun _ => True) ?hr ?hp (fun _ hk => hk) trivial (Below.refl _ _) (Nat.le_refl _) (by simp) ?_; (case hd => rfl); (case hg => rfl); (case hr => first | (go_simp; done) | (go_simp; rfl)); (case hp => exact (Reps.c2 (show Kd.M kTie _ _ _ (⟨t103, t113⟩ : STie) [.int .i64 t103, .int .i64 t113] from (kTie_mkM _ _ _ (⟨t103, t113⟩ : STie) )) (Reps.none _ _)))
        intro v122 w59 ho60 hb hg_ hnew_
        clear hg_ hnew_
        (first | rw [← Ny104.out] at ho60 | (simp only [Int.reduceToNat] at ho60; rw [← Ny104.out] at ho60))
        have HO123 := q0 (Kd.R_lower (Kd.R_new' ho60 (Kd.R_lt (qr HO121.out))) (below_size (qb HB.out)))
        replace HO121 := q0 (Kd.R_elder' (qr HO121.out) (Kd.R_base ho60) hb)
        replace BK110 := kd BK110 hb
        replace BK100 := kd BK100 hb
        replace HB := bp HB hb
        clear hb ho60
        refine hK.out _ _ ⟨bca BK110, bcb BK110⟩ (fun hHeld => ?_)
        clear hK K
        refine nu 45 ?_
        exact norm_ (by first | (simp only [putAll, Act.put, List.setIfInBounds_toArray, List.set_cons_zero, List.set_cons_succ]; done) | (simp only [putAll, Act.put, List.setIfInBounds_toArray, List.set_cons_zero, List.set_cons_succ]; rfl)) (hJ2_5_8_9 (v117, v120, v122) _ ⟨hHeld, (by (with_reducible repeat (first | apply Kd.R_alloc | apply Kd.R_drewN | apply Kd.R_drew)); exact Kd.R_mono HO121.out (fun _ hk => hk.2)), (by (with_reducible repeat (first | apply Kd.R_alloc | apply Kd.R_drewN | apply Kd.R_drew)); exact Kd.R_mono HO123.out (fun _ hk => hk.2)), (qk BK110.out), (qk BK100.out), (qb HB.out)⟩)
       ·skip
        refine box_step ?hg (N := 8) ?hd (cs := #[.int .i64 0, .slice none 0 0]) (t := 25) ?hr ?_; (case hd => rfl); (case hg => rfl); (case hr => first | (go_simp; done) | (go_simp; rfl))
        intro gb119 hg w59 hbox hb
        replace HO121 := q0 (Kd.R_below (qr HO121.out) hb)
        have BK119 := q0 (hbox)
        have GW119 := gw HB hg
        have GE119 := gw HB hg
        replace HB := bp HB hb
        have NB110_119 := nl BK110 hg
        have NB119_110 := ng BK110 hg
        replace BK110 := kd BK110 hb
        have NB100_119 := nl BK100 hg
        have NB119_100 := ng BK100 hg
        replace BK100 := kd BK100 hb
        clear hb hbox hg
        refine hK.out _ _ ⟨bca BK110, bcb BK110⟩ (fun hHeld => ?_)
        clear hK K
        refine nu 8 ?_
        exact norm_ (by first | (simp only [putAll, Act.put, List.setIfInBounds_toArray, List.set_cons_zero, List.set_cons_succ]; done) | (simp only [putAll, Act.put, List.setIfInBounds_toArray, List.set_cons_zero, List.set_cons_succ]; rfl)) (hJ2_5_8_12 (v117, v120, gb119) _ ⟨hHeld, (qr HO121.out), (qk BK110.out), (qk BK100.out), (qk BK119.out), GW119.out, GE119.out, NB110_119.out, NB119_110.out, NB100_119.out, NB119_100.out, (qb HB.out)⟩)
     ·skip
      rintro ⟨v117, v120, gb119⟩ w59 ⟨hS_, h0_, h1_, h2_, h3_, h4_, h5_, h6_, h7_, h8_, h9_, h10_⟩
      have n0_ : Aside0 (Kd.R kTie 32 w59 w.heap.size (fun _ => True) v120 y102) := ⟨h0_⟩
      have n1_ : Aside0 (w59.heap[gb110]? = some (.cells #[.int .i64 a0_0, .slice A0_1 l0_1.length c0_1] 25 (0, 0))) := ⟨h1_⟩
      have n2_ : Aside0 (w59.heap[gb100]? = some (.cells #[.int .i64 0, .slice none 0 0] 25 (0, 0))) := ⟨h2_⟩
      have n3_ : Aside0 (w59.heap[gb119]? = some (.cells #[.int .i64 0, .slice none 0 0] 25 (0, 0))) := ⟨h3_⟩
      have n4_ : Aside0 (w.heap.size ≤ gb119) := ⟨h4_⟩
      have n5_ : Aside0 (w.heap.size ≤ gb119) := ⟨h5_⟩
      have n6_ : Aside0 (gb110 ≠ gb119) := ⟨h6_⟩
      have n7_ : Aside0 (gb119 ≠ gb110) := ⟨h7_⟩
      have n8_ : Aside0 (gb100 ≠ gb119) := ⟨h8_⟩
      have n9_ : Aside0 (gb119 ≠ gb100) := ⟨h9_⟩
      have n10_ : Aside0 (Below w.heap.size w w59) := ⟨h10_⟩
      clear BK110 BK100 HB h0_ h1_ h2_ h3_ h4_ h5_ h6_ h7_ h8_ h9_ h10_
      have HO121 := n0_
      have BK110 := n1_
      have BK100 := n2_
      have BK119 := n3_
      have GW119 := n4_
      have GE119 := n5_
      have NB110_119 := n6_
      have NB119_110 := n7_
      have NB100_119 := n8_
      have NB119_100 := n9_
      have HB := n10_
      clear n0_ n1_ n2_ n3_ n4_ n5_ n6_ n7_ n8_ n9_ n10_
      have hHeld : w59.cell? ⟨gb110, 0, none⟩ = some (.int .i64 a0_0) ∧ w59.cell? ⟨gb110, 1, none⟩ = some (.slice A0_1 l0_1.length c0_1) := hS_
      refine norm_ (a' := ?_) ?_ ?_
      rotate_left
      ·simp only [putAll, Act.put, List.setIfInBounds_toArray, List.set_cons_zero, List.set_cons_succ]
       rfl
      refine one_ (i := 9) (N := some 45) (ba 14 5119) rfl rfl (one_of HT_.out (by kernel_rfl)) (by decide) (fun K hK => ?_)
      refine Kd.R_lit_step kTie _ 32 ?hg (N := 45) ?hd (xs := ([(⟨t103, t113⟩ : STie)] : List (STie))) (inner := [.int .i64 t103, .int .i64 t113]) (ok := fun _ => True) (okp := fun _ => True) ?hr ?hp (fun _ hk => hk) trivial (Below.refl _ _) (Nat.le_refl _) (by simp) ?_; (case hd => rfl); (case hg => rfl); (case hr => first | (go_simp; done) | (go_simp; rfl)); (case hp => exact (Reps.c2 (show Kd.M kTie _ _ _ (⟨t103, t113⟩ : STie) [.int .i64 t103, .int .i64 t113] from (kTie_mkM _ _ _ (⟨t103, t113⟩ : STie) )) (Reps.none _ _)))
      intro v122 w60 ho61 hb hg_ hnew_
      clear hg_ hnew_
      (first | rw [← Ny104.out] at ho61 | (simp only [Int.reduceToNat] at ho61; rw [← Ny104.out] at ho61))
      have HO123 := q0 (Kd.R_lower (Kd.R_new' ho61 (Kd.R_lt (qr HO121.out))) (below_size (qb HB.out)))
      replace HO121 := q0 (Kd.R_elder' (qr HO121.out) (Kd.R_base ho61) hb)
      replace BK110 := kd BK110 hb
      replace BK100 := kd BK100 hb
      replace BK119 := kd BK119 hb
      replace HB := bp HB hb
      clear hb ho61
      refine hK.out _ _ ⟨bca BK110, bcb BK110⟩ (fun hHeld => ?_)
      clear hK K
      refine nu 45 ?_
      exact norm_ (by first | (simp only [putAll, Act.put, List.setIfInBounds_toArray, List.set_cons_zero, List.set_cons_succ]; done) | (simp only [putAll, Act.put, List.setIfInBounds_toArray, List.set_cons_zero, List.set_cons_succ]; rfl)) (hJ2_5_8_9_12 (v117, v120, v122, gb119) _ ⟨hHeld, (by (with_reducible repeat (first | apply Kd.R_alloc | apply Kd.R_drewN | apply Kd.R_drew)); exact Kd.R_mono HO121.out (fun _ hk => hk.2)), (by (with_reducible repeat (first | apply Kd.R_alloc | apply Kd.R_drewN | apply Kd.R_drew)); exact Kd.R_mono HO123.out (fun _ hk => hk.2)), (qk BK110.out), (qk BK100.out), (qk BK119.out), GW119.out, GE119.out, NB110_119.out, NB119_110.out, NB100_119.out, NB119_100.out, (qb HB.out)⟩)
    ·skip
     rintro ⟨v117, v120, v122⟩ w60 ⟨hS_, h0_, h1_, h2_, h3_, h4_⟩
     have n0_ : Aside0 (Kd.R kTie 32 w60 w.heap.size (fun k_ => some k_ ≠ (v122 : Value).ownBlock) v120 y102) := ⟨h0_⟩
     have n1_ : Aside0 (Kd.R kTie 32 w60 w.heap.size (fun k_ => some k_ ≠ (v120 : Value).ownBlock) v122 y104) := ⟨h1_⟩
     have n2_ : Aside0 (w60.heap[gb110]? = some (.cells #[.int .i64 a0_0, .slice A0_1 l0_1.length c0_1] 25 (0, 0))) := ⟨h2_⟩
     have n3_ : Aside0 (w60.heap[gb100]? = some (.cells #[.int .i64 0, .slice none 0 0] 25 (0, 0))) := ⟨h3_⟩
     have n4_ : Aside0 (Below w.heap.size w w60) := ⟨h4_⟩
     clear BK110 BK100 HB h0_ h1_ h2_ h3_ h4_
     have HO121 := n0_
     have HO123 := n1_
     have BK110 := n2_
     have BK100 := n3_
     have HB := n4_
     clear n0_ n1_ n2_ n3_ n4_
     have hHeld : w60.cell? ⟨gb110, 0, none⟩ = some (.int .i64 a0_0) ∧ w60.cell? ⟨gb110, 1, none⟩ = some (.slice A0_1 l0_1.length c0_1) := hS_
     obtain ⟨Ao62, co62, eo62⟩ := Kd.R_slice HO123.out
     (first | subst eo62 | (injection eo62 with f1_ f2_ f3_; have f4_ := f1_.symm; have f5_ := f3_.symm; clear f1_ f2_ f3_; subst f4_; subst f5_))
     refine norm_ (a' := ?_) ?_ ?_
     rotate_left
     ·simp only [putAll, Act.put, List.setIfInBounds_toArray, List.set_cons_zero, List.set_cons_succ]
      rfl
     refine two_ (i := 10) (j := 12) (Ni := some 46) (Nj := some 8) (ba 14 2047) (ba 14 5119) rfl rfl rfl rfl (two_of HT_.out (by kernel_rfl)) (by decide) (by decide) (fun K hK => ?_) (fun K hK => ?_)
     ·skip
      refine Kd.R_append_rows_step kTie (w0 := w) w.heap.size (by rfl) (.tmp 41) (.tmp 45) 23 32 (.agg #[(.int .i64 0), (.int .i64 0)]) 16 rfl Try.underlying23 info32 rfl (by decide) (by omega) v120 y102 y104 _ _ _ (fun k_ => some k_ ≠ (.slice Ao62 y104.length co62 : Value).ownBlock) (fun _ => False) rfl rfl ?aO ?aR (fun _ _ h => h) (fun _ h => h.elim) ?aF ?aB ?aS ?aL ?_
      (case aR => repeat (first | exact (Kd.R_reads' HO123.out).2.2 | (with_reducible refine Kd.C_alloc ?_ _) | (with_reducible refine Kd.C_drewN ?_ _) | (with_reducible refine Kd.C_drew ?_)))
      (case aB => exact (qb HB.out))
      (case aF => exact (fun k_ hk => Kd.fresh' (Kd.R_lt (qr HO123.out)) k_ hk))
      (case aO => exact (qr HO121.out))
      (case aS => exact (below_size (qb HB.out)))
      (case aL => have := LMc51.out; omega)
      intro v124 w61 ho hb hg hat
      rw [← Ny115.out] at ho
      replace BK110 := q0 (blk_grown (g := gb110) (o := .cells #[.int .i64 a0_0, .slice A0_1 l0_1.length c0_1] 25 (0, 0)) (qk BK110.out) hg (Kd.R_ne HO121.out BK110.out (by decide)))
      replace BK100 := q0 (blk_grown (g := gb100) (o := .cells #[.int .i64 0, .slice none 0 0] 25 (0, 0)) (qk BK100.out) hg (Kd.R_ne HO121.out BK100.out (by decide)))
      replace HO123 := q0 (Kd.R_after (ok := (fun _ => True)) (by (with_reducible repeat (first | apply Kd.R_alloc | apply Kd.R_drewN | apply Kd.R_drew)); exact Kd.R_mono HO123.out (fun _ hk => ⟨trivial, hk⟩)) hg hat)
      replace HB := q0 (hb)
      have HO125 := q0 (ho)
      clear HO121 ho hb hg hat
      obtain ⟨Ao63, co63, eo63⟩ := Kd.R_slice HO125.out
      (first | subst eo63 | (injection eo63 with f1_ f2_ f3_; have f4_ := f1_.symm; have f5_ := f3_.symm; clear f1_ f2_ f3_; subst f4_; subst f5_))
      refine hK.out _ _ ⟨bca BK110, bcb BK110⟩ (fun hHeld => ?_)
      clear hK K
      refine nu 46 ?_
      refine pU 11 47 14 4095 HT_ ?_
      exact norm_ (by first | (simp only [putAll, Act.put, List.setIfInBounds_toArray, List.set_cons_zero, List.set_cons_succ]; done) | (simp only [putAll, Act.put, List.setIfInBounds_toArray, List.set_cons_zero, List.set_cons_succ]; rfl)) (hJ2_5_8_9_10 (v117, v120, .slice Ao62 y104.length co62, .slice Ao63 y115.length co63) _ ⟨hHeld, (by (with_reducible repeat (first | apply Kd.R_alloc | apply Kd.R_drewN | apply Kd.R_drew)); exact Kd.R_mono HO123.out (fun _ hk => hk.2)), (qr HO125.out), (qk BK110.out), (qk BK100.out), (qb HB.out)⟩)
     ·skip
      refine box_step ?hg (N := 8) ?hd (cs := #[.int .i64 0, .slice none 0 0]) (t := 25) ?hr ?_; (case hd => rfl); (case hg => rfl); (case hr => first | (go_simp; done) | (go_simp; rfl))
      intro gb119 hg w61 hbox hb
      replace HO121 := q0 (Kd.R_below (qr HO121.out) hb)
      replace HO123 := q0 (Kd.R_below (qr HO123.out) hb)
      have BK119 := q0 (hbox)
      have GW119 := gw HB hg
      have GE119 := gw HB hg
      replace HB := bp HB hb
      have NB110_119 := nl BK110 hg
      have NB119_110 := ng BK110 hg
      replace BK110 := kd BK110 hb
      have NB100_119 := nl BK100 hg
      have NB119_100 := ng BK100 hg
      replace BK100 := kd BK100 hb
      clear hb hbox hg
      refine hK.out _ _ ⟨bca BK110, bcb BK110⟩ (fun hHeld => ?_)
      clear hK K
      refine nu 8 ?_
      exact norm_ (by first | (simp only [putAll, Act.put, List.setIfInBounds_toArray, List.set_cons_zero, List.set_cons_succ]; done) | (simp only [putAll, Act.put, List.setIfInBounds_toArray, List.set_cons_zero, List.set_cons_succ]; rfl)) (hJ2_5_8_9_12 (v117, v120, .slice Ao62 y104.length co62, gb119) _ ⟨hHeld, (qr HO121.out), (qr HO123.out), (qk BK110.out), (qk BK100.out), (qk BK119.out), GW119.out, GE119.out, NB110_119.out, NB119_110.out, NB100_119.out, NB119_100.out, (qb HB.out)⟩)
   ·skip
    rintro ⟨v117, v120, v122, gb119⟩ w61 ⟨hS_, h0_, h1_, h2_, h3_, h4_, h5_, h6_, h7_, h8_, h9_, h10_, h11_⟩
    have n0_ : Aside0 (Kd.R kTie 32 w61 w.heap.size (fun k_ => some k_ ≠ (v122 : Value).ownBlock) v120 y102) := ⟨h0_⟩
    have n1_ : Aside0 (Kd.R kTie 32 w61 w.heap.size (fun k_ => some k_ ≠ (v120 : Value).ownBlock) v122 y104) := ⟨h1_⟩
    have n2_ : Aside0 (w61.heap[gb110]? = some (.cells #[.int .i64 a0_0, .slice A0_1 l0_1.length c0_1] 25 (0, 0))) := ⟨h2_⟩
    have n3_ : Aside0 (w61.heap[gb100]? = some (.cells #[.int .i64 0, .slice none 0 0] 25 (0, 0))) := ⟨h3_⟩
    have n4_ : Aside0 (w61.heap[gb119]? = some (.cells #[.int .i64 0, .slice none 0 0] 25 (0, 0))) := ⟨h4_⟩
    have n5_ : Aside0 (w.heap.size ≤ gb119) := ⟨h5_⟩
    have n6_ : Aside0 (w.heap.size ≤ gb119) := ⟨h6_⟩
    have n7_ : Aside0 (gb110 ≠ gb119) := ⟨h7_⟩
    have n8_ : Aside0 (gb119 ≠ gb110) := ⟨h8_⟩
    have n9_ : Aside0 (gb100 ≠ gb119) := ⟨h9_⟩
    have n10_ : Aside0 (gb119 ≠ gb100) := ⟨h10_⟩
    have n11_ : Aside0 (Below w.heap.size w w61) := ⟨h11_⟩
    clear BK110 BK100 HB h0_ h1_ h2_ h3_ h4_ h5_ h6_ h7_ h8_ h9_ h10_ h11_
    have HO121 := n0_
    have HO123 := n1_
    have BK110 := n2_
    have BK100 := n3_
    have BK119 := n4_
    have GW119 := n5_
    have GE119 := n6_
    have NB110_119 := n7_
    have NB119_110 := n8_
    have NB100_119 := n9_
    have NB119_100 := n10_
    have HB := n11_
    clear n0_ n1_ n2_ n3_ n4_ n5_ n6_ n7_ n8_ n9_ n10_ n11_
    have hHeld : w61.cell? ⟨gb110, 0, none⟩ = some (.int .i64 a0_0) ∧ w61.cell? ⟨gb110, 1, none⟩ = some (.slice A0_1 l0_1.length c0_1) := hS_
    obtain ⟨Ao63, co63, eo63⟩ := Kd.R_slice HO123.out
    (first | subst eo63 | (injection eo63 with f1_ f2_ f3_; have f4_ := f1_.symm; have f5_ := f3_.symm; clear f1_ f2_ f3_; subst f4_; subst f5_))
    refine norm_ (a' := ?_) ?_ ?_
    rotate_left
    ·simp only [putAll, Act.put, List.setIfInBounds_toArray, List.set_cons_zero, List.set_cons_succ]
     rfl
    refine one_ (i := 10) (N := some 46) (ba 14 6143) rfl rfl (one_of HT_.out (by kernel_rfl)) (by decide) (fun K hK => ?_)
    refine Kd.R_append_rows_step kTie (w0 := w) w.heap.size (by rfl) (.tmp 41) (.tmp 45) 23 32 (.agg #[(.int .i64 0), (.int .i64 0)]) 16 rfl Try.underlying23 info32 rfl (by decide) (by omega) v120 y102 y104 _ _ _ (fun k_ => some k_ ≠ (.slice Ao63 y104.length co63 : Value).ownBlock) (fun _ => False) rfl rfl ?aO ?aR (fun _ _ h => h) (fun _ h => h.elim) ?aF ?aB ?aS ?aL ?_
    (case aR => repeat (first | exact (Kd.R_reads' HO123.out).2.2 | (with_reducible refine Kd.C_alloc ?_ _) | (with_reducible refine Kd.C_drewN ?_ _) | (with_reducible refine Kd.C_drew ?_)))
    (case aB => exact (qb HB.out))
    (case aF => exact (fun k_ hk => Kd.fresh' (Kd.R_lt (qr HO123.out)) k_ hk))
    (case aO => exact (qr HO121.out))
    (case aS => exact (below_size (qb HB.out)))
    (case aL => have := LMc51.out; omega)
    intro v124 w62 ho hb hg hat
    rw [← Ny115.out] at ho
    replace BK110 := q0 (blk_grown (g := gb110) (o := .cells #[.int .i64 a0_0, .slice A0_1 l0_1.length c0_1] 25 (0, 0)) (qk BK110.out) hg (Kd.R_ne HO121.out BK110.out (by decide)))
    replace BK100 := q0 (blk_grown (g := gb100) (o := .cells #[.int .i64 0, .slice none 0 0] 25 (0, 0)) (qk BK100.out) hg (Kd.R_ne HO121.out BK100.out (by decide)))
    replace HO123 := q0 (Kd.R_after (ok := (fun _ => True)) (by (with_reducible repeat (first | apply Kd.R_alloc | apply Kd.R_drewN | apply Kd.R_drew)); exact Kd.R_mono HO123.out (fun _ hk => ⟨trivial, hk⟩)) hg hat)
    replace BK119 := q0 (blk_grown (g := gb119) (o := .cells #[.int .i64 0, .slice none 0 0] 25 (0, 0)) (qk BK119.out) hg (Kd.R_ne HO121.out BK119.out (by decide)))
    replace HB := q0 (hb)
    have HO125 := q0 (ho)
    clear HO121 ho hb hg hat
    obtain ⟨Ao64, co64, eo64⟩ := Kd.R_slice HO125.out
    (first | subst eo64 | (injection eo64 with f1_ f2_ f3_; have f4_ := f1_.symm; have f5_ := f3_.symm; clear f1_ f2_ f3_; subst f4_; subst f5_))
    refine hK.out _ _ ⟨bca BK110, bcb BK110⟩ (fun hHeld => ?_)
    clear hK K
    refine nu 46 ?_
    refine pU 11 47 14 8191 HT_ ?_
    exact norm_ (by first | (simp only [putAll, Act.put, List.setIfInBounds_toArray, List.set_cons_zero, List.set_cons_succ]; done) | (simp only [putAll, Act.put, List.setIfInBounds_toArray, List.set_cons_zero, List.set_cons_succ]; rfl)) (hJ2_5_8_9_10_12 (v117, v120, .slice Ao63 y104.length co63, .slice Ao64 y115.length co64, gb119) _ ⟨hHeld, (by (with_reducible repeat (first | apply Kd.R_alloc | apply Kd.R_drewN | apply Kd.R_drew)); exact Kd.R_mono HO123.out (fun _ hk => hk.2)), (qr HO125.out), (qk BK110.out), (qk BK100.out), (qk BK119.out), GW119.out, GE119.out, NB110_119.out, NB119_110.out, NB100_119.out, NB119_100.out, (qb HB.out)⟩)
  ·skip
   rintro ⟨v117, v120, v122, v124⟩ w63 ⟨hS_, h0_, h1_, h2_, h3_, h4_⟩
   have n0_ : Aside0 (Kd.R kTie 32 w63 w.heap.size (fun k_ => some k_ ≠ (v124 : Value).ownBlock) v122 y104) := ⟨h0_⟩
   have n1_ : Aside0 (Kd.R kTie 32 w63 w.heap.size (fun k_ => some k_ ≠ (v122 : Value).ownBlock) v124 y115) := ⟨h1_⟩
   have n2_ : Aside0 (w63.heap[gb110]? = some (.cells #[.int .i64 a0_0, .slice A0_1 l0_1.length c0_1] 25 (0, 0))) := ⟨h2_⟩
   have n3_ : Aside0 (w63.heap[gb100]? = some (.cells #[.int .i64 0, .slice none 0 0] 25 (0, 0))) := ⟨h3_⟩
   have n4_ : Aside0 (Below w.heap.size w w63) := ⟨h4_⟩
   clear BK110 BK100 HB h0_ h1_ h2_ h3_ h4_
   have HO123 := n0_
   have HO125 := n1_
   have BK110 := n2_
   have BK100 := n3_
   have HB := n4_
   clear n0_ n1_ n2_ n3_ n4_
   have hHeld : w63.cell? ⟨gb110, 0, none⟩ = some (.int .i64 a0_0) ∧ w63.cell? ⟨gb110, 1, none⟩ = some (.slice A0_1 l0_1.length c0_1) := hS_
   obtain ⟨Ao64, co64, eo64⟩ := Kd.R_slice HO125.out
   (first | subst eo64 | (injection eo64 with f1_ f2_ f3_; have f4_ := f1_.symm; have f5_ := f3_.symm; clear f1_ f2_ f3_; subst f4_; subst f5_))
   refine norm_ (a' := ?_) ?_ ?_
   rotate_left
   ·simp only [putAll, Act.put, List.setIfInBounds_toArray, List.set_cons_zero, List.set_cons_succ]
    rfl
   refine one_ (i := 12) (N := some 8) (ba 14 8191) rfl rfl (one_of HT_.out (by kernel_rfl)) (by decide) (fun K hK => ?_)
   refine box_step ?hg (N := 8) ?hd (cs := #[.int .i64 0, .slice none 0 0]) (t := 25) ?hr ?_; (case hd => rfl); (case hg => rfl); (case hr => first | (go_simp; done) | (go_simp; rfl))
   intro gb119 hg w65 hbox hb
   replace HO123 := q0 (Kd.R_below (qr HO123.out) hb)
   replace HO125 := q0 (Kd.R_below (qr HO125.out) hb)
   have BK119 := q0 (hbox)
   have GW119 := gw HB hg
   have GE119 := gw HB hg
   replace HB := bp HB hb
   have NB110_119 := nl BK110 hg
   have NB119_110 := ng BK110 hg
   replace BK110 := kd BK110 hb
   have NB100_119 := nl BK100 hg
   have NB119_100 := ng BK100 hg
   replace BK100 := kd BK100 hb
   clear hb hbox hg
   refine hK.out _ _ ⟨bca BK110, bcb BK110⟩ (fun hHeld => ?_)
   clear hK K
   refine nu 8 ?_
   exact norm_ (by first | (simp only [putAll, Act.put, List.setIfInBounds_toArray, List.set_cons_zero, List.set_cons_succ]; done) | (simp only [putAll, Act.put, List.setIfInBounds_toArray, List.set_cons_zero, List.set_cons_succ]; rfl)) (hJ2_5_8_9_10_12 (v117, v120, v122, .slice Ao64 y115.length co64, gb119) _ ⟨hHeld, (qr HO123.out), (qr HO125.out), (qk BK110.out), (qk BK100.out), (qk BK119.out), GW119.out, GE119.out, NB110_119.out, NB119_110.out, NB100_119.out, NB119_100.out, (qb HB.out)⟩)
 rintro ⟨v117, v120, v122, v124, gb119⟩ w64 ⟨hS_, h0_, h1_, h2_, h3_, h4_, h5_, h6_, h7_, h8_, h9_, h10_, h11_⟩
 have n0_ : Aside0 (Kd.R kTie 32 w64 w.heap.size (fun k_ => some k_ ≠ (v124 : Value).ownBlock) v122 y104) := ⟨h0_⟩
 have n1_ : Aside0 (Kd.R kTie 32 w64 w.heap.size (fun k_ => some k_ ≠ (v122 : Value).ownBlock) v124 y115) := ⟨h1_⟩
 have n2_ : Aside0 (w64.heap[gb110]? = some (.cells #[.int .i64 a0_0, .slice A0_1 l0_1.length c0_1] 25 (0, 0))) := ⟨h2_⟩
 have n3_ : Aside0 (w64.heap[gb100]? = some (.cells #[.int .i64 0, .slice none 0 0] 25 (0, 0))) := ⟨h3_⟩
 have n4_ : Aside0 (w64.heap[gb119]? = some (.cells #[.int .i64 0, .slice none 0 0] 25 (0, 0))) := ⟨h4_⟩
 have n5_ : Aside0 (w.heap.size ≤ gb119) := ⟨h5_⟩
 have n6_ : Aside0 (w.heap.size ≤ gb119) := ⟨h6_⟩
 have n7_ : Aside0 (gb110 ≠ gb119) := ⟨h7_⟩
 have n8_ : Aside0 (gb119 ≠ gb110) := ⟨h8_⟩
 have n9_ : Aside0 (gb100 ≠ gb119) := ⟨h9_⟩
 have n10_ : Aside0 (gb119 ≠ gb100) := ⟨h10_⟩
 have n11_ : Aside0 (Below w.heap.size w w64) := ⟨h11_⟩
 clear BK110 BK100 HB h0_ h1_ h2_ h3_ h4_ h5_ h6_ h7_ h8_ h9_ h10_ h11_
 have HO123 := n0_
 have HO125 := n1_
 have BK110 := n2_
 have BK100 := n3_
 have BK119 := n4_
 have GW119 := n5_
 have GE119 := n6_
 have NB110_119 := n7_
 have NB119_110 := n8_
 have NB100_119 := n9_
 have NB119_100 := n10_
 have HB := n11_
 clear n0_ n1_ n2_ n3_ n4_ n5_ n6_ n7_ n8_ n9_ n10_ n11_
 have hHeld : w64.cell? ⟨gb110, 0, none⟩ = some (.int .i64 a0_0) ∧ w64.cell? ⟨gb110, 1, none⟩ = some (.slice A0_1 l0_1.length c0_1) := hS_
 obtain ⟨Ao65, co65, eo65⟩ := Kd.R_slice HO125.out
 (first | subst eo65 | (injection eo65 with f1_ f2_ f3_; have f4_ := f1_.symm; have f5_ := f3_.symm; clear f1_ f2_ f3_; subst f4_; subst f5_))
 refine norm_ (a' := ?_) ?_ ?_
 rotate_left
 ·simp only [putAll, Act.put, List.setIfInBounds_toArray, List.set_cons_zero, List.set_cons_succ]
  rfl
 refine one_ (i := 13) (N := none) (ba 14 16383) rfl rfl (one_of HT_.out (by kernel_rfl)) (by decide) (fun K hK => ?_)
 have hs66 : w64.cell? ⟨gb119, 0, none⟩ = some (.int .i64 0) := (blk_cell BK119.out 0).trans rfl
 have hfs66 := blk_frozen BK119.out 0
 have hns66_0 := NB110_119.out
 have hns66_1 := NB100_119.out
 have hms66_0 := NB119_110.out
 have hms66_1 := NB119_100.out
 have hs67 : w64.cell? ⟨gb119, 1, none⟩ = some (.slice none 0 0) := (blk_cell BK119.out 1).trans rfl
 have hfs67 := blk_frozen BK119.out 1
 have hns67_0 := NB110_119.out
 have hns67_1 := NB100_119.out
 have hms67_0 := NB119_110.out
 have hms67_1 := NB119_100.out
 refine skip_ (w1 := ?_) (by rfl) rfl ?_ ?_
 rotate_left
 ·go_simp
  rfl
 refine hK.out _ _ ⟨((cell_far (p := ⟨gb119, _, none⟩) NB110_119.out _).trans (((cell_far (p := ⟨gb119, _, none⟩) NB110_119.out _).trans (hHeld.1)))), ((cell_far (p := ⟨gb119, _, none⟩) NB110_119.out _).trans (((cell_far (p := ⟨gb119, _, none⟩) NB110_119.out _).trans (hHeld.2))))⟩ (fun hHeld => ?_)
 clear hK K
 refine done_ (done_of HT_.out (by kernel_rfl)) ?_
 have n0_ : Aside0 (Kd.R kTie 32 ((w64.setCell ⟨gb119, 0, none⟩ (.int .i64 a0_0)).setCell ⟨gb119, 1, none⟩ (.slice Ao65 y115.length co65)) w.heap.size (fun k_ => some k_ ≠ (.slice Ao65 y115.length co65 : Value).ownBlock) v122 y104) := ⟨by (with_reducible repeat (first | apply Kd.R_alloc | apply Kd.R_drewN | apply Kd.R_drew)); exact rf2 HO123.out BK119.out (fun _ hk => hk.1)⟩
 have n1_ : Aside0 (Kd.R kTie 32 ((w64.setCell ⟨gb119, 0, none⟩ (.int .i64 a0_0)).setCell ⟨gb119, 1, none⟩ (.slice Ao65 y115.length co65)) w.heap.size (fun k_ => some k_ ≠ (v122 : Value).ownBlock) (.slice Ao65 y115.length co65) y115) := ⟨by (with_reducible repeat (first | apply Kd.R_alloc | apply Kd.R_drewN | apply Kd.R_drew)); exact rf2 HO125.out BK119.out (fun _ hk => hk.1)⟩
 have n2_ : Aside0 (((w64.setCell ⟨gb119, 0, none⟩ (.int .i64 a0_0)).setCell ⟨gb119, 1, none⟩ (.slice Ao65 y115.length co65)).heap[gb110]? = some (.cells #[.int .i64 a0_0, .slice A0_1 l0_1.length c0_1] 25 (0, 0))) := ⟨qf BK110.out⟩
 have n3_ : Aside0 (((w64.setCell ⟨gb119, 0, none⟩ (.int .i64 a0_0)).setCell ⟨gb119, 1, none⟩ (.slice Ao65 y115.length co65)).heap[gb100]? = some (.cells #[.int .i64 0, .slice none 0 0] 25 (0, 0))) := ⟨qf BK100.out⟩
 have n4_ : Aside0 (((w64.setCell ⟨gb119, 0, none⟩ (.int .i64 a0_0)).setCell ⟨gb119, 1, none⟩ (.slice Ao65 y115.length co65)).heap[gb119]? = some (.cells #[.int .i64 a0_0, .slice Ao65 y115.length co65] 25 (0, 0))) := ⟨by (with_reducible repeat (first | refine blk_drewN ?_ _ | refine blk_drew ?_ | refine blk_alloc ?_ _)); refine blk_put (cs := #[.int .i64 a0_0, .slice none 0 0]) ?_ 1 _ rfl; (with_reducible repeat (first | refine blk_drewN ?_ _ | refine blk_drew ?_ | refine blk_alloc ?_ _)); refine blk_put (cs := #[.int .i64 0, .slice none 0 0]) ?_ 0 _ rfl; (with_reducible repeat (first | refine blk_drewN ?_ _ | refine blk_drew ?_ | refine blk_alloc ?_ _)); exact BK119.out⟩
 have n5_ : Aside0 (Below w.heap.size w ((w64.setCell ⟨gb119, 0, none⟩ (.int .i64 a0_0)).setCell ⟨gb119, 1, none⟩ (.slice Ao65 y115.length co65))) := ⟨qb HB.out⟩
 (try clear HO123)
 (try clear HO125)
 (try clear BK110)
 (try clear BK100)
 (try clear BK119)
 (try clear HB)
 generalize ((w64.setCell ⟨gb119, 0, none⟩ (.int .i64 a0_0)).setCell ⟨gb119, 1, none⟩ (.slice Ao65 y115.length co65)) = w68 at n0_ n1_ n2_ n3_ n4_ n5_ ⊢
 have HO123 := n0_
 have HO125 := n1_
 have BK110 := n2_
 have BK100 := n3_
 have BK119 := n4_
 have HB := n5_
 clear n0_ n1_ n2_ n3_ n4_ n5_
 have hnb69 := NB119_110.out
 have hnc69 := NB110_119.out
 have hnb70 := NB119_100.out
 have hnc70 := NB100_119.out
 obtain ⟨hcz71_0, hcz71_1, hfz71_0, hfz71_1⟩ := b2 BK119
 try go_wp2_with (first | ((with_reducible refine gf 72 ?_); refine gl 50 Try.func72 #[.slice Ao65 y115.length co65, .func (.func 73) #[] #[]] ?_; (with_reducible refine (slices_SortFunc_Tie.calls kj3 (fun k_ => some k_ = (.slice Ao65 y115.length co65 : Value).ownBlock) (.slice Ao65 y115.length co65) y115 t105 w _ ?side1 ?side2 A52.out).mono ?_); (case side1 => exact qb HB.out); (case side2 => exact Kd.R_tight rfl HO125.out); rintro e w72 ⟨rfl, hy0, hb, hkp⟩; refine ⟨_, rfl, ?_⟩; replace BK110 := q0 (blk_kept (qk BK110.out) hkp (fun hs_ => (fun e_ => (Kd.R_ne HO125.out BK110.out (by decide)) e_) hs_)); replace BK100 := q0 (blk_kept (qk BK100.out) hkp (fun hs_ => (fun e_ => (Kd.R_ne HO125.out BK100.out (by decide)) e_) hs_)); replace HO123 := q0 (Kd.R_mono (ok' := fun k_ => some k_ ≠ (.slice Ao65 y115.length co65 : Value).ownBlock) (Kd.R_keptB (HO123.out) hkp (fun k_ hk_ hs_ => (hk_) hs_)) (fun k_ hk_ => hk_.1)); replace BK119 := q0 (blk_kept (qk BK119.out) hkp (fun hs_ => (fun e_ => (Kd.R_ne HO125.out BK119.out (by decide)) e_) hs_)); replace HO125 := q0 (Kd.R_reok rfl hy0 (fun k_ e_ => HO125.out.1 k_ e_)); replace HB := q0 (hb); (try clear hb); (try clear hkp); (try clear hy0); obtain ⟨hcz73_0, hcz73_1, hfz73_0, hfz73_1⟩ := b2 BK119; have hnb74 := NB100_110.out; have hnc74 := NB110_100.out; obtain ⟨hcz75_0, hcz75_1, hfz75_0, hfz75_1⟩ := b2 BK100))
 refine bodyPost_ret (results_ct rfl _ _ gb100 25 #[.int .i64 a0_0, .slice Ao65 y115.length co65] (0, 0) _ rfl (by (with_reducible repeat (first | refine blk_drewN ?_ _ | refine blk_drew ?_ | refine blk_alloc ?_ _)); refine blk_put (cs := #[.int .i64 a0_0, .slice none 0 0]) ?_ 1 _ rfl; (with_reducible repeat (first | refine blk_drewN ?_ _ | refine blk_drew ?_ | refine blk_alloc ?_ _)); refine blk_put (cs := #[.int .i64 0, .slice none 0 0]) ?_ 0 _ rfl; (with_reducible repeat (first | refine blk_drewN ?_ _ | refine blk_drew ?_ | refine blk_alloc ?_ _)); exact BK100.out) Try.underlying25 rfl (by kernel_rfl)) rfl ?_
 exact ⟨_, qe, by (with_reducible repeat (first | apply Kd.R_alloc | apply Kd.R_drewN | apply Kd.R_drew)); exact rf2 HO125.out BK100.out (fun _ hk => trivial), qb HB.out⟩

end Go.Proofs.Ytgoembpmhlmafaa.P
