import Derived.Test.YtgoembpmhlmafaaP0
import Derived.Test.YtgoembpmhlmafaaP1
import Derived.Test.YtgoembpmhlmafaaP2
import Derived.Test.YtgoembpmhlmafaaP3
import Derived.Test.YtgoembpmhlmafaaS2
namespace Go.Proofs.Ytgoembpmhlmafaa.P
open Go.RowKit Go.Proofs.YtgoembpmhlmafaaW.PrintWords Go.Proofs.YtgoembpmhlmafaaW.PrintLast Go.Proofs.YtgoembpmhlmafaaW.PrintMore
attribute [local go_sem] max2_int min2_int max_two min_two max_three min_three max_four min_four
set_option linter.unusedVariables false
set_option linter.unusedSimpArgs false
attribute [local go_sem high] eqATie
set_option maxHeartbeats 8000000 in
set_option maxRecDepth 100000 in
theorem slices_Index_int.calls (k : Nat) (A0 : Option Addr) (c0 : Nat) (l0 : List Int) (a1 : Int) (r : Int) (w : World) (hr0 : Kd.C (Kd.int .i64) w A0 l0.length l0) (hc0 : l0.length ≤ c0) (h : slices_Index_int.f k l0 a1 = some r) :
    Calls Try.prog 124 #[.slice A0 l0.length c0, .int .i64 a1] w fun e w' => e = .returned (.int .i64 r) ∧ Drawn0 w w' := by
 have HR0 := Aside0.mk hr0
 have HC0 := Aside0.mk hc0
 clear hr0 hc0
 have H : (slices_Index_int.l0 k l0 a1 (l0.length : Int) 0) = some r := h
 clear h
 have H' := Aside0.mk H
 clear H
 go_enter Try.func124, Try.ntmps124
 go_wp2
 go_loopg [8] k (fun kq v8 w' => ∃ (x8_1 : Int), v8 = .int .i64 x8_1 ∧ Aside0 (slices_Index_int.l0 kq l0 a1 (l0.length : Int) x8_1 = some r) ∧ Aside0 (kq ≤ k) ∧ Drawn0 w w')
 case atStart => exact ⟨(0), qs, H', ⟨Nat.le_refl _⟩, by repeat (first | exact Drawn0.refl _ | apply Drawn0.step)⟩
 clear H'
 try clear c1
 try clear p2
 obtain ⟨x8_1, rfl, HA, HK1, ⟨m1, rfl⟩⟩ := hrel
 rcases gk with _ | k1
 · exact absurd HA.out (by simp [slices_Index_int.l0])
 have H := HA.out
 clear HA
 simp only [slices_Index_int.l0] at H
 by_cases c3 : x8_1 < (l0.length : Int)
 rotate_left
 · rw [if_neg c3] at H
   have c3b0 : decide (x8_1 < (l0.length : Int)) = false := decide_eq_false c3
   clear c3
   obtain rfl := Option.some.inj H
   go_wp2
   go_ret
   exact ⟨by first | rfl | (simp; done) | (simp [*]; done), by repeat (first | exact Drawn0.refl _ | apply Drawn0.step)⟩
 rw [if_pos c3] at H
 have c3b0 : decide (x8_1 < (l0.length : Int)) = true := decide_eq_true c3
 clear c3
 by_cases c4 : 0 ≤ x8_1
 rotate_left
 · rw [if_neg c4] at H
   exact absurd H (by simp)
 rw [if_pos c4] at H
 have c4b0 : decide (0 ≤ x8_1) = true := decide_eq_true c4
 clear c4
 by_cases c5 : x8_1 < (l0.length : Int)
 rotate_left
 · rw [if_neg c5] at H
   exact absurd H (by simp)
 rw [if_pos c5] at H
 have c5b0 : decide (x8_1 < (l0.length : Int)) = true := decide_eq_true c5
 clear c5
 by_cases c6 : a1 = (rd l0 x8_1)
 · rw [if_pos c6] at H
   have c6b0 : (a1 == (rd l0 x8_1)) = true := beq_iff_eq.mpr c6
   have c6b1 : (a1 != (rd l0 x8_1)) = false := bne_eq_false_iff_eq.mpr c6
   clear c6
   obtain rfl := Option.some.inj H
   have p100 : 0 ≤ (x8_1 : Int) := of_decide_eq_true qa
   have q100 : x8_1 < (l0.length : Int) := of_decide_eq_true qa
   obtain ⟨ad100, e100, hx100_0⟩ := Kd.at_int HR0.out x8_1 p100 q100
   cases e100
   replace p100 := eq_true p100
   replace q100 := eq_true q100
   go_wp2
   go_ret
   exact ⟨by first | rfl | (simp; done) | (simp [*]; done), by repeat (first | exact Drawn0.refl _ | apply Drawn0.step)⟩
 rw [if_neg c6] at H
 have c6b0 : (a1 == (rd l0 x8_1)) = false := beq_eq_false_iff_ne.mpr c6
 have c6b1 : (a1 != (rd l0 x8_1)) = true := bne_iff_ne.mpr c6
 have H' := Aside0.mk H
 clear H
 have p100 : 0 ≤ (x8_1 : Int) := of_decide_eq_true qa
 have q100 : x8_1 < (l0.length : Int) := of_decide_eq_true qa
 obtain ⟨ad100, e100, hx100_0⟩ := Kd.at_int HR0.out x8_1 p100 q100
 cases e100
 replace p100 := eq_true p100
 replace q100 := eq_true q100
 go_wp2
 go_roundg k1
 case measure => have := HK1.out; omega
 case rel => exact ⟨(wrap64 (x8_1 + 1)), qs, H', ⟨by have := HK1.out; omega⟩, by repeat (first | exact Drawn0.refl _ | apply Drawn0.step)⟩

set_option maxHeartbeats 8000000 in
set_option maxRecDepth 100000 in
theorem slices_Contains_int.calls (k : Nat) (A0 : Option Addr) (c0 : Nat) (l0 : List Int) (a1 : Int) (r : Bool) (w : World) (hr0 : Kd.C (Kd.int .i64) w A0 l0.length l0) (hc0 : l0.length ≤ c0) (h : slices_Contains_int.f k l0 a1 = some r) :
    Calls Try.prog 108 #[.slice A0 l0.length c0, .int .i64 a1] w fun e w' => e = .returned (.bool r) ∧ Drawn0 w w' := by
 have HR0 := Aside0.mk hr0
 have HC0 := Aside0.mk hc0
 clear hr0 hc0
 have H : ((slices_Index_int.f k l0 a1).bind fun t100 => (some (decide (t100 ≥ 0)))) = some r := h
 clear h
 replace H := Option.bind_eq_some_iff.mp H
 obtain ⟨t100, A30, H⟩ := H
 have A3 := Aside0.mk A30
 clear A30
 obtain rfl := Option.some.inj H
 go_enter Try.func108, Try.ntmps108
 go_wp2_with (first | ((with_reducible refine gate_callee (f := 124) rfl ?_); refine gl 7 Try.func124 #[.slice A0 l0.length c0, .int .i64 a1] ?_; (with_reducible refine (slices_Index_int.calls k _ _ l0 a1 t100 _ ?side1 ?side2 A3.out).mono ?_); (case side1 => repeat (first | exact HR0.out | (with_reducible refine Kd.C_alloc ?_ _) | (with_reducible refine Kd.C_drewN ?_ _) | (with_reducible refine Kd.C_drew ?_))); (case side2 => exact HC0.out); rintro e w' ⟨rfl, ⟨nd, rfl⟩⟩; refine ⟨_, rfl, ?_⟩))
 go_ret
 exact ⟨by first | rfl | (simp; done) | (simp [*]; done), by repeat (first | exact Drawn0.refl _ | apply Drawn0.step)⟩

set_option maxHeartbeats 8000000 in
set_option maxRecDepth 100000 in
theorem slices_Clone_int.calls (A0 : Option Addr) (c0 : Nat) (l0 : List Int) (r : List Int) (w : World) (hr0 : Kd.C (Kd.int .i64) w A0 l0.length l0) (hc0 : l0.length ≤ c0) (h : slices_Clone_int.f l0 = some r) :
    Calls Try.prog 121 #[.slice A0 l0.length c0] w fun e w' => ∃ v0_ : Value, e = .returned (v0_) ∧ Kd.R (Kd.int .i64) 3 w' w.heap.size (fun _ => True) v0_ r ∧ Below w.heap.size w w' := by
 have q60 : ∀ (w : World) (a : Option Addr) (n c n2 c2 : Nat), (binOp .eql 60 (.slice a n c) (.slice none n2 c2)).run Try.prog w = .ok (.bool a.isNone) w := fun w a n c n2 c2 => Go.Lib.run_eql_slice_nil w _ _ a n c n2 c2 Try.underlying60
 rcases A0 with _ | a0_
 · have hl0 : l0 = [] := by
     cases l0 with
     | nil => rfl
     | cons x l =>
       obtain ⟨ad, c, e, _⟩ := Kd.C_get hr0 0 0 (by omega) (by simp only [List.length_cons]; omega)
       cases e
   subst hl0
   obtain rfl : r = [] := by simp [slices_Clone_int.f] at h; exact h
   go_enter Try.func121, Try.ntmps121
   go_wp2
   go_ret
   exact ⟨_, rfl, Kd.R_nil _ _ _ _ _, Below.refl _ _⟩
 have HR0 := Aside0.mk hr0
 have HC0 := Aside0.mk hc0
 clear hr0 hc0
 have HB := q0 (Below.refl w.heap.size w)
 have H : ((some (([] : List Int) : List Int)).bind fun y100 => (if y100.length + l0.length < 17592186044416 then (some (y100 ++ l0)) else (none))) = some r := h
 clear h
 obtain ⟨y100, hy100⟩ : ∃ y_ : List Int, y_ = (([] : List Int)) := ⟨_, rfl⟩
 replace H : (if y100.length + l0.length < 17592186044416 then (some (y100 ++ l0)) else (none)) = some r := qy H hy100
 have Ny100 := Aside0.mk hy100
 clear hy100
 by_cases c2 : y100.length + l0.length < 17592186044416
 rotate_left
 · rw [if_neg c2] at H
   exact absurd H (by simp)
 rw [if_pos c2] at H
 have LMc2 := Aside0.mk c2
 clear c2
 obtain ⟨y101, hy101⟩ : ∃ y_ : List Int, y_ = (y100 ++ l0) := ⟨_, rfl⟩
 replace H : (some y101) = some r := qy H hy101
 have Ny101 := Aside0.mk hy101
 clear hy101
 obtain rfl := Option.some.inj H
 go_enter Try.func121, Try.ntmps121
 go_wp2_with (first | ((with_reducible refine gate_dst (N := 5) rfl ?_); refine Kd.R_lit (Kd.int .i64) _ 3 ?hg (N := 5) ?hd (xs := ([] : List Int)) (inner := []) (ok := fun _ => True) (okp := fun _ => True) ?hr ?hp (fun _ hk => hk) trivial (Below.refl _ _) (Nat.le_refl _) (by simp) ?_; (case hd => rfl); (case hg => rfl); (case hr => first | (go_simp; done) | (go_simp; rfl)); (case hp => exact (Reps.none _ _)); intro v102 w3 ho4 hb hg_ hnew_; clear hg_ hnew_; (first | rw [← Ny100.out] at ho4 | (simp only [Int.reduceToNat] at ho4; rw [← Ny100.out] at ho4)); have HO103 := q0 (Kd.R_lower ho4 (below_size (qb HB.out))); replace HB := q0 (below_step (qb HB.out) hb); clear hb ho4) | ((with_reducible refine gate_builtin (b := .append) (xs := #[.tmp 5, .tmp 6]) rfl ?_); at_builtin; refine Kd.R_append_rows (Kd.int .i64) (w0 := w) w.heap.size rfl (.tmp 5) (.tmp 6) 60 3 (.int .i64 0) 8 rfl Try.underlying60 info3 rfl (by decide) (by omega) v102 y100 l0 _ _ _ (fun _ => True) (fun _ => False) rfl rfl ?aO ?aR (fun _ _ h => h) (fun _ h => h.elim) ?aF ?aB ?aS ?aL ?_; (case aR => repeat (first | exact (Kd.C_below HR0.out HB.out) | (with_reducible refine Kd.C_alloc ?_ _) | (with_reducible refine Kd.C_drewN ?_ _) | (with_reducible refine Kd.C_drew ?_))); (case aB => exact (qb HB.out)); (case aF => exact (fun _ _ => trivial)); (case aO => exact (qr HO103.out)); (case aS => exact (below_size (qb HB.out))); (case aL => have := LMc2.out; omega); intro v104 w5 ho hb hg hat; rw [← Ny101.out] at ho; replace HB := q0 (hb); have HO105 := q0 (ho); clear HO103; clear ho hb hg hat))
 go_ret
 exact ⟨_, qe, qr HO105.out, qb HB.out⟩

def impl_Net_ways.T8 : Bool × List (List Nat × List Nat) := (true, [([], []), ([], []), ([1], [1]), ([], []), ([3], [3]), ([2, 4, 2], [2, 4]), ([], []), ([], []), ([0, 5, 6, 7, 5], [0, 5, 6, 7]), ([8, 8, 0, 1, 2, 3, 4, 5, 6, 7, 8], [7, 8])])
def impl_Net_ways.B8 : List Nat := [0, 0, 2, 0, 8, 30, 0, 0, 255, 511]
theorem impl_Net_ways.tab8 : rtab .any (opsOf Try.f105 8) = impl_Net_ways.T8 := by kernel_rfl
theorem impl_Net_ways.bits8 : waitsOk impl_Net_ways.T8.2 impl_Net_ways.B8 = true := by kernel_rfl
set_option maxHeartbeats 8000000 in
set_option maxRecDepth 100000 in
theorem impl_Net_ways.calls (k : Nat) : ∀ (a0_0 : Int) (A0_1 : Option Addr) (c0_1 : Nat) (l0_1 : List (STie)) (A1 : Option Addr) (c1 : Nat) (l1 : List Int) (a2 : Int) (P3_ : Nat → Prop) (u107_ : Value) (l3 : List (List Int)) (r : List (List Int)) (w0 w : World) (hB : Below w0.heap.size w0 w) (hr0_1 : ∀ W_, Kept w W_ (fun k_ => P3_ k_) → Kd.C kTie W_ A0_1 l0_1.length l0_1) (hc0_1 : l0_1.length ≤ c0_1) (hr1 : ∀ W_, Kept w W_ (fun k_ => P3_ k_) → Kd.C (Kd.int .i64) W_ A1 l1.length l1) (hc1 : l1.length ≤ c1) (ho3 : Kd.S (Kd.slice 3 (Kd.int .i64)) 60 w w0.heap.size P3_ u107_ l3) (h : impl_Net_ways.f k a0_0 l0_1 l1 a2 l3 = some r),
    Calls Try.prog 105 #[.agg #[.int .i64 a0_0, .slice A0_1 l0_1.length c0_1], .slice A1 l1.length c1, .int .i64 a2, u107_] w fun e w' => ∃ v0_ : Value, e = .returned (v0_) ∧ Kd.S (Kd.slice 3 (Kd.int .i64)) 60 w' w0.heap.size (fun k_ => (P3_ k_ ∨ w.heap.size ≤ k_)) v0_ r ∧ Below w0.heap.size w0 w' ∧ Kept w w' (fun k_ => P3_ k_) := by
 induction k using Nat.strongRecOn with
 | _ k ih =>
 intro a0_0 A0_1 c0_1 l0_1 A1 c1 l1 a2 P3_ u107_ l3 r w0 w hB hr0_1 hc0_1 hr1 hc1 ho3 h
 cases k with
 | zero => exact absurd h (by simp [impl_Net_ways.f])
 | succ k =>
 simp only [impl_Net_ways.f] at h
 have hu25 := Try.underlying25
 have HR0_1 := Aside0.mk hr0_1
 have HC0_1 := Aside0.mk hc0_1
 clear hr0_1 hc0_1
 have HR1 := Aside0.mk hr1
 have HC1 := Aside0.mk hc1
 clear hr1 hc1
 have HO3 := q0 (show Kd.S (Kd.slice 3 (Kd.int .i64)) 60 w w0.heap.size (fun k_ => (P3_ k_ ∨ w.heap.size ≤ k_)) u107_ l3 from Kd.S_mono ho3 (fun k_ hk => (.inl hk)))
 have HK := q0 (Kept.refl w (fun k_ => P3_ k_))
 have HW0 := Aside0.mk hB.size
 have HB := Aside0.mk hB
 clear hB
 have H : (if 0 ≤ (wrap64 ((l1.length : Int) - 1)) then (if (wrap64 ((l1.length : Int) - 1)) < (l1.length : Int) then (if (rd l1 (wrap64 ((l1.length : Int) - 1))) = a2 then ((slices_Clone_int.f l1).bind fun t106 => (if l3.length < 5864062014805 then (some (l3 ++ [t106])) else (none))) else (impl_Net_ways.l0 k l1 a2 l3 (rd l1 (wrap64 ((l1.length : Int) - 1))) a0_0 0 a0_0 l0_1)) else (none)) else (none)) = some r := h
 clear h
 obtain ⟨ji5, hji5⟩ : ∃ j_ : Int, (wrap64 ((l1.length : Int) - 1)) = j_ := ⟨_, rfl⟩
 replace H : (if 0 ≤ (ji5) then (if (ji5) < (l1.length : Int) then (if (rd l1 (ji5)) = a2 then ((slices_Clone_int.f l1).bind fun t106 => (if l3.length < 5864062014805 then (some (l3 ++ [t106])) else (none))) else (impl_Net_ways.l0 k l1 a2 l3 (rd l1 (ji5)) a0_0 0 a0_0 l0_1)) else (none)) else (none)) = some r := by first | (rw [hji5] at H; exact H) | (simp only [hji5] at H ⊢; exact H)
 have hji5w : (IntKind.i64.wrap ((l1.length : Int) - 1)) = ji5 := (i64_w _).trans hji5
 by_cases c6 : 0 ≤ (ji5)
 rotate_left
 · rw [if_neg c6] at H
   exact absurd H (by simp)
 rw [if_pos c6] at H
 have c6b0 : decide (0 ≤ (ji5)) = true := decide_eq_true c6
 clear c6
 by_cases c7 : (ji5) < (l1.length : Int)
 rotate_left
 · rw [if_neg c7] at H
   exact absurd H (by simp)
 rw [if_pos c7] at H
 have c7b0 : decide ((ji5) < (l1.length : Int)) = true := decide_eq_true c7
 clear c7
 by_cases c8 : (rd l1 (ji5)) = a2
 · rw [if_pos c8] at H
   have c8b0 : ((rd l1 (ji5)) == a2) = true := beq_iff_eq.mpr c8
   have c8b1 : ((rd l1 (ji5)) != a2) = false := bne_eq_false_iff_eq.mpr c8
   clear c8
   replace H := Option.bind_eq_some_iff.mp H
   obtain ⟨t106, A106, H⟩ := H
   have A9 := Aside0.mk A106
   clear A106
   by_cases c9 : l3.length < 5864062014805
   rotate_left
   · rw [if_neg c9] at H
     exact absurd H (by simp)
   rw [if_pos c9] at H
   have LMc9 := Aside0.mk c9
   clear c9
   obtain ⟨y108, hy108⟩ : ∃ y_ : List (List Int), y_ = (l3 ++ [t106]) := ⟨_, rfl⟩
   replace H : (some y108) = some r := qy H hy108
   have Ny108 := Aside0.mk hy108
   clear hy108
   obtain rfl := Option.some.inj H
   go_enter Try.func105, Try.ntmps105
   go_wp2_with (first | ((with_reducible refine gate_dst (N := 4) rfl ?_); refine be 4 #[.int .i64 a0_0, .slice A0_1 l0_1.length c0_1] 25 ?_; intro gb109 hg w10 hbox hb; replace HO3 := q0 (Kd.S_below (qv HO3.out) hb); have BK109 := q0 (hbox); have GW109 := q0 ((by rw [hg]; exact (by first | exact HK.out.1 | exact (qp HK.out).1) : w.heap.size ≤ gb109)); replace HK := q0 (Kept.below (S := (fun k_ => P3_ k_)) (qp HK.out) hb); have GE109 := q0 ((bs HB.out hg : w0.heap.size ≤ gb109)); replace HB := q0 (below_step (qb HB.out) hb); clear hb hbox hg; have p100 : 0 ≤ ((ji5) : Int) := of_decide_eq_true qa; have q100 : (ji5) < (l1.length : Int) := of_decide_eq_true qa; obtain ⟨ad100, e100, hx100_0⟩ := Kd.at_int (Kd.C_kept_now HR1.out HK.out) (ji5) p100 q100; cases e100; replace p100 := eq_true p100; replace q100 := eq_true q100) | ((with_reducible refine gate_callee (f := 121) rfl ?_); refine gl 22 Try.func121 #[.slice (some ad100) l1.length c1] ?_; (with_reducible refine (slices_Clone_int.calls _ _ l1 t106 _ ?side1 ?side2 A9.out).mono ?_); (case side1 => exact Kd.C_kept_now HR1.out (qp HK.out)); (case side2 => exact HC1.out); rintro e w11 ⟨v110, rfl, ho0, hb⟩; refine ⟨_, rfl, ?_⟩; have HO111 := q0 (Kd.R_lower (Kd.R_new' (Kd.R_newM (M := (fun k_ => (P3_ k_ ∨ w.heap.size ≤ k_))) ho0 (by first | exact HK.out.1 | exact (qp HK.out).1) (fun k_ h_ => .inr h_)) (Kd.S_lt (qv HO3.out))) (below_size (qb HB.out))); replace HO3 := q0 (Kd.S_elder' (qv HO3.out) (Kd.R_base ho0) hb); replace BK109 := q0 (kb BK109.out hb); replace HK := q0 (Kept.below (S := (fun k_ => P3_ k_)) (qp HK.out) hb); replace HB := q0 (below_step (qb HB.out) hb); clear hb ho0; obtain ⟨Ao14, co14, eo14⟩ := Kd.R_slice HO111.out; subst eo14) | ((with_reducible refine gate_builtin (b := .append) (xs := #[.tmp 20, .tmp 23]) rfl ?_); at_builtin; refine Kd.S_append (Kd.slice 3 (Kd.int .i64)) (w0 := w0) w0.heap.size rfl (.tmp 20) (.tmp 23) 55 60 (.slice none 0 0) 24 rfl Try.underlying55 info60 rfl (by decide) (by omega) u107_ l3 t106 [.slice Ao14 t106.length co14] (fun k_ => (P3_ k_ ∨ w.heap.size ≤ k_)) (fun k_ => some k_ = (.slice Ao14 t106.length co14 : Value).ownBlock) rfl rfl ?aP (fun k_ hk_ => by have h_ := HO111.out.1 k_ hk_.symm; exact ⟨h_.1.1, h_.2⟩) ?aF ?aO ?aB ?aS ?aL ?_; (case aP => exact Kd.M_row (Kd.R_tight rfl HO111.out)); (case aB => exact (qb HB.out)); (case aF => exact (fun k_ hk => .inr (Nat.le_trans (by first | exact HK.out.1 | exact (qp HK.out).1) hk))); (case aO => exact (qv HO3.out)); (case aS => exact (below_size (qb HB.out))); (case aL => have := LMc9.out; omega); intro v112 w13 ho hb hg hat; rw [← Ny108.out] at ho; replace HB := q0 (hb); replace HK := q0 (Kept.of_grown (S := (fun k_ => P3_ k_)) hg (qp HK.out) (fun k_ e_ => ((Kd.S_R HO3.out).1 k_ e_).1)); have HO113 := q0 (ho); clear HO3; clear ho hb hg hat))
   go_ret
   exact ⟨_, by first | rfl | (simp only [← hji5]; first | rfl | (simp; done)) | (simp [*]; done), qv HO113.out, qb HB.out, qp HK.out⟩
 rw [if_neg c8] at H
 have c8b0 : ((rd l1 (ji5)) == a2) = false := beq_eq_false_iff_ne.mpr c8
 have c8b1 : ((rd l1 (ji5)) != a2) = true := bne_iff_ne.mpr c8
 have H' := Aside0.mk H
 clear H
 go_enter Try.func105, Try.ntmps105
 go_wp2_with (first | ((with_reducible refine gate_dst (N := 4) rfl ?_); refine be 4 #[.int .i64 a0_0, .slice A0_1 l0_1.length c0_1] 25 ?_; intro gb109 hg w15 hbox hb; replace HO3 := q0 (Kd.S_below (qv HO3.out) hb); have BK109 := q0 (hbox); have GW109 := q0 ((by rw [hg]; exact (by first | exact HK.out.1 | exact (qp HK.out).1) : w.heap.size ≤ gb109)); replace HK := q0 (Kept.below (S := (fun k_ => P3_ k_)) (qp HK.out) hb); have GE109 := q0 ((bs HB.out hg : w0.heap.size ≤ gb109)); replace HB := q0 (below_step (qb HB.out) hb); clear hb hbox hg; have p100 : 0 ≤ ((ji5) : Int) := of_decide_eq_true qa; have q100 : (ji5) < (l1.length : Int) := of_decide_eq_true qa; obtain ⟨ad100, e100, hx100_0⟩ := Kd.at_int (Kd.C_kept_now HR1.out HK.out) (ji5) p100 q100; cases e100; replace p100 := eq_true p100; replace q100 := eq_true q100; have hcz16_0 : w15.cell? ⟨gb109, 0, none⟩ = some (.int .i64 a0_0) := (blk_cell BK109.out 0).trans rfl; have hcz16_1 : w15.cell? ⟨gb109, 1, none⟩ = some (.slice A0_1 l0_1.length c0_1) := (blk_cell BK109.out 1).trans rfl; have hfz16_0 := blk_frozen BK109.out 0; have hfz16_1 := blk_frozen BK109.out 1))
 go_loopg [3, 27] k (fun kq v3 v27 w' => ∃ (x3_1 : List (List Int)) (x27_1 : Int), v27 = .int .i64 x27_1 ∧ Aside0 (impl_Net_ways.l0 kq l1 a2 x3_1 (rd l1 (ji5)) a0_0 x27_1 a0_0 l0_1 = some r) ∧ Aside0 (kq ≤ k) ∧ Aside0 (Kd.S (Kd.slice 3 (Kd.int .i64)) 60 w' w0.heap.size (fun k_ => (P3_ k_ ∨ w.heap.size ≤ k_)) v3 x3_1) ∧ Aside0 (w'.heap[gb109]? = some (.cells #[.int .i64 a0_0, (.slice A0_1 l0_1.length c0_1)] 25 (0, 0))) ∧ Aside0 (Kept w w' (fun k_ => P3_ k_)) ∧ Aside0 (Below w0.heap.size w0 w'))
 case atStart => exact ⟨(l3), (0), qs, H', ⟨Nat.le_refl _⟩, ⟨qv HO3.out⟩, ⟨qk BK109.out⟩, ⟨qp HK.out⟩, ⟨qb HB.out⟩⟩
 clear H'
 try clear c1
 try clear p2
 try clear p3
 try clear q3
 try clear hx3
 try clear c6
 try clear c6b0
 try clear p6
 try clear c7
 try clear c7b0
 try clear c8
 try clear c8b0
 try clear c8b1
 try clear c9
 try clear c10
 try clear hcz16_0
 try clear hcz16_1
 try clear hfz16_0
 try clear hfz16_1
 try clear hx100_0
 try clear p100
 try clear q100
 obtain ⟨x3_1, x27_1, rfl, HA, HK1, HO_3, BK109, HK, HB⟩ := hrel
 rcases gk with _ | k1
 · exact absurd HA.out (by simp [impl_Net_ways.l0])
 have H := HA.out
 clear HA
 simp only [impl_Net_ways.l0] at H
 by_cases c17 : x27_1 < a0_0
 rotate_left
 · rw [if_neg c17] at H
   have c17b0 : decide (x27_1 < a0_0) = false := decide_eq_false c17
   clear c17
   obtain rfl := Option.some.inj H
   go_wp2
   go_ret
   exact ⟨_, by first | rfl | (simp [errW_none, errW_some] <;> rfl) | (simp only [← hji5]; first | rfl | (simp [errW_none, errW_some] <;> rfl)) | (simp [*, errW_none, errW_some] <;> rfl), qv HO_3.out, qb HB.out, qp HK.out⟩
 rw [if_pos c17] at H
 have c17b0 : decide (x27_1 < a0_0) = true := decide_eq_true c17
 clear c17
 have HC18 := Aside0.mk H
 clear H
 go_upto_region 7 with (fail)
 go_cut [39] (fun v39 wc => ∃ (kq : Nat) (x39_17 : Bool), v39 = .bool x39_17 ∧ Aside0 (impl_Net_ways.j1 kq l1 a2 x3_1 (rd l1 (ji5)) x27_1 a0_0 x27_1 x39_17 a0_0 l0_1 = some r) ∧ Aside0 (kq ≤ k1) ∧ Aside0 (Kd.S (Kd.slice 3 (Kd.int .i64)) 60 wc w0.heap.size (fun k_ => (P3_ k_ ∨ w.heap.size ≤ k_)) u3 x3_1) ∧ Aside0 (wc.heap[gb109]? = some (.cells #[.int .i64 a0_0, (.slice A0_1 l0_1.length c0_1)] 25 (0, 0))) ∧ Aside0 (Kept w wc (fun k_ => P3_ k_)) ∧ Aside0 (Below w0.heap.size w0 wc))
 case first =>
   have H := HC18.out
   clear HC18
   replace H := Option.bind_eq_some_iff.mp H
   obtain ⟨t101, A114, H⟩ := H
   have A19 := Aside0.mk A114
   clear A114
   by_cases c20 : t101 = true
   rotate_left
   · replace c20 := Bool.eq_false_iff.mpr c20
     subst c20
     rw [if_neg nf] at H
     have H' := Aside0.mk H
     clear H
     have hcz24_0 : wr.cell? ⟨gb109, 0, none⟩ = some (.int .i64 a0_0) := (blk_cell BK109.out 0).trans rfl
     have hcz24_1 : wr.cell? ⟨gb109, 1, none⟩ = some (.slice A0_1 l0_1.length c0_1) := (blk_cell BK109.out 1).trans rfl
     have hfz24_0 := blk_frozen BK109.out 0
     have hfz24_1 := blk_frozen BK109.out 1
     go_wp2_with (first | ((with_reducible refine gate_callee (f := 71) rfl ?_); refine goesL_ (some 33) rfl rfl Try.func71 (by kernel_rfl) rfl #[.agg #[.int .i64 a0_0, .slice A0_1 l0_1.length c0_1], .int .i64 (rd l1 (ji5)), .int .i64 x27_1] rfl (by (try simp only [List.map_toArray, List.map_cons, List.map_nil]); first | done | (simp only [hji5]; rfl) | rfl | (simp only [List.length_drop, List.length_take]; rfl)) ?_; (with_reducible refine (impl_Net_has.calls k1 a0_0 _ _ l0_1 (rd l1 (ji5)) x27_1 false _ ?side1 ?side2 A19.out).mono ?_); (case side1 => exact Kd.C_kept_now HR0_1.out (qp HK.out)); (case side2 => exact HC0_1.out); rintro e w25 ⟨rfl, hb⟩; refine ⟨_, rfl, ?_⟩; replace HO_3 := q0 (Kd.S_below (qv HO_3.out) hb); replace BK109 := q0 (kb BK109.out hb); replace HK := q0 (Kept.below (S := (fun k_ => P3_ k_)) (qp HK.out) hb); replace HB := q0 (below_step (qb HB.out) hb); (try clear hb); (try clear hb2); (try clear hk); (try clear hi)))
     go_meet
     case rel => exact ⟨_, (false), qs, H', ⟨by have := HK1.out; first | omega | exact Nat.le_refl _⟩, ⟨qv HO_3.out⟩, ⟨qk BK109.out⟩, ⟨qp HK.out⟩, ⟨qb HB.out⟩⟩
   subst c20
   rw [if_pos rfl] at H
   replace H := Option.bind_eq_some_iff.mp H
   obtain ⟨t102, A115, H⟩ := H
   have A21 := Aside0.mk A115
   clear A115
   have H' := Aside0.mk H
   clear H
   have hcz22_0 : wr.cell? ⟨gb109, 0, none⟩ = some (.int .i64 a0_0) := (blk_cell BK109.out 0).trans rfl
   have hcz22_1 : wr.cell? ⟨gb109, 1, none⟩ = some (.slice A0_1 l0_1.length c0_1) := (blk_cell BK109.out 1).trans rfl
   have hfz22_0 := blk_frozen BK109.out 0
   have hfz22_1 := blk_frozen BK109.out 1
   go_wp2_with (first | ((with_reducible refine gate_callee (f := 71) rfl ?_); refine goesL_ (some 33) rfl rfl Try.func71 (by kernel_rfl) rfl #[.agg #[.int .i64 a0_0, .slice A0_1 l0_1.length c0_1], .int .i64 (rd l1 (ji5)), .int .i64 x27_1] rfl (by (try simp only [List.map_toArray, List.map_cons, List.map_nil]); first | done | (simp only [hji5]; rfl) | rfl | (simp only [List.length_drop, List.length_take]; rfl)) ?_; (with_reducible refine (impl_Net_has.calls k1 a0_0 _ _ l0_1 (rd l1 (ji5)) x27_1 true _ ?side1 ?side2 A19.out).mono ?_); (case side1 => exact Kd.C_kept_now HR0_1.out (qp HK.out)); (case side2 => exact HC0_1.out); rintro e w23 ⟨rfl, hb⟩; refine ⟨_, rfl, ?_⟩; replace HO_3 := q0 (Kd.S_below (qv HO_3.out) hb); replace BK109 := q0 (kb BK109.out hb); replace HK := q0 (Kept.below (S := (fun k_ => P3_ k_)) (qp HK.out) hb); replace HB := q0 (below_step (qb HB.out) hb); (try clear hb); (try clear hb2); (try clear hk); (try clear hi)) | (go_at_call 108; (with_reducible refine (slices_Contains_int.calls k1 _ _ l1 x27_1 t102 _ ?side1 ?side2 A21.out).mono ?_); (case side1 => exact Kd.C_kept_now HR1.out (qp HK.out)); (case side2 => exact HC1.out); rintro e w' ⟨rfl, ⟨nd, rfl⟩⟩))
   go_meet
   case rel => exact ⟨_, (!t102), qs, H', ⟨by have := HK1.out; first | omega | exact Nat.le_refl _⟩, ⟨qv HO_3.out⟩, ⟨qk BK109.out⟩, ⟨qp HK.out⟩, ⟨qb HB.out⟩⟩
 clear HC18
 try clear c1
 try clear c2
 try clear p2
 try clear p3
 try clear q3
 try clear hx3
 try clear c6
 try clear c6b0
 try clear p6
 try clear c7
 try clear c7b0
 try clear c8
 try clear c8b0
 try clear c8b1
 try clear c9
 try clear c10
 try clear c17
 try clear c17b0
 try clear c20
 try clear hcz16_0
 try clear hcz16_1
 try clear hcz22_0
 try clear hcz22_1
 try clear hcz24_0
 try clear hcz24_1
 try clear hfz16_0
 try clear hfz16_1
 try clear hfz22_0
 try clear hfz22_1
 try clear hfz24_0
 try clear hfz24_1
 try clear hx100_0
 try clear p2
 try clear p3
 try clear p100
 try clear p6
 try clear q3
 try clear q100
 obtain ⟨kq, x39_17, rfl, HA, HJ17, HO_3, BK109, HK, HB⟩ := hcut
 rcases kq with _ | kj17
 · exact absurd HA.out (by simp [impl_Net_ways.j1])
 have H := HA.out
 clear HA
 simp only [impl_Net_ways.j1] at H
 by_cases c26 : x39_17 = true
 rotate_left
 · replace c26 := Bool.eq_false_iff.mpr c26
   subst c26
   rw [if_neg nf] at H
   have H' := Aside0.mk H
   clear H
   go_wp2
   go_roundg kj17
   case measure => have := HK1.out; have := HJ17.out; omega
   case rel => exact ⟨(x3_1), (wrap64 (x27_1 + 1)), qs, H', ⟨by have := HK1.out; have := HJ17.out; omega⟩, ⟨qv HO_3.out⟩, ⟨qk BK109.out⟩, ⟨qp HK.out⟩, ⟨qb HB.out⟩⟩
 subst c26
 rw [if_pos rfl] at H
 replace H := Option.bind_eq_some_iff.mp H
 obtain ⟨t103, A116, H⟩ := H
 have A27 := Aside0.mk A116
 clear A116
 obtain ⟨y104, hy104⟩ : ∃ y_ : List Int, y_ = (([x27_1] : List Int)) := ⟨_, rfl⟩
 replace H : (if t103.length + y104.length < 17592186044416 then ((impl_Net_ways.f kj17 a0_0 l0_1 (t103 ++ y104) a2 x3_1).bind fun t105 => (impl_Net_ways.l0 kj17 l1 a2 t105 (rd l1 (ji5)) a0_0 (wrap64 (x27_1 + 1)) a0_0 l0_1)) else (none)) = some r := qy H hy104
 have Ny104 := Aside0.mk hy104
 clear hy104
 by_cases c28 : t103.length + y104.length < 17592186044416
 rotate_left
 · rw [if_neg c28] at H
   exact absurd H (by simp)
 rw [if_pos c28] at H
 have LMc28 := Aside0.mk c28
 clear c28
 obtain ⟨y117, hy117⟩ : ∃ y_ : List Int, y_ = (t103 ++ y104) := ⟨_, rfl⟩
 replace H : ((impl_Net_ways.f kj17 a0_0 l0_1 y117 a2 x3_1).bind fun t105 => (impl_Net_ways.l0 kj17 l1 a2 t105 (rd l1 (ji5)) a0_0 (wrap64 (x27_1 + 1)) a0_0 l0_1)) = some r := qy H hy117
 have Ny117 := Aside0.mk hy117
 clear hy117
 replace H := Option.bind_eq_some_iff.mp H
 obtain ⟨t105, A118, H⟩ := H
 have A29 := Aside0.mk A118
 clear A118
 have H' := Aside0.mk H
 clear H
 obtain ⟨Ao30, co30, eo30⟩ := Kd.S_slice HO_3.out
 subst eo30
 try go_wp2
 replace HO_3 := q0 (Kd.S_drew HO_3.out)
 replace BK109 := q0 (blk_drew BK109.out)
 replace HK := q0 (Kept.drew HK.out)
 replace HB := q0 (below_drew1 HB.out)
 refine start_ (n := 10) (S := fun w' => w'.cell? ⟨gb109, 0, none⟩ = some (.int .i64 a0_0) ∧ w'.cell? ⟨gb109, 1, none⟩ = some (.slice A0_1 l0_1.length c0_1)) (ds := []) (ba 10 0) (by kernel_rfl) rfl (by kernel_rfl) ⟨(blk_cell BK109.out 0).trans rfl, (blk_cell BK109.out 1).trans rfl⟩ (fun hHeld => ?_); refine with_tabW impl_Net_ways.tab8 impl_Net_ways.bits8 (fun HT_ HW_ => ?_)
 generalize wc.drew = w31 at HO_3 BK109 HK HB hHeld ⊢
 refine pu 1 (some 41) (ba 10 2) HT_.out ?_
 refine pu 3 (some 43) (ba 10 10) HT_.out ?_
 refine pu 6 (some 46) (ba 10 74) HT_.out ?_
 refine pu 7 (some 47) (ba 10 202) HT_.out ?_
 refine tu 0 (some 40) (ba 10 203) HT_.out HW_.out hHeld ?_
 refine join_ (σ := Value × Value) 3 (ba 10 223) (fun s_ => [(42, s_.1), (44, s_.2)]) (fun s_ w' => (w'.cell? ⟨gb109, 0, none⟩ = some (.int .i64 a0_0) ∧ w'.cell? ⟨gb109, 1, none⟩ = some (.slice A0_1 l0_1.length c0_1)) ∧ (Kd.R (Kd.int .i64) 3 w' w0.heap.size (fun k_ => (P3_ k_ ∨ w.heap.size ≤ k_) ∧ some k_ ≠ (s_.2 : Value).ownBlock ∧ some k_ ≠ (.slice Ao30 x3_1.length co30 : Value).ownBlock) s_.1 t103) ∧ (Kd.R (Kd.int .i64) 3 w' w0.heap.size (fun k_ => (P3_ k_ ∨ w.heap.size ≤ k_) ∧ some k_ ≠ (s_.1 : Value).ownBlock ∧ some k_ ≠ (.slice Ao30 x3_1.length co30 : Value).ownBlock) s_.2 y104) ∧ (Kd.S (Kd.slice 3 (Kd.int .i64)) 60 w' w0.heap.size (fun k_ => (P3_ k_ ∨ w.heap.size ≤ k_) ∧ some k_ ≠ (s_.1 : Value).ownBlock ∧ some k_ ≠ (s_.2 : Value).ownBlock) (.slice Ao30 x3_1.length co30) x3_1) ∧ (w'.heap[gb109]? = some (.cells #[.int .i64 a0_0, .slice A0_1 l0_1.length c0_1] 25 (0, 0))) ∧ (Kept w w' (fun k_ => P3_ k_)) ∧ (Below w0.heap.size w0 w')) ?_ ?_
 rotate_left
 · intro hCont
   refine two_ (i := 2) (j := 4) (Ni := some 42) (Nj := some 44) (ba 10 207) (ba 10 219) rfl rfl rfl rfl (two_of HT_.out (by kernel_rfl)) (by decide) (by decide) (fun K hK => ?_) (fun K hK => ?_)
   · skip
     refine goes_ Try.func121 (by kernel_rfl) rfl #[.slice (some ad100) l1.length c1] (by rfl) rfl rfl qm ?_
     with_reducible refine (slices_Clone_int.calls _ _ l1 t103 _ ?side1 ?side2 A27.out).mono ?_
     (case side1 => exact Kd.C_kept_now HR1.out (qp HK.out))
     (case side2 => exact HC1.out)
     rintro e w32 ⟨v119, rfl, ho0, hb⟩
     refine ⟨_, rfl, ?_⟩
     have HO120 := q0 (Kd.R_lower (Kd.R_new' (Kd.R_newM (M := fun k_ => (P3_ k_ ∨ w.heap.size ≤ k_)) ho0 (by first | exact HK.out.1 | exact (qp HK.out).1) (fun k_ h_ => .inr h_)) (Kd.S_lt (qv HO_3.out))) (below_size (qb HB.out)))
     replace HO_3 := q0 (Kd.S_elder' (qv HO_3.out) (Kd.R_base ho0) hb)
     replace BK109 := q0 (kb BK109.out hb)
     replace HK := q0 (Kept.below (S := (fun k_ => P3_ k_)) (qp HK.out) hb)
     replace HB := q0 (below_step (qb HB.out) hb)
     (try clear hb)
     (try clear hb2)
     (try clear hk)
     (try clear hi)
     (try clear ho0)
     refine hK.out _ _ ⟨(blk_cell BK109.out 0).trans rfl, (blk_cell BK109.out 1).trans rfl⟩ (fun hHeld => ?_)
     clear hK K
     refine nu 42 ?_
     refine one_ (i := 4) (N := some 44) (ba 10 223) rfl rfl (one_of HT_.out (by kernel_rfl)) (by decide) (fun K hK => ?_)
     refine Kd.R_lit_step (Kd.int .i64) _ 3 ?hg (N := 44) ?hd (xs := ([x27_1] : List Int)) (inner := [.int .i64 x27_1]) (ok := fun _ => True) (okp := fun _ => True) ?hr ?hp (fun _ hk => hk) trivial (Below.refl _ _) (Nat.le_refl _) (by simp) ?_; (case hd => rfl); (case hg => rfl); (case hr => first | (go_simp; done) | (go_simp; rfl)); (case hp => exact (Reps.one (show Kd.M (Kd.int .i64) _ _ _ x27_1 [.int .i64 x27_1] from rfl) (Reps.none _ _)))
     intro v121 w33 ho34 hb hg_ hnew_
     clear hg_ hnew_
     (first | rw [← Ny104.out] at ho34 | (simp only [Int.reduceToNat] at ho34; rw [← Ny104.out] at ho34))
     have HO122 := q0 (Kd.R_lower (Kd.R_new' (Kd.R_new' (Kd.R_newM (M := fun k_ => (P3_ k_ ∨ w.heap.size ≤ k_)) ho34 (by first | exact HK.out.1 | exact (qp HK.out).1) (fun k_ h_ => .inr h_)) (Kd.S_lt (qv HO_3.out))) (Kd.R_lt (qr HO120.out))) (below_size (qb HB.out)))
     replace HO_3 := q0 (Kd.S_elder' (qv HO_3.out) (Kd.R_base ho34) hb)
     replace HO120 := q0 (Kd.R_elder' (qr HO120.out) (Kd.R_base ho34) hb)
     replace BK109 := q0 (kb BK109.out hb)
     replace HK := q0 (Kept.below (S := (fun k_ => P3_ k_)) (qp HK.out) hb)
     replace HB := q0 (below_step (qb HB.out) hb)
     clear hb ho34
     refine hK.out _ _ ⟨(blk_cell BK109.out 0).trans rfl, (blk_cell BK109.out 1).trans rfl⟩ (fun hHeld => ?_)
     clear hK K
     refine nu 44 ?_
     exact norm_ (by simp only [putAll, Act.put, List.setIfInBounds_toArray, List.set_cons_zero, List.set_cons_succ]) (hCont (v119, v121) _ ⟨hHeld, (by (with_reducible repeat (first | apply Kd.R_alloc | apply Kd.R_drewN | apply Kd.R_drew)); exact Kd.R_mono HO120.out (fun _ hk => ⟨hk.1.1.1, ⟨hk.2, hk.1.2⟩⟩)), (by (with_reducible repeat (first | apply Kd.R_alloc | apply Kd.R_drewN | apply Kd.R_drew)); exact Kd.R_mono HO122.out (fun _ hk => ⟨hk.1.1.1, ⟨hk.2, hk.1.2⟩⟩)), (by (with_reducible repeat (first | apply Kd.S_alloc | apply Kd.S_drewN | apply Kd.S_drew)); exact Kd.S_mono HO_3.out (fun _ hk => ⟨hk.1.1, ⟨hk.1.2, hk.2⟩⟩)), (qk BK109.out), (qp HK.out), (qb HB.out)⟩)
   · skip
     refine Kd.R_lit_step (Kd.int .i64) _ 3 ?hg (N := 44) ?hd (xs := ([x27_1] : List Int)) (inner := [.int .i64 x27_1]) (ok := fun _ => True) (okp := fun _ => True) ?hr ?hp (fun _ hk => hk) trivial (Below.refl _ _) (Nat.le_refl _) (by simp) ?_; (case hd => rfl); (case hg => rfl); (case hr => first | (go_simp; done) | (go_simp; rfl)); (case hp => exact (Reps.one (show Kd.M (Kd.int .i64) _ _ _ x27_1 [.int .i64 x27_1] from rfl) (Reps.none _ _)))
     intro v121 w32 ho33 hb hg_ hnew_
     clear hg_ hnew_
     (first | rw [← Ny104.out] at ho33 | (simp only [Int.reduceToNat] at ho33; rw [← Ny104.out] at ho33))
     have HO122 := q0 (Kd.R_lower (Kd.R_new' (Kd.R_newM (M := fun k_ => (P3_ k_ ∨ w.heap.size ≤ k_)) ho33 (by first | exact HK.out.1 | exact (qp HK.out).1) (fun k_ h_ => .inr h_)) (Kd.S_lt (qv HO_3.out))) (below_size (qb HB.out)))
     replace HO_3 := q0 (Kd.S_elder' (qv HO_3.out) (Kd.R_base ho33) hb)
     replace BK109 := q0 (kb BK109.out hb)
     replace HK := q0 (Kept.below (S := (fun k_ => P3_ k_)) (qp HK.out) hb)
     replace HB := q0 (below_step (qb HB.out) hb)
     clear hb ho33
     refine hK.out _ _ ⟨(blk_cell BK109.out 0).trans rfl, (blk_cell BK109.out 1).trans rfl⟩ (fun hHeld => ?_)
     clear hK K
     refine nu 44 ?_
     refine one_ (i := 2) (N := some 42) (ba 10 223) rfl rfl (one_of HT_.out (by kernel_rfl)) (by decide) (fun K hK => ?_)
     refine goes_ Try.func121 (by kernel_rfl) rfl #[.slice (some ad100) l1.length c1] (by rfl) rfl rfl qm ?_
     with_reducible refine (slices_Clone_int.calls _ _ l1 t103 _ ?side1 ?side2 A27.out).mono ?_
     (case side1 => exact Kd.C_kept_now HR1.out (qp HK.out))
     (case side2 => exact HC1.out)
     rintro e w34 ⟨v119, rfl, ho0, hb⟩
     refine ⟨_, rfl, ?_⟩
     have HO120 := q0 (Kd.R_lower (Kd.R_new' (Kd.R_new' (Kd.R_newM (M := fun k_ => (P3_ k_ ∨ w.heap.size ≤ k_)) ho0 (by first | exact HK.out.1 | exact (qp HK.out).1) (fun k_ h_ => .inr h_)) (Kd.S_lt (qv HO_3.out))) (Kd.R_lt (qr HO122.out))) (below_size (qb HB.out)))
     replace HO_3 := q0 (Kd.S_elder' (qv HO_3.out) (Kd.R_base ho0) hb)
     replace HO122 := q0 (Kd.R_elder' (qr HO122.out) (Kd.R_base ho0) hb)
     replace BK109 := q0 (kb BK109.out hb)
     replace HK := q0 (Kept.below (S := (fun k_ => P3_ k_)) (qp HK.out) hb)
     replace HB := q0 (below_step (qb HB.out) hb)
     (try clear hb)
     (try clear hb2)
     (try clear hk)
     (try clear hi)
     (try clear ho0)
     refine hK.out _ _ ⟨(blk_cell BK109.out 0).trans rfl, (blk_cell BK109.out 1).trans rfl⟩ (fun hHeld => ?_)
     clear hK K
     refine nu 42 ?_
     exact norm_ (by simp only [putAll, Act.put, List.setIfInBounds_toArray, List.set_cons_zero, List.set_cons_succ]) (hCont (v119, v121) _ ⟨hHeld, (by (with_reducible repeat (first | apply Kd.R_alloc | apply Kd.R_drewN | apply Kd.R_drew)); exact Kd.R_mono HO120.out (fun _ hk => ⟨hk.1.1.1, ⟨hk.2, hk.1.2⟩⟩)), (by (with_reducible repeat (first | apply Kd.R_alloc | apply Kd.R_drewN | apply Kd.R_drew)); exact Kd.R_mono HO122.out (fun _ hk => ⟨hk.1.1.1, ⟨hk.2, hk.1.2⟩⟩)), (by (with_reducible repeat (first | apply Kd.S_alloc | apply Kd.S_drewN | apply Kd.S_drew)); exact Kd.S_mono HO_3.out (fun _ hk => ⟨hk.1.1, ⟨hk.2, hk.1.2⟩⟩)), (qk BK109.out), (qp HK.out), (qb HB.out)⟩)
 rintro ⟨v119, v121⟩ w35 ⟨hS_, h0_, h1_, h2_, h3_, h4_, h5_⟩
 have n0_ : Aside0 (Kd.R (Kd.int .i64) 3 w35 w0.heap.size (fun k_ => (P3_ k_ ∨ w.heap.size ≤ k_) ∧ some k_ ≠ (v121 : Value).ownBlock ∧ some k_ ≠ (.slice Ao30 x3_1.length co30 : Value).ownBlock) v119 t103) := ⟨h0_⟩
 have n1_ : Aside0 (Kd.R (Kd.int .i64) 3 w35 w0.heap.size (fun k_ => (P3_ k_ ∨ w.heap.size ≤ k_) ∧ some k_ ≠ (v119 : Value).ownBlock ∧ some k_ ≠ (.slice Ao30 x3_1.length co30 : Value).ownBlock) v121 y104) := ⟨h1_⟩
 have n2_ : Aside0 (Kd.S (Kd.slice 3 (Kd.int .i64)) 60 w35 w0.heap.size (fun k_ => (P3_ k_ ∨ w.heap.size ≤ k_) ∧ some k_ ≠ (v119 : Value).ownBlock ∧ some k_ ≠ (v121 : Value).ownBlock) (.slice Ao30 x3_1.length co30) x3_1) := ⟨h2_⟩
 have n3_ : Aside0 (w35.heap[gb109]? = some (.cells #[.int .i64 a0_0, .slice A0_1 l0_1.length c0_1] 25 (0, 0))) := ⟨h3_⟩
 have n4_ : Aside0 (Kept w w35 (fun k_ => P3_ k_)) := ⟨h4_⟩
 have n5_ : Aside0 (Below w0.heap.size w0 w35) := ⟨h5_⟩
 clear HO_3
 clear BK109
 clear HK
 clear HB
 clear h0_ h1_ h2_ h3_ h4_ h5_
 have HO120 := n0_
 have HO122 := n1_
 have HO_3 := n2_
 have BK109 := n3_
 have HK := n4_
 have HB := n5_
 clear n0_ n1_ n2_ n3_ n4_ n5_
 have hHeld : w35.cell? ⟨gb109, 0, none⟩ = some (.int .i64 a0_0) ∧ w35.cell? ⟨gb109, 1, none⟩ = some (.slice A0_1 l0_1.length c0_1) := hS_
 obtain ⟨Ao37, co37, eo37⟩ := Kd.R_slice HO122.out
 (first | subst eo37 | (injection eo37 with f1_ f2_ f3_; have f4_ := f1_.symm; have f5_ := f3_.symm; clear f1_ f2_ f3_; subst f4_; subst f5_))
 refine norm_ (a' := ?_) ?_ ?_
 rotate_left
 · simp only [putAll, Act.put, List.setIfInBounds_toArray, List.set_cons_zero, List.set_cons_succ]
   rfl
 refine one_ (i := 5) (N := some 45) (ba 10 255) rfl rfl (one_of HT_.out (by kernel_rfl)) (by decide) (fun K hK => ?_)
 refine Kd.R_append_rows_step (Kd.int .i64) (w0 := w0) w0.heap.size (by rfl) (.tmp 42) (.tmp 44) 60 3 (.int .i64 0) 8 rfl Try.underlying60 info3 rfl (by decide) (by omega) v119 t103 y104 _ _ _ (fun k_ => (P3_ k_ ∨ w.heap.size ≤ k_) ∧ some k_ ≠ (.slice Ao30 x3_1.length co30 : Value).ownBlock ∧ some k_ ≠ (.slice Ao37 y104.length co37 : Value).ownBlock) (fun _ => False) rfl rfl ?aO ?aR (fun _ _ h => h) (fun _ h => h.elim) ?aF ?aB ?aS ?aL ?_
 (case aR => repeat (first | exact (Kd.R_reads' HO122.out).2.2 | (with_reducible refine Kd.C_alloc ?_ _) | (with_reducible refine Kd.C_drewN ?_ _) | (with_reducible refine Kd.C_drew ?_)))
 (case aB => exact (qb HB.out))
 (case aF => exact (fun k_ hk => ⟨(.inr (Nat.le_trans (by first | exact HK.out.1 | exact (qp HK.out).1) hk)), Kd.fresh' (Kd.S_lt (qv HO_3.out)) k_ hk, Kd.fresh' (Kd.R_lt (qr HO122.out)) k_ hk⟩))
 (case aO => exact (by (with_reducible repeat (first | apply Kd.R_alloc | apply Kd.R_drewN | apply Kd.R_drew)); exact Kd.R_mono HO120.out (fun _ hk => ⟨hk.1, ⟨hk.2.2, hk.2.1⟩⟩)))
 (case aS => exact (below_size (qb HB.out)))
 (case aL => have := LMc28.out; omega)
 intro v123 w36 ho hb hg hat
 rw [← Ny117.out] at ho
 replace HO_3 := q0 (Kd.S_after (ok := (fun k_ => (P3_ k_ ∨ w.heap.size ≤ k_) ∧ some k_ ≠ (.slice Ao37 y104.length co37 : Value).ownBlock)) (by (with_reducible repeat (first | apply Kd.S_alloc | apply Kd.S_drewN | apply Kd.S_drew)); exact Kd.S_mono HO_3.out (fun _ hk => ⟨⟨hk.1, hk.2.2⟩, hk.2.1⟩)) hg hat)
 replace BK109 := q0 (blk_grown (g := gb109) (o := .cells #[.int .i64 a0_0, .slice A0_1 l0_1.length c0_1] 25 (0, 0)) (qk BK109.out) hg (Kd.R_ne HO120.out BK109.out (by decide)))
 replace HO122 := q0 (Kd.R_after (ok := (fun k_ => (P3_ k_ ∨ w.heap.size ≤ k_) ∧ some k_ ≠ (.slice Ao30 x3_1.length co30 : Value).ownBlock)) (by (with_reducible repeat (first | apply Kd.R_alloc | apply Kd.R_drewN | apply Kd.R_drew)); exact Kd.R_mono HO122.out (fun _ hk => ⟨⟨hk.1, hk.2.2⟩, hk.2.1⟩)) hg hat)
 replace HB := q0 (hb)
 replace HK := q0 (Kept.of_grown (S := (fun k_ => P3_ k_)) hg (qp HK.out) (fun k_ e_ => (HO120.out.1 k_ e_).1))
 have HO124 := q0 (ho)
 clear HO120
 clear ho hb hg hat
 obtain ⟨Ao38, co38, eo38⟩ := Kd.R_slice HO124.out
 (first | subst eo38 | (injection eo38 with f1_ f2_ f3_; have f4_ := f1_.symm; have f5_ := f3_.symm; clear f1_ f2_ f3_; subst f4_; subst f5_))
 refine hK.out _ _ ⟨(blk_cell BK109.out 0).trans rfl, (blk_cell BK109.out 1).trans rfl⟩ (fun hHeld => ?_)
 clear hK K
 refine nu 45 ?_
 refine one_ (i := 8) (N := some 48) (ba 10 511) rfl rfl (one_of HT_.out (by kernel_rfl)) (by decide) (fun K hK => ?_)
 refine goes_ Try.func105 (by kernel_rfl) rfl #[.agg #[.int .i64 a0_0, .slice A0_1 l0_1.length c0_1], .slice Ao38 y117.length co38, .int .i64 a2, .slice Ao30 x3_1.length co30] (by rfl) rfl rfl qm ?_
 with_reducible refine (ih kj17 (by have := HK1.out; have := HJ17.out; omega) a0_0 _ _ l0_1 _ _ y117 a2 (fun k_ => (((P3_ k_ ∨ w.heap.size ≤ k_) ∧ some k_ ≠ (.slice Ao37 y104.length co37 : Value).ownBlock) ∧ some k_ ≠ (.slice Ao38 y117.length co38 : Value).ownBlock) ∧ k_ ≠ gb109) (.slice Ao30 x3_1.length co30) x3_1 t105 w0 _ ?side1 ?side2 ?side3 ?side4 ?side5 ?side6 A29.out).mono ?_
 (case side1 => exact qb HB.out)
 (case side2 => exact Kd.C_kept_call HR0_1.out (qp HK.out) (fun k_ hs_ => hs_.1.1.1))
 (case side3 => exact HC0_1.out)
 (case side4 => exact Kd.C_kept_own (Kd.R_tight rfl HO124.out) (fun k_ hk_ hs_ => hs_.1.2 hk_))
 (case side5 => exact (Kd.R_reads' HO124.out).2.1)
 (case side6 => exact Kd.S_types (qv HO_3.out) BK109.out (by decide))
 rintro e w39 ⟨v125, rfl, ho0, hb, hkp⟩
 refine ⟨_, rfl, ?_⟩
 replace BK109 := q0 (blk_kept (qk BK109.out) hkp (fun hs_ => hs_.2 rfl))
 have HO126 := q0 (Kd.S_mono (ok' := fun k_ => (P3_ k_ ∨ w.heap.size ≤ k_)) ho0 (fun k_ hk_ => Or.elim hk_ (fun hs_ => hs_.1.1.1) (fun hn_ => .inr (Nat.le_trans (by first | exact HK.out.1 | exact (qp HK.out).1) hn_))))
 replace HK := q0 (Kept.then_ (S := (fun k_ => P3_ k_)) (qp HK.out) hkp (fun k_ hs_ => hs_.1.1.1))
 replace HB := q0 (hb)
 clear HO_3 HO122 HO124
 clear hb hkp ho0
 refine hK.out _ _ ⟨(blk_cell BK109.out 0).trans rfl, (blk_cell BK109.out 1).trans rfl⟩ (fun hHeld => ?_)
 clear hK K
 refine nu 48 ?_
 refine pu 9 (some 3) (ba 10 1023) HT_.out ?_
 refine done_ (done_of HT_.out (by kernel_rfl)) ?_
 try go_wp2
 go_roundg kj17
 case measure => have := HK1.out; have := HJ17.out; omega
 case rel => exact ⟨(t105), (wrap64 (x27_1 + 1)), qs, H', ⟨by have := HK1.out; have := HJ17.out; omega⟩, ⟨qv HO126.out⟩, ⟨qk BK109.out⟩, ⟨qp HK.out⟩, ⟨qb HB.out⟩⟩

set_option maxHeartbeats 8000000 in
set_option maxRecDepth 100000 in
theorem impl_Net_all.calls (k : Nat) (a0_0 : Int) (A0_1 : Option Addr) (c0_1 : Nat) (l0_1 : List (STie)) (a1 : Int) (a2 : Int) (r : List (List Int)) (w : World) (hr0_1 : Kd.C kTie w A0_1 l0_1.length l0_1) (hc0_1 : l0_1.length ≤ c0_1) (h : impl_Net_all.f k a0_0 l0_1 a1 a2 = some r) :
    Calls Try.prog 83 #[.agg #[.int .i64 a0_0, .slice A0_1 l0_1.length c0_1], .int .i64 a1, .int .i64 a2] w fun e w' => ∃ v0_ : Value, e = .returned (v0_) ∧ Kd.S (Kd.slice 3 (Kd.int .i64)) 60 w' w.heap.size (fun _ => True) v0_ r ∧ Below w.heap.size w w' := by
 have hu25 := Try.underlying25
 have HR0_1 := Aside0.mk hr0_1
 have HC0_1 := Aside0.mk hc0_1
 clear hr0_1 hc0_1
 have HB := q0 (Below.refl w.heap.size w)
 unfold impl_Net_all.f at h
 obtain ⟨t100, A1, h⟩ := Option.bind_eq_some_iff.mp h
 obtain ⟨t101, A2, h⟩ := Option.bind_eq_some_iff.mp h
 obtain rfl := Option.some.inj h
 clear h
 have A3 := Aside0.mk A1
 have A4 := Aside0.mk A2
 clear A1 A2
 go_enter Try.func83, Try.ntmps83
 go_wp2_with (first | ((with_reducible refine gate_dst (N := 3) rfl ?_); refine be 3 #[.int .i64 a0_0, .slice A0_1 l0_1.length c0_1] 25 ?_; intro gb101 hg w3 hbox hb; have BK101 := q0 (hbox); have GE101 := q0 ((bs HB.out hg : w.heap.size ≤ gb101)); replace HB := q0 (below_step (qb HB.out) hb); clear hb hbox hg; have hcz1_0 : w3.cell? ⟨gb101, 0, none⟩ = some (.int .i64 a0_0) := (blk_cell BK101.out 0).trans rfl; have hcz1_1 : w3.cell? ⟨gb101, 1, none⟩ = some (.slice A0_1 l0_1.length c0_1) := (blk_cell BK101.out 1).trans rfl; have hfz1_0 := blk_frozen BK101.out 0; have hfz1_1 := blk_frozen BK101.out 1) | ((with_reducible refine gate_dst (N := 10) rfl ?_); refine Kd.R_lit (Kd.int .i64) _ 3 ?hg (N := 10) ?hd (xs := ([a1] : List Int)) (inner := [.int .i64 a1]) (ok := fun _ => True) (okp := fun _ => True) ?hr ?hp (fun _ hk => hk) trivial (Below.refl _ _) (Nat.le_refl _) (by simp) ?_; (case hd => rfl); (case hg => rfl); (case hr => first | (go_simp; done) | (go_simp; rfl)); (case hp => exact (Reps.one (show Kd.M (Kd.int .i64) _ _ _ a1 [.int .i64 a1] from rfl) (Reps.none _ _))); intro v102 w4 ho4 hb hg_ hnew_; clear hg_ hnew_; have HO103 := q0 (Kd.R_lower ho4 (below_size (qb HB.out))); replace BK101 := q0 (kb BK101.out hb); replace HB := q0 (below_step (qb HB.out) hb); clear hb ho4; obtain ⟨Ao10, co10, eo10⟩ := Kd.R_slice HO103.out; subst eo10) | ((with_reducible refine gate_dst (N := 12) rfl ?_); refine Kd.S_lit (Kd.slice 3 (Kd.int .i64)) _ 60 ?hg (N := 12) ?hd (xs := ([] : List (List Int))) (inner := []) (ok := fun _ => True) (okp := fun _ => True) ?hr ?hp (fun _ hk => hk) trivial (Below.refl _ _) (Nat.le_refl _) (by simp) ?_; (case hd => rfl); (case hg => rfl); (case hr => first | (go_simp; done) | (go_simp; rfl)); (case hp => exact (Reps.none _ _)); intro v104 w5 ho5 hb hg_ hnew_; clear hg_ hnew_; have HO105 := q0 (Kd.S_lower ho5 (below_size (qb HB.out))); replace HO103 := q0 (Kd.R_elder' (qr HO103.out) (Kd.S_base ho5) hb); replace BK101 := q0 (kb BK101.out hb); replace HB := q0 (below_step (qb HB.out) hb); clear hb ho5) | ((with_reducible refine gate_callee (f := 105) rfl ?_); refine gl 13 Try.func105 #[.agg #[.int .i64 a0_0, .slice A0_1 l0_1.length c0_1], .slice Ao10 ([a1] : List Int).length co10, .int .i64 a2, v104] ?_; (with_reducible refine (impl_Net_ways.calls k a0_0 _ _ l0_1 _ _ ([a1] : List Int) a2 (fun k_ => some k_ = v104.ownBlock) v104 ([] : List (List Int)) t100 w _ ?side1 ?side2 ?side3 ?side4 ?side5 ?side6 A3.out).mono ?_); (case side1 => exact qb HB.out); (case side2 => exact Kd.C_kept_came (Kd.heap_iso _ (Kd.heap_pair (Kd.heap_int .i64) (Kd.heap_int .i64))) HR0_1.out (qb HB.out) (fun k_ h_ => Kd.S_base HO105.out k_ h_.symm)); (case side3 => exact HC0_1.out); (case side4 => exact Kd.C_kept_own (ok := fun k_ => True ∧ some k_ ≠ v104.ownBlock) (qr HO103.out) (fun k_ hk_ hs_ => hk_.2 hs_)); (case side5 => exact (Kd.R_reads' HO103.out).2.1); (case side6 => exact S_void (qv HO105.out)); rintro e w6 ⟨v106, rfl, ho0, hb, hkp⟩; refine ⟨_, rfl, ?_⟩; have HO107 := q0 (Kd.S_mono (ok' := fun _ => True) ho0 (fun _ _ => trivial)); clear BK101; replace HB := q0 (hb); clear HO105 HO103; clear hb hkp ho0) | ((with_reducible refine gate_callee (f := 106) rfl ?_); refine gl 15 Try.func106 #[v106, .func (.func 107) #[] #[]] ?_; (with_reducible refine (slices_SortFunc_Row.calls k v106 t100 t101 w _ ?side1 ?side2 A4.out).mono ?_); (case side1 => exact qb HB.out); (case side2 => exact qv HO107.out); rintro e w7 ⟨rfl, ho0, hb⟩; refine ⟨_, rfl, ?_⟩; replace HO107 := q0 ho0; replace HB := q0 hb; clear ho0 hb))
 go_ret
 exact ⟨_, rfl, qv HO107.out, qb HB.out⟩

theorem S_under {α : Type} {d : Kd α} {e : Nat} {w : World} {base : Nat} {ok : Nat → Prop} {v : Value} {xs : List α} (h : Kd.S d e w base ok v xs) : Kd.S d e w base (fun k => ok k ∧ k < w.heap.size) v xs := Kd.S_mono (Kd.S_bound h) (fun k hk => ⟨hk.1, hk.2.2.1⟩)
theorem S_above {α : Type} {d : Kd α} {e : Nat} {w : World} {base : Nat} {ok : Nat → Prop} {v : Value} {xs : List α} (h : Kd.S d e w base ok v xs) : Kd.S d e w base (fun k => ok k ∧ base ≤ k) v xs := Kd.S_mono (Kd.S_bound h) (fun k hk => ⟨hk.1, hk.2.1⟩)
/-- What was made before a call lies apart from what the call makes. -/
theorem S_split {α β : Type} {d : Kd α} {d' : Kd β} {e e' : Nat} {W w1 : World} {base : Nat} {ok ok' : Nat → Prop} {u v : Value} {xs : List α} {ys : List β} (h8 : Kd.S d e W base ok u xs) (h10 : Kd.S d' e' w1 W.heap.size ok' v ys) :
    ∃ M, Kd.S d e W base (fun k => ok k ∧ k < M) u xs ∧ Kd.S d' e' w1 W.heap.size (fun k => ok' k ∧ M ≤ k) v ys := ⟨W.heap.size, S_under h8, S_above h10⟩
/-- A row of a row of rows is written: the others stay. -/
theorem S_row {e e' : Nat} {w : World} {base : Nat} {ok : Nat → Prop} {ad : Addr} {n c : Nat} {xs : List (List Int)} (h : Kd.S (Kd.slice e' (Kd.int .i64)) e w base ok (.slice (some ad) n c) xs) (i : Int) (h0 : 0 ≤ i) (h1 : i < (xs.length : Int)) :
    ∃ u, w.cell? (ad.add i.toNat) = some u ∧ Kd.R (Kd.int .i64) e' w base (fun k => some k = u.ownBlock) u (rd_LI xs i) ∧ (∀ k, some k = u.ownBlock → ok k) ∧
      ∀ (w' : World) (y : List Int), Kept w w' (fun k => some k = u.ownBlock) → Kd.R (Kd.int .i64) e' w' base (fun k => some k = u.ownBlock ∨ w.heap.size ≤ k) u y → Kd.S (Kd.slice e' (Kd.int .i64)) e w' base ok (.slice (some ad) n c) (xs.set i.toNat y) := by
  obtain ⟨g, rfl⟩ := Kd.R_head (Kd.S_R h)
  obtain ⟨f, hf⟩ := h
  have hf2 := Kd.R_bound hf
  obtain ⟨hok, inner, ho, hr⟩ := hf2
  have hil : i.toNat < xs.length := by omega
  have hz : xs.zipIdx[i.toNat]? = some (xs[i.toNat], i.toNat) := Kd.zip_at (List.getElem?_eq_getElem hil)
  have hM := hr.2 i.toNat _ hz
  obtain ⟨u, hu, hR⟩ := hM
  have hu0 : inner[i.toNat]? = some u := by
    have e0 : ((inner.drop (i.toNat * 1)).take 1)[0]? = some u := by
      have : (inner.drop (i.toNat * 1)).take 1 = [u] := hu
      rw [this]; rfl
    rw [List.getElem?_take, if_pos (by omega), List.getElem?_drop, Nat.mul_one, Nat.add_zero] at e0
    exact e0
  have hrd : rd_LI xs i = xs[i.toNat] := by
    unfold rd_LI
    rw [List.getD_eq_getElem?_getD, List.getElem?_eq_getElem hil]; rfl
  refine ⟨u, ho.cells (g := g) (by simp [Value.ownBlock]) _ u hu0, by rw [hrd]; exact Kd.R_tight rfl hR, fun k hk => (hR.1 k hk.symm).1.1.1, fun w' y hK hy => ?_⟩
  have hlen : (xs.set i.toNat y).zipIdx.length = xs.zipIdx.length := by simp
  refine ⟨f, fun k hk => (hok k hk).1, inner, ?_, by rw [hlen]; exact hr.1, fun j p hj => ?_⟩
  · rw [hlen]
    exact own_move ho (fun k hk => hK.2 k (own_lt ho k hk) (fun hs => (hR.1 k hs.symm).1.2 hk.symm))
  · by_cases ej : j = i.toNat
    · subst ej
      have hp : p = (y, i.toNat) := by
        have := Kd.zip_at (xs := xs.set i.toNat y) (j := i.toNat) (p := y) (by simp [hil])
        rw [this] at hj
        exact (Option.some.inj hj).symm
      subst hp
      exact ⟨u, hu, Kd.R_mono (Kd.R_tight rfl hy) (fun k hk => ⟨⟨(hR.1 k hk.symm).1.1.1, (hR.1 k hk.symm).1.2⟩, (hR.1 k hk.symm).2⟩)⟩
    · have hj' : xs.zipIdx[j]? = some p := by
        rw [List.getElem?_zipIdx, List.getElem?_set_ne (Ne.symm ej)] at hj
        rw [List.getElem?_zipIdx]; exact hj
      have hp2 : p.2 = j := by
        rw [List.getElem?_zipIdx] at hj'
        obtain ⟨x, _, rfl⟩ := Option.map_eq_some_iff.1 hj'
        simp
      have h2 := hr.2 j p hj'
      refine Kd.M_mono (Kd.slice e' (Kd.int .i64)) ?_ (Kd.M_move (Kd.slice e' (Kd.int .i64)) (fun k hk => hK.2 k hk.1.1.2.2.1 (fun hs => ej (by have := (hR.1 k hs.symm).2; have := hk.2; simp only at *; omega))) h2)
      exact fun k hk => ⟨⟨hk.1.1.1, hk.1.2⟩, hk.2⟩
set_option maxHeartbeats 8000000 in
set_option maxRecDepth 100000 in
theorem impl_TreeRings.calls (k : Nat) (a0_0 : Int) (A0_1 : Option Addr) (c0_1 : Nat) (l0_1 : List (STie)) (r : List (List Int)) (w : World) (hr0_1 : Kd.C kTie w A0_1 l0_1.length l0_1) (hc0_1 : l0_1.length ≤ c0_1) (h : impl_TreeRings.f k a0_0 l0_1 = some r) :
    Calls Try.prog 43 #[.agg #[.int .i64 a0_0, .slice A0_1 l0_1.length c0_1]] w fun e w' => ∃ v0_ : Value, e = .returned (v0_) ∧ Kd.S (Kd.slice 3 (Kd.int .i64)) 60 w' w.heap.size (fun _ => True) v0_ r ∧ Below w.heap.size w w' := by
 have hu25 := Try.underlying25
 have hu32 := Try.underlying32
 have HR0_1 := Aside0.mk hr0_1
 have HC0_1 := Aside0.mk hc0_1
 clear hr0_1 hc0_1
 have HB := q0 (Below.refl w.heap.size w)
 have H : ((some (([] : List (List Int)) : List (List Int))).bind fun y103 => ((impl_NetOk.f k a0_0 l0_1).bind fun t104 => (if t104 = true then ((impl_Net_tree.f k a0_0 l0_1).bind fun bt105 => (impl_TreeRings.l0 k y103 l0_1 (l0_1.length : Int) 0 bt105.1 bt105.2)) else (some y103)))) = some r := h
 clear h
 obtain ⟨y103, hy103⟩ : ∃ y_ : List (List Int), y_ = (([] : List (List Int))) := ⟨_, rfl⟩
 replace H : ((impl_NetOk.f k a0_0 l0_1).bind fun t104 => (if t104 = true then ((impl_Net_tree.f k a0_0 l0_1).bind fun bt105 => (impl_TreeRings.l0 k y103 l0_1 (l0_1.length : Int) 0 bt105.1 bt105.2)) else (some y103))) = some r := qy H hy103
 have Ny103 := Aside0.mk hy103
 clear hy103
 replace H := Option.bind_eq_some_iff.mp H
 obtain ⟨t104, A20, H⟩ := H
 have A2 := Aside0.mk A20
 clear A20
 by_cases c3 : t104 = true
 rotate_left
 · replace c3 := Bool.eq_false_iff.mpr c3
   subst c3
   rw [if_neg nf] at H
   obtain rfl := Option.some.inj H
   go_enter Try.func43, Try.ntmps43
   go_wp2_with (first | ((with_reducible refine gate_dst (N := 1) rfl ?_); refine be 1 #[.int .i64 a0_0, .slice A0_1 l0_1.length c0_1] 25 ?_; intro gb107 hg w43 hbox hb; have BK107 := q0 (hbox); have GW107 := q0 ((bs HB.out hg : w.heap.size ≤ gb107)); have GE107 := q0 ((bs HB.out hg : w.heap.size ≤ gb107)); replace HB := q0 (below_step (qb HB.out) hb); clear hb hbox hg) | ((with_reducible refine gate_dst (N := 7) rfl ?_); refine Kd.S_lit (Kd.slice 3 (Kd.int .i64)) _ 60 ?hg (N := 7) ?hd (xs := ([] : List (List Int))) (inner := []) (ok := fun _ => True) (okp := fun _ => True) ?hr ?hp (fun _ hk => hk) trivial (Below.refl _ _) (Nat.le_refl _) (by simp) ?_; (case hd => rfl); (case hg => rfl); (case hr => first | (go_simp; done) | (go_simp; rfl)); (case hp => exact (Reps.none _ _)); intro v108 w44 ho45 hb hg_ hnew_; clear hg_ hnew_; (first | rw [← Ny103.out] at ho45 | (simp only [Int.reduceToNat] at ho45; rw [← Ny103.out] at ho45)); have HO109 := q0 (Kd.S_lower ho45 (below_size (qb HB.out))); replace BK107 := q0 (kb BK107.out hb); replace HB := q0 (below_step (qb HB.out) hb); clear hb ho45; have hcz46_0 : w44.cell? ⟨gb107, 0, none⟩ = some (.int .i64 a0_0) := (blk_cell BK107.out 0).trans rfl; have hcz46_1 : w44.cell? ⟨gb107, 1, none⟩ = some (.slice A0_1 l0_1.length c0_1) := (blk_cell BK107.out 1).trans rfl; have hfz46_0 := blk_frozen BK107.out 0; have hfz46_1 := blk_frozen BK107.out 1) | ((with_reducible refine gate_callee (f := 37) rfl ?_); refine gl 9 Try.func37 #[.agg #[.int .i64 a0_0, .slice A0_1 l0_1.length c0_1]] ?_; (with_reducible refine (impl_NetOk.calls k a0_0 _ _ l0_1 false _ ?side1 ?side2 A2.out).mono ?_); (case side1 => exact qc (Kd.C_below HR0_1.out HB.out)); (case side2 => exact HC0_1.out); rintro e w47 ⟨rfl, hb⟩; refine ⟨_, rfl, ?_⟩; replace HO109 := q0 (Kd.S_below (qv HO109.out) hb); replace BK107 := q0 (kb BK107.out hb); replace HB := q0 (below_step (qb HB.out) hb); (try clear hb); (try clear hb2); (try clear hk); (try clear hi)))
   go_ret
   exact ⟨_, qe, qv HO109.out, qb HB.out⟩
 subst c3
 rw [if_pos rfl] at H
 replace H := Option.bind_eq_some_iff.mp H
 obtain ⟨⟨t105, t106⟩, A40, H⟩ := H
 have A4 := Aside0.mk A40
 clear A40
 have H' := Aside0.mk H
 clear H
 go_enter Try.func43, Try.ntmps43
 go_wp2_with (first | ((with_reducible refine gate_dst (N := 1) rfl ?_); refine be 1 #[.int .i64 a0_0, .slice A0_1 l0_1.length c0_1] 25 ?_; intro gb107 hg w5 hbox hb; have BK107 := q0 (hbox); have GW107 := q0 ((bs HB.out hg : w.heap.size ≤ gb107)); have GE107 := q0 ((bs HB.out hg : w.heap.size ≤ gb107)); replace HB := q0 (below_step (qb HB.out) hb); clear hb hbox hg) | ((with_reducible refine gate_dst (N := 7) rfl ?_); refine Kd.S_lit (Kd.slice 3 (Kd.int .i64)) _ 60 ?hg (N := 7) ?hd (xs := ([] : List (List Int))) (inner := []) (ok := fun _ => True) (okp := fun _ => True) ?hr ?hp (fun _ hk => hk) trivial (Below.refl _ _) (Nat.le_refl _) (by simp) ?_; (case hd => rfl); (case hg => rfl); (case hr => first | (go_simp; done) | (go_simp; rfl)); (case hp => exact (Reps.none _ _)); intro v108 w6 ho7 hb hg_ hnew_; clear hg_ hnew_; (first | rw [← Ny103.out] at ho7 | (simp only [Int.reduceToNat] at ho7; rw [← Ny103.out] at ho7)); have HO109 := q0 (Kd.S_lower ho7 (below_size (qb HB.out))); replace BK107 := q0 (kb BK107.out hb); replace HB := q0 (below_step (qb HB.out) hb); clear hb ho7; have hcz8_0 : w6.cell? ⟨gb107, 0, none⟩ = some (.int .i64 a0_0) := (blk_cell BK107.out 0).trans rfl; have hcz8_1 : w6.cell? ⟨gb107, 1, none⟩ = some (.slice A0_1 l0_1.length c0_1) := (blk_cell BK107.out 1).trans rfl; have hfz8_0 := blk_frozen BK107.out 0; have hfz8_1 := blk_frozen BK107.out 1) | ((with_reducible refine gate_callee (f := 37) rfl ?_); refine gl 9 Try.func37 #[.agg #[.int .i64 a0_0, .slice A0_1 l0_1.length c0_1]] ?_; (with_reducible refine (impl_NetOk.calls k a0_0 _ _ l0_1 true _ ?side1 ?side2 A2.out).mono ?_); (case side1 => exact qc (Kd.C_below HR0_1.out HB.out)); (case side2 => exact HC0_1.out); rintro e w9 ⟨rfl, hb⟩; refine ⟨_, rfl, ?_⟩; replace HO109 := q0 (Kd.S_below (qv HO109.out) hb); replace BK107 := q0 (kb BK107.out hb); replace HB := q0 (below_step (qb HB.out) hb); (try clear hb); (try clear hb2); (try clear hk); (try clear hi); have hcz10_0 : w9.cell? ⟨gb107, 0, none⟩ = some (.int .i64 a0_0) := (blk_cell BK107.out 0).trans rfl; have hcz10_1 : w9.cell? ⟨gb107, 1, none⟩ = some (.slice A0_1 l0_1.length c0_1) := (blk_cell BK107.out 1).trans rfl; have hfz10_0 := blk_frozen BK107.out 0; have hfz10_1 := blk_frozen BK107.out 1) | ((with_reducible refine gate_callee (f := 62) rfl ?_); refine gl 13 Try.func62 #[.agg #[.int .i64 a0_0, .slice A0_1 l0_1.length c0_1]] ?_; (with_reducible refine (impl_Net_tree.calls k a0_0 _ _ l0_1 t105 t106 _ ?side1 ?side2 A4.out).mono ?_); (case side1 => exact qc (Kd.C_below HR0_1.out HB.out)); (case side2 => exact HC0_1.out); rintro e w11 ⟨v110, rfl, ho0, hb⟩; refine ⟨_, rfl, ?_⟩; replace HO109 := q0 (Kd.S_below (qv HO109.out) hb); have HO111 := q0 (Kd.R_lower ho0 (below_size (qb HB.out))); replace BK107 := q0 (kb BK107.out hb); replace HB := q0 (below_step (qb HB.out) hb); (try clear hb); (try clear hb2); (try clear hk); (try clear hi); (try clear ho0)) | ((with_reducible refine gate_dst (N := 4) rfl ?_); refine be 4 #[.int .i64 0, .slice none 0 0] 25 ?_; intro gb112 hg w12 hbox hb; replace HO109 := q0 (Kd.S_below (qv HO109.out) hb); replace HO111 := q0 (Kd.R_below (qr HO111.out) hb); have BK112 := q0 (hbox); have GW112 := q0 ((bs HB.out hg : w.heap.size ≤ gb112)); have GE112 := q0 ((bs HB.out hg : w.heap.size ≤ gb112)); replace HB := q0 (below_step (qb HB.out) hb); have NB107_112 := q0 ((bl BK107.out hg : gb107 ≠ gb112)); have NB112_107 := q0 ((bg BK107.out hg : gb112 ≠ gb107)); replace BK107 := q0 (kb BK107.out hb); clear hb hbox hg; have hnb13 := NB112_107.out; have hnc13 := NB107_112.out; have hcz14_0 : w12.cell? ⟨gb112, 0, none⟩ = some (.int .i64 0) := (blk_cell BK112.out 0).trans rfl; have hcz14_1 : w12.cell? ⟨gb112, 1, none⟩ = some (.slice none 0 0) := (blk_cell BK112.out 1).trans rfl; have hfz14_0 := blk_frozen BK112.out 0; have hfz14_1 := blk_frozen BK112.out 1; obtain ⟨Ao15, co15, eo15⟩ := Kd.R_slice HO111.out; subst eo15; have hcz16_0 : w12.cell? ⟨gb107, 0, none⟩ = some (.int .i64 a0_0) := (blk_cell BK107.out 0).trans rfl; have hcz16_1 : w12.cell? ⟨gb107, 1, none⟩ = some (.slice A0_1 l0_1.length c0_1) := (blk_cell BK107.out 1).trans rfl; have hfz16_0 := blk_frozen BK107.out 0; have hfz16_1 := blk_frozen BK107.out 1))
 go_loopg [3, 17] k (fun kq v3 v17 w' => ∃ (x3_1 : List (List Int)) (x17_1 : Int), v17 = .int .i64 x17_1 ∧ Aside0 (impl_TreeRings.l0 kq x3_1 l0_1 (l0_1.length : Int) x17_1 t105 t106 = some r) ∧ Aside0 (kq ≤ k) ∧ Aside0 (Kd.S (Kd.slice 3 (Kd.int .i64)) 60 w' w.heap.size (fun _ => True) v3 x3_1) ∧ Aside0 (Kd.R kTie 32 w' w.heap.size (fun _ => True) (.slice Ao15 t106.length co15) t106) ∧ Aside0 (w'.heap[gb107]? = some (.cells #[.int .i64 a0_0, (.slice A0_1 l0_1.length c0_1)] 25 (0, 0))) ∧ Aside0 (w'.heap[gb112]? = some (.cells #[.int .i64 t105, (.slice Ao15 t106.length co15)] 25 (0, 0))) ∧ Aside0 (Below w.heap.size w w'))
 case atStart => exact ⟨(y103), (0), qs, H', ⟨Nat.le_refl _⟩, ⟨by (with_reducible repeat (first | apply Kd.S_alloc | apply Kd.S_drewN | apply Kd.S_drew)); exact Kd.S_mono (Kd.S_far (p := ⟨gb112, 1, none⟩) (Kd.S_far (p := ⟨gb112, 0, none⟩) (Kd.S_types HO109.out BK112.out (by decide)) (fun _ hk => hk.2) (.int .i64 t105)) (fun _ hk => hk.2) (.slice Ao15 t106.length co15)) (fun _ hk => trivial)⟩, ⟨by (with_reducible repeat (first | apply Kd.R_alloc | apply Kd.R_drewN | apply Kd.R_drew)); exact rf2 HO111.out BK112.out (fun _ hk => trivial)⟩, ⟨qf BK107.out⟩, ⟨by (with_reducible repeat (first | refine blk_drewN ?_ _ | refine blk_drew ?_ | refine blk_alloc ?_ _)); refine blk_put (cs := #[.int .i64 t105, .slice none 0 0]) ?_ 1 _ rfl; (with_reducible repeat (first | refine blk_drewN ?_ _ | refine blk_drew ?_ | refine blk_alloc ?_ _)); refine blk_put (cs := #[.int .i64 0, .slice none 0 0]) ?_ 0 _ rfl; (with_reducible repeat (first | refine blk_drewN ?_ _ | refine blk_drew ?_ | refine blk_alloc ?_ _)); exact BK112.out⟩, ⟨qb HB.out⟩⟩
 clear H'
 try clear c1
 try clear p2
 try clear c3
 try clear c4
 try clear c6
 try clear c13
 try clear hcz10_0
 try clear hcz10_1
 try clear hcz14_0
 try clear hcz14_1
 try clear hcz16_0
 try clear hcz16_1
 try clear hcz8_0
 try clear hcz8_1
 try clear hfz10_0
 try clear hfz10_1
 try clear hfz14_0
 try clear hfz14_1
 try clear hfz16_0
 try clear hfz16_1
 try clear hfz8_0
 try clear hfz8_1
 obtain ⟨x3_1, x17_1, rfl, HA, HK1, HO_3, HO_100001, BK107, BK112, HB⟩ := hrel
 rcases gk with _ | k1
 · exact absurd HA.out (by simp [impl_TreeRings.l0])
 have H := HA.out
 clear HA
 simp only [impl_TreeRings.l0] at H
 by_cases c17 : x17_1 < (l0_1.length : Int)
 rotate_left
 · rw [if_neg c17] at H
   have c17b0 : decide (x17_1 < (l0_1.length : Int)) = false := decide_eq_false c17
   clear c17
   obtain rfl := Option.some.inj H
   go_wp2
   go_ret
   exact ⟨_, qe, qv HO_3.out, qb HB.out⟩
 rw [if_pos c17] at H
 have c17b0 : decide (x17_1 < (l0_1.length : Int)) = true := decide_eq_true c17
 clear c17
 by_cases c18 : 0 ≤ x17_1
 rotate_left
 · rw [if_neg c18] at H
   exact absurd H (by simp)
 rw [if_pos c18] at H
 have c18b0 : decide (0 ≤ x17_1) = true := decide_eq_true c18
 clear c18
 by_cases c19 : x17_1 < (l0_1.length : Int)
 rotate_left
 · rw [if_neg c19] at H
   exact absurd H (by simp)
 rw [if_pos c19] at H
 have c19b0 : decide (x17_1 < (l0_1.length : Int)) = true := decide_eq_true c19
 clear c19
 replace H := Option.bind_eq_some_iff.mp H
 obtain ⟨t101, A113, H⟩ := H
 have A20 := Aside0.mk A113
 clear A113
 by_cases c21 : t101 = true
 · subst c21
   rw [if_pos rfl] at H
   have H' := Aside0.mk H
   clear H
   have p100 : 0 ≤ (x17_1 : Int) := of_decide_eq_true qa
   have q100 : x17_1 < (l0_1.length : Int) := of_decide_eq_true qa
   obtain ⟨ad100, e100, hx100_0, hx100_1⟩ := at_TTie HR0_1.out x17_1 p100 q100
   cases e100
   replace hx100_0 := (HB.out.cell (World.block_lt_of_cell? w _ hx100_0)).trans hx100_0
   replace hx100_1 := (HB.out.cell (World.block_lt_of_cell? w _ hx100_1)).trans hx100_1
   replace p100 := eq_true p100
   replace q100 := eq_true q100
   go_wp2_with (first | ((with_reducible refine gate_dst (N := 6) rfl ?_); refine be 6 #[.int .i64 0, .int .i64 0] 32 ?_; intro gb114 hg w22 hbox hb; replace HO_3 := q0 (Kd.S_below (qv HO_3.out) hb); replace HO_100001 := q0 (Kd.R_below (Kd.R_elderB (qr HO_100001.out) gb114 (Nat.le_of_eq hg.symm)) hb); have BK114 := q0 (hbox); have GW114 := q0 ((bs HB.out hg : w.heap.size ≤ gb114)); have GE114 := q0 ((bs HB.out hg : w.heap.size ≤ gb114)); replace HB := q0 (below_step (qb HB.out) hb); have NB107_114 := q0 ((bl BK107.out hg : gb107 ≠ gb114)); have NB114_107 := q0 ((bg BK107.out hg : gb114 ≠ gb107)); replace BK107 := q0 (kb BK107.out hb); have NB112_114 := q0 ((bl BK112.out hg : gb112 ≠ gb114)); have NB114_112 := q0 ((bg BK112.out hg : gb114 ≠ gb112)); replace BK112 := q0 (kb BK112.out hb); clear hb hbox hg; have hnb23 := NB114_107.out; have hnc23 := NB107_114.out; have hnb24 := NB114_112.out; have hnc24 := NB112_114.out; have hcz25_0 : w22.cell? ⟨gb114, 0, none⟩ = some (.int .i64 0) := (blk_cell BK114.out 0).trans rfl; have hcz25_1 : w22.cell? ⟨gb114, 1, none⟩ = some (.int .i64 0) := (blk_cell BK114.out 1).trans rfl; have hfz25_0 := blk_frozen BK114.out 0; have hfz25_1 := blk_frozen BK114.out 1; have hnb26 := NB112_107.out; have hnc26 := NB107_112.out; have hcz27_0 : w22.cell? ⟨gb112, 0, none⟩ = some (.int .i64 t105) := (blk_cell BK112.out 0).trans rfl; have hcz27_1 : w22.cell? ⟨gb112, 1, none⟩ = some (.slice Ao15 t106.length co15) := (blk_cell BK112.out 1).trans rfl; have hfz27_0 := blk_frozen BK112.out 0; have hfz27_1 := blk_frozen BK112.out 1) | ((with_reducible refine gate_callee (f := 82) rfl ?_); refine gl 24 Try.func82 #[.slice Ao15 t106.length co15, .agg #[.int .i64 ((rd_TTie l0_1 x17_1).f0), .int .i64 ((rd_TTie l0_1 x17_1).f1)]] ?_; (with_reducible refine (slices_Contains_Tie.calls k1 _ _ t106 ((rd_TTie l0_1 x17_1).f0) ((rd_TTie l0_1 x17_1).f1) true _ ?side1 ?side2 A20.out).mono ?_); (case side1 => refine (Kd.R_reads' (e := 32) (base := w.heap.size) (ok := fun k_ => (True ∧ k_ ≠ gb114)) (n := t106.length) (c := co15) ?_).2.2; exact (by (with_reducible repeat (first | apply Kd.R_alloc | apply Kd.R_drewN | apply Kd.R_drew)); exact (Kd.R_mono (Kd.R_far (p := ⟨gb114, 1, none⟩) (Kd.R_far (p := ⟨gb114, 0, none⟩) (Kd.R_mono HO_100001.out (fun k_ hk => (⟨hk, hk.2⟩ : _ ∧ k_ ≠ gb114))) (fun _ hk => hk.2) (.int .i64 ((rd_TTie l0_1 x17_1).f0))) (fun _ hk => hk.2) (.int .i64 ((rd_TTie l0_1 x17_1).f1))) (fun _ h_ => h_.1)))); (case side2 => exact (Kd.R_reads' HO_100001.out).2.1); rintro e w28 ⟨rfl, hb⟩; refine ⟨_, rfl, ?_⟩; replace HO_3 := q0 (Kd.S_below (by (with_reducible repeat (first | apply Kd.S_alloc | apply Kd.S_drewN | apply Kd.S_drew)); exact (Kd.S_mono (Kd.S_far (p := ⟨gb114, 1, none⟩) (Kd.S_far (p := ⟨gb114, 0, none⟩) (Kd.S_types HO_3.out BK114.out (by decide)) (fun _ hk => hk.2) (.int .i64 ((rd_TTie l0_1 x17_1).f0))) (fun _ hk => hk.2) (.int .i64 ((rd_TTie l0_1 x17_1).f1))) (fun _ h_ => h_.1))) hb); replace HO_100001 := q0 (Kd.R_below (by (with_reducible repeat (first | apply Kd.R_alloc | apply Kd.R_drewN | apply Kd.R_drew)); exact (Kd.R_mono (Kd.R_far (p := ⟨gb114, 1, none⟩) (Kd.R_far (p := ⟨gb114, 0, none⟩) (Kd.R_mono HO_100001.out (fun k_ hk => (⟨hk, hk.2⟩ : _ ∧ k_ ≠ gb114))) (fun _ hk => hk.2) (.int .i64 ((rd_TTie l0_1 x17_1).f0))) (fun _ hk => hk.2) (.int .i64 ((rd_TTie l0_1 x17_1).f1))) (fun _ h_ => h_.1))) hb); replace BK107 := q0 (kf BK107.out hb); replace BK112 := q0 (kf BK112.out hb); replace BK114 := q0 (blk_below (g := gb114) (o := .cells #[.int .i64 ((rd_TTie l0_1 x17_1).f0), .int .i64 ((rd_TTie l0_1 x17_1).f1)] 32 (0, 0)) (by (with_reducible repeat (first | refine blk_drewN ?_ _ | refine blk_drew ?_ | refine blk_alloc ?_ _)); refine blk_put (cs := #[.int .i64 ((rd_TTie l0_1 x17_1).f0), .int .i64 0]) ?_ 1 _ rfl; (with_reducible repeat (first | refine blk_drewN ?_ _ | refine blk_drew ?_ | refine blk_alloc ?_ _)); refine blk_put (cs := #[.int .i64 0, .int .i64 0]) ?_ 0 _ rfl; (with_reducible repeat (first | refine blk_drewN ?_ _ | refine blk_drew ?_ | refine blk_alloc ?_ _)); exact BK114.out) hb); replace HB := q0 (below_step (qb HB.out) hb); (try clear hb); (try clear hb2); (try clear hk); (try clear hi)))
   go_roundg k1
   case measure => have := HK1.out; omega
   case rel => exact ⟨(x3_1), (wrap64 (x17_1 + 1)), qs, H', ⟨by have := HK1.out; omega⟩, ⟨qv HO_3.out⟩, ⟨by (with_reducible repeat (first | apply Kd.R_alloc | apply Kd.R_drewN | apply Kd.R_drew)); exact Kd.R_mono HO_100001.out (fun _ hk => trivial)⟩, ⟨qk BK107.out⟩, ⟨qk BK112.out⟩, ⟨qb HB.out⟩⟩
 replace c21 := Bool.eq_false_iff.mpr c21
 subst c21
 rw [if_neg nf] at H
 replace H := Option.bind_eq_some_iff.mp H
 obtain ⟨t302, A115, H⟩ := H
 have A29 := Aside0.mk A115
 clear A115
 by_cases c40 : 0 < (t302.length : Int)
 rotate_left
 · rw [if_neg c40] at H
   exact absurd H (by simp)
 rw [if_pos c40] at H
 have c40b0 : decide (0 < (t302.length : Int)) = true := decide_eq_true c40
 have c40b1 : decide (0 < t302.length) = true := decide_eq_true (by omega)
 clear c40
 obtain ⟨t102, ht102⟩ : ∃ x_ : List Int, x_ = rd_LI t302 0 := ⟨_, rfl⟩
 rw [← ht102] at H
 have Nt102 := Aside0.mk ht102
 clear ht102
 by_cases c30 : x3_1.length < 5864062014805
 rotate_left
 · rw [if_neg c30] at H
   exact absurd H (by simp)
 rw [if_pos c30] at H
 have LMc30 := Aside0.mk c30
 clear c30
 obtain ⟨y116, hy116⟩ : ∃ y_ : List (List Int), y_ = (x3_1 ++ [t102]) := ⟨_, rfl⟩
 replace H : (impl_TreeRings.l0 k1 y116 l0_1 (l0_1.length : Int) (wrap64 (x17_1 + 1)) t105 t106) = some r := qy H hy116
 have Ny116 := Aside0.mk hy116
 clear hy116
 have H' := Aside0.mk H
 clear H
 have p100 : 0 ≤ (x17_1 : Int) := of_decide_eq_true qa
 have q100 : x17_1 < (l0_1.length : Int) := of_decide_eq_true qa
 obtain ⟨ad100, e100, hx100_0, hx100_1⟩ := at_TTie HR0_1.out x17_1 p100 q100
 cases e100
 replace hx100_0 := (HB.out.cell (World.block_lt_of_cell? w _ hx100_0)).trans hx100_0
 replace hx100_1 := (HB.out.cell (World.block_lt_of_cell? w _ hx100_1)).trans hx100_1
 replace p100 := eq_true p100
 replace q100 := eq_true q100
 go_wp2_with (first | ((with_reducible refine gate_dst (N := 6) rfl ?_); refine be 6 #[.int .i64 0, .int .i64 0] 32 ?_; intro gb114 hg w31 hbox hb; replace HO_3 := q0 (Kd.S_below (qv HO_3.out) hb); replace HO_100001 := q0 (Kd.R_below (Kd.R_elderB (qr HO_100001.out) gb114 (Nat.le_of_eq hg.symm)) hb); have BK114 := q0 (hbox); have GW114 := q0 ((bs HB.out hg : w.heap.size ≤ gb114)); have GE114 := q0 ((bs HB.out hg : w.heap.size ≤ gb114)); replace HB := q0 (below_step (qb HB.out) hb); have NB107_114 := q0 ((bl BK107.out hg : gb107 ≠ gb114)); have NB114_107 := q0 ((bg BK107.out hg : gb114 ≠ gb107)); replace BK107 := q0 (kb BK107.out hb); have NB112_114 := q0 ((bl BK112.out hg : gb112 ≠ gb114)); have NB114_112 := q0 ((bg BK112.out hg : gb114 ≠ gb112)); replace BK112 := q0 (kb BK112.out hb); clear hb hbox hg; have hnb32 := NB114_107.out; have hnc32 := NB107_114.out; have hnb33 := NB114_112.out; have hnc33 := NB112_114.out; have hcz34_0 : w31.cell? ⟨gb114, 0, none⟩ = some (.int .i64 0) := (blk_cell BK114.out 0).trans rfl; have hcz34_1 : w31.cell? ⟨gb114, 1, none⟩ = some (.int .i64 0) := (blk_cell BK114.out 1).trans rfl; have hfz34_0 := blk_frozen BK114.out 0; have hfz34_1 := blk_frozen BK114.out 1; have hnb35 := NB112_107.out; have hnc35 := NB107_112.out; have hcz36_0 : w31.cell? ⟨gb112, 0, none⟩ = some (.int .i64 t105) := (blk_cell BK112.out 0).trans rfl; have hcz36_1 : w31.cell? ⟨gb112, 1, none⟩ = some (.slice Ao15 t106.length co15) := (blk_cell BK112.out 1).trans rfl; have hfz36_0 := blk_frozen BK112.out 0; have hfz36_1 := blk_frozen BK112.out 1) | ((with_reducible refine gate_callee (f := 82) rfl ?_); refine gl 24 Try.func82 #[.slice Ao15 t106.length co15, .agg #[.int .i64 ((rd_TTie l0_1 x17_1).f0), .int .i64 ((rd_TTie l0_1 x17_1).f1)]] ?_; (with_reducible refine (slices_Contains_Tie.calls k1 _ _ t106 ((rd_TTie l0_1 x17_1).f0) ((rd_TTie l0_1 x17_1).f1) false _ ?side1 ?side2 A20.out).mono ?_); (case side1 => refine (Kd.R_reads' (e := 32) (base := w.heap.size) (ok := fun k_ => (True ∧ k_ ≠ gb114)) (n := t106.length) (c := co15) ?_).2.2; exact (by (with_reducible repeat (first | apply Kd.R_alloc | apply Kd.R_drewN | apply Kd.R_drew)); exact (Kd.R_mono (Kd.R_far (p := ⟨gb114, 1, none⟩) (Kd.R_far (p := ⟨gb114, 0, none⟩) (Kd.R_mono HO_100001.out (fun k_ hk => (⟨hk, hk.2⟩ : _ ∧ k_ ≠ gb114))) (fun _ hk => hk.2) (.int .i64 ((rd_TTie l0_1 x17_1).f0))) (fun _ hk => hk.2) (.int .i64 ((rd_TTie l0_1 x17_1).f1))) (fun _ h_ => h_.1)))); (case side2 => exact (Kd.R_reads' HO_100001.out).2.1); rintro e w37 ⟨rfl, hb⟩; refine ⟨_, rfl, ?_⟩; replace HO_3 := q0 (Kd.S_below (by (with_reducible repeat (first | apply Kd.S_alloc | apply Kd.S_drewN | apply Kd.S_drew)); exact (Kd.S_mono (Kd.S_far (p := ⟨gb114, 1, none⟩) (Kd.S_far (p := ⟨gb114, 0, none⟩) (Kd.S_types HO_3.out BK114.out (by decide)) (fun _ hk => hk.2) (.int .i64 ((rd_TTie l0_1 x17_1).f0))) (fun _ hk => hk.2) (.int .i64 ((rd_TTie l0_1 x17_1).f1))) (fun _ h_ => h_.1))) hb); replace HO_100001 := q0 (Kd.R_below (by (with_reducible repeat (first | apply Kd.R_alloc | apply Kd.R_drewN | apply Kd.R_drew)); exact (Kd.R_mono (Kd.R_far (p := ⟨gb114, 1, none⟩) (Kd.R_far (p := ⟨gb114, 0, none⟩) (Kd.R_mono HO_100001.out (fun k_ hk => (⟨hk, hk.2⟩ : _ ∧ k_ ≠ gb114))) (fun _ hk => hk.2) (.int .i64 ((rd_TTie l0_1 x17_1).f0))) (fun _ hk => hk.2) (.int .i64 ((rd_TTie l0_1 x17_1).f1))) (fun _ h_ => h_.1))) hb); replace BK107 := q0 (kf BK107.out hb); replace BK112 := q0 (kf BK112.out hb); replace BK114 := q0 (blk_below (g := gb114) (o := .cells #[.int .i64 ((rd_TTie l0_1 x17_1).f0), .int .i64 ((rd_TTie l0_1 x17_1).f1)] 32 (0, 0)) (by (with_reducible repeat (first | refine blk_drewN ?_ _ | refine blk_drew ?_ | refine blk_alloc ?_ _)); refine blk_put (cs := #[.int .i64 ((rd_TTie l0_1 x17_1).f0), .int .i64 0]) ?_ 1 _ rfl; (with_reducible repeat (first | refine blk_drewN ?_ _ | refine blk_drew ?_ | refine blk_alloc ?_ _)); refine blk_put (cs := #[.int .i64 0, .int .i64 0]) ?_ 0 _ rfl; (with_reducible repeat (first | refine blk_drewN ?_ _ | refine blk_drew ?_ | refine blk_alloc ?_ _)); exact BK114.out) hb); replace HB := q0 (below_step (qb HB.out) hb); (try clear hb); (try clear hb2); (try clear hk); (try clear hi); have hcz38_0 : w37.cell? ⟨gb112, 0, none⟩ = some (.int .i64 t105) := (blk_cell BK112.out 0).trans rfl; have hcz38_1 : w37.cell? ⟨gb112, 1, none⟩ = some (.slice Ao15 t106.length co15) := (blk_cell BK112.out 1).trans rfl; have hfz38_0 := blk_frozen BK112.out 0; have hfz38_1 := blk_frozen BK112.out 1; have hcz39_0 : w37.cell? ⟨gb114, 0, none⟩ = some (.int .i64 ((rd_TTie l0_1 x17_1).f0)) := (blk_cell BK114.out 0).trans rfl; have hcz39_1 : w37.cell? ⟨gb114, 1, none⟩ = some (.int .i64 ((rd_TTie l0_1 x17_1).f1)) := (blk_cell BK114.out 1).trans rfl; have hfz39_0 := blk_frozen BK114.out 0; have hfz39_1 := blk_frozen BK114.out 1) | ((with_reducible refine gate_callee (f := 83) rfl ?_); refine gl 32 Try.func83 #[.agg #[.int .i64 t105, .slice Ao15 t106.length co15], .int .i64 ((rd_TTie l0_1 x17_1).f1), .int .i64 ((rd_TTie l0_1 x17_1).f0)] ?_; (with_reducible refine (impl_Net_all.calls k1 t105 _ _ t106 ((rd_TTie l0_1 x17_1).f1) ((rd_TTie l0_1 x17_1).f0) t302 _ ?side1 ?side2 A29.out).mono ?_); (case side1 => exact qc (Kd.R_reads' HO_100001.out).2.2); (case side2 => exact (Kd.R_reads' HO_100001.out).2.1); rintro e w40 ⟨v317, rfl, ho9, hb⟩; refine ⟨_, rfl, ?_⟩; obtain ⟨Ao49, co49, eo49⟩ := Kd.S_slice ho9; subst eo49; have p119 : 0 ≤ (0 : Int) := (by omega); have q119 : 0 < (t302.length : Int) := of_decide_eq_true qa; obtain ⟨ad119, Ao42, co42, e119, hx119_0, hl119_0, hi119_0⟩ := at_LI (Kd.S_reads' ho9).2.2 0 p119 q119; cases e119; obtain ⟨u_, hu_, hR_, hP_, hS_⟩ := S_row ho9 0 p119 q119; clear hP_ hS_; obtain rfl := Option.some.inj (hu_.symm.trans hx119_0); clear hu_ hl119_0 hi119_0 ho9; rw [← Nt102.out] at hR_ hx119_0; have ho0 := Kd.R_mono (ok' := fun _ => True) hR_ (fun _ _ => trivial); clear hR_; have qi119 : (0 < t302.length) = True := eq_true (by omega); (try rw [show ((0 : Int)).toNat = 0 from rfl] at hx119_0); (try rw [Addr.add_zero'] at hx119_0); replace p119 := eq_true p119; replace q119 := eq_true q119; replace HO_3 := q0 (Kd.S_elder' (qv HO_3.out) (Kd.R_base ho0) hb); replace HO_100001 := q0 (Kd.R_below (qr HO_100001.out) hb); have HO118 := q0 (Kd.R_lower ho0 (below_size (qb HB.out))); replace BK107 := q0 (kb BK107.out hb); replace BK112 := q0 (kb BK112.out hb); replace BK114 := q0 (kb BK114.out hb); replace HB := q0 (below_step (qb HB.out) hb); (try clear hb); (try clear hb2); (try clear hk); (try clear hi); (try clear ho0)) | ((with_reducible refine gate_builtin (b := .append) (xs := #[.tmp 26, .tmp 35]) rfl ?_); at_builtin; refine Kd.S_append (Kd.slice 3 (Kd.int .i64)) (w0 := w) w.heap.size rfl (.tmp 26) (.tmp 35) 55 60 (.slice none 0 0) 24 rfl Try.underlying55 info60 rfl (by decide) (by omega) u3 x3_1 t102 [.slice Ao42 t102.length co42] (fun _ => True) (fun k_ => some k_ = (.slice Ao42 t102.length co42 : Value).ownBlock) rfl rfl ?aP (fun k_ hk_ => ((Kd.R_mono (ok' := fun k_ => ((fun _ => True)) k_ ∧ some k_ ≠ (u3 : Value).ownBlock) (Kd.R_apart' (HO118.out) (Kd.S_typed HO_3.out) (by decide)) (fun k_ hk => ⟨trivial, hk.2⟩))).1 k_ hk_.symm) ?aF ?aO ?aB ?aS ?aL ?_; (case aP => exact Kd.M_row (Kd.R_mono (Kd.R_tight rfl (Kd.R_mono (ok' := fun k_ => ((fun _ => True)) k_ ∧ some k_ ≠ (u3 : Value).ownBlock) (Kd.R_apart' (HO118.out) (Kd.S_typed HO_3.out) (by decide)) (fun k_ hk => ⟨trivial, hk.2⟩))) (fun _ h_ => h_))); (case aB => exact (qb HB.out)); (case aF => exact (fun _ _ => trivial)); (case aO => exact (by (with_reducible repeat (first | apply Kd.S_alloc | apply Kd.S_drewN | apply Kd.S_drew)); exact Kd.S_mono HO_3.out (fun k_ hk => ⟨trivial, fun e_ => hk.2 e_⟩))); (case aS => exact (below_size (qb HB.out))); (case aL => have := LMc30.out; omega); intro v119 w41 ho hb hg hat; rw [← Ny116.out] at ho; replace HO_100001 := q0 (Kd.R_over' (qr HO_100001.out) (Kd.S_typed (qv HO_3.out)) (by decide) hg); replace BK107 := q0 (blk_grown (g := gb107) (o := .cells #[.int .i64 a0_0, .slice (some ad100) l0_1.length c0_1] 25 (0, 0)) (qk BK107.out) hg (Kd.S_ne HO_3.out BK107.out (by decide))); replace BK112 := q0 (blk_grown (g := gb112) (o := .cells #[.int .i64 t105, .slice Ao15 t106.length co15] 25 (0, 0)) (qk BK112.out) hg (Kd.S_ne HO_3.out BK112.out (by decide))); replace BK114 := q0 (blk_grown (g := gb114) (o := .cells #[.int .i64 ((rd_TTie l0_1 x17_1).f0), .int .i64 ((rd_TTie l0_1 x17_1).f1)] 32 (0, 0)) (qk BK114.out) hg (Kd.S_ne HO_3.out BK114.out (by decide))); replace HB := q0 (hb); have HO120 := q0 (ho); clear HO_3 HO118; clear ho hb hg hat))
 go_roundg k1
 case measure => have := HK1.out; omega
 case rel => exact ⟨(y116), (wrap64 (x17_1 + 1)), qs, H', ⟨by have := HK1.out; omega⟩, ⟨qv HO120.out⟩, ⟨by (with_reducible repeat (first | apply Kd.R_alloc | apply Kd.R_drewN | apply Kd.R_drew)); exact Kd.R_mono HO_100001.out (fun _ hk => trivial)⟩, ⟨qk BK107.out⟩, ⟨qk BK112.out⟩, ⟨qb HB.out⟩⟩

set_option maxHeartbeats 8000000 in
set_option maxRecDepth 100000 in
theorem laws_eqIntS.calls (k : Nat) (A0 : Option Addr) (c0 : Nat) (l0 : List Int) (A1 : Option Addr) (c1 : Nat) (l1 : List Int) (r : Bool) (w : World) (hr0 : Kd.C (Kd.int .i64) w A0 l0.length l0) (hc0 : l0.length ≤ c0) (hr1 : Kd.C (Kd.int .i64) w A1 l1.length l1) (hc1 : l1.length ≤ c1) (h : laws_eqIntS.f k l0 l1 = some r) :
    Calls Try.prog 84 #[.slice A0 l0.length c0, .slice A1 l1.length c1] w fun e w' => e = .returned (.bool r) ∧ Drawn0 w w' := by
 have HR0 := Aside0.mk hr0
 have HC0 := Aside0.mk hc0
 clear hr0 hc0
 have HR1 := Aside0.mk hr1
 have HC1 := Aside0.mk hc1
 clear hr1 hc1
 have H : (if (l0.length : Int) = (l1.length : Int) then (laws_eqIntS.l0 k l0 l1 0) else (some false)) = some r := h
 clear h
 by_cases c3 : (l0.length : Int) = (l1.length : Int)
 rotate_left
 · rw [if_neg c3] at H
   have c3b0 : ((l0.length : Int) == (l1.length : Int)) = false := beq_eq_false_iff_ne.mpr c3
   have c3b1 : ((l0.length : Int) != (l1.length : Int)) = true := bne_iff_ne.mpr c3
   have c3b2 : (l0.length == l1.length) = false := by first | simpa using c3 | (simp at c3 ⊢; omega)
   obtain rfl := Option.some.inj H
   go_enter Try.func84, Try.ntmps84
   go_wp2
   repeat (go_quiet (fail); try go_wp2)
   go_ret
   exact ⟨by first | rfl | (simp; done) | (simp [*]; done), by repeat (first | exact Drawn0.refl _ | apply Drawn0.step)⟩
 rw [if_pos c3] at H
 have c3b0 : ((l0.length : Int) == (l1.length : Int)) = true := beq_iff_eq.mpr c3
 have c3b1 : ((l0.length : Int) != (l1.length : Int)) = false := bne_eq_false_iff_eq.mpr c3
 have c3b2 : (l0.length == l1.length) = true := by first | simpa using c3 | (simp at c3 ⊢; omega)
 clear c3
 have H' := Aside0.mk H
 clear H
 go_enter Try.func84, Try.ntmps84
 go_wp2
 repeat (go_quiet (fail); try go_wp2)
 go_loopg [5] k (fun kq v5 w' => ∃ (x5_1 : Int), v5 = .int .i64 x5_1 ∧ Aside0 (laws_eqIntS.l0 kq l0 l1 x5_1 = some r) ∧ Aside0 (kq ≤ k) ∧ Drawn0 w w')
 case atStart => exact ⟨(0), qs, H', ⟨Nat.le_refl _⟩, by repeat (first | exact Drawn0.refl _ | apply Drawn0.step)⟩
 clear H'
 try clear c1
 try clear p2
 try clear c3
 try clear c3b0
 try clear c3b1
 try clear c3b2
 obtain ⟨x5_1, rfl, HA, HK1, ⟨m1, rfl⟩⟩ := hrel
 rcases gk with _ | k1
 · exact absurd HA.out (by simp [laws_eqIntS.l0])
 have H := HA.out
 clear HA
 simp only [laws_eqIntS.l0] at H
 by_cases c4 : x5_1 < (l0.length : Int)
 rotate_left
 · rw [if_neg c4] at H
   have c4b0 : decide (x5_1 < (l0.length : Int)) = false := decide_eq_false c4
   clear c4
   obtain rfl := Option.some.inj H
   go_wp2
   repeat (go_quiet (fail); try go_wp2)
   go_ret
   exact ⟨by first | rfl | (simp; done) | (simp [*]; done), by repeat (first | exact Drawn0.refl _ | apply Drawn0.step)⟩
 rw [if_pos c4] at H
 have c4b0 : decide (x5_1 < (l0.length : Int)) = true := decide_eq_true c4
 clear c4
 by_cases c5 : 0 ≤ x5_1
 rotate_left
 · rw [if_neg c5] at H
   exact absurd H (by simp)
 rw [if_pos c5] at H
 have c5b0 : decide (0 ≤ x5_1) = true := decide_eq_true c5
 clear c5
 by_cases c6 : x5_1 < (l1.length : Int)
 rotate_left
 · rw [if_neg c6] at H
   exact absurd H (by simp)
 rw [if_pos c6] at H
 have c6b0 : decide (x5_1 < (l1.length : Int)) = true := decide_eq_true c6
 clear c6
 by_cases c7 : (rd l0 x5_1) = (rd l1 x5_1)
 rotate_left
 · rw [if_neg c7] at H
   have c7b0 : ((rd l0 x5_1) == (rd l1 x5_1)) = false := beq_eq_false_iff_ne.mpr c7
   have c7b1 : ((rd l0 x5_1) != (rd l1 x5_1)) = true := bne_iff_ne.mpr c7
   obtain rfl := Option.some.inj H
   have p100 : 0 ≤ (x5_1 : Int) := of_decide_eq_true qa
   have q100 : x5_1 < (l0.length : Int) := of_decide_eq_true qa
   obtain ⟨ad100, e100, hx100_0⟩ := Kd.at_int HR0.out x5_1 p100 q100
   cases e100
   replace p100 := eq_true p100
   replace q100 := eq_true q100
   have p101 : 0 ≤ (x5_1 : Int) := of_decide_eq_true qa
   have q101 : x5_1 < (l1.length : Int) := of_decide_eq_true qa
   obtain ⟨ad101, e101, hx101_0⟩ := Kd.at_int HR1.out x5_1 p101 q101
   cases e101
   replace p101 := eq_true p101
   replace q101 := eq_true q101
   go_wp2
   repeat (go_quiet (fail); try go_wp2)
   go_ret
   exact ⟨by first | rfl | (simp; done) | (simp [*]; done), by repeat (first | exact Drawn0.refl _ | apply Drawn0.step)⟩
 rw [if_pos c7] at H
 have c7b0 : ((rd l0 x5_1) == (rd l1 x5_1)) = true := beq_iff_eq.mpr c7
 have c7b1 : ((rd l0 x5_1) != (rd l1 x5_1)) = false := bne_eq_false_iff_eq.mpr c7
 clear c7
 have H' := Aside0.mk H
 clear H
 have p100 : 0 ≤ (x5_1 : Int) := of_decide_eq_true qa
 have q100 : x5_1 < (l0.length : Int) := of_decide_eq_true qa
 obtain ⟨ad100, e100, hx100_0⟩ := Kd.at_int HR0.out x5_1 p100 q100
 cases e100
 replace p100 := eq_true p100
 replace q100 := eq_true q100
 have p101 : 0 ≤ (x5_1 : Int) := of_decide_eq_true qa
 have q101 : x5_1 < (l1.length : Int) := of_decide_eq_true qa
 obtain ⟨ad101, e101, hx101_0⟩ := Kd.at_int HR1.out x5_1 p101 q101
 cases e101
 replace p101 := eq_true p101
 replace q101 := eq_true q101
 go_wp2
 repeat (go_quiet (fail); try go_wp2)
 go_roundg k1
 case measure => have := HK1.out; omega
 case rel => exact ⟨(wrap64 (x5_1 + 1)), qs, H', ⟨by have := HK1.out; omega⟩, by repeat (first | exact Drawn0.refl _ | apply Drawn0.step)⟩

set_option maxHeartbeats 8000000 in
set_option maxRecDepth 100000 in
theorem laws_eqIntSS.calls (k : Nat) (A0 : Option Addr) (c0 : Nat) (l0 : List (List Int)) (A1 : Option Addr) (c1 : Nat) (l1 : List (List Int)) (r : Bool) (w : World) (hr0 : Kd.C (Kd.slice 3 (Kd.int .i64)) w A0 l0.length l0) (hc0 : l0.length ≤ c0) (hr1 : Kd.C (Kd.slice 3 (Kd.int .i64)) w A1 l1.length l1) (hc1 : l1.length ≤ c1) (h : laws_eqIntSS.f k l0 l1 = some r) :
    Calls Try.prog 44 #[.slice A0 l0.length c0, .slice A1 l1.length c1] w fun e w' => e = .returned (.bool r) ∧ Drawn0 w w' := by
 have HR0 := Aside0.mk hr0
 have HC0 := Aside0.mk hc0
 clear hr0 hc0
 have HR1 := Aside0.mk hr1
 have HC1 := Aside0.mk hc1
 clear hr1 hc1
 have H : (if (l0.length : Int) = (l1.length : Int) then (laws_eqIntSS.l0 k l0 l1 0) else (some false)) = some r := h
 clear h
 by_cases c3 : (l0.length : Int) = (l1.length : Int)
 rotate_left
 · rw [if_neg c3] at H
   have c3b0 : ((l0.length : Int) == (l1.length : Int)) = false := beq_eq_false_iff_ne.mpr c3
   have c3b1 : ((l0.length : Int) != (l1.length : Int)) = true := bne_iff_ne.mpr c3
   have c3b2 : (l0.length == l1.length) = false := by first | simpa using c3 | (simp at c3 ⊢; omega)
   obtain rfl := Option.some.inj H
   go_enter Try.func44, Try.ntmps44
   go_wp2
   repeat (go_quiet (fail); try go_wp2)
   go_ret
   exact ⟨by first | rfl | (simp; done) | (simp [*]; done), by repeat (first | exact Drawn0.refl _ | apply Drawn0.step)⟩
 rw [if_pos c3] at H
 have c3b0 : ((l0.length : Int) == (l1.length : Int)) = true := beq_iff_eq.mpr c3
 have c3b1 : ((l0.length : Int) != (l1.length : Int)) = false := bne_eq_false_iff_eq.mpr c3
 have c3b2 : (l0.length == l1.length) = true := by first | simpa using c3 | (simp at c3 ⊢; omega)
 clear c3
 have H' := Aside0.mk H
 clear H
 go_enter Try.func44, Try.ntmps44
 go_wp2
 repeat (go_quiet (fail); try go_wp2)
 go_loopg [5] k (fun kq v5 w' => ∃ (x5_1 : Int), v5 = .int .i64 x5_1 ∧ Aside0 (laws_eqIntSS.l0 kq l0 l1 x5_1 = some r) ∧ Aside0 (kq ≤ k) ∧ Drawn0 w w')
 case atStart => exact ⟨(0), qs, H', ⟨Nat.le_refl _⟩, by repeat (first | exact Drawn0.refl _ | apply Drawn0.step)⟩
 clear H'
 try clear c1
 try clear p2
 try clear c3
 try clear c3b0
 try clear c3b1
 try clear c3b2
 obtain ⟨x5_1, rfl, HA, HK1, ⟨m1, rfl⟩⟩ := hrel
 rcases gk with _ | k1
 · exact absurd HA.out (by simp [laws_eqIntSS.l0])
 have H := HA.out
 clear HA
 simp only [laws_eqIntSS.l0] at H
 by_cases c4 : x5_1 < (l0.length : Int)
 rotate_left
 · rw [if_neg c4] at H
   have c4b0 : decide (x5_1 < (l0.length : Int)) = false := decide_eq_false c4
   clear c4
   obtain rfl := Option.some.inj H
   go_wp2
   repeat (go_quiet (fail); try go_wp2)
   go_ret
   exact ⟨by first | rfl | (simp; done) | (simp [*]; done), by repeat (first | exact Drawn0.refl _ | apply Drawn0.step)⟩
 rw [if_pos c4] at H
 have c4b0 : decide (x5_1 < (l0.length : Int)) = true := decide_eq_true c4
 clear c4
 by_cases c5 : 0 ≤ x5_1
 rotate_left
 · rw [if_neg c5] at H
   exact absurd H (by simp)
 rw [if_pos c5] at H
 have c5b0 : decide (0 ≤ x5_1) = true := decide_eq_true c5
 clear c5
 by_cases c6 : x5_1 < (l1.length : Int)
 rotate_left
 · rw [if_neg c6] at H
   exact absurd H (by simp)
 rw [if_pos c6] at H
 have c6b0 : decide (x5_1 < (l1.length : Int)) = true := decide_eq_true c6
 clear c6
 replace H := Option.bind_eq_some_iff.mp H
 obtain ⟨t100, A70, H⟩ := H
 have A7 := Aside0.mk A70
 clear A70
 by_cases c8 : t100 = true
 rotate_left
 · replace c8 := Bool.eq_false_iff.mpr c8
   subst c8
   rw [if_neg nf] at H
   obtain rfl := Option.some.inj H
   have p101 : 0 ≤ (x5_1 : Int) := of_decide_eq_true qa
   have q101 : x5_1 < (l0.length : Int) := of_decide_eq_true qa
   obtain ⟨ad101, A101_0, c101_0, e101, hx101_0, hl101_0, hi101_0⟩ := at_LI HR0.out x5_1 p101 q101
   cases e101
   have HR101_0 := Aside0.mk hi101_0
   have HC101_0 := Aside0.mk hl101_0
   clear hi101_0 hl101_0
   replace p101 := eq_true p101
   replace q101 := eq_true q101
   have p102 : 0 ≤ (x5_1 : Int) := of_decide_eq_true qa
   have q102 : x5_1 < (l1.length : Int) := of_decide_eq_true qa
   obtain ⟨ad102, A102_0, c102_0, e102, hx102_0, hl102_0, hi102_0⟩ := at_LI HR1.out x5_1 p102 q102
   cases e102
   have HR102_0 := Aside0.mk hi102_0
   have HC102_0 := Aside0.mk hl102_0
   clear hi102_0 hl102_0
   replace p102 := eq_true p102
   replace q102 := eq_true q102
   go_wp2_with (first | (go_at_call 84; (with_reducible refine (laws_eqIntS.calls k1 _ _ (rd_LI l0 x5_1) _ _ (rd_LI l1 x5_1) false _ ?side1 ?side2 ?side3 ?side4 A7.out).mono ?_); (case side1 => repeat (first | exact HR101_0.out | (with_reducible refine Kd.C_alloc ?_ _) | (with_reducible refine Kd.C_drewN ?_ _) | (with_reducible refine Kd.C_drew ?_))); (case side2 => exact HC101_0.out); (case side3 => repeat (first | exact HR102_0.out | (with_reducible refine Kd.C_alloc ?_ _) | (with_reducible refine Kd.C_drewN ?_ _) | (with_reducible refine Kd.C_drew ?_))); (case side4 => exact HC102_0.out); rintro e w' ⟨rfl, ⟨nd, rfl⟩⟩; (try first | exact ⟨rfl, _, World.drewN_drewN _ _ _⟩ | exact ⟨rfl, _, Eq.trans (World.drewN_drewN _ _ _) (congrArg (World.drewN _) (Nat.add_assoc _ _ _))⟩)))
   repeat (go_quiet (first | (go_at_call 84; (with_reducible refine (laws_eqIntS.calls k1 _ _ (rd_LI l0 x5_1) _ _ (rd_LI l1 x5_1) false _ ?side1 ?side2 ?side3 ?side4 A7.out).mono ?_); (case side1 => repeat (first | exact HR101_0.out | (with_reducible refine Kd.C_alloc ?_ _) | (with_reducible refine Kd.C_drewN ?_ _) | (with_reducible refine Kd.C_drew ?_))); (case side2 => exact HC101_0.out); (case side3 => repeat (first | exact HR102_0.out | (with_reducible refine Kd.C_alloc ?_ _) | (with_reducible refine Kd.C_drewN ?_ _) | (with_reducible refine Kd.C_drew ?_))); (case side4 => exact HC102_0.out); rintro e w' ⟨rfl, ⟨nd, rfl⟩⟩; (try first | exact ⟨rfl, _, World.drewN_drewN _ _ _⟩ | exact ⟨rfl, _, Eq.trans (World.drewN_drewN _ _ _) (congrArg (World.drewN _) (Nat.add_assoc _ _ _))⟩))); try go_wp2_with (first | (go_at_call 84; (with_reducible refine (laws_eqIntS.calls k1 _ _ (rd_LI l0 x5_1) _ _ (rd_LI l1 x5_1) false _ ?side1 ?side2 ?side3 ?side4 A7.out).mono ?_); (case side1 => repeat (first | exact HR101_0.out | (with_reducible refine Kd.C_alloc ?_ _) | (with_reducible refine Kd.C_drewN ?_ _) | (with_reducible refine Kd.C_drew ?_))); (case side2 => exact HC101_0.out); (case side3 => repeat (first | exact HR102_0.out | (with_reducible refine Kd.C_alloc ?_ _) | (with_reducible refine Kd.C_drewN ?_ _) | (with_reducible refine Kd.C_drew ?_))); (case side4 => exact HC102_0.out); rintro e w' ⟨rfl, ⟨nd, rfl⟩⟩; (try first | exact ⟨rfl, _, World.drewN_drewN _ _ _⟩ | exact ⟨rfl, _, Eq.trans (World.drewN_drewN _ _ _) (congrArg (World.drewN _) (Nat.add_assoc _ _ _))⟩))))
   go_ret
   exact ⟨by first | rfl | (simp; done) | (simp [*]; done), by repeat (first | exact Drawn0.refl _ | apply Drawn0.step)⟩
 subst c8
 rw [if_pos rfl] at H
 have H' := Aside0.mk H
 clear H
 have p101 : 0 ≤ (x5_1 : Int) := of_decide_eq_true qa
 have q101 : x5_1 < (l0.length : Int) := of_decide_eq_true qa
 obtain ⟨ad101, A101_0, c101_0, e101, hx101_0, hl101_0, hi101_0⟩ := at_LI HR0.out x5_1 p101 q101
 cases e101
 have HR101_0 := Aside0.mk hi101_0
 have HC101_0 := Aside0.mk hl101_0
 clear hi101_0 hl101_0
 replace p101 := eq_true p101
 replace q101 := eq_true q101
 have p102 : 0 ≤ (x5_1 : Int) := of_decide_eq_true qa
 have q102 : x5_1 < (l1.length : Int) := of_decide_eq_true qa
 obtain ⟨ad102, A102_0, c102_0, e102, hx102_0, hl102_0, hi102_0⟩ := at_LI HR1.out x5_1 p102 q102
 cases e102
 have HR102_0 := Aside0.mk hi102_0
 have HC102_0 := Aside0.mk hl102_0
 clear hi102_0 hl102_0
 replace p102 := eq_true p102
 replace q102 := eq_true q102
 go_wp2_with (first | (go_at_call 84; (with_reducible refine (laws_eqIntS.calls k1 _ _ (rd_LI l0 x5_1) _ _ (rd_LI l1 x5_1) true _ ?side1 ?side2 ?side3 ?side4 A7.out).mono ?_); (case side1 => repeat (first | exact HR101_0.out | (with_reducible refine Kd.C_alloc ?_ _) | (with_reducible refine Kd.C_drewN ?_ _) | (with_reducible refine Kd.C_drew ?_))); (case side2 => exact HC101_0.out); (case side3 => repeat (first | exact HR102_0.out | (with_reducible refine Kd.C_alloc ?_ _) | (with_reducible refine Kd.C_drewN ?_ _) | (with_reducible refine Kd.C_drew ?_))); (case side4 => exact HC102_0.out); rintro e w' ⟨rfl, ⟨nd, rfl⟩⟩; (try first | exact ⟨rfl, _, World.drewN_drewN _ _ _⟩ | exact ⟨rfl, _, Eq.trans (World.drewN_drewN _ _ _) (congrArg (World.drewN _) (Nat.add_assoc _ _ _))⟩)))
 repeat (go_quiet (first | (go_at_call 84; (with_reducible refine (laws_eqIntS.calls k1 _ _ (rd_LI l0 x5_1) _ _ (rd_LI l1 x5_1) true _ ?side1 ?side2 ?side3 ?side4 A7.out).mono ?_); (case side1 => repeat (first | exact HR101_0.out | (with_reducible refine Kd.C_alloc ?_ _) | (with_reducible refine Kd.C_drewN ?_ _) | (with_reducible refine Kd.C_drew ?_))); (case side2 => exact HC101_0.out); (case side3 => repeat (first | exact HR102_0.out | (with_reducible refine Kd.C_alloc ?_ _) | (with_reducible refine Kd.C_drewN ?_ _) | (with_reducible refine Kd.C_drew ?_))); (case side4 => exact HC102_0.out); rintro e w' ⟨rfl, ⟨nd, rfl⟩⟩; (try first | exact ⟨rfl, _, World.drewN_drewN _ _ _⟩ | exact ⟨rfl, _, Eq.trans (World.drewN_drewN _ _ _) (congrArg (World.drewN _) (Nat.add_assoc _ _ _))⟩))); try go_wp2_with (first | (go_at_call 84; (with_reducible refine (laws_eqIntS.calls k1 _ _ (rd_LI l0 x5_1) _ _ (rd_LI l1 x5_1) true _ ?side1 ?side2 ?side3 ?side4 A7.out).mono ?_); (case side1 => repeat (first | exact HR101_0.out | (with_reducible refine Kd.C_alloc ?_ _) | (with_reducible refine Kd.C_drewN ?_ _) | (with_reducible refine Kd.C_drew ?_))); (case side2 => exact HC101_0.out); (case side3 => repeat (first | exact HR102_0.out | (with_reducible refine Kd.C_alloc ?_ _) | (with_reducible refine Kd.C_drewN ?_ _) | (with_reducible refine Kd.C_drew ?_))); (case side4 => exact HC102_0.out); rintro e w' ⟨rfl, ⟨nd, rfl⟩⟩; (try first | exact ⟨rfl, _, World.drewN_drewN _ _ _⟩ | exact ⟨rfl, _, Eq.trans (World.drewN_drewN _ _ _) (congrArg (World.drewN _) (Nat.add_assoc _ _ _))⟩))))
 go_roundg k1
 case measure => have := HK1.out; omega
 case rel => exact ⟨(wrap64 (x5_1 + 1)), qs, H', ⟨by have := HK1.out; omega⟩, by repeat (first | exact Drawn0.refl _ | apply Drawn0.step)⟩

set_option maxHeartbeats 8000000 in
set_option maxRecDepth 100000 in
theorem laws_markIntS.calls (k : Nat) (P0_ : Nat → Prop) (u100_ : Value) (l0 : List Int) (a1 : Int) (r1 : Int) (r2 : List Int) (w0 w : World) (hB : Below w0.heap.size w0 w) (ho0 : Kd.R (Kd.int .i64) 3 w w0.heap.size P0_ u100_ l0) (h : laws_markIntS.f k l0 a1 = some (r1, r2)) :
    Calls Try.prog 85 #[u100_, .int .i64 a1] w fun e w' => e = .returned (.int .i64 r1) ∧ Kd.R (Kd.int .i64) 3 w' w0.heap.size (fun k_ => (P0_ k_ ∨ w.heap.size ≤ k_)) u100_ r2 ∧ Below w0.heap.size w0 w' ∧ Kept w w' (fun k_ => P0_ k_) := by
 have HO0 := q0 (show Kd.R (Kd.int .i64) 3 w w0.heap.size (fun k_ => (P0_ k_ ∨ w.heap.size ≤ k_)) u100_ l0 from Kd.R_mono ho0 (fun k_ hk => (.inl hk)))
 have HK := q0 (Kept.refl w (fun k_ => P0_ k_))
 have HW0 := Aside0.mk hB.size
 have HB := Aside0.mk hB
 clear hB
 have H : (laws_markIntS.l0 k l0 a1 0) = some (r1, r2) := h
 clear h
 have H' := Aside0.mk H
 clear H
 go_enter Try.func85, Try.ntmps85
 go_wp2
 go_loopg [1, 5] k (fun kq v1 v5 w' => ∃ (x0_1 : List Int) (x1_1 : Int) (x5_1 : Int), v1 = .int .i64 x1_1 ∧ v5 = .int .i64 x5_1 ∧ Aside0 (laws_markIntS.l0 kq x0_1 x1_1 x5_1 = some (r1, r2)) ∧ Aside0 (kq ≤ k) ∧ Aside0 (Kd.R (Kd.int .i64) 3 w' w0.heap.size (fun k_ => (P0_ k_ ∨ w.heap.size ≤ k_)) u100_ x0_1) ∧ Aside0 (Kept w w' (fun k_ => P0_ k_)) ∧ Aside0 (Below w0.heap.size w0 w'))
 case atStart => exact ⟨(l0), (a1), (0), qs, qs, H', ⟨Nat.le_refl _⟩, ⟨qr HO0.out⟩, ⟨qp HK.out⟩, ⟨qb HB.out⟩⟩
 clear H'
 try clear p2
 obtain ⟨x0_1, x1_1, x5_1, rfl, rfl, HA, HK1, HO_0, HK, HB⟩ := hrel
 rcases gk with _ | k1
 · exact absurd HA.out (by simp [laws_markIntS.l0])
 have H := HA.out
 clear HA
 simp only [laws_markIntS.l0] at H
 by_cases c3 : x5_1 < (x0_1.length : Int)
 rotate_left
 · rw [if_neg c3] at H
   have c3b0 : decide (x5_1 < (x0_1.length : Int)) = false := decide_eq_false c3
   clear c3
   simp only [Option.some.injEq, Prod.mk.injEq] at H
   obtain ⟨rfl, rfl⟩ := H
   obtain ⟨Ao9, co9, eo9⟩ := Kd.R_slice HO_0.out
   subst eo9
   go_wp2
   go_ret
   exact ⟨qe, qr HO_0.out, qb HB.out, qp HK.out⟩
 rw [if_pos c3] at H
 have c3b0 : decide (x5_1 < (x0_1.length : Int)) = true := decide_eq_true c3
 clear c3
 by_cases c4 : 0 ≤ x5_1
 rotate_left
 · rw [if_neg c4] at H
   exact absurd H (by simp)
 rw [if_pos c4] at H
 have c4b0 : decide (0 ≤ x5_1) = true := decide_eq_true c4
 clear c4
 obtain ⟨y101, hy101⟩ : ∃ y_ : List Int, y_ = (x0_1.set (x5_1 : Int).toNat x1_1) := ⟨_, rfl⟩
 replace H : (laws_markIntS.l0 k1 y101 (wrap64 (x1_1 + 1)) (wrap64 (x5_1 + 1))) = some (r1, r2) := qy H hy101
 have Ny101 := Aside0.mk hy101
 clear hy101
 have H' := Aside0.mk H
 clear H
 obtain ⟨Ao6, co6, eo6⟩ := Kd.R_slice HO_0.out
 subst eo6
 have p5 : 0 ≤ (x5_1 : Int) := of_decide_eq_true qa
 have q5 : (x5_1 : Int) < ((x0_1.length : Int) : Int) := of_decide_eq_true qa
 obtain ⟨go5, co5, eo5, gb5, gl5, cl5, HG5⟩ := Kd.R_form HO_0.out (by omega)
 (first | cases eo5 | (injection eo5 with ea_ en_ ec_; (first | subst ea_ | (injection ea_ with ea_; subst ea_)); subst ec_; clear en_))
 have GB5 := Aside0.mk gb5
 have GG5 := Aside0.mk HG5
 clear gb5 gl5 HG5
 have HMgo5 := q0 (show (P0_ go5 ∨ w.heap.size ≤ go5) from (HO_0.out.1 _ rfl))
 obtain ⟨hx5_0, hf5_0⟩ := Kd.R_celln 0 HO_0.out (x5_1 : Int) p5 q5
 replace p5 := eq_true p5
 replace q5 := eq_true q5
 have HP7 := Kd.R_putg HO_0.out (x5_1 : Int) x1_1
 go_wp2_with (first | ((with_reducible refine gate_store (t := 3) (p := 15) rfl ?_); refine store_event (t := 3) (p := 15) (v := ?vo_w8) (w1 := (wr.setCell ⟨go5, (x5_1 : Int).toNat, none⟩ (.int .i64 x1_1))) ?hg ?ho ?hn ?hr ?_; (case ho => rfl); (case hg => rfl); (case hn => rfl); (case hr => first | (go_simp; done) | (go_simp; rfl)); intro w8 hw; have hg : wr.grownBy w8 (some go5) := (by rw [hw]; exact HP7.2); have hp_ : Kd.R (Kd.int .i64) 3 w8 w0.heap.size (fun k_ => (P0_ k_ ∨ w.heap.size ≤ k_)) (.slice (some ⟨go5, 0, none⟩) x0_1.length co6) y101 := (by rw [hw, Ny101.out]; exact HP7.1); clear HP7; replace HB := q0 ((by rw [hw]; exact below_set (HB.out) GB5.out : Below w0.heap.size w0 w8)); replace HK := q0 (Kept.of_grown (S := (fun k_ => P0_ k_)) hg (qp HK.out) (fun k_ e_ => (HO_0.out.1 k_ e_))); replace HO_0 := q0 (hp_); clear hg hw hp_))
 go_roundg k1
 case measure => have := HK1.out; omega
 case rel => exact ⟨(y101), (wrap64 (x1_1 + 1)), (wrap64 (x5_1 + 1)), qs, qs, H', ⟨by have := HK1.out; omega⟩, ⟨qr HO_0.out⟩, ⟨qp HK.out⟩, ⟨qb HB.out⟩⟩

set_option maxHeartbeats 8000000 in
set_option maxRecDepth 100000 in
theorem laws_markIntSS.calls (k : Nat) (P0_ : Nat → Prop) (u100_ : Value) (l0 : List (List Int)) (a1 : Int) (r1 : Int) (r2 : List (List Int)) (w0 w : World) (hB : Below w0.heap.size w0 w) (ho0 : Kd.S (Kd.slice 3 (Kd.int .i64)) 60 w w0.heap.size P0_ u100_ l0) (h : laws_markIntSS.f k l0 a1 = some (r1, r2)) :
    Calls Try.prog 45 #[u100_, .int .i64 a1] w fun e w' => e = .returned (.int .i64 r1) ∧ Kd.S (Kd.slice 3 (Kd.int .i64)) 60 w' w0.heap.size P0_ u100_ r2 ∧ Below w0.heap.size w0 w' ∧ Kept w w' (fun k_ => P0_ k_) := by
 obtain ⟨A, c, rfl⟩ := Kd.S_slice ho0
 have HO0 := Aside0.mk ho0
 have HB := Aside0.mk hB
 clear ho0 hB
 have H : (laws_markIntSS.l0 k l0 a1 0) = some (r1, r2) := h
 clear h
 have H' := Aside0.mk H
 clear H
 go_enter Try.func45, Try.ntmps45
 go_wp2
 go_loopg [1, 5] k (fun kq v1 v5 w' => ∃ (xs : List (List Int)) (x1_1 : Int) (x5_1 : Int), v1 = .int .i64 x1_1 ∧ v5 = .int .i64 x5_1 ∧ Aside0 (laws_markIntSS.l0 kq xs x1_1 x5_1 = some (r1, r2)) ∧ Aside0 (kq ≤ k) ∧ Aside0 (xs.length = l0.length) ∧ Aside0 (Kd.S (Kd.slice 3 (Kd.int .i64)) 60 w' w0.heap.size P0_ (.slice A l0.length c) xs) ∧ Aside0 (Kept w w' (fun k_ => P0_ k_)) ∧ Aside0 (Below w0.heap.size w0 w'))
 case atStart => exact ⟨l0, (a1), (0), qs, qs, H', ⟨Nat.le_refl _⟩, ⟨rfl⟩, ⟨qv HO0.out⟩, ⟨qp (Kept.refl w (fun k_ => P0_ k_))⟩, ⟨qb HB.out⟩⟩
 clear H' HO0 HB
 obtain ⟨xs, x1_1, x5_1, rfl, rfl, HA, HK1, HL, HO, HK, HB⟩ := hrel
 rcases gk with _ | k1
 · exact absurd HA.out (by simp [laws_markIntSS.l0])
 have H := HA.out
 clear HA
 simp only [laws_markIntSS.l0] at H
 rw [HL.out] at H
 by_cases c3 : x5_1 < (l0.length : Int)
 rotate_left
 · rw [if_neg c3] at H
   have c3b0 : decide (x5_1 < (l0.length : Int)) = false := decide_eq_false c3
   clear c3
   obtain ⟨rfl, rfl⟩ := Prod.mk.inj (Option.some.inj H)
   go_wp2
   go_ret
   exact ⟨by first | rfl | (simp; done) | (simp [*]; done), qv HO.out, qb HB.out, qp HK.out⟩
 rw [if_pos c3] at H
 have c3b0 : decide (x5_1 < (l0.length : Int)) = true := decide_eq_true c3
 by_cases c4 : 0 ≤ x5_1
 rotate_left
 · rw [if_neg c4] at H
   exact absurd H (by simp)
 rw [if_pos c4] at H
 have c4b0 : decide (0 ≤ x5_1) = true := decide_eq_true c4
 replace H := Option.bind_eq_some_iff.mp H
 obtain ⟨⟨t100, t200⟩, A50, H⟩ := H
 have A5 := Aside0.mk A50
 clear A50
 have H' := Aside0.mk H
 clear H
 have p101 : 0 ≤ (x5_1 : Int) := c4
 have q101 : x5_1 < (xs.length : Int) := by have := HL.out; omega
 obtain ⟨ad101, A101_0, c101_0, e101, hx101_0, hl101_0, hi101_0⟩ := at_LI (Kd.S_reads' HO.out).2.2 x5_1 p101 q101
 cases e101
 obtain ⟨u, hu, hR, hP, hset⟩ := S_row HO.out x5_1 p101 q101
 obtain rfl := Option.some.inj (hu.symm.trans hx101_0)
 have HR := Aside0.mk hR
 have HP := Aside0.mk hP
 have HS := Aside0.mk hset
 clear hu hR hP hset hi101_0 hl101_0 c3 c4
 replace p101 := eq_true p101
 have q102 : (x5_1 < (l0.length : Int)) = True := eq_true (of_decide_eq_true c3b0)
 clear q101
 go_wp2_with (first | ((with_reducible refine gate_callee (f := 85) rfl ?_); refine gl 17 Try.func85 #[.slice A101_0 (rd_LI xs x5_1).length c101_0, .int .i64 x1_1] ?_; (with_reducible refine (laws_markIntS.calls k1 (fun k_ => some k_ = (.slice A101_0 (rd_LI xs x5_1).length c101_0 : Value).ownBlock) (.slice A101_0 (rd_LI xs x5_1).length c101_0) (rd_LI xs x5_1) x1_1 t100 t200 w0 _ ?side1 ?side2 A5.out).mono ?_); (case side1 => exact qb HB.out); (case side2 => exact HR.out); rintro e wm ⟨rfl, ho, hb, hkp⟩; refine ⟨_, rfl, ?_⟩; replace HO := q0 (HS.out wm t200 hkp ho); replace HK := q0 (Kept.then_ (S := (fun k_ => P0_ k_)) (qp HK.out) hkp (fun k_ hs_ => .inl (HP.out k_ hs_))); replace HB := q0 hb; clear HS ho hb hkp))
 go_roundg k1
 case measure => have := HK1.out; omega
 case rel => exact ⟨_, (t100), (wrap64 (x5_1 + 1)), qs, qs, H', ⟨by have := HK1.out; omega⟩, ⟨by rw [List.length_set]; exact HL.out⟩, ⟨qv HO.out⟩, ⟨qp HK.out⟩, ⟨qb HB.out⟩⟩

set_option maxHeartbeats 8000000 in
set_option maxRecDepth 100000 in
theorem laws_heldIntS.calls (k : Nat) (A0 : Option Addr) (c0 : Nat) (l0 : List Int) (a1 : Int) (r : Int) (w : World) (hr0 : Kd.C (Kd.int .i64) w A0 l0.length l0) (hc0 : l0.length ≤ c0) (h : laws_heldIntS.f k l0 a1 = some r) :
    Calls Try.prog 86 #[.slice A0 l0.length c0, .int .i64 a1] w fun e w' => e = .returned (.int .i64 r) ∧ Drawn0 w w' := by
 have HR0 := Aside0.mk hr0
 have HC0 := Aside0.mk hc0
 clear hr0 hc0
 have H : (laws_heldIntS.l0 k l0 a1 0) = some r := h
 clear h
 have H' := Aside0.mk H
 clear H
 go_enter Try.func86, Try.ntmps86
 go_wp2
 go_loopg [1, 5] k (fun kq v1 v5 w' => ∃ (x1_1 : Int) (x5_1 : Int), v1 = .int .i64 x1_1 ∧ v5 = .int .i64 x5_1 ∧ Aside0 (laws_heldIntS.l0 kq l0 x1_1 x5_1 = some r) ∧ Aside0 (kq ≤ k) ∧ Drawn0 w w')
 case atStart => exact ⟨(a1), (0), qs, qs, H', ⟨Nat.le_refl _⟩, by repeat (first | exact Drawn0.refl _ | apply Drawn0.step)⟩
 clear H'
 try clear p2
 obtain ⟨x1_1, x5_1, rfl, rfl, HA, HK1, ⟨m1, rfl⟩⟩ := hrel
 rcases gk with _ | k1
 · exact absurd HA.out (by simp [laws_heldIntS.l0])
 have H := HA.out
 clear HA
 simp only [laws_heldIntS.l0] at H
 by_cases c3 : x5_1 < (l0.length : Int)
 rotate_left
 · rw [if_neg c3] at H
   have c3b0 : decide (x5_1 < (l0.length : Int)) = false := decide_eq_false c3
   clear c3
   obtain rfl := Option.some.inj H
   go_wp2
   go_ret
   exact ⟨by first | rfl | (simp; done) | (simp [*]; done), by repeat (first | exact Drawn0.refl _ | apply Drawn0.step)⟩
 rw [if_pos c3] at H
 have c3b0 : decide (x5_1 < (l0.length : Int)) = true := decide_eq_true c3
 clear c3
 by_cases c4 : 0 ≤ x5_1
 rotate_left
 · rw [if_neg c4] at H
   exact absurd H (by simp)
 rw [if_pos c4] at H
 have c4b0 : decide (0 ≤ x5_1) = true := decide_eq_true c4
 clear c4
 by_cases c5 : (rd l0 x5_1) = x1_1
 rotate_left
 · rw [if_neg c5] at H
   have c5b0 : ((rd l0 x5_1) == x1_1) = false := beq_eq_false_iff_ne.mpr c5
   have c5b1 : ((rd l0 x5_1) != x1_1) = true := bne_iff_ne.mpr c5
   obtain rfl := Option.some.inj H
   have p100 : 0 ≤ (x5_1 : Int) := of_decide_eq_true qa
   have q100 : x5_1 < (l0.length : Int) := of_decide_eq_true qa
   obtain ⟨ad100, e100, hx100_0⟩ := Kd.at_int HR0.out x5_1 p100 q100
   cases e100
   replace p100 := eq_true p100
   replace q100 := eq_true q100
   go_wp2
   go_ret
   exact ⟨by first | rfl | (simp; done) | (simp [*]; done), by repeat (first | exact Drawn0.refl _ | apply Drawn0.step)⟩
 rw [if_pos c5] at H
 have c5b0 : ((rd l0 x5_1) == x1_1) = true := beq_iff_eq.mpr c5
 have c5b1 : ((rd l0 x5_1) != x1_1) = false := bne_eq_false_iff_eq.mpr c5
 clear c5
 have H' := Aside0.mk H
 clear H
 have p100 : 0 ≤ (x5_1 : Int) := of_decide_eq_true qa
 have q100 : x5_1 < (l0.length : Int) := of_decide_eq_true qa
 obtain ⟨ad100, e100, hx100_0⟩ := Kd.at_int HR0.out x5_1 p100 q100
 cases e100
 replace p100 := eq_true p100
 replace q100 := eq_true q100
 go_wp2
 go_roundg k1
 case measure => have := HK1.out; omega
 case rel => exact ⟨(wrap64 (x1_1 + 1)), (wrap64 (x5_1 + 1)), qs, qs, H', ⟨by have := HK1.out; omega⟩, by repeat (first | exact Drawn0.refl _ | apply Drawn0.step)⟩

set_option maxHeartbeats 8000000 in
set_option maxRecDepth 100000 in
theorem laws_heldIntSS.calls (k : Nat) (A0 : Option Addr) (c0 : Nat) (l0 : List (List Int)) (a1 : Int) (r : Int) (w : World) (hr0 : Kd.C (Kd.slice 3 (Kd.int .i64)) w A0 l0.length l0) (hc0 : l0.length ≤ c0) (h : laws_heldIntSS.f k l0 a1 = some r) :
    Calls Try.prog 46 #[.slice A0 l0.length c0, .int .i64 a1] w fun e w' => e = .returned (.int .i64 r) ∧ Drawn0 w w' := by
 have HR0 := Aside0.mk hr0
 have HC0 := Aside0.mk hc0
 clear hr0 hc0
 have H : (laws_heldIntSS.l0 k l0 a1 0) = some r := h
 clear h
 have H' := Aside0.mk H
 clear H
 go_enter Try.func46, Try.ntmps46
 go_wp2
 go_loopg [1, 5] k (fun kq v1 v5 w' => ∃ (x1_1 : Int) (x5_1 : Int), v1 = .int .i64 x1_1 ∧ v5 = .int .i64 x5_1 ∧ Aside0 (laws_heldIntSS.l0 kq l0 x1_1 x5_1 = some r) ∧ Aside0 (kq ≤ k) ∧ Drawn0 w w')
 case atStart => exact ⟨(a1), (0), qs, qs, H', ⟨Nat.le_refl _⟩, by repeat (first | exact Drawn0.refl _ | apply Drawn0.step)⟩
 clear H'
 try clear p2
 obtain ⟨x1_1, x5_1, rfl, rfl, HA, HK1, ⟨m1, rfl⟩⟩ := hrel
 rcases gk with _ | k1
 · exact absurd HA.out (by simp [laws_heldIntSS.l0])
 have H := HA.out
 clear HA
 simp only [laws_heldIntSS.l0] at H
 by_cases c3 : x5_1 < (l0.length : Int)
 rotate_left
 · rw [if_neg c3] at H
   have c3b0 : decide (x5_1 < (l0.length : Int)) = false := decide_eq_false c3
   clear c3
   obtain rfl := Option.some.inj H
   go_wp2
   go_ret
   exact ⟨by first | rfl | (simp; done) | (simp [*]; done), by repeat (first | exact Drawn0.refl _ | apply Drawn0.step)⟩
 rw [if_pos c3] at H
 have c3b0 : decide (x5_1 < (l0.length : Int)) = true := decide_eq_true c3
 clear c3
 by_cases c4 : 0 ≤ x5_1
 rotate_left
 · rw [if_neg c4] at H
   exact absurd H (by simp)
 rw [if_pos c4] at H
 have c4b0 : decide (0 ≤ x5_1) = true := decide_eq_true c4
 clear c4
 replace H := Option.bind_eq_some_iff.mp H
 obtain ⟨t100, A50, H⟩ := H
 have A5 := Aside0.mk A50
 clear A50
 by_cases c6 : t100 < 0
 · rw [if_pos c6] at H
   have c6b0 : decide (t100 < 0) = true := decide_eq_true c6
   clear c6
   obtain rfl := Option.some.inj H
   have p101 : 0 ≤ (x5_1 : Int) := of_decide_eq_true qa
   have q101 : x5_1 < (l0.length : Int) := of_decide_eq_true qa
   obtain ⟨ad101, A101_0, c101_0, e101, hx101_0, hl101_0, hi101_0⟩ := at_LI HR0.out x5_1 p101 q101
   cases e101
   have HR101_0 := Aside0.mk hi101_0
   have HC101_0 := Aside0.mk hl101_0
   clear hi101_0 hl101_0
   replace p101 := eq_true p101
   replace q101 := eq_true q101
   go_wp2_with (first | ((with_reducible refine gate_callee (f := 86) rfl ?_); refine gl 17 Try.func86 #[.slice A101_0 (rd_LI l0 x5_1).length c101_0, .int .i64 x1_1] ?_; (with_reducible refine (laws_heldIntS.calls k1 _ _ (rd_LI l0 x5_1) x1_1 t100 _ ?side1 ?side2 A5.out).mono ?_); (case side1 => repeat (first | exact HR101_0.out | (with_reducible refine Kd.C_alloc ?_ _) | (with_reducible refine Kd.C_drewN ?_ _) | (with_reducible refine Kd.C_drew ?_))); (case side2 => exact HC101_0.out); rintro e w' ⟨rfl, ⟨nd, rfl⟩⟩; refine ⟨_, rfl, ?_⟩))
   go_ret
   exact ⟨by first | rfl | (simp; done) | (simp [*]; done), by repeat (first | exact Drawn0.refl _ | apply Drawn0.step)⟩
 rw [if_neg c6] at H
 have c6b0 : decide (t100 < 0) = false := decide_eq_false c6
 clear c6
 have H' := Aside0.mk H
 clear H
 have p101 : 0 ≤ (x5_1 : Int) := of_decide_eq_true qa
 have q101 : x5_1 < (l0.length : Int) := of_decide_eq_true qa
 obtain ⟨ad101, A101_0, c101_0, e101, hx101_0, hl101_0, hi101_0⟩ := at_LI HR0.out x5_1 p101 q101
 cases e101
 have HR101_0 := Aside0.mk hi101_0
 have HC101_0 := Aside0.mk hl101_0
 clear hi101_0 hl101_0
 replace p101 := eq_true p101
 replace q101 := eq_true q101
 go_wp2_with (first | ((with_reducible refine gate_callee (f := 86) rfl ?_); refine gl 17 Try.func86 #[.slice A101_0 (rd_LI l0 x5_1).length c101_0, .int .i64 x1_1] ?_; (with_reducible refine (laws_heldIntS.calls k1 _ _ (rd_LI l0 x5_1) x1_1 t100 _ ?side1 ?side2 A5.out).mono ?_); (case side1 => repeat (first | exact HR101_0.out | (with_reducible refine Kd.C_alloc ?_ _) | (with_reducible refine Kd.C_drewN ?_ _) | (with_reducible refine Kd.C_drew ?_))); (case side2 => exact HC101_0.out); rintro e w' ⟨rfl, ⟨nd, rfl⟩⟩; refine ⟨_, rfl, ?_⟩))
 go_roundg k1
 case measure => have := HK1.out; omega
 case rel => exact ⟨(t100), (wrap64 (x5_1 + 1)), qs, qs, H', ⟨by have := HK1.out; omega⟩, by repeat (first | exact Drawn0.refl _ | apply Drawn0.step)⟩

set_option maxHeartbeats 8000000 in
set_option maxRecDepth 100000 in
theorem laws_FnExactTreeRings.calls (k : Nat) (a0_0 : Int) (A0_1 : Option Addr) (c0_1 : Nat) (l0_1 : List (SLTie)) (r : Bool) (w : World) (hr0_1 : Kd.C kLTie w A0_1 l0_1.length l0_1) (hc0_1 : l0_1.length ≤ c0_1) (h : laws_FnExactTreeRings.f k a0_0 l0_1 = some r) :
    Calls Try.prog 11 #[.agg #[.int .i64 a0_0, .slice A0_1 l0_1.length c0_1]] w fun e w' => e = .returned (.bool r) ∧ Below w.heap.size w w' := by
 have hu42 := Try.underlying42
 have hu25 := Try.underlying25
 have HR0_1 := Aside0.mk hr0_1
 have HC0_1 := Aside0.mk hc0_1
 clear hr0_1 hc0_1
 have HB := q0 (Below.refl w.heap.size w)
 have H : ((laws_szNet.f a0_0 l0_1 1048576).bind fun t100 => (if t100 < 0 then (some true) else ((laws_toNet.f k a0_0 l0_1).bind fun bt107 => ((spec_TreeRings.f k bt107.1 bt107.2).bind fun t108 => ((laws_toNet.f k a0_0 l0_1).bind fun bt109 => ((impl_TreeRings.f k bt109.1 bt109.2).bind fun t110 => ((laws_eqIntSS.f k t110 t108).bind fun t111 => (if t111 = true then ((laws_toNet.f k a0_0 l0_1).bind fun bt112 => ((laws_eqNet.f k bt109.1 bt109.2 bt112.1 bt112.2).bind fun t113 => (if t113 = true then ((laws_markNet.f k bt109.1 bt109.2 1).bind fun bt114 => (if bt114.1 < 0 then (laws_FnExactTreeRings.j0 k t108 t110 true a0_0 l0_1) else ((laws_eqIntSS.f k t110 t108).bind fun t115 => (laws_FnExactTreeRings.j0 k t108 t110 (!t115) a0_0 l0_1)))) else (some false)))) else (some false))))))))) = some r := h
 clear h
 replace H := Option.bind_eq_some_iff.mp H
 obtain ⟨t100, A20, H⟩ := H
 have A2 := Aside0.mk A20
 clear A20
 by_cases c3 : t100 < 0
 · rw [if_pos c3] at H
   have c3b0 : decide (t100 < 0) = true := decide_eq_true c3
   clear c3
   obtain rfl := Option.some.inj H
   go_enter Try.func11, Try.ntmps11
   go_wp2_with (first | ((with_reducible refine gate_dst (N := 1) rfl ?_); refine be 1 #[.int .i64 a0_0, .slice A0_1 l0_1.length c0_1] 42 ?_; intro gb116 hg w4 hbox hb; have BK116 := q0 (hbox); have GW116 := q0 ((bs HB.out hg : w.heap.size ≤ gb116)); have GE116 := q0 ((bs HB.out hg : w.heap.size ≤ gb116)); replace HB := q0 (below_step (qb HB.out) hb); clear hb hbox hg; have hcz5_0 : w4.cell? ⟨gb116, 0, none⟩ = some (.int .i64 a0_0) := (blk_cell BK116.out 0).trans rfl; have hcz5_1 : w4.cell? ⟨gb116, 1, none⟩ = some (.slice A0_1 l0_1.length c0_1) := (blk_cell BK116.out 1).trans rfl; have hfz5_0 := blk_frozen BK116.out 0; have hfz5_1 := blk_frozen BK116.out 1) | ((with_reducible refine gate_callee (f := 26) rfl ?_); refine gl 13 Try.func26 #[.agg #[.int .i64 a0_0, .slice A0_1 l0_1.length c0_1], .int .i64 1048576] ?_; (with_reducible refine (laws_szNet.calls a0_0 _ _ l0_1 1048576 t100 _ ?side1 ?side2 A2.out).mono ?_); (case side1 => exact qc (Kd.C_below HR0_1.out HB.out)); (case side2 => exact HC0_1.out); rintro e w6 ⟨rfl, hb⟩; refine ⟨_, rfl, ?_⟩; replace BK116 := q0 (kb BK116.out hb); replace HB := q0 (below_step (qb HB.out) hb); (try clear hb); (try clear hb2); (try clear hk); (try clear hi)))
   go_ret
   exact ⟨qe, qb HB.out⟩
 rw [if_neg c3] at H
 have c3b0 : decide (t100 < 0) = false := decide_eq_false c3
 clear c3
 replace H := Option.bind_eq_some_iff.mp H
 obtain ⟨⟨t107, t117⟩, A70, H⟩ := H
 have A7 := Aside0.mk A70
 clear A70
 replace H := Option.bind_eq_some_iff.mp H
 obtain ⟨t108, A80, H⟩ := H
 have A8 := Aside0.mk A80
 clear A80
 replace H := Option.bind_eq_some_iff.mp H
 obtain ⟨⟨t109, t118⟩, A90, H⟩ := H
 have A9 := Aside0.mk A90
 clear A90
 replace H := Option.bind_eq_some_iff.mp H
 obtain ⟨t110, A119, H⟩ := H
 have A10 := Aside0.mk A119
 clear A119
 replace H := Option.bind_eq_some_iff.mp H
 obtain ⟨t111, A120, H⟩ := H
 have A11 := Aside0.mk A120
 clear A120
 by_cases c12 : t111 = true
 rotate_left
 · replace c12 := Bool.eq_false_iff.mpr c12
   subst c12
   rw [if_neg nf] at H
   obtain rfl := Option.some.inj H
   go_enter Try.func11, Try.ntmps11
   go_wp2_with (first | ((with_reducible refine gate_dst (N := 1) rfl ?_); refine be 1 #[.int .i64 a0_0, .slice A0_1 l0_1.length c0_1] 42 ?_; intro gb116 hg w98 hbox hb; have BK116 := q0 (hbox); have GW116 := q0 ((bs HB.out hg : w.heap.size ≤ gb116)); have GE116 := q0 ((bs HB.out hg : w.heap.size ≤ gb116)); replace HB := q0 (below_step (qb HB.out) hb); clear hb hbox hg; have hcz99_0 : w98.cell? ⟨gb116, 0, none⟩ = some (.int .i64 a0_0) := (blk_cell BK116.out 0).trans rfl; have hcz99_1 : w98.cell? ⟨gb116, 1, none⟩ = some (.slice A0_1 l0_1.length c0_1) := (blk_cell BK116.out 1).trans rfl; have hfz99_0 := blk_frozen BK116.out 0; have hfz99_1 := blk_frozen BK116.out 1) | ((with_reducible refine gate_callee (f := 26) rfl ?_); refine gl 13 Try.func26 #[.agg #[.int .i64 a0_0, .slice A0_1 l0_1.length c0_1], .int .i64 1048576] ?_; (with_reducible refine (laws_szNet.calls a0_0 _ _ l0_1 1048576 t100 _ ?side1 ?side2 A2.out).mono ?_); (case side1 => exact qc (Kd.C_below HR0_1.out HB.out)); (case side2 => exact HC0_1.out); rintro e w119 ⟨rfl, hb⟩; refine ⟨_, rfl, ?_⟩; replace BK116 := q0 (kb BK116.out hb); replace HB := q0 (below_step (qb HB.out) hb); (try clear hb); (try clear hb2); (try clear hk); (try clear hi); have hcz147_0 : w119.cell? ⟨gb116, 0, none⟩ = some (.int .i64 a0_0) := (blk_cell BK116.out 0).trans rfl; have hcz147_1 : w119.cell? ⟨gb116, 1, none⟩ = some (.slice A0_1 l0_1.length c0_1) := (blk_cell BK116.out 1).trans rfl; have hfz147_0 := blk_frozen BK116.out 0; have hfz147_1 := blk_frozen BK116.out 1) | ((with_reducible refine gate_callee (f := 28) rfl ?_); refine gl 17 Try.func28 #[.agg #[.int .i64 a0_0, .slice A0_1 l0_1.length c0_1]] ?_; (with_reducible refine (laws_toNet.calls k a0_0 _ _ l0_1 t107 t117 _ ?side1 ?side2 A7.out).mono ?_); (case side1 => exact qc (Kd.C_below HR0_1.out HB.out)); (case side2 => exact HC0_1.out); rintro e w148 ⟨v126, rfl, ho0, hb⟩; refine ⟨_, rfl, ?_⟩; have HO127 := q0 (Kd.R_lower ho0 (below_size (qb HB.out))); replace BK116 := q0 (kb BK116.out hb); replace HB := q0 (below_step (qb HB.out) hb); (try clear hb); (try clear hb2); (try clear hk); (try clear hi); (try clear ho0); obtain ⟨Ao149, co149, eo149⟩ := Kd.R_slice HO127.out; subst eo149) | ((with_reducible refine gate_callee (f := 42) rfl ?_); refine gl 18 Try.func42 #[.agg #[.int .i64 t107, .slice Ao149 t117.length co149]] ?_; (with_reducible refine (spec_TreeRings.calls k t107 _ _ t117 t108 _ ?side1 ?side2 A8.out).mono ?_); (case side1 => exact qc (Kd.R_reads' HO127.out).2.2); (case side2 => exact (Kd.R_reads' HO127.out).2.1); rintro e w150 ⟨v128, rfl, ho0, hb⟩; refine ⟨_, rfl, ?_⟩; replace HO127 := q0 (Kd.R_below (qr HO127.out) hb); have HO129 := q0 (Kd.S_lower ho0 (below_size (qb HB.out))); replace BK116 := q0 (kb BK116.out hb); replace HB := q0 (below_step (qb HB.out) hb); (try clear hb); (try clear hb2); (try clear hk); (try clear hi); (try clear ho0); have hcz151_0 : w150.cell? ⟨gb116, 0, none⟩ = some (.int .i64 a0_0) := (blk_cell BK116.out 0).trans rfl; have hcz151_1 : w150.cell? ⟨gb116, 1, none⟩ = some (.slice A0_1 l0_1.length c0_1) := (blk_cell BK116.out 1).trans rfl; have hfz151_0 := blk_frozen BK116.out 0; have hfz151_1 := blk_frozen BK116.out 1) | ((with_reducible refine gate_callee (f := 28) rfl ?_); refine gl 20 Try.func28 #[.agg #[.int .i64 a0_0, .slice A0_1 l0_1.length c0_1]] ?_; (with_reducible refine (laws_toNet.calls k a0_0 _ _ l0_1 t109 t118 _ ?side1 ?side2 A9.out).mono ?_); (case side1 => exact qc (Kd.C_below HR0_1.out HB.out)); (case side2 => exact HC0_1.out); rintro e w152 ⟨v130, rfl, ho0, hb⟩; refine ⟨_, rfl, ?_⟩; replace HO129 := q0 (Kd.S_below (qv HO129.out) hb); have HO131 := q0 (Kd.R_lower (Kd.R_new' ho0 (Kd.R_lt (qr HO127.out))) (below_size (qb HB.out))); replace HO127 := q0 (Kd.R_elder' (qr HO127.out) (Kd.R_base ho0) hb); replace BK116 := q0 (kb BK116.out hb); replace HB := q0 (below_step (qb HB.out) hb); (try clear hb); (try clear hb2); (try clear hk); (try clear hi); (try clear ho0)) | ((with_reducible refine gate_dst (N := 5) rfl ?_); refine be 5 #[.int .i64 0, .slice none 0 0] 25 ?_; intro gb132 hg w153 hbox hb; replace HO127 := q0 (Kd.R_below (qr HO127.out) hb); replace HO129 := q0 (Kd.S_below (qv HO129.out) hb); replace HO131 := q0 (Kd.R_below (qr HO131.out) hb); have BK132 := q0 (hbox); have GW132 := q0 ((bs HB.out hg : w.heap.size ≤ gb132)); have GE132 := q0 ((bs HB.out hg : w.heap.size ≤ gb132)); replace HB := q0 (below_step (qb HB.out) hb); have NB116_132 := q0 ((bl BK116.out hg : gb116 ≠ gb132)); have NB132_116 := q0 ((bg BK116.out hg : gb132 ≠ gb116)); replace BK116 := q0 (kb BK116.out hb); clear hb hbox hg; have hnb154 := NB132_116.out; have hnc154 := NB116_132.out; have hcz155_0 : w153.cell? ⟨gb132, 0, none⟩ = some (.int .i64 0) := (blk_cell BK132.out 0).trans rfl; have hcz155_1 : w153.cell? ⟨gb132, 1, none⟩ = some (.slice none 0 0) := (blk_cell BK132.out 1).trans rfl; have hfz155_0 := blk_frozen BK132.out 0; have hfz155_1 := blk_frozen BK132.out 1; obtain ⟨Ao120, co120, eo120⟩ := Kd.R_slice HO131.out; subst eo120) | ((with_reducible refine gate_callee (f := 43) rfl ?_); refine gl 22 Try.func43 #[.agg #[.int .i64 t109, .slice Ao120 t118.length co120]] ?_; (with_reducible refine (impl_TreeRings.calls k t109 _ _ t118 t110 _ ?side1 ?side2 A10.out).mono ?_); (case side1 => refine (Kd.R_reads' (e := 32) (base := w.heap.size) (ok := fun k_ => (True ∧ some k_ ≠ (.slice Ao149 t117.length co149 : Value).ownBlock)) (n := t118.length) (c := co120) ?_).2.2; exact (by (with_reducible repeat (first | apply Kd.R_alloc | apply Kd.R_drewN | apply Kd.R_drew)); exact (rf2 HO131.out BK132.out (fun _ h_ => h_.1)))); (case side2 => exact (Kd.R_reads' HO131.out).2.1); rintro e w156 ⟨v133, rfl, ho0, hb⟩; refine ⟨_, rfl, ?_⟩; replace HO127 := q0 (Kd.R_below (by (with_reducible repeat (first | apply Kd.R_alloc | apply Kd.R_drewN | apply Kd.R_drew)); exact (rf2 HO127.out BK132.out (fun _ h_ => h_.1))) hb); replace HO131 := q0 (Kd.R_below (by (with_reducible repeat (first | apply Kd.R_alloc | apply Kd.R_drewN | apply Kd.R_drew)); exact (rf2 HO131.out BK132.out (fun _ h_ => h_.1))) hb); have HO134 := q0 (Kd.S_lower (Kd.S_new' ho0 (Kd.S_lt (by (with_reducible repeat (first | apply Kd.S_alloc | apply Kd.S_drewN | apply Kd.S_drew)); exact (Kd.S_mono (Kd.S_far (p := ⟨gb132, 1, none⟩) (Kd.S_far (p := ⟨gb132, 0, none⟩) (Kd.S_types HO129.out BK132.out (by decide)) (fun _ hk => hk.2) (.int .i64 t109)) (fun _ hk => hk.2) (.slice Ao120 t118.length co120)) (fun _ h_ => h_.1))))) (below_size (qb HB.out))); replace HO129 := q0 (Kd.S_elder' (by (with_reducible repeat (first | apply Kd.S_alloc | apply Kd.S_drewN | apply Kd.S_drew)); exact (Kd.S_mono (Kd.S_far (p := ⟨gb132, 1, none⟩) (Kd.S_far (p := ⟨gb132, 0, none⟩) (Kd.S_types HO129.out BK132.out (by decide)) (fun _ hk => hk.2) (.int .i64 t109)) (fun _ hk => hk.2) (.slice Ao120 t118.length co120)) (fun _ h_ => h_.1))) (Kd.S_base ho0) hb); replace BK116 := q0 (kf BK116.out hb); replace BK132 := q0 (blk_below (g := gb132) (o := .cells #[.int .i64 t109, .slice Ao120 t118.length co120] 25 (0, 0)) (by (with_reducible repeat (first | refine blk_drewN ?_ _ | refine blk_drew ?_ | refine blk_alloc ?_ _)); refine blk_put (cs := #[.int .i64 t109, .slice none 0 0]) ?_ 1 _ rfl; (with_reducible repeat (first | refine blk_drewN ?_ _ | refine blk_drew ?_ | refine blk_alloc ?_ _)); refine blk_put (cs := #[.int .i64 0, .slice none 0 0]) ?_ 0 _ rfl; (with_reducible repeat (first | refine blk_drewN ?_ _ | refine blk_drew ?_ | refine blk_alloc ?_ _)); exact BK132.out) hb); replace HB := q0 (below_step (qb HB.out) hb); (try clear hb); (try clear hb2); (try clear hk); (try clear hi); (try clear ho0); obtain ⟨Ao157, co157, eo157⟩ := Kd.S_slice HO134.out; subst eo157; obtain ⟨Ao158, co158, eo158⟩ := Kd.S_slice HO129.out; subst eo158) | ((with_reducible refine gate_callee (f := 44) rfl ?_); refine gl 25 Try.func44 #[.slice Ao157 t110.length co157, .slice Ao158 t108.length co158] ?_; (with_reducible refine (laws_eqIntSS.calls k _ _ t110 _ _ t108 false _ ?side1 ?side2 ?side3 ?side4 A11.out).mono ?_); (case side1 => exact qc (Kd.S_reads' HO134.out).2.2); (case side2 => exact (Kd.S_reads' HO134.out).2.1); (case side3 => exact qc (Kd.S_reads' HO129.out).2.2); (case side4 => exact (Kd.S_reads' HO129.out).2.1); rintro e w' ⟨rfl, ⟨nd, rfl⟩⟩; refine ⟨_, rfl, ?_⟩))
   go_ret
   exact ⟨qe, qb HB.out⟩
 subst c12
 rw [if_pos rfl] at H
 replace H := Option.bind_eq_some_iff.mp H
 obtain ⟨⟨t112, t121⟩, A122, H⟩ := H
 have A13 := Aside0.mk A122
 clear A122
 replace H := Option.bind_eq_some_iff.mp H
 obtain ⟨t113, A123, H⟩ := H
 have A14 := Aside0.mk A123
 clear A123
 by_cases c15 : t113 = true
 rotate_left
 · replace c15 := Bool.eq_false_iff.mpr c15
   subst c15
   rw [if_neg nf] at H
   obtain rfl := Option.some.inj H
   go_enter Try.func11, Try.ntmps11
   try go_wp2_with (first | ((with_reducible refine gate_dst (N := 1) rfl ?_); refine be 1 #[.int .i64 a0_0, .slice A0_1 l0_1.length c0_1] 42 ?_; intro gb116 hg w78 hbox hb; have BK116 := q0 (hbox); have GW116 := q0 ((bs HB.out hg : w.heap.size ≤ gb116)); have GE116 := q0 ((bs HB.out hg : w.heap.size ≤ gb116)); replace HB := q0 (below_step (qb HB.out) hb); clear hb hbox hg; have hcz79_0 : w78.cell? ⟨gb116, 0, none⟩ = some (.int .i64 a0_0) := (blk_cell BK116.out 0).trans rfl; have hcz79_1 : w78.cell? ⟨gb116, 1, none⟩ = some (.slice A0_1 l0_1.length c0_1) := (blk_cell BK116.out 1).trans rfl; have hfz79_0 := blk_frozen BK116.out 0; have hfz79_1 := blk_frozen BK116.out 1) | ((with_reducible refine gate_callee (f := 26) rfl ?_); refine gl 13 Try.func26 #[.agg #[.int .i64 a0_0, .slice A0_1 l0_1.length c0_1], .int .i64 1048576] ?_; (with_reducible refine (laws_szNet.calls a0_0 _ _ l0_1 1048576 t100 _ ?side1 ?side2 A2.out).mono ?_); (case side1 => exact qc (Kd.C_below HR0_1.out HB.out)); (case side2 => exact HC0_1.out); rintro e w80 ⟨rfl, hb⟩; refine ⟨_, rfl, ?_⟩; replace BK116 := q0 (kb BK116.out hb); replace HB := q0 (below_step (qb HB.out) hb); (try clear hb); (try clear hb2); (try clear hk); (try clear hi); have hcz81_0 : w80.cell? ⟨gb116, 0, none⟩ = some (.int .i64 a0_0) := (blk_cell BK116.out 0).trans rfl; have hcz81_1 : w80.cell? ⟨gb116, 1, none⟩ = some (.slice A0_1 l0_1.length c0_1) := (blk_cell BK116.out 1).trans rfl; have hfz81_0 := blk_frozen BK116.out 0; have hfz81_1 := blk_frozen BK116.out 1) | ((with_reducible refine gate_callee (f := 28) rfl ?_); refine gl 17 Try.func28 #[.agg #[.int .i64 a0_0, .slice A0_1 l0_1.length c0_1]] ?_; (with_reducible refine (laws_toNet.calls k a0_0 _ _ l0_1 t107 t117 _ ?side1 ?side2 A7.out).mono ?_); (case side1 => exact qc (Kd.C_below HR0_1.out HB.out)); (case side2 => exact HC0_1.out); rintro e w82 ⟨v126, rfl, ho0, hb⟩; refine ⟨_, rfl, ?_⟩; have HO127 := q0 (Kd.R_lower ho0 (below_size (qb HB.out))); replace BK116 := q0 (kb BK116.out hb); replace HB := q0 (below_step (qb HB.out) hb); (try clear hb); (try clear hb2); (try clear hk); (try clear hi); (try clear ho0); obtain ⟨Ao83, co83, eo83⟩ := Kd.R_slice HO127.out; subst eo83) | ((with_reducible refine gate_callee (f := 42) rfl ?_); refine gl 18 Try.func42 #[.agg #[.int .i64 t107, .slice Ao83 t117.length co83]] ?_; (with_reducible refine (spec_TreeRings.calls k t107 _ _ t117 t108 _ ?side1 ?side2 A8.out).mono ?_); (case side1 => exact qc (Kd.R_reads' HO127.out).2.2); (case side2 => exact (Kd.R_reads' HO127.out).2.1); rintro e w84 ⟨v128, rfl, ho0, hb⟩; refine ⟨_, rfl, ?_⟩; replace HO127 := q0 (Kd.R_below (qr HO127.out) hb); have HO129 := q0 (Kd.S_lower ho0 (below_size (qb HB.out))); replace BK116 := q0 (kb BK116.out hb); replace HB := q0 (below_step (qb HB.out) hb); (try clear hb); (try clear hb2); (try clear hk); (try clear hi); (try clear ho0); have hcz85_0 : w84.cell? ⟨gb116, 0, none⟩ = some (.int .i64 a0_0) := (blk_cell BK116.out 0).trans rfl; have hcz85_1 : w84.cell? ⟨gb116, 1, none⟩ = some (.slice A0_1 l0_1.length c0_1) := (blk_cell BK116.out 1).trans rfl; have hfz85_0 := blk_frozen BK116.out 0; have hfz85_1 := blk_frozen BK116.out 1) | ((with_reducible refine gate_callee (f := 28) rfl ?_); refine gl 20 Try.func28 #[.agg #[.int .i64 a0_0, .slice A0_1 l0_1.length c0_1]] ?_; (with_reducible refine (laws_toNet.calls k a0_0 _ _ l0_1 t109 t118 _ ?side1 ?side2 A9.out).mono ?_); (case side1 => exact qc (Kd.C_below HR0_1.out HB.out)); (case side2 => exact HC0_1.out); rintro e w86 ⟨v130, rfl, ho0, hb⟩; refine ⟨_, rfl, ?_⟩; replace HO129 := q0 (Kd.S_below (qv HO129.out) hb); have HO131 := q0 (Kd.R_lower (Kd.R_new' ho0 (Kd.R_lt (qr HO127.out))) (below_size (qb HB.out))); replace HO127 := q0 (Kd.R_elder' (qr HO127.out) (Kd.R_base ho0) hb); replace BK116 := q0 (kb BK116.out hb); replace HB := q0 (below_step (qb HB.out) hb); (try clear hb); (try clear hb2); (try clear hk); (try clear hi); (try clear ho0)) | ((with_reducible refine gate_dst (N := 5) rfl ?_); refine be 5 #[.int .i64 0, .slice none 0 0] 25 ?_; intro gb132 hg w87 hbox hb; replace HO127 := q0 (Kd.R_below (qr HO127.out) hb); replace HO129 := q0 (Kd.S_below (qv HO129.out) hb); replace HO131 := q0 (Kd.R_below (qr HO131.out) hb); have BK132 := q0 (hbox); have GW132 := q0 ((bs HB.out hg : w.heap.size ≤ gb132)); have GE132 := q0 ((bs HB.out hg : w.heap.size ≤ gb132)); replace HB := q0 (below_step (qb HB.out) hb); have NB116_132 := q0 ((bl BK116.out hg : gb116 ≠ gb132)); have NB132_116 := q0 ((bg BK116.out hg : gb132 ≠ gb116)); replace BK116 := q0 (kb BK116.out hb); clear hb hbox hg; have hnb88 := NB132_116.out; have hnc88 := NB116_132.out; have hcz89_0 : w87.cell? ⟨gb132, 0, none⟩ = some (.int .i64 0) := (blk_cell BK132.out 0).trans rfl; have hcz89_1 : w87.cell? ⟨gb132, 1, none⟩ = some (.slice none 0 0) := (blk_cell BK132.out 1).trans rfl; have hfz89_0 := blk_frozen BK132.out 0; have hfz89_1 := blk_frozen BK132.out 1; obtain ⟨Ao90, co90, eo90⟩ := Kd.R_slice HO131.out; subst eo90) | ((with_reducible refine gate_callee (f := 43) rfl ?_); refine gl 22 Try.func43 #[.agg #[.int .i64 t109, .slice Ao90 t118.length co90]] ?_; (with_reducible refine (impl_TreeRings.calls k t109 _ _ t118 t110 _ ?side1 ?side2 A10.out).mono ?_); (case side1 => refine (Kd.R_reads' (e := 32) (base := w.heap.size) (ok := fun k_ => (True ∧ some k_ ≠ (.slice Ao83 t117.length co83 : Value).ownBlock)) (n := t118.length) (c := co90) ?_).2.2; exact (by (with_reducible repeat (first | apply Kd.R_alloc | apply Kd.R_drewN | apply Kd.R_drew)); exact (rf2 HO131.out BK132.out (fun _ h_ => h_.1)))); (case side2 => exact (Kd.R_reads' HO131.out).2.1); rintro e w91 ⟨v133, rfl, ho0, hb⟩; refine ⟨_, rfl, ?_⟩; replace HO127 := q0 (Kd.R_below (by (with_reducible repeat (first | apply Kd.R_alloc | apply Kd.R_drewN | apply Kd.R_drew)); exact (rf2 HO127.out BK132.out (fun _ h_ => h_.1))) hb); replace HO131 := q0 (Kd.R_below (by (with_reducible repeat (first | apply Kd.R_alloc | apply Kd.R_drewN | apply Kd.R_drew)); exact (rf2 HO131.out BK132.out (fun _ h_ => h_.1))) hb); have HO134 := q0 (Kd.S_lower (Kd.S_new' ho0 (Kd.S_lt (by (with_reducible repeat (first | apply Kd.S_alloc | apply Kd.S_drewN | apply Kd.S_drew)); exact (Kd.S_mono (Kd.S_far (p := ⟨gb132, 1, none⟩) (Kd.S_far (p := ⟨gb132, 0, none⟩) (Kd.S_types HO129.out BK132.out (by decide)) (fun _ hk => hk.2) (.int .i64 t109)) (fun _ hk => hk.2) (.slice Ao90 t118.length co90)) (fun _ h_ => h_.1))))) (below_size (qb HB.out))); replace HO129 := q0 (Kd.S_elder' (by (with_reducible repeat (first | apply Kd.S_alloc | apply Kd.S_drewN | apply Kd.S_drew)); exact (Kd.S_mono (Kd.S_far (p := ⟨gb132, 1, none⟩) (Kd.S_far (p := ⟨gb132, 0, none⟩) (Kd.S_types HO129.out BK132.out (by decide)) (fun _ hk => hk.2) (.int .i64 t109)) (fun _ hk => hk.2) (.slice Ao90 t118.length co90)) (fun _ h_ => h_.1))) (Kd.S_base ho0) hb); replace BK116 := q0 (kf BK116.out hb); replace BK132 := q0 (blk_below (g := gb132) (o := .cells #[.int .i64 t109, .slice Ao90 t118.length co90] 25 (0, 0)) (by (with_reducible repeat (first | refine blk_drewN ?_ _ | refine blk_drew ?_ | refine blk_alloc ?_ _)); refine blk_put (cs := #[.int .i64 t109, .slice none 0 0]) ?_ 1 _ rfl; (with_reducible repeat (first | refine blk_drewN ?_ _ | refine blk_drew ?_ | refine blk_alloc ?_ _)); refine blk_put (cs := #[.int .i64 0, .slice none 0 0]) ?_ 0 _ rfl; (with_reducible repeat (first | refine blk_drewN ?_ _ | refine blk_drew ?_ | refine blk_alloc ?_ _)); exact BK132.out) hb); replace HB := q0 (below_step (qb HB.out) hb); (try clear hb); (try clear hb2); (try clear hk); (try clear hi); (try clear ho0); obtain ⟨Ao92, co92, eo92⟩ := Kd.S_slice HO134.out; subst eo92; obtain ⟨Ao93, co93, eo93⟩ := Kd.S_slice HO129.out; subst eo93) | ((with_reducible refine gate_callee (f := 44) rfl ?_); refine gl 25 Try.func44 #[.slice Ao92 t110.length co92, .slice Ao93 t108.length co93] ?_; (with_reducible refine (laws_eqIntSS.calls k _ _ t110 _ _ t108 true _ ?side1 ?side2 ?side3 ?side4 A11.out).mono ?_); (case side1 => exact qc (Kd.S_reads' HO134.out).2.2); (case side2 => exact (Kd.S_reads' HO134.out).2.1); (case side3 => exact qc (Kd.S_reads' HO129.out).2.2); (case side4 => exact (Kd.S_reads' HO129.out).2.1); rintro e w' ⟨rfl, ⟨nd, rfl⟩⟩; refine ⟨_, rfl, ?_⟩))
   (try (rw [drewN_self w91]; generalize hq_ : World.drewN w91 _ = w91; have n0_ : Aside0 (Kd.R kTie 32 w91 w.heap.size (fun k_ => some k_ ≠ (.slice Ao90 t118.length co90 : Value).ownBlock) (.slice Ao83 t117.length co83) t117) := ⟨by rw [← hq_]; exact (by (with_reducible repeat (first | apply Kd.R_alloc | apply Kd.R_drewN | apply Kd.R_drew)); exact Kd.R_mono HO127.out (fun _ hk => hk.2))⟩; have n1_ : Aside0 (Kd.S (Kd.slice 3 (Kd.int .i64)) 60 w91 w.heap.size (fun k_ => some k_ ≠ (.slice Ao92 t110.length co92 : Value).ownBlock) (.slice Ao93 t108.length co93) t108) := ⟨by rw [← hq_]; exact (by (with_reducible repeat (first | apply Kd.S_alloc | apply Kd.S_drewN | apply Kd.S_drew)); exact Kd.S_mono HO129.out (fun _ hk => hk.2))⟩; have n2_ : Aside0 (Kd.R kTie 32 w91 w.heap.size (fun k_ => some k_ ≠ (.slice Ao83 t117.length co83 : Value).ownBlock) (.slice Ao90 t118.length co90) t118) := ⟨by rw [← hq_]; exact (by (with_reducible repeat (first | apply Kd.R_alloc | apply Kd.R_drewN | apply Kd.R_drew)); exact Kd.R_mono HO131.out (fun _ hk => hk.2))⟩; have n3_ : Aside0 (Kd.S (Kd.slice 3 (Kd.int .i64)) 60 w91 w.heap.size (fun k_ => some k_ ≠ (.slice Ao93 t108.length co93 : Value).ownBlock) (.slice Ao92 t110.length co92) t110) := ⟨by rw [← hq_]; exact (by (with_reducible repeat (first | apply Kd.S_alloc | apply Kd.S_drewN | apply Kd.S_drew)); exact Kd.S_mono HO134.out (fun _ hk => hk.2))⟩; have n4_ : Aside0 (w91.heap[gb116]? = some (.cells #[.int .i64 a0_0, .slice A0_1 l0_1.length c0_1] 42 (0, 0))) := ⟨by rw [← hq_]; exact (qk BK116.out)⟩; have n5_ : Aside0 (w91.heap[gb132]? = some (.cells #[.int .i64 t109, .slice Ao90 t118.length co90] 25 (0, 0))) := ⟨by rw [← hq_]; exact (qk BK132.out)⟩; have n6_ : Aside0 (Below w.heap.size w w91) := ⟨by rw [← hq_]; exact (qb HB.out)⟩; clear HO127 HO129 HO131 HO134 BK116 BK132 HB hq_; have HO127 := n0_; have HO129 := n1_; have HO131 := n2_; have HO134 := n3_; have BK116 := n4_; have BK132 := n5_; have HB := n6_; clear n0_ n1_ n2_ n3_ n4_ n5_ n6_))
   replace HO127 := q0 (Kd.R_drew HO127.out)
   replace HO129 := q0 (Kd.S_drew HO129.out)
   replace HO131 := q0 (Kd.R_drew HO131.out)
   replace HO134 := q0 (Kd.S_drew HO134.out)
   replace BK116 := q0 (blk_drew BK116.out)
   replace BK132 := q0 (blk_drew BK132.out)
   replace HB := q0 (below_drew1 HB.out)
   refine start_ (n := 5) (S := fun w' => w'.cell? ⟨gb132, 0, none⟩ = some (.int .i64 t109) ∧ w'.cell? ⟨gb132, 1, none⟩ = some (.slice Ao90 t118.length co90) ∧ w'.cell? ⟨gb116, 0, none⟩ = some (.int .i64 a0_0) ∧ w'.cell? ⟨gb116, 1, none⟩ = some (.slice A0_1 l0_1.length c0_1)) (ds := []) (ba 5 0) (by kernel_rfl) rfl (by kernel_rfl) ⟨(blk_cell BK132.out 0).trans rfl, (blk_cell BK132.out 1).trans rfl, (blk_cell BK116.out 0).trans rfl, (blk_cell BK116.out 1).trans rfl⟩ (fun hHeld => ?_)
   generalize w91.drew = w94 at HO127 HO129 HO131 HO134 BK116 BK132 HB hHeld ⊢
   refine tw 0 (some 27) (ba 5 1) hHeld ?_
   refine tw 1 (some 28) (ba 5 3) hHeld ?_
   refine one_ (i := 2) (N := some 29) (ba 5 7) rfl rfl (by kernel_rfl) (by decide) (fun K hK => ?_)
   refine goes_ Try.func28 (by kernel_rfl) rfl #[.agg #[.int .i64 a0_0, .slice A0_1 l0_1.length c0_1]] (by rfl) rfl rfl qm ?_
   with_reducible refine (laws_toNet.calls k a0_0 _ _ l0_1 t112 t121 _ ?side1 ?side2 A13.out).mono ?_
   (case side1 => exact qc (Kd.C_below HR0_1.out HB.out))
   (case side2 => exact HC0_1.out)
   rintro e w95 ⟨v135, rfl, ho0, hb⟩
   refine ⟨_, rfl, ?_⟩
   replace HO129 := q0 (Kd.S_below (qv HO129.out) hb)
   replace HO134 := q0 (Kd.S_below (qv HO134.out) hb)
   have HO136 := q0 (Kd.R_lower (Kd.R_new' (Kd.R_new' ho0 (Kd.R_lt (qr HO127.out))) (Kd.R_lt (qr HO131.out))) (below_size (qb HB.out)))
   replace HO127 := q0 (Kd.R_elder' (qr HO127.out) (Kd.R_base ho0) hb)
   replace HO131 := q0 (Kd.R_elder' (qr HO131.out) (Kd.R_base ho0) hb)
   replace BK116 := q0 (kb BK116.out hb)
   replace BK132 := q0 (kb BK132.out hb)
   replace HB := q0 (below_step (qb HB.out) hb)
   (try clear hb)
   (try clear hb2)
   (try clear hk)
   (try clear hi)
   (try clear ho0)
   obtain ⟨Ao96, co96, eo96⟩ := Kd.R_slice HO136.out
   (first | subst eo96 | (injection eo96 with f1_ f2_ f3_; have f4_ := f1_.symm; have f5_ := f3_.symm; clear f1_ f2_ f3_; subst f4_; subst f5_))
   refine hK.out _ _ ⟨(blk_cell BK132.out 0).trans rfl, (blk_cell BK132.out 1).trans rfl, (blk_cell BK116.out 0).trans rfl, (blk_cell BK116.out 1).trans rfl⟩ (fun hHeld => ?_)
   clear hK K
   refine nu 29 ?_
   refine one_ (i := 3) (N := some 30) (ba 5 15) rfl rfl (by kernel_rfl) (by decide) (fun K hK => ?_)
   refine goes_ Try.func30 (by kernel_rfl) rfl #[.agg #[.int .i64 t109, .slice Ao90 t118.length co90], .agg #[.int .i64 t112, .slice Ao96 t121.length co96]] (by rfl) rfl rfl qm ?_
   with_reducible refine (laws_eqNet.calls k t109 _ _ t118 t112 _ _ t121 false _ ?side1 ?side2 ?side3 ?side4 A14.out).mono ?_
   (case side1 => exact qc (Kd.R_reads' HO131.out).2.2)
   (case side2 => exact (Kd.R_reads' HO131.out).2.1)
   (case side3 => exact qc (Kd.R_reads' HO136.out).2.2)
   (case side4 => exact (Kd.R_reads' HO136.out).2.1)
   rintro e w97 ⟨rfl, hb⟩
   refine ⟨_, rfl, ?_⟩
   replace HO127 := q0 (Kd.R_below (qr HO127.out) hb)
   replace HO129 := q0 (Kd.S_below (qv HO129.out) hb)
   replace HO131 := q0 (Kd.R_below (qr HO131.out) hb)
   replace HO134 := q0 (Kd.S_below (qv HO134.out) hb)
   replace HO136 := q0 (Kd.R_below (qr HO136.out) hb)
   replace BK116 := q0 (kb BK116.out hb)
   replace BK132 := q0 (kb BK132.out hb)
   replace HB := q0 (below_step (qb HB.out) hb)
   (try clear hb)
   (try clear hb2)
   (try clear hk)
   (try clear hi)
   refine hK.out _ _ ⟨(blk_cell BK132.out 0).trans rfl, (blk_cell BK132.out 1).trans rfl, (blk_cell BK116.out 0).trans rfl, (blk_cell BK116.out 1).trans rfl⟩ (fun hHeld => ?_)
   clear hK K
   refine nu 30 ?_
   refine pw 4 (some 31) (ba 5 31) ?_
   refine done_ (by kernel_rfl) ?_
   try go_wp2
   go_ret
   exact ⟨qe, qb HB.out⟩
 subst c15
 rw [if_pos rfl] at H
 replace H := Option.bind_eq_some_iff.mp H
 obtain ⟨⟨t114, t124⟩, A125, H⟩ := H
 have A16 := Aside0.mk A125
 clear A125
 have HC17 := Aside0.mk H
 clear H
 go_enter Try.func11, Try.ntmps11
 try go_wp2_with (first | ((with_reducible refine gate_dst (N := 1) rfl ?_); refine be 1 #[.int .i64 a0_0, .slice A0_1 l0_1.length c0_1] 42 ?_; intro gb116 hg w18 hbox hb; have BK116 := q0 (hbox); have GW116 := q0 ((bs HB.out hg : w.heap.size ≤ gb116)); have GE116 := q0 ((bs HB.out hg : w.heap.size ≤ gb116)); replace HB := q0 (below_step (qb HB.out) hb); clear hb hbox hg; have hcz19_0 : w18.cell? ⟨gb116, 0, none⟩ = some (.int .i64 a0_0) := (blk_cell BK116.out 0).trans rfl; have hcz19_1 : w18.cell? ⟨gb116, 1, none⟩ = some (.slice A0_1 l0_1.length c0_1) := (blk_cell BK116.out 1).trans rfl; have hfz19_0 := blk_frozen BK116.out 0; have hfz19_1 := blk_frozen BK116.out 1) | ((with_reducible refine gate_callee (f := 26) rfl ?_); refine gl 13 Try.func26 #[.agg #[.int .i64 a0_0, .slice A0_1 l0_1.length c0_1], .int .i64 1048576] ?_; (with_reducible refine (laws_szNet.calls a0_0 _ _ l0_1 1048576 t100 _ ?side1 ?side2 A2.out).mono ?_); (case side1 => exact qc (Kd.C_below HR0_1.out HB.out)); (case side2 => exact HC0_1.out); rintro e w20 ⟨rfl, hb⟩; refine ⟨_, rfl, ?_⟩; replace BK116 := q0 (kb BK116.out hb); replace HB := q0 (below_step (qb HB.out) hb); (try clear hb); (try clear hb2); (try clear hk); (try clear hi); have hcz21_0 : w20.cell? ⟨gb116, 0, none⟩ = some (.int .i64 a0_0) := (blk_cell BK116.out 0).trans rfl; have hcz21_1 : w20.cell? ⟨gb116, 1, none⟩ = some (.slice A0_1 l0_1.length c0_1) := (blk_cell BK116.out 1).trans rfl; have hfz21_0 := blk_frozen BK116.out 0; have hfz21_1 := blk_frozen BK116.out 1) | ((with_reducible refine gate_callee (f := 28) rfl ?_); refine gl 17 Try.func28 #[.agg #[.int .i64 a0_0, .slice A0_1 l0_1.length c0_1]] ?_; (with_reducible refine (laws_toNet.calls k a0_0 _ _ l0_1 t107 t117 _ ?side1 ?side2 A7.out).mono ?_); (case side1 => exact qc (Kd.C_below HR0_1.out HB.out)); (case side2 => exact HC0_1.out); rintro e w22 ⟨v126, rfl, ho0, hb⟩; refine ⟨_, rfl, ?_⟩; have HO127 := q0 (Kd.R_lower ho0 (below_size (qb HB.out))); replace BK116 := q0 (kb BK116.out hb); replace HB := q0 (below_step (qb HB.out) hb); (try clear hb); (try clear hb2); (try clear hk); (try clear hi); (try clear ho0); obtain ⟨Ao23, co23, eo23⟩ := Kd.R_slice HO127.out; subst eo23) | ((with_reducible refine gate_callee (f := 42) rfl ?_); refine gl 18 Try.func42 #[.agg #[.int .i64 t107, .slice Ao23 t117.length co23]] ?_; (with_reducible refine (spec_TreeRings.calls k t107 _ _ t117 t108 _ ?side1 ?side2 A8.out).mono ?_); (case side1 => exact qc (Kd.R_reads' HO127.out).2.2); (case side2 => exact (Kd.R_reads' HO127.out).2.1); rintro e w24 ⟨v128, rfl, ho0, hb⟩; refine ⟨_, rfl, ?_⟩; replace HO127 := q0 (Kd.R_below (qr HO127.out) hb); have HO129 := q0 (Kd.S_lower ho0 (below_size (qb HB.out))); replace BK116 := q0 (kb BK116.out hb); replace HB := q0 (below_step (qb HB.out) hb); (try clear hb); (try clear hb2); (try clear hk); (try clear hi); (try clear ho0); have hcz25_0 : w24.cell? ⟨gb116, 0, none⟩ = some (.int .i64 a0_0) := (blk_cell BK116.out 0).trans rfl; have hcz25_1 : w24.cell? ⟨gb116, 1, none⟩ = some (.slice A0_1 l0_1.length c0_1) := (blk_cell BK116.out 1).trans rfl; have hfz25_0 := blk_frozen BK116.out 0; have hfz25_1 := blk_frozen BK116.out 1) | ((with_reducible refine gate_callee (f := 28) rfl ?_); refine gl 20 Try.func28 #[.agg #[.int .i64 a0_0, .slice A0_1 l0_1.length c0_1]] ?_; (with_reducible refine (laws_toNet.calls k a0_0 _ _ l0_1 t109 t118 _ ?side1 ?side2 A9.out).mono ?_); (case side1 => exact qc (Kd.C_below HR0_1.out HB.out)); (case side2 => exact HC0_1.out); rintro e w26 ⟨v130, rfl, ho0, hb⟩; refine ⟨_, rfl, ?_⟩; replace HO129 := q0 (Kd.S_below (qv HO129.out) hb); have HO131 := q0 (Kd.R_lower (Kd.R_new' ho0 (Kd.R_lt (qr HO127.out))) (below_size (qb HB.out))); replace HO127 := q0 (Kd.R_elder' (qr HO127.out) (Kd.R_base ho0) hb); replace BK116 := q0 (kb BK116.out hb); replace HB := q0 (below_step (qb HB.out) hb); (try clear hb); (try clear hb2); (try clear hk); (try clear hi); (try clear ho0)) | ((with_reducible refine gate_dst (N := 5) rfl ?_); refine be 5 #[.int .i64 0, .slice none 0 0] 25 ?_; intro gb132 hg w27 hbox hb; replace HO127 := q0 (Kd.R_below (qr HO127.out) hb); replace HO129 := q0 (Kd.S_below (qv HO129.out) hb); replace HO131 := q0 (Kd.R_below (qr HO131.out) hb); have BK132 := q0 (hbox); have GW132 := q0 ((bs HB.out hg : w.heap.size ≤ gb132)); have GE132 := q0 ((bs HB.out hg : w.heap.size ≤ gb132)); replace HB := q0 (below_step (qb HB.out) hb); have NB116_132 := q0 ((bl BK116.out hg : gb116 ≠ gb132)); have NB132_116 := q0 ((bg BK116.out hg : gb132 ≠ gb116)); replace BK116 := q0 (kb BK116.out hb); clear hb hbox hg; have hnb28 := NB132_116.out; have hnc28 := NB116_132.out; have hcz29_0 : w27.cell? ⟨gb132, 0, none⟩ = some (.int .i64 0) := (blk_cell BK132.out 0).trans rfl; have hcz29_1 : w27.cell? ⟨gb132, 1, none⟩ = some (.slice none 0 0) := (blk_cell BK132.out 1).trans rfl; have hfz29_0 := blk_frozen BK132.out 0; have hfz29_1 := blk_frozen BK132.out 1; obtain ⟨Ao30, co30, eo30⟩ := Kd.R_slice HO131.out; subst eo30) | ((with_reducible refine gate_callee (f := 43) rfl ?_); refine gl 22 Try.func43 #[.agg #[.int .i64 t109, .slice Ao30 t118.length co30]] ?_; (with_reducible refine (impl_TreeRings.calls k t109 _ _ t118 t110 _ ?side1 ?side2 A10.out).mono ?_); (case side1 => refine (Kd.R_reads' (e := 32) (base := w.heap.size) (ok := fun k_ => (True ∧ some k_ ≠ (.slice Ao23 t117.length co23 : Value).ownBlock)) (n := t118.length) (c := co30) ?_).2.2; exact (by (with_reducible repeat (first | apply Kd.R_alloc | apply Kd.R_drewN | apply Kd.R_drew)); exact (rf2 HO131.out BK132.out (fun _ h_ => h_.1)))); (case side2 => exact (Kd.R_reads' HO131.out).2.1); rintro e w31 ⟨v133, rfl, ho0, hb⟩; refine ⟨_, rfl, ?_⟩; replace HO127 := q0 (Kd.R_below (by (with_reducible repeat (first | apply Kd.R_alloc | apply Kd.R_drewN | apply Kd.R_drew)); exact (rf2 HO127.out BK132.out (fun _ h_ => h_.1))) hb); replace HO131 := q0 (Kd.R_below (by (with_reducible repeat (first | apply Kd.R_alloc | apply Kd.R_drewN | apply Kd.R_drew)); exact (rf2 HO131.out BK132.out (fun _ h_ => h_.1))) hb); obtain ⟨M_, hs8_, hs10_⟩ := S_split (h10 := ho0) (h8 := (by (with_reducible repeat (first | apply Kd.S_alloc | apply Kd.S_drewN | apply Kd.S_drew)); exact (Kd.S_mono (Kd.S_far (p := ⟨gb132, 1, none⟩) (Kd.S_far (p := ⟨gb132, 0, none⟩) (Kd.S_types HO129.out BK132.out (by decide)) (fun _ hk => hk.2) (.int .i64 t109)) (fun _ hk => hk.2) (.slice Ao30 t118.length co30)) (fun _ h_ => h_.1)))); have HO134 := q0 (Kd.S_lower (Kd.S_new' hs10_ (Kd.S_lt hs8_)) (below_size (qb HB.out))); replace HO129 := q0 (Kd.S_elder' hs8_ (Kd.S_base ho0) hb); clear hs8_ hs10_; replace BK116 := q0 (kf BK116.out hb); replace BK132 := q0 (blk_below (g := gb132) (o := .cells #[.int .i64 t109, .slice Ao30 t118.length co30] 25 (0, 0)) (by (with_reducible repeat (first | refine blk_drewN ?_ _ | refine blk_drew ?_ | refine blk_alloc ?_ _)); refine blk_put (cs := #[.int .i64 t109, .slice none 0 0]) ?_ 1 _ rfl; (with_reducible repeat (first | refine blk_drewN ?_ _ | refine blk_drew ?_ | refine blk_alloc ?_ _)); refine blk_put (cs := #[.int .i64 0, .slice none 0 0]) ?_ 0 _ rfl; (with_reducible repeat (first | refine blk_drewN ?_ _ | refine blk_drew ?_ | refine blk_alloc ?_ _)); exact BK132.out) hb); replace HB := q0 (below_step (qb HB.out) hb); (try clear hb); (try clear hb2); (try clear hk); (try clear hi); (try clear ho0); obtain ⟨Ao32, co32, eo32⟩ := Kd.S_slice HO134.out; subst eo32; obtain ⟨Ao33, co33, eo33⟩ := Kd.S_slice HO129.out; subst eo33) | ((with_reducible refine gate_callee (f := 44) rfl ?_); refine gl 25 Try.func44 #[.slice Ao32 t110.length co32, .slice Ao33 t108.length co33] ?_; (with_reducible refine (laws_eqIntSS.calls k _ _ t110 _ _ t108 true _ ?side1 ?side2 ?side3 ?side4 A11.out).mono ?_); (case side1 => exact qc (Kd.S_reads' HO134.out).2.2); (case side2 => exact (Kd.S_reads' HO134.out).2.1); (case side3 => exact qc (Kd.S_reads' HO129.out).2.2); (case side4 => exact (Kd.S_reads' HO129.out).2.1); rintro e w' ⟨rfl, ⟨nd, rfl⟩⟩; refine ⟨_, rfl, ?_⟩))
 (try (rw [drewN_self w31]; generalize hq_ : World.drewN w31 _ = w31; have n0_ : Aside0 (Kd.R kTie 32 w31 w.heap.size (fun k_ => True ∧ some k_ ≠ (.slice Ao30 t118.length co30 : Value).ownBlock) (.slice Ao23 t117.length co23) t117) := ⟨by rw [← hq_]; exact (by (with_reducible repeat (first | apply Kd.R_alloc | apply Kd.R_drewN | apply Kd.R_drew)); exact Kd.R_mono HO127.out (fun _ hk => ⟨trivial, hk.2⟩))⟩; have n1_ : Aside0 (Kd.S (Kd.slice 3 (Kd.int .i64)) 60 w31 w.heap.size (fun k_ => (True ∧ k_ < M_) ∧ some k_ ≠ (.slice Ao32 t110.length co32 : Value).ownBlock) (.slice Ao33 t108.length co33) t108) := ⟨by rw [← hq_]; exact (by (with_reducible repeat (first | apply Kd.S_alloc | apply Kd.S_drewN | apply Kd.S_drew)); exact Kd.S_mono HO129.out (fun _ hk => ⟨⟨trivial, hk.1.2⟩, hk.2⟩))⟩; have n2_ : Aside0 (Kd.R kTie 32 w31 w.heap.size (fun k_ => True ∧ some k_ ≠ (.slice Ao23 t117.length co23 : Value).ownBlock) (.slice Ao30 t118.length co30) t118) := ⟨by rw [← hq_]; exact (by (with_reducible repeat (first | apply Kd.R_alloc | apply Kd.R_drewN | apply Kd.R_drew)); exact Kd.R_mono HO131.out (fun _ hk => ⟨trivial, hk.2⟩))⟩; have n3_ : Aside0 (Kd.S (Kd.slice 3 (Kd.int .i64)) 60 w31 w.heap.size (fun k_ => (True ∧ M_ ≤ k_) ∧ some k_ ≠ (.slice Ao33 t108.length co33 : Value).ownBlock) (.slice Ao32 t110.length co32) t110) := ⟨by rw [← hq_]; exact (by (with_reducible repeat (first | apply Kd.S_alloc | apply Kd.S_drewN | apply Kd.S_drew)); exact Kd.S_mono HO134.out (fun _ hk => ⟨⟨trivial, hk.1.2⟩, hk.2⟩))⟩; have n4_ : Aside0 (w31.heap[gb116]? = some (.cells #[.int .i64 a0_0, .slice A0_1 l0_1.length c0_1] 42 (0, 0))) := ⟨by rw [← hq_]; exact (qk BK116.out)⟩; have n5_ : Aside0 (w31.heap[gb132]? = some (.cells #[.int .i64 t109, .slice Ao30 t118.length co30] 25 (0, 0))) := ⟨by rw [← hq_]; exact (qk BK132.out)⟩; have n6_ : Aside0 (Below w.heap.size w w31) := ⟨by rw [← hq_]; exact (qb HB.out)⟩; clear HO127 HO129 HO131 HO134 BK116 BK132 HB hq_; have HO127 := n0_; have HO129 := n1_; have HO131 := n2_; have HO134 := n3_; have BK116 := n4_; have BK132 := n5_; have HB := n6_; clear n0_ n1_ n2_ n3_ n4_ n5_ n6_))
 replace HO127 := q0 (Kd.R_drew HO127.out)
 replace HO129 := q0 (Kd.S_drew HO129.out)
 replace HO131 := q0 (Kd.R_drew HO131.out)
 replace HO134 := q0 (Kd.S_drew HO134.out)
 replace BK116 := q0 (blk_drew BK116.out)
 replace BK132 := q0 (blk_drew BK132.out)
 replace HB := q0 (below_drew1 HB.out)
 refine start_ (n := 5) (S := fun w' => w'.cell? ⟨gb132, 0, none⟩ = some (.int .i64 t109) ∧ w'.cell? ⟨gb132, 1, none⟩ = some (.slice Ao30 t118.length co30) ∧ w'.cell? ⟨gb116, 0, none⟩ = some (.int .i64 a0_0) ∧ w'.cell? ⟨gb116, 1, none⟩ = some (.slice A0_1 l0_1.length c0_1)) (ds := []) (ba 5 0) (by kernel_rfl) rfl (by kernel_rfl) ⟨(blk_cell BK132.out 0).trans rfl, (blk_cell BK132.out 1).trans rfl, (blk_cell BK116.out 0).trans rfl, (blk_cell BK116.out 1).trans rfl⟩ (fun hHeld => ?_)
 generalize w31.drew = w34 at HO127 HO129 HO131 HO134 BK116 BK132 HB hHeld ⊢
 refine tw 0 (some 27) (ba 5 1) hHeld ?_
 refine tw 1 (some 28) (ba 5 3) hHeld ?_
 refine one_ (i := 2) (N := some 29) (ba 5 7) rfl rfl (by kernel_rfl) (by decide) (fun K hK => ?_)
 refine goes_ Try.func28 (by kernel_rfl) rfl #[.agg #[.int .i64 a0_0, .slice A0_1 l0_1.length c0_1]] (by rfl) rfl rfl qm ?_
 with_reducible refine (laws_toNet.calls k a0_0 _ _ l0_1 t112 t121 _ ?side1 ?side2 A13.out).mono ?_
 (case side1 => exact qc (Kd.C_below HR0_1.out HB.out))
 (case side2 => exact HC0_1.out)
 rintro e w35 ⟨v135, rfl, ho0, hb⟩
 refine ⟨_, rfl, ?_⟩
 replace HO129 := q0 (Kd.S_below (qv HO129.out) hb)
 replace HO134 := q0 (Kd.S_below (qv HO134.out) hb)
 have HO136 := q0 (Kd.R_lower (Kd.R_new' (Kd.R_new' ho0 (Kd.R_lt (qr HO127.out))) (Kd.R_lt (qr HO131.out))) (below_size (qb HB.out)))
 replace HO127 := q0 (Kd.R_elder' (qr HO127.out) (Kd.R_base ho0) hb)
 replace HO131 := q0 (Kd.R_elder' (qr HO131.out) (Kd.R_base ho0) hb)
 replace BK116 := q0 (kb BK116.out hb)
 replace BK132 := q0 (kb BK132.out hb)
 replace HB := q0 (below_step (qb HB.out) hb)
 (try clear hb)
 (try clear hb2)
 (try clear hk)
 (try clear hi)
 (try clear ho0)
 obtain ⟨Ao36, co36, eo36⟩ := Kd.R_slice HO136.out
 (first | subst eo36 | (injection eo36 with f1_ f2_ f3_; have f4_ := f1_.symm; have f5_ := f3_.symm; clear f1_ f2_ f3_; subst f4_; subst f5_))
 refine hK.out _ _ ⟨(blk_cell BK132.out 0).trans rfl, (blk_cell BK132.out 1).trans rfl, (blk_cell BK116.out 0).trans rfl, (blk_cell BK116.out 1).trans rfl⟩ (fun hHeld => ?_)
 clear hK K
 refine nu 29 ?_
 refine one_ (i := 3) (N := some 30) (ba 5 15) rfl rfl (by kernel_rfl) (by decide) (fun K hK => ?_)
 refine goes_ Try.func30 (by kernel_rfl) rfl #[.agg #[.int .i64 t109, .slice Ao30 t118.length co30], .agg #[.int .i64 t112, .slice Ao36 t121.length co36]] (by rfl) rfl rfl qm ?_
 with_reducible refine (laws_eqNet.calls k t109 _ _ t118 t112 _ _ t121 true _ ?side1 ?side2 ?side3 ?side4 A14.out).mono ?_
 (case side1 => exact qc (Kd.R_reads' HO131.out).2.2)
 (case side2 => exact (Kd.R_reads' HO131.out).2.1)
 (case side3 => exact qc (Kd.R_reads' HO136.out).2.2)
 (case side4 => exact (Kd.R_reads' HO136.out).2.1)
 rintro e w37 ⟨rfl, hb⟩
 refine ⟨_, rfl, ?_⟩
 replace HO127 := q0 (Kd.R_below (qr HO127.out) hb)
 replace HO129 := q0 (Kd.S_below (qv HO129.out) hb)
 replace HO131 := q0 (Kd.R_below (qr HO131.out) hb)
 replace HO134 := q0 (Kd.S_below (qv HO134.out) hb)
 replace HO136 := q0 (Kd.R_below (qr HO136.out) hb)
 replace BK116 := q0 (kb BK116.out hb)
 replace BK132 := q0 (kb BK132.out hb)
 replace HB := q0 (below_step (qb HB.out) hb)
 (try clear hb)
 (try clear hb2)
 (try clear hk)
 (try clear hi)
 refine hK.out _ _ ⟨(blk_cell BK132.out 0).trans rfl, (blk_cell BK132.out 1).trans rfl, (blk_cell BK116.out 0).trans rfl, (blk_cell BK116.out 1).trans rfl⟩ (fun hHeld => ?_)
 clear hK K
 refine nu 30 ?_
 refine pw 4 (some 31) (ba 5 31) ?_
 refine done_ (by kernel_rfl) ?_
 have hcz38_0 : w37.cell? ⟨gb132, 0, none⟩ = some (.int .i64 t109) := (blk_cell BK132.out 0).trans rfl
 have hcz38_1 : w37.cell? ⟨gb132, 1, none⟩ = some (.slice Ao30 t118.length co30) := (blk_cell BK132.out 1).trans rfl
 have hfz38_0 := blk_frozen BK132.out 0
 have hfz38_1 := blk_frozen BK132.out 1
 go_upto_region 14 with (first | ((with_reducible refine gate_callee (f := 31) rfl ?_); refine gl 34 Try.func31 #[.agg #[.int .i64 t109, .slice Ao30 t118.length co30], .int .i64 1] ?_; (with_reducible refine (laws_markNet.calls k t109 (fun k_ => some k_ = (.slice Ao30 t118.length co30 : Value).ownBlock) (.slice Ao30 t118.length co30) t118 1 t114 t124 w _ ?side1 ?side2 A16.out).mono ?_); (case side1 => exact qb HB.out); (case side2 => exact Kd.R_tight rfl HO131.out); rintro e w39 ⟨rfl, hy0, hb, hkp⟩; refine ⟨_, rfl, ?_⟩; replace BK116 := q0 (blk_kept (qk BK116.out) hkp (fun hs_ => (fun e_ => (Kd.R_ne HO131.out BK116.out (by decide)) e_) hs_)); replace HO127 := q0 (Kd.R_mono (ok' := fun k_ => some k_ ≠ (.slice Ao30 t118.length co30 : Value).ownBlock ∧ some k_ ≠ (.slice Ao36 t121.length co36 : Value).ownBlock) (Kd.R_keptB (HO127.out) hkp (fun k_ hk_ hs_ => (hk_.1.2) hs_)) (fun k_ hk_ => ⟨hk_.1.1.2, hk_.1.2⟩)); replace HO129 := q0 (Kd.S_mono (ok' := fun k_ => some k_ ≠ (.slice Ao32 t110.length co32 : Value).ownBlock ∧ k_ < M_) (Kd.S_keptB ((Kd.S_apart' HO129.out (Kd.R_typed HO131.out) (by decide))) hkp (fun k_ hk_ hs_ => (hk_.2) hs_)) (fun k_ hk_ => ⟨hk_.1.1.2, hk_.1.1.1.2⟩)); replace BK132 := q0 (blk_kept (qk BK132.out) hkp (fun hs_ => (fun e_ => (Kd.R_ne HO131.out BK132.out (by decide)) e_) hs_)); replace HO134 := q0 (Kd.S_mono (ok' := fun k_ => some k_ ≠ (.slice Ao33 t108.length co33 : Value).ownBlock ∧ M_ ≤ k_) (Kd.S_keptB ((Kd.S_apart' HO134.out (Kd.R_typed HO131.out) (by decide))) hkp (fun k_ hk_ hs_ => (hk_.2) hs_)) (fun k_ hk_ => ⟨hk_.1.1.2, hk_.1.1.1.2⟩)); replace HO131 := q0 (Kd.R_reok rfl hy0 (fun k_ e_ => HO131.out.1 k_ e_)); replace HO136 := q0 (Kd.R_mono (ok' := fun k_ => some k_ ≠ (.slice Ao23 t117.length co23 : Value).ownBlock ∧ some k_ ≠ (.slice Ao30 t118.length co30 : Value).ownBlock) (Kd.R_keptB (HO136.out) hkp (fun k_ hk_ hs_ => (hk_.2) hs_)) (fun k_ hk_ => ⟨hk_.1.1.2, hk_.1.2⟩)); replace HB := q0 (hb); (try clear hb); (try clear hkp); (try clear hy0)))
 (try simp only [Act.put, List.setIfInBounds_toArray, List.set_cons_zero, List.set_cons_succ])
 go_cut [42] (fun v42 wc => ∃ (kq : Nat) (x42_16 : Bool), v42 = .bool x42_16 ∧ Aside0 (laws_FnExactTreeRings.j0 kq t108 t110 x42_16 a0_0 l0_1 = some r) ∧ Aside0 (kq ≤ k) ∧ Aside0 (Kd.S (Kd.slice 3 (Kd.int .i64)) 60 wc w.heap.size (fun k_ => some k_ ≠ ((.slice Ao32 t110.length co32) : Value).ownBlock ∧ k_ < M_) (.slice Ao33 t108.length co33) t108) ∧ Aside0 (Kd.S (Kd.slice 3 (Kd.int .i64)) 60 wc w.heap.size (fun k_ => some k_ ≠ ((.slice Ao33 t108.length co33) : Value).ownBlock ∧ M_ ≤ k_) (.slice Ao32 t110.length co32) t110) ∧ Aside0 (Kd.R kTie 32 wc w.heap.size (fun _ => True) (.slice Ao30 t118.length co30) t124) ∧ Aside0 (wc.heap[gb116]? = some (.cells #[.int .i64 a0_0, (.slice A0_1 l0_1.length c0_1)] 42 (0, 0))) ∧ Aside0 (wc.heap[gb132]? = some (.cells #[.int .i64 t109, (.slice Ao30 t118.length co30)] 25 (0, 0))) ∧ Aside0 (Below w.heap.size w wc))
 case first =>
   have H := HC17.out
   clear HC17
   by_cases c40 : t114 < 0
   · rw [if_pos c40] at H
     have c40b0 : decide (t114 < 0) = true := decide_eq_true c40
     clear c40
     (first | rw [c40b0] | (simp only [i64_w, i32_w]; rw [c40b0]) | skip)
     have H' := Aside0.mk H
     clear H
     go_wp2
     go_meet
     case rel => exact ⟨_, (true), qs, H', ⟨by first | omega | exact Nat.le_refl _⟩, ⟨qv HO129.out⟩, ⟨qv HO134.out⟩, ⟨by (with_reducible repeat (first | apply Kd.R_alloc | apply Kd.R_drewN | apply Kd.R_drew)); exact Kd.R_mono HO131.out (fun _ hk => trivial)⟩, ⟨qk BK116.out⟩, ⟨qk BK132.out⟩, ⟨qb HB.out⟩⟩
   rw [if_neg c40] at H
   have c40b0 : decide (t114 < 0) = false := decide_eq_false c40
   clear c40
   (first | rw [c40b0] | (simp only [i64_w, i32_w]; rw [c40b0]) | skip)
   replace H := Option.bind_eq_some_iff.mp H
   obtain ⟨t115, A137, H⟩ := H
   have A41 := Aside0.mk A137
   clear A137
   have H' := Aside0.mk H
   clear H
   go_wp2_with (first | (go_at_call 44; (with_reducible refine (laws_eqIntSS.calls k _ _ t110 _ _ t108 t115 _ ?side1 ?side2 ?side3 ?side4 A41.out).mono ?_); (case side1 => exact qc (Kd.S_reads' HO134.out).2.2); (case side2 => exact (Kd.S_reads' HO134.out).2.1); (case side3 => exact qc (Kd.S_reads' HO129.out).2.2); (case side4 => exact (Kd.S_reads' HO129.out).2.1); rintro e w' ⟨rfl, ⟨nd, rfl⟩⟩))
   go_meet
   case rel => exact ⟨_, (!t115), qs, H', ⟨by first | omega | exact Nat.le_refl _⟩, ⟨qv HO129.out⟩, ⟨qv HO134.out⟩, ⟨by (with_reducible repeat (first | apply Kd.R_alloc | apply Kd.R_drewN | apply Kd.R_drew)); exact Kd.R_mono HO131.out (fun _ hk => trivial)⟩, ⟨qk BK116.out⟩, ⟨qk BK132.out⟩, ⟨qb HB.out⟩⟩
 clear HC17
 try clear c1
 try clear c2
 try clear p2
 try clear c3
 try clear c3b0
 try clear c4
 try clear c11
 try clear c12
 try clear c15
 try clear c26
 try clear c28
 try clear c30
 try clear c31
 try clear c40
 try clear c40b0
 try clear hcz19_0
 try clear hcz19_1
 try clear hcz21_0
 try clear hcz21_1
 try clear hcz25_0
 try clear hcz25_1
 try clear hcz29_0
 try clear hcz29_1
 try clear hcz38_0
 try clear hcz38_1
 try clear hcz5_0
 try clear hcz5_1
 try clear hfz19_0
 try clear hfz19_1
 try clear hfz21_0
 try clear hfz21_1
 try clear hfz25_0
 try clear hfz25_1
 try clear hfz29_0
 try clear hfz29_1
 try clear hfz38_0
 try clear hfz38_1
 try clear hfz5_0
 try clear hfz5_1
 obtain ⟨kq, x42_16, rfl, HA, HJ16, HO_4, HO_6, HO_110001, BK116, BK132, HB⟩ := hcut
 have hl110001_16 := (Kd.R_reads' HO_110001.out).1
 rw [hl110001_16] at HO_110001
 (try simp only [hl110001_16])
 (try simp only [hl110001_16] at BK116)
 (try simp only [hl110001_16] at BK132)
 (try simp only [hl110001_16] at HO_4)
 (try simp only [hl110001_16] at HO_6)
 rcases kq with _ | kj16
 · exact absurd HA.out (by simp [laws_FnExactTreeRings.j0])
 have H := HA.out
 clear HA
 simp only [laws_FnExactTreeRings.j0] at H
 by_cases c42 : x42_16 = true
 · subst c42
   rw [if_pos rfl] at H
   obtain rfl := Option.some.inj H
   go_wp2
   go_ret
   exact ⟨qe, qb HB.out⟩
 replace c42 := Bool.eq_false_iff.mpr c42
 subst c42
 rw [if_neg nf] at H
 replace H := Option.bind_eq_some_iff.mp H
 obtain ⟨⟨t101, t201⟩, A111, H⟩ := H
 have A43 := Aside0.mk A111
 clear A111
 replace H := Option.bind_eq_some_iff.mp H
 obtain ⟨t102, A102, H⟩ := H
 have A44 := Aside0.mk A102
 clear A102
 by_cases c45 : t102 < 0
 · rw [if_pos c45] at H
   have c45b0 : decide (t102 < 0) = true := decide_eq_true c45
   clear c45
   obtain rfl := Option.some.inj H
   go_wp2_with (first | ((with_reducible refine gate_callee (f := 45) rfl ?_); refine gl 45 Try.func45 #[.slice Ao32 t110.length co32, .int .i64 1] ?_; (with_reducible refine (laws_markIntSS.calls kj16 (fun k_ => (((some k_ ≠ (.slice Ao33 t108.length co33 : Value).ownBlock ∧ M_ ≤ k_) ∧ k_ ≠ gb116) ∧ k_ ≠ gb132) ∧ some k_ ≠ (.slice Ao30 t124.length co30 : Value).ownBlock) (.slice Ao32 t110.length co32) t110 1 t101 t201 w _ ?side1 ?side2 A43.out).mono ?_); (case side1 => exact qb HB.out); (case side2 => exact Kd.S_apart' (Kd.S_types (Kd.S_types HO_6.out BK116.out (by decide)) BK132.out (by decide)) (Kd.R_typed HO_110001.out) (by decide)); rintro e wm ⟨rfl, ho, hb, hkp⟩; refine ⟨_, rfl, ?_⟩; replace BK116 := q0 (blk_kept (qk BK116.out) hkp (fun hs_ => hs_.1.1.2 rfl)); replace BK132 := q0 (blk_kept (qk BK132.out) hkp (fun hs_ => hs_.1.2 rfl)); replace HO_110001 := q0 (Kd.R_mono (ok' := fun _ => True) (Kd.R_keptB (Kd.R_tight rfl HO_110001.out) hkp (fun k_ hk_ hs_ => hs_.2 hk_)) (fun _ _ => trivial)); replace HO_4 := q0 (Kd.S_mono (ok' := fun k_ => some k_ ≠ (.slice Ao32 t110.length co32 : Value).ownBlock) (Kd.S_keptB HO_4.out hkp (fun k_ hk_ hs_ => absurd hs_.1.1.1.2 (Nat.not_le.2 hk_.2))) (fun k_ hk_ => hk_.1.1)); replace HO_6 := q0 (Kd.S_mono (ok' := fun k_ => some k_ ≠ (.slice Ao33 t108.length co33 : Value).ownBlock) ho (fun k_ hk_ => hk_.1.1.1.1)); replace HB := q0 hb; clear hkp hb ho; have hl_ := (Kd.S_reads' HO_6.out).1; (try rw [hl_] at HO_4); rw [hl_] at HO_6; (try rw [hl_])) | ((with_reducible refine gate_callee (f := 46) rfl ?_); refine gl 48 Try.func46 #[.slice Ao32 t201.length co32, .int .i64 1] ?_; (with_reducible refine (laws_heldIntSS.calls kj16 _ _ t201 1 t102 _ ?side1 ?side2 A44.out).mono ?_); (case side1 => exact qc (Kd.S_reads' HO_6.out).2.2); (case side2 => exact (Kd.S_reads' HO_6.out).2.1); rintro e w' ⟨rfl, ⟨nd, rfl⟩⟩; refine ⟨_, rfl, ?_⟩))
   go_ret
   exact ⟨qe, qb HB.out⟩
 rw [if_neg c45] at H
 have c45b0 : decide (t102 < 0) = false := decide_eq_false c45
 clear c45
 by_cases c46 : t102 = t101
 rotate_left
 · rw [if_neg c46] at H
   have c46b0 : (t102 == t101) = false := beq_eq_false_iff_ne.mpr c46
   have c46b1 : (t102 != t101) = true := bne_iff_ne.mpr c46
   obtain rfl := Option.some.inj H
   go_wp2_with (first | ((with_reducible refine gate_callee (f := 45) rfl ?_); refine gl 45 Try.func45 #[.slice Ao32 t110.length co32, .int .i64 1] ?_; (with_reducible refine (laws_markIntSS.calls kj16 (fun k_ => (((some k_ ≠ (.slice Ao33 t108.length co33 : Value).ownBlock ∧ M_ ≤ k_) ∧ k_ ≠ gb116) ∧ k_ ≠ gb132) ∧ some k_ ≠ (.slice Ao30 t124.length co30 : Value).ownBlock) (.slice Ao32 t110.length co32) t110 1 t101 t201 w _ ?side1 ?side2 A43.out).mono ?_); (case side1 => exact qb HB.out); (case side2 => exact Kd.S_apart' (Kd.S_types (Kd.S_types HO_6.out BK116.out (by decide)) BK132.out (by decide)) (Kd.R_typed HO_110001.out) (by decide)); rintro e wm ⟨rfl, ho, hb, hkp⟩; refine ⟨_, rfl, ?_⟩; replace BK116 := q0 (blk_kept (qk BK116.out) hkp (fun hs_ => hs_.1.1.2 rfl)); replace BK132 := q0 (blk_kept (qk BK132.out) hkp (fun hs_ => hs_.1.2 rfl)); replace HO_110001 := q0 (Kd.R_mono (ok' := fun _ => True) (Kd.R_keptB (Kd.R_tight rfl HO_110001.out) hkp (fun k_ hk_ hs_ => hs_.2 hk_)) (fun _ _ => trivial)); replace HO_4 := q0 (Kd.S_mono (ok' := fun k_ => some k_ ≠ (.slice Ao32 t110.length co32 : Value).ownBlock) (Kd.S_keptB HO_4.out hkp (fun k_ hk_ hs_ => absurd hs_.1.1.1.2 (Nat.not_le.2 hk_.2))) (fun k_ hk_ => hk_.1.1)); replace HO_6 := q0 (Kd.S_mono (ok' := fun k_ => some k_ ≠ (.slice Ao33 t108.length co33 : Value).ownBlock) ho (fun k_ hk_ => hk_.1.1.1.1)); replace HB := q0 hb; clear hkp hb ho; have hl_ := (Kd.S_reads' HO_6.out).1; (try rw [hl_] at HO_4); rw [hl_] at HO_6; (try rw [hl_])) | ((with_reducible refine gate_callee (f := 46) rfl ?_); refine gl 48 Try.func46 #[.slice Ao32 t201.length co32, .int .i64 1] ?_; (with_reducible refine (laws_heldIntSS.calls kj16 _ _ t201 1 t102 _ ?side1 ?side2 A44.out).mono ?_); (case side1 => exact qc (Kd.S_reads' HO_6.out).2.2); (case side2 => exact (Kd.S_reads' HO_6.out).2.1); rintro e w' ⟨rfl, ⟨nd, rfl⟩⟩; refine ⟨_, rfl, ?_⟩))
   go_ret
   exact ⟨qe, qb HB.out⟩
 rw [if_pos c46] at H
 have c46b0 : (t102 == t101) = true := beq_iff_eq.mpr c46
 have c46b1 : (t102 != t101) = false := bne_eq_false_iff_eq.mpr c46
 clear c46
 replace H := Option.bind_eq_some_iff.mp H
 obtain ⟨⟨t103, t138⟩, A139, H⟩ := H
 have A47 := Aside0.mk A139
 clear A139
 replace H := Option.bind_eq_some_iff.mp H
 obtain ⟨t104, A140, H⟩ := H
 have A48 := Aside0.mk A140
 clear A140
 replace H := Option.bind_eq_some_iff.mp H
 obtain ⟨t105, A141, H⟩ := H
 have A49 := Aside0.mk A141
 clear A141
 by_cases c50 : t105 = true
 rotate_left
 · replace c50 := Bool.eq_false_iff.mpr c50
   subst c50
   rw [if_neg nf] at H
   obtain rfl := Option.some.inj H
   go_wp2_with (first | ((with_reducible refine gate_callee (f := 45) rfl ?_); refine gl 45 Try.func45 #[.slice Ao32 t110.length co32, .int .i64 1] ?_; (with_reducible refine (laws_markIntSS.calls kj16 (fun k_ => (((some k_ ≠ (.slice Ao33 t108.length co33 : Value).ownBlock ∧ M_ ≤ k_) ∧ k_ ≠ gb116) ∧ k_ ≠ gb132) ∧ some k_ ≠ (.slice Ao30 t124.length co30 : Value).ownBlock) (.slice Ao32 t110.length co32) t110 1 t101 t201 w _ ?side1 ?side2 A43.out).mono ?_); (case side1 => exact qb HB.out); (case side2 => exact Kd.S_apart' (Kd.S_types (Kd.S_types HO_6.out BK116.out (by decide)) BK132.out (by decide)) (Kd.R_typed HO_110001.out) (by decide)); rintro e wm ⟨rfl, ho, hb, hkp⟩; refine ⟨_, rfl, ?_⟩; replace BK116 := q0 (blk_kept (qk BK116.out) hkp (fun hs_ => hs_.1.1.2 rfl)); replace BK132 := q0 (blk_kept (qk BK132.out) hkp (fun hs_ => hs_.1.2 rfl)); replace HO_110001 := q0 (Kd.R_mono (ok' := fun _ => True) (Kd.R_keptB (Kd.R_tight rfl HO_110001.out) hkp (fun k_ hk_ hs_ => hs_.2 hk_)) (fun _ _ => trivial)); replace HO_4 := q0 (Kd.S_mono (ok' := fun k_ => some k_ ≠ (.slice Ao32 t110.length co32 : Value).ownBlock) (Kd.S_keptB HO_4.out hkp (fun k_ hk_ hs_ => absurd hs_.1.1.1.2 (Nat.not_le.2 hk_.2))) (fun k_ hk_ => hk_.1.1)); replace HO_6 := q0 (Kd.S_mono (ok' := fun k_ => some k_ ≠ (.slice Ao33 t108.length co33 : Value).ownBlock) ho (fun k_ hk_ => hk_.1.1.1.1)); replace HB := q0 hb; clear hkp hb ho; have hl_ := (Kd.S_reads' HO_6.out).1; (try rw [hl_] at HO_4); rw [hl_] at HO_6; (try rw [hl_])) | ((with_reducible refine gate_callee (f := 46) rfl ?_); refine gl 48 Try.func46 #[.slice Ao32 t201.length co32, .int .i64 1] ?_; (with_reducible refine (laws_heldIntSS.calls kj16 _ _ t201 1 t102 _ ?side1 ?side2 A44.out).mono ?_); (case side1 => exact qc (Kd.S_reads' HO_6.out).2.2); (case side2 => exact (Kd.S_reads' HO_6.out).2.1); rintro e w' ⟨rfl, ⟨nd, rfl⟩⟩; refine ⟨_, rfl, ?_⟩; have hnb72 := NB116_132.out; have hnc72 := NB132_116.out; have hcz73_0 : wm.cell? ⟨gb116, 0, none⟩ = some (.int .i64 a0_0) := (blk_cell BK116.out 0).trans rfl; have hcz73_1 : wm.cell? ⟨gb116, 1, none⟩ = some (.slice A0_1 l0_1.length c0_1) := (blk_cell BK116.out 1).trans rfl; have hfz73_0 := blk_frozen BK116.out 0; have hfz73_1 := blk_frozen BK116.out 1) | ((with_reducible refine gate_callee (f := 28) rfl ?_); refine gl 55 Try.func28 #[.agg #[.int .i64 a0_0, .slice A0_1 l0_1.length c0_1]] ?_; (with_reducible refine (laws_toNet.calls kj16 a0_0 _ _ l0_1 t103 t138 _ ?side1 ?side2 A47.out).mono ?_); (case side1 => exact qc (Kd.C_below HR0_1.out (qb HB.out))); (case side2 => exact HC0_1.out); rintro e w74 ⟨v143, rfl, ho0, hb⟩; refine ⟨_, rfl, ?_⟩; replace HO_4 := q0 (Kd.S_below (qv HO_4.out) hb); replace HO_6 := q0 (Kd.S_below (qv HO_6.out) hb); have HO144 := q0 (Kd.R_lower (Kd.R_new' ho0 (Kd.R_lt (qr HO_110001.out))) (below_size (qb HB.out))); replace HO_110001 := q0 (Kd.R_elder' (qr HO_110001.out) (Kd.R_base ho0) hb); replace BK116 := q0 (kb BK116.out hb); replace BK132 := q0 (kb BK132.out hb); replace HB := q0 (below_step (qb HB.out) hb); (try clear hb); (try clear hb2); (try clear hk); (try clear hi); (try clear ho0); obtain ⟨Ao75, co75, eo75⟩ := Kd.R_slice HO144.out; subst eo75) | ((with_reducible refine gate_callee (f := 43) rfl ?_); refine gl 56 Try.func43 #[.agg #[.int .i64 t103, .slice Ao75 t138.length co75]] ?_; (with_reducible refine (impl_TreeRings.calls kj16 t103 _ _ t138 t104 _ ?side1 ?side2 A48.out).mono ?_); (case side1 => exact qc (Kd.R_reads' HO144.out).2.2); (case side2 => exact (Kd.R_reads' HO144.out).2.1); rintro e w76 ⟨v145, rfl, ho0, hb⟩; refine ⟨_, rfl, ?_⟩; replace HO_110001 := q0 (Kd.R_below (qr HO_110001.out) hb); replace HO144 := q0 (Kd.R_below (qr HO144.out) hb); have HO146 := q0 (Kd.S_lower (Kd.S_new' (Kd.S_new' ho0 (Kd.S_lt (qv HO_4.out))) (Kd.S_lt (qv HO_6.out))) (below_size (qb HB.out))); replace HO_4 := q0 (Kd.S_elder' (qv HO_4.out) (Kd.S_base ho0) hb); replace HO_6 := q0 (Kd.S_elder' (qv HO_6.out) (Kd.S_base ho0) hb); replace BK116 := q0 (kb BK116.out hb); replace BK132 := q0 (kb BK132.out hb); replace HB := q0 (below_step (qb HB.out) hb); (try clear hb); (try clear hb2); (try clear hk); (try clear hi); (try clear ho0); obtain ⟨Ao77, co77, eo77⟩ := Kd.S_slice HO146.out; subst eo77) | ((with_reducible refine gate_callee (f := 44) rfl ?_); refine gl 59 Try.func44 #[.slice Ao77 t104.length co77, .slice Ao33 t108.length co33] ?_; (with_reducible refine (laws_eqIntSS.calls kj16 _ _ t104 _ _ t108 false _ ?side1 ?side2 ?side3 ?side4 A49.out).mono ?_); (case side1 => exact qc (Kd.S_reads' HO146.out).2.2); (case side2 => exact (Kd.S_reads' HO146.out).2.1); (case side3 => exact qc (Kd.S_reads' HO_4.out).2.2); (case side4 => exact (Kd.S_reads' HO_4.out).2.1); rintro e w' ⟨rfl, ⟨nd, rfl⟩⟩; refine ⟨_, rfl, ?_⟩))
   go_ret
   exact ⟨qe, qb HB.out⟩
 subst c50
 rw [if_pos rfl] at H
 replace H := Option.bind_eq_some_iff.mp H
 obtain ⟨t106, A142, H⟩ := H
 have A51 := Aside0.mk A142
 clear A142
 by_cases c52 : t106 < 0
 · rw [if_pos c52] at H
   have c52b0 : decide (t106 < 0) = true := decide_eq_true c52
   clear c52
   obtain rfl := Option.some.inj H
   go_wp2_with (first | ((with_reducible refine gate_callee (f := 45) rfl ?_); refine gl 45 Try.func45 #[.slice Ao32 t110.length co32, .int .i64 1] ?_; (with_reducible refine (laws_markIntSS.calls kj16 (fun k_ => (((some k_ ≠ (.slice Ao33 t108.length co33 : Value).ownBlock ∧ M_ ≤ k_) ∧ k_ ≠ gb116) ∧ k_ ≠ gb132) ∧ some k_ ≠ (.slice Ao30 t124.length co30 : Value).ownBlock) (.slice Ao32 t110.length co32) t110 1 t101 t201 w _ ?side1 ?side2 A43.out).mono ?_); (case side1 => exact qb HB.out); (case side2 => exact Kd.S_apart' (Kd.S_types (Kd.S_types HO_6.out BK116.out (by decide)) BK132.out (by decide)) (Kd.R_typed HO_110001.out) (by decide)); rintro e wm ⟨rfl, ho, hb, hkp⟩; refine ⟨_, rfl, ?_⟩; replace BK116 := q0 (blk_kept (qk BK116.out) hkp (fun hs_ => hs_.1.1.2 rfl)); replace BK132 := q0 (blk_kept (qk BK132.out) hkp (fun hs_ => hs_.1.2 rfl)); replace HO_110001 := q0 (Kd.R_mono (ok' := fun _ => True) (Kd.R_keptB (Kd.R_tight rfl HO_110001.out) hkp (fun k_ hk_ hs_ => hs_.2 hk_)) (fun _ _ => trivial)); replace HO_4 := q0 (Kd.S_mono (ok' := fun k_ => some k_ ≠ (.slice Ao32 t110.length co32 : Value).ownBlock) (Kd.S_keptB HO_4.out hkp (fun k_ hk_ hs_ => absurd hs_.1.1.1.2 (Nat.not_le.2 hk_.2))) (fun k_ hk_ => hk_.1.1)); replace HO_6 := q0 (Kd.S_mono (ok' := fun k_ => some k_ ≠ (.slice Ao33 t108.length co33 : Value).ownBlock) ho (fun k_ hk_ => hk_.1.1.1.1)); replace HB := q0 hb; clear hkp hb ho; have hl_ := (Kd.S_reads' HO_6.out).1; (try rw [hl_] at HO_4); rw [hl_] at HO_6; (try rw [hl_])) | ((with_reducible refine gate_callee (f := 46) rfl ?_); refine gl 48 Try.func46 #[.slice Ao32 t201.length co32, .int .i64 1] ?_; (with_reducible refine (laws_heldIntSS.calls kj16 _ _ t201 1 t102 _ ?side1 ?side2 A44.out).mono ?_); (case side1 => exact qc (Kd.S_reads' HO_6.out).2.2); (case side2 => exact (Kd.S_reads' HO_6.out).2.1); rintro e w' ⟨rfl, ⟨nd, rfl⟩⟩; refine ⟨_, rfl, ?_⟩; have hnb53 := NB116_132.out; have hnc53 := NB132_116.out; have hcz54_0 : wm.cell? ⟨gb116, 0, none⟩ = some (.int .i64 a0_0) := (blk_cell BK116.out 0).trans rfl; have hcz54_1 : wm.cell? ⟨gb116, 1, none⟩ = some (.slice A0_1 l0_1.length c0_1) := (blk_cell BK116.out 1).trans rfl; have hfz54_0 := blk_frozen BK116.out 0; have hfz54_1 := blk_frozen BK116.out 1) | ((with_reducible refine gate_callee (f := 28) rfl ?_); refine gl 55 Try.func28 #[.agg #[.int .i64 a0_0, .slice A0_1 l0_1.length c0_1]] ?_; (with_reducible refine (laws_toNet.calls kj16 a0_0 _ _ l0_1 t103 t138 _ ?side1 ?side2 A47.out).mono ?_); (case side1 => exact qc (Kd.C_below HR0_1.out (qb HB.out))); (case side2 => exact HC0_1.out); rintro e w55 ⟨v143, rfl, ho0, hb⟩; refine ⟨_, rfl, ?_⟩; replace HO_4 := q0 (Kd.S_below (qv HO_4.out) hb); replace HO_6 := q0 (Kd.S_below (qv HO_6.out) hb); have HO144 := q0 (Kd.R_lower (Kd.R_new' ho0 (Kd.R_lt (qr HO_110001.out))) (below_size (qb HB.out))); replace HO_110001 := q0 (Kd.R_elder' (qr HO_110001.out) (Kd.R_base ho0) hb); replace BK116 := q0 (kb BK116.out hb); replace BK132 := q0 (kb BK132.out hb); replace HB := q0 (below_step (qb HB.out) hb); (try clear hb); (try clear hb2); (try clear hk); (try clear hi); (try clear ho0); obtain ⟨Ao56, co56, eo56⟩ := Kd.R_slice HO144.out; subst eo56) | ((with_reducible refine gate_callee (f := 43) rfl ?_); refine gl 56 Try.func43 #[.agg #[.int .i64 t103, .slice Ao56 t138.length co56]] ?_; (with_reducible refine (impl_TreeRings.calls kj16 t103 _ _ t138 t104 _ ?side1 ?side2 A48.out).mono ?_); (case side1 => exact qc (Kd.R_reads' HO144.out).2.2); (case side2 => exact (Kd.R_reads' HO144.out).2.1); rintro e w57 ⟨v145, rfl, ho0, hb⟩; refine ⟨_, rfl, ?_⟩; replace HO_110001 := q0 (Kd.R_below (qr HO_110001.out) hb); replace HO144 := q0 (Kd.R_below (qr HO144.out) hb); have HO146 := q0 (Kd.S_lower (Kd.S_new' (Kd.S_new' ho0 (Kd.S_lt (qv HO_4.out))) (Kd.S_lt (qv HO_6.out))) (below_size (qb HB.out))); replace HO_4 := q0 (Kd.S_elder' (qv HO_4.out) (Kd.S_base ho0) hb); replace HO_6 := q0 (Kd.S_elder' (qv HO_6.out) (Kd.S_base ho0) hb); replace BK116 := q0 (kb BK116.out hb); replace BK132 := q0 (kb BK132.out hb); replace HB := q0 (below_step (qb HB.out) hb); (try clear hb); (try clear hb2); (try clear hk); (try clear hi); (try clear ho0); obtain ⟨Ao58, co58, eo58⟩ := Kd.S_slice HO146.out; subst eo58) | ((with_reducible refine gate_callee (f := 44) rfl ?_); refine gl 59 Try.func44 #[.slice Ao58 t104.length co58, .slice Ao33 t108.length co33] ?_; (with_reducible refine (laws_eqIntSS.calls kj16 _ _ t104 _ _ t108 true _ ?side1 ?side2 ?side3 ?side4 A49.out).mono ?_); (case side1 => exact qc (Kd.S_reads' HO146.out).2.2); (case side2 => exact (Kd.S_reads' HO146.out).2.1); (case side3 => exact qc (Kd.S_reads' HO_4.out).2.2); (case side4 => exact (Kd.S_reads' HO_4.out).2.1); rintro e w' ⟨rfl, ⟨nd, rfl⟩⟩; refine ⟨_, rfl, ?_⟩) | ((with_reducible refine gate_callee (f := 46) rfl ?_); refine gl 63 Try.func46 #[.slice Ao32 t201.length co32, .int .i64 1] ?_; (with_reducible refine (laws_heldIntSS.calls kj16 _ _ t201 1 t106 _ ?side1 ?side2 A51.out).mono ?_); (case side1 => exact qc (Kd.S_reads' HO_6.out).2.2); (case side2 => exact (Kd.S_reads' HO_6.out).2.1); rintro e w' ⟨rfl, ⟨nd, rfl⟩⟩; refine ⟨_, rfl, ?_⟩))
   go_ret
   exact ⟨qe, qb HB.out⟩
 rw [if_neg c52] at H
 have c52b0 : decide (t106 < 0) = false := decide_eq_false c52
 clear c52
 by_cases c59 : t106 = t101
 rotate_left
 · rw [if_neg c59] at H
   have c59b0 : (t106 == t101) = false := beq_eq_false_iff_ne.mpr c59
   have c59b1 : (t106 != t101) = true := bne_iff_ne.mpr c59
   obtain rfl := Option.some.inj H
   go_wp2_with (first | ((with_reducible refine gate_callee (f := 45) rfl ?_); refine gl 45 Try.func45 #[.slice Ao32 t110.length co32, .int .i64 1] ?_; (with_reducible refine (laws_markIntSS.calls kj16 (fun k_ => (((some k_ ≠ (.slice Ao33 t108.length co33 : Value).ownBlock ∧ M_ ≤ k_) ∧ k_ ≠ gb116) ∧ k_ ≠ gb132) ∧ some k_ ≠ (.slice Ao30 t124.length co30 : Value).ownBlock) (.slice Ao32 t110.length co32) t110 1 t101 t201 w _ ?side1 ?side2 A43.out).mono ?_); (case side1 => exact qb HB.out); (case side2 => exact Kd.S_apart' (Kd.S_types (Kd.S_types HO_6.out BK116.out (by decide)) BK132.out (by decide)) (Kd.R_typed HO_110001.out) (by decide)); rintro e wm ⟨rfl, ho, hb, hkp⟩; refine ⟨_, rfl, ?_⟩; replace BK116 := q0 (blk_kept (qk BK116.out) hkp (fun hs_ => hs_.1.1.2 rfl)); replace BK132 := q0 (blk_kept (qk BK132.out) hkp (fun hs_ => hs_.1.2 rfl)); replace HO_110001 := q0 (Kd.R_mono (ok' := fun _ => True) (Kd.R_keptB (Kd.R_tight rfl HO_110001.out) hkp (fun k_ hk_ hs_ => hs_.2 hk_)) (fun _ _ => trivial)); replace HO_4 := q0 (Kd.S_mono (ok' := fun k_ => some k_ ≠ (.slice Ao32 t110.length co32 : Value).ownBlock) (Kd.S_keptB HO_4.out hkp (fun k_ hk_ hs_ => absurd hs_.1.1.1.2 (Nat.not_le.2 hk_.2))) (fun k_ hk_ => hk_.1.1)); replace HO_6 := q0 (Kd.S_mono (ok' := fun k_ => some k_ ≠ (.slice Ao33 t108.length co33 : Value).ownBlock) ho (fun k_ hk_ => hk_.1.1.1.1)); replace HB := q0 hb; clear hkp hb ho; have hl_ := (Kd.S_reads' HO_6.out).1; (try rw [hl_] at HO_4); rw [hl_] at HO_6; (try rw [hl_])) | ((with_reducible refine gate_callee (f := 46) rfl ?_); refine gl 48 Try.func46 #[.slice Ao32 t201.length co32, .int .i64 1] ?_; (with_reducible refine (laws_heldIntSS.calls kj16 _ _ t201 1 t102 _ ?side1 ?side2 A44.out).mono ?_); (case side1 => exact qc (Kd.S_reads' HO_6.out).2.2); (case side2 => exact (Kd.S_reads' HO_6.out).2.1); rintro e w' ⟨rfl, ⟨nd, rfl⟩⟩; refine ⟨_, rfl, ?_⟩; have hnb66 := NB116_132.out; have hnc66 := NB132_116.out; have hcz67_0 : wm.cell? ⟨gb116, 0, none⟩ = some (.int .i64 a0_0) := (blk_cell BK116.out 0).trans rfl; have hcz67_1 : wm.cell? ⟨gb116, 1, none⟩ = some (.slice A0_1 l0_1.length c0_1) := (blk_cell BK116.out 1).trans rfl; have hfz67_0 := blk_frozen BK116.out 0; have hfz67_1 := blk_frozen BK116.out 1) | ((with_reducible refine gate_callee (f := 28) rfl ?_); refine gl 55 Try.func28 #[.agg #[.int .i64 a0_0, .slice A0_1 l0_1.length c0_1]] ?_; (with_reducible refine (laws_toNet.calls kj16 a0_0 _ _ l0_1 t103 t138 _ ?side1 ?side2 A47.out).mono ?_); (case side1 => exact qc (Kd.C_below HR0_1.out (qb HB.out))); (case side2 => exact HC0_1.out); rintro e w68 ⟨v143, rfl, ho0, hb⟩; refine ⟨_, rfl, ?_⟩; replace HO_4 := q0 (Kd.S_below (qv HO_4.out) hb); replace HO_6 := q0 (Kd.S_below (qv HO_6.out) hb); have HO144 := q0 (Kd.R_lower (Kd.R_new' ho0 (Kd.R_lt (qr HO_110001.out))) (below_size (qb HB.out))); replace HO_110001 := q0 (Kd.R_elder' (qr HO_110001.out) (Kd.R_base ho0) hb); replace BK116 := q0 (kb BK116.out hb); replace BK132 := q0 (kb BK132.out hb); replace HB := q0 (below_step (qb HB.out) hb); (try clear hb); (try clear hb2); (try clear hk); (try clear hi); (try clear ho0); obtain ⟨Ao69, co69, eo69⟩ := Kd.R_slice HO144.out; subst eo69) | ((with_reducible refine gate_callee (f := 43) rfl ?_); refine gl 56 Try.func43 #[.agg #[.int .i64 t103, .slice Ao69 t138.length co69]] ?_; (with_reducible refine (impl_TreeRings.calls kj16 t103 _ _ t138 t104 _ ?side1 ?side2 A48.out).mono ?_); (case side1 => exact qc (Kd.R_reads' HO144.out).2.2); (case side2 => exact (Kd.R_reads' HO144.out).2.1); rintro e w70 ⟨v145, rfl, ho0, hb⟩; refine ⟨_, rfl, ?_⟩; replace HO_110001 := q0 (Kd.R_below (qr HO_110001.out) hb); replace HO144 := q0 (Kd.R_below (qr HO144.out) hb); have HO146 := q0 (Kd.S_lower (Kd.S_new' (Kd.S_new' ho0 (Kd.S_lt (qv HO_4.out))) (Kd.S_lt (qv HO_6.out))) (below_size (qb HB.out))); replace HO_4 := q0 (Kd.S_elder' (qv HO_4.out) (Kd.S_base ho0) hb); replace HO_6 := q0 (Kd.S_elder' (qv HO_6.out) (Kd.S_base ho0) hb); replace BK116 := q0 (kb BK116.out hb); replace BK132 := q0 (kb BK132.out hb); replace HB := q0 (below_step (qb HB.out) hb); (try clear hb); (try clear hb2); (try clear hk); (try clear hi); (try clear ho0); obtain ⟨Ao71, co71, eo71⟩ := Kd.S_slice HO146.out; subst eo71) | ((with_reducible refine gate_callee (f := 44) rfl ?_); refine gl 59 Try.func44 #[.slice Ao71 t104.length co71, .slice Ao33 t108.length co33] ?_; (with_reducible refine (laws_eqIntSS.calls kj16 _ _ t104 _ _ t108 true _ ?side1 ?side2 ?side3 ?side4 A49.out).mono ?_); (case side1 => exact qc (Kd.S_reads' HO146.out).2.2); (case side2 => exact (Kd.S_reads' HO146.out).2.1); (case side3 => exact qc (Kd.S_reads' HO_4.out).2.2); (case side4 => exact (Kd.S_reads' HO_4.out).2.1); rintro e w' ⟨rfl, ⟨nd, rfl⟩⟩; refine ⟨_, rfl, ?_⟩) | ((with_reducible refine gate_callee (f := 46) rfl ?_); refine gl 63 Try.func46 #[.slice Ao32 t201.length co32, .int .i64 1] ?_; (with_reducible refine (laws_heldIntSS.calls kj16 _ _ t201 1 t106 _ ?side1 ?side2 A51.out).mono ?_); (case side1 => exact qc (Kd.S_reads' HO_6.out).2.2); (case side2 => exact (Kd.S_reads' HO_6.out).2.1); rintro e w' ⟨rfl, ⟨nd, rfl⟩⟩; refine ⟨_, rfl, ?_⟩))
   go_ret
   exact ⟨qe, qb HB.out⟩
 rw [if_pos c59] at H
 have c59b0 : (t106 == t101) = true := beq_iff_eq.mpr c59
 have c59b1 : (t106 != t101) = false := bne_eq_false_iff_eq.mpr c59
 clear c59
 obtain rfl := Option.some.inj H
 go_wp2_with (first | ((with_reducible refine gate_callee (f := 45) rfl ?_); refine gl 45 Try.func45 #[.slice Ao32 t110.length co32, .int .i64 1] ?_; (with_reducible refine (laws_markIntSS.calls kj16 (fun k_ => (((some k_ ≠ (.slice Ao33 t108.length co33 : Value).ownBlock ∧ M_ ≤ k_) ∧ k_ ≠ gb116) ∧ k_ ≠ gb132) ∧ some k_ ≠ (.slice Ao30 t124.length co30 : Value).ownBlock) (.slice Ao32 t110.length co32) t110 1 t101 t201 w _ ?side1 ?side2 A43.out).mono ?_); (case side1 => exact qb HB.out); (case side2 => exact Kd.S_apart' (Kd.S_types (Kd.S_types HO_6.out BK116.out (by decide)) BK132.out (by decide)) (Kd.R_typed HO_110001.out) (by decide)); rintro e wm ⟨rfl, ho, hb, hkp⟩; refine ⟨_, rfl, ?_⟩; replace BK116 := q0 (blk_kept (qk BK116.out) hkp (fun hs_ => hs_.1.1.2 rfl)); replace BK132 := q0 (blk_kept (qk BK132.out) hkp (fun hs_ => hs_.1.2 rfl)); replace HO_110001 := q0 (Kd.R_mono (ok' := fun _ => True) (Kd.R_keptB (Kd.R_tight rfl HO_110001.out) hkp (fun k_ hk_ hs_ => hs_.2 hk_)) (fun _ _ => trivial)); replace HO_4 := q0 (Kd.S_mono (ok' := fun k_ => some k_ ≠ (.slice Ao32 t110.length co32 : Value).ownBlock) (Kd.S_keptB HO_4.out hkp (fun k_ hk_ hs_ => absurd hs_.1.1.1.2 (Nat.not_le.2 hk_.2))) (fun k_ hk_ => hk_.1.1)); replace HO_6 := q0 (Kd.S_mono (ok' := fun k_ => some k_ ≠ (.slice Ao33 t108.length co33 : Value).ownBlock) ho (fun k_ hk_ => hk_.1.1.1.1)); replace HB := q0 hb; clear hkp hb ho; have hl_ := (Kd.S_reads' HO_6.out).1; (try rw [hl_] at HO_4); rw [hl_] at HO_6; (try rw [hl_])) | ((with_reducible refine gate_callee (f := 46) rfl ?_); refine gl 48 Try.func46 #[.slice Ao32 t201.length co32, .int .i64 1] ?_; (with_reducible refine (laws_heldIntSS.calls kj16 _ _ t201 1 t102 _ ?side1 ?side2 A44.out).mono ?_); (case side1 => exact qc (Kd.S_reads' HO_6.out).2.2); (case side2 => exact (Kd.S_reads' HO_6.out).2.1); rintro e w' ⟨rfl, ⟨nd, rfl⟩⟩; refine ⟨_, rfl, ?_⟩; have hnb60 := NB116_132.out; have hnc60 := NB132_116.out; have hcz61_0 : wm.cell? ⟨gb116, 0, none⟩ = some (.int .i64 a0_0) := (blk_cell BK116.out 0).trans rfl; have hcz61_1 : wm.cell? ⟨gb116, 1, none⟩ = some (.slice A0_1 l0_1.length c0_1) := (blk_cell BK116.out 1).trans rfl; have hfz61_0 := blk_frozen BK116.out 0; have hfz61_1 := blk_frozen BK116.out 1) | ((with_reducible refine gate_callee (f := 28) rfl ?_); refine gl 55 Try.func28 #[.agg #[.int .i64 a0_0, .slice A0_1 l0_1.length c0_1]] ?_; (with_reducible refine (laws_toNet.calls kj16 a0_0 _ _ l0_1 t103 t138 _ ?side1 ?side2 A47.out).mono ?_); (case side1 => exact qc (Kd.C_below HR0_1.out (qb HB.out))); (case side2 => exact HC0_1.out); rintro e w62 ⟨v143, rfl, ho0, hb⟩; refine ⟨_, rfl, ?_⟩; replace HO_4 := q0 (Kd.S_below (qv HO_4.out) hb); replace HO_6 := q0 (Kd.S_below (qv HO_6.out) hb); have HO144 := q0 (Kd.R_lower (Kd.R_new' ho0 (Kd.R_lt (qr HO_110001.out))) (below_size (qb HB.out))); replace HO_110001 := q0 (Kd.R_elder' (qr HO_110001.out) (Kd.R_base ho0) hb); replace BK116 := q0 (kb BK116.out hb); replace BK132 := q0 (kb BK132.out hb); replace HB := q0 (below_step (qb HB.out) hb); (try clear hb); (try clear hb2); (try clear hk); (try clear hi); (try clear ho0); obtain ⟨Ao63, co63, eo63⟩ := Kd.R_slice HO144.out; subst eo63) | ((with_reducible refine gate_callee (f := 43) rfl ?_); refine gl 56 Try.func43 #[.agg #[.int .i64 t103, .slice Ao63 t138.length co63]] ?_; (with_reducible refine (impl_TreeRings.calls kj16 t103 _ _ t138 t104 _ ?side1 ?side2 A48.out).mono ?_); (case side1 => exact qc (Kd.R_reads' HO144.out).2.2); (case side2 => exact (Kd.R_reads' HO144.out).2.1); rintro e w64 ⟨v145, rfl, ho0, hb⟩; refine ⟨_, rfl, ?_⟩; replace HO_110001 := q0 (Kd.R_below (qr HO_110001.out) hb); replace HO144 := q0 (Kd.R_below (qr HO144.out) hb); have HO146 := q0 (Kd.S_lower (Kd.S_new' (Kd.S_new' ho0 (Kd.S_lt (qv HO_4.out))) (Kd.S_lt (qv HO_6.out))) (below_size (qb HB.out))); replace HO_4 := q0 (Kd.S_elder' (qv HO_4.out) (Kd.S_base ho0) hb); replace HO_6 := q0 (Kd.S_elder' (qv HO_6.out) (Kd.S_base ho0) hb); replace BK116 := q0 (kb BK116.out hb); replace BK132 := q0 (kb BK132.out hb); replace HB := q0 (below_step (qb HB.out) hb); (try clear hb); (try clear hb2); (try clear hk); (try clear hi); (try clear ho0); obtain ⟨Ao65, co65, eo65⟩ := Kd.S_slice HO146.out; subst eo65) | ((with_reducible refine gate_callee (f := 44) rfl ?_); refine gl 59 Try.func44 #[.slice Ao65 t104.length co65, .slice Ao33 t108.length co33] ?_; (with_reducible refine (laws_eqIntSS.calls kj16 _ _ t104 _ _ t108 true _ ?side1 ?side2 ?side3 ?side4 A49.out).mono ?_); (case side1 => exact qc (Kd.S_reads' HO146.out).2.2); (case side2 => exact (Kd.S_reads' HO146.out).2.1); (case side3 => exact qc (Kd.S_reads' HO_4.out).2.2); (case side4 => exact (Kd.S_reads' HO_4.out).2.1); rintro e w' ⟨rfl, ⟨nd, rfl⟩⟩; refine ⟨_, rfl, ?_⟩) | ((with_reducible refine gate_callee (f := 46) rfl ?_); refine gl 63 Try.func46 #[.slice Ao32 t201.length co32, .int .i64 1] ?_; (with_reducible refine (laws_heldIntSS.calls kj16 _ _ t201 1 t106 _ ?side1 ?side2 A51.out).mono ?_); (case side1 => exact qc (Kd.S_reads' HO_6.out).2.2); (case side2 => exact (Kd.S_reads' HO_6.out).2.1); rintro e w' ⟨rfl, ⟨nd, rfl⟩⟩; refine ⟨_, rfl, ?_⟩))
 go_ret
 exact ⟨qe, qb HB.out⟩

end Go.Proofs.Ytgoembpmhlmafaa.P
