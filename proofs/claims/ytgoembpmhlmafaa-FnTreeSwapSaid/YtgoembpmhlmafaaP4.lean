import Derived.Test.YtgoembpmhlmafaaP0
import Derived.Test.YtgoembpmhlmafaaP1
import Derived.Test.YtgoembpmhlmafaaP2
import Derived.Test.YtgoembpmhlmafaaP3
import Derived.Test.YtgoembpmhlmafaaS2
namespace Go.Proofs.Ytgoembpmhlmafaa.P
open Go.RowKit Go.Proofs.YtgoembpmhlmafaaW.PrintWords Go.Proofs.YtgoembpmhlmafaaW.PrintLast Go.Proofs.YtgoembpmhlmafaaW.PrintMore
attribute [local go_sem] max2_int min2_int max_two min_two max_three min_three max_four min_four
set_option linter.unusedVariables false
set_option linter.unusedSimpArgs false
attribute [local go_sem high] eqATie
def impl_Net_ways.T8 : Bool × List (List Nat × List Nat) := (true, [([], []), ([], []), ([1], [1]), ([], []), ([3], [3]), ([2, 4, 2], [2, 4]), ([], []), ([], []), ([0, 5, 6, 7, 5], [0, 5, 6, 7]), ([8, 8, 0, 1, 2, 3, 4, 5, 6, 7, 8], [7, 8])])
def impl_Net_ways.B8 : List Nat := [0, 0, 2, 0, 8, 30, 0, 0, 255, 511]
theorem impl_Net_ways.tab8 : rtab .any (opsOf Try.f105 8) = impl_Net_ways.T8 := by kernel_rfl
theorem impl_Net_ways.bits8 : waitsOk impl_Net_ways.T8.2 impl_Net_ways.B8 = true := by kernel_rfl
set_option maxHeartbeats 8000000 in
set_option maxRecDepth 100000 in
theorem impl_Net_ways.calls (k : Nat) : ∀ (a0_0 : Int) (A0_1 : Option Addr) (c0_1 : Nat) (l0_1 : List (STie)) (A1 : Option Addr) (c1 : Nat) (l1 : List Int) (a2 : Int) (P3_ : Nat → Prop) (u107_ : Value) (l3 : List (List Int)) (r : List (List Int)) (w0 w : World) (hB : Below w0.heap.size w0 w) (hr0_1 : ∀ W_, Kept w W_ (fun k_ => P3_ k_) → Kd.C kTie W_ A0_1 l0_1.length l0_1) (hc0_1 : l0_1.length ≤ c0_1) (hr1 : ∀ W_, Kept w W_ (fun k_ => P3_ k_) → Kd.C (Kd.int .i64) W_ A1 l1.length l1) (hc1 : l1.length ≤ c1) (ho3 : Kd.S (Kd.slice 3 (Kd.int .i64)) 60 w w0.heap.size P3_ u107_ l3) (h : impl_Net_ways.f k a0_0 l0_1 l1 a2 l3 = some r),
    Calls Try.prog 105 #[.agg #[.int .i64 a0_0, .slice A0_1 l0_1.length c0_1], .slice A1 l1.length c1, .int .i64 a2, u107_] w fun e w' => ∃ v0_ : Value, e = .returned (v0_) ∧ Kd.S (Kd.slice 3 (Kd.int .i64)) 60 w' w0.heap.size (fun k_ => (P3_ k_ ∨ w.heap.size ≤ k_)) v0_ r ∧ Below w0.heap.size w0 w' ∧ Kept w w' (fun k_ => P3_ k_) := by
 induction k using Nat.strongRecOn with
 | _ k ih =>
 intro a0_0 A0_1 c0_1 l0_1 A1 c1 l1 a2 P3_ u107_ l3 r w0 w hB hr0_1 hc0_1 hr1 hc1 ho3 h
 cases k with
 | zero => exact absurd h (by simp [impl_Net_ways.f])
 | succ k =>
 simp only [impl_Net_ways.f] at h
 have hu25 := Try.underlying25
 have HR0_1 := q0 hr0_1
 have HC0_1 := q0 hc0_1
 clear hr0_1 hc0_1
 have HR1 := q0 hr1
 have HC1 := q0 hc1
 clear hr1 hc1
 have HO3 := q0 (show Kd.S (Kd.slice 3 (Kd.int .i64)) 60 w w0.heap.size (fun k_ => (P3_ k_ ∨ w.heap.size ≤ k_)) u107_ l3 from Kd.S_mono ho3 (fun k_ hk => (.inl hk)))
 have HK := q0 (Kept.refl w (fun k_ => P3_ k_))
 have HW0 := q0 hB.size
 have HB := q0 hB
 clear hB
 have H : (if 0 ≤ (wrap64 ((l1.length : Int) - 1)) then (if (wrap64 ((l1.length : Int) - 1)) < (l1.length : Int) then (if (rd l1 (wrap64 ((l1.length : Int) - 1))) = a2 then ((slices_Clone_int.f l1).bind fun t106 => (if l3.length < 5864062014805 then (some (l3 ++ [t106])) else (none))) else (impl_Net_ways.l0 k l1 a2 l3 (rd l1 (wrap64 ((l1.length : Int) - 1))) a0_0 0 a0_0 l0_1)) else (none)) else (none)) = some r := h
 clear h
 obtain ⟨ji5, hji5⟩ : ∃ j_ : Int, (wrap64 ((l1.length : Int) - 1)) = j_ := ⟨_, rfl⟩
 replace H : (if 0 ≤ (ji5) then (if (ji5) < (l1.length : Int) then (if (rd l1 (ji5)) = a2 then ((slices_Clone_int.f l1).bind fun t106 => (if l3.length < 5864062014805 then (some (l3 ++ [t106])) else (none))) else (impl_Net_ways.l0 k l1 a2 l3 (rd l1 (ji5)) a0_0 0 a0_0 l0_1)) else (none)) else (none)) = some r := by first | (rw [hji5] at H; exact H) | (simp only [hji5] at H ⊢; exact H)
 have hji5w : (IntKind.i64.wrap ((l1.length : Int) - 1)) = ji5 := (i64_w _).trans hji5
 obtain ⟨c6, H⟩ : (0 ≤ (ji5)) ∧ _ := og H
 have c6b0 := decide_eq_true c6
 clear c6
 obtain ⟨c7, H⟩ : ((ji5) < (l1.length : Int)) ∧ _ := og H
 have c7b0 := decide_eq_true c7
 clear c7
 by_cases c8 : (rd l1 (ji5)) = a2
 · rw [if_pos c8] at H
   have c8b0 : ((rd l1 (ji5)) == a2) = true := beq_iff_eq.mpr c8
   have c8b1 : ((rd l1 (ji5)) != a2) = false := bne_eq_false_iff_eq.mpr c8
   clear c8
   obtain ⟨t106, A9, H⟩ := ob H
   obtain ⟨c9, H⟩ : (l3.length < 5864062014805) ∧ _ := og H
   have LMc9 := q0 c9
   clear c9
   obtain ⟨y108, hy108⟩ : ∃ y_ : List (List Int), y_ = (l3 ++ [t106]) := ⟨_, rfl⟩
   replace H : (some y108) = some r := qy H hy108
   have Ny108 := q0 hy108
   clear hy108
   obtain rfl := Option.some.inj H
   go_enter Try.func105, Try.ntmps105
   go_wp2_with (first | ((with_reducible refine gd 4 ?_); refine be 4 #[.int .i64 a0_0, .slice A0_1 l0_1.length c0_1] 25 ?_; intro gb109 hg w10 hbox hb; replace HO3 := q0 (Kd.S_below (qv HO3.out) hb); have BK109 := q0 (hbox); have GW109 := q0 ((by rw [hg]; exact (by first | exact HK.out.1 | exact (qp HK.out).1) : w.heap.size ≤ gb109)); replace HK := q0 (Kept.below (S := (fun k_ => P3_ k_)) (qp HK.out) hb); have GE109 := q0 ((bs HB.out hg : w0.heap.size ≤ gb109)); replace HB := bp HB hb; clear hb hbox hg; have p100 : 0 ≤ ((ji5) : Int) := of_decide_eq_true qa; have q100 : (ji5) < (l1.length : Int) := of_decide_eq_true qa; obtain ⟨ad100, e100, hx100_0⟩ := Kd.at_int (Kd.C_kept_now HR1.out HK.out) (ji5) p100 q100; cases e100; replace p100 := eq_true p100; replace q100 := eq_true q100) | ((with_reducible refine gf 121 ?_); refine gl 22 Try.func121 #[.slice (some ad100) l1.length c1] ?_; (with_reducible refine (slices_Clone_int.calls _ _ l1 t106 _ ?side1 ?side2 A9.out).mono ?_); (case side1 => exact Kd.C_kept_now HR1.out (qp HK.out)); (case side2 => exact HC1.out); rintro e w11 ⟨v110, rfl, ho0, hb⟩; refine ⟨_, rfl, ?_⟩; have HO111 := q0 (Kd.R_lower (Kd.R_new' (Kd.R_newM (M := (fun k_ => (P3_ k_ ∨ w.heap.size ≤ k_))) ho0 (by first | exact HK.out.1 | exact (qp HK.out).1) (fun k_ h_ => .inr h_)) (Kd.S_lt (qv HO3.out))) (below_size (qb HB.out))); replace HO3 := q0 (Kd.S_elder' (qv HO3.out) (Kd.R_base ho0) hb); replace BK109 := kd BK109 hb; replace HK := q0 (Kept.below (S := (fun k_ => P3_ k_)) (qp HK.out) hb); replace HB := bp HB hb; clear hb ho0; obtain ⟨Ao14, co14, eo14⟩ := Kd.R_slice HO111.out; subst eo14) | ((with_reducible refine gate_builtin (b := .append) (xs := #[.tmp 20, .tmp 23]) rfl ?_); at_builtin; refine Kd.S_append (Kd.slice 3 (Kd.int .i64)) (w0 := w0) w0.heap.size rfl (.tmp 20) (.tmp 23) 55 60 (.slice none 0 0) 24 rfl Try.underlying55 info60 rfl (by decide) (by omega) u107_ l3 t106 [.slice Ao14 t106.length co14] (fun k_ => (P3_ k_ ∨ w.heap.size ≤ k_)) (fun k_ => some k_ = (.slice Ao14 t106.length co14 : Value).ownBlock) rfl rfl ?aP (fun k_ hk_ => by have h_ := HO111.out.1 k_ hk_.symm; exact ⟨h_.1.1, h_.2⟩) ?aF ?aO ?aB ?aS ?aL ?_; (case aP => exact Kd.M_row (Kd.R_tight rfl HO111.out)); (case aB => exact (qb HB.out)); (case aF => exact (fun k_ hk => .inr (Nat.le_trans (by first | exact HK.out.1 | exact (qp HK.out).1) hk))); (case aO => exact (qv HO3.out)); (case aS => exact (below_size (qb HB.out))); (case aL => have := LMc9.out; omega); intro v112 w13 ho hb hg hat; rw [← Ny108.out] at ho; replace HB := q0 (hb); replace HK := q0 (Kept.of_grown (S := (fun k_ => P3_ k_)) hg (qp HK.out) (fun k_ e_ => ((Kd.S_R HO3.out).1 k_ e_).1)); have HO113 := q0 (ho); clear HO3; clear ho hb hg hat))
   go_ret
   exact ⟨_, by first | rfl | (simp only [← hji5]; first | rfl | (simp; done)) | (simp [*]; done), qv HO113.out, qb HB.out, qp HK.out⟩
 rw [if_neg c8] at H
 have c8b0 : ((rd l1 (ji5)) == a2) = false := beq_eq_false_iff_ne.mpr c8
 have c8b1 : ((rd l1 (ji5)) != a2) = true := bne_iff_ne.mpr c8
 have H' := q0 H
 clear H
 go_enter Try.func105, Try.ntmps105
 go_wp2_with (first | ((with_reducible refine gd 4 ?_); refine be 4 #[.int .i64 a0_0, .slice A0_1 l0_1.length c0_1] 25 ?_; intro gb109 hg w15 hbox hb; replace HO3 := q0 (Kd.S_below (qv HO3.out) hb); have BK109 := q0 (hbox); have GW109 := q0 ((by rw [hg]; exact (by first | exact HK.out.1 | exact (qp HK.out).1) : w.heap.size ≤ gb109)); replace HK := q0 (Kept.below (S := (fun k_ => P3_ k_)) (qp HK.out) hb); have GE109 := q0 ((bs HB.out hg : w0.heap.size ≤ gb109)); replace HB := bp HB hb; clear hb hbox hg; have p100 : 0 ≤ ((ji5) : Int) := of_decide_eq_true qa; have q100 : (ji5) < (l1.length : Int) := of_decide_eq_true qa; obtain ⟨ad100, e100, hx100_0⟩ := Kd.at_int (Kd.C_kept_now HR1.out HK.out) (ji5) p100 q100; cases e100; replace p100 := eq_true p100; replace q100 := eq_true q100; obtain ⟨hcz16_0, hcz16_1, hfz16_0, hfz16_1⟩ := b2 BK109))
 go_loopg [3, 27] k (fun kq v3 v27 w' => ∃ (x3_1 : List (List Int)) (x27_1 : Int), v27 = .int .i64 x27_1 ∧ Aside0 (impl_Net_ways.l0 kq l1 a2 x3_1 (rd l1 (ji5)) a0_0 x27_1 a0_0 l0_1 = some r) ∧ Aside0 (kq ≤ k) ∧ Aside0 (Kd.S (Kd.slice 3 (Kd.int .i64)) 60 w' w0.heap.size (fun k_ => (P3_ k_ ∨ w.heap.size ≤ k_)) v3 x3_1) ∧ Aside0 (w'.heap[gb109]? = some (.cells #[.int .i64 a0_0, (.slice A0_1 l0_1.length c0_1)] 25 (0, 0))) ∧ Aside0 (Kept w w' (fun k_ => P3_ k_)) ∧ Aside0 (Below w0.heap.size w0 w'))
 case atStart => exact ⟨(l3), (0), qs, H', ⟨Nat.le_refl _⟩, ⟨qv HO3.out⟩, ⟨qk BK109.out⟩, ⟨qp HK.out⟩, ⟨qb HB.out⟩⟩
 clear H'
 try clear c1
 try clear p2
 try clear p3
 try clear q3
 try clear hx3
 try clear c6
 try clear c6b0
 try clear p6
 try clear c7
 try clear c7b0
 try clear c8
 try clear c8b0
 try clear c8b1
 try clear c9
 try clear c10
 try clear hcz16_0
 try clear hcz16_1
 try clear hfz16_0
 try clear hfz16_1
 try clear hx100_0
 try clear p100
 try clear q100
 obtain ⟨x3_1, x27_1, rfl, HA, HK1, HO_3, BK109, HK, HB⟩ := hrel
 rcases gk with _ | k1
 · exact absurd HA.out (by simp [impl_Net_ways.l0])
 have H := HA.out
 clear HA
 simp only [impl_Net_ways.l0] at H
 by_cases c17 : x27_1 < a0_0
 rotate_left
 · rw [if_neg c17] at H
   have c17b0 := decide_eq_false c17
   clear c17
   obtain rfl := Option.some.inj H
   go_wp2
   go_ret
   exact ⟨_, by first | rfl | (simp [errW_none, errW_some] <;> rfl) | (simp only [← hji5]; first | rfl | (simp [errW_none, errW_some] <;> rfl)) | (simp [*, errW_none, errW_some] <;> rfl), qv HO_3.out, qb HB.out, qp HK.out⟩
 rw [if_pos c17] at H
 have c17b0 := decide_eq_true c17
 clear c17
 have HC18 := q0 H
 clear H
 go_upto_region 7 with (fail)
 go_cut [39] (fun v39 wc => ∃ (kq : Nat) (x39_17 : Bool), v39 = .bool x39_17 ∧ Aside0 (impl_Net_ways.j1 kq l1 a2 x3_1 (rd l1 (ji5)) x27_1 a0_0 x27_1 x39_17 a0_0 l0_1 = some r) ∧ Aside0 (kq ≤ k1) ∧ Aside0 (Kd.S (Kd.slice 3 (Kd.int .i64)) 60 wc w0.heap.size (fun k_ => (P3_ k_ ∨ w.heap.size ≤ k_)) u3 x3_1) ∧ Aside0 (wc.heap[gb109]? = some (.cells #[.int .i64 a0_0, (.slice A0_1 l0_1.length c0_1)] 25 (0, 0))) ∧ Aside0 (Kept w wc (fun k_ => P3_ k_)) ∧ Aside0 (Below w0.heap.size w0 wc))
 case first =>
   have H := HC18.out
   clear HC18
   obtain ⟨t101, A19, H⟩ := ob H
   by_cases c20 : t101 = true
   rotate_left
   · replace c20 := Bool.eq_false_iff.mpr c20
     subst c20
     rw [if_neg nf] at H
     have H' := q0 H
     clear H
     obtain ⟨hcz24_0, hcz24_1, hfz24_0, hfz24_1⟩ := b2 BK109
     go_wp2_with (first | ((with_reducible refine gf 71 ?_); refine goesL_ (some 33) rfl rfl Try.func71 (by kernel_rfl) rfl #[.agg #[.int .i64 a0_0, .slice A0_1 l0_1.length c0_1], .int .i64 (rd l1 (ji5)), .int .i64 x27_1] rfl (by (try simp only [List.map_toArray, List.map_cons, List.map_nil]); first | done | (simp only [hji5]; rfl) | rfl | (simp only [List.length_drop, List.length_take]; rfl)) ?_; (with_reducible refine (impl_Net_has.calls k1 a0_0 _ _ l0_1 (rd l1 (ji5)) x27_1 false _ ?side1 ?side2 A19.out).mono ?_); (case side1 => exact Kd.C_kept_now HR0_1.out (qp HK.out)); (case side2 => exact HC0_1.out); rintro e w25 ⟨rfl, hb⟩; refine ⟨_, rfl, ?_⟩; replace HO_3 := q0 (Kd.S_below (qv HO_3.out) hb); replace BK109 := kd BK109 hb; replace HK := q0 (Kept.below (S := (fun k_ => P3_ k_)) (qp HK.out) hb); replace HB := bp HB hb; (try clear hb); (try clear hb2); (try clear hk); (try clear hi)))
     go_meet
     case rel => exact ⟨_, (false), qs, H', ⟨by have := HK1.out; first | omega | exact Nat.le_refl _⟩, ⟨qv HO_3.out⟩, ⟨qk BK109.out⟩, ⟨qp HK.out⟩, ⟨qb HB.out⟩⟩
   subst c20
   rw [if_pos rfl] at H
   obtain ⟨t102, A21, H⟩ := ob H
   have H' := q0 H
   clear H
   obtain ⟨hcz22_0, hcz22_1, hfz22_0, hfz22_1⟩ := b2 BK109
   go_wp2_with (first | ((with_reducible refine gf 71 ?_); refine goesL_ (some 33) rfl rfl Try.func71 (by kernel_rfl) rfl #[.agg #[.int .i64 a0_0, .slice A0_1 l0_1.length c0_1], .int .i64 (rd l1 (ji5)), .int .i64 x27_1] rfl (by (try simp only [List.map_toArray, List.map_cons, List.map_nil]); first | done | (simp only [hji5]; rfl) | rfl | (simp only [List.length_drop, List.length_take]; rfl)) ?_; (with_reducible refine (impl_Net_has.calls k1 a0_0 _ _ l0_1 (rd l1 (ji5)) x27_1 true _ ?side1 ?side2 A19.out).mono ?_); (case side1 => exact Kd.C_kept_now HR0_1.out (qp HK.out)); (case side2 => exact HC0_1.out); rintro e w23 ⟨rfl, hb⟩; refine ⟨_, rfl, ?_⟩; replace HO_3 := q0 (Kd.S_below (qv HO_3.out) hb); replace BK109 := kd BK109 hb; replace HK := q0 (Kept.below (S := (fun k_ => P3_ k_)) (qp HK.out) hb); replace HB := bp HB hb; (try clear hb); (try clear hb2); (try clear hk); (try clear hi)) | (go_at_call 108; (with_reducible refine (slices_Contains_int.calls k1 _ _ l1 x27_1 t102 _ ?side1 ?side2 A21.out).mono ?_); (case side1 => exact Kd.C_kept_now HR1.out (qp HK.out)); (case side2 => exact HC1.out); rintro e w' ⟨rfl, ⟨nd, rfl⟩⟩))
   go_meet
   case rel => exact ⟨_, (!t102), qs, H', ⟨by have := HK1.out; first | omega | exact Nat.le_refl _⟩, ⟨qv HO_3.out⟩, ⟨qk BK109.out⟩, ⟨qp HK.out⟩, ⟨qb HB.out⟩⟩
 clear HC18
 try clear c1
 try clear c2
 try clear p2
 try clear p3
 try clear q3
 try clear hx3
 try clear c6
 try clear c6b0
 try clear p6
 try clear c7
 try clear c7b0
 try clear c8
 try clear c8b0
 try clear c8b1
 try clear c9
 try clear c10
 try clear c17
 try clear c17b0
 try clear c20
 try clear hcz16_0
 try clear hcz16_1
 try clear hcz22_0
 try clear hcz22_1
 try clear hcz24_0
 try clear hcz24_1
 try clear hfz16_0
 try clear hfz16_1
 try clear hfz22_0
 try clear hfz22_1
 try clear hfz24_0
 try clear hfz24_1
 try clear hx100_0
 try clear p2
 try clear p3
 try clear p100
 try clear p6
 try clear q3
 try clear q100
 obtain ⟨kq, x39_17, rfl, HA, HJ17, HO_3, BK109, HK, HB⟩ := hcut
 rcases kq with _ | kj17
 · exact absurd HA.out (by simp [impl_Net_ways.j1])
 have H := HA.out
 clear HA
 simp only [impl_Net_ways.j1] at H
 by_cases c26 : x39_17 = true
 rotate_left
 · replace c26 := Bool.eq_false_iff.mpr c26
   subst c26
   rw [if_neg nf] at H
   have H' := q0 H
   clear H
   go_wp2
   go_roundg kj17
   case measure => have := HK1.out; have := HJ17.out; omega
   case rel => exact ⟨(x3_1), (wrap64 (x27_1 + 1)), qs, H', ⟨by have := HK1.out; have := HJ17.out; omega⟩, ⟨qv HO_3.out⟩, ⟨qk BK109.out⟩, ⟨qp HK.out⟩, ⟨qb HB.out⟩⟩
 subst c26
 rw [if_pos rfl] at H
 obtain ⟨t103, A27, H⟩ := ob H
 obtain ⟨y104, hy104⟩ : ∃ y_ : List Int, y_ = (([x27_1] : List Int)) := ⟨_, rfl⟩
 replace H : (if t103.length + y104.length < 17592186044416 then ((impl_Net_ways.f kj17 a0_0 l0_1 (t103 ++ y104) a2 x3_1).bind fun t105 => (impl_Net_ways.l0 kj17 l1 a2 t105 (rd l1 (ji5)) a0_0 (wrap64 (x27_1 + 1)) a0_0 l0_1)) else (none)) = some r := qy H hy104
 have Ny104 := q0 hy104
 clear hy104
 obtain ⟨c28, H⟩ : (t103.length + y104.length < 17592186044416) ∧ _ := og H
 have LMc28 := q0 c28
 clear c28
 obtain ⟨y117, hy117⟩ : ∃ y_ : List Int, y_ = (t103 ++ y104) := ⟨_, rfl⟩
 replace H : ((impl_Net_ways.f kj17 a0_0 l0_1 y117 a2 x3_1).bind fun t105 => (impl_Net_ways.l0 kj17 l1 a2 t105 (rd l1 (ji5)) a0_0 (wrap64 (x27_1 + 1)) a0_0 l0_1)) = some r := qy H hy117
 have Ny117 := q0 hy117
 clear hy117
 obtain ⟨t105, A29, H⟩ := ob H
 have H' := q0 H
 clear H
 obtain ⟨Ao30, co30, eo30⟩ := Kd.S_slice HO_3.out
 subst eo30
 try go_wp2
 replace HO_3 := q0 (Kd.S_drew HO_3.out)
 replace BK109 := q0 (blk_drew BK109.out)
 replace HK := q0 (Kept.drew HK.out)
 replace HB := q0 (below_drew1 HB.out)
 refine start_ (n := 10) (S := fun w' => w'.cell? ⟨gb109, 0, none⟩ = some (.int .i64 a0_0) ∧ w'.cell? ⟨gb109, 1, none⟩ = some (.slice A0_1 l0_1.length c0_1)) (ds := []) (ba 10 0) (by kernel_rfl) rfl (by kernel_rfl) ⟨bca BK109, bcb BK109⟩ (fun hHeld => ?_); refine with_tabW impl_Net_ways.tab8 impl_Net_ways.bits8 (fun HT_ HW_ => ?_)
 generalize wc.drew = w31 at HO_3 BK109 HK HB hHeld ⊢
 refine pU 1 41 10 2 HT_ ?_
 refine pU 3 43 10 10 HT_ ?_
 refine pU 6 46 10 74 HT_ ?_
 refine pU 7 47 10 202 HT_ ?_
 refine tU 0 40 10 203 HT_ HW_ hHeld ?_
 refine join_ (σ := Value × Value) 3 (ba 10 223) (fun s_ => [(42, s_.1), (44, s_.2)]) (fun s_ w' => (w'.cell? ⟨gb109, 0, none⟩ = some (.int .i64 a0_0) ∧ w'.cell? ⟨gb109, 1, none⟩ = some (.slice A0_1 l0_1.length c0_1)) ∧ (Kd.R (Kd.int .i64) 3 w' w0.heap.size (fun k_ => (P3_ k_ ∨ w.heap.size ≤ k_) ∧ some k_ ≠ (s_.2 : Value).ownBlock ∧ some k_ ≠ (.slice Ao30 x3_1.length co30 : Value).ownBlock) s_.1 t103) ∧ (Kd.R (Kd.int .i64) 3 w' w0.heap.size (fun k_ => (P3_ k_ ∨ w.heap.size ≤ k_) ∧ some k_ ≠ (s_.1 : Value).ownBlock ∧ some k_ ≠ (.slice Ao30 x3_1.length co30 : Value).ownBlock) s_.2 y104) ∧ (Kd.S (Kd.slice 3 (Kd.int .i64)) 60 w' w0.heap.size (fun k_ => (P3_ k_ ∨ w.heap.size ≤ k_) ∧ some k_ ≠ (s_.1 : Value).ownBlock ∧ some k_ ≠ (s_.2 : Value).ownBlock) (.slice Ao30 x3_1.length co30) x3_1) ∧ (w'.heap[gb109]? = some (.cells #[.int .i64 a0_0, .slice A0_1 l0_1.length c0_1] 25 (0, 0))) ∧ (Kept w w' (fun k_ => P3_ k_)) ∧ (Below w0.heap.size w0 w')) ?_ ?_
 rotate_left
 · intro hCont
   refine two_ (i := 2) (j := 4) (Ni := some 42) (Nj := some 44) (ba 10 207) (ba 10 219) rfl rfl rfl rfl (two_of HT_.out (by kernel_rfl)) (by decide) (by decide) (fun K hK => ?_) (fun K hK => ?_)
   · skip
     refine goes_ Try.func121 (by kernel_rfl) rfl #[.slice (some ad100) l1.length c1] (by rfl) rfl rfl qm ?_
     with_reducible refine (slices_Clone_int.calls _ _ l1 t103 _ ?side1 ?side2 A27.out).mono ?_
     (case side1 => exact Kd.C_kept_now HR1.out (qp HK.out))
     (case side2 => exact HC1.out)
     rintro e w32 ⟨v119, rfl, ho0, hb⟩
     refine ⟨_, rfl, ?_⟩
     have HO120 := q0 (Kd.R_lower (Kd.R_new' (Kd.R_newM (M := fun k_ => (P3_ k_ ∨ w.heap.size ≤ k_)) ho0 (by first | exact HK.out.1 | exact (qp HK.out).1) (fun k_ h_ => .inr h_)) (Kd.S_lt (qv HO_3.out))) (below_size (qb HB.out)))
     replace HO_3 := q0 (Kd.S_elder' (qv HO_3.out) (Kd.R_base ho0) hb)
     replace BK109 := kd BK109 hb
     replace HK := q0 (Kept.below (S := (fun k_ => P3_ k_)) (qp HK.out) hb)
     replace HB := bp HB hb
     (try clear hb)
     (try clear hb2)
     (try clear hk)
     (try clear hi)
     (try clear ho0)
     refine hK.out _ _ ⟨bca BK109, bcb BK109⟩ (fun hHeld => ?_)
     clear hK K
     refine nu 42 ?_
     refine one_ (i := 4) (N := some 44) (ba 10 223) rfl rfl (one_of HT_.out (by kernel_rfl)) (by decide) (fun K hK => ?_)
     refine Kd.R_lit_step (Kd.int .i64) _ 3 ?hg (N := 44) ?hd (xs := ([x27_1] : List Int)) (inner := [.int .i64 x27_1]) (ok := fun _ => True) (okp := fun _ => True) ?hr ?hp (fun _ hk => hk) trivial (Below.refl _ _) (Nat.le_refl _) (by simp) ?_; (case hd => rfl); (case hg => rfl); (case hr => first | (go_simp; done) | (go_simp; rfl)); (case hp => exact (Reps.one (show Kd.M (Kd.int .i64) _ _ _ x27_1 [.int .i64 x27_1] from rfl) (Reps.none _ _)))
     intro v121 w33 ho34 hb hg_ hnew_
     clear hg_ hnew_
     (first | rw [← Ny104.out] at ho34 | (simp only [Int.reduceToNat] at ho34; rw [← Ny104.out] at ho34))
     have HO122 := q0 (Kd.R_lower (Kd.R_new' (Kd.R_new' (Kd.R_newM (M := fun k_ => (P3_ k_ ∨ w.heap.size ≤ k_)) ho34 (by first | exact HK.out.1 | exact (qp HK.out).1) (fun k_ h_ => .inr h_)) (Kd.S_lt (qv HO_3.out))) (Kd.R_lt (qr HO120.out))) (below_size (qb HB.out)))
     replace HO_3 := q0 (Kd.S_elder' (qv HO_3.out) (Kd.R_base ho34) hb)
     replace HO120 := q0 (Kd.R_elder' (qr HO120.out) (Kd.R_base ho34) hb)
     replace BK109 := kd BK109 hb
     replace HK := q0 (Kept.below (S := (fun k_ => P3_ k_)) (qp HK.out) hb)
     replace HB := bp HB hb
     clear hb ho34
     refine hK.out _ _ ⟨bca BK109, bcb BK109⟩ (fun hHeld => ?_)
     clear hK K
     refine nu 44 ?_
     exact norm_ (by simp only [putAll, Act.put, List.setIfInBounds_toArray, List.set_cons_zero, List.set_cons_succ]) (hCont (v119, v121) _ ⟨hHeld, (by (with_reducible repeat (first | apply Kd.R_alloc | apply Kd.R_drewN | apply Kd.R_drew)); exact Kd.R_mono HO120.out (fun _ hk => ⟨hk.1.1.1, ⟨hk.2, hk.1.2⟩⟩)), (by (with_reducible repeat (first | apply Kd.R_alloc | apply Kd.R_drewN | apply Kd.R_drew)); exact Kd.R_mono HO122.out (fun _ hk => ⟨hk.1.1.1, ⟨hk.2, hk.1.2⟩⟩)), (by (with_reducible repeat (first | apply Kd.S_alloc | apply Kd.S_drewN | apply Kd.S_drew)); exact Kd.S_mono HO_3.out (fun _ hk => ⟨hk.1.1, ⟨hk.1.2, hk.2⟩⟩)), (qk BK109.out), (qp HK.out), (qb HB.out)⟩)
   · skip
     refine Kd.R_lit_step (Kd.int .i64) _ 3 ?hg (N := 44) ?hd (xs := ([x27_1] : List Int)) (inner := [.int .i64 x27_1]) (ok := fun _ => True) (okp := fun _ => True) ?hr ?hp (fun _ hk => hk) trivial (Below.refl _ _) (Nat.le_refl _) (by simp) ?_; (case hd => rfl); (case hg => rfl); (case hr => first | (go_simp; done) | (go_simp; rfl)); (case hp => exact (Reps.one (show Kd.M (Kd.int .i64) _ _ _ x27_1 [.int .i64 x27_1] from rfl) (Reps.none _ _)))
     intro v121 w32 ho33 hb hg_ hnew_
     clear hg_ hnew_
     (first | rw [← Ny104.out] at ho33 | (simp only [Int.reduceToNat] at ho33; rw [← Ny104.out] at ho33))
     have HO122 := q0 (Kd.R_lower (Kd.R_new' (Kd.R_newM (M := fun k_ => (P3_ k_ ∨ w.heap.size ≤ k_)) ho33 (by first | exact HK.out.1 | exact (qp HK.out).1) (fun k_ h_ => .inr h_)) (Kd.S_lt (qv HO_3.out))) (below_size (qb HB.out)))
     replace HO_3 := q0 (Kd.S_elder' (qv HO_3.out) (Kd.R_base ho33) hb)
     replace BK109 := kd BK109 hb
     replace HK := q0 (Kept.below (S := (fun k_ => P3_ k_)) (qp HK.out) hb)
     replace HB := bp HB hb
     clear hb ho33
     refine hK.out _ _ ⟨bca BK109, bcb BK109⟩ (fun hHeld => ?_)
     clear hK K
     refine nu 44 ?_
     refine one_ (i := 2) (N := some 42) (ba 10 223) rfl rfl (one_of HT_.out (by kernel_rfl)) (by decide) (fun K hK => ?_)
     refine goes_ Try.func121 (by kernel_rfl) rfl #[.slice (some ad100) l1.length c1] (by rfl) rfl rfl qm ?_
     with_reducible refine (slices_Clone_int.calls _ _ l1 t103 _ ?side1 ?side2 A27.out).mono ?_
     (case side1 => exact Kd.C_kept_now HR1.out (qp HK.out))
     (case side2 => exact HC1.out)
     rintro e w34 ⟨v119, rfl, ho0, hb⟩
     refine ⟨_, rfl, ?_⟩
     have HO120 := q0 (Kd.R_lower (Kd.R_new' (Kd.R_new' (Kd.R_newM (M := fun k_ => (P3_ k_ ∨ w.heap.size ≤ k_)) ho0 (by first | exact HK.out.1 | exact (qp HK.out).1) (fun k_ h_ => .inr h_)) (Kd.S_lt (qv HO_3.out))) (Kd.R_lt (qr HO122.out))) (below_size (qb HB.out)))
     replace HO_3 := q0 (Kd.S_elder' (qv HO_3.out) (Kd.R_base ho0) hb)
     replace HO122 := q0 (Kd.R_elder' (qr HO122.out) (Kd.R_base ho0) hb)
     replace BK109 := kd BK109 hb
     replace HK := q0 (Kept.below (S := (fun k_ => P3_ k_)) (qp HK.out) hb)
     replace HB := bp HB hb
     (try clear hb)
     (try clear hb2)
     (try clear hk)
     (try clear hi)
     (try clear ho0)
     refine hK.out _ _ ⟨bca BK109, bcb BK109⟩ (fun hHeld => ?_)
     clear hK K
     refine nu 42 ?_
     exact norm_ (by simp only [putAll, Act.put, List.setIfInBounds_toArray, List.set_cons_zero, List.set_cons_succ]) (hCont (v119, v121) _ ⟨hHeld, (by (with_reducible repeat (first | apply Kd.R_alloc | apply Kd.R_drewN | apply Kd.R_drew)); exact Kd.R_mono HO120.out (fun _ hk => ⟨hk.1.1.1, ⟨hk.2, hk.1.2⟩⟩)), (by (with_reducible repeat (first | apply Kd.R_alloc | apply Kd.R_drewN | apply Kd.R_drew)); exact Kd.R_mono HO122.out (fun _ hk => ⟨hk.1.1.1, ⟨hk.2, hk.1.2⟩⟩)), (by (with_reducible repeat (first | apply Kd.S_alloc | apply Kd.S_drewN | apply Kd.S_drew)); exact Kd.S_mono HO_3.out (fun _ hk => ⟨hk.1.1, ⟨hk.2, hk.1.2⟩⟩)), (qk BK109.out), (qp HK.out), (qb HB.out)⟩)
 rintro ⟨v119, v121⟩ w35 ⟨hS_, h0_, h1_, h2_, h3_, h4_, h5_⟩
 have n0_ : Aside0 (Kd.R (Kd.int .i64) 3 w35 w0.heap.size (fun k_ => (P3_ k_ ∨ w.heap.size ≤ k_) ∧ some k_ ≠ (v121 : Value).ownBlock ∧ some k_ ≠ (.slice Ao30 x3_1.length co30 : Value).ownBlock) v119 t103) := ⟨h0_⟩
 have n1_ : Aside0 (Kd.R (Kd.int .i64) 3 w35 w0.heap.size (fun k_ => (P3_ k_ ∨ w.heap.size ≤ k_) ∧ some k_ ≠ (v119 : Value).ownBlock ∧ some k_ ≠ (.slice Ao30 x3_1.length co30 : Value).ownBlock) v121 y104) := ⟨h1_⟩
 have n2_ : Aside0 (Kd.S (Kd.slice 3 (Kd.int .i64)) 60 w35 w0.heap.size (fun k_ => (P3_ k_ ∨ w.heap.size ≤ k_) ∧ some k_ ≠ (v119 : Value).ownBlock ∧ some k_ ≠ (v121 : Value).ownBlock) (.slice Ao30 x3_1.length co30) x3_1) := ⟨h2_⟩
 have n3_ : Aside0 (w35.heap[gb109]? = some (.cells #[.int .i64 a0_0, .slice A0_1 l0_1.length c0_1] 25 (0, 0))) := ⟨h3_⟩
 have n4_ : Aside0 (Kept w w35 (fun k_ => P3_ k_)) := ⟨h4_⟩
 have n5_ : Aside0 (Below w0.heap.size w0 w35) := ⟨h5_⟩
 clear HO_3
 clear BK109
 clear HK
 clear HB
 clear h0_ h1_ h2_ h3_ h4_ h5_
 have HO120 := n0_
 have HO122 := n1_
 have HO_3 := n2_
 have BK109 := n3_
 have HK := n4_
 have HB := n5_
 clear n0_ n1_ n2_ n3_ n4_ n5_
 have hHeld : w35.cell? ⟨gb109, 0, none⟩ = some (.int .i64 a0_0) ∧ w35.cell? ⟨gb109, 1, none⟩ = some (.slice A0_1 l0_1.length c0_1) := hS_
 obtain ⟨Ao37, co37, eo37⟩ := Kd.R_slice HO122.out
 (first | subst eo37 | (injection eo37 with f1_ f2_ f3_; have f4_ := f1_.symm; have f5_ := f3_.symm; clear f1_ f2_ f3_; subst f4_; subst f5_))
 refine norm_ (a' := ?_) ?_ ?_
 rotate_left
 · simp only [putAll, Act.put, List.setIfInBounds_toArray, List.set_cons_zero, List.set_cons_succ]
   rfl
 refine one_ (i := 5) (N := some 45) (ba 10 255) rfl rfl (one_of HT_.out (by kernel_rfl)) (by decide) (fun K hK => ?_)
 refine Kd.R_append_rows_step (Kd.int .i64) (w0 := w0) w0.heap.size (by rfl) (.tmp 42) (.tmp 44) 60 3 (.int .i64 0) 8 rfl Try.underlying60 info3 rfl (by decide) (by omega) v119 t103 y104 _ _ _ (fun k_ => (P3_ k_ ∨ w.heap.size ≤ k_) ∧ some k_ ≠ (.slice Ao30 x3_1.length co30 : Value).ownBlock ∧ some k_ ≠ (.slice Ao37 y104.length co37 : Value).ownBlock) (fun _ => False) rfl rfl ?aO ?aR (fun _ _ h => h) (fun _ h => h.elim) ?aF ?aB ?aS ?aL ?_
 (case aR => repeat (first | exact (Kd.R_reads' HO122.out).2.2 | (with_reducible refine Kd.C_alloc ?_ _) | (with_reducible refine Kd.C_drewN ?_ _) | (with_reducible refine Kd.C_drew ?_)))
 (case aB => exact (qb HB.out))
 (case aF => exact (fun k_ hk => ⟨(.inr (Nat.le_trans (by first | exact HK.out.1 | exact (qp HK.out).1) hk)), Kd.fresh' (Kd.S_lt (qv HO_3.out)) k_ hk, Kd.fresh' (Kd.R_lt (qr HO122.out)) k_ hk⟩))
 (case aO => exact (by (with_reducible repeat (first | apply Kd.R_alloc | apply Kd.R_drewN | apply Kd.R_drew)); exact Kd.R_mono HO120.out (fun _ hk => ⟨hk.1, ⟨hk.2.2, hk.2.1⟩⟩)))
 (case aS => exact (below_size (qb HB.out)))
 (case aL => have := LMc28.out; omega)
 intro v123 w36 ho hb hg hat
 rw [← Ny117.out] at ho
 replace HO_3 := q0 (Kd.S_after (ok := (fun k_ => (P3_ k_ ∨ w.heap.size ≤ k_) ∧ some k_ ≠ (.slice Ao37 y104.length co37 : Value).ownBlock)) (by (with_reducible repeat (first | apply Kd.S_alloc | apply Kd.S_drewN | apply Kd.S_drew)); exact Kd.S_mono HO_3.out (fun _ hk => ⟨⟨hk.1, hk.2.2⟩, hk.2.1⟩)) hg hat)
 replace BK109 := q0 (blk_grown (g := gb109) (o := .cells #[.int .i64 a0_0, .slice A0_1 l0_1.length c0_1] 25 (0, 0)) (qk BK109.out) hg (Kd.R_ne HO120.out BK109.out (by decide)))
 replace HO122 := q0 (Kd.R_after (ok := (fun k_ => (P3_ k_ ∨ w.heap.size ≤ k_) ∧ some k_ ≠ (.slice Ao30 x3_1.length co30 : Value).ownBlock)) (by (with_reducible repeat (first | apply Kd.R_alloc | apply Kd.R_drewN | apply Kd.R_drew)); exact Kd.R_mono HO122.out (fun _ hk => ⟨⟨hk.1, hk.2.2⟩, hk.2.1⟩)) hg hat)
 replace HB := q0 (hb)
 replace HK := q0 (Kept.of_grown (S := (fun k_ => P3_ k_)) hg (qp HK.out) (fun k_ e_ => (HO120.out.1 k_ e_).1))
 have HO124 := q0 (ho)
 clear HO120
 clear ho hb hg hat
 obtain ⟨Ao38, co38, eo38⟩ := Kd.R_slice HO124.out
 (first | subst eo38 | (injection eo38 with f1_ f2_ f3_; have f4_ := f1_.symm; have f5_ := f3_.symm; clear f1_ f2_ f3_; subst f4_; subst f5_))
 refine hK.out _ _ ⟨bca BK109, bcb BK109⟩ (fun hHeld => ?_)
 clear hK K
 refine nu 45 ?_
 refine one_ (i := 8) (N := some 48) (ba 10 511) rfl rfl (one_of HT_.out (by kernel_rfl)) (by decide) (fun K hK => ?_)
 refine goes_ Try.func105 (by kernel_rfl) rfl #[.agg #[.int .i64 a0_0, .slice A0_1 l0_1.length c0_1], .slice Ao38 y117.length co38, .int .i64 a2, .slice Ao30 x3_1.length co30] (by rfl) rfl rfl qm ?_
 with_reducible refine (ih kj17 (by have := HK1.out; have := HJ17.out; omega) a0_0 _ _ l0_1 _ _ y117 a2 (fun k_ => (((P3_ k_ ∨ w.heap.size ≤ k_) ∧ some k_ ≠ (.slice Ao37 y104.length co37 : Value).ownBlock) ∧ some k_ ≠ (.slice Ao38 y117.length co38 : Value).ownBlock) ∧ k_ ≠ gb109) (.slice Ao30 x3_1.length co30) x3_1 t105 w0 _ ?side1 ?side2 ?side3 ?side4 ?side5 ?side6 A29.out).mono ?_
 (case side1 => exact qb HB.out)
 (case side2 => exact Kd.C_kept_call HR0_1.out (qp HK.out) (fun k_ hs_ => hs_.1.1.1))
 (case side3 => exact HC0_1.out)
 (case side4 => exact Kd.C_kept_own (Kd.R_tight rfl HO124.out) (fun k_ hk_ hs_ => hs_.1.2 hk_))
 (case side5 => exact (Kd.R_reads' HO124.out).2.1)
 (case side6 => exact Kd.S_types (qv HO_3.out) BK109.out (by decide))
 rintro e w39 ⟨v125, rfl, ho0, hb, hkp⟩
 refine ⟨_, rfl, ?_⟩
 replace BK109 := q0 (blk_kept (qk BK109.out) hkp (fun hs_ => hs_.2 rfl))
 have HO126 := q0 (Kd.S_mono (ok' := fun k_ => (P3_ k_ ∨ w.heap.size ≤ k_)) ho0 (fun k_ hk_ => Or.elim hk_ (fun hs_ => hs_.1.1.1) (fun hn_ => .inr (Nat.le_trans (by first | exact HK.out.1 | exact (qp HK.out).1) hn_))))
 replace HK := q0 (Kept.then_ (S := (fun k_ => P3_ k_)) (qp HK.out) hkp (fun k_ hs_ => hs_.1.1.1))
 replace HB := q0 (hb)
 clear HO_3 HO122 HO124
 clear hb hkp ho0
 refine hK.out _ _ ⟨bca BK109, bcb BK109⟩ (fun hHeld => ?_)
 clear hK K
 refine nu 48 ?_
 refine pU 9 3 10 1023 HT_ ?_
 refine done_ (done_of HT_.out (by kernel_rfl)) ?_
 try go_wp2
 go_roundg kj17
 case measure => have := HK1.out; have := HJ17.out; omega
 case rel => exact ⟨(t105), (wrap64 (x27_1 + 1)), qs, H', ⟨by have := HK1.out; have := HJ17.out; omega⟩, ⟨qv HO126.out⟩, ⟨qk BK109.out⟩, ⟨qp HK.out⟩, ⟨qb HB.out⟩⟩

set_option maxHeartbeats 8000000 in
set_option maxRecDepth 100000 in
theorem impl_Net_all.calls (k : Nat) (a0_0 : Int) (A0_1 : Option Addr) (c0_1 : Nat) (l0_1 : List (STie)) (a1 : Int) (a2 : Int) (r : List (List Int)) (w : World) (hr0_1 : Kd.C kTie w A0_1 l0_1.length l0_1) (hc0_1 : l0_1.length ≤ c0_1) (h : impl_Net_all.f k a0_0 l0_1 a1 a2 = some r) :
    Calls Try.prog 83 #[.agg #[.int .i64 a0_0, .slice A0_1 l0_1.length c0_1], .int .i64 a1, .int .i64 a2] w fun e w' => ∃ v0_ : Value, e = .returned (v0_) ∧ Kd.S (Kd.slice 3 (Kd.int .i64)) 60 w' w.heap.size (fun _ => True) v0_ r ∧ Below w.heap.size w w' := by
 have hu25 := Try.underlying25
 have HR0_1 := q0 hr0_1
 have HC0_1 := q0 hc0_1
 clear hr0_1 hc0_1
 have HB := q0 (Below.refl w.heap.size w)
 unfold impl_Net_all.f at h
 obtain ⟨t100, A1, h⟩ := Option.bind_eq_some_iff.mp h
 obtain ⟨t101, A2, h⟩ := Option.bind_eq_some_iff.mp h
 obtain rfl := Option.some.inj h
 clear h
 have A3 := q0 A1
 have A4 := q0 A2
 clear A1 A2
 go_enter Try.func83, Try.ntmps83
 go_wp2_with (first | ((with_reducible refine gd 3 ?_); refine be 3 #[.int .i64 a0_0, .slice A0_1 l0_1.length c0_1] 25 ?_; intro gb101 hg w3 hbox hb; have BK101 := q0 (hbox); have GE101 := gw HB hg; replace HB := bp HB hb; clear hb hbox hg; obtain ⟨hcz1_0, hcz1_1, hfz1_0, hfz1_1⟩ := b2 BK101) | ((with_reducible refine gd 10 ?_); refine Kd.R_lit (Kd.int .i64) _ 3 ?hg (N := 10) ?hd (xs := ([a1] : List Int)) (inner := [.int .i64 a1]) (ok := fun _ => True) (okp := fun _ => True) ?hr ?hp (fun _ hk => hk) trivial (Below.refl _ _) (Nat.le_refl _) (by simp) ?_; (case hd => rfl); (case hg => rfl); (case hr => first | (go_simp; done) | (go_simp; rfl)); (case hp => exact (Reps.one (show Kd.M (Kd.int .i64) _ _ _ a1 [.int .i64 a1] from rfl) (Reps.none _ _))); intro v102 w4 ho4 hb hg_ hnew_; clear hg_ hnew_; have HO103 := q0 (Kd.R_lower ho4 (below_size (qb HB.out))); replace BK101 := kd BK101 hb; replace HB := bp HB hb; clear hb ho4; obtain ⟨Ao10, co10, eo10⟩ := Kd.R_slice HO103.out; subst eo10) | ((with_reducible refine gd 12 ?_); refine Kd.S_lit (Kd.slice 3 (Kd.int .i64)) _ 60 ?hg (N := 12) ?hd (xs := ([] : List (List Int))) (inner := []) (ok := fun _ => True) (okp := fun _ => True) ?hr ?hp (fun _ hk => hk) trivial (Below.refl _ _) (Nat.le_refl _) (by simp) ?_; (case hd => rfl); (case hg => rfl); (case hr => first | (go_simp; done) | (go_simp; rfl)); (case hp => exact (Reps.none _ _)); intro v104 w5 ho5 hb hg_ hnew_; clear hg_ hnew_; have HO105 := q0 (Kd.S_lower ho5 (below_size (qb HB.out))); replace HO103 := q0 (Kd.R_elder' (qr HO103.out) (Kd.S_base ho5) hb); replace BK101 := kd BK101 hb; replace HB := bp HB hb; clear hb ho5) | ((with_reducible refine gf 105 ?_); refine gl 13 Try.func105 #[.agg #[.int .i64 a0_0, .slice A0_1 l0_1.length c0_1], .slice Ao10 ([a1] : List Int).length co10, .int .i64 a2, v104] ?_; (with_reducible refine (impl_Net_ways.calls k a0_0 _ _ l0_1 _ _ ([a1] : List Int) a2 (fun k_ => some k_ = v104.ownBlock) v104 ([] : List (List Int)) t100 w _ ?side1 ?side2 ?side3 ?side4 ?side5 ?side6 A3.out).mono ?_); (case side1 => exact qb HB.out); (case side2 => exact Kd.C_kept_came (Kd.heap_iso _ (Kd.heap_pair (Kd.heap_int .i64) (Kd.heap_int .i64))) HR0_1.out (qb HB.out) (fun k_ h_ => Kd.S_base HO105.out k_ h_.symm)); (case side3 => exact HC0_1.out); (case side4 => exact Kd.C_kept_own (ok := fun k_ => True ∧ some k_ ≠ v104.ownBlock) (qr HO103.out) (fun k_ hk_ hs_ => hk_.2 hs_)); (case side5 => exact (Kd.R_reads' HO103.out).2.1); (case side6 => exact S_void (qv HO105.out)); rintro e w6 ⟨v106, rfl, ho0, hb, hkp⟩; refine ⟨_, rfl, ?_⟩; have HO107 := q0 (Kd.S_mono (ok' := fun _ => True) ho0 (fun _ _ => trivial)); clear BK101; replace HB := q0 (hb); clear HO105 HO103; clear hb hkp ho0) | ((with_reducible refine gf 106 ?_); refine gl 15 Try.func106 #[v106, .func (.func 107) #[] #[]] ?_; (with_reducible refine (slices_SortFunc_Row.calls k v106 t100 t101 w _ ?side1 ?side2 A4.out).mono ?_); (case side1 => exact qb HB.out); (case side2 => exact qv HO107.out); rintro e w7 ⟨rfl, ho0, hb⟩; refine ⟨_, rfl, ?_⟩; replace HO107 := q0 ho0; replace HB := q0 hb; clear ho0 hb))
 go_ret
 exact ⟨_, rfl, qv HO107.out, qb HB.out⟩

theorem S_under {α : Type} {d : Kd α} {e : Nat} {w : World} {base : Nat} {ok : Nat → Prop} {v : Value} {xs : List α} (h : Kd.S d e w base ok v xs) : Kd.S d e w base (fun k => ok k ∧ k < w.heap.size) v xs := Kd.S_mono (Kd.S_bound h) (fun k hk => ⟨hk.1, hk.2.2.1⟩)
theorem S_above {α : Type} {d : Kd α} {e : Nat} {w : World} {base : Nat} {ok : Nat → Prop} {v : Value} {xs : List α} (h : Kd.S d e w base ok v xs) : Kd.S d e w base (fun k => ok k ∧ base ≤ k) v xs := Kd.S_mono (Kd.S_bound h) (fun k hk => ⟨hk.1, hk.2.1⟩)
/-- What was made before a call lies apart from what the call makes. -/
theorem S_split {α β : Type} {d : Kd α} {d' : Kd β} {e e' : Nat} {W w1 : World} {base : Nat} {ok ok' : Nat → Prop} {u v : Value} {xs : List α} {ys : List β} (h8 : Kd.S d e W base ok u xs) (h10 : Kd.S d' e' w1 W.heap.size ok' v ys) :
    ∃ M, Kd.S d e W base (fun k => ok k ∧ k < M) u xs ∧ Kd.S d' e' w1 W.heap.size (fun k => ok' k ∧ M ≤ k) v ys := ⟨W.heap.size, S_under h8, S_above h10⟩
/-- A row of a row of rows is written: the others stay. -/
theorem S_row {e e' : Nat} {w : World} {base : Nat} {ok : Nat → Prop} {ad : Addr} {n c : Nat} {xs : List (List Int)} (h : Kd.S (Kd.slice e' (Kd.int .i64)) e w base ok (.slice (some ad) n c) xs) (i : Int) (h0 : 0 ≤ i) (h1 : i < (xs.length : Int)) :
    ∃ u, w.cell? (ad.add i.toNat) = some u ∧ Kd.R (Kd.int .i64) e' w base (fun k => some k = u.ownBlock) u (rd_LI xs i) ∧ (∀ k, some k = u.ownBlock → ok k) ∧
      ∀ (w' : World) (y : List Int), Kept w w' (fun k => some k = u.ownBlock) → Kd.R (Kd.int .i64) e' w' base (fun k => some k = u.ownBlock ∨ w.heap.size ≤ k) u y → Kd.S (Kd.slice e' (Kd.int .i64)) e w' base ok (.slice (some ad) n c) (xs.set i.toNat y) := by
  obtain ⟨g, rfl⟩ := Kd.R_head (Kd.S_R h)
  obtain ⟨f, hf⟩ := h
  have hf2 := Kd.R_bound hf
  obtain ⟨hok, inner, ho, hr⟩ := hf2
  have hil : i.toNat < xs.length := by omega
  have hz : xs.zipIdx[i.toNat]? = some (xs[i.toNat], i.toNat) := Kd.zip_at (List.getElem?_eq_getElem hil)
  have hM := hr.2 i.toNat _ hz
  obtain ⟨u, hu, hR⟩ := hM
  have hu0 : inner[i.toNat]? = some u := by
    have e0 : ((inner.drop (i.toNat * 1)).take 1)[0]? = some u := by
      have : (inner.drop (i.toNat * 1)).take 1 = [u] := hu
      rw [this]; rfl
    rw [List.getElem?_take, if_pos (by omega), List.getElem?_drop, Nat.mul_one, Nat.add_zero] at e0
    exact e0
  have hrd : rd_LI xs i = xs[i.toNat] := by
    unfold rd_LI
    rw [List.getD_eq_getElem?_getD, List.getElem?_eq_getElem hil]; rfl
  refine ⟨u, ho.cells (g := g) (by simp [Value.ownBlock]) _ u hu0, by rw [hrd]; exact Kd.R_tight rfl hR, fun k hk => (hR.1 k hk.symm).1.1.1, fun w' y hK hy => ?_⟩
  have hlen : (xs.set i.toNat y).zipIdx.length = xs.zipIdx.length := by simp
  refine ⟨f, fun k hk => (hok k hk).1, inner, ?_, by rw [hlen]; exact hr.1, fun j p hj => ?_⟩
  · rw [hlen]
    exact own_move ho (fun k hk => hK.2 k (own_lt ho k hk) (fun hs => (hR.1 k hs.symm).1.2 hk.symm))
  · by_cases ej : j = i.toNat
    · subst ej
      have hp : p = (y, i.toNat) := by
        have := Kd.zip_at (xs := xs.set i.toNat y) (j := i.toNat) (p := y) (by simp [hil])
        rw [this] at hj
        exact (Option.some.inj hj).symm
      subst hp
      exact ⟨u, hu, Kd.R_mono (Kd.R_tight rfl hy) (fun k hk => ⟨⟨(hR.1 k hk.symm).1.1.1, (hR.1 k hk.symm).1.2⟩, (hR.1 k hk.symm).2⟩)⟩
    · have hj' : xs.zipIdx[j]? = some p := by
        rw [List.getElem?_zipIdx, List.getElem?_set_ne (Ne.symm ej)] at hj
        rw [List.getElem?_zipIdx]; exact hj
      have hp2 : p.2 = j := by
        rw [List.getElem?_zipIdx] at hj'
        obtain ⟨x, _, rfl⟩ := Option.map_eq_some_iff.1 hj'
        simp
      have h2 := hr.2 j p hj'
      refine Kd.M_mono (Kd.slice e' (Kd.int .i64)) ?_ (Kd.M_move (Kd.slice e' (Kd.int .i64)) (fun k hk => hK.2 k hk.1.1.2.2.1 (fun hs => ej (by have := (hR.1 k hs.symm).2; have := hk.2; simp only at *; omega))) h2)
      exact fun k hk => ⟨⟨hk.1.1.1, hk.1.2⟩, hk.2⟩
set_option maxHeartbeats 8000000 in
set_option maxRecDepth 100000 in
theorem impl_TreeRings.calls (k : Nat) (a0_0 : Int) (A0_1 : Option Addr) (c0_1 : Nat) (l0_1 : List (STie)) (r : List (List Int)) (w : World) (hr0_1 : Kd.C kTie w A0_1 l0_1.length l0_1) (hc0_1 : l0_1.length ≤ c0_1) (h : impl_TreeRings.f k a0_0 l0_1 = some r) :
    Calls Try.prog 43 #[.agg #[.int .i64 a0_0, .slice A0_1 l0_1.length c0_1]] w fun e w' => ∃ v0_ : Value, e = .returned (v0_) ∧ Kd.S (Kd.slice 3 (Kd.int .i64)) 60 w' w.heap.size (fun _ => True) v0_ r ∧ Below w.heap.size w w' := by
 have hu25 := Try.underlying25
 have hu32 := Try.underlying32
 have HR0_1 := q0 hr0_1
 have HC0_1 := q0 hc0_1
 clear hr0_1 hc0_1
 have HB := q0 (Below.refl w.heap.size w)
 have H : ((some (([] : List (List Int)) : List (List Int))).bind fun y103 => ((impl_NetOk.f k a0_0 l0_1).bind fun t104 => (if t104 = true then ((impl_Net_tree.f k a0_0 l0_1).bind fun bt105 => (impl_TreeRings.l0 k y103 l0_1 (l0_1.length : Int) 0 bt105.1 bt105.2)) else (some y103)))) = some r := h
 clear h
 obtain ⟨y103, hy103⟩ : ∃ y_ : List (List Int), y_ = (([] : List (List Int))) := ⟨_, rfl⟩
 replace H : ((impl_NetOk.f k a0_0 l0_1).bind fun t104 => (if t104 = true then ((impl_Net_tree.f k a0_0 l0_1).bind fun bt105 => (impl_TreeRings.l0 k y103 l0_1 (l0_1.length : Int) 0 bt105.1 bt105.2)) else (some y103))) = some r := qy H hy103
 have Ny103 := q0 hy103
 clear hy103
 obtain ⟨t104, A2, H⟩ := ob H
 by_cases c3 : t104 = true
 rotate_left
 · replace c3 := Bool.eq_false_iff.mpr c3
   subst c3
   rw [if_neg nf] at H
   obtain rfl := Option.some.inj H
   go_enter Try.func43, Try.ntmps43
   go_wp2_with (first | ((with_reducible refine gd 1 ?_); refine be 1 #[.int .i64 a0_0, .slice A0_1 l0_1.length c0_1] 25 ?_; intro gb107 hg w43 hbox hb; have BK107 := q0 (hbox); have GW107 := gw HB hg; have GE107 := gw HB hg; replace HB := bp HB hb; clear hb hbox hg) | ((with_reducible refine gd 7 ?_); refine Kd.S_lit (Kd.slice 3 (Kd.int .i64)) _ 60 ?hg (N := 7) ?hd (xs := ([] : List (List Int))) (inner := []) (ok := fun _ => True) (okp := fun _ => True) ?hr ?hp (fun _ hk => hk) trivial (Below.refl _ _) (Nat.le_refl _) (by simp) ?_; (case hd => rfl); (case hg => rfl); (case hr => first | (go_simp; done) | (go_simp; rfl)); (case hp => exact (Reps.none _ _)); intro v108 w44 ho45 hb hg_ hnew_; clear hg_ hnew_; (first | rw [← Ny103.out] at ho45 | (simp only [Int.reduceToNat] at ho45; rw [← Ny103.out] at ho45)); have HO109 := q0 (Kd.S_lower ho45 (below_size (qb HB.out))); replace BK107 := kd BK107 hb; replace HB := bp HB hb; clear hb ho45; obtain ⟨hcz46_0, hcz46_1, hfz46_0, hfz46_1⟩ := b2 BK107) | ((with_reducible refine gf 37 ?_); refine gl 9 Try.func37 #[.agg #[.int .i64 a0_0, .slice A0_1 l0_1.length c0_1]] ?_; (with_reducible refine (impl_NetOk.calls k a0_0 _ _ l0_1 false _ ?side1 ?side2 A2.out).mono ?_); (case side1 => exact qc (Kd.C_below HR0_1.out HB.out)); (case side2 => exact HC0_1.out); rintro e w47 ⟨rfl, hb⟩; refine ⟨_, rfl, ?_⟩; replace HO109 := q0 (Kd.S_below (qv HO109.out) hb); replace BK107 := kd BK107 hb; replace HB := bp HB hb; (try clear hb); (try clear hb2); (try clear hk); (try clear hi)))
   go_ret
   exact ⟨_, qe, qv HO109.out, qb HB.out⟩
 subst c3
 rw [if_pos rfl] at H
 obtain ⟨⟨t105, t106⟩, A4, H⟩ := ob H
 have H' := q0 H
 clear H
 go_enter Try.func43, Try.ntmps43
 go_wp2_with (first | ((with_reducible refine gd 1 ?_); refine be 1 #[.int .i64 a0_0, .slice A0_1 l0_1.length c0_1] 25 ?_; intro gb107 hg w5 hbox hb; have BK107 := q0 (hbox); have GW107 := gw HB hg; have GE107 := gw HB hg; replace HB := bp HB hb; clear hb hbox hg) | ((with_reducible refine gd 7 ?_); refine Kd.S_lit (Kd.slice 3 (Kd.int .i64)) _ 60 ?hg (N := 7) ?hd (xs := ([] : List (List Int))) (inner := []) (ok := fun _ => True) (okp := fun _ => True) ?hr ?hp (fun _ hk => hk) trivial (Below.refl _ _) (Nat.le_refl _) (by simp) ?_; (case hd => rfl); (case hg => rfl); (case hr => first | (go_simp; done) | (go_simp; rfl)); (case hp => exact (Reps.none _ _)); intro v108 w6 ho7 hb hg_ hnew_; clear hg_ hnew_; (first | rw [← Ny103.out] at ho7 | (simp only [Int.reduceToNat] at ho7; rw [← Ny103.out] at ho7)); have HO109 := q0 (Kd.S_lower ho7 (below_size (qb HB.out))); replace BK107 := kd BK107 hb; replace HB := bp HB hb; clear hb ho7; obtain ⟨hcz8_0, hcz8_1, hfz8_0, hfz8_1⟩ := b2 BK107) | ((with_reducible refine gf 37 ?_); refine gl 9 Try.func37 #[.agg #[.int .i64 a0_0, .slice A0_1 l0_1.length c0_1]] ?_; (with_reducible refine (impl_NetOk.calls k a0_0 _ _ l0_1 true _ ?side1 ?side2 A2.out).mono ?_); (case side1 => exact qc (Kd.C_below HR0_1.out HB.out)); (case side2 => exact HC0_1.out); rintro e w9 ⟨rfl, hb⟩; refine ⟨_, rfl, ?_⟩; replace HO109 := q0 (Kd.S_below (qv HO109.out) hb); replace BK107 := kd BK107 hb; replace HB := bp HB hb; (try clear hb); (try clear hb2); (try clear hk); (try clear hi); obtain ⟨hcz10_0, hcz10_1, hfz10_0, hfz10_1⟩ := b2 BK107) | ((with_reducible refine gf 62 ?_); refine gl 13 Try.func62 #[.agg #[.int .i64 a0_0, .slice A0_1 l0_1.length c0_1]] ?_; (with_reducible refine (impl_Net_tree.calls k a0_0 _ _ l0_1 t105 t106 _ ?side1 ?side2 A4.out).mono ?_); (case side1 => exact qc (Kd.C_below HR0_1.out HB.out)); (case side2 => exact HC0_1.out); rintro e w11 ⟨v110, rfl, ho0, hb⟩; refine ⟨_, rfl, ?_⟩; replace HO109 := q0 (Kd.S_below (qv HO109.out) hb); have HO111 := q0 (Kd.R_lower ho0 (below_size (qb HB.out))); replace BK107 := kd BK107 hb; replace HB := bp HB hb; (try clear hb); (try clear hb2); (try clear hk); (try clear hi); (try clear ho0)) | ((with_reducible refine gd 4 ?_); refine be 4 #[.int .i64 0, .slice none 0 0] 25 ?_; intro gb112 hg w12 hbox hb; replace HO109 := q0 (Kd.S_below (qv HO109.out) hb); replace HO111 := q0 (Kd.R_below (qr HO111.out) hb); have BK112 := q0 (hbox); have GW112 := gw HB hg; have GE112 := gw HB hg; replace HB := bp HB hb; have NB107_112 := nl BK107 hg; have NB112_107 := ng BK107 hg; replace BK107 := kd BK107 hb; clear hb hbox hg; have hnb13 := NB112_107.out; have hnc13 := NB107_112.out; obtain ⟨hcz14_0, hcz14_1, hfz14_0, hfz14_1⟩ := b2 BK112; obtain ⟨Ao15, co15, eo15⟩ := Kd.R_slice HO111.out; subst eo15; obtain ⟨hcz16_0, hcz16_1, hfz16_0, hfz16_1⟩ := b2 BK107))
 go_loopg [3, 17] k (fun kq v3 v17 w' => ∃ (x3_1 : List (List Int)) (x17_1 : Int), v17 = .int .i64 x17_1 ∧ Aside0 (impl_TreeRings.l0 kq x3_1 l0_1 (l0_1.length : Int) x17_1 t105 t106 = some r) ∧ Aside0 (kq ≤ k) ∧ Aside0 (Kd.S (Kd.slice 3 (Kd.int .i64)) 60 w' w.heap.size (fun _ => True) v3 x3_1) ∧ Aside0 (Kd.R kTie 32 w' w.heap.size (fun _ => True) (.slice Ao15 t106.length co15) t106) ∧ Aside0 (w'.heap[gb107]? = some (.cells #[.int .i64 a0_0, (.slice A0_1 l0_1.length c0_1)] 25 (0, 0))) ∧ Aside0 (w'.heap[gb112]? = some (.cells #[.int .i64 t105, (.slice Ao15 t106.length co15)] 25 (0, 0))) ∧ Aside0 (Below w.heap.size w w'))
 case atStart => exact ⟨(y103), (0), qs, H', ⟨Nat.le_refl _⟩, ⟨by (with_reducible repeat (first | apply Kd.S_alloc | apply Kd.S_drewN | apply Kd.S_drew)); exact Kd.S_mono (Kd.S_far (p := ⟨gb112, 1, none⟩) (Kd.S_far (p := ⟨gb112, 0, none⟩) (Kd.S_types HO109.out BK112.out (by decide)) (fun _ hk => hk.2) (.int .i64 t105)) (fun _ hk => hk.2) (.slice Ao15 t106.length co15)) (fun _ hk => trivial)⟩, ⟨by (with_reducible repeat (first | apply Kd.R_alloc | apply Kd.R_drewN | apply Kd.R_drew)); exact rf2 HO111.out BK112.out (fun _ hk => trivial)⟩, ⟨qf BK107.out⟩, ⟨by (with_reducible repeat (first | refine blk_drewN ?_ _ | refine blk_drew ?_ | refine blk_alloc ?_ _)); refine blk_put (cs := #[.int .i64 t105, .slice none 0 0]) ?_ 1 _ rfl; (with_reducible repeat (first | refine blk_drewN ?_ _ | refine blk_drew ?_ | refine blk_alloc ?_ _)); refine blk_put (cs := #[.int .i64 0, .slice none 0 0]) ?_ 0 _ rfl; (with_reducible repeat (first | refine blk_drewN ?_ _ | refine blk_drew ?_ | refine blk_alloc ?_ _)); exact BK112.out⟩, ⟨qb HB.out⟩⟩
 clear H'
 try clear c1
 try clear p2
 try clear c3
 try clear c4
 try clear c6
 try clear c13
 try clear hcz10_0
 try clear hcz10_1
 try clear hcz14_0
 try clear hcz14_1
 try clear hcz16_0
 try clear hcz16_1
 try clear hcz8_0
 try clear hcz8_1
 try clear hfz10_0
 try clear hfz10_1
 try clear hfz14_0
 try clear hfz14_1
 try clear hfz16_0
 try clear hfz16_1
 try clear hfz8_0
 try clear hfz8_1
 obtain ⟨x3_1, x17_1, rfl, HA, HK1, HO_3, HO_100001, BK107, BK112, HB⟩ := hrel
 rcases gk with _ | k1
 · exact absurd HA.out (by simp [impl_TreeRings.l0])
 have H := HA.out
 clear HA
 simp only [impl_TreeRings.l0] at H
 by_cases c17 : x17_1 < (l0_1.length : Int)
 rotate_left
 · rw [if_neg c17] at H
   have c17b0 := decide_eq_false c17
   clear c17
   obtain rfl := Option.some.inj H
   go_wp2
   go_ret
   exact ⟨_, qe, qv HO_3.out, qb HB.out⟩
 rw [if_pos c17] at H
 have c17b0 := decide_eq_true c17
 clear c17
 obtain ⟨c18, H⟩ : (0 ≤ x17_1) ∧ _ := og H
 have c18b0 := decide_eq_true c18
 clear c18
 obtain ⟨c19, H⟩ : (x17_1 < (l0_1.length : Int)) ∧ _ := og H
 have c19b0 := decide_eq_true c19
 clear c19
 obtain ⟨t101, A20, H⟩ := ob H
 by_cases c21 : t101 = true
 · subst c21
   rw [if_pos rfl] at H
   have H' := q0 H
   clear H
   have p100 : 0 ≤ (x17_1 : Int) := of_decide_eq_true qa
   have q100 : x17_1 < (l0_1.length : Int) := of_decide_eq_true qa
   obtain ⟨ad100, e100, hx100_0, hx100_1⟩ := at_TTie HR0_1.out x17_1 p100 q100
   cases e100
   replace hx100_0 := hcl HB.out hx100_0
   replace hx100_1 := hcl HB.out hx100_1
   replace p100 := eq_true p100
   replace q100 := eq_true q100
   go_wp2_with (first | ((with_reducible refine gd 6 ?_); refine be 6 #[.int .i64 0, .int .i64 0] 32 ?_; intro gb114 hg w22 hbox hb; replace HO_3 := q0 (Kd.S_below (qv HO_3.out) hb); replace HO_100001 := q0 (Kd.R_below (Kd.R_elderB (qr HO_100001.out) gb114 (Nat.le_of_eq hg.symm)) hb); have BK114 := q0 (hbox); have GW114 := gw HB hg; have GE114 := gw HB hg; replace HB := bp HB hb; have NB107_114 := nl BK107 hg; have NB114_107 := ng BK107 hg; replace BK107 := kd BK107 hb; have NB112_114 := nl BK112 hg; have NB114_112 := ng BK112 hg; replace BK112 := kd BK112 hb; clear hb hbox hg; have hnb23 := NB114_107.out; have hnc23 := NB107_114.out; have hnb24 := NB114_112.out; have hnc24 := NB112_114.out; obtain ⟨hcz25_0, hcz25_1, hfz25_0, hfz25_1⟩ := b2 BK114; have hnb26 := NB112_107.out; have hnc26 := NB107_112.out; obtain ⟨hcz27_0, hcz27_1, hfz27_0, hfz27_1⟩ := b2 BK112) | ((with_reducible refine gf 82 ?_); refine gl 24 Try.func82 #[.slice Ao15 t106.length co15, .agg #[.int .i64 ((rd_TTie l0_1 x17_1).f0), .int .i64 ((rd_TTie l0_1 x17_1).f1)]] ?_; (with_reducible refine (slices_Contains_Tie.calls k1 _ _ t106 ((rd_TTie l0_1 x17_1).f0) ((rd_TTie l0_1 x17_1).f1) true _ ?side1 ?side2 A20.out).mono ?_); (case side1 => refine (Kd.R_reads' (e := 32) (base := w.heap.size) (ok := fun k_ => (True ∧ k_ ≠ gb114)) (n := t106.length) (c := co15) ?_).2.2; exact (by (with_reducible repeat (first | apply Kd.R_alloc | apply Kd.R_drewN | apply Kd.R_drew)); exact (Kd.R_mono (Kd.R_far (p := ⟨gb114, 1, none⟩) (Kd.R_far (p := ⟨gb114, 0, none⟩) (Kd.R_mono HO_100001.out (fun k_ hk => (⟨hk, hk.2⟩ : _ ∧ k_ ≠ gb114))) (fun _ hk => hk.2) (.int .i64 ((rd_TTie l0_1 x17_1).f0))) (fun _ hk => hk.2) (.int .i64 ((rd_TTie l0_1 x17_1).f1))) (fun _ h_ => h_.1)))); (case side2 => exact (Kd.R_reads' HO_100001.out).2.1); rintro e w28 ⟨rfl, hb⟩; refine ⟨_, rfl, ?_⟩; replace HO_3 := q0 (Kd.S_below (by (with_reducible repeat (first | apply Kd.S_alloc | apply Kd.S_drewN | apply Kd.S_drew)); exact (Kd.S_mono (Kd.S_far (p := ⟨gb114, 1, none⟩) (Kd.S_far (p := ⟨gb114, 0, none⟩) (Kd.S_types HO_3.out BK114.out (by decide)) (fun _ hk => hk.2) (.int .i64 ((rd_TTie l0_1 x17_1).f0))) (fun _ hk => hk.2) (.int .i64 ((rd_TTie l0_1 x17_1).f1))) (fun _ h_ => h_.1))) hb); replace HO_100001 := q0 (Kd.R_below (by (with_reducible repeat (first | apply Kd.R_alloc | apply Kd.R_drewN | apply Kd.R_drew)); exact (Kd.R_mono (Kd.R_far (p := ⟨gb114, 1, none⟩) (Kd.R_far (p := ⟨gb114, 0, none⟩) (Kd.R_mono HO_100001.out (fun k_ hk => (⟨hk, hk.2⟩ : _ ∧ k_ ≠ gb114))) (fun _ hk => hk.2) (.int .i64 ((rd_TTie l0_1 x17_1).f0))) (fun _ hk => hk.2) (.int .i64 ((rd_TTie l0_1 x17_1).f1))) (fun _ h_ => h_.1))) hb); replace BK107 := q0 (kf BK107.out hb); replace BK112 := q0 (kf BK112.out hb); replace BK114 := q0 (blk_below (g := gb114) (o := .cells #[.int .i64 ((rd_TTie l0_1 x17_1).f0), .int .i64 ((rd_TTie l0_1 x17_1).f1)] 32 (0, 0)) (by (with_reducible repeat (first | refine blk_drewN ?_ _ | refine blk_drew ?_ | refine blk_alloc ?_ _)); refine blk_put (cs := #[.int .i64 ((rd_TTie l0_1 x17_1).f0), .int .i64 0]) ?_ 1 _ rfl; (with_reducible repeat (first | refine blk_drewN ?_ _ | refine blk_drew ?_ | refine blk_alloc ?_ _)); refine blk_put (cs := #[.int .i64 0, .int .i64 0]) ?_ 0 _ rfl; (with_reducible repeat (first | refine blk_drewN ?_ _ | refine blk_drew ?_ | refine blk_alloc ?_ _)); exact BK114.out) hb); replace HB := bp HB hb; (try clear hb); (try clear hb2); (try clear hk); (try clear hi)))
   go_roundg k1
   case measure => have := HK1.out; omega
   case rel => exact ⟨(x3_1), (wrap64 (x17_1 + 1)), qs, H', ⟨by have := HK1.out; omega⟩, ⟨qv HO_3.out⟩, ⟨by (with_reducible repeat (first | apply Kd.R_alloc | apply Kd.R_drewN | apply Kd.R_drew)); exact Kd.R_mono HO_100001.out (fun _ hk => trivial)⟩, ⟨qk BK107.out⟩, ⟨qk BK112.out⟩, ⟨qb HB.out⟩⟩
 replace c21 := Bool.eq_false_iff.mpr c21
 subst c21
 rw [if_neg nf] at H
 obtain ⟨t302, A29, H⟩ := ob H
 obtain ⟨c40, H⟩ : (0 < (t302.length : Int)) ∧ _ := og H
 have c40b0 := decide_eq_true c40
 have c40b1 : decide (0 < t302.length) = true := decide_eq_true (by omega)
 clear c40
 obtain ⟨t102, ht102⟩ : ∃ x_ : List Int, x_ = rd_LI t302 0 := ⟨_, rfl⟩
 rw [← ht102] at H
 have Nt102 := q0 ht102
 clear ht102
 obtain ⟨c30, H⟩ : (x3_1.length < 5864062014805) ∧ _ := og H
 have LMc30 := q0 c30
 clear c30
 obtain ⟨y116, hy116⟩ : ∃ y_ : List (List Int), y_ = (x3_1 ++ [t102]) := ⟨_, rfl⟩
 replace H : (impl_TreeRings.l0 k1 y116 l0_1 (l0_1.length : Int) (wrap64 (x17_1 + 1)) t105 t106) = some r := qy H hy116
 have Ny116 := q0 hy116
 clear hy116
 have H' := q0 H
 clear H
 have p100 : 0 ≤ (x17_1 : Int) := of_decide_eq_true qa
 have q100 : x17_1 < (l0_1.length : Int) := of_decide_eq_true qa
 obtain ⟨ad100, e100, hx100_0, hx100_1⟩ := at_TTie HR0_1.out x17_1 p100 q100
 cases e100
 replace hx100_0 := hcl HB.out hx100_0
 replace hx100_1 := hcl HB.out hx100_1
 replace p100 := eq_true p100
 replace q100 := eq_true q100
 go_wp2_with (first | ((with_reducible refine gd 6 ?_); refine be 6 #[.int .i64 0, .int .i64 0] 32 ?_; intro gb114 hg w31 hbox hb; replace HO_3 := q0 (Kd.S_below (qv HO_3.out) hb); replace HO_100001 := q0 (Kd.R_below (Kd.R_elderB (qr HO_100001.out) gb114 (Nat.le_of_eq hg.symm)) hb); have BK114 := q0 (hbox); have GW114 := gw HB hg; have GE114 := gw HB hg; replace HB := bp HB hb; have NB107_114 := nl BK107 hg; have NB114_107 := ng BK107 hg; replace BK107 := kd BK107 hb; have NB112_114 := nl BK112 hg; have NB114_112 := ng BK112 hg; replace BK112 := kd BK112 hb; clear hb hbox hg; have hnb32 := NB114_107.out; have hnc32 := NB107_114.out; have hnb33 := NB114_112.out; have hnc33 := NB112_114.out; obtain ⟨hcz34_0, hcz34_1, hfz34_0, hfz34_1⟩ := b2 BK114; have hnb35 := NB112_107.out; have hnc35 := NB107_112.out; obtain ⟨hcz36_0, hcz36_1, hfz36_0, hfz36_1⟩ := b2 BK112) | ((with_reducible refine gf 82 ?_); refine gl 24 Try.func82 #[.slice Ao15 t106.length co15, .agg #[.int .i64 ((rd_TTie l0_1 x17_1).f0), .int .i64 ((rd_TTie l0_1 x17_1).f1)]] ?_; (with_reducible refine (slices_Contains_Tie.calls k1 _ _ t106 ((rd_TTie l0_1 x17_1).f0) ((rd_TTie l0_1 x17_1).f1) false _ ?side1 ?side2 A20.out).mono ?_); (case side1 => refine (Kd.R_reads' (e := 32) (base := w.heap.size) (ok := fun k_ => (True ∧ k_ ≠ gb114)) (n := t106.length) (c := co15) ?_).2.2; exact (by (with_reducible repeat (first | apply Kd.R_alloc | apply Kd.R_drewN | apply Kd.R_drew)); exact (Kd.R_mono (Kd.R_far (p := ⟨gb114, 1, none⟩) (Kd.R_far (p := ⟨gb114, 0, none⟩) (Kd.R_mono HO_100001.out (fun k_ hk => (⟨hk, hk.2⟩ : _ ∧ k_ ≠ gb114))) (fun _ hk => hk.2) (.int .i64 ((rd_TTie l0_1 x17_1).f0))) (fun _ hk => hk.2) (.int .i64 ((rd_TTie l0_1 x17_1).f1))) (fun _ h_ => h_.1)))); (case side2 => exact (Kd.R_reads' HO_100001.out).2.1); rintro e w37 ⟨rfl, hb⟩; refine ⟨_, rfl, ?_⟩; replace HO_3 := q0 (Kd.S_below (by (with_reducible repeat (first | apply Kd.S_alloc | apply Kd.S_drewN | apply Kd.S_drew)); exact (Kd.S_mono (Kd.S_far (p := ⟨gb114, 1, none⟩) (Kd.S_far (p := ⟨gb114, 0, none⟩) (Kd.S_types HO_3.out BK114.out (by decide)) (fun _ hk => hk.2) (.int .i64 ((rd_TTie l0_1 x17_1).f0))) (fun _ hk => hk.2) (.int .i64 ((rd_TTie l0_1 x17_1).f1))) (fun _ h_ => h_.1))) hb); replace HO_100001 := q0 (Kd.R_below (by (with_reducible repeat (first | apply Kd.R_alloc | apply Kd.R_drewN | apply Kd.R_drew)); exact (Kd.R_mono (Kd.R_far (p := ⟨gb114, 1, none⟩) (Kd.R_far (p := ⟨gb114, 0, none⟩) (Kd.R_mono HO_100001.out (fun k_ hk => (⟨hk, hk.2⟩ : _ ∧ k_ ≠ gb114))) (fun _ hk => hk.2) (.int .i64 ((rd_TTie l0_1 x17_1).f0))) (fun _ hk => hk.2) (.int .i64 ((rd_TTie l0_1 x17_1).f1))) (fun _ h_ => h_.1))) hb); replace BK107 := q0 (kf BK107.out hb); replace BK112 := q0 (kf BK112.out hb); replace BK114 := q0 (blk_below (g := gb114) (o := .cells #[.int .i64 ((rd_TTie l0_1 x17_1).f0), .int .i64 ((rd_TTie l0_1 x17_1).f1)] 32 (0, 0)) (by (with_reducible repeat (first | refine blk_drewN ?_ _ | refine blk_drew ?_ | refine blk_alloc ?_ _)); refine blk_put (cs := #[.int .i64 ((rd_TTie l0_1 x17_1).f0), .int .i64 0]) ?_ 1 _ rfl; (with_reducible repeat (first | refine blk_drewN ?_ _ | refine blk_drew ?_ | refine blk_alloc ?_ _)); refine blk_put (cs := #[.int .i64 0, .int .i64 0]) ?_ 0 _ rfl; (with_reducible repeat (first | refine blk_drewN ?_ _ | refine blk_drew ?_ | refine blk_alloc ?_ _)); exact BK114.out) hb); replace HB := bp HB hb; (try clear hb); (try clear hb2); (try clear hk); (try clear hi); obtain ⟨hcz38_0, hcz38_1, hfz38_0, hfz38_1⟩ := b2 BK112; obtain ⟨hcz39_0, hcz39_1, hfz39_0, hfz39_1⟩ := b2 BK114) | ((with_reducible refine gf 83 ?_); refine gl 32 Try.func83 #[.agg #[.int .i64 t105, .slice Ao15 t106.length co15], .int .i64 ((rd_TTie l0_1 x17_1).f1), .int .i64 ((rd_TTie l0_1 x17_1).f0)] ?_; (with_reducible refine (impl_Net_all.calls k1 t105 _ _ t106 ((rd_TTie l0_1 x17_1).f1) ((rd_TTie l0_1 x17_1).f0) t302 _ ?side1 ?side2 A29.out).mono ?_); (case side1 => exact qc (Kd.R_reads' HO_100001.out).2.2); (case side2 => exact (Kd.R_reads' HO_100001.out).2.1); rintro e w40 ⟨v317, rfl, ho9, hb⟩; refine ⟨_, rfl, ?_⟩; obtain ⟨Ao49, co49, eo49⟩ := Kd.S_slice ho9; subst eo49; have p119 : 0 ≤ (0 : Int) := (by omega); have q119 : 0 < (t302.length : Int) := of_decide_eq_true qa; obtain ⟨ad119, Ao42, co42, e119, hx119_0, hl119_0, hi119_0⟩ := at_LI (Kd.S_reads' ho9).2.2 0 p119 q119; cases e119; obtain ⟨u_, hu_, hR_, hP_, hS_⟩ := S_row ho9 0 p119 q119; clear hP_ hS_; obtain rfl := Option.some.inj (hu_.symm.trans hx119_0); clear hu_ hl119_0 hi119_0 ho9; rw [← Nt102.out] at hR_ hx119_0; have ho0 := Kd.R_mono (ok' := fun _ => True) hR_ (fun _ _ => trivial); clear hR_; have qi119 : (0 < t302.length) = True := eq_true (by omega); (try rw [show ((0 : Int)).toNat = 0 from rfl] at hx119_0); (try rw [Addr.add_zero'] at hx119_0); replace p119 := eq_true p119; replace q119 := eq_true q119; replace HO_3 := q0 (Kd.S_elder' (qv HO_3.out) (Kd.R_base ho0) hb); replace HO_100001 := q0 (Kd.R_below (qr HO_100001.out) hb); have HO118 := q0 (Kd.R_lower ho0 (below_size (qb HB.out))); replace BK107 := kd BK107 hb; replace BK112 := kd BK112 hb; replace BK114 := kd BK114 hb; replace HB := bp HB hb; (try clear hb); (try clear hb2); (try clear hk); (try clear hi); (try clear ho0)) | ((with_reducible refine gate_builtin (b := .append) (xs := #[.tmp 26, .tmp 35]) rfl ?_); at_builtin; refine Kd.S_append (Kd.slice 3 (Kd.int .i64)) (w0 := w) w.heap.size rfl (.tmp 26) (.tmp 35) 55 60 (.slice none 0 0) 24 rfl Try.underlying55 info60 rfl (by decide) (by omega) u3 x3_1 t102 [.slice Ao42 t102.length co42] (fun _ => True) (fun k_ => some k_ = (.slice Ao42 t102.length co42 : Value).ownBlock) rfl rfl ?aP (fun k_ hk_ => ((Kd.R_mono (ok' := fun k_ => ((fun _ => True)) k_ ∧ some k_ ≠ (u3 : Value).ownBlock) (Kd.R_apart' (HO118.out) (Kd.S_typed HO_3.out) (by decide)) (fun k_ hk => ⟨trivial, hk.2⟩))).1 k_ hk_.symm) ?aF ?aO ?aB ?aS ?aL ?_; (case aP => exact Kd.M_row (Kd.R_mono (Kd.R_tight rfl (Kd.R_mono (ok' := fun k_ => ((fun _ => True)) k_ ∧ some k_ ≠ (u3 : Value).ownBlock) (Kd.R_apart' (HO118.out) (Kd.S_typed HO_3.out) (by decide)) (fun k_ hk => ⟨trivial, hk.2⟩))) (fun _ h_ => h_))); (case aB => exact (qb HB.out)); (case aF => exact (fun _ _ => trivial)); (case aO => exact (by (with_reducible repeat (first | apply Kd.S_alloc | apply Kd.S_drewN | apply Kd.S_drew)); exact Kd.S_mono HO_3.out (fun k_ hk => ⟨trivial, fun e_ => hk.2 e_⟩))); (case aS => exact (below_size (qb HB.out))); (case aL => have := LMc30.out; omega); intro v119 w41 ho hb hg hat; rw [← Ny116.out] at ho; replace HO_100001 := q0 (Kd.R_over' (qr HO_100001.out) (Kd.S_typed (qv HO_3.out)) (by decide) hg); replace BK107 := q0 (blk_grown (g := gb107) (o := .cells #[.int .i64 a0_0, .slice (some ad100) l0_1.length c0_1] 25 (0, 0)) (qk BK107.out) hg (Kd.S_ne HO_3.out BK107.out (by decide))); replace BK112 := q0 (blk_grown (g := gb112) (o := .cells #[.int .i64 t105, .slice Ao15 t106.length co15] 25 (0, 0)) (qk BK112.out) hg (Kd.S_ne HO_3.out BK112.out (by decide))); replace BK114 := q0 (blk_grown (g := gb114) (o := .cells #[.int .i64 ((rd_TTie l0_1 x17_1).f0), .int .i64 ((rd_TTie l0_1 x17_1).f1)] 32 (0, 0)) (qk BK114.out) hg (Kd.S_ne HO_3.out BK114.out (by decide))); replace HB := q0 (hb); have HO120 := q0 (ho); clear HO_3 HO118; clear ho hb hg hat))
 go_roundg k1
 case measure => have := HK1.out; omega
 case rel => exact ⟨(y116), (wrap64 (x17_1 + 1)), qs, H', ⟨by have := HK1.out; omega⟩, ⟨qv HO120.out⟩, ⟨by (with_reducible repeat (first | apply Kd.R_alloc | apply Kd.R_drewN | apply Kd.R_drew)); exact Kd.R_mono HO_100001.out (fun _ hk => trivial)⟩, ⟨qk BK107.out⟩, ⟨qk BK112.out⟩, ⟨qb HB.out⟩⟩

/-- A state of type 91 at block g of W; what its slices lead to came in by w0. -/
def IsSRd (w0 W : World) (g : Nat) (f0 : List Int) (f1 : Int) : Prop := ∃ A0 c0, W.heap[g]? = some (.cells #[.slice A0 f0.length c0, .int .i64 f1] 91 (0, 0)) ∧ w0.heap.size ≤ g ∧ Kd.C (Kd.int .u8) w0 A0 f0.length f0
theorem IsSRd.grown {w0 W : World} {g : Nat} {f0 : List Int} {f1 : Int} {W1 : World} {row : Option Nat} (h : IsSRd w0 W g f0 f1) (hw : W.grownBy W1 row) (hne : some g ≠ row) : IsSRd w0 W1 g f0 f1 := by
  obtain ⟨A0, c0, hb, hg, hr0⟩ := h
  exact ⟨A0, c0, blk_grown hb hw hne, hg, hr0⟩
theorem IsSRd.own_neN {w0 W : World} {g : Nat} {f0 : List Int} {f1 : Int} {α : Type} {d : Kd α} {e : Nat} {base : Nat} {ok : Nat → Prop} {v : Value} {xs : List α} (h : IsSRd w0 W g f0 f1) (ho : Kd.N d e W base ok v xs) (ht : e ≠ 91) : some g ≠ v.ownBlock := by
  obtain ⟨A0, c0, hb, hg, hr0⟩ := h
  exact Kd.N_ne ho hb ht
theorem IsSRd.fresh {w0 W : World} {g : Nat} {f0 : List Int} {f1 : Int} (h : IsSRd w0 W g f0 f1) : ∀ k, W.heap.size ≤ k → k ≠ g := by
  obtain ⟨A0, c0, hb, hg, hr0⟩ := h
  exact Kd.freshB hb
theorem IsSRd.kept {w0 W : World} {g : Nat} {f0 : List Int} {f1 : Int} {W1 : World} {S : Nat → Prop} (h : IsSRd w0 W g f0 f1) (hk : Kept W W1 S) (hne : ¬ S g) : IsSRd w0 W1 g f0 f1 := by
  obtain ⟨A0, c0, hb, hg, hr0⟩ := h
  exact ⟨A0, c0, blk_kept hb hk hne, hg, hr0⟩
theorem IsSRd.below {w0 W : World} {g : Nat} {f0 : List Int} {f1 : Int} {W1 : World} (h : IsSRd w0 W g f0 f1) (hw : Below W.heap.size W W1) : IsSRd w0 W1 g f0 f1 := h.grown (grown_of_below hw none) (by simp)
theorem IsSRd.alloc {w0 W : World} {g : Nat} {f0 : List Int} {f1 : Int} (h : IsSRd w0 W g f0 f1) (o : Obj) : IsSRd w0 (W.alloc o) g f0 f1 := h.below (below_alloc (Below.refl _ _) o)
theorem IsSRd.drewN {w0 W : World} {g : Nat} {f0 : List Int} {f1 : Int} (h : IsSRd w0 W g f0 f1) (m : Nat) : IsSRd w0 (W.drewN m) g f0 f1 := h
theorem IsSRd.drew {w0 W : World} {g : Nat} {f0 : List Int} {f1 : Int} (h : IsSRd w0 W g f0 f1) : IsSRd w0 W.drew g f0 f1 := h
theorem IsSRd.at_ {w0 W : World} {g : Nat} {f0 : List Int} {f1 : Int} {w' : World} {m : Nat} (hq : W.drewN m = w') (h : IsSRd w0 W g f0 f1) : IsSRd w0 w' g f0 f1 := by subst hq; exact IsSRd.drewN h m
theorem IsSRd.apart {w0 W : World} {g : Nat} {f0 : List Int} {f1 : Int} {α : Type} {d : Kd α} {e : Nat} {base : Nat} {ok : Nat → Prop} {v : Value} {xs : List α} (h : IsSRd w0 W g f0 f1) (ho : d.R e W base ok v xs) (ht : ∀ q, q ∈ e :: d.E → q ≠ 91) : d.R e W base (fun k => ok k ∧ k ≠ g) v xs := by
  obtain ⟨A0, c0, hb, hg, hr0⟩ := h
  exact Kd.R_types ho hb ht
theorem IsSRd.own_ne {w0 W : World} {g : Nat} {f0 : List Int} {f1 : Int} {α : Type} {d : Kd α} {e : Nat} {base : Nat} {ok : Nat → Prop} {v : Value} {xs : List α} (h : IsSRd w0 W g f0 f1) (ho : d.R e W base ok v xs) (ht : e ≠ 91) : some g ≠ v.ownBlock := by
  obtain ⟨A0, c0, hb, hg, hr0⟩ := h
  exact Kd.R_ne ho hb ht
theorem IsSRd.apartQ {w0 W : World} {g : Nat} {f0 : List Int} {f1 : Int} {α : Type} {d : Kd α} {e : Nat} {base : Nat} {ok : Nat → Prop} {v : Value} {xs : List α} (h : IsSRd w0 W g f0 f1) (ho : d.Q e W base ok v xs) (ht : ∀ q, q ∈ e :: d.E → q ≠ 91) : d.Q e W base (fun k => ok k ∧ k ≠ g) v xs := by
  obtain ⟨A0, c0, hb, hg, hr0⟩ := h
  exact Kd.Q_types ho hb ht
theorem IsSRd.own_neQ {w0 W : World} {g : Nat} {f0 : List Int} {f1 : Int} {α : Type} {d : Kd α} {e : Nat} {base : Nat} {ok : Nat → Prop} {v : Value} {xs : List α} (h : IsSRd w0 W g f0 f1) (ho : d.Q e W base ok v xs) (ht : e ≠ 91) : some g ≠ v.ownBlock := by
  obtain ⟨A0, c0, hb, hg, hr0⟩ := h
  exact Kd.Q_ne ho hb ht
theorem IsSRd.apartS {w0 W : World} {g : Nat} {f0 : List Int} {f1 : Int} {α : Type} {d : Kd α} {e : Nat} {base : Nat} {ok : Nat → Prop} {v : Value} {xs : List α} (h : IsSRd w0 W g f0 f1) (ho : d.S e W base ok v xs) (ht : ∀ q, q ∈ e :: d.E → q ≠ 91) : d.S e W base (fun k => ok k ∧ k ≠ g) v xs := by
  obtain ⟨A0, c0, hb, hg, hr0⟩ := h
  exact Kd.S_types ho hb ht
theorem IsSRd.own_neS {w0 W : World} {g : Nat} {f0 : List Int} {f1 : Int} {α : Type} {d : Kd α} {e : Nat} {base : Nat} {ok : Nat → Prop} {v : Value} {xs : List α} (h : IsSRd w0 W g f0 f1) (ho : d.S e W base ok v xs) (ht : e ≠ 91) : some g ≠ v.ownBlock := by
  obtain ⟨A0, c0, hb, hg, hr0⟩ := h
  exact Kd.S_ne ho hb ht
theorem IsSRd.lt {w0 W : World} {g : Nat} {f0 : List Int} {f1 : Int} (h : IsSRd w0 W g f0 f1) : g < W.heap.size := by
  obtain ⟨A0, c0, hb, hg, hr0⟩ := h
  exact blk_lt hb
theorem IsSRd.ge {w0 W : World} {g : Nat} {f0 : List Int} {f1 : Int} (h : IsSRd w0 W g f0 f1) : w0.heap.size ≤ g := by
  obtain ⟨A0, c0, hb, hg, hr0⟩ := h
  exact hg
theorem IsSRd.ne_blk {w0 W : World} {g : Nat} {f0 : List Int} {f1 : Int} {a : Nat} {cs : Array Value} {t : TypeId} {fr : Nat × Nat} (h : IsSRd w0 W g f0 f1) (hb2 : W.heap[a]? = some (.cells cs t fr)) (ht : t ≠ 91) : g ≠ a := by
  obtain ⟨A0, c0, hb, hg, hr0⟩ := h
  rintro rfl
  rw [hb] at hb2
  injection hb2 with hb2
  injection hb2 with _ ht2
  exact ht ht2.symm
theorem IsSRd.far {w0 W : World} {g : Nat} {f0 : List Int} {f1 : Int} {p : Addr} (h : IsSRd w0 W g f0 f1) (hne : g ≠ p.block) (u : Value) : IsSRd w0 (W.setCell p u) g f0 f1 := by
  obtain ⟨A0, c0, hb, hg, hr0⟩ := h
  exact ⟨A0, c0, blk_far hb hne u, hg, hr0⟩
theorem cellS91_0 {W : World} {g : Nat} {A0 : Option Addr} {c0 : Nat} {f0 : List Int} {f1 : Int} (h : W.heap[g]? = some (.cells #[.slice A0 f0.length c0, .int .i64 f1] 91 (0, 0))) : W.cell? ⟨g, 0, none⟩ = some (.slice A0 f0.length c0) := (blk_cell h 0).trans rfl
theorem cellS91_1 {W : World} {g : Nat} {A0 : Option Addr} {c0 : Nat} {f0 : List Int} {f1 : Int} (h : W.heap[g]? = some (.cells #[.slice A0 f0.length c0, .int .i64 f1] 91 (0, 0))) : W.cell? ⟨g, 1, none⟩ = some (.int .i64 f1) := (blk_cell h 1).trans rfl
theorem IsSRd.set_1 {w0 W : World} {g : Nat} {f0 : List Int} {f1 : Int} (h : IsSRd w0 W g f0 f1) (x : Int) : IsSRd w0 (W.setCell ⟨g, 1, none⟩ (.int .i64 x)) g f0 x := by
  obtain ⟨A0, c0, hb, hg, hr0⟩ := h
  exact ⟨A0, c0, by simpa using blk_set hb 1 (.int .i64 x), hg, hr0⟩
theorem IsSRd.new (w0 W : World) (A0 : Option Addr) (c0 : Nat) (f0 : List Int) (f1 : Int) (hB : Below w0.heap.size w0 W) (hr0 : Kd.C (Kd.int .u8) w0 A0 f0.length f0) : IsSRd w0 (W.alloc (.cells #[.slice A0 f0.length c0, .int .i64 f1] 91)) W.heap.size f0 f1 := ⟨A0, c0, by simpa using heap_alloc_new W _, hB.size, hr0⟩
theorem qi {w0 W W' : World} {g : Nat} {f0 : List Int} {f1 f2 : Int} (h : IsSRd w0 W g f0 f1) (f : IsSRd w0 W g f0 f1 → IsSRd w0 W' g f0 f2 := by intro h; repeat (first | (with_reducible first | exact h | apply IsSRd.alloc | apply IsSRd.drewN | apply IsSRd.drew | apply IsSRd.set_1 | refine IsSRd.far ?_ (Aside0.out (by assumption)) _) | exact h)) : IsSRd w0 W' g f0 f2 := f h
theorem qj {w0 w W W' : World} {g : Nat} {f0 : List Int} {f1 : Int} (h : Below w0.heap.size w0 W) (hi : IsSRd w0 w g f0 f1) (f : Below w0.heap.size w0 W → w0.heap.size ≤ g → Below w0.heap.size w0 W' := by intro h hge; repeat (first | (with_reducible first | exact h | apply below_alloc | apply pw_below_drewN | apply below_drew1 | refine below_set ?_ hge | refine below_set ?_ (Aside0.out (by assumption))) | exact h)) : Below w0.heap.size w0 W' := f h hi.ge
set_option maxHeartbeats 8000000 in
set_option maxRecDepth 100000 in
theorem spec_l6Rd_pick.calls (k : Nat) (g : Nat) (s0_0 : List Int) (s0_1 : Int) (a1 : Int) (r1 : Int) (r2 : Int) (w0 w : World) (hI : IsSRd w0 w g s0_0 s0_1) (hB : Below w0.heap.size w0 w) (h : spec_l6Rd_pick.f k s0_0 s0_1 a1 = some (r1, r2)) :
    Calls Try.prog 59 #[.pointer (some ⟨g, 0, none⟩), .int .i64 a1] w fun e w' => e = .returned (.int .i64 r1) ∧ IsSRd w0 w' g s0_0 r2 ∧ Below w0.heap.size w0 w' ∧ KeepBut w w' g none := by
 have HI0 := q0 hI
 have HK := q0 (KeepBut.refl w g none)
 have HL := q0 hB.size
 clear hI
 have HW0 := q0 hB.size
 have HB := q0 hB
 clear hB
 have H : (if a1 < 1 then (spec_l6Rd_pick.j0 k a1 true s0_0 (wrap64 (s0_1 + 1))) else (spec_l6Rd_pick.j0 k a1 ((s0_0.length : Int) == 0) s0_0 (wrap64 (s0_1 + 1)))) = some (r1, r2) := h
 clear h
 have HC3 := q0 H
 clear H
 obtain ⟨ASz4_0, cSz4_0, HGz4, hgz4, HSz4_0⟩ := HI0.out
 have hcz4_0 := cellS91_0 HGz4
 have hcz4_1 := cellS91_1 HGz4
 have hfz4_1 := blk_frozen HGz4 1
 clear HGz4 hgz4
 go_enter Try.func59, Try.ntmps59
 go_upto_region 2 with (fail)
 repeat (go_quiet (fail); go_upto_region 2 with (fail))
 go_cut [24] (fun v24 wc => ∃ (kq : Nat) (x24_2 : Bool), v24 = .bool x24_2 ∧ Aside0 (spec_l6Rd_pick.j0 kq a1 x24_2 s0_0 (wrap64 (s0_1 + 1)) = some (r1, r2)) ∧ Aside0 (kq ≤ k) ∧ Aside0 (IsSRd w0 wc g s0_0 (wrap64 (s0_1 + 1))) ∧ Aside0 (KeepBut w wc g none) ∧ Aside0 (Below w0.heap.size w0 wc))
 case first =>
   have H := HC3.out
   clear HC3
   by_cases c5 : a1 < 1
   · rw [if_pos c5] at H
     have c5b0 := decide_eq_true c5
     clear c5
     (first | rw [c5b0] | (simp only [i64_w, i32_w]; rw [c5b0]) | skip)
     have H' := q0 H
     clear H
     go_wp2
     repeat (go_quiet (fail); try go_wp2)
     go_meet
     case rel => exact ⟨_, (true), qs, H', ⟨by first | omega | exact Nat.le_refl _⟩, ⟨qi HI0.out⟩, ⟨qh HK.out⟩, ⟨qj HB.out HI0.out⟩⟩
   rw [if_neg c5] at H
   have c5b0 := decide_eq_false c5
   clear c5
   (first | rw [c5b0] | (simp only [i64_w, i32_w]; rw [c5b0]) | skip)
   have H' := q0 H
   clear H
   obtain ⟨ASz6_0, cSz6_0, HGz6, hgz6, HSz6_0⟩ := HI0.out
   have hcz6_0 := cellS91_0 HGz6
   have hcz6_1 := cellS91_1 HGz6
   have hfz6_1 := blk_frozen HGz6 1
   clear HGz6 hgz6
   go_wp2
   repeat (go_quiet (fail); try go_wp2)
   go_meet
   case rel => exact ⟨_, (((s0_0.length : Int) == 0)), qs, H', ⟨by first | omega | exact Nat.le_refl _⟩, ⟨qi HI0.out⟩, ⟨qh HK.out⟩, ⟨qj HB.out HI0.out⟩⟩
 clear HC3
 try clear p2
 try clear c5
 try clear c5b0
 try clear p6
 try clear hcz4_0
 try clear hcz4_1
 try clear hcz6_0
 try clear hcz6_1
 try clear hfz4_1
 try clear hfz6_1
 obtain ⟨kq, x24_2, rfl, HA, HJ2, HI0, HK, HB⟩ := hcut
 rcases kq with _ | kj2
 · exact absurd HA.out (by simp [spec_l6Rd_pick.j0])
 have H := HA.out
 clear HA
 simp only [spec_l6Rd_pick.j0] at H
 by_cases c7 : x24_2 = true
 · subst c7
   rw [if_pos rfl] at H
   simp only [Option.some.injEq, Prod.mk.injEq] at H
   obtain ⟨rfl, rfl⟩ := H
   go_wp2
   repeat (go_quiet (fail); try go_wp2)
   go_ret
   exact ⟨qe, qi HI0.out, qj HB.out HI0.out, by repeat (first | (with_reducible first | exact HK.out | apply KeepBut.set_ | apply keep_drewN | apply keep_drew | apply keep_alloc) | exact HK.out)⟩
 replace c7 := Bool.eq_false_iff.mpr c7
 subst c7
 rw [if_neg nf] at H
 by_cases c8 : (wrap64 ((wrap64 (s0_1 + 1)) - 1)) < (s0_0.length : Int)
 · rw [if_pos c8] at H
   have c8b0 := decide_eq_true c8
   clear c8
   obtain ⟨ji9, hji9⟩ : ∃ j_ : Int, (wrap64 ((wrap64 (s0_1 + 1)) - 1)) = j_ := ⟨_, rfl⟩
   replace H : (if 0 ≤ (ji9) then (if a1 = 0 then (none) else (some (Int.tmod (wrap64 (rd s0_0 (ji9))) a1, (wrap64 (s0_1 + 1))))) else (none)) = some (r1, r2) := by first | (rw [hji9] at H; exact H) | (simp only [hji9] at H ⊢; exact H)
   (try rw [hji9] at c8b0)
   have hji9w : (IntKind.i64.wrap ((wrap64 (s0_1 + 1)) - 1)) = ji9 := (i64_w _).trans hji9
   obtain ⟨c10, H⟩ : (0 ≤ (ji9)) ∧ _ := og H
   have c10b0 := decide_eq_true c10
   clear c10
   by_cases c11 : a1 = 0
   · rw [if_pos c11] at H
     exact absurd H (by simp)
   rw [if_neg c11] at H
   have c11b0 : (a1 == 0) = false := beq_eq_false_iff_ne.mpr c11
   have c11b1 : (a1 != 0) = true := bne_iff_ne.mpr c11
   simp only [Option.some.injEq, Prod.mk.injEq] at H
   obtain ⟨rfl, rfl⟩ := H
   obtain ⟨ASz12_0, cSz12_0, HGz12, hgz12, HSz12_0⟩ := HI0.out
   have hcz12_0 := cellS91_0 HGz12
   have hcz12_1 := cellS91_1 HGz12
   have hfz12_1 := blk_frozen HGz12 1
   clear HGz12 hgz12
   have p102 : 0 ≤ ((ji9) : Int) := of_decide_eq_true qa
   have q102 : (ji9) < (s0_0.length : Int) := of_decide_eq_true qa
   obtain ⟨ad102, e102, hx102_0⟩ := Kd.at_int HSz12_0 (ji9) p102 q102
   cases e102
   replace hx102_0 := pw_cell_below HB.out hx102_0
   replace p102 := eq_true p102
   replace q102 := eq_true q102
   go_wp2
   repeat (go_quiet (fail); try go_wp2)
   go_ret
   exact ⟨by first | rfl | (simp [errW_none, errW_some] <;> rfl) | (simp only [← hji9]; first | rfl | (simp [errW_none, errW_some] <;> rfl)) | (simp [*, errW_none, errW_some] <;> rfl), qi HI0.out, qj HB.out HI0.out, by repeat (first | (with_reducible first | exact HK.out | apply KeepBut.set_ | apply keep_drewN | apply keep_drew | apply keep_alloc) | exact HK.out)⟩
 rw [if_neg c8] at H
 have c8b0 := decide_eq_false c8
 clear c8
 by_cases c13 : (s0_0.length : Int) = 0
 · rw [if_pos c13] at H
   exact absurd H (by simp)
 rw [if_neg c13] at H
 have c13b0 : ((s0_0.length : Int) == 0) = false := beq_eq_false_iff_ne.mpr c13
 have c13b1 : ((s0_0.length : Int) != 0) = true := bne_iff_ne.mpr c13
 have c13b2 : ¬ (s0_0 = []) := fun h_ => c13 (by rw [h_]; rfl)
 obtain ⟨ji14, hji14⟩ : ∃ j_ : Int, (Int.tmod (wrap64 ((wrap64 (s0_1 + 1)) - 1)) (s0_0.length : Int)) = j_ := ⟨_, rfl⟩
 replace H : (if 0 ≤ (ji14) then (if (ji14) < (s0_0.length : Int) then (if 0 ≤ (Int.tmod (wrap64 ((wrap64 ((wrap64 ((wrap64 (s0_1 + 1)) - 1)) * 7)) + 3)) (s0_0.length : Int)) then (if (Int.tmod (wrap64 ((wrap64 ((wrap64 ((wrap64 (s0_1 + 1)) - 1)) * 7)) + 3)) (s0_0.length : Int)) < (s0_0.length : Int) then (if a1 = 0 then (none) else (some (Int.tmod (Go.bits .xor .i64 (wrap64 ((wrap64 ((wrap64 ((wrap64 ((wrap64 (rd s0_0 (ji14))) * 131)) + (wrap64 ((wrap64 (rd s0_0 (Int.tmod (wrap64 ((wrap64 ((wrap64 ((wrap64 (s0_1 + 1)) - 1)) * 7)) + 3)) (s0_0.length : Int)))) * 1117)))) + (wrap64 ((wrap64 ((wrap64 (s0_1 + 1)) - 1)) * 29)))) + (wrap64 ((wrap64 (Int.tdiv (wrap64 ((wrap64 (s0_1 + 1)) - 1)) (s0_0.length : Int))) * 53)))) (wrap64 (Int.tdiv (wrap64 ((wrap64 ((wrap64 ((wrap64 ((wrap64 (rd s0_0 (ji14))) * 131)) + (wrap64 ((wrap64 (rd s0_0 (Int.tmod (wrap64 ((wrap64 ((wrap64 ((wrap64 (s0_1 + 1)) - 1)) * 7)) + 3)) (s0_0.length : Int)))) * 1117)))) + (wrap64 ((wrap64 ((wrap64 (s0_1 + 1)) - 1)) * 29)))) + (wrap64 ((wrap64 (Int.tdiv (wrap64 ((wrap64 (s0_1 + 1)) - 1)) (s0_0.length : Int))) * 53)))) 64))) a1, (wrap64 (s0_1 + 1))))) else (none)) else (none)) else (none)) else (none)) = some (r1, r2) := by first | (rw [hji14] at H; exact H) | (simp only [hji14] at H ⊢; exact H)
 obtain ⟨c15, H⟩ : (0 ≤ (ji14)) ∧ _ := og H
 have c15b0 := decide_eq_true c15
 clear c15
 obtain ⟨c16, H⟩ : ((ji14) < (s0_0.length : Int)) ∧ _ := og H
 have c16b0 := decide_eq_true c16
 clear c16
 obtain ⟨ji17, hji17⟩ : ∃ j_ : Int, (Int.tmod (wrap64 ((wrap64 ((wrap64 ((wrap64 (s0_1 + 1)) - 1)) * 7)) + 3)) (s0_0.length : Int)) = j_ := ⟨_, rfl⟩
 replace H : (if 0 ≤ (ji17) then (if (ji17) < (s0_0.length : Int) then (if a1 = 0 then (none) else (some (Int.tmod (Go.bits .xor .i64 (wrap64 ((wrap64 ((wrap64 ((wrap64 ((wrap64 (rd s0_0 (ji14))) * 131)) + (wrap64 ((wrap64 (rd s0_0 (ji17))) * 1117)))) + (wrap64 ((wrap64 ((wrap64 (s0_1 + 1)) - 1)) * 29)))) + (wrap64 ((wrap64 (Int.tdiv (wrap64 ((wrap64 (s0_1 + 1)) - 1)) (s0_0.length : Int))) * 53)))) (wrap64 (Int.tdiv (wrap64 ((wrap64 ((wrap64 ((wrap64 ((wrap64 (rd s0_0 (ji14))) * 131)) + (wrap64 ((wrap64 (rd s0_0 (ji17))) * 1117)))) + (wrap64 ((wrap64 ((wrap64 (s0_1 + 1)) - 1)) * 29)))) + (wrap64 ((wrap64 (Int.tdiv (wrap64 ((wrap64 (s0_1 + 1)) - 1)) (s0_0.length : Int))) * 53)))) 64))) a1, (wrap64 (s0_1 + 1))))) else (none)) else (none)) = some (r1, r2) := by first | (rw [hji17] at H; exact H) | (simp only [hji17] at H ⊢; exact H)
 obtain ⟨c18, H⟩ : (0 ≤ (ji17)) ∧ _ := og H
 have c18b0 := decide_eq_true c18
 clear c18
 obtain ⟨c19, H⟩ : ((ji17) < (s0_0.length : Int)) ∧ _ := og H
 have c19b0 := decide_eq_true c19
 clear c19
 by_cases c20 : a1 = 0
 · rw [if_pos c20] at H
   exact absurd H (by simp)
 rw [if_neg c20] at H
 have c20b0 : (a1 == 0) = false := beq_eq_false_iff_ne.mpr c20
 have c20b1 : (a1 != 0) = true := bne_iff_ne.mpr c20
 simp only [Option.some.injEq, Prod.mk.injEq] at H
 obtain ⟨rfl, rfl⟩ := H
 obtain ⟨ASz21_0, cSz21_0, HGz21, hgz21, HSz21_0⟩ := HI0.out
 have hcz21_0 := cellS91_0 HGz21
 have hcz21_1 := cellS91_1 HGz21
 have hfz21_1 := blk_frozen HGz21 1
 clear HGz21 hgz21
 have p103 : 0 ≤ ((ji14) : Int) := of_decide_eq_true qa
 have q103 : (ji14) < (s0_0.length : Int) := of_decide_eq_true qa
 obtain ⟨ad103, e103, hx103_0⟩ := Kd.at_int HSz21_0 (ji14) p103 q103
 cases e103
 replace hx103_0 := pw_cell_below HB.out hx103_0
 replace p103 := eq_true p103
 replace q103 := eq_true q103
 have p104 : 0 ≤ ((ji17) : Int) := of_decide_eq_true qa
 have q104 : (ji17) < (s0_0.length : Int) := of_decide_eq_true qa
 obtain ⟨ad104, e104, hx104_0⟩ := Kd.at_int HSz21_0 (ji17) p104 q104
 obtain rfl : ad103 = ad104 := (by injection e104)
 replace hx104_0 := pw_cell_below HB.out hx104_0
 replace p104 := eq_true p104
 replace q104 := eq_true q104
 go_wp2
 repeat (go_quiet (fail); try go_wp2)
 go_ret
 exact ⟨by first | rfl | (simp [errW_none, errW_some] <;> rfl) | (simp only [← hji14, ← hji17]; first | rfl | (simp [errW_none, errW_some] <;> rfl)) | (simp [*, errW_none, errW_some] <;> rfl), qi HI0.out, qj HB.out HI0.out, by repeat (first | (with_reducible first | exact HK.out | apply KeepBut.set_ | apply keep_drewN | apply keep_drew | apply keep_alloc) | exact HK.out)⟩

def spec_l71Net.T7 : Bool × List (List Nat × List Nat) := (true, [([], []), ([], []), ([], []), ([], []), ([2, 3], [2, 3]), ([0, 1, 4, 4], [0, 1, 4]), ([5], [5]), ([6], [6]), ([6], [6]), ([7, 5, 0, 1, 2, 3, 4, 5, 6, 7], [7])])
def spec_l71Net.B7 : List Nat := [0, 0, 0, 0, 12, 31, 63, 127, 127, 255]
theorem spec_l71Net.tab7 : rtab .any (opsOf Try.f91 7) = spec_l71Net.T7 := by kernel_rfl
theorem spec_l71Net.bits7 : waitsOk spec_l71Net.T7.2 spec_l71Net.B7 = true := by kernel_rfl
def spec_l71Net.T12 : Bool × List (List Nat × List Nat) := (true, [([], []), ([], []), ([], []), ([2], [2]), ([], []), ([4], [4]), ([3, 5], [3, 5]), ([0, 1, 6], [0, 1, 6]), ([7], [7]), ([8], [8]), ([8], [8]), ([9, 7, 0, 1, 2, 3, 4, 5, 6, 7, 8, 9], [9])])
def spec_l71Net.B12 : List Nat := [0, 0, 0, 4, 0, 16, 60, 127, 255, 511, 511, 1023]
theorem spec_l71Net.tab12 : rtab .any (opsOf Try.f91 12) = spec_l71Net.T12 := by kernel_rfl
theorem spec_l71Net.bits12 : waitsOk spec_l71Net.T12.2 spec_l71Net.B12 = true := by kernel_rfl
def spec_l71Net.T16 : Bool × List (List Nat × List Nat) := (true, [([], []), ([], []), ([], []), ([2], [2]), ([1, 3], [1, 3]), ([], []), ([], []), ([6], [6]), ([5, 7, 4], [5, 7]), ([0, 4, 8, 8], [0, 4, 8]), ([9], [9]), ([10], [10]), ([10], [10]), ([], []), ([13, 11, 9, 0, 1, 2, 3, 4, 5, 6, 7, 8, 9, 10, 11, 13], [11, 13]), ([12, 14, 0, 1, 2, 3, 4, 5, 6, 7, 8, 9, 10, 11, 12, 13, 14], [12])])
def spec_l71Net.B16 : List Nat := [0, 0, 0, 4, 14, 0, 0, 64, 254, 511, 1023, 2047, 2047, 0, 12287, 32767]
theorem spec_l71Net.tab16 : rtab .any (opsOf Try.f91 16) = spec_l71Net.T16 := by kernel_rfl
theorem spec_l71Net.bits16 : waitsOk spec_l71Net.T16.2 spec_l71Net.B16 = true := by kernel_rfl
set_option maxHeartbeats 8000000 in
set_option maxRecDepth 100000 in
theorem spec_l71Net.calls (k : Nat) (g : Nat) (s0_0 : List Int) (s0_1 : Int) (r1 : Int) (r2 : List (STie)) (r3 : Int) (w0 w : World) (hI : IsSRd w0 w g s0_0 s0_1) (hB : Below w0.heap.size w0 w) (h : spec_l71Net.f k s0_0 s0_1 = some (r1, r2, r3)) :
    Calls Try.prog 91 #[.pointer (some ⟨g, 0, none⟩)] w fun e w' => ∃ v1_ : Value, e = .returned (.agg #[.int .i64 r1, v1_]) ∧ Kd.R kTie 32 w' w.heap.size (fun _ => True) v1_ r2 ∧ IsSRd w0 w' g s0_0 r3 ∧ Below w0.heap.size w0 w' ∧ KeepBut w w' g none := by
 have hu25 := Try.underlying25
 have HI0 := q0 hI
 have HK := q0 (KeepBut.refl w g none)
 have HL := q0 hB.size
 clear hI
 have HW0 := q0 hB.size
 have HB := q0 hB
 clear hB
 have H : ((spec_l6Rd_pick.f k s0_0 s0_1 8).bind fun bt110 => ((spec_l6Rd_pick.f k s0_0 bt110.2 6).bind fun bt102 => (if bt102.1 = 0 then (spec_l71Net.l0 k 1 s0_0 bt102.2 (wrap64 (1 + bt110.1)) ([] : List (STie))) else (if bt102.1 = 1 then (spec_l71Net.l1 k 0 s0_0 bt102.2 (wrap64 (1 + bt110.1)) ([] : List (STie))) else (spec_l71Net.j2 k s0_0 bt102.2 (wrap64 (1 + bt110.1)) ([] : List (STie))))))) = some (r1, r2, r3) := h
 clear h
 obtain ⟨⟨t110, t111⟩, A2, H⟩ := ob H
 obtain ⟨⟨t102, t112⟩, A3, H⟩ := ob H
 have HC4 := q0 H
 clear H
 go_enter Try.func91, Try.ntmps91
 go_upto_block 0 with (first | ((with_reducible refine gd 2 ?_); refine be 2 #[.int .i64 0, .slice none 0 0] 25 ?_; intro gb113 hg w5 hbox hb; replace HB := q0 (below_step (qj HB.out HI0.out) hb); have BK113 := q0 (hbox); have GW113 := q0 ((by rw [hg]; exact (keep_size (w := w) (g := g) (row := none) (qh HK.out)) : w.heap.size ≤ gb113)); have GE113 := q0 ((Nat.le_trans HW0.out (by rw [hg]; exact (keep_size (w := w) (g := g) (row := none) (qh HK.out)) : w.heap.size ≤ gb113) : w0.heap.size ≤ gb113)); replace HK := q0 (KeepBut.trans (qh HK.out) (KeepBut.of_below hb g none) (.inl rfl)); have NB0_113 := q0 ((by rw [hg]; exact Nat.ne_of_lt (IsSRd.lt (show IsSRd w0 _ g s0_0 s0_1 from qi HI0.out)) : g ≠ gb113)); have NB113_0 := q0 ((by rw [hg]; exact Nat.ne_of_gt (IsSRd.lt (show IsSRd w0 _ g s0_0 s0_1 from qi HI0.out)) : gb113 ≠ g)); replace HI0 := q0 (IsSRd.below (qi HI0.out) hb); clear hb hbox hg) | ((with_reducible refine gf 59 ?_); refine gl 10 Try.func59 #[.pointer (some ⟨g, 0, none⟩), .int .i64 8] ?_; (with_reducible refine (spec_l6Rd_pick.calls k g s0_0 s0_1 8 t110 t111 w0 _ ?side1 ?side2 A2.out).mono ?_); (case side1 => exact qi HI0.out); (case side2 => exact qj HB.out HI0.out); rintro e w6 ⟨rfl, hi, hb, hk⟩; refine ⟨_, rfl, ?_⟩; replace BK113 := q0 (kc hk BK113.out NB113_0.out); replace HK := q0 (KeepBut.trans (qh HK.out) hk (.inl rfl)); replace HB := q0 (hb); replace HI0 := q0 (hi); (try clear hb); (try clear hb2); (try clear hk); (try clear hi)) | ((with_reducible refine gd 3 ?_); refine be 3 #[.int .i64 0, .slice none 0 0] 25 ?_; intro gb114 hg w7 hbox hb; replace HB := q0 (below_step (qj HB.out HI0.out) hb); have BK114 := q0 (hbox); have GW114 := q0 ((by rw [hg]; exact (keep_size (w := w) (g := g) (row := none) (qh HK.out)) : w.heap.size ≤ gb114)); have GE114 := q0 ((Nat.le_trans HW0.out (by rw [hg]; exact (keep_size (w := w) (g := g) (row := none) (qh HK.out)) : w.heap.size ≤ gb114) : w0.heap.size ≤ gb114)); replace HK := q0 (KeepBut.trans (qh HK.out) (KeepBut.of_below hb g none) (.inl rfl)); have NB113_114 := nl BK113 hg; have NB114_113 := ng BK113 hg; replace BK113 := kd BK113 hb; have NB0_114 := q0 ((by rw [hg]; exact Nat.ne_of_lt (IsSRd.lt (show IsSRd w0 _ g s0_0 t111 from qi HI0.out)) : g ≠ gb114)); have NB114_0 := q0 ((by rw [hg]; exact Nat.ne_of_gt (IsSRd.lt (show IsSRd w0 _ g s0_0 t111 from qi HI0.out)) : gb114 ≠ g)); replace HI0 := q0 (IsSRd.below (qi HI0.out) hb); clear hb hbox hg; have hnb8 := NB114_113.out; have hnc8 := NB113_114.out; have hnb9 := NB114_0.out; have hnc9 := NB0_114.out; obtain ⟨hcz10_0, hcz10_1, hfz10_0, hfz10_1⟩ := b2 BK114) | ((with_reducible refine gf 59 ?_); refine gl 14 Try.func59 #[.pointer (some ⟨g, 0, none⟩), .int .i64 6] ?_; (with_reducible refine (spec_l6Rd_pick.calls k g s0_0 t111 6 t102 t112 w0 _ ?side1 ?side2 A3.out).mono ?_); (case side1 => exact qi HI0.out); (case side2 => exact qj HB.out HI0.out); rintro e w11 ⟨rfl, hi, hb, hk⟩; refine ⟨_, rfl, ?_⟩; replace BK113 := q0 (kc hk BK113.out NB113_0.out); replace BK114 := q0 (KeepBut.blk hk (g' := gb114) (o := .cells #[.int .i64 (wrap64 (1 + t110)), .slice none 0 0] 25 (0, 0)) (by (with_reducible repeat (first | refine blk_drewN ?_ _ | refine blk_drew ?_ | refine blk_alloc ?_ _)); refine blk_put (cs := #[.int .i64 (wrap64 (1 + t110)), .slice none 0 0]) ?_ 1 _ rfl; (with_reducible repeat (first | refine blk_drewN ?_ _ | refine blk_drew ?_ | refine blk_alloc ?_ _)); refine blk_put (cs := #[.int .i64 0, .slice none 0 0]) ?_ 0 _ rfl; (with_reducible repeat (first | refine blk_drewN ?_ _ | refine blk_drew ?_ | refine blk_alloc ?_ _)); exact BK114.out) NB114_0.out (by simp)); replace HK := q0 (KeepBut.trans (qh HK.out) hk (.inl rfl)); replace HB := q0 (hb); replace HI0 := q0 (hi); (try clear hb); (try clear hb2); (try clear hk); (try clear hi)))
 (try simp only [Act.put, List.setIfInBounds_toArray, List.set_cons_zero, List.set_cons_succ])
 go_cut [] (fun wc => ∃ (kq : Nat) (x101_3 : Int) (x102000_3 : Int) (x102001_3 : List (STie)) (u102001 : Value), Aside0 (spec_l71Net.j2 kq s0_0 x101_3 x102000_3 x102001_3 = some (r1, r2, r3)) ∧ Aside0 (kq ≤ k) ∧ Aside0 (Kd.R kTie 32 wc w.heap.size (fun _ => True) u102001 x102001_3) ∧ Aside0 (wc.heap[gb113]? = some (.cells #[.int .i64 0, (.slice none 0 0)] 25 (0, 0))) ∧ Aside0 (wc.heap[gb114]? = some (.cells #[.int .i64 x102000_3, u102001] 25 (0, 0))) ∧ Aside0 (IsSRd w0 wc g s0_0 x101_3) ∧ Aside0 (KeepBut w wc g none) ∧ Aside0 (Below w0.heap.size w0 wc))
 case first =>
   have H := HC4.out
   clear HC4
   by_cases c12 : t102 = 0
   · rw [if_pos c12] at H
     have c12b0 : (t102 == 0) = true := beq_iff_eq.mpr c12
     have c12b1 : (t102 != 0) = false := bne_eq_false_iff_eq.mpr c12
     clear c12
     (first | rw [c12b0] | (simp only [i64_w, i32_w]; rw [c12b0]) | skip)
     have H' := q0 H
     clear H
     go_wp2
     go_loopg [4] k (fun kq v4 w' => ∃ (x4_1 : Int) (x101_1 : Int) (x102000_1 : Int) (x102001_1 : List (STie)) (u102001 : Value), v4 = .int .i64 x4_1 ∧ Aside0 (spec_l71Net.l0 kq x4_1 s0_0 x101_1 x102000_1 x102001_1 = some (r1, r2, r3)) ∧ Aside0 (kq ≤ k) ∧ Aside0 (Kd.R kTie 32 w' w.heap.size (fun _ => True) u102001 x102001_1) ∧ Aside0 (w'.heap[gb113]? = some (.cells #[.int .i64 0, (.slice none 0 0)] 25 (0, 0))) ∧ Aside0 (w'.heap[gb114]? = some (.cells #[.int .i64 x102000_1, u102001] 25 (0, 0))) ∧ Aside0 (IsSRd w0 w' g s0_0 x101_1) ∧ Aside0 (KeepBut w w' g none) ∧ Aside0 (Below w0.heap.size w0 w'))
     case atStart => exact ⟨(1), (t112), (wrap64 (1 + t110)), (([] : List (STie))), (.slice none 0 0), qs, H', ⟨Nat.le_refl _⟩, ⟨by first | exact Kd.R_nil _ _ _ _ _ | exact Kd.N_nil _ _ _ _ _ | exact Kd.V_nil _ _ _ _ _ | exact Kd.Q_nil _ _ _ _ _ | exact Kd.S_nil _ _ _ _ _⟩, ⟨qk BK113.out⟩, ⟨qk BK114.out⟩, ⟨qi HI0.out⟩, ⟨qh HK.out⟩, ⟨qj HB.out HI0.out⟩⟩
     clear H'
     try clear c1
     try clear p2
     try clear c5
     try clear p6
     try clear c8
     try clear c9
     try clear c12
     try clear c12b0
     try clear c12b1
     try clear hcz10_0
     try clear hcz10_1
     try clear hfz10_0
     try clear hfz10_1
     obtain ⟨x4_1, x101_1, x102000_1, x102001_1, u102001, rfl, HA, HK1, HO_102001, BK113, BK114, HI0, HK, HB⟩ := hrel
     rcases gk with _ | k1
     · exact absurd HA.out (by simp [spec_l71Net.l0])
     have H := HA.out
     clear HA
     simp only [spec_l71Net.l0] at H
     by_cases c13 : x4_1 < x102000_1
     rotate_left
     · rw [if_neg c13] at H
       have c13b0 := decide_eq_false c13
       clear c13
       have H' := q0 H
       clear H
       have hnb26 := NB114_113.out
       have hnc26 := NB113_114.out
       have hnb27 := NB114_0.out
       have hnc27 := NB0_114.out
       obtain ⟨hcz28_0, hcz28_1, hfz28_0, hfz28_1⟩ := b2 BK114
       go_wp2
       go_meet
       case rel => exact ⟨_, (x101_1), (x102000_1), (x102001_1), (u102001), H', ⟨by have := HK1.out; first | omega | exact Nat.le_refl _⟩, ⟨qr HO_102001.out⟩, ⟨qk BK113.out⟩, ⟨qk BK114.out⟩, ⟨qi HI0.out⟩, ⟨qh HK.out⟩, ⟨qj HB.out HI0.out⟩⟩
     rw [if_pos c13] at H
     have c13b0 := decide_eq_true c13
     clear c13
     obtain ⟨⟨t107, t115⟩, A14, H⟩ := ob H
     obtain ⟨⟨t108, t117, t118⟩, A15, H⟩ := ob H
     have H' := q0 H
     clear H
     have hnb16 := NB114_113.out
     have hnc16 := NB113_114.out
     have hnb17 := NB114_0.out
     have hnc17 := NB0_114.out
     obtain ⟨hcz18_0, hcz18_1, hfz18_0, hfz18_1⟩ := b2 BK114
     try go_wp2
     replace HO_102001 := q0 (Kd.R_drew HO_102001.out)
     replace BK113 := q0 (blk_drew BK113.out)
     replace BK114 := q0 (blk_drew BK114.out)
     replace HI0 := q0 (IsSRd.drew HI0.out)
     replace HK := q0 (keep_drew HK.out)
     replace HB := q0 (below_drew1 HB.out)
     refine start_ (n := 10) (S := fun w' => w'.cell? ⟨gb114, 0, none⟩ = some (.int .i64 x102000_1) ∧ w'.cell? ⟨gb114, 1, none⟩ = some (u102001)) (ds := [9]) (ba 10 0) (by kernel_rfl) rfl (by kernel_rfl) ⟨bca BK114, bcb BK114⟩ (fun hHeld => ?_); refine with_tabW spec_l71Net.tab7 spec_l71Net.bits7 (fun HT_ HW_ => ?_)
     generalize wr.drew = w19 at HO_102001 BK113 BK114 HI0 HK HB hHeld ⊢
     refine pU 1 25 10 2 HT_ ?_
     refine pU 2 26 10 6 HT_ ?_
     refine pU 3 27 10 14 HT_ ?_
     refine tU 0 24 10 15 HT_ HW_ hHeld ?_
     refine one_ (i := 4) (N := some 28) (ba 10 31) rfl rfl (one_of HT_.out (by kernel_rfl)) (by decide) (fun K hK => ?_)
     refine goes_ Try.func59 (by kernel_rfl) rfl #[.pointer (some ⟨g, 0, none⟩), .int .i64 x4_1] (by rfl) rfl rfl qm ?_
     with_reducible refine (spec_l6Rd_pick.calls k1 g s0_0 x101_1 x4_1 t107 t115 w0 _ ?side1 ?side2 A14.out).mono ?_
     (case side1 => exact qi HI0.out)
     (case side2 => exact qj HB.out HI0.out)
     rintro e w20 ⟨rfl, hi, hb, hk⟩
     refine ⟨_, rfl, ?_⟩
     replace HO_102001 := q0 (Kd.R_mono (Kd.R_keep (IsSRd.apart (show IsSRd w0 _ g s0_0 x101_1 from qi HI0.out) (qr HO_102001.out) (by decide)) hk (fun _ h => h.2)) (fun _ h => h.1))
     replace BK113 := q0 (kc hk BK113.out NB113_0.out)
     replace BK114 := q0 (kc hk BK114.out NB114_0.out)
     replace HK := q0 (KeepBut.trans (qh HK.out) hk (.inl rfl))
     replace HB := q0 (hb)
     replace HI0 := q0 (hi)
     (try clear hb)
     (try clear hb2)
     (try clear hk)
     (try clear hi)
     obtain ⟨Ao21, co21, eo21⟩ := Kd.R_slice HO_102001.out
     (first | subst eo21 | (injection eo21 with f1_ f2_ f3_; have f4_ := f1_.symm; have f5_ := f3_.symm; clear f1_ f2_ f3_; subst f4_; subst f5_))
     refine hK.out _ _ ⟨bca BK114, bcb BK114⟩ (fun hHeld => ?_)
     clear hK K
     refine nu 28 ?_
     refine one_ (i := 5) (N := some 29) (ba 10 63) rfl rfl (one_of HT_.out (by kernel_rfl)) (by decide) (fun K hK => ?_)
     refine goes_ Try.func27 (by kernel_rfl) rfl #[.agg #[.int .i64 x102000_1, .slice Ao21 x102001_1.length co21], .int .i64 x4_1, .int .i64 t107] (by rfl) rfl rfl qm ?_
     with_reducible refine (spec_NetAdd.calls k1 x102000_1 _ _ x102001_1 x4_1 t107 t108 t117 t118 _ ?side1 ?side2 A15.out).mono ?_
     (case side1 => exact qc (Kd.R_reads' HO_102001.out).2.2)
     (case side2 => exact (Kd.R_reads' HO_102001.out).2.1)
     rintro e w22 ⟨v120, rfl, ho0, hb⟩
     refine ⟨_, rfl, ?_⟩
     have HO121 := q0 (Kd.R_lower (Kd.R_new' ho0 (Kd.R_lt (qr HO_102001.out))) (keep_size (w := w) (g := g) (row := none) (qh HK.out)))
     replace HO_102001 := q0 (Kd.R_elder' (qr HO_102001.out) (Kd.R_base ho0) hb)
     replace BK113 := kd BK113 hb
     replace BK114 := kd BK114 hb
     replace HK := q0 (KeepBut.trans (qh HK.out) (KeepBut.of_below hb g none) (.inl rfl))
     replace HB := q0 (below_step (qj HB.out HI0.out) hb)
     replace HI0 := q0 (IsSRd.below (qi HI0.out) hb)
     (try clear hb)
     (try clear hb2)
     (try clear hk)
     (try clear hi)
     (try clear ho0)
     obtain ⟨Ao24, co24, eo24⟩ := Kd.R_slice HO121.out
     (first | subst eo24 | (injection eo24 with f1_ f2_ f3_; have f4_ := f1_.symm; have f5_ := f3_.symm; clear f1_ f2_ f3_; subst f4_; subst f5_))
     refine hK.out _ _ ⟨bca BK114, bcb BK114⟩ (fun hHeld => ?_)
     clear hK K
     refine nu 29 ?_
     refine pU 6 23 10 127 HT_ ?_
     refine pU 7 30 10 255 HT_ ?_
     refine pU 8 31 10 511 HT_ ?_
     refine last_ (i := 9) (N := none) (ba 10 1023) rfl rfl (one_of HT_.out (by kernel_rfl)) (by decide) (fun K hK => ?_)
     have hs23 : w22.cell? ⟨gb114, 0, none⟩ = some (.int .i64 x102000_1) := (blk_cell BK114.out 0).trans rfl
     have hfs23 := blk_frozen BK114.out 0
     have hns23_0 := NB113_114.out
     have hms23_0 := NB114_113.out
     have hs25 : w22.cell? ⟨gb114, 1, none⟩ = some (.slice Ao21 x102001_1.length co21) := (blk_cell BK114.out 1).trans rfl
     have hfs25 := blk_frozen BK114.out 1
     have hns25_0 := NB113_114.out
     have hms25_0 := NB114_113.out
     refine skip_ (w1 := ?_) (by rfl) rfl ?_ ?_
     rotate_left
     · go_simp
       rfl
     refine hK.out _ _ ?_
     clear hK K
     refine done_ (done_of HT_.out (by kernel_rfl)) ?_
     try go_wp2
     go_roundg k1
     case measure => have := HK1.out; omega
     case rel => exact ⟨(wrap64 (x4_1 + 1)), (t115), (t108), (t117), (.slice Ao24 t117.length co24), qs, H', ⟨by have := HK1.out; omega⟩, ⟨by (with_reducible repeat (first | apply Kd.R_alloc | apply Kd.R_drewN | apply Kd.R_drew)); exact rf2 HO121.out BK114.out (fun _ hk => trivial)⟩, ⟨qf BK113.out⟩, ⟨by (with_reducible repeat (first | refine blk_drewN ?_ _ | refine blk_drew ?_ | refine blk_alloc ?_ _)); refine blk_put (cs := #[.int .i64 t108, .slice Ao21 x102001_1.length co21]) ?_ 1 _ rfl; (with_reducible repeat (first | refine blk_drewN ?_ _ | refine blk_drew ?_ | refine blk_alloc ?_ _)); refine blk_put (cs := #[.int .i64 x102000_1, .slice Ao21 x102001_1.length co21]) ?_ 0 _ rfl; (with_reducible repeat (first | refine blk_drewN ?_ _ | refine blk_drew ?_ | refine blk_alloc ?_ _)); exact BK114.out⟩, ⟨qi HI0.out⟩, ⟨qh HK.out⟩, ⟨qj HB.out HI0.out⟩⟩
   rw [if_neg c12] at H
   have c12b0 : (t102 == 0) = false := beq_eq_false_iff_ne.mpr c12
   have c12b1 : (t102 != 0) = true := bne_iff_ne.mpr c12
   (first | rw [c12b0] | (simp only [i64_w, i32_w]; rw [c12b0]) | skip)
   by_cases c29 : t102 = 1
   rotate_left
   · rw [if_neg c29] at H
     have c29b0 : (t102 == 1) = false := beq_eq_false_iff_ne.mpr c29
     have c29b1 : (t102 != 1) = true := bne_iff_ne.mpr c29
     have H' := q0 H
     clear H
     go_wp2
     go_meet
     case rel => exact ⟨_, (t112), (wrap64 (1 + t110)), (([] : List (STie))), (.slice none 0 0), H', ⟨by first | omega | exact Nat.le_refl _⟩, ⟨by first | exact Kd.R_nil _ _ _ _ _ | exact Kd.N_nil _ _ _ _ _ | exact Kd.V_nil _ _ _ _ _ | exact Kd.Q_nil _ _ _ _ _ | exact Kd.S_nil _ _ _ _ _⟩, ⟨qk BK113.out⟩, ⟨qk BK114.out⟩, ⟨qi HI0.out⟩, ⟨qh HK.out⟩, ⟨qj HB.out HI0.out⟩⟩
   rw [if_pos c29] at H
   have c29b0 : (t102 == 1) = true := beq_iff_eq.mpr c29
   have c29b1 : (t102 != 1) = false := bne_eq_false_iff_eq.mpr c29
   clear c29
   have H' := q0 H
   clear H
   go_wp2
   go_loopg [5] k (fun kq v5 w' => ∃ (x5_1 : Int) (x102000_1 : Int) (x102001_1 : List (STie)) (u102001 : Value), v5 = .int .i64 x5_1 ∧ Aside0 (spec_l71Net.l1 kq x5_1 s0_0 t112 x102000_1 x102001_1 = some (r1, r2, r3)) ∧ Aside0 (kq ≤ k) ∧ Aside0 (Kd.R kTie 32 w' w.heap.size (fun _ => True) u102001 x102001_1) ∧ Aside0 (w'.heap[gb113]? = some (.cells #[.int .i64 0, (.slice none 0 0)] 25 (0, 0))) ∧ Aside0 (w'.heap[gb114]? = some (.cells #[.int .i64 x102000_1, u102001] 25 (0, 0))) ∧ Aside0 (IsSRd w0 w' g s0_0 t112) ∧ Aside0 (KeepBut w w' g none) ∧ Aside0 (Below w0.heap.size w0 w'))
   case atStart => exact ⟨(0), (wrap64 (1 + t110)), (([] : List (STie))), (.slice none 0 0), qs, H', ⟨Nat.le_refl _⟩, ⟨by first | exact Kd.R_nil _ _ _ _ _ | exact Kd.N_nil _ _ _ _ _ | exact Kd.V_nil _ _ _ _ _ | exact Kd.Q_nil _ _ _ _ _ | exact Kd.S_nil _ _ _ _ _⟩, ⟨qk BK113.out⟩, ⟨qk BK114.out⟩, ⟨qi HI0.out⟩, ⟨qh HK.out⟩, ⟨qj HB.out HI0.out⟩⟩
   clear H'
   try clear c1
   try clear c2
   try clear p2
   try clear c5
   try clear p6
   try clear c8
   try clear c9
   try clear c12
   try clear c12b0
   try clear c12b1
   try clear c13
   try clear c13b0
   try clear c16
   try clear c17
   try clear c26
   try clear c27
   try clear c29
   try clear c29b0
   try clear c29b1
   try clear hcz10_0
   try clear hcz10_1
   try clear hcz18_0
   try clear hcz18_1
   try clear hcz28_0
   try clear hcz28_1
   try clear hfz10_0
   try clear hfz10_1
   try clear hfz18_0
   try clear hfz18_1
   try clear hfz28_0
   try clear hfz28_1
   try clear p2
   try clear p6
   obtain ⟨x5_1, x102000_1, x102001_1, u102001, rfl, HA, HK1, HO_102001, BK113, BK114, HI0, HK, HB⟩ := hrel
   rcases gk with _ | k1
   · exact absurd HA.out (by simp [spec_l71Net.l1])
   have H := HA.out
   clear HA
   simp only [spec_l71Net.l1] at H
   by_cases c30 : x5_1 < x102000_1
   rotate_left
   · rw [if_neg c30] at H
     have c30b0 := decide_eq_false c30
     clear c30
     have H' := q0 H
     clear H
     have hnb46 := NB114_113.out
     have hnc46 := NB113_114.out
     have hnb47 := NB114_0.out
     have hnc47 := NB0_114.out
     obtain ⟨hcz48_0, hcz48_1, hfz48_0, hfz48_1⟩ := b2 BK114
     go_wp2
     go_meet
     case rel => exact ⟨_, (t112), (x102000_1), (x102001_1), (u102001), H', ⟨by have := HK1.out; first | omega | exact Nat.le_refl _⟩, ⟨qr HO_102001.out⟩, ⟨qk BK113.out⟩, ⟨qk BK114.out⟩, ⟨qi HI0.out⟩, ⟨qh HK.out⟩, ⟨qj HB.out HI0.out⟩⟩
   rw [if_pos c30] at H
   have c30b0 := decide_eq_true c30
   clear c30
   by_cases c31 : x102000_1 > 2
   rotate_left
   · rw [if_neg c31] at H
     have c31b0 := decide_eq_false c31
     clear c31
     have H' := q0 H
     clear H
     have hnb43 := NB114_113.out
     have hnc43 := NB113_114.out
     have hnb44 := NB114_0.out
     have hnc44 := NB0_114.out
     obtain ⟨hcz45_0, hcz45_1, hfz45_0, hfz45_1⟩ := b2 BK114
     go_wp2
     go_meet
     case rel => exact ⟨_, (t112), (x102000_1), (x102001_1), (u102001), H', ⟨by have := HK1.out; first | omega | exact Nat.le_refl _⟩, ⟨qr HO_102001.out⟩, ⟨qk BK113.out⟩, ⟨qk BK114.out⟩, ⟨qi HI0.out⟩, ⟨qh HK.out⟩, ⟨qj HB.out HI0.out⟩⟩
   rw [if_pos c31] at H
   have c31b0 := decide_eq_true c31
   clear c31
   by_cases c32 : x102000_1 = 0
   · rw [if_pos c32] at H
     exact absurd H (by simp)
   rw [if_neg c32] at H
   have c32b0 : (x102000_1 == 0) = false := beq_eq_false_iff_ne.mpr c32
   have c32b1 : (x102000_1 != 0) = true := bne_iff_ne.mpr c32
   obtain ⟨⟨t109, t122, t123⟩, A33, H⟩ := ob H
   have H' := q0 H
   clear H
   have hnb34 := NB114_113.out
   have hnc34 := NB113_114.out
   have hnb35 := NB114_0.out
   have hnc35 := NB0_114.out
   obtain ⟨hcz36_0, hcz36_1, hfz36_0, hfz36_1⟩ := b2 BK114
   try go_wp2
   replace HO_102001 := q0 (Kd.R_drew HO_102001.out)
   replace BK113 := q0 (blk_drew BK113.out)
   replace BK114 := q0 (blk_drew BK114.out)
   replace HI0 := q0 (IsSRd.drew HI0.out)
   replace HK := q0 (keep_drew HK.out)
   replace HB := q0 (below_drew1 HB.out)
   obtain ⟨Ao38, co38, eo38⟩ := Kd.R_slice HO_102001.out
   (first | subst eo38 | (injection eo38 with f1_ f2_ f3_; have f4_ := f1_.symm; have f5_ := f3_.symm; clear f1_ f2_ f3_; subst f4_; subst f5_))
   refine start_ (n := 12) (S := fun w' => w'.cell? ⟨gb114, 0, none⟩ = some (.int .i64 x102000_1) ∧ w'.cell? ⟨gb114, 1, none⟩ = some (.slice Ao38 x102001_1.length co38)) (ds := [11]) (ba 12 0) (by kernel_rfl) rfl (by kernel_rfl) ⟨bca BK114, bcb BK114⟩ (fun hHeld => ?_); refine with_tabW spec_l71Net.tab12 spec_l71Net.bits12 (fun HT_ HW_ => ?_)
   generalize wr.drew = w37 at HO_102001 BK113 BK114 HI0 HK HB hHeld ⊢
   refine pU 1 47 12 2 HT_ ?_
   refine pU 2 48 12 6 HT_ ?_
   refine pU 3 49 12 14 HT_ ?_
   refine pU 4 50 12 30 HT_ ?_
   refine tU 0 46 12 31 HT_ HW_ hHeld ?_
   refine tU 5 51 12 63 HT_ HW_ hHeld ?_
   refine pU 6 52 12 127 HT_ ?_
   refine one_ (i := 7) (N := some 53) (ba 12 255) rfl rfl (one_of HT_.out (by kernel_rfl)) (by decide) (fun K hK => ?_)
   refine goes_ Try.func27 (by kernel_rfl) rfl #[.agg #[.int .i64 x102000_1, .slice Ao38 x102001_1.length co38], .int .i64 x5_1, .int .i64 (Int.tmod (wrap64 (x5_1 + 1)) x102000_1)] (by rfl) rfl rfl qm ?_
   with_reducible refine (spec_NetAdd.calls k1 x102000_1 _ _ x102001_1 x5_1 (Int.tmod (wrap64 (x5_1 + 1)) x102000_1) t109 t122 t123 _ ?side1 ?side2 A33.out).mono ?_
   (case side1 => exact qc (Kd.R_reads' HO_102001.out).2.2)
   (case side2 => exact (Kd.R_reads' HO_102001.out).2.1)
   rintro e w39 ⟨v125, rfl, ho0, hb⟩
   refine ⟨_, rfl, ?_⟩
   have HO126 := q0 (Kd.R_lower (Kd.R_new' ho0 (Kd.R_lt (qr HO_102001.out))) (keep_size (w := w) (g := g) (row := none) (qh HK.out)))
   replace HO_102001 := q0 (Kd.R_elder' (qr HO_102001.out) (Kd.R_base ho0) hb)
   replace BK113 := kd BK113 hb
   replace BK114 := kd BK114 hb
   replace HK := q0 (KeepBut.trans (qh HK.out) (KeepBut.of_below hb g none) (.inl rfl))
   replace HB := q0 (below_step (qj HB.out HI0.out) hb)
   replace HI0 := q0 (IsSRd.below (qi HI0.out) hb)
   (try clear hb)
   (try clear hb2)
   (try clear hk)
   (try clear hi)
   (try clear ho0)
   obtain ⟨Ao41, co41, eo41⟩ := Kd.R_slice HO126.out
   (first | subst eo41 | (injection eo41 with f1_ f2_ f3_; have f4_ := f1_.symm; have f5_ := f3_.symm; clear f1_ f2_ f3_; subst f4_; subst f5_))
   refine hK.out _ _ ⟨bca BK114, bcb BK114⟩ (fun hHeld => ?_)
   clear hK K
   refine nu 53 ?_
   refine pU 8 45 12 511 HT_ ?_
   refine pU 9 54 12 1023 HT_ ?_
   refine pU 10 55 12 2047 HT_ ?_
   refine last_ (i := 11) (N := none) (ba 12 4095) rfl rfl (one_of HT_.out (by kernel_rfl)) (by decide) (fun K hK => ?_)
   have hs40 : w39.cell? ⟨gb114, 0, none⟩ = some (.int .i64 x102000_1) := (blk_cell BK114.out 0).trans rfl
   have hfs40 := blk_frozen BK114.out 0
   have hns40_0 := NB113_114.out
   have hms40_0 := NB114_113.out
   have hs42 : w39.cell? ⟨gb114, 1, none⟩ = some (.slice Ao38 x102001_1.length co38) := (blk_cell BK114.out 1).trans rfl
   have hfs42 := blk_frozen BK114.out 1
   have hns42_0 := NB113_114.out
   have hms42_0 := NB114_113.out
   refine skip_ (w1 := ?_) (by rfl) rfl ?_ ?_
   rotate_left
   · go_simp
     rfl
   refine hK.out _ _ ?_
   clear hK K
   refine done_ (done_of HT_.out (by kernel_rfl)) ?_
   try go_wp2
   go_roundg k1
   case measure => have := HK1.out; omega
   case rel => exact ⟨(wrap64 (x5_1 + 1)), (t109), (t122), (.slice Ao41 t122.length co41), qs, H', ⟨by have := HK1.out; omega⟩, ⟨by (with_reducible repeat (first | apply Kd.R_alloc | apply Kd.R_drewN | apply Kd.R_drew)); exact rf2 HO126.out BK114.out (fun _ hk => trivial)⟩, ⟨qf BK113.out⟩, ⟨by (with_reducible repeat (first | refine blk_drewN ?_ _ | refine blk_drew ?_ | refine blk_alloc ?_ _)); refine blk_put (cs := #[.int .i64 t109, .slice Ao38 x102001_1.length co38]) ?_ 1 _ rfl; (with_reducible repeat (first | refine blk_drewN ?_ _ | refine blk_drew ?_ | refine blk_alloc ?_ _)); refine blk_put (cs := #[.int .i64 x102000_1, .slice Ao38 x102001_1.length co38]) ?_ 0 _ rfl; (with_reducible repeat (first | refine blk_drewN ?_ _ | refine blk_drew ?_ | refine blk_alloc ?_ _)); exact BK114.out⟩, ⟨qi HI0.out⟩, ⟨qh HK.out⟩, ⟨qj HB.out HI0.out⟩⟩
 clear HC4
 try clear c1
 try clear c2
 try clear p2
 try clear c3
 try clear c4
 try clear c5
 try clear p6
 try clear c8
 try clear c9
 try clear c12
 try clear c12b0
 try clear c12b1
 try clear c13
 try clear c13b0
 try clear c16
 try clear c17
 try clear c26
 try clear c27
 try clear c29
 try clear c29b0
 try clear c29b1
 try clear c30
 try clear c30b0
 try clear c31
 try clear c31b0
 try clear c32
 try clear c32b0
 try clear c32b1
 try clear c34
 try clear c35
 try clear c43
 try clear c44
 try clear c46
 try clear c47
 try clear hcz10_0
 try clear hcz10_1
 try clear hcz18_0
 try clear hcz18_1
 try clear hcz28_0
 try clear hcz28_1
 try clear hcz36_0
 try clear hcz36_1
 try clear hcz45_0
 try clear hcz45_1
 try clear hcz48_0
 try clear hcz48_1
 try clear hfz10_0
 try clear hfz10_1
 try clear hfz18_0
 try clear hfz18_1
 try clear hfz28_0
 try clear hfz28_1
 try clear hfz36_0
 try clear hfz36_1
 try clear hfz45_0
 try clear hfz45_1
 try clear hfz48_0
 try clear hfz48_1
 try clear p2
 try clear p6
 obtain ⟨kq, x101_3, x102000_3, x102001_3, u102001, HA, HJ3, HO_102001, BK113, BK114, HI0, HK, HB⟩ := hcut
 rcases kq with _ | kj3
 · exact absurd HA.out (by simp [spec_l71Net.j2])
 have H := HA.out
 clear HA
 simp only [spec_l71Net.j2] at H
 obtain ⟨⟨t103, t127⟩, A49, H⟩ := ob H
 have H' := q0 H
 clear H
 go_wp2_with (first | ((with_reducible refine gf 59 ?_); refine gl 57 Try.func59 #[.pointer (some ⟨g, 0, none⟩), .int .i64 13] ?_; (with_reducible refine (spec_l6Rd_pick.calls kj3 g s0_0 x101_3 13 t103 t127 w0 _ ?side1 ?side2 A49.out).mono ?_); (case side1 => exact qi HI0.out); (case side2 => exact qj HB.out HI0.out); rintro e w50 ⟨rfl, hi, hb, hk⟩; refine ⟨_, rfl, ?_⟩; replace HO_102001 := q0 (Kd.R_mono (Kd.R_keep (IsSRd.apart (show IsSRd w0 _ g s0_0 x101_3 from qi HI0.out) (qr HO_102001.out) (by decide)) hk (fun _ h => h.2)) (fun _ h => h.1)); replace BK113 := q0 (kc hk BK113.out NB113_0.out); replace BK114 := q0 (kc hk BK114.out NB114_0.out); replace HK := q0 (KeepBut.trans (qh HK.out) hk (.inl rfl)); replace HB := q0 (hb); replace HI0 := q0 (hi); (try clear hb); (try clear hb2); (try clear hk); (try clear hi)))
 go_loopg [6] kj3 (fun kq v6 w' => ∃ (x6_2 : Int) (x101_2 : Int) (x102000_2 : Int) (x102001_2 : List (STie)) (u102001 : Value), v6 = .int .i64 x6_2 ∧ Aside0 (spec_l71Net.l2 kq x6_2 s0_0 x101_2 x102000_2 x102001_2 = some (r1, r2, r3)) ∧ Aside0 (kq ≤ kj3) ∧ Aside0 (Kd.R kTie 32 w' w.heap.size (fun _ => True) u102001 x102001_2) ∧ Aside0 (w'.heap[gb113]? = some (.cells #[.int .i64 0, (.slice none 0 0)] 25 (0, 0))) ∧ Aside0 (w'.heap[gb114]? = some (.cells #[.int .i64 x102000_2, u102001] 25 (0, 0))) ∧ Aside0 (IsSRd w0 w' g s0_0 x101_2) ∧ Aside0 (KeepBut w w' g none) ∧ Aside0 (Below w0.heap.size w0 w'))
 case atStart => exact ⟨(t103), (t127), (x102000_3), (x102001_3), (u102001), qs, H', ⟨Nat.le_refl _⟩, ⟨qr HO_102001.out⟩, ⟨qk BK113.out⟩, ⟨qk BK114.out⟩, ⟨qi HI0.out⟩, ⟨qh HK.out⟩, ⟨qj HB.out HI0.out⟩⟩
 clear H'
 try clear c1
 try clear c2
 try clear p2
 try clear c3
 try clear c4
 try clear c5
 try clear p6
 try clear c8
 try clear c9
 try clear c12
 try clear c12b0
 try clear c12b1
 try clear c13
 try clear c13b0
 try clear c16
 try clear c17
 try clear c26
 try clear c27
 try clear c29
 try clear c29b0
 try clear c29b1
 try clear c30
 try clear c30b0
 try clear c31
 try clear c31b0
 try clear c32
 try clear c32b0
 try clear c32b1
 try clear c34
 try clear c35
 try clear c43
 try clear c44
 try clear c46
 try clear c47
 try clear hcz10_0
 try clear hcz10_1
 try clear hcz18_0
 try clear hcz18_1
 try clear hcz28_0
 try clear hcz28_1
 try clear hcz36_0
 try clear hcz36_1
 try clear hcz45_0
 try clear hcz45_1
 try clear hcz48_0
 try clear hcz48_1
 try clear hfz10_0
 try clear hfz10_1
 try clear hfz18_0
 try clear hfz18_1
 try clear hfz28_0
 try clear hfz28_1
 try clear hfz36_0
 try clear hfz36_1
 try clear hfz45_0
 try clear hfz45_1
 try clear hfz48_0
 try clear hfz48_1
 try clear p2
 try clear p6
 obtain ⟨x6_2, x101_2, x102000_2, x102001_2, u102001, rfl, HA, HK2, HO_102001, BK113, BK114, HI0, HK, HB⟩ := hrel
 rcases gk with _ | k2
 · exact absurd HA.out (by simp [spec_l71Net.l2])
 have H := HA.out
 clear HA
 simp only [spec_l71Net.l2] at H
 have HC51 := q0 H
 clear H
 go_upto_region 14 with (fail)
 go_cut [64] (fun v64 wc => ∃ (kq : Nat) (x64_50 : Bool), v64 = .bool x64_50 ∧ Aside0 (spec_l71Net.j4 kq x6_2 x64_50 s0_0 x101_2 x102000_2 x102001_2 = some (r1, r2, r3)) ∧ Aside0 (kq ≤ k2) ∧ Aside0 (Kd.R kTie 32 wc w.heap.size (fun _ => True) u102001 x102001_2) ∧ Aside0 (wc.heap[gb113]? = some (.cells #[.int .i64 0, (.slice none 0 0)] 25 (0, 0))) ∧ Aside0 (wc.heap[gb114]? = some (.cells #[.int .i64 x102000_2, u102001] 25 (0, 0))) ∧ Aside0 (IsSRd w0 wc g s0_0 x101_2) ∧ Aside0 (KeepBut w wc g none) ∧ Aside0 (Below w0.heap.size w0 wc))
 case first =>
   have H := HC51.out
   clear HC51
   by_cases c52 : x6_2 > 0
   rotate_left
   · rw [if_neg c52] at H
     have c52b0 := decide_eq_false c52
     clear c52
     (first | rw [c52b0] | (simp only [i64_w, i32_w]; rw [c52b0]) | skip)
     have H' := q0 H
     clear H
     go_wp2
     go_meet
     case rel => exact ⟨_, (false), qs, H', ⟨by have := HJ3.out; have := HK2.out; first | omega | exact Nat.le_refl _⟩, ⟨qr HO_102001.out⟩, ⟨qk BK113.out⟩, ⟨qk BK114.out⟩, ⟨qi HI0.out⟩, ⟨qh HK.out⟩, ⟨qj HB.out HI0.out⟩⟩
   rw [if_pos c52] at H
   have c52b0 := decide_eq_true c52
   clear c52
   (first | rw [c52b0] | (simp only [i64_w, i32_w]; rw [c52b0]) | skip)
   have H' := q0 H
   clear H
   have hnb53 := NB114_113.out
   have hnc53 := NB113_114.out
   have hnb54 := NB114_0.out
   have hnc54 := NB0_114.out
   obtain ⟨hcz55_0, hcz55_1, hfz55_0, hfz55_1⟩ := b2 BK114
   go_wp2
   go_meet
   case rel => exact ⟨_, (decide (x102000_2 > 1)), qs, H', ⟨by have := HJ3.out; have := HK2.out; first | omega | exact Nat.le_refl _⟩, ⟨qr HO_102001.out⟩, ⟨qk BK113.out⟩, ⟨qk BK114.out⟩, ⟨qi HI0.out⟩, ⟨qh HK.out⟩, ⟨qj HB.out HI0.out⟩⟩
 clear HC51
 try clear c1
 try clear c2
 try clear p2
 try clear c3
 try clear c4
 try clear c5
 try clear p6
 try clear c8
 try clear c9
 try clear c12
 try clear c12b0
 try clear c12b1
 try clear c13
 try clear c13b0
 try clear c16
 try clear c17
 try clear c26
 try clear c27
 try clear c29
 try clear c29b0
 try clear c29b1
 try clear c30
 try clear c30b0
 try clear c31
 try clear c31b0
 try clear c32
 try clear c32b0
 try clear c32b1
 try clear c34
 try clear c35
 try clear c43
 try clear c44
 try clear c46
 try clear c47
 try clear c52
 try clear c52b0
 try clear c53
 try clear c54
 try clear hcz10_0
 try clear hcz10_1
 try clear hcz18_0
 try clear hcz18_1
 try clear hcz28_0
 try clear hcz28_1
 try clear hcz36_0
 try clear hcz36_1
 try clear hcz45_0
 try clear hcz45_1
 try clear hcz48_0
 try clear hcz48_1
 try clear hcz55_0
 try clear hcz55_1
 try clear hfz10_0
 try clear hfz10_1
 try clear hfz18_0
 try clear hfz18_1
 try clear hfz28_0
 try clear hfz28_1
 try clear hfz36_0
 try clear hfz36_1
 try clear hfz45_0
 try clear hfz45_1
 try clear hfz48_0
 try clear hfz48_1
 try clear hfz55_0
 try clear hfz55_1
 try clear p2
 try clear p6
 obtain ⟨kq, x64_50, rfl, HA, HJ50, HO_102001, BK113, BK114, HI0, HK, HB⟩ := hcut
 rcases kq with _ | kj50
 · exact absurd HA.out (by simp [spec_l71Net.j4])
 have H := HA.out
 clear HA
 simp only [spec_l71Net.j4] at H
 by_cases c56 : x64_50 = true
 rotate_left
 · replace c56 := Bool.eq_false_iff.mpr c56
   subst c56
   rw [if_neg nf] at H
   simp only [Option.some.injEq, Prod.mk.injEq] at H
   obtain ⟨rfl, rfl, rfl⟩ := H
   have hnb88 := NB114_113.out
   have hnc88 := NB113_114.out
   have hnb89 := NB114_0.out
   have hnc89 := NB0_114.out
   obtain ⟨hcz90_0, hcz90_1, hfz90_0, hfz90_1⟩ := b2 BK114
   have hnb91 := NB113_0.out
   have hnc91 := NB0_113.out
   obtain ⟨hcz92_0, hcz92_1, hfz92_0, hfz92_1⟩ := b2 BK113
   obtain ⟨Ao93, co93, eo93⟩ := Kd.R_slice HO_102001.out
   subst eo93
   go_wp2
   refine bodyPost_ret (results_cell_row rfl _ _ gb113 25 #[.int .i64 x102000_2, .slice Ao93 x102001_2.length co93] (0, 0) _ rfl (by (with_reducible repeat (first | refine blk_drewN ?_ _ | refine blk_drew ?_ | refine blk_alloc ?_ _)); refine blk_put (cs := #[.int .i64 x102000_2, .slice none 0 0]) ?_ 1 _ rfl; (with_reducible repeat (first | refine blk_drewN ?_ _ | refine blk_drew ?_ | refine blk_alloc ?_ _)); refine blk_put (cs := #[.int .i64 0, .slice none 0 0]) ?_ 0 _ rfl; (with_reducible repeat (first | refine blk_drewN ?_ _ | refine blk_drew ?_ | refine blk_alloc ?_ _)); exact BK113.out) Try.underlying25 rfl (by kernel_rfl)) rfl ?_
   exact ⟨_, qe, by (with_reducible repeat (first | apply Kd.R_alloc | apply Kd.R_drewN | apply Kd.R_drew)); exact rf2 HO_102001.out BK113.out (fun _ hk => trivial), qi HI0.out, qj HB.out HI0.out, by repeat (first | (with_reducible first | exact HK.out | apply KeepBut.set_ | apply keep_drewN | apply keep_drew | apply keep_alloc | refine keep_far ?_ GW113.out _ | refine keep_far ?_ GW114.out _) | exact HK.out)⟩
 subst c56
 rw [if_pos rfl] at H
 obtain ⟨⟨t104, t129⟩, A57, H⟩ := ob H
 obtain ⟨⟨t105, t131⟩, A58, H⟩ := ob H
 obtain ⟨⟨t106, t133, t134⟩, A59, H⟩ := ob H
 by_cases c60 : t134 = true
 rotate_left
 · replace c60 := Bool.eq_false_iff.mpr c60
   subst c60
   rw [if_neg nf] at H
   have H' := q0 H
   clear H
   obtain ⟨Ao78, co78, eo78⟩ := Kd.R_slice HO_102001.out
   subst eo78
   try go_wp2
   replace HO_102001 := q0 (Kd.R_drew HO_102001.out)
   replace BK113 := q0 (blk_drew BK113.out)
   replace BK114 := q0 (blk_drew BK114.out)
   replace HI0 := q0 (IsSRd.drew HI0.out)
   replace HK := q0 (keep_drew HK.out)
   replace HB := q0 (below_drew1 HB.out)
   refine start_ (n := 16) (S := fun w' => w'.cell? ⟨gb114, 0, none⟩ = some (.int .i64 x102000_2) ∧ w'.cell? ⟨gb114, 1, none⟩ = some (.slice Ao78 x102001_2.length co78)) (ds := []) (ba 16 0) (by kernel_rfl) rfl (by kernel_rfl) ⟨bca BK114, bcb BK114⟩ (fun hHeld => ?_); refine with_tabW spec_l71Net.tab16 spec_l71Net.bits16 (fun HT_ HW_ => ?_)
   generalize wc.drew = w79 at HO_102001 BK113 BK114 HI0 HK HB hHeld ⊢
   refine pU 1 69 16 2 HT_ ?_
   refine pU 2 70 16 6 HT_ ?_
   refine pU 5 73 16 38 HT_ ?_
   refine pU 6 74 16 102 HT_ ?_
   refine tU 0 68 16 103 HT_ HW_ hHeld ?_
   refine tU 3 71 16 111 HT_ HW_ hHeld ?_
   refine tU 7 75 16 239 HT_ HW_ hHeld ?_
   refine join_ (σ := Value × Nat) 2 (ba 16 16383) (fun s_ => [(72, .int .i64 t104), (76, .int .i64 t105), (77, .tuple #[.agg #[.int .i64 t106, s_.1], .bool false]), (7, .pointer (some ⟨s_.2, 0, none⟩)), (67, .tuple #[.agg #[.int .i64 t106, s_.1], .bool false]), (78, .agg #[.int .i64 t106, s_.1]), (79, .bool false)]) (fun s_ w' => (w'.cell? ⟨gb114, 0, none⟩ = some (.int .i64 x102000_2) ∧ w'.cell? ⟨gb114, 1, none⟩ = some (.slice Ao78 x102001_2.length co78)) ∧ (Kd.R kTie 32 w' w.heap.size (fun k_ => some k_ ≠ (.slice Ao78 x102001_2.length co78 : Value).ownBlock) s_.1 t133) ∧ (Kd.R kTie 32 w' w.heap.size (fun k_ => some k_ ≠ (s_.1 : Value).ownBlock) (.slice Ao78 x102001_2.length co78) x102001_2) ∧ (w'.heap[gb113]? = some (.cells #[.int .i64 0, .slice none 0 0] 25 (0, 0))) ∧ (w'.heap[gb114]? = some (.cells #[.int .i64 x102000_2, .slice Ao78 x102001_2.length co78] 25 (0, 0))) ∧ (w'.heap[s_.2]? = some (.cells #[.int .i64 0, .slice none 0 0] 25 (0, 0))) ∧ (w.heap.size ≤ s_.2) ∧ (w0.heap.size ≤ s_.2) ∧ (g ≠ s_.2) ∧ (s_.2 ≠ g) ∧ (gb113 ≠ s_.2) ∧ (s_.2 ≠ gb113) ∧ (gb114 ≠ s_.2) ∧ (s_.2 ≠ gb114) ∧ (IsSRd w0 w' g s0_0 t131) ∧ (KeepBut w w' g none) ∧ (Below w0.heap.size w0 w')) ?_ ?_
   rotate_left
   · intro hCont
     refine two_ (i := 4) (j := 13) (Ni := some 72) (Nj := some 7) (ba 16 255) (ba 16 8431) rfl rfl rfl rfl (two_of HT_.out (by kernel_rfl)) (by decide) (by decide) (fun K hK => ?_) (fun K hK => ?_)
     · skip
       refine goes_ Try.func59 (by kernel_rfl) rfl #[.pointer (some ⟨g, 0, none⟩), .int .i64 x102000_2] (by rfl) rfl rfl qm ?_
       with_reducible refine (spec_l6Rd_pick.calls kj50 g s0_0 x101_2 x102000_2 t104 t129 w0 _ ?side1 ?side2 A57.out).mono ?_
       (case side1 => exact qi HI0.out)
       (case side2 => exact qj HB.out HI0.out)
       rintro e w80 ⟨rfl, hi, hb, hk⟩
       refine ⟨_, rfl, ?_⟩
       replace HO_102001 := q0 (Kd.R_mono (Kd.R_keep (IsSRd.apart (show IsSRd w0 _ g s0_0 x101_2 from qi HI0.out) (qr HO_102001.out) (by decide)) hk (fun _ h => h.2)) (fun _ h => h.1))
       replace BK113 := q0 (kc hk BK113.out NB113_0.out)
       replace BK114 := q0 (kc hk BK114.out NB114_0.out)
       replace HK := q0 (KeepBut.trans (qh HK.out) hk (.inl rfl))
       replace HB := q0 (hb)
       replace HI0 := q0 (hi)
       (try clear hb)
       (try clear hb2)
       (try clear hk)
       (try clear hi)
       refine hK.out _ _ ⟨bca BK114, bcb BK114⟩ (fun hHeld => ?_)
       clear hK K
       refine nu 72 ?_
       refine two_ (i := 8) (j := 13) (Ni := some 76) (Nj := some 7) (ba 16 511) (ba 16 8447) rfl rfl rfl rfl (two_of HT_.out (by kernel_rfl)) (by decide) (by decide) (fun K hK => ?_) (fun K hK => ?_)
       · skip
         refine goes_ Try.func59 (by kernel_rfl) rfl #[.pointer (some ⟨g, 0, none⟩), .int .i64 x102000_2] (by rfl) rfl rfl qm ?_
         with_reducible refine (spec_l6Rd_pick.calls kj50 g s0_0 t129 x102000_2 t105 t131 w0 _ ?side1 ?side2 A58.out).mono ?_
         (case side1 => exact qi HI0.out)
         (case side2 => exact qj HB.out HI0.out)
         rintro e w81 ⟨rfl, hi, hb, hk⟩
         refine ⟨_, rfl, ?_⟩
         replace HO_102001 := q0 (Kd.R_mono (Kd.R_keep (IsSRd.apart (show IsSRd w0 _ g s0_0 t129 from qi HI0.out) (qr HO_102001.out) (by decide)) hk (fun _ h => h.2)) (fun _ h => h.1))
         replace BK113 := q0 (kc hk BK113.out NB113_0.out)
         replace BK114 := q0 (kc hk BK114.out NB114_0.out)
         replace HK := q0 (KeepBut.trans (qh HK.out) hk (.inl rfl))
         replace HB := q0 (hb)
         replace HI0 := q0 (hi)
         (try clear hb)
         (try clear hb2)
         (try clear hk)
         (try clear hi)
         refine hK.out _ _ ⟨bca BK114, bcb BK114⟩ (fun hHeld => ?_)
         clear hK K
         refine nu 76 ?_
         refine two_ (i := 9) (j := 13) (Ni := some 77) (Nj := some 7) (ba 16 1023) (ba 16 8703) rfl rfl rfl rfl (two_of HT_.out (by kernel_rfl)) (by decide) (by decide) (fun K hK => ?_) (fun K hK => ?_)
         · skip
           refine goes_ Try.func27 (by kernel_rfl) rfl #[.agg #[.int .i64 x102000_2, .slice Ao78 x102001_2.length co78], .int .i64 t104, .int .i64 t105] (by rfl) rfl rfl qm ?_
           with_reducible refine (spec_NetAdd.calls kj50 x102000_2 _ _ x102001_2 t104 t105 t106 t133 false _ ?side1 ?side2 A59.out).mono ?_
           (case side1 => exact qc (Kd.R_reads' HO_102001.out).2.2)
           (case side2 => exact (Kd.R_reads' HO_102001.out).2.1)
           rintro e w82 ⟨v136, rfl, ho0, hb⟩
           refine ⟨_, rfl, ?_⟩
           have HO137 := q0 (Kd.R_lower (Kd.R_new' ho0 (Kd.R_lt (qr HO_102001.out))) (keep_size (w := w) (g := g) (row := none) (qh HK.out)))
           replace HO_102001 := q0 (Kd.R_elder' (qr HO_102001.out) (Kd.R_base ho0) hb)
           replace BK113 := kd BK113 hb
           replace BK114 := kd BK114 hb
           replace HK := q0 (KeepBut.trans (qh HK.out) (KeepBut.of_below hb g none) (.inl rfl))
           replace HB := q0 (below_step (qj HB.out HI0.out) hb)
           replace HI0 := q0 (IsSRd.below (qi HI0.out) hb)
           (try clear hb)
           (try clear hb2)
           (try clear hk)
           (try clear hi)
           (try clear ho0)
           refine hK.out _ _ ⟨bca BK114, bcb BK114⟩ (fun hHeld => ?_)
           clear hK K
           refine nu 77 ?_
           refine pU 10 67 16 2047 HT_ ?_
           refine pU 11 78 16 4095 HT_ ?_
           refine pU 12 79 16 8191 HT_ ?_
           refine one_ (i := 13) (N := some 7) (ba 16 16383) rfl rfl (one_of HT_.out (by kernel_rfl)) (by decide) (fun K hK => ?_)
           refine box_step ?hg (N := 7) ?hd (cs := #[.int .i64 0, .slice none 0 0]) (t := 25) ?hr ?_; (case hd => rfl); (case hg => rfl); (case hr => first | (go_simp; done) | (go_simp; rfl))
           intro gb138 hg w83 hbox hb
           replace HO_102001 := q0 (Kd.R_below (qr HO_102001.out) hb)
           replace HO137 := q0 (Kd.R_below (qr HO137.out) hb)
           replace HB := q0 (below_step (qj HB.out HI0.out) hb)
           have BK138 := q0 (hbox)
           have GW138 := q0 ((by rw [hg]; exact (keep_size (w := w) (g := g) (row := none) (qh HK.out)) : w.heap.size ≤ gb138))
           have GE138 := q0 ((Nat.le_trans HW0.out (by rw [hg]; exact (keep_size (w := w) (g := g) (row := none) (qh HK.out)) : w.heap.size ≤ gb138) : w0.heap.size ≤ gb138))
           replace HK := q0 (KeepBut.trans (qh HK.out) (KeepBut.of_below hb g none) (.inl rfl))
           have NB113_138 := nl BK113 hg
           have NB138_113 := ng BK113 hg
           replace BK113 := kd BK113 hb
           have NB114_138 := nl BK114 hg
           have NB138_114 := ng BK114 hg
           replace BK114 := kd BK114 hb
           have NB0_138 := q0 ((by rw [hg]; exact Nat.ne_of_lt (IsSRd.lt (show IsSRd w0 _ g s0_0 t131 from qi HI0.out)) : g ≠ gb138))
           have NB138_0 := q0 ((by rw [hg]; exact Nat.ne_of_gt (IsSRd.lt (show IsSRd w0 _ g s0_0 t131 from qi HI0.out)) : gb138 ≠ g))
           replace HI0 := q0 (IsSRd.below (qi HI0.out) hb)
           clear hb hbox hg
           refine hK.out _ _ ⟨bca BK114, bcb BK114⟩ (fun hHeld => ?_)
           clear hK K
           refine nu 7 ?_
           exact norm_ (by simp only [putAll, Act.put, List.setIfInBounds_toArray, List.set_cons_zero, List.set_cons_succ]) (hCont (v136, gb138) _ ⟨hHeld, (by (with_reducible repeat (first | apply Kd.R_alloc | apply Kd.R_drewN | apply Kd.R_drew)); exact Kd.R_mono HO137.out (fun _ hk => hk.2)), (by (with_reducible repeat (first | apply Kd.R_alloc | apply Kd.R_drewN | apply Kd.R_drew)); exact Kd.R_mono HO_102001.out (fun _ hk => hk.2)), (qk BK113.out), (qk BK114.out), (qk BK138.out), GW138.out, GE138.out, NB0_138.out, NB138_0.out, NB113_138.out, NB138_113.out, NB114_138.out, NB138_114.out, (qi HI0.out), (qh HK.out), (qj HB.out HI0.out)⟩)
         · skip
           refine box_step ?hg (N := 7) ?hd (cs := #[.int .i64 0, .slice none 0 0]) (t := 25) ?hr ?_; (case hd => rfl); (case hg => rfl); (case hr => first | (go_simp; done) | (go_simp; rfl))
           intro gb138 hg w82 hbox hb
           replace HO_102001 := q0 (Kd.R_below (qr HO_102001.out) hb)
           replace HB := q0 (below_step (qj HB.out HI0.out) hb)
           have BK138 := q0 (hbox)
           have GW138 := q0 ((by rw [hg]; exact (keep_size (w := w) (g := g) (row := none) (qh HK.out)) : w.heap.size ≤ gb138))
           have GE138 := q0 ((Nat.le_trans HW0.out (by rw [hg]; exact (keep_size (w := w) (g := g) (row := none) (qh HK.out)) : w.heap.size ≤ gb138) : w0.heap.size ≤ gb138))
           replace HK := q0 (KeepBut.trans (qh HK.out) (KeepBut.of_below hb g none) (.inl rfl))
           have NB113_138 := nl BK113 hg
           have NB138_113 := ng BK113 hg
           replace BK113 := kd BK113 hb
           have NB114_138 := nl BK114 hg
           have NB138_114 := ng BK114 hg
           replace BK114 := kd BK114 hb
           have NB0_138 := q0 ((by rw [hg]; exact Nat.ne_of_lt (IsSRd.lt (show IsSRd w0 _ g s0_0 t131 from qi HI0.out)) : g ≠ gb138))
           have NB138_0 := q0 ((by rw [hg]; exact Nat.ne_of_gt (IsSRd.lt (show IsSRd w0 _ g s0_0 t131 from qi HI0.out)) : gb138 ≠ g))
           replace HI0 := q0 (IsSRd.below (qi HI0.out) hb)
           clear hb hbox hg
           refine hK.out _ _ ⟨bca BK114, bcb BK114⟩ (fun hHeld => ?_)
           clear hK K
           refine nu 7 ?_
           refine one_ (i := 9) (N := some 77) (ba 16 9215) rfl rfl (one_of HT_.out (by kernel_rfl)) (by decide) (fun K hK => ?_)
           refine goes_ Try.func27 (by kernel_rfl) rfl #[.agg #[.int .i64 x102000_2, .slice Ao78 x102001_2.length co78], .int .i64 t104, .int .i64 t105] (by rfl) rfl rfl qm ?_
           with_reducible refine (spec_NetAdd.calls kj50 x102000_2 _ _ x102001_2 t104 t105 t106 t133 false _ ?side1 ?side2 A59.out).mono ?_
           (case side1 => exact qc (Kd.R_reads' HO_102001.out).2.2)
           (case side2 => exact (Kd.R_reads' HO_102001.out).2.1)
           rintro e w83 ⟨v136, rfl, ho0, hb⟩
           refine ⟨_, rfl, ?_⟩
           have HO137 := q0 (Kd.R_lower (Kd.R_new' ho0 (Kd.R_lt (qr HO_102001.out))) (keep_size (w := w) (g := g) (row := none) (qh HK.out)))
           replace HO_102001 := q0 (Kd.R_elder' (qr HO_102001.out) (Kd.R_base ho0) hb)
           replace BK113 := kd BK113 hb
           replace BK114 := kd BK114 hb
           replace BK138 := kd BK138 hb
           replace HK := q0 (KeepBut.trans (qh HK.out) (KeepBut.of_below hb g none) (.inl rfl))
           replace HB := q0 (below_step (qj HB.out HI0.out) hb)
           replace HI0 := q0 (IsSRd.below (qi HI0.out) hb)
           (try clear hb)
           (try clear hb2)
           (try clear hk)
           (try clear hi)
           (try clear ho0)
           refine hK.out _ _ ⟨bca BK114, bcb BK114⟩ (fun hHeld => ?_)
           clear hK K
           refine nu 77 ?_
           refine pU 10 67 16 10239 HT_ ?_
           refine pU 11 78 16 12287 HT_ ?_
           refine pU 12 79 16 16383 HT_ ?_
           exact norm_ (by simp only [putAll, Act.put, List.setIfInBounds_toArray, List.set_cons_zero, List.set_cons_succ]) (hCont (v136, gb138) _ ⟨hHeld, (by (with_reducible repeat (first | apply Kd.R_alloc | apply Kd.R_drewN | apply Kd.R_drew)); exact Kd.R_mono HO137.out (fun _ hk => hk.2)), (by (with_reducible repeat (first | apply Kd.R_alloc | apply Kd.R_drewN | apply Kd.R_drew)); exact Kd.R_mono HO_102001.out (fun _ hk => hk.2)), (qk BK113.out), (qk BK114.out), (qk BK138.out), GW138.out, GE138.out, NB0_138.out, NB138_0.out, NB113_138.out, NB138_113.out, NB114_138.out, NB138_114.out, (qi HI0.out), (qh HK.out), (qj HB.out HI0.out)⟩)
       · skip
         refine box_step ?hg (N := 7) ?hd (cs := #[.int .i64 0, .slice none 0 0]) (t := 25) ?hr ?_; (case hd => rfl); (case hg => rfl); (case hr => first | (go_simp; done) | (go_simp; rfl))
         intro gb138 hg w81 hbox hb
         replace HO_102001 := q0 (Kd.R_below (qr HO_102001.out) hb)
         replace HB := q0 (below_step (qj HB.out HI0.out) hb)
         have BK138 := q0 (hbox)
         have GW138 := q0 ((by rw [hg]; exact (keep_size (w := w) (g := g) (row := none) (qh HK.out)) : w.heap.size ≤ gb138))
         have GE138 := q0 ((Nat.le_trans HW0.out (by rw [hg]; exact (keep_size (w := w) (g := g) (row := none) (qh HK.out)) : w.heap.size ≤ gb138) : w0.heap.size ≤ gb138))
         replace HK := q0 (KeepBut.trans (qh HK.out) (KeepBut.of_below hb g none) (.inl rfl))
         have NB113_138 := nl BK113 hg
         have NB138_113 := ng BK113 hg
         replace BK113 := kd BK113 hb
         have NB114_138 := nl BK114 hg
         have NB138_114 := ng BK114 hg
         replace BK114 := kd BK114 hb
         have NB0_138 := q0 ((by rw [hg]; exact Nat.ne_of_lt (IsSRd.lt (show IsSRd w0 _ g s0_0 t129 from qi HI0.out)) : g ≠ gb138))
         have NB138_0 := q0 ((by rw [hg]; exact Nat.ne_of_gt (IsSRd.lt (show IsSRd w0 _ g s0_0 t129 from qi HI0.out)) : gb138 ≠ g))
         replace HI0 := q0 (IsSRd.below (qi HI0.out) hb)
         clear hb hbox hg
         refine hK.out _ _ ⟨bca BK114, bcb BK114⟩ (fun hHeld => ?_)
         clear hK K
         refine nu 7 ?_
         refine one_ (i := 8) (N := some 76) (ba 16 8703) rfl rfl (one_of HT_.out (by kernel_rfl)) (by decide) (fun K hK => ?_)
         refine goes_ Try.func59 (by kernel_rfl) rfl #[.pointer (some ⟨g, 0, none⟩), .int .i64 x102000_2] (by rfl) rfl rfl qm ?_
         with_reducible refine (spec_l6Rd_pick.calls kj50 g s0_0 t129 x102000_2 t105 t131 w0 _ ?side1 ?side2 A58.out).mono ?_
         (case side1 => exact qi HI0.out)
         (case side2 => exact qj HB.out HI0.out)
         rintro e w82 ⟨rfl, hi, hb, hk⟩
         refine ⟨_, rfl, ?_⟩
         replace HO_102001 := q0 (Kd.R_mono (Kd.R_keep (IsSRd.apart (show IsSRd w0 _ g s0_0 t129 from qi HI0.out) (qr HO_102001.out) (by decide)) hk (fun _ h => h.2)) (fun _ h => h.1))
         replace BK113 := q0 (kc hk BK113.out NB113_0.out)
         replace BK114 := q0 (kc hk BK114.out NB114_0.out)
         replace BK138 := q0 (kc hk BK138.out NB138_0.out)
         replace HK := q0 (KeepBut.trans (qh HK.out) hk (.inl rfl))
         replace HB := q0 (hb)
         replace HI0 := q0 (hi)
         (try clear hb)
         (try clear hb2)
         (try clear hk)
         (try clear hi)
         refine hK.out _ _ ⟨bca BK114, bcb BK114⟩ (fun hHeld => ?_)
         clear hK K
         refine nu 76 ?_
         refine one_ (i := 9) (N := some 77) (ba 16 9215) rfl rfl (one_of HT_.out (by kernel_rfl)) (by decide) (fun K hK => ?_)
         refine goes_ Try.func27 (by kernel_rfl) rfl #[.agg #[.int .i64 x102000_2, .slice Ao78 x102001_2.length co78], .int .i64 t104, .int .i64 t105] (by rfl) rfl rfl qm ?_
         with_reducible refine (spec_NetAdd.calls kj50 x102000_2 _ _ x102001_2 t104 t105 t106 t133 false _ ?side1 ?side2 A59.out).mono ?_
         (case side1 => exact qc (Kd.R_reads' HO_102001.out).2.2)
         (case side2 => exact (Kd.R_reads' HO_102001.out).2.1)
         rintro e w83 ⟨v136, rfl, ho0, hb⟩
         refine ⟨_, rfl, ?_⟩
         have HO137 := q0 (Kd.R_lower (Kd.R_new' ho0 (Kd.R_lt (qr HO_102001.out))) (keep_size (w := w) (g := g) (row := none) (qh HK.out)))
         replace HO_102001 := q0 (Kd.R_elder' (qr HO_102001.out) (Kd.R_base ho0) hb)
         replace BK113 := kd BK113 hb
         replace BK114 := kd BK114 hb
         replace BK138 := kd BK138 hb
         replace HK := q0 (KeepBut.trans (qh HK.out) (KeepBut.of_below hb g none) (.inl rfl))
         replace HB := q0 (below_step (qj HB.out HI0.out) hb)
         replace HI0 := q0 (IsSRd.below (qi HI0.out) hb)
         (try clear hb)
         (try clear hb2)
         (try clear hk)
         (try clear hi)
         (try clear ho0)
         refine hK.out _ _ ⟨bca BK114, bcb BK114⟩ (fun hHeld => ?_)
         clear hK K
         refine nu 77 ?_
         refine pU 10 67 16 10239 HT_ ?_
         refine pU 11 78 16 12287 HT_ ?_
         refine pU 12 79 16 16383 HT_ ?_
         exact norm_ (by simp only [putAll, Act.put, List.setIfInBounds_toArray, List.set_cons_zero, List.set_cons_succ]) (hCont (v136, gb138) _ ⟨hHeld, (by (with_reducible repeat (first | apply Kd.R_alloc | apply Kd.R_drewN | apply Kd.R_drew)); exact Kd.R_mono HO137.out (fun _ hk => hk.2)), (by (with_reducible repeat (first | apply Kd.R_alloc | apply Kd.R_drewN | apply Kd.R_drew)); exact Kd.R_mono HO_102001.out (fun _ hk => hk.2)), (qk BK113.out), (qk BK114.out), (qk BK138.out), GW138.out, GE138.out, NB0_138.out, NB138_0.out, NB113_138.out, NB138_113.out, NB114_138.out, NB138_114.out, (qi HI0.out), (qh HK.out), (qj HB.out HI0.out)⟩)
     · skip
       refine box_step ?hg (N := 7) ?hd (cs := #[.int .i64 0, .slice none 0 0]) (t := 25) ?hr ?_; (case hd => rfl); (case hg => rfl); (case hr => first | (go_simp; done) | (go_simp; rfl))
       intro gb138 hg w80 hbox hb
       replace HO_102001 := q0 (Kd.R_below (qr HO_102001.out) hb)
       replace HB := q0 (below_step (qj HB.out HI0.out) hb)
       have BK138 := q0 (hbox)
       have GW138 := q0 ((by rw [hg]; exact (keep_size (w := w) (g := g) (row := none) (qh HK.out)) : w.heap.size ≤ gb138))
       have GE138 := q0 ((Nat.le_trans HW0.out (by rw [hg]; exact (keep_size (w := w) (g := g) (row := none) (qh HK.out)) : w.heap.size ≤ gb138) : w0.heap.size ≤ gb138))
       replace HK := q0 (KeepBut.trans (qh HK.out) (KeepBut.of_below hb g none) (.inl rfl))
       have NB113_138 := nl BK113 hg
       have NB138_113 := ng BK113 hg
       replace BK113 := kd BK113 hb
       have NB114_138 := nl BK114 hg
       have NB138_114 := ng BK114 hg
       replace BK114 := kd BK114 hb
       have NB0_138 := q0 ((by rw [hg]; exact Nat.ne_of_lt (IsSRd.lt (show IsSRd w0 _ g s0_0 x101_2 from qi HI0.out)) : g ≠ gb138))
       have NB138_0 := q0 ((by rw [hg]; exact Nat.ne_of_gt (IsSRd.lt (show IsSRd w0 _ g s0_0 x101_2 from qi HI0.out)) : gb138 ≠ g))
       replace HI0 := q0 (IsSRd.below (qi HI0.out) hb)
       clear hb hbox hg
       refine hK.out _ _ ⟨bca BK114, bcb BK114⟩ (fun hHeld => ?_)
       clear hK K
       refine nu 7 ?_
       refine one_ (i := 4) (N := some 72) (ba 16 8447) rfl rfl (one_of HT_.out (by kernel_rfl)) (by decide) (fun K hK => ?_)
       refine goes_ Try.func59 (by kernel_rfl) rfl #[.pointer (some ⟨g, 0, none⟩), .int .i64 x102000_2] (by rfl) rfl rfl qm ?_
       with_reducible refine (spec_l6Rd_pick.calls kj50 g s0_0 x101_2 x102000_2 t104 t129 w0 _ ?side1 ?side2 A57.out).mono ?_
       (case side1 => exact qi HI0.out)
       (case side2 => exact qj HB.out HI0.out)
       rintro e w81 ⟨rfl, hi, hb, hk⟩
       refine ⟨_, rfl, ?_⟩
       replace HO_102001 := q0 (Kd.R_mono (Kd.R_keep (IsSRd.apart (show IsSRd w0 _ g s0_0 x101_2 from qi HI0.out) (qr HO_102001.out) (by decide)) hk (fun _ h => h.2)) (fun _ h => h.1))
       replace BK113 := q0 (kc hk BK113.out NB113_0.out)
       replace BK114 := q0 (kc hk BK114.out NB114_0.out)
       replace BK138 := q0 (kc hk BK138.out NB138_0.out)
       replace HK := q0 (KeepBut.trans (qh HK.out) hk (.inl rfl))
       replace HB := q0 (hb)
       replace HI0 := q0 (hi)
       (try clear hb)
       (try clear hb2)
       (try clear hk)
       (try clear hi)
       refine hK.out _ _ ⟨bca BK114, bcb BK114⟩ (fun hHeld => ?_)
       clear hK K
       refine nu 72 ?_
       refine one_ (i := 8) (N := some 76) (ba 16 8703) rfl rfl (one_of HT_.out (by kernel_rfl)) (by decide) (fun K hK => ?_)
       refine goes_ Try.func59 (by kernel_rfl) rfl #[.pointer (some ⟨g, 0, none⟩), .int .i64 x102000_2] (by rfl) rfl rfl qm ?_
       with_reducible refine (spec_l6Rd_pick.calls kj50 g s0_0 t129 x102000_2 t105 t131 w0 _ ?side1 ?side2 A58.out).mono ?_
       (case side1 => exact qi HI0.out)
       (case side2 => exact qj HB.out HI0.out)
       rintro e w82 ⟨rfl, hi, hb, hk⟩
       refine ⟨_, rfl, ?_⟩
       replace HO_102001 := q0 (Kd.R_mono (Kd.R_keep (IsSRd.apart (show IsSRd w0 _ g s0_0 t129 from qi HI0.out) (qr HO_102001.out) (by decide)) hk (fun _ h => h.2)) (fun _ h => h.1))
       replace BK113 := q0 (kc hk BK113.out NB113_0.out)
       replace BK114 := q0 (kc hk BK114.out NB114_0.out)
       replace BK138 := q0 (kc hk BK138.out NB138_0.out)
       replace HK := q0 (KeepBut.trans (qh HK.out) hk (.inl rfl))
       replace HB := q0 (hb)
       replace HI0 := q0 (hi)
       (try clear hb)
       (try clear hb2)
       (try clear hk)
       (try clear hi)
       refine hK.out _ _ ⟨bca BK114, bcb BK114⟩ (fun hHeld => ?_)
       clear hK K
       refine nu 76 ?_
       refine one_ (i := 9) (N := some 77) (ba 16 9215) rfl rfl (one_of HT_.out (by kernel_rfl)) (by decide) (fun K hK => ?_)
       refine goes_ Try.func27 (by kernel_rfl) rfl #[.agg #[.int .i64 x102000_2, .slice Ao78 x102001_2.length co78], .int .i64 t104, .int .i64 t105] (by rfl) rfl rfl qm ?_
       with_reducible refine (spec_NetAdd.calls kj50 x102000_2 _ _ x102001_2 t104 t105 t106 t133 false _ ?side1 ?side2 A59.out).mono ?_
       (case side1 => exact qc (Kd.R_reads' HO_102001.out).2.2)
       (case side2 => exact (Kd.R_reads' HO_102001.out).2.1)
       rintro e w83 ⟨v136, rfl, ho0, hb⟩
       refine ⟨_, rfl, ?_⟩
       have HO137 := q0 (Kd.R_lower (Kd.R_new' ho0 (Kd.R_lt (qr HO_102001.out))) (keep_size (w := w) (g := g) (row := none) (qh HK.out)))
       replace HO_102001 := q0 (Kd.R_elder' (qr HO_102001.out) (Kd.R_base ho0) hb)
       replace BK113 := kd BK113 hb
       replace BK114 := kd BK114 hb
       replace BK138 := kd BK138 hb
       replace HK := q0 (KeepBut.trans (qh HK.out) (KeepBut.of_below hb g none) (.inl rfl))
       replace HB := q0 (below_step (qj HB.out HI0.out) hb)
       replace HI0 := q0 (IsSRd.below (qi HI0.out) hb)
       (try clear hb)
       (try clear hb2)
       (try clear hk)
       (try clear hi)
       (try clear ho0)
       refine hK.out _ _ ⟨bca BK114, bcb BK114⟩ (fun hHeld => ?_)
       clear hK K
       refine nu 77 ?_
       refine pU 10 67 16 10239 HT_ ?_
       refine pU 11 78 16 12287 HT_ ?_
       refine pU 12 79 16 16383 HT_ ?_
       exact norm_ (by simp only [putAll, Act.put, List.setIfInBounds_toArray, List.set_cons_zero, List.set_cons_succ]) (hCont (v136, gb138) _ ⟨hHeld, (by (with_reducible repeat (first | apply Kd.R_alloc | apply Kd.R_drewN | apply Kd.R_drew)); exact Kd.R_mono HO137.out (fun _ hk => hk.2)), (by (with_reducible repeat (first | apply Kd.R_alloc | apply Kd.R_drewN | apply Kd.R_drew)); exact Kd.R_mono HO_102001.out (fun _ hk => hk.2)), (qk BK113.out), (qk BK114.out), (qk BK138.out), GW138.out, GE138.out, NB0_138.out, NB138_0.out, NB113_138.out, NB138_113.out, NB114_138.out, NB138_114.out, (qi HI0.out), (qh HK.out), (qj HB.out HI0.out)⟩)
   rintro ⟨v136, gb138⟩ w84 ⟨hS_, h0_, h1_, h2_, h3_, h4_, h5_, h6_, h7_, h8_, h9_, h10_, h11_, h12_, h13_, h14_, h15_⟩
   have n0_ : Aside0 (Kd.R kTie 32 w84 w.heap.size (fun k_ => some k_ ≠ (.slice Ao78 x102001_2.length co78 : Value).ownBlock) v136 t133) := ⟨h0_⟩
   have n1_ : Aside0 (Kd.R kTie 32 w84 w.heap.size (fun k_ => some k_ ≠ (v136 : Value).ownBlock) (.slice Ao78 x102001_2.length co78) x102001_2) := ⟨h1_⟩
   have n2_ : Aside0 (w84.heap[gb113]? = some (.cells #[.int .i64 0, .slice none 0 0] 25 (0, 0))) := ⟨h2_⟩
   have n3_ : Aside0 (w84.heap[gb114]? = some (.cells #[.int .i64 x102000_2, .slice Ao78 x102001_2.length co78] 25 (0, 0))) := ⟨h3_⟩
   have n4_ : Aside0 (w84.heap[gb138]? = some (.cells #[.int .i64 0, .slice none 0 0] 25 (0, 0))) := ⟨h4_⟩
   have n5_ : Aside0 (w.heap.size ≤ gb138) := ⟨h5_⟩
   have n6_ : Aside0 (w0.heap.size ≤ gb138) := ⟨h6_⟩
   have n7_ : Aside0 (g ≠ gb138) := ⟨h7_⟩
   have n8_ : Aside0 (gb138 ≠ g) := ⟨h8_⟩
   have n9_ : Aside0 (gb113 ≠ gb138) := ⟨h9_⟩
   have n10_ : Aside0 (gb138 ≠ gb113) := ⟨h10_⟩
   have n11_ : Aside0 (gb114 ≠ gb138) := ⟨h11_⟩
   have n12_ : Aside0 (gb138 ≠ gb114) := ⟨h12_⟩
   have n13_ : Aside0 (IsSRd w0 w84 g s0_0 t131) := ⟨h13_⟩
   have n14_ : Aside0 (KeepBut w w84 g none) := ⟨h14_⟩
   have n15_ : Aside0 (Below w0.heap.size w0 w84) := ⟨h15_⟩
   clear HO_102001
   clear BK113
   clear BK114
   clear HI0
   clear HK
   clear HB
   clear h0_ h1_ h2_ h3_ h4_ h5_ h6_ h7_ h8_ h9_ h10_ h11_ h12_ h13_ h14_ h15_
   have HO137 := n0_
   have HO_102001 := n1_
   have BK113 := n2_
   have BK114 := n3_
   have BK138 := n4_
   have GW138 := n5_
   have GE138 := n6_
   have NB0_138 := n7_
   have NB138_0 := n8_
   have NB113_138 := n9_
   have NB138_113 := n10_
   have NB114_138 := n11_
   have NB138_114 := n12_
   have HI0 := n13_
   have HK := n14_
   have HB := n15_
   clear n0_ n1_ n2_ n3_ n4_ n5_ n6_ n7_ n8_ n9_ n10_ n11_ n12_ n13_ n14_ n15_
   have hHeld : w84.cell? ⟨gb114, 0, none⟩ = some (.int .i64 x102000_2) ∧ w84.cell? ⟨gb114, 1, none⟩ = some (.slice Ao78 x102001_2.length co78) := hS_
   obtain ⟨Ao86, co86, eo86⟩ := Kd.R_slice HO137.out
   (first | subst eo86 | (injection eo86 with f1_ f2_ f3_; have f4_ := f1_.symm; have f5_ := f3_.symm; clear f1_ f2_ f3_; subst f4_; subst f5_))
   refine norm_ (a' := ?_) ?_ ?_
   rotate_left
   · simp only [putAll, Act.put, List.setIfInBounds_toArray, List.set_cons_zero, List.set_cons_succ]
     rfl
   refine one_ (i := 14) (N := none) (ba 16 32767) rfl rfl (one_of HT_.out (by kernel_rfl)) (by decide) (fun K hK => ?_)
   have hs85 : w84.cell? ⟨gb138, 0, none⟩ = some (.int .i64 0) := (blk_cell BK138.out 0).trans rfl
   have hfs85 := blk_frozen BK138.out 0
   have hns85_0 := NB113_138.out
   have hns85_1 := NB114_138.out
   have hms85_0 := NB138_113.out
   have hms85_1 := NB138_114.out
   have hs87 : w84.cell? ⟨gb138, 1, none⟩ = some (.slice none 0 0) := (blk_cell BK138.out 1).trans rfl
   have hfs87 := blk_frozen BK138.out 1
   have hns87_0 := NB113_138.out
   have hns87_1 := NB114_138.out
   have hms87_0 := NB138_113.out
   have hms87_1 := NB138_114.out
   refine skip_ (w1 := ?_) (by rfl) rfl ?_ ?_
   rotate_left
   · go_simp
     rfl
   refine hK.out _ _ ⟨((cell_far (p := ⟨gb138, _, none⟩) NB114_138.out _).trans (((cell_far (p := ⟨gb138, _, none⟩) NB114_138.out _).trans (hHeld.1)))), ((cell_far (p := ⟨gb138, _, none⟩) NB114_138.out _).trans (((cell_far (p := ⟨gb138, _, none⟩) NB114_138.out _).trans (hHeld.2))))⟩ (fun hHeld => ?_)
   clear hK K
   refine pU 15 8 16 65535 HT_ ?_
   refine done_ (done_of HT_.out (by kernel_rfl)) ?_
   try go_wp2
   go_roundg kj50
   case measure => have := HJ3.out; have := HK2.out; have := HJ50.out; omega
   case rel => exact ⟨(wrap64 (x6_2 - 1)), (t131), (x102000_2), (x102001_2), (.slice Ao78 x102001_2.length co78), qs, H', ⟨by have := HJ3.out; have := HK2.out; have := HJ50.out; omega⟩, ⟨by (with_reducible repeat (first | apply Kd.R_alloc | apply Kd.R_drewN | apply Kd.R_drew)); exact rf2 HO_102001.out BK138.out (fun _ hk => trivial)⟩, ⟨qf BK113.out⟩, ⟨qf BK114.out⟩, ⟨qi HI0.out⟩, ⟨qh HK.out⟩, ⟨qj HB.out HI0.out⟩⟩
 subst c60
 rw [if_pos rfl] at H
 have H' := q0 H
 clear H
 obtain ⟨Ao61, co61, eo61⟩ := Kd.R_slice HO_102001.out
 subst eo61
 try go_wp2
 replace HO_102001 := q0 (Kd.R_drew HO_102001.out)
 replace BK113 := q0 (blk_drew BK113.out)
 replace BK114 := q0 (blk_drew BK114.out)
 replace HI0 := q0 (IsSRd.drew HI0.out)
 replace HK := q0 (keep_drew HK.out)
 replace HB := q0 (below_drew1 HB.out)
 refine start_ (n := 16) (S := fun w' => w'.cell? ⟨gb114, 0, none⟩ = some (.int .i64 x102000_2) ∧ w'.cell? ⟨gb114, 1, none⟩ = some (.slice Ao61 x102001_2.length co61)) (ds := []) (ba 16 0) (by kernel_rfl) rfl (by kernel_rfl) ⟨bca BK114, bcb BK114⟩ (fun hHeld => ?_); refine with_tabW spec_l71Net.tab16 spec_l71Net.bits16 (fun HT_ HW_ => ?_)
 generalize wc.drew = w62 at HO_102001 BK113 BK114 HI0 HK HB hHeld ⊢
 refine pU 1 69 16 2 HT_ ?_
 refine pU 2 70 16 6 HT_ ?_
 refine pU 5 73 16 38 HT_ ?_
 refine pU 6 74 16 102 HT_ ?_
 refine tU 0 68 16 103 HT_ HW_ hHeld ?_
 refine tU 3 71 16 111 HT_ HW_ hHeld ?_
 refine tU 7 75 16 239 HT_ HW_ hHeld ?_
 refine join_ (σ := Value × Nat) 2 (ba 16 16383) (fun s_ => [(72, .int .i64 t104), (76, .int .i64 t105), (77, .tuple #[.agg #[.int .i64 t106, s_.1], .bool true]), (7, .pointer (some ⟨s_.2, 0, none⟩)), (67, .tuple #[.agg #[.int .i64 t106, s_.1], .bool true]), (78, .agg #[.int .i64 t106, s_.1]), (79, .bool true)]) (fun s_ w' => (w'.cell? ⟨gb114, 0, none⟩ = some (.int .i64 x102000_2) ∧ w'.cell? ⟨gb114, 1, none⟩ = some (.slice Ao61 x102001_2.length co61)) ∧ (Kd.R kTie 32 w' w.heap.size (fun k_ => some k_ ≠ (.slice Ao61 x102001_2.length co61 : Value).ownBlock) s_.1 t133) ∧ (Kd.R kTie 32 w' w.heap.size (fun k_ => some k_ ≠ (s_.1 : Value).ownBlock) (.slice Ao61 x102001_2.length co61) x102001_2) ∧ (w'.heap[gb113]? = some (.cells #[.int .i64 0, .slice none 0 0] 25 (0, 0))) ∧ (w'.heap[gb114]? = some (.cells #[.int .i64 x102000_2, .slice Ao61 x102001_2.length co61] 25 (0, 0))) ∧ (w'.heap[s_.2]? = some (.cells #[.int .i64 0, .slice none 0 0] 25 (0, 0))) ∧ (w.heap.size ≤ s_.2) ∧ (w0.heap.size ≤ s_.2) ∧ (g ≠ s_.2) ∧ (s_.2 ≠ g) ∧ (gb113 ≠ s_.2) ∧ (s_.2 ≠ gb113) ∧ (gb114 ≠ s_.2) ∧ (s_.2 ≠ gb114) ∧ (IsSRd w0 w' g s0_0 t131) ∧ (KeepBut w w' g none) ∧ (Below w0.heap.size w0 w')) ?_ ?_
 rotate_left
 · intro hCont
   refine two_ (i := 4) (j := 13) (Ni := some 72) (Nj := some 7) (ba 16 255) (ba 16 8431) rfl rfl rfl rfl (two_of HT_.out (by kernel_rfl)) (by decide) (by decide) (fun K hK => ?_) (fun K hK => ?_)
   · skip
     refine goes_ Try.func59 (by kernel_rfl) rfl #[.pointer (some ⟨g, 0, none⟩), .int .i64 x102000_2] (by rfl) rfl rfl qm ?_
     with_reducible refine (spec_l6Rd_pick.calls kj50 g s0_0 x101_2 x102000_2 t104 t129 w0 _ ?side1 ?side2 A57.out).mono ?_
     (case side1 => exact qi HI0.out)
     (case side2 => exact qj HB.out HI0.out)
     rintro e w63 ⟨rfl, hi, hb, hk⟩
     refine ⟨_, rfl, ?_⟩
     replace HO_102001 := q0 (Kd.R_mono (Kd.R_keep (IsSRd.apart (show IsSRd w0 _ g s0_0 x101_2 from qi HI0.out) (qr HO_102001.out) (by decide)) hk (fun _ h => h.2)) (fun _ h => h.1))
     replace BK113 := q0 (kc hk BK113.out NB113_0.out)
     replace BK114 := q0 (kc hk BK114.out NB114_0.out)
     replace HK := q0 (KeepBut.trans (qh HK.out) hk (.inl rfl))
     replace HB := q0 (hb)
     replace HI0 := q0 (hi)
     (try clear hb)
     (try clear hb2)
     (try clear hk)
     (try clear hi)
     refine hK.out _ _ ⟨bca BK114, bcb BK114⟩ (fun hHeld => ?_)
     clear hK K
     refine nu 72 ?_
     refine two_ (i := 8) (j := 13) (Ni := some 76) (Nj := some 7) (ba 16 511) (ba 16 8447) rfl rfl rfl rfl (two_of HT_.out (by kernel_rfl)) (by decide) (by decide) (fun K hK => ?_) (fun K hK => ?_)
     · skip
       refine goes_ Try.func59 (by kernel_rfl) rfl #[.pointer (some ⟨g, 0, none⟩), .int .i64 x102000_2] (by rfl) rfl rfl qm ?_
       with_reducible refine (spec_l6Rd_pick.calls kj50 g s0_0 t129 x102000_2 t105 t131 w0 _ ?side1 ?side2 A58.out).mono ?_
       (case side1 => exact qi HI0.out)
       (case side2 => exact qj HB.out HI0.out)
       rintro e w64 ⟨rfl, hi, hb, hk⟩
       refine ⟨_, rfl, ?_⟩
       replace HO_102001 := q0 (Kd.R_mono (Kd.R_keep (IsSRd.apart (show IsSRd w0 _ g s0_0 t129 from qi HI0.out) (qr HO_102001.out) (by decide)) hk (fun _ h => h.2)) (fun _ h => h.1))
       replace BK113 := q0 (kc hk BK113.out NB113_0.out)
       replace BK114 := q0 (kc hk BK114.out NB114_0.out)
       replace HK := q0 (KeepBut.trans (qh HK.out) hk (.inl rfl))
       replace HB := q0 (hb)
       replace HI0 := q0 (hi)
       (try clear hb)
       (try clear hb2)
       (try clear hk)
       (try clear hi)
       refine hK.out _ _ ⟨bca BK114, bcb BK114⟩ (fun hHeld => ?_)
       clear hK K
       refine nu 76 ?_
       refine two_ (i := 9) (j := 13) (Ni := some 77) (Nj := some 7) (ba 16 1023) (ba 16 8703) rfl rfl rfl rfl (two_of HT_.out (by kernel_rfl)) (by decide) (by decide) (fun K hK => ?_) (fun K hK => ?_)
       · skip
         refine goes_ Try.func27 (by kernel_rfl) rfl #[.agg #[.int .i64 x102000_2, .slice Ao61 x102001_2.length co61], .int .i64 t104, .int .i64 t105] (by rfl) rfl rfl qm ?_
         with_reducible refine (spec_NetAdd.calls kj50 x102000_2 _ _ x102001_2 t104 t105 t106 t133 true _ ?side1 ?side2 A59.out).mono ?_
         (case side1 => exact qc (Kd.R_reads' HO_102001.out).2.2)
         (case side2 => exact (Kd.R_reads' HO_102001.out).2.1)
         rintro e w65 ⟨v136, rfl, ho0, hb⟩
         refine ⟨_, rfl, ?_⟩
         have HO137 := q0 (Kd.R_lower (Kd.R_new' ho0 (Kd.R_lt (qr HO_102001.out))) (keep_size (w := w) (g := g) (row := none) (qh HK.out)))
         replace HO_102001 := q0 (Kd.R_elder' (qr HO_102001.out) (Kd.R_base ho0) hb)
         replace BK113 := kd BK113 hb
         replace BK114 := kd BK114 hb
         replace HK := q0 (KeepBut.trans (qh HK.out) (KeepBut.of_below hb g none) (.inl rfl))
         replace HB := q0 (below_step (qj HB.out HI0.out) hb)
         replace HI0 := q0 (IsSRd.below (qi HI0.out) hb)
         (try clear hb)
         (try clear hb2)
         (try clear hk)
         (try clear hi)
         (try clear ho0)
         refine hK.out _ _ ⟨bca BK114, bcb BK114⟩ (fun hHeld => ?_)
         clear hK K
         refine nu 77 ?_
         refine pU 10 67 16 2047 HT_ ?_
         refine pU 11 78 16 4095 HT_ ?_
         refine pU 12 79 16 8191 HT_ ?_
         refine one_ (i := 13) (N := some 7) (ba 16 16383) rfl rfl (one_of HT_.out (by kernel_rfl)) (by decide) (fun K hK => ?_)
         refine box_step ?hg (N := 7) ?hd (cs := #[.int .i64 0, .slice none 0 0]) (t := 25) ?hr ?_; (case hd => rfl); (case hg => rfl); (case hr => first | (go_simp; done) | (go_simp; rfl))
         intro gb138 hg w66 hbox hb
         replace HO_102001 := q0 (Kd.R_below (qr HO_102001.out) hb)
         replace HO137 := q0 (Kd.R_below (qr HO137.out) hb)
         replace HB := q0 (below_step (qj HB.out HI0.out) hb)
         have BK138 := q0 (hbox)
         have GW138 := q0 ((by rw [hg]; exact (keep_size (w := w) (g := g) (row := none) (qh HK.out)) : w.heap.size ≤ gb138))
         have GE138 := q0 ((Nat.le_trans HW0.out (by rw [hg]; exact (keep_size (w := w) (g := g) (row := none) (qh HK.out)) : w.heap.size ≤ gb138) : w0.heap.size ≤ gb138))
         replace HK := q0 (KeepBut.trans (qh HK.out) (KeepBut.of_below hb g none) (.inl rfl))
         have NB113_138 := nl BK113 hg
         have NB138_113 := ng BK113 hg
         replace BK113 := kd BK113 hb
         have NB114_138 := nl BK114 hg
         have NB138_114 := ng BK114 hg
         replace BK114 := kd BK114 hb
         have NB0_138 := q0 ((by rw [hg]; exact Nat.ne_of_lt (IsSRd.lt (show IsSRd w0 _ g s0_0 t131 from qi HI0.out)) : g ≠ gb138))
         have NB138_0 := q0 ((by rw [hg]; exact Nat.ne_of_gt (IsSRd.lt (show IsSRd w0 _ g s0_0 t131 from qi HI0.out)) : gb138 ≠ g))
         replace HI0 := q0 (IsSRd.below (qi HI0.out) hb)
         clear hb hbox hg
         refine hK.out _ _ ⟨bca BK114, bcb BK114⟩ (fun hHeld => ?_)
         clear hK K
         refine nu 7 ?_
         exact norm_ (by simp only [putAll, Act.put, List.setIfInBounds_toArray, List.set_cons_zero, List.set_cons_succ]) (hCont (v136, gb138) _ ⟨hHeld, (by (with_reducible repeat (first | apply Kd.R_alloc | apply Kd.R_drewN | apply Kd.R_drew)); exact Kd.R_mono HO137.out (fun _ hk => hk.2)), (by (with_reducible repeat (first | apply Kd.R_alloc | apply Kd.R_drewN | apply Kd.R_drew)); exact Kd.R_mono HO_102001.out (fun _ hk => hk.2)), (qk BK113.out), (qk BK114.out), (qk BK138.out), GW138.out, GE138.out, NB0_138.out, NB138_0.out, NB113_138.out, NB138_113.out, NB114_138.out, NB138_114.out, (qi HI0.out), (qh HK.out), (qj HB.out HI0.out)⟩)
       · skip
         refine box_step ?hg (N := 7) ?hd (cs := #[.int .i64 0, .slice none 0 0]) (t := 25) ?hr ?_; (case hd => rfl); (case hg => rfl); (case hr => first | (go_simp; done) | (go_simp; rfl))
         intro gb138 hg w65 hbox hb
         replace HO_102001 := q0 (Kd.R_below (qr HO_102001.out) hb)
         replace HB := q0 (below_step (qj HB.out HI0.out) hb)
         have BK138 := q0 (hbox)
         have GW138 := q0 ((by rw [hg]; exact (keep_size (w := w) (g := g) (row := none) (qh HK.out)) : w.heap.size ≤ gb138))
         have GE138 := q0 ((Nat.le_trans HW0.out (by rw [hg]; exact (keep_size (w := w) (g := g) (row := none) (qh HK.out)) : w.heap.size ≤ gb138) : w0.heap.size ≤ gb138))
         replace HK := q0 (KeepBut.trans (qh HK.out) (KeepBut.of_below hb g none) (.inl rfl))
         have NB113_138 := nl BK113 hg
         have NB138_113 := ng BK113 hg
         replace BK113 := kd BK113 hb
         have NB114_138 := nl BK114 hg
         have NB138_114 := ng BK114 hg
         replace BK114 := kd BK114 hb
         have NB0_138 := q0 ((by rw [hg]; exact Nat.ne_of_lt (IsSRd.lt (show IsSRd w0 _ g s0_0 t131 from qi HI0.out)) : g ≠ gb138))
         have NB138_0 := q0 ((by rw [hg]; exact Nat.ne_of_gt (IsSRd.lt (show IsSRd w0 _ g s0_0 t131 from qi HI0.out)) : gb138 ≠ g))
         replace HI0 := q0 (IsSRd.below (qi HI0.out) hb)
         clear hb hbox hg
         refine hK.out _ _ ⟨bca BK114, bcb BK114⟩ (fun hHeld => ?_)
         clear hK K
         refine nu 7 ?_
         refine one_ (i := 9) (N := some 77) (ba 16 9215) rfl rfl (one_of HT_.out (by kernel_rfl)) (by decide) (fun K hK => ?_)
         refine goes_ Try.func27 (by kernel_rfl) rfl #[.agg #[.int .i64 x102000_2, .slice Ao61 x102001_2.length co61], .int .i64 t104, .int .i64 t105] (by rfl) rfl rfl qm ?_
         with_reducible refine (spec_NetAdd.calls kj50 x102000_2 _ _ x102001_2 t104 t105 t106 t133 true _ ?side1 ?side2 A59.out).mono ?_
         (case side1 => exact qc (Kd.R_reads' HO_102001.out).2.2)
         (case side2 => exact (Kd.R_reads' HO_102001.out).2.1)
         rintro e w66 ⟨v136, rfl, ho0, hb⟩
         refine ⟨_, rfl, ?_⟩
         have HO137 := q0 (Kd.R_lower (Kd.R_new' ho0 (Kd.R_lt (qr HO_102001.out))) (keep_size (w := w) (g := g) (row := none) (qh HK.out)))
         replace HO_102001 := q0 (Kd.R_elder' (qr HO_102001.out) (Kd.R_base ho0) hb)
         replace BK113 := kd BK113 hb
         replace BK114 := kd BK114 hb
         replace BK138 := kd BK138 hb
         replace HK := q0 (KeepBut.trans (qh HK.out) (KeepBut.of_below hb g none) (.inl rfl))
         replace HB := q0 (below_step (qj HB.out HI0.out) hb)
         replace HI0 := q0 (IsSRd.below (qi HI0.out) hb)
         (try clear hb)
         (try clear hb2)
         (try clear hk)
         (try clear hi)
         (try clear ho0)
         refine hK.out _ _ ⟨bca BK114, bcb BK114⟩ (fun hHeld => ?_)
         clear hK K
         refine nu 77 ?_
         refine pU 10 67 16 10239 HT_ ?_
         refine pU 11 78 16 12287 HT_ ?_
         refine pU 12 79 16 16383 HT_ ?_
         exact norm_ (by simp only [putAll, Act.put, List.setIfInBounds_toArray, List.set_cons_zero, List.set_cons_succ]) (hCont (v136, gb138) _ ⟨hHeld, (by (with_reducible repeat (first | apply Kd.R_alloc | apply Kd.R_drewN | apply Kd.R_drew)); exact Kd.R_mono HO137.out (fun _ hk => hk.2)), (by (with_reducible repeat (first | apply Kd.R_alloc | apply Kd.R_drewN | apply Kd.R_drew)); exact Kd.R_mono HO_102001.out (fun _ hk => hk.2)), (qk BK113.out), (qk BK114.out), (qk BK138.out), GW138.out, GE138.out, NB0_138.out, NB138_0.out, NB113_138.out, NB138_113.out, NB114_138.out, NB138_114.out, (qi HI0.out), (qh HK.out), (qj HB.out HI0.out)⟩)
     · skip
       refine box_step ?hg (N := 7) ?hd (cs := #[.int .i64 0, .slice none 0 0]) (t := 25) ?hr ?_; (case hd => rfl); (case hg => rfl); (case hr => first | (go_simp; done) | (go_simp; rfl))
       intro gb138 hg w64 hbox hb
       replace HO_102001 := q0 (Kd.R_below (qr HO_102001.out) hb)
       replace HB := q0 (below_step (qj HB.out HI0.out) hb)
       have BK138 := q0 (hbox)
       have GW138 := q0 ((by rw [hg]; exact (keep_size (w := w) (g := g) (row := none) (qh HK.out)) : w.heap.size ≤ gb138))
       have GE138 := q0 ((Nat.le_trans HW0.out (by rw [hg]; exact (keep_size (w := w) (g := g) (row := none) (qh HK.out)) : w.heap.size ≤ gb138) : w0.heap.size ≤ gb138))
       replace HK := q0 (KeepBut.trans (qh HK.out) (KeepBut.of_below hb g none) (.inl rfl))
       have NB113_138 := nl BK113 hg
       have NB138_113 := ng BK113 hg
       replace BK113 := kd BK113 hb
       have NB114_138 := nl BK114 hg
       have NB138_114 := ng BK114 hg
       replace BK114 := kd BK114 hb
       have NB0_138 := q0 ((by rw [hg]; exact Nat.ne_of_lt (IsSRd.lt (show IsSRd w0 _ g s0_0 t129 from qi HI0.out)) : g ≠ gb138))
       have NB138_0 := q0 ((by rw [hg]; exact Nat.ne_of_gt (IsSRd.lt (show IsSRd w0 _ g s0_0 t129 from qi HI0.out)) : gb138 ≠ g))
       replace HI0 := q0 (IsSRd.below (qi HI0.out) hb)
       clear hb hbox hg
       refine hK.out _ _ ⟨bca BK114, bcb BK114⟩ (fun hHeld => ?_)
       clear hK K
       refine nu 7 ?_
       refine one_ (i := 8) (N := some 76) (ba 16 8703) rfl rfl (one_of HT_.out (by kernel_rfl)) (by decide) (fun K hK => ?_)
       refine goes_ Try.func59 (by kernel_rfl) rfl #[.pointer (some ⟨g, 0, none⟩), .int .i64 x102000_2] (by rfl) rfl rfl qm ?_
       with_reducible refine (spec_l6Rd_pick.calls kj50 g s0_0 t129 x102000_2 t105 t131 w0 _ ?side1 ?side2 A58.out).mono ?_
       (case side1 => exact qi HI0.out)
       (case side2 => exact qj HB.out HI0.out)
       rintro e w65 ⟨rfl, hi, hb, hk⟩
       refine ⟨_, rfl, ?_⟩
       replace HO_102001 := q0 (Kd.R_mono (Kd.R_keep (IsSRd.apart (show IsSRd w0 _ g s0_0 t129 from qi HI0.out) (qr HO_102001.out) (by decide)) hk (fun _ h => h.2)) (fun _ h => h.1))
       replace BK113 := q0 (kc hk BK113.out NB113_0.out)
       replace BK114 := q0 (kc hk BK114.out NB114_0.out)
       replace BK138 := q0 (kc hk BK138.out NB138_0.out)
       replace HK := q0 (KeepBut.trans (qh HK.out) hk (.inl rfl))
       replace HB := q0 (hb)
       replace HI0 := q0 (hi)
       (try clear hb)
       (try clear hb2)
       (try clear hk)
       (try clear hi)
       refine hK.out _ _ ⟨bca BK114, bcb BK114⟩ (fun hHeld => ?_)
       clear hK K
       refine nu 76 ?_
       refine one_ (i := 9) (N := some 77) (ba 16 9215) rfl rfl (one_of HT_.out (by kernel_rfl)) (by decide) (fun K hK => ?_)
       refine goes_ Try.func27 (by kernel_rfl) rfl #[.agg #[.int .i64 x102000_2, .slice Ao61 x102001_2.length co61], .int .i64 t104, .int .i64 t105] (by rfl) rfl rfl qm ?_
       with_reducible refine (spec_NetAdd.calls kj50 x102000_2 _ _ x102001_2 t104 t105 t106 t133 true _ ?side1 ?side2 A59.out).mono ?_
       (case side1 => exact qc (Kd.R_reads' HO_102001.out).2.2)
       (case side2 => exact (Kd.R_reads' HO_102001.out).2.1)
       rintro e w66 ⟨v136, rfl, ho0, hb⟩
       refine ⟨_, rfl, ?_⟩
       have HO137 := q0 (Kd.R_lower (Kd.R_new' ho0 (Kd.R_lt (qr HO_102001.out))) (keep_size (w := w) (g := g) (row := none) (qh HK.out)))
       replace HO_102001 := q0 (Kd.R_elder' (qr HO_102001.out) (Kd.R_base ho0) hb)
       replace BK113 := kd BK113 hb
       replace BK114 := kd BK114 hb
       replace BK138 := kd BK138 hb
       replace HK := q0 (KeepBut.trans (qh HK.out) (KeepBut.of_below hb g none) (.inl rfl))
       replace HB := q0 (below_step (qj HB.out HI0.out) hb)
       replace HI0 := q0 (IsSRd.below (qi HI0.out) hb)
       (try clear hb)
       (try clear hb2)
       (try clear hk)
       (try clear hi)
       (try clear ho0)
       refine hK.out _ _ ⟨bca BK114, bcb BK114⟩ (fun hHeld => ?_)
       clear hK K
       refine nu 77 ?_
       refine pU 10 67 16 10239 HT_ ?_
       refine pU 11 78 16 12287 HT_ ?_
       refine pU 12 79 16 16383 HT_ ?_
       exact norm_ (by simp only [putAll, Act.put, List.setIfInBounds_toArray, List.set_cons_zero, List.set_cons_succ]) (hCont (v136, gb138) _ ⟨hHeld, (by (with_reducible repeat (first | apply Kd.R_alloc | apply Kd.R_drewN | apply Kd.R_drew)); exact Kd.R_mono HO137.out (fun _ hk => hk.2)), (by (with_reducible repeat (first | apply Kd.R_alloc | apply Kd.R_drewN | apply Kd.R_drew)); exact Kd.R_mono HO_102001.out (fun _ hk => hk.2)), (qk BK113.out), (qk BK114.out), (qk BK138.out), GW138.out, GE138.out, NB0_138.out, NB138_0.out, NB113_138.out, NB138_113.out, NB114_138.out, NB138_114.out, (qi HI0.out), (qh HK.out), (qj HB.out HI0.out)⟩)
   · skip
     refine box_step ?hg (N := 7) ?hd (cs := #[.int .i64 0, .slice none 0 0]) (t := 25) ?hr ?_; (case hd => rfl); (case hg => rfl); (case hr => first | (go_simp; done) | (go_simp; rfl))
     intro gb138 hg w63 hbox hb
     replace HO_102001 := q0 (Kd.R_below (qr HO_102001.out) hb)
     replace HB := q0 (below_step (qj HB.out HI0.out) hb)
     have BK138 := q0 (hbox)
     have GW138 := q0 ((by rw [hg]; exact (keep_size (w := w) (g := g) (row := none) (qh HK.out)) : w.heap.size ≤ gb138))
     have GE138 := q0 ((Nat.le_trans HW0.out (by rw [hg]; exact (keep_size (w := w) (g := g) (row := none) (qh HK.out)) : w.heap.size ≤ gb138) : w0.heap.size ≤ gb138))
     replace HK := q0 (KeepBut.trans (qh HK.out) (KeepBut.of_below hb g none) (.inl rfl))
     have NB113_138 := nl BK113 hg
     have NB138_113 := ng BK113 hg
     replace BK113 := kd BK113 hb
     have NB114_138 := nl BK114 hg
     have NB138_114 := ng BK114 hg
     replace BK114 := kd BK114 hb
     have NB0_138 := q0 ((by rw [hg]; exact Nat.ne_of_lt (IsSRd.lt (show IsSRd w0 _ g s0_0 x101_2 from qi HI0.out)) : g ≠ gb138))
     have NB138_0 := q0 ((by rw [hg]; exact Nat.ne_of_gt (IsSRd.lt (show IsSRd w0 _ g s0_0 x101_2 from qi HI0.out)) : gb138 ≠ g))
     replace HI0 := q0 (IsSRd.below (qi HI0.out) hb)
     clear hb hbox hg
     refine hK.out _ _ ⟨bca BK114, bcb BK114⟩ (fun hHeld => ?_)
     clear hK K
     refine nu 7 ?_
     refine one_ (i := 4) (N := some 72) (ba 16 8447) rfl rfl (one_of HT_.out (by kernel_rfl)) (by decide) (fun K hK => ?_)
     refine goes_ Try.func59 (by kernel_rfl) rfl #[.pointer (some ⟨g, 0, none⟩), .int .i64 x102000_2] (by rfl) rfl rfl qm ?_
     with_reducible refine (spec_l6Rd_pick.calls kj50 g s0_0 x101_2 x102000_2 t104 t129 w0 _ ?side1 ?side2 A57.out).mono ?_
     (case side1 => exact qi HI0.out)
     (case side2 => exact qj HB.out HI0.out)
     rintro e w64 ⟨rfl, hi, hb, hk⟩
     refine ⟨_, rfl, ?_⟩
     replace HO_102001 := q0 (Kd.R_mono (Kd.R_keep (IsSRd.apart (show IsSRd w0 _ g s0_0 x101_2 from qi HI0.out) (qr HO_102001.out) (by decide)) hk (fun _ h => h.2)) (fun _ h => h.1))
     replace BK113 := q0 (kc hk BK113.out NB113_0.out)
     replace BK114 := q0 (kc hk BK114.out NB114_0.out)
     replace BK138 := q0 (kc hk BK138.out NB138_0.out)
     replace HK := q0 (KeepBut.trans (qh HK.out) hk (.inl rfl))
     replace HB := q0 (hb)
     replace HI0 := q0 (hi)
     (try clear hb)
     (try clear hb2)
     (try clear hk)
     (try clear hi)
     refine hK.out _ _ ⟨bca BK114, bcb BK114⟩ (fun hHeld => ?_)
     clear hK K
     refine nu 72 ?_
     refine one_ (i := 8) (N := some 76) (ba 16 8703) rfl rfl (one_of HT_.out (by kernel_rfl)) (by decide) (fun K hK => ?_)
     refine goes_ Try.func59 (by kernel_rfl) rfl #[.pointer (some ⟨g, 0, none⟩), .int .i64 x102000_2] (by rfl) rfl rfl qm ?_
     with_reducible refine (spec_l6Rd_pick.calls kj50 g s0_0 t129 x102000_2 t105 t131 w0 _ ?side1 ?side2 A58.out).mono ?_
     (case side1 => exact qi HI0.out)
     (case side2 => exact qj HB.out HI0.out)
     rintro e w65 ⟨rfl, hi, hb, hk⟩
     refine ⟨_, rfl, ?_⟩
     replace HO_102001 := q0 (Kd.R_mono (Kd.R_keep (IsSRd.apart (show IsSRd w0 _ g s0_0 t129 from qi HI0.out) (qr HO_102001.out) (by decide)) hk (fun _ h => h.2)) (fun _ h => h.1))
     replace BK113 := q0 (kc hk BK113.out NB113_0.out)
     replace BK114 := q0 (kc hk BK114.out NB114_0.out)
     replace BK138 := q0 (kc hk BK138.out NB138_0.out)
     replace HK := q0 (KeepBut.trans (qh HK.out) hk (.inl rfl))
     replace HB := q0 (hb)
     replace HI0 := q0 (hi)
     (try clear hb)
     (try clear hb2)
     (try clear hk)
     (try clear hi)
     refine hK.out _ _ ⟨bca BK114, bcb BK114⟩ (fun hHeld => ?_)
     clear hK K
     refine nu 76 ?_
     refine one_ (i := 9) (N := some 77) (ba 16 9215) rfl rfl (one_of HT_.out (by kernel_rfl)) (by decide) (fun K hK => ?_)
     refine goes_ Try.func27 (by kernel_rfl) rfl #[.agg #[.int .i64 x102000_2, .slice Ao61 x102001_2.length co61], .int .i64 t104, .int .i64 t105] (by rfl) rfl rfl qm ?_
     with_reducible refine (spec_NetAdd.calls kj50 x102000_2 _ _ x102001_2 t104 t105 t106 t133 true _ ?side1 ?side2 A59.out).mono ?_
     (case side1 => exact qc (Kd.R_reads' HO_102001.out).2.2)
     (case side2 => exact (Kd.R_reads' HO_102001.out).2.1)
     rintro e w66 ⟨v136, rfl, ho0, hb⟩
     refine ⟨_, rfl, ?_⟩
     have HO137 := q0 (Kd.R_lower (Kd.R_new' ho0 (Kd.R_lt (qr HO_102001.out))) (keep_size (w := w) (g := g) (row := none) (qh HK.out)))
     replace HO_102001 := q0 (Kd.R_elder' (qr HO_102001.out) (Kd.R_base ho0) hb)
     replace BK113 := kd BK113 hb
     replace BK114 := kd BK114 hb
     replace BK138 := kd BK138 hb
     replace HK := q0 (KeepBut.trans (qh HK.out) (KeepBut.of_below hb g none) (.inl rfl))
     replace HB := q0 (below_step (qj HB.out HI0.out) hb)
     replace HI0 := q0 (IsSRd.below (qi HI0.out) hb)
     (try clear hb)
     (try clear hb2)
     (try clear hk)
     (try clear hi)
     (try clear ho0)
     refine hK.out _ _ ⟨bca BK114, bcb BK114⟩ (fun hHeld => ?_)
     clear hK K
     refine nu 77 ?_
     refine pU 10 67 16 10239 HT_ ?_
     refine pU 11 78 16 12287 HT_ ?_
     refine pU 12 79 16 16383 HT_ ?_
     exact norm_ (by simp only [putAll, Act.put, List.setIfInBounds_toArray, List.set_cons_zero, List.set_cons_succ]) (hCont (v136, gb138) _ ⟨hHeld, (by (with_reducible repeat (first | apply Kd.R_alloc | apply Kd.R_drewN | apply Kd.R_drew)); exact Kd.R_mono HO137.out (fun _ hk => hk.2)), (by (with_reducible repeat (first | apply Kd.R_alloc | apply Kd.R_drewN | apply Kd.R_drew)); exact Kd.R_mono HO_102001.out (fun _ hk => hk.2)), (qk BK113.out), (qk BK114.out), (qk BK138.out), GW138.out, GE138.out, NB0_138.out, NB138_0.out, NB113_138.out, NB138_113.out, NB114_138.out, NB138_114.out, (qi HI0.out), (qh HK.out), (qj HB.out HI0.out)⟩)
 rintro ⟨v136, gb138⟩ w67 ⟨hS_, h0_, h1_, h2_, h3_, h4_, h5_, h6_, h7_, h8_, h9_, h10_, h11_, h12_, h13_, h14_, h15_⟩
 have n0_ : Aside0 (Kd.R kTie 32 w67 w.heap.size (fun k_ => some k_ ≠ (.slice Ao61 x102001_2.length co61 : Value).ownBlock) v136 t133) := ⟨h0_⟩
 have n1_ : Aside0 (Kd.R kTie 32 w67 w.heap.size (fun k_ => some k_ ≠ (v136 : Value).ownBlock) (.slice Ao61 x102001_2.length co61) x102001_2) := ⟨h1_⟩
 have n2_ : Aside0 (w67.heap[gb113]? = some (.cells #[.int .i64 0, .slice none 0 0] 25 (0, 0))) := ⟨h2_⟩
 have n3_ : Aside0 (w67.heap[gb114]? = some (.cells #[.int .i64 x102000_2, .slice Ao61 x102001_2.length co61] 25 (0, 0))) := ⟨h3_⟩
 have n4_ : Aside0 (w67.heap[gb138]? = some (.cells #[.int .i64 0, .slice none 0 0] 25 (0, 0))) := ⟨h4_⟩
 have n5_ : Aside0 (w.heap.size ≤ gb138) := ⟨h5_⟩
 have n6_ : Aside0 (w0.heap.size ≤ gb138) := ⟨h6_⟩
 have n7_ : Aside0 (g ≠ gb138) := ⟨h7_⟩
 have n8_ : Aside0 (gb138 ≠ g) := ⟨h8_⟩
 have n9_ : Aside0 (gb113 ≠ gb138) := ⟨h9_⟩
 have n10_ : Aside0 (gb138 ≠ gb113) := ⟨h10_⟩
 have n11_ : Aside0 (gb114 ≠ gb138) := ⟨h11_⟩
 have n12_ : Aside0 (gb138 ≠ gb114) := ⟨h12_⟩
 have n13_ : Aside0 (IsSRd w0 w67 g s0_0 t131) := ⟨h13_⟩
 have n14_ : Aside0 (KeepBut w w67 g none) := ⟨h14_⟩
 have n15_ : Aside0 (Below w0.heap.size w0 w67) := ⟨h15_⟩
 clear HO_102001
 clear BK113
 clear BK114
 clear HI0
 clear HK
 clear HB
 clear h0_ h1_ h2_ h3_ h4_ h5_ h6_ h7_ h8_ h9_ h10_ h11_ h12_ h13_ h14_ h15_
 have HO137 := n0_
 have HO_102001 := n1_
 have BK113 := n2_
 have BK114 := n3_
 have BK138 := n4_
 have GW138 := n5_
 have GE138 := n6_
 have NB0_138 := n7_
 have NB138_0 := n8_
 have NB113_138 := n9_
 have NB138_113 := n10_
 have NB114_138 := n11_
 have NB138_114 := n12_
 have HI0 := n13_
 have HK := n14_
 have HB := n15_
 clear n0_ n1_ n2_ n3_ n4_ n5_ n6_ n7_ n8_ n9_ n10_ n11_ n12_ n13_ n14_ n15_
 have hHeld : w67.cell? ⟨gb114, 0, none⟩ = some (.int .i64 x102000_2) ∧ w67.cell? ⟨gb114, 1, none⟩ = some (.slice Ao61 x102001_2.length co61) := hS_
 obtain ⟨Ao69, co69, eo69⟩ := Kd.R_slice HO137.out
 (first | subst eo69 | (injection eo69 with f1_ f2_ f3_; have f4_ := f1_.symm; have f5_ := f3_.symm; clear f1_ f2_ f3_; subst f4_; subst f5_))
 refine norm_ (a' := ?_) ?_ ?_
 rotate_left
 · simp only [putAll, Act.put, List.setIfInBounds_toArray, List.set_cons_zero, List.set_cons_succ]
   rfl
 refine one_ (i := 14) (N := none) (ba 16 32767) rfl rfl (one_of HT_.out (by kernel_rfl)) (by decide) (fun K hK => ?_)
 have hs68 : w67.cell? ⟨gb138, 0, none⟩ = some (.int .i64 0) := (blk_cell BK138.out 0).trans rfl
 have hfs68 := blk_frozen BK138.out 0
 have hns68_0 := NB113_138.out
 have hns68_1 := NB114_138.out
 have hms68_0 := NB138_113.out
 have hms68_1 := NB138_114.out
 have hs70 : w67.cell? ⟨gb138, 1, none⟩ = some (.slice none 0 0) := (blk_cell BK138.out 1).trans rfl
 have hfs70 := blk_frozen BK138.out 1
 have hns70_0 := NB113_138.out
 have hns70_1 := NB114_138.out
 have hms70_0 := NB138_113.out
 have hms70_1 := NB138_114.out
 refine skip_ (w1 := ?_) (by rfl) rfl ?_ ?_
 rotate_left
 · go_simp
   rfl
 refine hK.out _ _ ⟨((cell_far (p := ⟨gb138, _, none⟩) NB114_138.out _).trans (((cell_far (p := ⟨gb138, _, none⟩) NB114_138.out _).trans (hHeld.1)))), ((cell_far (p := ⟨gb138, _, none⟩) NB114_138.out _).trans (((cell_far (p := ⟨gb138, _, none⟩) NB114_138.out _).trans (hHeld.2))))⟩ (fun hHeld => ?_)
 clear hK K
 refine pU 15 8 16 65535 HT_ ?_
 refine done_ (done_of HT_.out (by kernel_rfl)) ?_
 have hnb71 := NB138_113.out
 have hnc71 := NB113_138.out
 have hnb72 := NB138_114.out
 have hnc72 := NB114_138.out
 have hnb73 := NB138_0.out
 have hnc73 := NB0_138.out
 obtain ⟨hcz74_0, hcz74_1, hfz74_0, hfz74_1⟩ := b2 BK138
 have hnb75 := NB114_113.out
 have hnc75 := NB113_114.out
 have hnb76 := NB114_0.out
 have hnc76 := NB0_114.out
 obtain ⟨hcz77_0, hcz77_1, hfz77_0, hfz77_1⟩ := b2 BK114
 try go_wp2
 go_roundg kj50
 case measure => have := HJ3.out; have := HK2.out; have := HJ50.out; omega
 case rel => exact ⟨(wrap64 (x6_2 - 1)), (t131), (t106), (t133), (.slice Ao69 t133.length co69), qs, H', ⟨by have := HJ3.out; have := HK2.out; have := HJ50.out; omega⟩, ⟨by (with_reducible repeat (first | apply Kd.R_alloc | apply Kd.R_drewN | apply Kd.R_drew)); exact Kd.R_mono (Kd.R_far (p := ⟨gb114, 1, none⟩) (Kd.R_far (p := ⟨gb114, 0, none⟩) (Kd.R_far (p := ⟨gb138, 1, none⟩) (Kd.R_far (p := ⟨gb138, 0, none⟩) (Kd.R_types (Kd.R_types HO137.out BK138.out (by decide)) BK114.out (by decide)) (fun _ hk => hk.1.2) (.int .i64 t106)) (fun _ hk => hk.1.2) (.slice Ao69 t133.length co69)) (fun _ hk => hk.2) (.int .i64 t106)) (fun _ hk => hk.2) (.slice Ao69 t133.length co69)) (fun _ hk => trivial)⟩, ⟨qf BK113.out⟩, ⟨by (with_reducible repeat (first | refine blk_drewN ?_ _ | refine blk_drew ?_ | refine blk_alloc ?_ _)); refine blk_put (cs := #[.int .i64 t106, .slice Ao61 x102001_2.length co61]) ?_ 1 _ rfl; (with_reducible repeat (first | refine blk_drewN ?_ _ | refine blk_drew ?_ | refine blk_alloc ?_ _)); refine blk_put (cs := #[.int .i64 x102000_2, .slice Ao61 x102001_2.length co61]) ?_ 0 _ rfl; (with_reducible repeat (first | refine blk_drewN ?_ _ | refine blk_drew ?_ | refine blk_alloc ?_ _)); refine blk_far ?_ NB114_138.out _; (with_reducible repeat (first | refine blk_drewN ?_ _ | refine blk_drew ?_ | refine blk_alloc ?_ _)); refine blk_far ?_ NB114_138.out _; (with_reducible repeat (first | refine blk_drewN ?_ _ | refine blk_drew ?_ | refine blk_alloc ?_ _)); exact BK114.out⟩, ⟨qi HI0.out⟩, ⟨qh HK.out⟩, ⟨qj HB.out HI0.out⟩⟩

def spec_l1Copy.T1 : Bool × List (List Nat × List Nat) := (true, [([], []), ([0], [0]), ([], []), ([], []), ([3], [3]), ([2, 4], [2, 4]), ([1, 5], [1, 5]), ([6, 5, 0, 1, 2, 3, 4, 5, 6], [6])])
def spec_l1Copy.B1 : List Nat := [0, 1, 0, 0, 8, 28, 63, 127]
theorem spec_l1Copy.tab1 : rtab .any (opsOf Try.f109 1) = spec_l1Copy.T1 := by kernel_rfl
theorem spec_l1Copy.bits1 : waitsOk spec_l1Copy.T1.2 spec_l1Copy.B1 = true := by kernel_rfl
set_option maxHeartbeats 8000000 in
set_option maxRecDepth 100000 in
theorem spec_l1Copy.calls (a0_0 : Int) (A0_1 : Option Addr) (c0_1 : Nat) (l0_1 : List (STie)) (r1 : Int) (r2 : List (STie)) (w : World) (hr0_1 : Kd.C kTie w A0_1 l0_1.length l0_1) (hc0_1 : l0_1.length ≤ c0_1) (h : spec_l1Copy.f a0_0 l0_1 = some (r1, r2)) :
    Calls Try.prog 109 #[.agg #[.int .i64 a0_0, .slice A0_1 l0_1.length c0_1]] w fun e w' => ∃ v1_ : Value, e = .returned (.agg #[.int .i64 r1, v1_]) ∧ Kd.R kTie 32 w' w.heap.size (fun _ => True) v1_ r2 ∧ Below w.heap.size w w' := by
 have hu25 := Try.underlying25
 have HR0_1 := q0 hr0_1
 have HC0_1 := q0 hc0_1
 clear hr0_1 hc0_1
 have HB := q0 (Below.refl w.heap.size w)
 have H : ((some (([] : List (STie)) : List (STie))).bind fun y100 => (if y100.length + l0_1.length < 8796093022208 then (some (a0_0, (y100 ++ l0_1))) else (none))) = some (r1, r2) := h
 clear h
 obtain ⟨y100, hy100⟩ : ∃ y_ : List (STie), y_ = (([] : List (STie))) := ⟨_, rfl⟩
 replace H : (if y100.length + l0_1.length < 8796093022208 then (some (a0_0, (y100 ++ l0_1))) else (none)) = some (r1, r2) := qy H hy100
 have Ny100 := q0 hy100
 clear hy100
 obtain ⟨c2, H⟩ : (y100.length + l0_1.length < 8796093022208) ∧ _ := og H
 have LMc2 := q0 c2
 clear c2
 obtain ⟨y101, hy101⟩ : ∃ y_ : List (STie), y_ = (y100 ++ l0_1) := ⟨_, rfl⟩
 replace H : (some (a0_0, y101)) = some (r1, r2) := qy H hy101
 have Ny101 := q0 hy101
 clear hy101
 simp only [Option.some.injEq, Prod.mk.injEq] at H
 obtain ⟨rfl, rfl⟩ := H
 go_enter Try.func109, Try.ntmps109
 try go_wp2_with (first | ((with_reducible refine gd 1 ?_); refine be 1 #[.int .i64 a0_0, .slice A0_1 l0_1.length c0_1] 25 ?_; intro gb102 hg w3 hbox hb; have BK102 := q0 (hbox); have GW102 := gw HB hg; have GE102 := gw HB hg; replace HB := bp HB hb; clear hb hbox hg) | ((with_reducible refine gd 2 ?_); refine be 2 #[.int .i64 0, .slice none 0 0] 25 ?_; intro gb103 hg w4 hbox hb; have BK103 := q0 (hbox); have GW103 := gw HB hg; have GE103 := gw HB hg; replace HB := bp HB hb; have NB102_103 := nl BK102 hg; have NB103_102 := ng BK102 hg; replace BK102 := kd BK102 hb; clear hb hbox hg))
 replace BK102 := q0 (blk_drew BK102.out)
 replace BK103 := q0 (blk_drew BK103.out)
 replace HB := q0 (below_drew1 HB.out)
 refine start_ (n := 8) (S := fun w' => w'.cell? ⟨gb102, 0, none⟩ = some (.int .i64 a0_0) ∧ w'.cell? ⟨gb102, 1, none⟩ = some (.slice A0_1 l0_1.length c0_1)) (ds := []) (ba 8 0) (by kernel_rfl) rfl (by kernel_rfl) ⟨bca BK102, bcb BK102⟩ (fun hHeld => ?_); refine with_tabW spec_l1Copy.tab1 spec_l1Copy.bits1 (fun HT_ HW_ => ?_)
 generalize w4.drew = w5 at BK102 BK103 HB hHeld ⊢
 refine pU 0 3 8 1 HT_ ?_
 refine pU 3 6 8 9 HT_ ?_
 refine tU 1 4 8 11 HT_ HW_ hHeld ?_
 refine tU 4 7 8 27 HT_ HW_ hHeld ?_
 refine one_ (i := 2) (N := some 5) (ba 8 31) rfl rfl (one_of HT_.out (by kernel_rfl)) (by decide) (fun K hK => ?_)
 refine Kd.R_lit_step kTie _ 32 ?hg (N := 5) ?hd (xs := ([] : List (STie))) (inner := []) (ok := fun _ => True) (okp := fun _ => True) ?hr ?hp (fun _ hk => hk) trivial (Below.refl _ _) (Nat.le_refl _) (by simp) ?_; (case hd => rfl); (case hg => rfl); (case hr => first | (go_simp; done) | (go_simp; rfl)); (case hp => exact (Reps.none _ _))
 intro v104 w6 ho7 hb hg_ hnew_
 clear hg_ hnew_
 (first | rw [← Ny100.out] at ho7 | (simp only [Int.reduceToNat] at ho7; rw [← Ny100.out] at ho7))
 have HO105 := q0 (Kd.R_lower ho7 (below_size (qb HB.out)))
 replace BK102 := kd BK102 hb
 replace BK103 := kd BK103 hb
 replace HB := bp HB hb
 clear hb ho7
 refine hK.out _ _ ⟨bca BK102, bcb BK102⟩ (fun hHeld => ?_)
 clear hK K
 refine nu 5 ?_
 refine one_ (i := 5) (N := some 8) (ba 8 63) rfl rfl (one_of HT_.out (by kernel_rfl)) (by decide) (fun K hK => ?_)
 refine Kd.R_append_rows_step kTie (w0 := w) w.heap.size (by rfl) (.tmp 5) (.tmp 7) 23 32 (.agg #[(.int .i64 0), (.int .i64 0)]) 16 rfl Try.underlying23 info32 rfl (by decide) (by omega) v104 y100 l0_1 _ _ _ (fun _ => True) (fun _ => False) rfl rfl ?aO ?aR (fun _ _ h => h) (fun _ h => h.elim) ?aF ?aB ?aS ?aL ?_
 (case aR => repeat (first | exact (Kd.C_below HR0_1.out HB.out) | (with_reducible refine Kd.C_alloc ?_ _) | (with_reducible refine Kd.C_drewN ?_ _) | (with_reducible refine Kd.C_drew ?_)))
 (case aB => exact (qb HB.out))
 (case aF => exact (fun _ _ => trivial))
 (case aO => exact (qr HO105.out))
 (case aS => exact (below_size (qb HB.out)))
 (case aL => have := LMc2.out; omega)
 intro v106 w8 ho hb hg hat
 rw [← Ny101.out] at ho
 replace BK102 := q0 (blk_grown (g := gb102) (o := .cells #[.int .i64 a0_0, .slice A0_1 l0_1.length c0_1] 25 (0, 0)) (qk BK102.out) hg (Kd.R_ne HO105.out BK102.out (by decide)))
 replace BK103 := q0 (blk_grown (g := gb103) (o := .cells #[.int .i64 0, .slice none 0 0] 25 (0, 0)) (qk BK103.out) hg (Kd.R_ne HO105.out BK103.out (by decide)))
 replace HB := q0 (hb)
 have HO107 := q0 (ho)
 clear HO105
 clear ho hb hg hat
 obtain ⟨Ao9, co9, eo9⟩ := Kd.R_slice HO107.out
 (first | subst eo9 | (injection eo9 with f1_ f2_ f3_; have f4_ := f1_.symm; have f5_ := f3_.symm; clear f1_ f2_ f3_; subst f4_; subst f5_))
 refine hK.out _ _ ⟨bca BK102, bcb BK102⟩ (fun hHeld => ?_)
 clear hK K
 refine nu 8 ?_
 refine pU 6 9 8 127 HT_ ?_
 refine one_ (i := 7) (N := none) (ba 8 255) rfl rfl (one_of HT_.out (by kernel_rfl)) (by decide) (fun K hK => ?_)
 have hs10 : w8.cell? ⟨gb103, 0, none⟩ = some (.int .i64 0) := (blk_cell BK103.out 0).trans rfl
 have hfs10 := blk_frozen BK103.out 0
 have hns10_0 := NB102_103.out
 have hms10_0 := NB103_102.out
 have hs11 : w8.cell? ⟨gb103, 1, none⟩ = some (.slice none 0 0) := (blk_cell BK103.out 1).trans rfl
 have hfs11 := blk_frozen BK103.out 1
 have hns11_0 := NB102_103.out
 have hms11_0 := NB103_102.out
 refine skip_ (w1 := ?_) (by rfl) rfl ?_ ?_
 rotate_left
 · go_simp
   rfl
 refine hK.out _ _ ⟨((cell_far (p := ⟨gb103, _, none⟩) NB102_103.out _).trans (((cell_far (p := ⟨gb103, _, none⟩) NB102_103.out _).trans (hHeld.1)))), ((cell_far (p := ⟨gb103, _, none⟩) NB102_103.out _).trans (((cell_far (p := ⟨gb103, _, none⟩) NB102_103.out _).trans (hHeld.2))))⟩ (fun hHeld => ?_)
 clear hK K
 refine done_ (done_of HT_.out (by kernel_rfl)) ?_
 try go_wp2
 refine bodyPost_ret (results_cell_row rfl _ _ gb103 25 #[.int .i64 a0_0, .slice Ao9 y101.length co9] (0, 0) _ rfl (by (with_reducible repeat (first | refine blk_drewN ?_ _ | refine blk_drew ?_ | refine blk_alloc ?_ _)); refine blk_put (cs := #[.int .i64 a0_0, .slice none 0 0]) ?_ 1 _ rfl; (with_reducible repeat (first | refine blk_drewN ?_ _ | refine blk_drew ?_ | refine blk_alloc ?_ _)); refine blk_put (cs := #[.int .i64 0, .slice none 0 0]) ?_ 0 _ rfl; (with_reducible repeat (first | refine blk_drewN ?_ _ | refine blk_drew ?_ | refine blk_alloc ?_ _)); exact BK103.out) Try.underlying25 rfl (by kernel_rfl)) rfl ?_
 exact ⟨_, qe, by (with_reducible repeat (first | apply Kd.R_alloc | apply Kd.R_drewN | apply Kd.R_drew)); exact rf2 HO107.out BK103.out (fun _ hk => trivial), qb HB.out⟩

def spec_l71Spoil.T7 : Bool × List (List Nat × List Nat) := (true, [([], []), ([0], [0]), ([], []), ([2], [2]), ([], []), ([4, 3], [4]), ([3, 5], [3, 5]), ([6], [6]), ([1, 7, 5], [1, 7]), ([0, 1, 2, 3, 4, 5, 6, 7, 8], []), ([9, 8, 8, 0, 1, 2, 3, 4, 5, 6, 7, 8], [8, 9])])
def spec_l71Spoil.B7 : List Nat := [0, 1, 0, 4, 0, 28, 60, 124, 255, 511, 1023]
theorem spec_l71Spoil.tab7 : rtab .any (opsOf Try.f92 7) = spec_l71Spoil.T7 := by kernel_rfl
theorem spec_l71Spoil.bits7 : waitsOk spec_l71Spoil.T7.2 spec_l71Spoil.B7 = true := by kernel_rfl
def spec_l71Spoil.T13 : Bool × List (List Nat × List Nat) := (true, [([], []), ([0], [0]), ([], []), ([], []), ([3], [3]), ([], []), ([4, 5], [4, 5]), ([6], [6]), ([7], [7]), ([], []), ([9], [9]), ([], []), ([10, 11], [10, 11]), ([12], [12]), ([13], [13]), ([8, 14], [8, 14]), ([1, 2, 0, 1, 2, 3, 4, 5, 6, 7, 8, 9, 10, 11, 12, 13, 14, 15], [1, 2]), ([16, 15, 0, 1, 2, 3, 4, 5, 6, 7, 8, 9, 10, 11, 12, 13, 14, 15], [15, 16])])
def spec_l71Spoil.B13 : List Nat := [0, 1, 0, 0, 8, 0, 56, 120, 248, 0, 512, 0, 3584, 7680, 15872, 32760, 65535, 131071]
theorem spec_l71Spoil.tab13 : rtab .any (opsOf Try.f92 13) = spec_l71Spoil.T13 := by kernel_rfl
theorem spec_l71Spoil.bits13 : waitsOk spec_l71Spoil.T13.2 spec_l71Spoil.B13 = true := by kernel_rfl
def spec_l71Spoil.T16 : Bool × List (List Nat × List Nat) := (true, [([], []), ([0], [0]), ([], []), ([2], [2]), ([3], [3]), ([4], [4]), ([5], [5]), ([1, 6], [1, 6]), ([0, 1, 2, 3, 4, 5, 6, 7], []), ([8, 7, 7, 0, 1, 2, 3, 4, 5, 6, 7], [7, 8])])
def spec_l71Spoil.B16 : List Nat := [0, 1, 0, 4, 12, 28, 60, 127, 255, 511]
theorem spec_l71Spoil.tab16 : rtab .any (opsOf Try.f92 16) = spec_l71Spoil.T16 := by kernel_rfl
theorem spec_l71Spoil.bits16 : waitsOk spec_l71Spoil.T16.2 spec_l71Spoil.B16 = true := by kernel_rfl
set_option maxHeartbeats 8000000 in
set_option maxRecDepth 100000 in
theorem spec_l71Spoil.calls (k : Nat) (g : Nat) (s0_0 : List Int) (s0_1 : Int) (a1_0 : Int) (A1_1 : Option Addr) (c1_1 : Nat) (l1_1 : List (STie)) (r1 : Int) (r2 : List (STie)) (r3 : Int) (w0 w : World) (hI : IsSRd w0 w g s0_0 s0_1) (hB : Below w0.heap.size w0 w) (hr1_1 : ∀ W_, KeepBut w W_ g none → Kd.C kTie W_ A1_1 l1_1.length l1_1) (hc1_1 : l1_1.length ≤ c1_1) (h : spec_l71Spoil.f k s0_0 s0_1 a1_0 l1_1 = some (r1, r2, r3)) :
    Calls Try.prog 92 #[.pointer (some ⟨g, 0, none⟩), .agg #[.int .i64 a1_0, .slice A1_1 l1_1.length c1_1]] w fun e w' => ∃ v1_ : Value, e = .returned (.agg #[.int .i64 r1, v1_]) ∧ Kd.R kTie 32 w' w.heap.size (fun _ => True) v1_ r2 ∧ IsSRd w0 w' g s0_0 r3 ∧ Below w0.heap.size w0 w' ∧ KeepBut w w' g none := by
 have hu25 := Try.underlying25
 have hu32 := Try.underlying32
 have HR1_1 := q0 hr1_1
 have HC1_1 := q0 hc1_1
 clear hr1_1 hc1_1
 have HI0 := q0 hI
 have HK := q0 (KeepBut.refl w g none)
 have HL := q0 hB.size
 clear hI
 have HW0 := q0 hB.size
 have HB := q0 hB
 clear hB
 have H : ((spec_l1Copy.f a1_0 l1_1).bind fun bt100 => ((spec_l6Rd_pick.f k s0_0 s0_1 6).bind fun bt101 => (if bt101.1 = 0 then ((some (([(-1), 0, 1, 8, 9] : List Int) : List Int)).bind fun y102 => ((spec_l6Rd_pick.f k s0_0 bt101.2 5).bind fun bt103 => (if 0 ≤ bt103.1 then (if bt103.1 < (y102.length : Int) then (some (rd y102 bt103.1, bt100.2, bt103.2)) else (none)) else (none)))) else (if bt101.1 = 1 then ((spec_l6Rd_pick.f k s0_0 bt101.2 3).bind fun bt104 => ((spec_l6Rd_pick.f k s0_0 bt104.2 3).bind fun bt105 => (if bt100.2.length < 8796093022208 then (some (bt100.1, (bt100.2 ++ [(⟨bt104.1, bt105.1⟩ : STie)]), bt105.2)) else (none)))) else (if bt101.1 = 2 then (if bt100.2.length < 8796093022208 then (some (bt100.1, (bt100.2 ++ [(⟨wrap64 (bt100.1 - 1), bt100.1⟩ : STie)]), bt101.2)) else (none)) else (if bt101.1 = 3 then (if (bt100.2.length : Int) > 0 then ((spec_l6Rd_pick.f k s0_0 bt101.2 (bt100.2.length : Int)).bind fun bt106 => (if 0 ≤ bt106.1 then (if bt106.1 < (bt100.2.length : Int) then (some (bt100.1, (bt100.2.set (bt106.1 : Int).toNat (⟨(rd_TTie bt100.2 bt106.1).f1, (rd_TTie bt100.2 bt106.1).f0⟩ : STie)), bt106.2)) else (none)) else (none))) else (some (bt100.1, bt100.2, bt101.2))) else (if bt101.1 = 4 then (if (bt100.2.length : Int) > 1 then (if 0 < (bt100.2.length : Int) then (if bt100.2.length < 8796093022208 then (some (bt100.1, (bt100.2 ++ [(⟨(rd_TTie bt100.2 0).f0, (rd_TTie bt100.2 0).f1⟩ : STie)]), bt101.2)) else (none)) else (none)) else (some (bt100.1, bt100.2, bt101.2))) else ((some (([(⟨(-1), 0⟩ : STie)] : List (STie)) : List (STie))).bind fun y107 => (if y107.length + bt100.2.length < 8796093022208 then (some (bt100.1, (y107 ++ bt100.2), bt101.2)) else (none)))))))))) = some (r1, r2, r3) := h
 clear h
 obtain ⟨⟨t100, t108⟩, A3, H⟩ := ob H
 obtain ⟨⟨t101, t109⟩, A4, H⟩ := ob H
 by_cases c5 : t101 = 0
 · rw [if_pos c5] at H
   have c5b0 : (t101 == 0) = true := beq_iff_eq.mpr c5
   have c5b1 : (t101 != 0) = false := bne_eq_false_iff_eq.mpr c5
   clear c5
   obtain ⟨y102, hy102⟩ : ∃ y_ : List Int, y_ = (([(-1), 0, 1, 8, 9] : List Int)) := ⟨_, rfl⟩
   replace H : ((spec_l6Rd_pick.f k s0_0 t109 5).bind fun bt103 => (if 0 ≤ bt103.1 then (if bt103.1 < (y102.length : Int) then (some (rd y102 bt103.1, t108, bt103.2)) else (none)) else (none))) = some (r1, r2, r3) := qy H hy102
   have Ny102 := q0 hy102
   clear hy102
   obtain ⟨⟨t103, t110⟩, A6, H⟩ := ob H
   obtain ⟨c7, H⟩ : (0 ≤ t103) ∧ _ := og H
   have c7b0 := decide_eq_true c7
   clear c7
   obtain ⟨c8, H⟩ : (t103 < (y102.length : Int)) ∧ _ := og H
   have c8b0 := decide_eq_true c8
   clear c8
   simp only [Option.some.injEq, Prod.mk.injEq] at H
   obtain ⟨rfl, rfl, rfl⟩ := H
   go_enter Try.func92, Try.ntmps92
   go_wp2_with (first | ((with_reducible refine gd 3 ?_); refine be 3 #[.int .i64 a1_0, .slice A1_1 l1_1.length c1_1] 25 ?_; intro gb111 hg w9 hbox hb; replace HB := q0 (below_step (qj HB.out HI0.out) hb); have BK111 := q0 (hbox); have GW111 := q0 ((by rw [hg]; exact (keep_size (w := w) (g := g) (row := none) (qh HK.out)) : w.heap.size ≤ gb111)); have GE111 := q0 ((Nat.le_trans HW0.out (by rw [hg]; exact (keep_size (w := w) (g := g) (row := none) (qh HK.out)) : w.heap.size ≤ gb111) : w0.heap.size ≤ gb111)); replace HK := q0 (KeepBut.trans (qh HK.out) (KeepBut.of_below hb g none) (.inl rfl)); have NB0_111 := q0 ((by rw [hg]; exact Nat.ne_of_lt (IsSRd.lt (show IsSRd w0 _ g s0_0 s0_1 from qi HI0.out)) : g ≠ gb111)); have NB111_0 := q0 ((by rw [hg]; exact Nat.ne_of_gt (IsSRd.lt (show IsSRd w0 _ g s0_0 s0_1 from qi HI0.out)) : gb111 ≠ g)); replace HI0 := q0 (IsSRd.below (qi HI0.out) hb); clear hb hbox hg) | ((with_reducible refine gd 4 ?_); refine be 4 #[.int .i64 0, .slice none 0 0] 25 ?_; intro gb112 hg w10 hbox hb; replace HB := q0 (below_step (qj HB.out HI0.out) hb); have BK112 := q0 (hbox); have GW112 := q0 ((by rw [hg]; exact (keep_size (w := w) (g := g) (row := none) (qh HK.out)) : w.heap.size ≤ gb112)); have GE112 := q0 ((Nat.le_trans HW0.out (by rw [hg]; exact (keep_size (w := w) (g := g) (row := none) (qh HK.out)) : w.heap.size ≤ gb112) : w0.heap.size ≤ gb112)); replace HK := q0 (KeepBut.trans (qh HK.out) (KeepBut.of_below hb g none) (.inl rfl)); have NB111_112 := nl BK111 hg; have NB112_111 := ng BK111 hg; replace BK111 := kd BK111 hb; have NB0_112 := q0 ((by rw [hg]; exact Nat.ne_of_lt (IsSRd.lt (show IsSRd w0 _ g s0_0 s0_1 from qi HI0.out)) : g ≠ gb112)); have NB112_0 := q0 ((by rw [hg]; exact Nat.ne_of_gt (IsSRd.lt (show IsSRd w0 _ g s0_0 s0_1 from qi HI0.out)) : gb112 ≠ g)); replace HI0 := q0 (IsSRd.below (qi HI0.out) hb); clear hb hbox hg; have hnb11 := NB111_112.out; have hnc11 := NB112_111.out; have hnb12 := NB111_0.out; have hnc12 := NB0_111.out; obtain ⟨hcz13_0, hcz13_1, hfz13_0, hfz13_1⟩ := b2 BK111) | ((with_reducible refine gf 109 ?_); refine gl 7 Try.func109 #[.agg #[.int .i64 a1_0, .slice A1_1 l1_1.length c1_1]] ?_; (with_reducible refine (spec_l1Copy.calls a1_0 _ _ l1_1 t100 t108 _ ?side1 ?side2 A3.out).mono ?_); (case side1 => exact Kd.C_foot_now HR1_1.out (qh HK.out)); (case side2 => exact HC1_1.out); rintro e w14 ⟨v113, rfl, ho0, hb⟩; refine ⟨_, rfl, ?_⟩; have HO114 := q0 (Kd.R_lower ho0 (keep_size (w := w) (g := g) (row := none) (qh HK.out))); replace BK111 := kd BK111 hb; replace BK112 := kd BK112 hb; replace HK := q0 (KeepBut.trans (qh HK.out) (KeepBut.of_below hb g none) (.inl rfl)); replace HB := q0 (below_step (qj HB.out HI0.out) hb); replace HI0 := q0 (IsSRd.below (qi HI0.out) hb); (try clear hb); (try clear hb2); (try clear hk); (try clear hi); (try clear ho0); obtain ⟨hcz15_0, hcz15_1, hfz15_0, hfz15_1⟩ := b2 BK111; obtain ⟨Ao16, co16, eo16⟩ := Kd.R_slice HO114.out; subst eo16) | ((with_reducible refine gf 59 ?_); refine gl 9 Try.func59 #[.pointer (some ⟨g, 0, none⟩), .int .i64 6] ?_; (with_reducible refine (spec_l6Rd_pick.calls k g s0_0 s0_1 6 t101 t109 w0 _ ?side1 ?side2 A4.out).mono ?_); (case side1 => exact qi HI0.out); (case side2 => exact qj HB.out HI0.out); rintro e w17 ⟨rfl, hi, hb, hk⟩; refine ⟨_, rfl, ?_⟩; replace BK112 := q0 (kc hk BK112.out NB112_0.out); replace HO114 := q0 (Kd.R_mono (Kd.R_keep (IsSRd.apart (show IsSRd w0 _ g s0_0 s0_1 from qi HI0.out) (by (with_reducible repeat (first | apply Kd.R_alloc | apply Kd.R_drewN | apply Kd.R_drew)); exact (rf2 HO114.out BK111.out (fun _ h_ => h_.1))) (by decide)) hk (fun _ h => h.2)) (fun _ h => h.1)); replace BK111 := q0 (KeepBut.blk hk (g' := gb111) (o := .cells #[.int .i64 t100, .slice Ao16 t108.length co16] 25 (0, 0)) (by (with_reducible repeat (first | refine blk_drewN ?_ _ | refine blk_drew ?_ | refine blk_alloc ?_ _)); refine blk_put (cs := #[.int .i64 t100, .slice A1_1 l1_1.length c1_1]) ?_ 1 _ rfl; (with_reducible repeat (first | refine blk_drewN ?_ _ | refine blk_drew ?_ | refine blk_alloc ?_ _)); refine blk_put (cs := #[.int .i64 a1_0, .slice A1_1 l1_1.length c1_1]) ?_ 0 _ rfl; (with_reducible repeat (first | refine blk_drewN ?_ _ | refine blk_drew ?_ | refine blk_alloc ?_ _)); exact BK111.out) NB111_0.out (by simp)); replace HK := q0 (KeepBut.trans (qh HK.out) hk (.inl rfl)); replace HB := q0 (hb); replace HI0 := q0 (hi); (try clear hb); (try clear hb2); (try clear hk); (try clear hi)) | ((with_reducible refine gd 18 ?_); refine Kd.R_lit (Kd.int .i64) _ 3 ?hg (N := 18) ?hd (xs := ([(-1), 0, 1, 8, 9] : List Int)) (inner := [.int .i64 (-1), .int .i64 0, .int .i64 1, .int .i64 8, .int .i64 9]) (ok := fun _ => True) (okp := fun _ => True) ?hr ?hp (fun _ hk => hk) trivial (Below.refl _ _) (Nat.le_refl _) (by simp) ?_; (case hd => rfl); (case hg => rfl); (case hr => first | (go_simp; done) | (go_simp; rfl)); (case hp => exact (Reps.one (show Kd.M (Kd.int .i64) _ _ _ (-1) [.int .i64 (-1)] from rfl) (Reps.one (show Kd.M (Kd.int .i64) _ _ _ 0 [.int .i64 0] from rfl) (Reps.one (show Kd.M (Kd.int .i64) _ _ _ 1 [.int .i64 1] from rfl) (Reps.one (show Kd.M (Kd.int .i64) _ _ _ 8 [.int .i64 8] from rfl) (Reps.one (show Kd.M (Kd.int .i64) _ _ _ 9 [.int .i64 9] from rfl) (Reps.none _ _))))))); intro v115 w18 ho19 hb hg_ hnew_; clear hg_ hnew_; (first | rw [← Ny102.out] at ho19 | (simp only [Int.reduceToNat] at ho19; rw [← Ny102.out] at ho19)); replace HO114 := q0 (Kd.R_below (qr HO114.out) hb); have HO116 := q0 (Kd.R_lower ho19 (keep_size (w := w) (g := g) (row := none) (qh HK.out))); replace BK111 := kd BK111 hb; replace BK112 := kd BK112 hb; replace HK := q0 (KeepBut.trans (qh HK.out) (KeepBut.of_below hb g none) (.inl rfl)); replace HB := q0 (below_step (qj HB.out HI0.out) hb); replace HI0 := q0 (IsSRd.below (qi HI0.out) hb); clear hb ho19) | ((with_reducible refine gf 59 ?_); refine gl 20 Try.func59 #[.pointer (some ⟨g, 0, none⟩), .int .i64 5] ?_; (with_reducible refine (spec_l6Rd_pick.calls k g s0_0 t109 5 t103 t110 w0 _ ?side1 ?side2 A6.out).mono ?_); (case side1 => exact qi HI0.out); (case side2 => exact qj HB.out HI0.out); rintro e w20 ⟨rfl, hi, hb, hk⟩; refine ⟨_, rfl, ?_⟩; replace BK111 := q0 (kc hk BK111.out NB111_0.out); replace BK112 := q0 (kc hk BK112.out NB112_0.out); replace HO114 := q0 (Kd.R_mono (Kd.R_keep (IsSRd.apart (show IsSRd w0 _ g s0_0 t109 from qi HI0.out) (qr HO114.out) (by decide)) hk (fun _ h => h.2)) (fun _ h => h.1)); replace HO116 := q0 (Kd.R_mono (Kd.R_keep (IsSRd.apart (show IsSRd w0 _ g s0_0 t109 from qi HI0.out) (qr HO116.out) (by decide)) hk (fun _ h => h.2)) (fun _ h => h.1)); replace HK := q0 (KeepBut.trans (qh HK.out) hk (.inl rfl)); replace HB := q0 (hb); replace HI0 := q0 (hi); (try clear hb); (try clear hb2); (try clear hk); (try clear hi); obtain ⟨Ao21, co21, eo21⟩ := Kd.R_slice HO116.out; subst eo21; have p117 : 0 ≤ (t103 : Int) := of_decide_eq_true qa; have q117 : t103 < (y102.length : Int) := of_decide_eq_true qa; obtain ⟨ad117, e117, hx117_0⟩ := Kd.at_int (Kd.R_reads' HO116.out).2.2 t103 p117 q117; cases e117; replace p117 := eq_true p117; replace q117 := eq_true q117; obtain ⟨hcz22_0, hcz22_1, hfz22_0, hfz22_1⟩ := b2 BK111; have hnb23 := NB112_0.out; have hnc23 := NB0_112.out; obtain ⟨hcz24_0, hcz24_1, hfz24_0, hfz24_1⟩ := b2 BK112))
   refine bodyPost_ret (results_cell_row rfl _ _ gb112 25 #[.int .i64 (rd y102 t103), .slice Ao16 t108.length co16] (0, 0) _ rfl (by (with_reducible repeat (first | refine blk_drewN ?_ _ | refine blk_drew ?_ | refine blk_alloc ?_ _)); refine blk_put (cs := #[.int .i64 (rd y102 t103), .slice none 0 0]) ?_ 1 _ rfl; (with_reducible repeat (first | refine blk_drewN ?_ _ | refine blk_drew ?_ | refine blk_alloc ?_ _)); refine blk_put (cs := #[.int .i64 0, .slice none 0 0]) ?_ 0 _ rfl; (with_reducible repeat (first | refine blk_drewN ?_ _ | refine blk_drew ?_ | refine blk_alloc ?_ _)); refine blk_far ?_ NB112_111.out _; (with_reducible repeat (first | refine blk_drewN ?_ _ | refine blk_drew ?_ | refine blk_alloc ?_ _)); exact BK112.out) Try.underlying25 rfl (by kernel_rfl)) rfl ?_
   exact ⟨_, qe, by (with_reducible repeat (first | apply Kd.R_alloc | apply Kd.R_drewN | apply Kd.R_drew)); exact Kd.R_mono (Kd.R_far (p := ⟨gb112, 1, none⟩) (Kd.R_far (p := ⟨gb112, 0, none⟩) (Kd.R_far (p := ⟨gb111, 0, none⟩) (Kd.R_types (Kd.R_types HO114.out BK111.out (by decide)) BK112.out (by decide)) (fun _ hk => hk.1.2) (.int .i64 (rd y102 t103))) (fun _ hk => hk.2) (.int .i64 (rd y102 t103))) (fun _ hk => hk.2) (.slice Ao16 t108.length co16)) (fun _ hk => trivial), qi HI0.out, qj HB.out HI0.out, by repeat (first | (with_reducible first | exact HK.out | apply KeepBut.set_ | apply keep_drewN | apply keep_drew | apply keep_alloc | refine keep_far ?_ GW111.out _ | refine keep_far ?_ GW112.out _) | exact HK.out)⟩
 rw [if_neg c5] at H
 have c5b0 : (t101 == 0) = false := beq_eq_false_iff_ne.mpr c5
 have c5b1 : (t101 != 0) = true := bne_iff_ne.mpr c5
 by_cases c25 : t101 = 1
 · rw [if_pos c25] at H
   have c25b0 : (t101 == 1) = true := beq_iff_eq.mpr c25
   have c25b1 : (t101 != 1) = false := bne_eq_false_iff_eq.mpr c25
   clear c25
   obtain ⟨⟨t104, t118⟩, A26, H⟩ := ob H
   obtain ⟨⟨t105, t120⟩, A27, H⟩ := ob H
   obtain ⟨c28, H⟩ : (t108.length < 8796093022208) ∧ _ := og H
   have LMc28 := q0 c28
   clear c28
   obtain ⟨y122, hy122⟩ : ∃ y_ : List (STie), y_ = (t108 ++ [(⟨t104, t105⟩ : STie)]) := ⟨_, rfl⟩
   replace H : (some (t100, y122, t120)) = some (r1, r2, r3) := qy H hy122
   have Ny122 := q0 hy122
   clear hy122
   simp only [Option.some.injEq, Prod.mk.injEq] at H
   obtain ⟨rfl, rfl, rfl⟩ := H
   go_enter Try.func92, Try.ntmps92
   try go_wp2_with (first | ((with_reducible refine gd 3 ?_); refine be 3 #[.int .i64 a1_0, .slice A1_1 l1_1.length c1_1] 25 ?_; intro gb111 hg w29 hbox hb; replace HB := q0 (below_step (qj HB.out HI0.out) hb); have BK111 := q0 (hbox); have GW111 := q0 ((by rw [hg]; exact (keep_size (w := w) (g := g) (row := none) (qh HK.out)) : w.heap.size ≤ gb111)); have GE111 := q0 ((Nat.le_trans HW0.out (by rw [hg]; exact (keep_size (w := w) (g := g) (row := none) (qh HK.out)) : w.heap.size ≤ gb111) : w0.heap.size ≤ gb111)); replace HK := q0 (KeepBut.trans (qh HK.out) (KeepBut.of_below hb g none) (.inl rfl)); have NB0_111 := q0 ((by rw [hg]; exact Nat.ne_of_lt (IsSRd.lt (show IsSRd w0 _ g s0_0 s0_1 from qi HI0.out)) : g ≠ gb111)); have NB111_0 := q0 ((by rw [hg]; exact Nat.ne_of_gt (IsSRd.lt (show IsSRd w0 _ g s0_0 s0_1 from qi HI0.out)) : gb111 ≠ g)); replace HI0 := q0 (IsSRd.below (qi HI0.out) hb); clear hb hbox hg) | ((with_reducible refine gd 4 ?_); refine be 4 #[.int .i64 0, .slice none 0 0] 25 ?_; intro gb112 hg w30 hbox hb; replace HB := q0 (below_step (qj HB.out HI0.out) hb); have BK112 := q0 (hbox); have GW112 := q0 ((by rw [hg]; exact (keep_size (w := w) (g := g) (row := none) (qh HK.out)) : w.heap.size ≤ gb112)); have GE112 := q0 ((Nat.le_trans HW0.out (by rw [hg]; exact (keep_size (w := w) (g := g) (row := none) (qh HK.out)) : w.heap.size ≤ gb112) : w0.heap.size ≤ gb112)); replace HK := q0 (KeepBut.trans (qh HK.out) (KeepBut.of_below hb g none) (.inl rfl)); have NB111_112 := nl BK111 hg; have NB112_111 := ng BK111 hg; replace BK111 := kd BK111 hb; have NB0_112 := q0 ((by rw [hg]; exact Nat.ne_of_lt (IsSRd.lt (show IsSRd w0 _ g s0_0 s0_1 from qi HI0.out)) : g ≠ gb112)); have NB112_0 := q0 ((by rw [hg]; exact Nat.ne_of_gt (IsSRd.lt (show IsSRd w0 _ g s0_0 s0_1 from qi HI0.out)) : gb112 ≠ g)); replace HI0 := q0 (IsSRd.below (qi HI0.out) hb); clear hb hbox hg; have hnb31 := NB111_112.out; have hnc31 := NB112_111.out; have hnb32 := NB111_0.out; have hnc32 := NB0_111.out; obtain ⟨hcz33_0, hcz33_1, hfz33_0, hfz33_1⟩ := b2 BK111) | ((with_reducible refine gf 109 ?_); refine gl 7 Try.func109 #[.agg #[.int .i64 a1_0, .slice A1_1 l1_1.length c1_1]] ?_; (with_reducible refine (spec_l1Copy.calls a1_0 _ _ l1_1 t100 t108 _ ?side1 ?side2 A3.out).mono ?_); (case side1 => exact Kd.C_foot_now HR1_1.out (qh HK.out)); (case side2 => exact HC1_1.out); rintro e w34 ⟨v113, rfl, ho0, hb⟩; refine ⟨_, rfl, ?_⟩; have HO114 := q0 (Kd.R_lower ho0 (keep_size (w := w) (g := g) (row := none) (qh HK.out))); replace BK111 := kd BK111 hb; replace BK112 := kd BK112 hb; replace HK := q0 (KeepBut.trans (qh HK.out) (KeepBut.of_below hb g none) (.inl rfl)); replace HB := q0 (below_step (qj HB.out HI0.out) hb); replace HI0 := q0 (IsSRd.below (qi HI0.out) hb); (try clear hb); (try clear hb2); (try clear hk); (try clear hi); (try clear ho0); obtain ⟨hcz35_0, hcz35_1, hfz35_0, hfz35_1⟩ := b2 BK111; obtain ⟨Ao36, co36, eo36⟩ := Kd.R_slice HO114.out; subst eo36) | ((with_reducible refine gf 59 ?_); refine gl 9 Try.func59 #[.pointer (some ⟨g, 0, none⟩), .int .i64 6] ?_; (with_reducible refine (spec_l6Rd_pick.calls k g s0_0 s0_1 6 t101 t109 w0 _ ?side1 ?side2 A4.out).mono ?_); (case side1 => exact qi HI0.out); (case side2 => exact qj HB.out HI0.out); rintro e w37 ⟨rfl, hi, hb, hk⟩; refine ⟨_, rfl, ?_⟩; replace BK112 := q0 (kc hk BK112.out NB112_0.out); replace HO114 := q0 (Kd.R_mono (Kd.R_keep (IsSRd.apart (show IsSRd w0 _ g s0_0 s0_1 from qi HI0.out) (by (with_reducible repeat (first | apply Kd.R_alloc | apply Kd.R_drewN | apply Kd.R_drew)); exact (rf2 HO114.out BK111.out (fun _ h_ => h_.1))) (by decide)) hk (fun _ h => h.2)) (fun _ h => h.1)); replace BK111 := q0 (KeepBut.blk hk (g' := gb111) (o := .cells #[.int .i64 t100, .slice Ao36 t108.length co36] 25 (0, 0)) (by (with_reducible repeat (first | refine blk_drewN ?_ _ | refine blk_drew ?_ | refine blk_alloc ?_ _)); refine blk_put (cs := #[.int .i64 t100, .slice A1_1 l1_1.length c1_1]) ?_ 1 _ rfl; (with_reducible repeat (first | refine blk_drewN ?_ _ | refine blk_drew ?_ | refine blk_alloc ?_ _)); refine blk_put (cs := #[.int .i64 a1_0, .slice A1_1 l1_1.length c1_1]) ?_ 0 _ rfl; (with_reducible repeat (first | refine blk_drewN ?_ _ | refine blk_drew ?_ | refine blk_alloc ?_ _)); exact BK111.out) NB111_0.out (by simp)); replace HK := q0 (KeepBut.trans (qh HK.out) hk (.inl rfl)); replace HB := q0 (hb); replace HI0 := q0 (hi); (try clear hb); (try clear hb2); (try clear hk); (try clear hi)))
   replace HO114 := q0 (Kd.R_drew HO114.out)
   replace BK111 := q0 (blk_drew BK111.out)
   replace BK112 := q0 (blk_drew BK112.out)
   replace HI0 := q0 (IsSRd.drew HI0.out)
   replace HK := q0 (keep_drew HK.out)
   replace HB := q0 (below_drew1 HB.out)
   refine start_ (n := 11) (S := fun w' => w'.cell? ⟨gb111, 0, none⟩ = some (.int .i64 t100) ∧ w'.cell? ⟨gb111, 1, none⟩ = some (.slice Ao36 t108.length co36)) (ds := [10]) (ba 11 0) (by kernel_rfl) rfl (by kernel_rfl) ⟨bca BK111, bcb BK111⟩ (fun hHeld => ?_); refine with_tabW spec_l71Spoil.tab7 spec_l71Spoil.bits7 (fun HT_ HW_ => ?_)
   generalize w37.drew = w38 at HO114 BK111 BK112 HI0 HK HB hHeld ⊢
   refine pU 0 26 11 1 HT_ ?_
   refine pU 2 28 11 5 HT_ ?_
   refine pU 4 30 11 21 HT_ ?_
   refine tU 1 27 11 23 HT_ HW_ hHeld ?_
   refine one_ (i := 3) (N := some 29) (ba 11 31) rfl rfl (one_of HT_.out (by kernel_rfl)) (by decide) (fun K hK => ?_)
   refine goes_ Try.func59 (by kernel_rfl) rfl #[.pointer (some ⟨g, 0, none⟩), .int .i64 3] (by rfl) rfl rfl qm ?_
   with_reducible refine (spec_l6Rd_pick.calls k g s0_0 t109 3 t104 t118 w0 _ ?side1 ?side2 A26.out).mono ?_
   (case side1 => exact qi HI0.out)
   (case side2 => exact qj HB.out HI0.out)
   rintro e w39 ⟨rfl, hi, hb, hk⟩
   refine ⟨_, rfl, ?_⟩
   replace BK111 := q0 (kc hk BK111.out NB111_0.out)
   replace BK112 := q0 (kc hk BK112.out NB112_0.out)
   replace HO114 := q0 (Kd.R_mono (Kd.R_keep (IsSRd.apart (show IsSRd w0 _ g s0_0 t109 from qi HI0.out) (qr HO114.out) (by decide)) hk (fun _ h => h.2)) (fun _ h => h.1))
   replace HK := q0 (KeepBut.trans (qh HK.out) hk (.inl rfl))
   replace HB := q0 (hb)
   replace HI0 := q0 (hi)
   (try clear hb)
   (try clear hb2)
   (try clear hk)
   (try clear hi)
   refine hK.out _ _ ⟨bca BK111, bcb BK111⟩ (fun hHeld => ?_)
   clear hK K
   refine nu 29 ?_
   refine one_ (i := 5) (N := some 31) (ba 11 63) rfl rfl (one_of HT_.out (by kernel_rfl)) (by decide) (fun K hK => ?_)
   refine goes_ Try.func59 (by kernel_rfl) rfl #[.pointer (some ⟨g, 0, none⟩), .int .i64 3] (by rfl) rfl rfl qm ?_
   with_reducible refine (spec_l6Rd_pick.calls k g s0_0 t118 3 t105 t120 w0 _ ?side1 ?side2 A27.out).mono ?_
   (case side1 => exact qi HI0.out)
   (case side2 => exact qj HB.out HI0.out)
   rintro e w40 ⟨rfl, hi, hb, hk⟩
   refine ⟨_, rfl, ?_⟩
   replace BK111 := q0 (kc hk BK111.out NB111_0.out)
   replace BK112 := q0 (kc hk BK112.out NB112_0.out)
   replace HO114 := q0 (Kd.R_mono (Kd.R_keep (IsSRd.apart (show IsSRd w0 _ g s0_0 t118 from qi HI0.out) (qr HO114.out) (by decide)) hk (fun _ h => h.2)) (fun _ h => h.1))
   replace HK := q0 (KeepBut.trans (qh HK.out) hk (.inl rfl))
   replace HB := q0 (hb)
   replace HI0 := q0 (hi)
   (try clear hb)
   (try clear hb2)
   (try clear hk)
   (try clear hi)
   refine hK.out _ _ ⟨bca BK111, bcb BK111⟩ (fun hHeld => ?_)
   clear hK K
   refine nu 31 ?_
   refine pU 6 32 11 127 HT_ ?_
   refine one_ (i := 7) (N := some 33) (ba 11 255) rfl rfl (one_of HT_.out (by kernel_rfl)) (by decide) (fun K hK => ?_)
   refine value_ (w1 := ?_) (v := ?_) (by rfl) rfl ?_ ?_
   rotate_left 2
   · go_simp
     constructor
     · rfl
     · rfl
   refine hK.out _ _ ⟨(blk_cell (blk_alloc BK111.out _) 0).trans rfl, (blk_cell (blk_alloc BK111.out _) 1).trans rfl⟩ (fun hHeld => ?_)
   clear hK K
   refine nu 33 ?_
   refine one_ (i := 8) (N := some 34) (ba 11 511) rfl rfl (one_of HT_.out (by kernel_rfl)) (by decide) (fun K hK => ?_)
   refine Kd.R_append_step kTie w.heap.size (by rfl) (.tmp 27) (.tmp 33) 23 32 (.agg #[(.int .i64 0), (.int .i64 0)]) 16 rfl Try.underlying23 info32 rfl (by decide) (by omega) (.slice Ao36 t108.length co36) t108 (⟨t104, t105⟩ : STie) [.int .i64 t104, .int .i64 t105] (fun _ => True) (fun _ => False) rfl rfl ?aP (fun _ hk => hk.elim) ?aF ?aO (Below.refl _ _) ?aS ?aL ?_
   (case aP => exact kTie_mkM _ _ _ (⟨t104, t105⟩ : STie))
   (case aF => exact (fun _ _ => trivial))
   (case aO => exact (qr HO114.out))
   (case aS => exact (keep_size (w := w) (g := g) (row := none) (qh HK.out)))
   (case aL => have := LMc28.out; omega)
   intro v123 w41 ho hb hg hat
   rw [← Ny122.out] at ho
   replace BK111 := q0 (blk_grown (g := gb111) (o := .cells #[.int .i64 t100, .slice Ao36 t108.length co36] 25 (0, 0)) (qk BK111.out) hg (Kd.R_ne HO114.out BK111.out (by decide)))
   replace BK112 := q0 (blk_grown (g := gb112) (o := .cells #[.int .i64 0, .slice none 0 0] 25 (0, 0)) (qk BK112.out) hg (Kd.R_ne HO114.out BK112.out (by decide)))
   replace HB := q0 (below_weaken (qj HB.out HI0.out) HL.out hb)
   replace HI0 := q0 (IsSRd.grown (qi HI0.out) hg (IsSRd.own_ne HI0.out HO114.out (by decide)))
   replace HK := q0 (KeepBut.trans (qh HK.out) (KeepBut.of_grown hg g) (Kd.R_base2 HO114.out))
   have HO124 := q0 (ho)
   clear HO114
   clear ho hb hg hat
   obtain ⟨Ao42, co42, eo42⟩ := Kd.R_slice HO124.out
   (first | subst eo42 | (injection eo42 with f1_ f2_ f3_; have f4_ := f1_.symm; have f5_ := f3_.symm; clear f1_ f2_ f3_; subst f4_; subst f5_))
   refine hK.out _ _ ⟨bca BK111, bcb BK111⟩ (fun hHeld => ?_)
   clear hK K
   refine nu 34 ?_
   refine pU 9 35 11 1023 HT_ ?_
   refine last_ (i := 10) (N := none) (ba 11 2047) rfl rfl (one_of HT_.out (by kernel_rfl)) (by decide) (fun K hK => ?_)
   have hs43 : w41.cell? ⟨gb111, 1, none⟩ = some (.slice Ao36 t108.length co36) := (blk_cell BK111.out 1).trans rfl
   have hfs43 := blk_frozen BK111.out 1
   have hns43_1 := NB112_111.out
   have hms43_1 := NB111_112.out
   refine skip_ (w1 := ?_) (by rfl) rfl ?_ ?_
   rotate_left
   · go_simp
     rfl
   refine hK.out _ _ ?_
   clear hK K
   refine done_ (done_of HT_.out (by kernel_rfl)) ?_
   obtain ⟨hcz44_0, hcz44_1, hfz44_0, hfz44_1⟩ := b2 BK111
   have hnb45 := NB112_0.out
   have hnc45 := NB0_112.out
   obtain ⟨hcz46_0, hcz46_1, hfz46_0, hfz46_1⟩ := b2 BK112
   try go_wp2
   refine bodyPost_ret (results_cell_row rfl _ _ gb112 25 #[.int .i64 t100, .slice Ao42 y122.length co42] (0, 0) _ rfl (by (with_reducible repeat (first | refine blk_drewN ?_ _ | refine blk_drew ?_ | refine blk_alloc ?_ _)); refine blk_put (cs := #[.int .i64 t100, .slice none 0 0]) ?_ 1 _ rfl; (with_reducible repeat (first | refine blk_drewN ?_ _ | refine blk_drew ?_ | refine blk_alloc ?_ _)); refine blk_put (cs := #[.int .i64 0, .slice none 0 0]) ?_ 0 _ rfl; (with_reducible repeat (first | refine blk_drewN ?_ _ | refine blk_drew ?_ | refine blk_alloc ?_ _)); refine blk_far ?_ NB112_111.out _; (with_reducible repeat (first | refine blk_drewN ?_ _ | refine blk_drew ?_ | refine blk_alloc ?_ _)); exact BK112.out) Try.underlying25 rfl (by kernel_rfl)) rfl ?_
   exact ⟨_, qe, by (with_reducible repeat (first | apply Kd.R_alloc | apply Kd.R_drewN | apply Kd.R_drew)); exact Kd.R_mono (Kd.R_far (p := ⟨gb112, 1, none⟩) (Kd.R_far (p := ⟨gb112, 0, none⟩) (Kd.R_far (p := ⟨gb111, 1, none⟩) (Kd.R_types (Kd.R_types HO124.out BK111.out (by decide)) BK112.out (by decide)) (fun _ hk => hk.1.2) (.slice Ao42 y122.length co42)) (fun _ hk => hk.2) (.int .i64 t100)) (fun _ hk => hk.2) (.slice Ao42 y122.length co42)) (fun _ hk => trivial), qi HI0.out, qj HB.out HI0.out, by repeat (first | (with_reducible first | exact HK.out | apply KeepBut.set_ | apply keep_drewN | apply keep_drew | apply keep_alloc | refine keep_far ?_ GW111.out _ | refine keep_far ?_ GW112.out _) | exact HK.out)⟩
 rw [if_neg c25] at H
 have c25b0 : (t101 == 1) = false := beq_eq_false_iff_ne.mpr c25
 have c25b1 : (t101 != 1) = true := bne_iff_ne.mpr c25
 by_cases c47 : t101 = 2
 · rw [if_pos c47] at H
   have c47b0 : (t101 == 2) = true := beq_iff_eq.mpr c47
   have c47b1 : (t101 != 2) = false := bne_eq_false_iff_eq.mpr c47
   clear c47
   obtain ⟨c48, H⟩ : (t108.length < 8796093022208) ∧ _ := og H
   have LMc48 := q0 c48
   clear c48
   obtain ⟨y125, hy125⟩ : ∃ y_ : List (STie), y_ = (t108 ++ [(⟨wrap64 (t100 - 1), t100⟩ : STie)]) := ⟨_, rfl⟩
   replace H : (some (t100, y125, t109)) = some (r1, r2, r3) := qy H hy125
   have Ny125 := q0 hy125
   clear hy125
   simp only [Option.some.injEq, Prod.mk.injEq] at H
   obtain ⟨rfl, rfl, rfl⟩ := H
   go_enter Try.func92, Try.ntmps92
   go_wp2_with (first | ((with_reducible refine gd 3 ?_); refine be 3 #[.int .i64 a1_0, .slice A1_1 l1_1.length c1_1] 25 ?_; intro gb111 hg w49 hbox hb; replace HB := q0 (below_step (qj HB.out HI0.out) hb); have BK111 := q0 (hbox); have GW111 := q0 ((by rw [hg]; exact (keep_size (w := w) (g := g) (row := none) (qh HK.out)) : w.heap.size ≤ gb111)); have GE111 := q0 ((Nat.le_trans HW0.out (by rw [hg]; exact (keep_size (w := w) (g := g) (row := none) (qh HK.out)) : w.heap.size ≤ gb111) : w0.heap.size ≤ gb111)); replace HK := q0 (KeepBut.trans (qh HK.out) (KeepBut.of_below hb g none) (.inl rfl)); have NB0_111 := q0 ((by rw [hg]; exact Nat.ne_of_lt (IsSRd.lt (show IsSRd w0 _ g s0_0 s0_1 from qi HI0.out)) : g ≠ gb111)); have NB111_0 := q0 ((by rw [hg]; exact Nat.ne_of_gt (IsSRd.lt (show IsSRd w0 _ g s0_0 s0_1 from qi HI0.out)) : gb111 ≠ g)); replace HI0 := q0 (IsSRd.below (qi HI0.out) hb); clear hb hbox hg) | ((with_reducible refine gd 4 ?_); refine be 4 #[.int .i64 0, .slice none 0 0] 25 ?_; intro gb112 hg w50 hbox hb; replace HB := q0 (below_step (qj HB.out HI0.out) hb); have BK112 := q0 (hbox); have GW112 := q0 ((by rw [hg]; exact (keep_size (w := w) (g := g) (row := none) (qh HK.out)) : w.heap.size ≤ gb112)); have GE112 := q0 ((Nat.le_trans HW0.out (by rw [hg]; exact (keep_size (w := w) (g := g) (row := none) (qh HK.out)) : w.heap.size ≤ gb112) : w0.heap.size ≤ gb112)); replace HK := q0 (KeepBut.trans (qh HK.out) (KeepBut.of_below hb g none) (.inl rfl)); have NB111_112 := nl BK111 hg; have NB112_111 := ng BK111 hg; replace BK111 := kd BK111 hb; have NB0_112 := q0 ((by rw [hg]; exact Nat.ne_of_lt (IsSRd.lt (show IsSRd w0 _ g s0_0 s0_1 from qi HI0.out)) : g ≠ gb112)); have NB112_0 := q0 ((by rw [hg]; exact Nat.ne_of_gt (IsSRd.lt (show IsSRd w0 _ g s0_0 s0_1 from qi HI0.out)) : gb112 ≠ g)); replace HI0 := q0 (IsSRd.below (qi HI0.out) hb); clear hb hbox hg; have hnb51 := NB111_112.out; have hnc51 := NB112_111.out; have hnb52 := NB111_0.out; have hnc52 := NB0_111.out; obtain ⟨hcz53_0, hcz53_1, hfz53_0, hfz53_1⟩ := b2 BK111) | ((with_reducible refine gf 109 ?_); refine gl 7 Try.func109 #[.agg #[.int .i64 a1_0, .slice A1_1 l1_1.length c1_1]] ?_; (with_reducible refine (spec_l1Copy.calls a1_0 _ _ l1_1 t100 t108 _ ?side1 ?side2 A3.out).mono ?_); (case side1 => exact Kd.C_foot_now HR1_1.out (qh HK.out)); (case side2 => exact HC1_1.out); rintro e w54 ⟨v113, rfl, ho0, hb⟩; refine ⟨_, rfl, ?_⟩; have HO114 := q0 (Kd.R_lower ho0 (keep_size (w := w) (g := g) (row := none) (qh HK.out))); replace BK111 := kd BK111 hb; replace BK112 := kd BK112 hb; replace HK := q0 (KeepBut.trans (qh HK.out) (KeepBut.of_below hb g none) (.inl rfl)); replace HB := q0 (below_step (qj HB.out HI0.out) hb); replace HI0 := q0 (IsSRd.below (qi HI0.out) hb); (try clear hb); (try clear hb2); (try clear hk); (try clear hi); (try clear ho0); obtain ⟨hcz55_0, hcz55_1, hfz55_0, hfz55_1⟩ := b2 BK111; obtain ⟨Ao56, co56, eo56⟩ := Kd.R_slice HO114.out; subst eo56) | ((with_reducible refine gf 59 ?_); refine gl 9 Try.func59 #[.pointer (some ⟨g, 0, none⟩), .int .i64 6] ?_; (with_reducible refine (spec_l6Rd_pick.calls k g s0_0 s0_1 6 t101 t109 w0 _ ?side1 ?side2 A4.out).mono ?_); (case side1 => exact qi HI0.out); (case side2 => exact qj HB.out HI0.out); rintro e w57 ⟨rfl, hi, hb, hk⟩; refine ⟨_, rfl, ?_⟩; replace BK112 := q0 (kc hk BK112.out NB112_0.out); replace HO114 := q0 (Kd.R_mono (Kd.R_keep (IsSRd.apart (show IsSRd w0 _ g s0_0 s0_1 from qi HI0.out) (by (with_reducible repeat (first | apply Kd.R_alloc | apply Kd.R_drewN | apply Kd.R_drew)); exact (rf2 HO114.out BK111.out (fun _ h_ => h_.1))) (by decide)) hk (fun _ h => h.2)) (fun _ h => h.1)); replace BK111 := q0 (KeepBut.blk hk (g' := gb111) (o := .cells #[.int .i64 t100, .slice Ao56 t108.length co56] 25 (0, 0)) (by (with_reducible repeat (first | refine blk_drewN ?_ _ | refine blk_drew ?_ | refine blk_alloc ?_ _)); refine blk_put (cs := #[.int .i64 t100, .slice A1_1 l1_1.length c1_1]) ?_ 1 _ rfl; (with_reducible repeat (first | refine blk_drewN ?_ _ | refine blk_drew ?_ | refine blk_alloc ?_ _)); refine blk_put (cs := #[.int .i64 a1_0, .slice A1_1 l1_1.length c1_1]) ?_ 0 _ rfl; (with_reducible repeat (first | refine blk_drewN ?_ _ | refine blk_drew ?_ | refine blk_alloc ?_ _)); exact BK111.out) NB111_0.out (by simp)); replace HK := q0 (KeepBut.trans (qh HK.out) hk (.inl rfl)); replace HB := q0 (hb); replace HI0 := q0 (hi); (try clear hb); (try clear hb2); (try clear hk); (try clear hi); obtain ⟨hcz58_0, hcz58_1, hfz58_0, hfz58_1⟩ := b2 BK111) | ((with_reducible refine gate_builtin (b := .append) (xs := #[.tmp 39, .tmp 46]) rfl ?_); at_builtin; refine Kd.R_append kTie w.heap.size rfl (.tmp 39) (.tmp 46) 23 32 (.agg #[(.int .i64 0), (.int .i64 0)]) 16 rfl Try.underlying23 info32 rfl (by decide) (by omega) (.slice Ao56 t108.length co56) t108 (⟨wrap64 (t100 - 1), t100⟩ : STie) [.int .i64 (wrap64 (t100 - 1)), .int .i64 t100] (fun _ => True) (fun _ => False) rfl rfl ?aP (fun _ hk => hk.elim) ?aF ?aO (Below.refl _ _) ?aS ?aL ?_; (case aP => exact kTie_mkM _ _ _ (⟨wrap64 (t100 - 1), t100⟩ : STie)); (case aF => exact (fun _ _ => trivial)); (case aO => exact (qr HO114.out)); (case aS => exact (keep_size (w := w) (g := g) (row := none) (qh HK.out))); (case aL => have := LMc48.out; omega); intro v126 w59 ho hb hg hat; rw [← Ny125.out] at ho; replace BK111 := q0 (blk_grown (g := gb111) (o := .cells #[.int .i64 t100, .slice Ao56 t108.length co56] 25 (0, 0)) (qk BK111.out) hg (Kd.R_ne HO114.out BK111.out (by decide))); replace BK112 := q0 (blk_grown (g := gb112) (o := .cells #[.int .i64 0, .slice none 0 0] 25 (0, 0)) (qk BK112.out) hg (Kd.R_ne HO114.out BK112.out (by decide))); replace HB := q0 (below_weaken (qj HB.out HI0.out) HL.out hb); replace HI0 := q0 (IsSRd.grown (qi HI0.out) hg (IsSRd.own_ne HI0.out HO114.out (by decide))); replace HK := q0 (KeepBut.trans (qh HK.out) (KeepBut.of_grown hg g) (Kd.R_base2 HO114.out)); have HO127 := q0 (ho); clear HO114; clear ho hb hg hat; obtain ⟨Ao60, co60, eo60⟩ := Kd.R_slice HO127.out; subst eo60; obtain ⟨hcz61_0, hcz61_1, hfz61_0, hfz61_1⟩ := b2 BK111; have hnb62 := NB112_0.out; have hnc62 := NB0_112.out; obtain ⟨hcz63_0, hcz63_1, hfz63_0, hfz63_1⟩ := b2 BK112))
   refine bodyPost_ret (results_cell_row rfl _ _ gb112 25 #[.int .i64 t100, .slice Ao60 y125.length co60] (0, 0) _ rfl (by (with_reducible repeat (first | refine blk_drewN ?_ _ | refine blk_drew ?_ | refine blk_alloc ?_ _)); refine blk_put (cs := #[.int .i64 t100, .slice none 0 0]) ?_ 1 _ rfl; (with_reducible repeat (first | refine blk_drewN ?_ _ | refine blk_drew ?_ | refine blk_alloc ?_ _)); refine blk_put (cs := #[.int .i64 0, .slice none 0 0]) ?_ 0 _ rfl; (with_reducible repeat (first | refine blk_drewN ?_ _ | refine blk_drew ?_ | refine blk_alloc ?_ _)); refine blk_far ?_ NB112_111.out _; (with_reducible repeat (first | refine blk_drewN ?_ _ | refine blk_drew ?_ | refine blk_alloc ?_ _)); exact BK112.out) Try.underlying25 rfl (by kernel_rfl)) rfl ?_
   exact ⟨_, qe, by (with_reducible repeat (first | apply Kd.R_alloc | apply Kd.R_drewN | apply Kd.R_drew)); exact Kd.R_mono (Kd.R_far (p := ⟨gb112, 1, none⟩) (Kd.R_far (p := ⟨gb112, 0, none⟩) (Kd.R_far (p := ⟨gb111, 1, none⟩) (Kd.R_types (Kd.R_types HO127.out BK111.out (by decide)) BK112.out (by decide)) (fun _ hk => hk.1.2) (.slice Ao60 y125.length co60)) (fun _ hk => hk.2) (.int .i64 t100)) (fun _ hk => hk.2) (.slice Ao60 y125.length co60)) (fun _ hk => trivial), qi HI0.out, qj HB.out HI0.out, by repeat (first | (with_reducible first | exact HK.out | apply KeepBut.set_ | apply keep_drewN | apply keep_drew | apply keep_alloc | refine keep_far ?_ GW111.out _ | refine keep_far ?_ GW112.out _) | exact HK.out)⟩
 rw [if_neg c47] at H
 have c47b0 : (t101 == 2) = false := beq_eq_false_iff_ne.mpr c47
 have c47b1 : (t101 != 2) = true := bne_iff_ne.mpr c47
 by_cases c64 : t101 = 3
 rotate_left
 · rw [if_neg c64] at H
   have c64b0 : (t101 == 3) = false := beq_eq_false_iff_ne.mpr c64
   have c64b1 : (t101 != 3) = true := bne_iff_ne.mpr c64
   by_cases c99 : t101 = 4
   rotate_left
   · rw [if_neg c99] at H
     have c99b0 : (t101 == 4) = false := beq_eq_false_iff_ne.mpr c99
     have c99b1 : (t101 != 4) = true := bne_iff_ne.mpr c99
     obtain ⟨y107, hy107⟩ : ∃ y_ : List (STie), y_ = (([(⟨(-1), 0⟩ : STie)] : List (STie))) := ⟨_, rfl⟩
     replace H : (if y107.length + t108.length < 8796093022208 then (some (t100, (y107 ++ t108), t109)) else (none)) = some (r1, r2, r3) := qy H hy107
     have Ny107 := q0 hy107
     clear hy107
     obtain ⟨c169, H⟩ : (y107.length + t108.length < 8796093022208) ∧ _ := og H
     have LMc169 := q0 c169
     clear c169
     obtain ⟨y170, hy170⟩ : ∃ y_ : List (STie), y_ = (y107 ++ t108) := ⟨_, rfl⟩
     replace H : (some (t100, y170, t109)) = some (r1, r2, r3) := qy H hy170
     have Ny170 := q0 hy170
     clear hy170
     simp only [Option.some.injEq, Prod.mk.injEq] at H
     obtain ⟨rfl, rfl, rfl⟩ := H
     go_enter Try.func92, Try.ntmps92
     go_wp2_with (first | ((with_reducible refine gd 3 ?_); refine be 3 #[.int .i64 a1_0, .slice A1_1 l1_1.length c1_1] 25 ?_; intro gb111 hg w171 hbox hb; replace HB := q0 (below_step (qj HB.out HI0.out) hb); have BK111 := q0 (hbox); have GW111 := q0 ((by rw [hg]; exact (keep_size (w := w) (g := g) (row := none) (qh HK.out)) : w.heap.size ≤ gb111)); have GE111 := q0 ((Nat.le_trans HW0.out (by rw [hg]; exact (keep_size (w := w) (g := g) (row := none) (qh HK.out)) : w.heap.size ≤ gb111) : w0.heap.size ≤ gb111)); replace HK := q0 (KeepBut.trans (qh HK.out) (KeepBut.of_below hb g none) (.inl rfl)); have NB0_111 := q0 ((by rw [hg]; exact Nat.ne_of_lt (IsSRd.lt (show IsSRd w0 _ g s0_0 s0_1 from qi HI0.out)) : g ≠ gb111)); have NB111_0 := q0 ((by rw [hg]; exact Nat.ne_of_gt (IsSRd.lt (show IsSRd w0 _ g s0_0 s0_1 from qi HI0.out)) : gb111 ≠ g)); replace HI0 := q0 (IsSRd.below (qi HI0.out) hb); clear hb hbox hg) | ((with_reducible refine gd 4 ?_); refine be 4 #[.int .i64 0, .slice none 0 0] 25 ?_; intro gb112 hg w172 hbox hb; replace HB := q0 (below_step (qj HB.out HI0.out) hb); have BK112 := q0 (hbox); have GW112 := q0 ((by rw [hg]; exact (keep_size (w := w) (g := g) (row := none) (qh HK.out)) : w.heap.size ≤ gb112)); have GE112 := q0 ((Nat.le_trans HW0.out (by rw [hg]; exact (keep_size (w := w) (g := g) (row := none) (qh HK.out)) : w.heap.size ≤ gb112) : w0.heap.size ≤ gb112)); replace HK := q0 (KeepBut.trans (qh HK.out) (KeepBut.of_below hb g none) (.inl rfl)); have NB111_112 := nl BK111 hg; have NB112_111 := ng BK111 hg; replace BK111 := kd BK111 hb; have NB0_112 := q0 ((by rw [hg]; exact Nat.ne_of_lt (IsSRd.lt (show IsSRd w0 _ g s0_0 s0_1 from qi HI0.out)) : g ≠ gb112)); have NB112_0 := q0 ((by rw [hg]; exact Nat.ne_of_gt (IsSRd.lt (show IsSRd w0 _ g s0_0 s0_1 from qi HI0.out)) : gb112 ≠ g)); replace HI0 := q0 (IsSRd.below (qi HI0.out) hb); clear hb hbox hg; have hnb173 := NB111_112.out; have hnc173 := NB112_111.out; have hnb174 := NB111_0.out; have hnc174 := NB0_111.out; obtain ⟨hcz175_0, hcz175_1, hfz175_0, hfz175_1⟩ := b2 BK111) | ((with_reducible refine gf 109 ?_); refine gl 7 Try.func109 #[.agg #[.int .i64 a1_0, .slice A1_1 l1_1.length c1_1]] ?_; (with_reducible refine (spec_l1Copy.calls a1_0 _ _ l1_1 t100 t108 _ ?side1 ?side2 A3.out).mono ?_); (case side1 => exact Kd.C_foot_now HR1_1.out (qh HK.out)); (case side2 => exact HC1_1.out); rintro e w176 ⟨v113, rfl, ho0, hb⟩; refine ⟨_, rfl, ?_⟩; have HO114 := q0 (Kd.R_lower ho0 (keep_size (w := w) (g := g) (row := none) (qh HK.out))); replace BK111 := kd BK111 hb; replace BK112 := kd BK112 hb; replace HK := q0 (KeepBut.trans (qh HK.out) (KeepBut.of_below hb g none) (.inl rfl)); replace HB := q0 (below_step (qj HB.out HI0.out) hb); replace HI0 := q0 (IsSRd.below (qi HI0.out) hb); (try clear hb); (try clear hb2); (try clear hk); (try clear hi); (try clear ho0); obtain ⟨hcz177_0, hcz177_1, hfz177_0, hfz177_1⟩ := b2 BK111; obtain ⟨Ao178, co178, eo178⟩ := Kd.R_slice HO114.out; subst eo178) | ((with_reducible refine gf 59 ?_); refine gl 9 Try.func59 #[.pointer (some ⟨g, 0, none⟩), .int .i64 6] ?_; (with_reducible refine (spec_l6Rd_pick.calls k g s0_0 s0_1 6 t101 t109 w0 _ ?side1 ?side2 A4.out).mono ?_); (case side1 => exact qi HI0.out); (case side2 => exact qj HB.out HI0.out); rintro e w179 ⟨rfl, hi, hb, hk⟩; refine ⟨_, rfl, ?_⟩; replace BK112 := q0 (kc hk BK112.out NB112_0.out); replace HO114 := q0 (Kd.R_mono (Kd.R_keep (IsSRd.apart (show IsSRd w0 _ g s0_0 s0_1 from qi HI0.out) (by (with_reducible repeat (first | apply Kd.R_alloc | apply Kd.R_drewN | apply Kd.R_drew)); exact (rf2 HO114.out BK111.out (fun _ h_ => h_.1))) (by decide)) hk (fun _ h => h.2)) (fun _ h => h.1)); replace BK111 := q0 (KeepBut.blk hk (g' := gb111) (o := .cells #[.int .i64 t100, .slice Ao178 t108.length co178] 25 (0, 0)) (by (with_reducible repeat (first | refine blk_drewN ?_ _ | refine blk_drew ?_ | refine blk_alloc ?_ _)); refine blk_put (cs := #[.int .i64 t100, .slice A1_1 l1_1.length c1_1]) ?_ 1 _ rfl; (with_reducible repeat (first | refine blk_drewN ?_ _ | refine blk_drew ?_ | refine blk_alloc ?_ _)); refine blk_put (cs := #[.int .i64 a1_0, .slice A1_1 l1_1.length c1_1]) ?_ 0 _ rfl; (with_reducible repeat (first | refine blk_drewN ?_ _ | refine blk_drew ?_ | refine blk_alloc ?_ _)); exact BK111.out) NB111_0.out (by simp)); replace HK := q0 (KeepBut.trans (qh HK.out) hk (.inl rfl)); replace HB := q0 (hb); replace HI0 := q0 (hi); (try clear hb); (try clear hb2); (try clear hk); (try clear hi)) | ((with_reducible refine gd 11 ?_); refine Kd.R_lit kTie _ 32 ?hg (N := 11) ?hd (xs := ([(⟨(-1), 0⟩ : STie)] : List (STie))) (inner := [.int .i64 (-1), .int .i64 0]) (ok := fun _ => True) (okp := fun _ => True) ?hr ?hp (fun _ hk => hk) trivial (Below.refl _ _) (Nat.le_refl _) (by simp) ?_; (case hd => rfl); (case hg => rfl); (case hr => first | (go_simp; done) | (go_simp; rfl)); (case hp => exact (Reps.c2 (show Kd.M kTie _ _ _ (⟨(-1), 0⟩ : STie) [.int .i64 (-1), .int .i64 0] from (kTie_mkM _ _ _ (⟨(-1), 0⟩ : STie) )) (Reps.none _ _))); intro v180 w181 ho182 hb hg_ hnew_; clear hg_ hnew_; (first | rw [← Ny107.out] at ho182 | (simp only [Int.reduceToNat] at ho182; rw [← Ny107.out] at ho182)); have HO183 := q0 (Kd.R_lower (Kd.R_new' ho182 (Kd.R_lt (qr HO114.out))) (keep_size (w := w) (g := g) (row := none) (qh HK.out))); replace HO114 := q0 (Kd.R_elder' (qr HO114.out) (Kd.R_base ho182) hb); replace BK111 := kd BK111 hb; replace BK112 := kd BK112 hb; replace HK := q0 (KeepBut.trans (qh HK.out) (KeepBut.of_below hb g none) (.inl rfl)); replace HB := q0 (below_step (qj HB.out HI0.out) hb); replace HI0 := q0 (IsSRd.below (qi HI0.out) hb); clear hb ho182; obtain ⟨hcz184_0, hcz184_1, hfz184_0, hfz184_1⟩ := b2 BK111) | ((with_reducible refine gate_builtin (b := .append) (xs := #[.tmp 11, .tmp 13]) rfl ?_); at_builtin; refine Kd.R_append_rows kTie w.heap.size rfl (.tmp 11) (.tmp 13) 23 32 (.agg #[(.int .i64 0), (.int .i64 0)]) 16 rfl Try.underlying23 info32 rfl (by decide) (by omega) v180 y107 t108 _ _ _ (fun k_ => some k_ ≠ (.slice Ao178 t108.length co178 : Value).ownBlock) (fun _ => False) rfl rfl ?aO ?aR (fun _ _ h => h) (fun _ h => h.elim) ?aF (Below.refl _ _) ?aS ?aL ?_; (case aR => repeat (first | exact (Kd.R_reads' HO114.out).2.2 | (with_reducible refine Kd.C_alloc ?_ _) | (with_reducible refine Kd.C_drewN ?_ _) | (with_reducible refine Kd.C_drew ?_))); (case aF => exact (fun k_ hk => Kd.fresh' (Kd.R_lt (qr HO114.out)) k_ hk)); (case aO => exact (by (with_reducible repeat (first | apply Kd.R_alloc | apply Kd.R_drewN | apply Kd.R_drew)); exact Kd.R_mono HO183.out (fun _ hk => hk.2))); (case aS => exact (keep_size (w := w) (g := g) (row := none) (qh HK.out))); (case aL => have := LMc169.out; omega); intro v185 w186 ho hb hg hat; rw [← Ny170.out] at ho; replace BK111 := q0 (blk_grown (g := gb111) (o := .cells #[.int .i64 t100, .slice Ao178 t108.length co178] 25 (0, 0)) (qk BK111.out) hg (Kd.R_ne HO183.out BK111.out (by decide))); replace BK112 := q0 (blk_grown (g := gb112) (o := .cells #[.int .i64 0, .slice none 0 0] 25 (0, 0)) (qk BK112.out) hg (Kd.R_ne HO183.out BK112.out (by decide))); replace HO114 := q0 (Kd.R_after (ok := (fun _ => True)) (qr HO114.out) hg hat); replace HB := q0 (below_weaken (qj HB.out HI0.out) HL.out hb); replace HI0 := q0 (IsSRd.grown (qi HI0.out) hg (IsSRd.own_ne HI0.out HO183.out (by decide))); replace HK := q0 (KeepBut.trans (qh HK.out) (KeepBut.of_grown hg g) (Kd.R_base2 HO183.out)); have HO187 := q0 (ho); clear HO183; clear ho hb hg hat; obtain ⟨Ao188, co188, eo188⟩ := Kd.R_slice HO187.out; subst eo188; obtain ⟨hcz189_0, hcz189_1, hfz189_0, hfz189_1⟩ := b2 BK111; have hnb190 := NB112_0.out; have hnc190 := NB0_112.out; obtain ⟨hcz191_0, hcz191_1, hfz191_0, hfz191_1⟩ := b2 BK112))
     refine bodyPost_ret (results_cell_row rfl _ _ gb112 25 #[.int .i64 t100, .slice Ao188 y170.length co188] (0, 0) _ rfl (by (with_reducible repeat (first | refine blk_drewN ?_ _ | refine blk_drew ?_ | refine blk_alloc ?_ _)); refine blk_put (cs := #[.int .i64 t100, .slice none 0 0]) ?_ 1 _ rfl; (with_reducible repeat (first | refine blk_drewN ?_ _ | refine blk_drew ?_ | refine blk_alloc ?_ _)); refine blk_put (cs := #[.int .i64 0, .slice none 0 0]) ?_ 0 _ rfl; (with_reducible repeat (first | refine blk_drewN ?_ _ | refine blk_drew ?_ | refine blk_alloc ?_ _)); refine blk_far ?_ NB112_111.out _; (with_reducible repeat (first | refine blk_drewN ?_ _ | refine blk_drew ?_ | refine blk_alloc ?_ _)); exact BK112.out) Try.underlying25 rfl (by kernel_rfl)) rfl ?_
     exact ⟨_, qe, by (with_reducible repeat (first | apply Kd.R_alloc | apply Kd.R_drewN | apply Kd.R_drew)); exact Kd.R_mono (Kd.R_far (p := ⟨gb112, 1, none⟩) (Kd.R_far (p := ⟨gb112, 0, none⟩) (Kd.R_far (p := ⟨gb111, 1, none⟩) (Kd.R_types (Kd.R_types HO187.out BK111.out (by decide)) BK112.out (by decide)) (fun _ hk => hk.1.2) (.slice Ao188 y170.length co188)) (fun _ hk => hk.2) (.int .i64 t100)) (fun _ hk => hk.2) (.slice Ao188 y170.length co188)) (fun _ hk => trivial), qi HI0.out, qj HB.out HI0.out, by repeat (first | (with_reducible first | exact HK.out | apply KeepBut.set_ | apply keep_drewN | apply keep_drew | apply keep_alloc | refine keep_far ?_ GW111.out _ | refine keep_far ?_ GW112.out _) | exact HK.out)⟩
   rw [if_pos c99] at H
   have c99b0 : (t101 == 4) = true := beq_iff_eq.mpr c99
   have c99b1 : (t101 != 4) = false := bne_eq_false_iff_eq.mpr c99
   clear c99
   by_cases c133 : (t108.length : Int) > 1
   rotate_left
   · rw [if_neg c133] at H
     have c133b0 := decide_eq_false c133
     have c133b1 : decide (1 < t108.length) = false := decide_eq_false (by omega)
     clear c133
     simp only [Option.some.injEq, Prod.mk.injEq] at H
     obtain ⟨rfl, rfl, rfl⟩ := H
     go_enter Try.func92, Try.ntmps92
     go_wp2_with (first | ((with_reducible refine gd 3 ?_); refine be 3 #[.int .i64 a1_0, .slice A1_1 l1_1.length c1_1] 25 ?_; intro gb111 hg w157 hbox hb; replace HB := q0 (below_step (qj HB.out HI0.out) hb); have BK111 := q0 (hbox); have GW111 := q0 ((by rw [hg]; exact (keep_size (w := w) (g := g) (row := none) (qh HK.out)) : w.heap.size ≤ gb111)); have GE111 := q0 ((Nat.le_trans HW0.out (by rw [hg]; exact (keep_size (w := w) (g := g) (row := none) (qh HK.out)) : w.heap.size ≤ gb111) : w0.heap.size ≤ gb111)); replace HK := q0 (KeepBut.trans (qh HK.out) (KeepBut.of_below hb g none) (.inl rfl)); have NB0_111 := q0 ((by rw [hg]; exact Nat.ne_of_lt (IsSRd.lt (show IsSRd w0 _ g s0_0 s0_1 from qi HI0.out)) : g ≠ gb111)); have NB111_0 := q0 ((by rw [hg]; exact Nat.ne_of_gt (IsSRd.lt (show IsSRd w0 _ g s0_0 s0_1 from qi HI0.out)) : gb111 ≠ g)); replace HI0 := q0 (IsSRd.below (qi HI0.out) hb); clear hb hbox hg) | ((with_reducible refine gd 4 ?_); refine be 4 #[.int .i64 0, .slice none 0 0] 25 ?_; intro gb112 hg w158 hbox hb; replace HB := q0 (below_step (qj HB.out HI0.out) hb); have BK112 := q0 (hbox); have GW112 := q0 ((by rw [hg]; exact (keep_size (w := w) (g := g) (row := none) (qh HK.out)) : w.heap.size ≤ gb112)); have GE112 := q0 ((Nat.le_trans HW0.out (by rw [hg]; exact (keep_size (w := w) (g := g) (row := none) (qh HK.out)) : w.heap.size ≤ gb112) : w0.heap.size ≤ gb112)); replace HK := q0 (KeepBut.trans (qh HK.out) (KeepBut.of_below hb g none) (.inl rfl)); have NB111_112 := nl BK111 hg; have NB112_111 := ng BK111 hg; replace BK111 := kd BK111 hb; have NB0_112 := q0 ((by rw [hg]; exact Nat.ne_of_lt (IsSRd.lt (show IsSRd w0 _ g s0_0 s0_1 from qi HI0.out)) : g ≠ gb112)); have NB112_0 := q0 ((by rw [hg]; exact Nat.ne_of_gt (IsSRd.lt (show IsSRd w0 _ g s0_0 s0_1 from qi HI0.out)) : gb112 ≠ g)); replace HI0 := q0 (IsSRd.below (qi HI0.out) hb); clear hb hbox hg; have hnb159 := NB111_112.out; have hnc159 := NB112_111.out; have hnb160 := NB111_0.out; have hnc160 := NB0_111.out; obtain ⟨hcz161_0, hcz161_1, hfz161_0, hfz161_1⟩ := b2 BK111) | ((with_reducible refine gf 109 ?_); refine gl 7 Try.func109 #[.agg #[.int .i64 a1_0, .slice A1_1 l1_1.length c1_1]] ?_; (with_reducible refine (spec_l1Copy.calls a1_0 _ _ l1_1 t100 t108 _ ?side1 ?side2 A3.out).mono ?_); (case side1 => exact Kd.C_foot_now HR1_1.out (qh HK.out)); (case side2 => exact HC1_1.out); rintro e w162 ⟨v113, rfl, ho0, hb⟩; refine ⟨_, rfl, ?_⟩; have HO114 := q0 (Kd.R_lower ho0 (keep_size (w := w) (g := g) (row := none) (qh HK.out))); replace BK111 := kd BK111 hb; replace BK112 := kd BK112 hb; replace HK := q0 (KeepBut.trans (qh HK.out) (KeepBut.of_below hb g none) (.inl rfl)); replace HB := q0 (below_step (qj HB.out HI0.out) hb); replace HI0 := q0 (IsSRd.below (qi HI0.out) hb); (try clear hb); (try clear hb2); (try clear hk); (try clear hi); (try clear ho0); obtain ⟨hcz163_0, hcz163_1, hfz163_0, hfz163_1⟩ := b2 BK111; obtain ⟨Ao164, co164, eo164⟩ := Kd.R_slice HO114.out; subst eo164) | ((with_reducible refine gf 59 ?_); refine gl 9 Try.func59 #[.pointer (some ⟨g, 0, none⟩), .int .i64 6] ?_; (with_reducible refine (spec_l6Rd_pick.calls k g s0_0 s0_1 6 t101 t109 w0 _ ?side1 ?side2 A4.out).mono ?_); (case side1 => exact qi HI0.out); (case side2 => exact qj HB.out HI0.out); rintro e w165 ⟨rfl, hi, hb, hk⟩; refine ⟨_, rfl, ?_⟩; replace BK112 := q0 (kc hk BK112.out NB112_0.out); replace HO114 := q0 (Kd.R_mono (Kd.R_keep (IsSRd.apart (show IsSRd w0 _ g s0_0 s0_1 from qi HI0.out) (by (with_reducible repeat (first | apply Kd.R_alloc | apply Kd.R_drewN | apply Kd.R_drew)); exact (rf2 HO114.out BK111.out (fun _ h_ => h_.1))) (by decide)) hk (fun _ h => h.2)) (fun _ h => h.1)); replace BK111 := q0 (KeepBut.blk hk (g' := gb111) (o := .cells #[.int .i64 t100, .slice Ao164 t108.length co164] 25 (0, 0)) (by (with_reducible repeat (first | refine blk_drewN ?_ _ | refine blk_drew ?_ | refine blk_alloc ?_ _)); refine blk_put (cs := #[.int .i64 t100, .slice A1_1 l1_1.length c1_1]) ?_ 1 _ rfl; (with_reducible repeat (first | refine blk_drewN ?_ _ | refine blk_drew ?_ | refine blk_alloc ?_ _)); refine blk_put (cs := #[.int .i64 a1_0, .slice A1_1 l1_1.length c1_1]) ?_ 0 _ rfl; (with_reducible repeat (first | refine blk_drewN ?_ _ | refine blk_drew ?_ | refine blk_alloc ?_ _)); exact BK111.out) NB111_0.out (by simp)); replace HK := q0 (KeepBut.trans (qh HK.out) hk (.inl rfl)); replace HB := q0 (hb); replace HI0 := q0 (hi); (try clear hb); (try clear hb2); (try clear hk); (try clear hi); obtain ⟨hcz166_0, hcz166_1, hfz166_0, hfz166_1⟩ := b2 BK111; have hnb167 := NB112_0.out; have hnc167 := NB0_112.out; obtain ⟨hcz168_0, hcz168_1, hfz168_0, hfz168_1⟩ := b2 BK112))
     refine bodyPost_ret (results_cell_row rfl _ _ gb112 25 #[.int .i64 t100, .slice Ao164 t108.length co164] (0, 0) _ rfl (by (with_reducible repeat (first | refine blk_drewN ?_ _ | refine blk_drew ?_ | refine blk_alloc ?_ _)); refine blk_put (cs := #[.int .i64 t100, .slice none 0 0]) ?_ 1 _ rfl; (with_reducible repeat (first | refine blk_drewN ?_ _ | refine blk_drew ?_ | refine blk_alloc ?_ _)); refine blk_put (cs := #[.int .i64 0, .slice none 0 0]) ?_ 0 _ rfl; (with_reducible repeat (first | refine blk_drewN ?_ _ | refine blk_drew ?_ | refine blk_alloc ?_ _)); exact BK112.out) Try.underlying25 rfl (by kernel_rfl)) rfl ?_
     exact ⟨_, qe, by (with_reducible repeat (first | apply Kd.R_alloc | apply Kd.R_drewN | apply Kd.R_drew)); exact rf2 HO114.out BK112.out (fun _ hk => trivial), qi HI0.out, qj HB.out HI0.out, by repeat (first | (with_reducible first | exact HK.out | apply KeepBut.set_ | apply keep_drewN | apply keep_drew | apply keep_alloc | refine keep_far ?_ GW111.out _ | refine keep_far ?_ GW112.out _) | exact HK.out)⟩
   rw [if_pos c133] at H
   have c133b0 := decide_eq_true c133
   have c133b1 : decide (1 < t108.length) = true := decide_eq_true (by omega)
   clear c133
   obtain ⟨c134, H⟩ : (0 < (t108.length : Int)) ∧ _ := og H
   have c134b0 := decide_eq_true c134
   have c134b1 : decide (0 < t108.length) = true := decide_eq_true (by omega)
   clear c134
   obtain ⟨c135, H⟩ : (t108.length < 8796093022208) ∧ _ := og H
   have LMc135 := q0 c135
   clear c135
   obtain ⟨y136, hy136⟩ : ∃ y_ : List (STie), y_ = (t108 ++ [(⟨(rd_TTie t108 0).f0, (rd_TTie t108 0).f1⟩ : STie)]) := ⟨_, rfl⟩
   replace H : (some (t100, y136, t109)) = some (r1, r2, r3) := qy H hy136
   have Ny136 := q0 hy136
   clear hy136
   simp only [Option.some.injEq, Prod.mk.injEq] at H
   obtain ⟨rfl, rfl, rfl⟩ := H
   go_enter Try.func92, Try.ntmps92
   try go_wp2_with (first | ((with_reducible refine gd 3 ?_); refine be 3 #[.int .i64 a1_0, .slice A1_1 l1_1.length c1_1] 25 ?_; intro gb111 hg w137 hbox hb; replace HB := q0 (below_step (qj HB.out HI0.out) hb); have BK111 := q0 (hbox); have GW111 := q0 ((by rw [hg]; exact (keep_size (w := w) (g := g) (row := none) (qh HK.out)) : w.heap.size ≤ gb111)); have GE111 := q0 ((Nat.le_trans HW0.out (by rw [hg]; exact (keep_size (w := w) (g := g) (row := none) (qh HK.out)) : w.heap.size ≤ gb111) : w0.heap.size ≤ gb111)); replace HK := q0 (KeepBut.trans (qh HK.out) (KeepBut.of_below hb g none) (.inl rfl)); have NB0_111 := q0 ((by rw [hg]; exact Nat.ne_of_lt (IsSRd.lt (show IsSRd w0 _ g s0_0 s0_1 from qi HI0.out)) : g ≠ gb111)); have NB111_0 := q0 ((by rw [hg]; exact Nat.ne_of_gt (IsSRd.lt (show IsSRd w0 _ g s0_0 s0_1 from qi HI0.out)) : gb111 ≠ g)); replace HI0 := q0 (IsSRd.below (qi HI0.out) hb); clear hb hbox hg) | ((with_reducible refine gd 4 ?_); refine be 4 #[.int .i64 0, .slice none 0 0] 25 ?_; intro gb112 hg w138 hbox hb; replace HB := q0 (below_step (qj HB.out HI0.out) hb); have BK112 := q0 (hbox); have GW112 := q0 ((by rw [hg]; exact (keep_size (w := w) (g := g) (row := none) (qh HK.out)) : w.heap.size ≤ gb112)); have GE112 := q0 ((Nat.le_trans HW0.out (by rw [hg]; exact (keep_size (w := w) (g := g) (row := none) (qh HK.out)) : w.heap.size ≤ gb112) : w0.heap.size ≤ gb112)); replace HK := q0 (KeepBut.trans (qh HK.out) (KeepBut.of_below hb g none) (.inl rfl)); have NB111_112 := nl BK111 hg; have NB112_111 := ng BK111 hg; replace BK111 := kd BK111 hb; have NB0_112 := q0 ((by rw [hg]; exact Nat.ne_of_lt (IsSRd.lt (show IsSRd w0 _ g s0_0 s0_1 from qi HI0.out)) : g ≠ gb112)); have NB112_0 := q0 ((by rw [hg]; exact Nat.ne_of_gt (IsSRd.lt (show IsSRd w0 _ g s0_0 s0_1 from qi HI0.out)) : gb112 ≠ g)); replace HI0 := q0 (IsSRd.below (qi HI0.out) hb); clear hb hbox hg; have hnb139 := NB111_112.out; have hnc139 := NB112_111.out; have hnb140 := NB111_0.out; have hnc140 := NB0_111.out; obtain ⟨hcz141_0, hcz141_1, hfz141_0, hfz141_1⟩ := b2 BK111) | ((with_reducible refine gf 109 ?_); refine gl 7 Try.func109 #[.agg #[.int .i64 a1_0, .slice A1_1 l1_1.length c1_1]] ?_; (with_reducible refine (spec_l1Copy.calls a1_0 _ _ l1_1 t100 t108 _ ?side1 ?side2 A3.out).mono ?_); (case side1 => exact Kd.C_foot_now HR1_1.out (qh HK.out)); (case side2 => exact HC1_1.out); rintro e w142 ⟨v113, rfl, ho0, hb⟩; refine ⟨_, rfl, ?_⟩; have HO114 := q0 (Kd.R_lower ho0 (keep_size (w := w) (g := g) (row := none) (qh HK.out))); replace BK111 := kd BK111 hb; replace BK112 := kd BK112 hb; replace HK := q0 (KeepBut.trans (qh HK.out) (KeepBut.of_below hb g none) (.inl rfl)); replace HB := q0 (below_step (qj HB.out HI0.out) hb); replace HI0 := q0 (IsSRd.below (qi HI0.out) hb); (try clear hb); (try clear hb2); (try clear hk); (try clear hi); (try clear ho0); obtain ⟨hcz143_0, hcz143_1, hfz143_0, hfz143_1⟩ := b2 BK111; obtain ⟨Ao144, co144, eo144⟩ := Kd.R_slice HO114.out; subst eo144) | ((with_reducible refine gf 59 ?_); refine gl 9 Try.func59 #[.pointer (some ⟨g, 0, none⟩), .int .i64 6] ?_; (with_reducible refine (spec_l6Rd_pick.calls k g s0_0 s0_1 6 t101 t109 w0 _ ?side1 ?side2 A4.out).mono ?_); (case side1 => exact qi HI0.out); (case side2 => exact qj HB.out HI0.out); rintro e w145 ⟨rfl, hi, hb, hk⟩; refine ⟨_, rfl, ?_⟩; replace BK112 := q0 (kc hk BK112.out NB112_0.out); replace HO114 := q0 (Kd.R_mono (Kd.R_keep (IsSRd.apart (show IsSRd w0 _ g s0_0 s0_1 from qi HI0.out) (by (with_reducible repeat (first | apply Kd.R_alloc | apply Kd.R_drewN | apply Kd.R_drew)); exact (rf2 HO114.out BK111.out (fun _ h_ => h_.1))) (by decide)) hk (fun _ h => h.2)) (fun _ h => h.1)); replace BK111 := q0 (KeepBut.blk hk (g' := gb111) (o := .cells #[.int .i64 t100, .slice Ao144 t108.length co144] 25 (0, 0)) (by (with_reducible repeat (first | refine blk_drewN ?_ _ | refine blk_drew ?_ | refine blk_alloc ?_ _)); refine blk_put (cs := #[.int .i64 t100, .slice A1_1 l1_1.length c1_1]) ?_ 1 _ rfl; (with_reducible repeat (first | refine blk_drewN ?_ _ | refine blk_drew ?_ | refine blk_alloc ?_ _)); refine blk_put (cs := #[.int .i64 a1_0, .slice A1_1 l1_1.length c1_1]) ?_ 0 _ rfl; (with_reducible repeat (first | refine blk_drewN ?_ _ | refine blk_drew ?_ | refine blk_alloc ?_ _)); exact BK111.out) NB111_0.out (by simp)); replace HK := q0 (KeepBut.trans (qh HK.out) hk (.inl rfl)); replace HB := q0 (hb); replace HI0 := q0 (hi); (try clear hb); (try clear hb2); (try clear hk); (try clear hi); obtain ⟨hcz146_0, hcz146_1, hfz146_0, hfz146_1⟩ := b2 BK111))
   replace HO114 := q0 (Kd.R_drew HO114.out)
   replace BK111 := q0 (blk_drew BK111.out)
   replace BK112 := q0 (blk_drew BK112.out)
   replace HI0 := q0 (IsSRd.drew HI0.out)
   replace HK := q0 (keep_drew HK.out)
   replace HB := q0 (below_drew1 HB.out)
   have p147 : 0 ≤ (0 : Int) := (by omega)
   have q147 : 0 < (t108.length : Int) := of_decide_eq_true qa
   obtain ⟨ad147, e147, hx147_0, hx147_1⟩ := at_TTie (Kd.R_reads' HO114.out).2.2 0 p147 q147
   cases e147
   have qi147 : (0 < t108.length) = True := eq_true (by omega)
   (try rw [show ((0 : Int)).toNat = 0 from rfl] at hx147_0)
   (try rw [show 0 * 2 = 0 from rfl] at hx147_0)
   (try rw [Addr.add_zero'] at hx147_0)
   (try rw [show ((0 : Int)).toNat = 0 from rfl] at hx147_1)
   (try rw [show 0 * 2 = 0 from rfl] at hx147_1)
   (try rw [Addr.add_zero'] at hx147_1)
   replace p147 := eq_true p147
   replace q147 := eq_true q147
   refine start_ (n := 10) (S := fun w' => w'.cell? ⟨gb111, 0, none⟩ = some (.int .i64 t100) ∧ w'.cell? ⟨gb111, 1, none⟩ = some (.slice (some ad147) t108.length co144) ∧ w'.cell? ad147 = some (.int .i64 ((rd_TTie t108 0).f0)) ∧ w'.cell? ⟨ad147.block, ad147.off + 1, none⟩ = some (.int .i64 ((rd_TTie t108 0).f1))) (ds := [7, 9]) (ba 10 0) (by kernel_rfl) rfl (by kernel_rfl) ⟨bca BK111, bcb BK111, hx147_0, hx147_1⟩ (fun hHeld => ?_); refine with_tabW spec_l71Spoil.tab16 spec_l71Spoil.bits16 (fun HT_ HW_ => ?_)
   generalize w145.drew = w148 at HO114 BK111 BK112 HI0 HK HB hx147_0 hx147_1 hHeld ⊢
   refine pU 0 83 10 1 HT_ ?_
   refine pU 2 85 10 5 HT_ ?_
   refine tU 1 84 10 7 HT_ HW_ hHeld ?_
   refine tU 3 86 10 15 HT_ HW_ hHeld ?_
   refine pU 4 87 10 31 HT_ ?_
   refine tU 5 88 10 63 HT_ HW_ hHeld ?_
   refine one_ (i := 6) (N := some 89) (ba 10 127) rfl rfl (one_of HT_.out (by kernel_rfl)) (by decide) (fun K hK => ?_)
   refine value_ (w1 := ?_) (v := ?_) (by rfl) rfl ?_ ?_
   rotate_left 2
   · go_simp
     constructor
     · rfl
     · rfl
   refine hK.out _ _ ⟨(blk_cell (blk_alloc BK111.out _) 0).trans rfl, (blk_cell (blk_alloc BK111.out _) 1).trans rfl, (World.cell?_alloc_lt _ _ _ (World.block_lt_of_cell? _ _ (hHeld.2.2.1))).trans (hHeld.2.2.1), (World.cell?_alloc_lt _ _ _ (World.block_lt_of_cell? _ _ (hHeld.2.2.2))).trans (hHeld.2.2.2)⟩ (fun hHeld => ?_)
   clear hK K
   refine nu 89 ?_
   refine last_ (i := 7) (N := some 90) (ba 10 255) rfl rfl (one_of HT_.out (by kernel_rfl)) (by decide) (fun K hK => ?_)
   refine Kd.R_append_step kTie w.heap.size (by rfl) (.tmp 84) (.tmp 89) 23 32 (.agg #[(.int .i64 0), (.int .i64 0)]) 16 rfl Try.underlying23 info32 rfl (by decide) (by omega) (.slice (some ad147) t108.length co144) t108 (⟨(rd_TTie t108 0).f0, (rd_TTie t108 0).f1⟩ : STie) [.int .i64 ((rd_TTie t108 0).f0), .int .i64 ((rd_TTie t108 0).f1)] (fun _ => True) (fun _ => False) rfl rfl ?aP (fun _ hk => hk.elim) ?aF ?aO (Below.refl _ _) ?aS ?aL ?_
   (case aP => exact kTie_mkM _ _ _ (⟨(rd_TTie t108 0).f0, (rd_TTie t108 0).f1⟩ : STie))
   (case aF => exact (fun _ _ => trivial))
   (case aO => exact (qr HO114.out))
   (case aS => exact (keep_size (w := w) (g := g) (row := none) (qh HK.out)))
   (case aL => have := LMc135.out; omega)
   intro v149 w150 ho hb hg hat
   rw [← Ny136.out] at ho
   replace BK111 := q0 (blk_grown (g := gb111) (o := .cells #[.int .i64 t100, .slice (some ad147) t108.length co144] 25 (0, 0)) (qk BK111.out) hg (Kd.R_ne HO114.out BK111.out (by decide)))
   replace BK112 := q0 (blk_grown (g := gb112) (o := .cells #[.int .i64 0, .slice none 0 0] 25 (0, 0)) (qk BK112.out) hg (Kd.R_ne HO114.out BK112.out (by decide)))
   replace HB := q0 (below_weaken (qj HB.out HI0.out) HL.out hb)
   replace HI0 := q0 (IsSRd.grown (qi HI0.out) hg (IsSRd.own_ne HI0.out HO114.out (by decide)))
   replace HK := q0 (KeepBut.trans (qh HK.out) (KeepBut.of_grown hg g) (Kd.R_base2 HO114.out))
   have HO151 := q0 (ho)
   clear HO114
   clear ho hb hg hat
   obtain ⟨Ao152, co152, eo152⟩ := Kd.R_slice HO151.out
   (first | subst eo152 | (injection eo152 with f1_ f2_ f3_; have f4_ := f1_.symm; have f5_ := f3_.symm; clear f1_ f2_ f3_; subst f4_; subst f5_))
   refine hK.out _ _ ?_
   clear hK K
   refine nu 90 ?_
   refine pU 8 91 10 511 HT_ ?_
   refine last_ (i := 9) (N := none) (ba 10 1023) rfl rfl (one_of HT_.out (by kernel_rfl)) (by decide) (fun K hK => ?_)
   have hs153 : w150.cell? ⟨gb111, 1, none⟩ = some (.slice (some ad147) t108.length co144) := (blk_cell BK111.out 1).trans rfl
   have hfs153 := blk_frozen BK111.out 1
   have hns153_1 := NB112_111.out
   have hms153_1 := NB111_112.out
   refine skip_ (w1 := ?_) (by rfl) rfl ?_ ?_
   rotate_left
   · go_simp
     rfl
   refine hK.out _ _ ?_
   clear hK K
   refine done_ (done_of HT_.out (by kernel_rfl)) ?_
   obtain ⟨hcz154_0, hcz154_1, hfz154_0, hfz154_1⟩ := b2 BK111
   have hnb155 := NB112_0.out
   have hnc155 := NB0_112.out
   obtain ⟨hcz156_0, hcz156_1, hfz156_0, hfz156_1⟩ := b2 BK112
   try go_wp2
   refine bodyPost_ret (results_cell_row rfl _ _ gb112 25 #[.int .i64 t100, .slice Ao152 y136.length co152] (0, 0) _ rfl (by (with_reducible repeat (first | refine blk_drewN ?_ _ | refine blk_drew ?_ | refine blk_alloc ?_ _)); refine blk_put (cs := #[.int .i64 t100, .slice none 0 0]) ?_ 1 _ rfl; (with_reducible repeat (first | refine blk_drewN ?_ _ | refine blk_drew ?_ | refine blk_alloc ?_ _)); refine blk_put (cs := #[.int .i64 0, .slice none 0 0]) ?_ 0 _ rfl; (with_reducible repeat (first | refine blk_drewN ?_ _ | refine blk_drew ?_ | refine blk_alloc ?_ _)); refine blk_far ?_ NB112_111.out _; (with_reducible repeat (first | refine blk_drewN ?_ _ | refine blk_drew ?_ | refine blk_alloc ?_ _)); exact BK112.out) Try.underlying25 rfl (by kernel_rfl)) rfl ?_
   exact ⟨_, qe, by (with_reducible repeat (first | apply Kd.R_alloc | apply Kd.R_drewN | apply Kd.R_drew)); exact Kd.R_mono (Kd.R_far (p := ⟨gb112, 1, none⟩) (Kd.R_far (p := ⟨gb112, 0, none⟩) (Kd.R_far (p := ⟨gb111, 1, none⟩) (Kd.R_types (Kd.R_types HO151.out BK111.out (by decide)) BK112.out (by decide)) (fun _ hk => hk.1.2) (.slice Ao152 y136.length co152)) (fun _ hk => hk.2) (.int .i64 t100)) (fun _ hk => hk.2) (.slice Ao152 y136.length co152)) (fun _ hk => trivial), qi HI0.out, qj HB.out HI0.out, by repeat (first | (with_reducible first | exact HK.out | apply KeepBut.set_ | apply keep_drewN | apply keep_drew | apply keep_alloc | refine keep_far ?_ GW111.out _ | refine keep_far ?_ GW112.out _) | exact HK.out)⟩
 rw [if_pos c64] at H
 have c64b0 : (t101 == 3) = true := beq_iff_eq.mpr c64
 have c64b1 : (t101 != 3) = false := bne_eq_false_iff_eq.mpr c64
 clear c64
 by_cases c65 : (t108.length : Int) > 0
 rotate_left
 · rw [if_neg c65] at H
   have c65b0 := decide_eq_false c65
   have c65b1 : decide (0 < t108.length) = false := decide_eq_false (by omega)
   clear c65
   simp only [Option.some.injEq, Prod.mk.injEq] at H
   obtain ⟨rfl, rfl, rfl⟩ := H
   go_enter Try.func92, Try.ntmps92
   go_wp2_with (first | ((with_reducible refine gd 3 ?_); refine be 3 #[.int .i64 a1_0, .slice A1_1 l1_1.length c1_1] 25 ?_; intro gb111 hg w87 hbox hb; replace HB := q0 (below_step (qj HB.out HI0.out) hb); have BK111 := q0 (hbox); have GW111 := q0 ((by rw [hg]; exact (keep_size (w := w) (g := g) (row := none) (qh HK.out)) : w.heap.size ≤ gb111)); have GE111 := q0 ((Nat.le_trans HW0.out (by rw [hg]; exact (keep_size (w := w) (g := g) (row := none) (qh HK.out)) : w.heap.size ≤ gb111) : w0.heap.size ≤ gb111)); replace HK := q0 (KeepBut.trans (qh HK.out) (KeepBut.of_below hb g none) (.inl rfl)); have NB0_111 := q0 ((by rw [hg]; exact Nat.ne_of_lt (IsSRd.lt (show IsSRd w0 _ g s0_0 s0_1 from qi HI0.out)) : g ≠ gb111)); have NB111_0 := q0 ((by rw [hg]; exact Nat.ne_of_gt (IsSRd.lt (show IsSRd w0 _ g s0_0 s0_1 from qi HI0.out)) : gb111 ≠ g)); replace HI0 := q0 (IsSRd.below (qi HI0.out) hb); clear hb hbox hg) | ((with_reducible refine gd 4 ?_); refine be 4 #[.int .i64 0, .slice none 0 0] 25 ?_; intro gb112 hg w88 hbox hb; replace HB := q0 (below_step (qj HB.out HI0.out) hb); have BK112 := q0 (hbox); have GW112 := q0 ((by rw [hg]; exact (keep_size (w := w) (g := g) (row := none) (qh HK.out)) : w.heap.size ≤ gb112)); have GE112 := q0 ((Nat.le_trans HW0.out (by rw [hg]; exact (keep_size (w := w) (g := g) (row := none) (qh HK.out)) : w.heap.size ≤ gb112) : w0.heap.size ≤ gb112)); replace HK := q0 (KeepBut.trans (qh HK.out) (KeepBut.of_below hb g none) (.inl rfl)); have NB111_112 := nl BK111 hg; have NB112_111 := ng BK111 hg; replace BK111 := kd BK111 hb; have NB0_112 := q0 ((by rw [hg]; exact Nat.ne_of_lt (IsSRd.lt (show IsSRd w0 _ g s0_0 s0_1 from qi HI0.out)) : g ≠ gb112)); have NB112_0 := q0 ((by rw [hg]; exact Nat.ne_of_gt (IsSRd.lt (show IsSRd w0 _ g s0_0 s0_1 from qi HI0.out)) : gb112 ≠ g)); replace HI0 := q0 (IsSRd.below (qi HI0.out) hb); clear hb hbox hg; have hnb89 := NB111_112.out; have hnc89 := NB112_111.out; have hnb90 := NB111_0.out; have hnc90 := NB0_111.out; obtain ⟨hcz91_0, hcz91_1, hfz91_0, hfz91_1⟩ := b2 BK111) | ((with_reducible refine gf 109 ?_); refine gl 7 Try.func109 #[.agg #[.int .i64 a1_0, .slice A1_1 l1_1.length c1_1]] ?_; (with_reducible refine (spec_l1Copy.calls a1_0 _ _ l1_1 t100 t108 _ ?side1 ?side2 A3.out).mono ?_); (case side1 => exact Kd.C_foot_now HR1_1.out (qh HK.out)); (case side2 => exact HC1_1.out); rintro e w92 ⟨v113, rfl, ho0, hb⟩; refine ⟨_, rfl, ?_⟩; have HO114 := q0 (Kd.R_lower ho0 (keep_size (w := w) (g := g) (row := none) (qh HK.out))); replace BK111 := kd BK111 hb; replace BK112 := kd BK112 hb; replace HK := q0 (KeepBut.trans (qh HK.out) (KeepBut.of_below hb g none) (.inl rfl)); replace HB := q0 (below_step (qj HB.out HI0.out) hb); replace HI0 := q0 (IsSRd.below (qi HI0.out) hb); (try clear hb); (try clear hb2); (try clear hk); (try clear hi); (try clear ho0); obtain ⟨hcz93_0, hcz93_1, hfz93_0, hfz93_1⟩ := b2 BK111; obtain ⟨Ao94, co94, eo94⟩ := Kd.R_slice HO114.out; subst eo94) | ((with_reducible refine gf 59 ?_); refine gl 9 Try.func59 #[.pointer (some ⟨g, 0, none⟩), .int .i64 6] ?_; (with_reducible refine (spec_l6Rd_pick.calls k g s0_0 s0_1 6 t101 t109 w0 _ ?side1 ?side2 A4.out).mono ?_); (case side1 => exact qi HI0.out); (case side2 => exact qj HB.out HI0.out); rintro e w95 ⟨rfl, hi, hb, hk⟩; refine ⟨_, rfl, ?_⟩; replace BK112 := q0 (kc hk BK112.out NB112_0.out); replace HO114 := q0 (Kd.R_mono (Kd.R_keep (IsSRd.apart (show IsSRd w0 _ g s0_0 s0_1 from qi HI0.out) (by (with_reducible repeat (first | apply Kd.R_alloc | apply Kd.R_drewN | apply Kd.R_drew)); exact (rf2 HO114.out BK111.out (fun _ h_ => h_.1))) (by decide)) hk (fun _ h => h.2)) (fun _ h => h.1)); replace BK111 := q0 (KeepBut.blk hk (g' := gb111) (o := .cells #[.int .i64 t100, .slice Ao94 t108.length co94] 25 (0, 0)) (by (with_reducible repeat (first | refine blk_drewN ?_ _ | refine blk_drew ?_ | refine blk_alloc ?_ _)); refine blk_put (cs := #[.int .i64 t100, .slice A1_1 l1_1.length c1_1]) ?_ 1 _ rfl; (with_reducible repeat (first | refine blk_drewN ?_ _ | refine blk_drew ?_ | refine blk_alloc ?_ _)); refine blk_put (cs := #[.int .i64 a1_0, .slice A1_1 l1_1.length c1_1]) ?_ 0 _ rfl; (with_reducible repeat (first | refine blk_drewN ?_ _ | refine blk_drew ?_ | refine blk_alloc ?_ _)); exact BK111.out) NB111_0.out (by simp)); replace HK := q0 (KeepBut.trans (qh HK.out) hk (.inl rfl)); replace HB := q0 (hb); replace HI0 := q0 (hi); (try clear hb); (try clear hb2); (try clear hk); (try clear hi); obtain ⟨hcz96_0, hcz96_1, hfz96_0, hfz96_1⟩ := b2 BK111; have hnb97 := NB112_0.out; have hnc97 := NB0_112.out; obtain ⟨hcz98_0, hcz98_1, hfz98_0, hfz98_1⟩ := b2 BK112))
   refine bodyPost_ret (results_cell_row rfl _ _ gb112 25 #[.int .i64 t100, .slice Ao94 t108.length co94] (0, 0) _ rfl (by (with_reducible repeat (first | refine blk_drewN ?_ _ | refine blk_drew ?_ | refine blk_alloc ?_ _)); refine blk_put (cs := #[.int .i64 t100, .slice none 0 0]) ?_ 1 _ rfl; (with_reducible repeat (first | refine blk_drewN ?_ _ | refine blk_drew ?_ | refine blk_alloc ?_ _)); refine blk_put (cs := #[.int .i64 0, .slice none 0 0]) ?_ 0 _ rfl; (with_reducible repeat (first | refine blk_drewN ?_ _ | refine blk_drew ?_ | refine blk_alloc ?_ _)); exact BK112.out) Try.underlying25 rfl (by kernel_rfl)) rfl ?_
   exact ⟨_, qe, by (with_reducible repeat (first | apply Kd.R_alloc | apply Kd.R_drewN | apply Kd.R_drew)); exact rf2 HO114.out BK112.out (fun _ hk => trivial), qi HI0.out, qj HB.out HI0.out, by repeat (first | (with_reducible first | exact HK.out | apply KeepBut.set_ | apply keep_drewN | apply keep_drew | apply keep_alloc | refine keep_far ?_ GW111.out _ | refine keep_far ?_ GW112.out _) | exact HK.out)⟩
 rw [if_pos c65] at H
 have c65b0 := decide_eq_true c65
 have c65b1 : decide (0 < t108.length) = true := decide_eq_true (by omega)
 clear c65
 obtain ⟨⟨t106, t128⟩, A66, H⟩ := ob H
 obtain ⟨c67, H⟩ : (0 ≤ t106) ∧ _ := og H
 have c67b0 := decide_eq_true c67
 clear c67
 obtain ⟨c68, H⟩ : (t106 < (t108.length : Int)) ∧ _ := og H
 have c68b0 := decide_eq_true c68
 clear c68
 obtain ⟨y130, hy130⟩ : ∃ y_ : List (STie), y_ = (t108.set (t106 : Int).toNat (⟨(rd_TTie t108 t106).f1, (rd_TTie t108 t106).f0⟩ : STie)) := ⟨_, rfl⟩
 replace H : (some (t100, y130, t128)) = some (r1, r2, r3) := qy H hy130
 have Ny130 := q0 hy130
 clear hy130
 simp only [Option.some.injEq, Prod.mk.injEq] at H
 obtain ⟨rfl, rfl, rfl⟩ := H
 go_enter Try.func92, Try.ntmps92
 try go_wp2_with (first | ((with_reducible refine gd 3 ?_); refine be 3 #[.int .i64 a1_0, .slice A1_1 l1_1.length c1_1] 25 ?_; intro gb111 hg w70 hbox hb; replace HB := q0 (below_step (qj HB.out HI0.out) hb); have BK111 := q0 (hbox); have GW111 := q0 ((by rw [hg]; exact (keep_size (w := w) (g := g) (row := none) (qh HK.out)) : w.heap.size ≤ gb111)); have GE111 := q0 ((Nat.le_trans HW0.out (by rw [hg]; exact (keep_size (w := w) (g := g) (row := none) (qh HK.out)) : w.heap.size ≤ gb111) : w0.heap.size ≤ gb111)); replace HK := q0 (KeepBut.trans (qh HK.out) (KeepBut.of_below hb g none) (.inl rfl)); have NB0_111 := q0 ((by rw [hg]; exact Nat.ne_of_lt (IsSRd.lt (show IsSRd w0 _ g s0_0 s0_1 from qi HI0.out)) : g ≠ gb111)); have NB111_0 := q0 ((by rw [hg]; exact Nat.ne_of_gt (IsSRd.lt (show IsSRd w0 _ g s0_0 s0_1 from qi HI0.out)) : gb111 ≠ g)); replace HI0 := q0 (IsSRd.below (qi HI0.out) hb); clear hb hbox hg) | ((with_reducible refine gd 4 ?_); refine be 4 #[.int .i64 0, .slice none 0 0] 25 ?_; intro gb112 hg w71 hbox hb; replace HB := q0 (below_step (qj HB.out HI0.out) hb); have BK112 := q0 (hbox); have GW112 := q0 ((by rw [hg]; exact (keep_size (w := w) (g := g) (row := none) (qh HK.out)) : w.heap.size ≤ gb112)); have GE112 := q0 ((Nat.le_trans HW0.out (by rw [hg]; exact (keep_size (w := w) (g := g) (row := none) (qh HK.out)) : w.heap.size ≤ gb112) : w0.heap.size ≤ gb112)); replace HK := q0 (KeepBut.trans (qh HK.out) (KeepBut.of_below hb g none) (.inl rfl)); have NB111_112 := nl BK111 hg; have NB112_111 := ng BK111 hg; replace BK111 := kd BK111 hb; have NB0_112 := q0 ((by rw [hg]; exact Nat.ne_of_lt (IsSRd.lt (show IsSRd w0 _ g s0_0 s0_1 from qi HI0.out)) : g ≠ gb112)); have NB112_0 := q0 ((by rw [hg]; exact Nat.ne_of_gt (IsSRd.lt (show IsSRd w0 _ g s0_0 s0_1 from qi HI0.out)) : gb112 ≠ g)); replace HI0 := q0 (IsSRd.below (qi HI0.out) hb); clear hb hbox hg; have hnb72 := NB111_112.out; have hnc72 := NB112_111.out; have hnb73 := NB111_0.out; have hnc73 := NB0_111.out; obtain ⟨hcz74_0, hcz74_1, hfz74_0, hfz74_1⟩ := b2 BK111) | ((with_reducible refine gf 109 ?_); refine gl 7 Try.func109 #[.agg #[.int .i64 a1_0, .slice A1_1 l1_1.length c1_1]] ?_; (with_reducible refine (spec_l1Copy.calls a1_0 _ _ l1_1 t100 t108 _ ?side1 ?side2 A3.out).mono ?_); (case side1 => exact Kd.C_foot_now HR1_1.out (qh HK.out)); (case side2 => exact HC1_1.out); rintro e w75 ⟨v113, rfl, ho0, hb⟩; refine ⟨_, rfl, ?_⟩; have HO114 := q0 (Kd.R_lower ho0 (keep_size (w := w) (g := g) (row := none) (qh HK.out))); replace BK111 := kd BK111 hb; replace BK112 := kd BK112 hb; replace HK := q0 (KeepBut.trans (qh HK.out) (KeepBut.of_below hb g none) (.inl rfl)); replace HB := q0 (below_step (qj HB.out HI0.out) hb); replace HI0 := q0 (IsSRd.below (qi HI0.out) hb); (try clear hb); (try clear hb2); (try clear hk); (try clear hi); (try clear ho0); obtain ⟨hcz76_0, hcz76_1, hfz76_0, hfz76_1⟩ := b2 BK111; obtain ⟨Ao77, co77, eo77⟩ := Kd.R_slice HO114.out; subst eo77) | ((with_reducible refine gf 59 ?_); refine gl 9 Try.func59 #[.pointer (some ⟨g, 0, none⟩), .int .i64 6] ?_; (with_reducible refine (spec_l6Rd_pick.calls k g s0_0 s0_1 6 t101 t109 w0 _ ?side1 ?side2 A4.out).mono ?_); (case side1 => exact qi HI0.out); (case side2 => exact qj HB.out HI0.out); rintro e w78 ⟨rfl, hi, hb, hk⟩; refine ⟨_, rfl, ?_⟩; replace BK112 := q0 (kc hk BK112.out NB112_0.out); replace HO114 := q0 (Kd.R_mono (Kd.R_keep (IsSRd.apart (show IsSRd w0 _ g s0_0 s0_1 from qi HI0.out) (by (with_reducible repeat (first | apply Kd.R_alloc | apply Kd.R_drewN | apply Kd.R_drew)); exact (rf2 HO114.out BK111.out (fun _ h_ => h_.1))) (by decide)) hk (fun _ h => h.2)) (fun _ h => h.1)); replace BK111 := q0 (KeepBut.blk hk (g' := gb111) (o := .cells #[.int .i64 t100, .slice Ao77 t108.length co77] 25 (0, 0)) (by (with_reducible repeat (first | refine blk_drewN ?_ _ | refine blk_drew ?_ | refine blk_alloc ?_ _)); refine blk_put (cs := #[.int .i64 t100, .slice A1_1 l1_1.length c1_1]) ?_ 1 _ rfl; (with_reducible repeat (first | refine blk_drewN ?_ _ | refine blk_drew ?_ | refine blk_alloc ?_ _)); refine blk_put (cs := #[.int .i64 a1_0, .slice A1_1 l1_1.length c1_1]) ?_ 0 _ rfl; (with_reducible repeat (first | refine blk_drewN ?_ _ | refine blk_drew ?_ | refine blk_alloc ?_ _)); exact BK111.out) NB111_0.out (by simp)); replace HK := q0 (KeepBut.trans (qh HK.out) hk (.inl rfl)); replace HB := q0 (hb); replace HI0 := q0 (hi); (try clear hb); (try clear hb2); (try clear hk); (try clear hi); obtain ⟨hcz79_0, hcz79_1, hfz79_0, hfz79_1⟩ := b2 BK111) | ((with_reducible refine gf 59 ?_); refine gl 59 Try.func59 #[.pointer (some ⟨g, 0, none⟩), .int .i64 (t108.length : Int)] ?_; (with_reducible refine (spec_l6Rd_pick.calls k g s0_0 t109 (t108.length : Int) t106 t128 w0 _ ?side1 ?side2 A66.out).mono ?_); (case side1 => exact qi HI0.out); (case side2 => exact qj HB.out HI0.out); rintro e w80 ⟨rfl, hi, hb, hk⟩; refine ⟨_, rfl, ?_⟩; replace BK111 := q0 (kc hk BK111.out NB111_0.out); replace BK112 := q0 (kc hk BK112.out NB112_0.out); replace HO114 := q0 (Kd.R_mono (Kd.R_keep (IsSRd.apart (show IsSRd w0 _ g s0_0 t109 from qi HI0.out) (qr HO114.out) (by decide)) hk (fun _ h => h.2)) (fun _ h => h.1)); replace HK := q0 (KeepBut.trans (qh HK.out) hk (.inl rfl)); replace HB := q0 (hb); replace HI0 := q0 (hi); (try clear hb); (try clear hb2); (try clear hk); (try clear hi)))
 replace HO114 := q0 (Kd.R_drew HO114.out)
 replace BK111 := q0 (blk_drew BK111.out)
 replace BK112 := q0 (blk_drew BK112.out)
 replace HI0 := q0 (IsSRd.drew HI0.out)
 replace HK := q0 (keep_drew HK.out)
 replace HB := q0 (below_drew1 HB.out)
 have p131 : 0 ≤ (t106 : Int) := of_decide_eq_true qa
 have q131 : t106 < (t108.length : Int) := of_decide_eq_true qa
 obtain ⟨ad131, e131, hx131_0, hx131_1⟩ := at_TTie (Kd.R_reads' HO114.out).2.2 t106 p131 q131
 cases e131
 replace p131 := eq_true p131
 replace q131 := eq_true q131
 have p132 : 0 ≤ (t106 : Int) := of_decide_eq_true qa
 have q132 : t106 < (t108.length : Int) := of_decide_eq_true qa
 obtain ⟨ad132, e132, hx132_0, hx132_1⟩ := at_TTie (Kd.R_reads' HO114.out).2.2 t106 p132 q132
 obtain rfl : ad131 = ad132 := (by injection e132)
 replace p132 := eq_true p132
 replace q132 := eq_true q132
 have p69 : 0 ≤ (t106 : Int) := of_decide_eq_true qa
 have q69 : (t106 : Int) < ((t108.length : Int) : Int) := of_decide_eq_true qa
 obtain ⟨go69, co69, eo69, gb69, gl69, cl69, HG69⟩ := Kd.R_form HO114.out (by omega)
 (first | cases eo69 | (injection eo69 with ea_ en_ ec_; (first | subst ea_ | (injection ea_ with ea_; subst ea_)); subst ec_; clear en_))
 have GB69 := q0 gb69
 have GG69 := q0 HG69
 clear gb69 gl69 HG69
 (first | simp only [add_plain] at hx131_0 | skip)
 (first | simp only [add_plain] at hx131_1 | skip)
 (first | simp only [add_plain] at hx132_0 | skip)
 (first | simp only [add_plain] at hx132_1 | skip)
 obtain ⟨ce69, hcl69, hM69, hcc69, hfr69⟩ := Kd.R_elem HO114.out zTie (t106 : Int) p69 q69
 obtain rfl := kTie_openM hM69
 have hx69_0 : World.cell? _ ⟨go69, (t106 : Int).toNat * 2, none⟩ = some (.int .i64 ((rd_TTie t108 t106).f0)) := hcc69 0 _ rfl
 have hx69_1 : World.cell? _ ⟨go69, (t106 : Int).toNat * 2 + 1, none⟩ = some (.int .i64 ((rd_TTie t108 t106).f1)) := hcc69 1 _ rfl
 have hf69_0 : World.frozen? _ ⟨go69, (t106 : Int).toNat * 2, none⟩ = false := hfr69 0
 have hf69_1 : World.frozen? _ ⟨go69, (t106 : Int).toNat * 2 + 1, none⟩ = false := hfr69 1
 clear hcl69 hcc69 hfr69 hM69
 replace p69 := eq_true p69
 replace q69 := eq_true q69
 have HN0_go69 := q0 (show g ≠ go69 from by have h_ := IsSRd.own_ne HI0.out HO114.out (by decide); intro e_; exact h_ (by rw [e_]; rfl))
 obtain ⟨ce82, hcl82, hM82, hcc82, hfr82⟩ := Kd.R_elem HO114.out zTie (t106 : Int) (of_decide_eq_true qa) (by have h_ : (t106 : Int) < ((t108.length : Int) : Int) := of_decide_eq_true qa; first | exact h_ | (have e_ := (Kd.R_reads' HO114.out).1; omega) | simpa using h_)
 obtain rfl := kTie_openM hM82
 have HP82 := (Kd.R_seg HO114.out (t106 : Int) (of_decide_eq_true qa) (by have h_ : (t106 : Int) < ((t108.length : Int) : Int) := of_decide_eq_true qa; first | exact h_ | (have e_ := (Kd.R_reads' HO114.out).1; omega) | simpa using h_) (seg := [.int .i64 ((rd_TTie t108 t106).f1), .int .i64 ((rd_TTie t108 t106).f0)]) (j := 0) hcl82 hcc82 (show 2 ≤ 2 from by decide) (x' := (⟨(rd_TTie t108 t106).f1, (rd_TTie t108 t106).f0⟩ : STie)) (kTie_mkM _ _ _ (⟨(rd_TTie t108 t106).f1, (rd_TTie t108 t106).f0⟩ : STie) ) (fun _ hk => hk)).1
 rw [← Ny130.out] at HP82
 have HQ82 := q0 HP82
 clear hcl82 hcc82 hfr82 hM82 HP82
 refine start_ (n := 18) (S := fun w' => w'.cell? ⟨gb111, 0, none⟩ = some (.int .i64 t100) ∧ w'.cell? ⟨gb111, 1, none⟩ = some (.slice (some ⟨go69, 0, none⟩) t108.length co77) ∧ w'.cell? ⟨go69, ((t106).toNat * 2), none⟩ = some (.int .i64 ((rd_TTie t108 t106).f0)) ∧ w'.cell? ⟨go69, ((t106).toNat * 2) + 1, none⟩ = some (.int .i64 ((rd_TTie t108 t106).f1)) ∧ w'.cell? ⟨go69, ((t106).toNat * 2), none⟩ = some (.int .i64 ((rd_TTie t108 t106).f0)) ∧ w'.cell? ⟨go69, ((t106).toNat * 2) + 1, none⟩ = some (.int .i64 ((rd_TTie t108 t106).f1))) (ds := [17]) (ba 18 0) (by kernel_rfl) rfl (by kernel_rfl) ⟨bca BK111, bcb BK111, hx131_0, hx131_1, hx132_0, hx132_1⟩ (fun hHeld => ?_); refine with_tabW spec_l71Spoil.tab13 spec_l71Spoil.bits13 (fun HT_ HW_ => ?_)
 generalize w80.drew = w81 at HO114 BK111 BK112 HI0 HK HB GG69 HQ82 hf69_0 hf69_1 hx131_0 hx131_1 hx132_0 hx132_1 hx69_0 hx69_1 hHeld ⊢
 refine pU 0 60 18 1 HT_ ?_
 refine pU 2 62 18 5 HT_ ?_
 refine pU 3 63 18 13 HT_ ?_
 refine pU 5 65 18 45 HT_ ?_
 refine pU 9 69 18 557 HT_ ?_
 refine pU 11 71 18 2605 HT_ ?_
 refine tU 1 61 18 2607 HT_ HW_ hHeld ?_
 refine tU 4 64 18 2623 HT_ HW_ hHeld ?_
 refine pU 6 66 18 2687 HT_ ?_
 refine pU 7 67 18 2815 HT_ ?_
 refine tU 8 68 18 3071 HT_ HW_ hHeld ?_
 refine tU 10 70 18 4095 HT_ HW_ hHeld ?_
 refine pU 12 72 18 8191 HT_ ?_
 refine pU 13 73 18 16383 HT_ ?_
 refine tU 14 74 18 32767 HT_ HW_ hHeld ?_
 refine pU 15 75 18 65535 HT_ ?_
 refine pU 16 76 18 131071 HT_ ?_
 refine last_ (i := 17) (N := none) (ba 18 262143) rfl rfl (one_of HT_.out (by kernel_rfl)) (by decide) (fun K hK => ?_)
 refine skip_ (w1 := ?_) (by rfl) rfl ?_ ?_
 rotate_left
 · go_simp
   rfl
 refine hK.out _ _ ?_
 clear hK K
 refine done_ (done_of HT_.out (by kernel_rfl)) ?_
 have n0_ : Aside0 (Kd.R kTie 32 ((w81.setCell ⟨go69, (t106 : Int).toNat * 2, none⟩ (.int .i64 ((rd_TTie t108 t106).f1))).setCell ⟨go69, (t106 : Int).toNat * 2 + 1, none⟩ (.int .i64 ((rd_TTie t108 t106).f0))) w.heap.size (fun _ => True) (.slice (some ⟨go69, 0, none⟩) t108.length co77) y130) := ⟨by (with_reducible repeat (first | apply Kd.R_alloc | apply Kd.R_drewN | apply Kd.R_drew)); exact HQ82.out⟩
 have n1_ : Aside0 (((w81.setCell ⟨go69, (t106 : Int).toNat * 2, none⟩ (.int .i64 ((rd_TTie t108 t106).f1))).setCell ⟨go69, (t106 : Int).toNat * 2 + 1, none⟩ (.int .i64 ((rd_TTie t108 t106).f0))).heap[gb111]? = some (.cells #[.int .i64 t100, .slice (some ⟨go69, 0, none⟩) t108.length co77] 25 (0, 0))) := ⟨by (with_reducible repeat (first | refine blk_drewN ?_ _ | refine blk_drew ?_ | refine blk_alloc ?_ _)); refine blk_far ?_ (by have h_ := Kd.R_ne HO114.out BK111.out (by decide); intro e_; exact h_ (by rw [e_]; rfl)) _; (with_reducible repeat (first | refine blk_drewN ?_ _ | refine blk_drew ?_ | refine blk_alloc ?_ _)); refine blk_far ?_ (by have h_ := Kd.R_ne HO114.out BK111.out (by decide); intro e_; exact h_ (by rw [e_]; rfl)) _; (with_reducible repeat (first | refine blk_drewN ?_ _ | refine blk_drew ?_ | refine blk_alloc ?_ _)); exact BK111.out⟩
 have n2_ : Aside0 (((w81.setCell ⟨go69, (t106 : Int).toNat * 2, none⟩ (.int .i64 ((rd_TTie t108 t106).f1))).setCell ⟨go69, (t106 : Int).toNat * 2 + 1, none⟩ (.int .i64 ((rd_TTie t108 t106).f0))).heap[gb112]? = some (.cells #[.int .i64 0, .slice none 0 0] 25 (0, 0))) := ⟨by (with_reducible repeat (first | refine blk_drewN ?_ _ | refine blk_drew ?_ | refine blk_alloc ?_ _)); refine blk_far ?_ (by have h_ := Kd.R_ne HO114.out BK112.out (by decide); intro e_; exact h_ (by rw [e_]; rfl)) _; (with_reducible repeat (first | refine blk_drewN ?_ _ | refine blk_drew ?_ | refine blk_alloc ?_ _)); refine blk_far ?_ (by have h_ := Kd.R_ne HO114.out BK112.out (by decide); intro e_; exact h_ (by rw [e_]; rfl)) _; (with_reducible repeat (first | refine blk_drewN ?_ _ | refine blk_drew ?_ | refine blk_alloc ?_ _)); exact BK112.out⟩
 have n3_ : Aside0 (IsSRd w0 ((w81.setCell ⟨go69, (t106 : Int).toNat * 2, none⟩ (.int .i64 ((rd_TTie t108 t106).f1))).setCell ⟨go69, (t106 : Int).toNat * 2 + 1, none⟩ (.int .i64 ((rd_TTie t108 t106).f0))) g s0_0 t128) := ⟨by repeat (first | (with_reducible first | exact HI0.out | apply IsSRd.alloc | apply IsSRd.drewN | apply IsSRd.drew | apply IsSRd.set_1 | refine IsSRd.far ?_ HN0_go69.out _ | refine IsSRd.far ?_ HN0_go69.out _ | refine IsSRd.far ?_ NB0_111.out _ | refine IsSRd.far ?_ NB0_112.out _) | exact HI0.out)⟩
 have n4_ : Aside0 (KeepBut w ((w81.setCell ⟨go69, (t106 : Int).toNat * 2, none⟩ (.int .i64 ((rd_TTie t108 t106).f1))).setCell ⟨go69, (t106 : Int).toNat * 2 + 1, none⟩ (.int .i64 ((rd_TTie t108 t106).f0))) g none) := ⟨by repeat (first | (with_reducible first | exact HK.out | apply KeepBut.set_ | apply keep_drewN | apply keep_drew | apply keep_alloc | refine keep_far ?_ GB69.out _ | refine keep_far ?_ GB69.out _ | refine keep_far ?_ GW111.out _ | refine keep_far ?_ GW112.out _) | exact HK.out)⟩
 have n5_ : Aside0 (Below w0.heap.size w0 ((w81.setCell ⟨go69, (t106 : Int).toNat * 2, none⟩ (.int .i64 ((rd_TTie t108 t106).f1))).setCell ⟨go69, (t106 : Int).toNat * 2 + 1, none⟩ (.int .i64 ((rd_TTie t108 t106).f0)))) := ⟨by repeat (first | (with_reducible first | exact HB.out | apply below_alloc | apply pw_below_drewN | apply below_drew1 | refine below_set ?_ (Nat.le_trans HL.out GB69.out) | refine below_set ?_ (Nat.le_trans HL.out GB69.out) | refine below_set ?_ (IsSRd.ge HI0.out) | refine below_set ?_ GE111.out | refine below_set ?_ GE112.out) | exact HB.out)⟩
 (try clear HO114)
 (try clear BK111)
 (try clear BK112)
 (try clear HI0)
 (try clear HK)
 (try clear HB)
 generalize ((w81.setCell ⟨go69, (t106 : Int).toNat * 2, none⟩ (.int .i64 ((rd_TTie t108 t106).f1))).setCell ⟨go69, (t106 : Int).toNat * 2 + 1, none⟩ (.int .i64 ((rd_TTie t108 t106).f0))) = w83 at n0_ n1_ n2_ n3_ n4_ n5_ ⊢
 have HO114 := n0_
 have BK111 := n1_
 have BK112 := n2_
 have HI0 := n3_
 have HK := n4_
 have HB := n5_
 clear n0_ n1_ n2_ n3_ n4_ n5_
 obtain ⟨hcz84_0, hcz84_1, hfz84_0, hfz84_1⟩ := b2 BK111
 have hnb85 := NB112_0.out
 have hnc85 := NB0_112.out
 obtain ⟨hcz86_0, hcz86_1, hfz86_0, hfz86_1⟩ := b2 BK112
 try go_wp2
 refine bodyPost_ret (results_cell_row rfl _ _ gb112 25 #[.int .i64 t100, .slice (some ⟨go69, 0, none⟩) t108.length co77] (0, 0) _ rfl (by (with_reducible repeat (first | refine blk_drewN ?_ _ | refine blk_drew ?_ | refine blk_alloc ?_ _)); refine blk_put (cs := #[.int .i64 t100, .slice none 0 0]) ?_ 1 _ rfl; (with_reducible repeat (first | refine blk_drewN ?_ _ | refine blk_drew ?_ | refine blk_alloc ?_ _)); refine blk_put (cs := #[.int .i64 0, .slice none 0 0]) ?_ 0 _ rfl; (with_reducible repeat (first | refine blk_drewN ?_ _ | refine blk_drew ?_ | refine blk_alloc ?_ _)); exact BK112.out) Try.underlying25 rfl (by kernel_rfl)) rfl ?_
 exact ⟨_, qe, by (with_reducible repeat (first | apply Kd.R_alloc | apply Kd.R_drewN | apply Kd.R_drew)); exact rf2 HO114.out BK112.out (fun _ hk => trivial), qi HI0.out, qj HB.out HI0.out, by repeat (first | (with_reducible first | exact HK.out | apply KeepBut.set_ | apply keep_drewN | apply keep_drew | apply keep_alloc | refine keep_far ?_ GW111.out _ | refine keep_far ?_ GW112.out _) | exact HK.out)⟩

set_option maxHeartbeats 8000000 in
set_option maxRecDepth 100000 in
theorem spec_l71Any.calls (k : Nat) (g : Nat) (s0_0 : List Int) (s0_1 : Int) (r1 : Int) (r2 : List (STie)) (r3 : Int) (w0 w : World) (hI : IsSRd w0 w g s0_0 s0_1) (hB : Below w0.heap.size w0 w) (h : spec_l71Any.f k s0_0 s0_1 = some (r1, r2, r3)) :
    Calls Try.prog 51 #[.pointer (some ⟨g, 0, none⟩)] w fun e w' => ∃ v1_ : Value, e = .returned (.agg #[.int .i64 r1, v1_]) ∧ Kd.R kTie 32 w' w.heap.size (fun _ => True) v1_ r2 ∧ IsSRd w0 w' g s0_0 r3 ∧ Below w0.heap.size w0 w' ∧ KeepBut w w' g none := by
 have hu25 := Try.underlying25
 have HI0 := q0 hI
 have HK := q0 (KeepBut.refl w g none)
 have HL := q0 hB.size
 clear hI
 have HW0 := q0 hB.size
 have HB := q0 hB
 clear hB
 have H : ((spec_l71Net.f k s0_0 s0_1).bind fun bt100 => ((spec_l6Rd_pick.f k s0_0 bt100.2.2 12).bind fun bt101 => (if bt101.1 = 0 then ((spec_l71Spoil.f k s0_0 bt101.2 bt100.1 bt100.2.1).bind fun bt102 => (some (bt102.1, bt102.2.1, bt102.2.2))) else (some (bt100.1, bt100.2.1, bt101.2))))) = some (r1, r2, r3) := h
 clear h
 obtain ⟨⟨t100, t103, t104⟩, A2, H⟩ := ob H
 obtain ⟨⟨t101, t105⟩, A3, H⟩ := ob H
 by_cases c4 : t101 = 0
 rotate_left
 · rw [if_neg c4] at H
   have c4b0 : (t101 == 0) = false := beq_eq_false_iff_ne.mpr c4
   have c4b1 : (t101 != 0) = true := bne_iff_ne.mpr c4
   simp only [Option.some.injEq, Prod.mk.injEq] at H
   obtain ⟨rfl, rfl, rfl⟩ := H
   go_enter Try.func51, Try.ntmps51
   go_wp2_with (first | ((with_reducible refine gd 2 ?_); refine be 2 #[.int .i64 0, .slice none 0 0] 25 ?_; intro gb108 hg w19 hbox hb; replace HB := q0 (below_step (qj HB.out HI0.out) hb); have BK108 := q0 (hbox); have GW108 := q0 ((by rw [hg]; exact (keep_size (w := w) (g := g) (row := none) (qh HK.out)) : w.heap.size ≤ gb108)); have GE108 := q0 ((Nat.le_trans HW0.out (by rw [hg]; exact (keep_size (w := w) (g := g) (row := none) (qh HK.out)) : w.heap.size ≤ gb108) : w0.heap.size ≤ gb108)); replace HK := q0 (KeepBut.trans (qh HK.out) (KeepBut.of_below hb g none) (.inl rfl)); have NB0_108 := q0 ((by rw [hg]; exact Nat.ne_of_lt (IsSRd.lt (show IsSRd w0 _ g s0_0 s0_1 from qi HI0.out)) : g ≠ gb108)); have NB108_0 := q0 ((by rw [hg]; exact Nat.ne_of_gt (IsSRd.lt (show IsSRd w0 _ g s0_0 s0_1 from qi HI0.out)) : gb108 ≠ g)); replace HI0 := q0 (IsSRd.below (qi HI0.out) hb); clear hb hbox hg) | ((with_reducible refine gf 91 ?_); refine gl 5 Try.func91 #[.pointer (some ⟨g, 0, none⟩)] ?_; (with_reducible refine (spec_l71Net.calls k g s0_0 s0_1 t100 t103 t104 w0 _ ?side1 ?side2 A2.out).mono ?_); (case side1 => exact qi HI0.out); (case side2 => exact qj HB.out HI0.out); rintro e w20 ⟨v109, rfl, ho0, hi, hb, hk⟩; refine ⟨_, rfl, ?_⟩; replace BK108 := q0 (kc hk BK108.out NB108_0.out); have HO110 := q0 (Kd.R_lower ho0 (keep_size (w := w) (g := g) (row := none) (qh HK.out))); replace HK := q0 (KeepBut.trans (qh HK.out) hk (.inl rfl)); replace HB := q0 (hb); replace HI0 := q0 (hi); (try clear hb); (try clear hb2); (try clear hk); (try clear hi); (try clear ho0)) | ((with_reducible refine gd 3 ?_); refine be 3 #[.int .i64 0, .slice none 0 0] 25 ?_; intro gb111 hg w21 hbox hb; replace HO110 := q0 (Kd.R_below (qr HO110.out) hb); replace HB := q0 (below_step (qj HB.out HI0.out) hb); have BK111 := q0 (hbox); have GW111 := q0 ((by rw [hg]; exact (keep_size (w := w) (g := g) (row := none) (qh HK.out)) : w.heap.size ≤ gb111)); have GE111 := q0 ((Nat.le_trans HW0.out (by rw [hg]; exact (keep_size (w := w) (g := g) (row := none) (qh HK.out)) : w.heap.size ≤ gb111) : w0.heap.size ≤ gb111)); replace HK := q0 (KeepBut.trans (qh HK.out) (KeepBut.of_below hb g none) (.inl rfl)); have NB108_111 := nl BK108 hg; have NB111_108 := ng BK108 hg; replace BK108 := kd BK108 hb; have NB0_111 := q0 ((by rw [hg]; exact Nat.ne_of_lt (IsSRd.lt (show IsSRd w0 _ g s0_0 t104 from qi HI0.out)) : g ≠ gb111)); have NB111_0 := q0 ((by rw [hg]; exact Nat.ne_of_gt (IsSRd.lt (show IsSRd w0 _ g s0_0 t104 from qi HI0.out)) : gb111 ≠ g)); replace HI0 := q0 (IsSRd.below (qi HI0.out) hb); clear hb hbox hg; have hnb22 := NB111_108.out; have hnc22 := NB108_111.out; have hnb23 := NB111_0.out; have hnc23 := NB0_111.out; obtain ⟨hcz24_0, hcz24_1, hfz24_0, hfz24_1⟩ := b2 BK111; obtain ⟨Ao25, co25, eo25⟩ := Kd.R_slice HO110.out; subst eo25) | ((with_reducible refine gf 59 ?_); refine gl 7 Try.func59 #[.pointer (some ⟨g, 0, none⟩), .int .i64 12] ?_; (with_reducible refine (spec_l6Rd_pick.calls k g s0_0 t104 12 t101 t105 w0 _ ?side1 ?side2 A3.out).mono ?_); (case side1 => exact qi HI0.out); (case side2 => exact qj HB.out HI0.out); rintro e w26 ⟨rfl, hi, hb, hk⟩; refine ⟨_, rfl, ?_⟩; replace BK108 := q0 (kc hk BK108.out NB108_0.out); replace HO110 := q0 (Kd.R_mono (Kd.R_keep (IsSRd.apart (show IsSRd w0 _ g s0_0 t104 from qi HI0.out) (by (with_reducible repeat (first | apply Kd.R_alloc | apply Kd.R_drewN | apply Kd.R_drew)); exact (rf2 HO110.out BK111.out (fun _ h_ => h_.1))) (by decide)) hk (fun _ h => h.2)) (fun _ h => h.1)); replace BK111 := q0 (KeepBut.blk hk (g' := gb111) (o := .cells #[.int .i64 t100, .slice Ao25 t103.length co25] 25 (0, 0)) (by (with_reducible repeat (first | refine blk_drewN ?_ _ | refine blk_drew ?_ | refine blk_alloc ?_ _)); refine blk_put (cs := #[.int .i64 t100, .slice none 0 0]) ?_ 1 _ rfl; (with_reducible repeat (first | refine blk_drewN ?_ _ | refine blk_drew ?_ | refine blk_alloc ?_ _)); refine blk_put (cs := #[.int .i64 0, .slice none 0 0]) ?_ 0 _ rfl; (with_reducible repeat (first | refine blk_drewN ?_ _ | refine blk_drew ?_ | refine blk_alloc ?_ _)); exact BK111.out) NB111_0.out (by simp)); replace HK := q0 (KeepBut.trans (qh HK.out) hk (.inl rfl)); replace HB := q0 (hb); replace HI0 := q0 (hi); (try clear hb); (try clear hb2); (try clear hk); (try clear hi); obtain ⟨hcz27_0, hcz27_1, hfz27_0, hfz27_1⟩ := b2 BK111; have hnb28 := NB108_0.out; have hnc28 := NB0_108.out; obtain ⟨hcz29_0, hcz29_1, hfz29_0, hfz29_1⟩ := b2 BK108))
   refine bodyPost_ret (results_cell_row rfl _ _ gb108 25 #[.int .i64 t100, .slice Ao25 t103.length co25] (0, 0) _ rfl (by (with_reducible repeat (first | refine blk_drewN ?_ _ | refine blk_drew ?_ | refine blk_alloc ?_ _)); refine blk_put (cs := #[.int .i64 t100, .slice none 0 0]) ?_ 1 _ rfl; (with_reducible repeat (first | refine blk_drewN ?_ _ | refine blk_drew ?_ | refine blk_alloc ?_ _)); refine blk_put (cs := #[.int .i64 0, .slice none 0 0]) ?_ 0 _ rfl; (with_reducible repeat (first | refine blk_drewN ?_ _ | refine blk_drew ?_ | refine blk_alloc ?_ _)); exact BK108.out) Try.underlying25 rfl (by kernel_rfl)) rfl ?_
   exact ⟨_, qe, by (with_reducible repeat (first | apply Kd.R_alloc | apply Kd.R_drewN | apply Kd.R_drew)); exact rf2 HO110.out BK108.out (fun _ hk => trivial), qi HI0.out, qj HB.out HI0.out, by repeat (first | (with_reducible first | exact HK.out | apply KeepBut.set_ | apply keep_drewN | apply keep_drew | apply keep_alloc | refine keep_far ?_ GW108.out _ | refine keep_far ?_ GW111.out _) | exact HK.out)⟩
 rw [if_pos c4] at H
 have c4b0 : (t101 == 0) = true := beq_iff_eq.mpr c4
 have c4b1 : (t101 != 0) = false := bne_eq_false_iff_eq.mpr c4
 clear c4
 obtain ⟨⟨t102, t106, t107⟩, A5, H⟩ := ob H
 simp only [Option.some.injEq, Prod.mk.injEq] at H
 obtain ⟨rfl, rfl, rfl⟩ := H
 go_enter Try.func51, Try.ntmps51
 go_wp2_with (first | ((with_reducible refine gd 2 ?_); refine be 2 #[.int .i64 0, .slice none 0 0] 25 ?_; intro gb108 hg w6 hbox hb; replace HB := q0 (below_step (qj HB.out HI0.out) hb); have BK108 := q0 (hbox); have GW108 := q0 ((by rw [hg]; exact (keep_size (w := w) (g := g) (row := none) (qh HK.out)) : w.heap.size ≤ gb108)); have GE108 := q0 ((Nat.le_trans HW0.out (by rw [hg]; exact (keep_size (w := w) (g := g) (row := none) (qh HK.out)) : w.heap.size ≤ gb108) : w0.heap.size ≤ gb108)); replace HK := q0 (KeepBut.trans (qh HK.out) (KeepBut.of_below hb g none) (.inl rfl)); have NB0_108 := q0 ((by rw [hg]; exact Nat.ne_of_lt (IsSRd.lt (show IsSRd w0 _ g s0_0 s0_1 from qi HI0.out)) : g ≠ gb108)); have NB108_0 := q0 ((by rw [hg]; exact Nat.ne_of_gt (IsSRd.lt (show IsSRd w0 _ g s0_0 s0_1 from qi HI0.out)) : gb108 ≠ g)); replace HI0 := q0 (IsSRd.below (qi HI0.out) hb); clear hb hbox hg) | ((with_reducible refine gf 91 ?_); refine gl 5 Try.func91 #[.pointer (some ⟨g, 0, none⟩)] ?_; (with_reducible refine (spec_l71Net.calls k g s0_0 s0_1 t100 t103 t104 w0 _ ?side1 ?side2 A2.out).mono ?_); (case side1 => exact qi HI0.out); (case side2 => exact qj HB.out HI0.out); rintro e w7 ⟨v109, rfl, ho0, hi, hb, hk⟩; refine ⟨_, rfl, ?_⟩; replace BK108 := q0 (kc hk BK108.out NB108_0.out); have HO110 := q0 (Kd.R_lower ho0 (keep_size (w := w) (g := g) (row := none) (qh HK.out))); replace HK := q0 (KeepBut.trans (qh HK.out) hk (.inl rfl)); replace HB := q0 (hb); replace HI0 := q0 (hi); (try clear hb); (try clear hb2); (try clear hk); (try clear hi); (try clear ho0)) | ((with_reducible refine gd 3 ?_); refine be 3 #[.int .i64 0, .slice none 0 0] 25 ?_; intro gb111 hg w8 hbox hb; replace HO110 := q0 (Kd.R_below (qr HO110.out) hb); replace HB := q0 (below_step (qj HB.out HI0.out) hb); have BK111 := q0 (hbox); have GW111 := q0 ((by rw [hg]; exact (keep_size (w := w) (g := g) (row := none) (qh HK.out)) : w.heap.size ≤ gb111)); have GE111 := q0 ((Nat.le_trans HW0.out (by rw [hg]; exact (keep_size (w := w) (g := g) (row := none) (qh HK.out)) : w.heap.size ≤ gb111) : w0.heap.size ≤ gb111)); replace HK := q0 (KeepBut.trans (qh HK.out) (KeepBut.of_below hb g none) (.inl rfl)); have NB108_111 := nl BK108 hg; have NB111_108 := ng BK108 hg; replace BK108 := kd BK108 hb; have NB0_111 := q0 ((by rw [hg]; exact Nat.ne_of_lt (IsSRd.lt (show IsSRd w0 _ g s0_0 t104 from qi HI0.out)) : g ≠ gb111)); have NB111_0 := q0 ((by rw [hg]; exact Nat.ne_of_gt (IsSRd.lt (show IsSRd w0 _ g s0_0 t104 from qi HI0.out)) : gb111 ≠ g)); replace HI0 := q0 (IsSRd.below (qi HI0.out) hb); clear hb hbox hg; have hnb9 := NB111_108.out; have hnc9 := NB108_111.out; have hnb10 := NB111_0.out; have hnc10 := NB0_111.out; obtain ⟨hcz11_0, hcz11_1, hfz11_0, hfz11_1⟩ := b2 BK111; obtain ⟨Ao12, co12, eo12⟩ := Kd.R_slice HO110.out; subst eo12) | ((with_reducible refine gf 59 ?_); refine gl 7 Try.func59 #[.pointer (some ⟨g, 0, none⟩), .int .i64 12] ?_; (with_reducible refine (spec_l6Rd_pick.calls k g s0_0 t104 12 t101 t105 w0 _ ?side1 ?side2 A3.out).mono ?_); (case side1 => exact qi HI0.out); (case side2 => exact qj HB.out HI0.out); rintro e w13 ⟨rfl, hi, hb, hk⟩; refine ⟨_, rfl, ?_⟩; replace BK108 := q0 (kc hk BK108.out NB108_0.out); replace HO110 := q0 (Kd.R_mono (Kd.R_keep (IsSRd.apart (show IsSRd w0 _ g s0_0 t104 from qi HI0.out) (by (with_reducible repeat (first | apply Kd.R_alloc | apply Kd.R_drewN | apply Kd.R_drew)); exact (rf2 HO110.out BK111.out (fun _ h_ => h_.1))) (by decide)) hk (fun _ h => h.2)) (fun _ h => h.1)); replace BK111 := q0 (KeepBut.blk hk (g' := gb111) (o := .cells #[.int .i64 t100, .slice Ao12 t103.length co12] 25 (0, 0)) (by (with_reducible repeat (first | refine blk_drewN ?_ _ | refine blk_drew ?_ | refine blk_alloc ?_ _)); refine blk_put (cs := #[.int .i64 t100, .slice none 0 0]) ?_ 1 _ rfl; (with_reducible repeat (first | refine blk_drewN ?_ _ | refine blk_drew ?_ | refine blk_alloc ?_ _)); refine blk_put (cs := #[.int .i64 0, .slice none 0 0]) ?_ 0 _ rfl; (with_reducible repeat (first | refine blk_drewN ?_ _ | refine blk_drew ?_ | refine blk_alloc ?_ _)); exact BK111.out) NB111_0.out (by simp)); replace HK := q0 (KeepBut.trans (qh HK.out) hk (.inl rfl)); replace HB := q0 (hb); replace HI0 := q0 (hi); (try clear hb); (try clear hb2); (try clear hk); (try clear hi); obtain ⟨hcz14_0, hcz14_1, hfz14_0, hfz14_1⟩ := b2 BK111) | ((with_reducible refine gf 92 ?_); refine gl 11 Try.func92 #[.pointer (some ⟨g, 0, none⟩), .agg #[.int .i64 t100, .slice Ao12 t103.length co12]] ?_; (with_reducible refine (spec_l71Spoil.calls k g s0_0 t105 t100 _ _ t103 t102 t106 t107 w0 _ ?side1 ?side2 ?side3 ?side4 A5.out).mono ?_); (case side1 => exact qi HI0.out); (case side2 => exact qj HB.out HI0.out); (case side3 => exact Kd.C_foot_own (IsSRd.apart (show IsSRd w0 _ g s0_0 t105 from qi HI0.out) (qr HO110.out) (by decide)) (fun _ h_ => h_.2)); (case side4 => exact (Kd.R_reads' HO110.out).2.1); rintro e w15 ⟨v112, rfl, ho0, hi, hb, hk⟩; refine ⟨_, rfl, ?_⟩; replace BK108 := q0 (kc hk BK108.out NB108_0.out); replace BK111 := q0 (kc hk BK111.out NB111_0.out); have HO113 := q0 (Kd.R_lower (Kd.R_new' ho0 (Kd.R_lt (qr HO110.out))) (keep_size (w := w) (g := g) (row := none) (qh HK.out))); replace HO110 := q0 (Kd.R_mono (Kd.R_told (Kd.R_oldK (IsSRd.apart (show IsSRd w0 _ g s0_0 t105 from qi HI0.out) (qr HO110.out) (by decide)) hk) (Kd.R_base ho0)) (fun _ h_ => h_.1)); replace HK := q0 (KeepBut.trans (qh HK.out) hk (.inl rfl)); replace HB := q0 (hb); replace HI0 := q0 (hi); (try clear hb); (try clear hb2); (try clear hk); (try clear hi); (try clear ho0); have hnb16 := NB108_0.out; have hnc16 := NB0_108.out; obtain ⟨hcz17_0, hcz17_1, hfz17_0, hfz17_1⟩ := b2 BK108; obtain ⟨Ao18, co18, eo18⟩ := Kd.R_slice HO113.out; subst eo18))
 refine bodyPost_ret (results_cell_row rfl _ _ gb108 25 #[.int .i64 t102, .slice Ao18 t106.length co18] (0, 0) _ rfl (by (with_reducible repeat (first | refine blk_drewN ?_ _ | refine blk_drew ?_ | refine blk_alloc ?_ _)); refine blk_put (cs := #[.int .i64 t102, .slice none 0 0]) ?_ 1 _ rfl; (with_reducible repeat (first | refine blk_drewN ?_ _ | refine blk_drew ?_ | refine blk_alloc ?_ _)); refine blk_put (cs := #[.int .i64 0, .slice none 0 0]) ?_ 0 _ rfl; (with_reducible repeat (first | refine blk_drewN ?_ _ | refine blk_drew ?_ | refine blk_alloc ?_ _)); exact BK108.out) Try.underlying25 rfl (by kernel_rfl)) rfl ?_
 exact ⟨_, qe, by (with_reducible repeat (first | apply Kd.R_alloc | apply Kd.R_drewN | apply Kd.R_drew)); exact rf2 HO113.out BK108.out (fun _ hk => trivial), qi HI0.out, qj HB.out HI0.out, by repeat (first | (with_reducible first | exact HK.out | apply KeepBut.set_ | apply keep_drewN | apply keep_drew | apply keep_alloc | refine keep_far ?_ GW108.out _ | refine keep_far ?_ GW111.out _) | exact HK.out)⟩

set_option maxHeartbeats 8000000 in
set_option maxRecDepth 100000 in
theorem spec_l6Open.calls (A0 : Option Addr) (c0 : Nat) (l0 : List Int) (r1 : List Int) (r2 : Int) (w0 w : World) (hB : Below w0.heap.size w0 w) (hr0 : Kd.C (Kd.int .u8) w0 A0 l0.length l0) (hc0 : l0.length ≤ c0) (h : spec_l6Open.f l0 = some (r1, r2)) :
    Calls Try.prog 52 #[.slice A0 l0.length c0] w fun e w' => ∃ g_ : Nat, e = .returned (.pointer (some ⟨g_, 0, none⟩)) ∧ IsSRd w0 w' g_ r1 r2 ∧ Below w0.heap.size w0 w' ∧ Below w.heap.size w w' := by
 have hu91 := Try.underlying91
 have HR0 := q0 hr0
 have HC0 := q0 hc0
 clear hr0 hc0
 have HBW := q0 (Below.refl w.heap.size w)
 have HW0 := q0 hB.size
 have HB := q0 hB
 clear hB
 have H : (if (l0.length : Int) > 2000 then (if 2000 ≤ (l0.length : Int) then (some (l0.take 2000, 0)) else (none)) else (some (l0, 0))) = some (r1, r2) := h
 clear h
 by_cases c2 : (l0.length : Int) > 2000
 rotate_left
 · rw [if_neg c2] at H
   have c2b0 := decide_eq_false c2
   have c2b1 : decide (2000 < l0.length) = false := decide_eq_false (by omega)
   clear c2
   simp only [Option.some.injEq, Prod.mk.injEq] at H
   obtain ⟨rfl, rfl⟩ := H
   go_enter Try.func52, Try.ntmps52
   go_wp2_with (first | ((with_reducible refine gd 10 ?_); refine be 10 #[.slice A0 l0.length c0, .int .i64 0] 91 ?_; intro gb102 hg w6 hbox hb; replace HB := bp HB hb; have BK102 := q0 (hbox); have GW102 := q0 ((by rw [hg]; exact (below_size (by repeat (first | (with_reducible first | exact HBW.out | apply below_alloc | apply pw_below_drewN | apply below_drew1) | exact HBW.out))) : w.heap.size ≤ gb102)); have GE102 := q0 ((Nat.le_trans HW0.out (by rw [hg]; exact (below_size (by repeat (first | (with_reducible first | exact HBW.out | apply below_alloc | apply pw_below_drewN | apply below_drew1) | exact HBW.out))) : w.heap.size ≤ gb102) : w0.heap.size ≤ gb102)); replace HBW := q0 (below_step HBW.out hb); clear hb hbox hg))
   go_ret
   exact ⟨_, rfl, (show IsSRd w0 _ gb102 l0 0 from ⟨_, _, qk BK102.out, GE102.out, HR0.out⟩), qb HB.out, by repeat (first | (with_reducible first | exact HBW.out | apply below_alloc | apply pw_below_drewN | apply below_drew1 | refine below_set ?_ GW102.out) | exact HBW.out)⟩
 rw [if_pos c2] at H
 have c2b0 := decide_eq_true c2
 have c2b1 : decide (2000 < l0.length) = true := decide_eq_true (by omega)
 clear c2
 obtain ⟨c3, H⟩ : (2000 ≤ (l0.length : Int)) ∧ _ := og H
 have c3b0 := eq_true c3
 have c3b1 := decide_eq_true c3
 clear c3
 simp only [Option.some.injEq, Prod.mk.injEq] at H
 obtain ⟨rfl, rfl⟩ := H
 obtain ⟨i04, hi04, _, hsz4, _⟩ := info_parts info5
 obtain ⟨hcut4, hA4, hC4⟩ := print_take_of (P := Try.prog) (Value.int .u8) 0 22 5 .i64 Try.underlying22 hi04 hsz4 A0 c0 l0 2000 (by omega) (of_decide_eq_true qa) HC0.out
 have HR100 := q0 (Kd.C_of_reads (h1 := fun _ => rfl) (hA4 _ (Kd.reads_of_C HR0.out)))
 have HC100 := q0 hC4
 clear hA4 hC4 hi04 hsz4
 go_enter Try.func52, Try.ntmps52
 go_wp2_with (first | ((with_reducible refine gd 10 ?_); refine be 10 #[.slice A0 (l0.take 2000).length c0, .int .i64 0] 91 ?_; intro gb101 hg w5 hbox hb; replace HB := bp HB hb; have BK101 := q0 (hbox); have GW101 := q0 ((by rw [hg]; exact (below_size (by repeat (first | (with_reducible first | exact HBW.out | apply below_alloc | apply pw_below_drewN | apply below_drew1) | exact HBW.out))) : w.heap.size ≤ gb101)); have GE101 := q0 ((Nat.le_trans HW0.out (by rw [hg]; exact (below_size (by repeat (first | (with_reducible first | exact HBW.out | apply below_alloc | apply pw_below_drewN | apply below_drew1) | exact HBW.out))) : w.heap.size ≤ gb101) : w0.heap.size ≤ gb101)); replace HBW := q0 (below_step HBW.out hb); clear hb hbox hg))
 go_ret
 exact ⟨_, rfl, (show IsSRd w0 _ gb101 (l0.take 2000) 0 from ⟨_, _, qk BK101.out, GE101.out, HR100.out⟩), qb HB.out, by repeat (first | (with_reducible first | exact HBW.out | apply below_alloc | apply pw_below_drewN | apply below_drew1 | refine below_set ?_ GW101.out) | exact HBW.out)⟩

end Go.Proofs.Ytgoembpmhlmafaa.P
