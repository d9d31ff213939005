import Derived.Test.YtmfmeenfhdohcaaP0
import Derived.Test.YtmfmeenfhdohcaaP2
import Derived.Test.YtmfmeenfhdohcaaP9
namespace Go.Proofs.Ytmfmeenfhdohcaa.P
open Go.RowKit Go.Proofs.YtmfmeenfhdohcaaW.PrintWords Go.Proofs.YtmfmeenfhdohcaaW.PrintLast Go.Proofs.YtmfmeenfhdohcaaW.PrintMore
attribute [local go_sem] max2_int min2_int max_two min_two max_three min_three max_four min_four
set_option linter.unusedVariables false
set_option linter.unusedSimpArgs false
attribute [local go_sem high] eqATie
theorem own_cell {w : World} {base : Nat} {ok : Nat → Prop} {ad : Addr} {n c : Nat} {xs : List Int} {i : Int} (h : Kd.R (Kd.int .i64) 3 w base ok (.slice (some ad) n c) xs) (p : (0 ≤ i) = True) (q : (i < (xs.length : Int)) = True) : w.cell? (ad.add i.toNat) = some (.int .i64 (rd xs i)) := by
 obtain ⟨a, e, hx⟩ := Kd.at_int (Kd.R_reads' h).2.2 i (of_eq_true p) (of_eq_true q)
 cases e
 exact hx
def spec_l2On.T13 : Bool × List (List Nat × List Nat) := (true, [([], []), ([], []), ([], []), ([1, 2], [1, 2]), ([], []), ([], []), ([4, 5], [4, 5]), ([6], [6]), ([7], [7]), ([3, 8, 3], [3, 8]), ([], []), ([], []), ([], []), ([0, 9, 10, 11, 12, 9], [0, 9, 10, 11, 12]), ([13, 13, 0, 1, 2, 3, 4, 5, 6, 7, 8, 9, 10, 11, 12, 13], [12, 13])])
def spec_l2On.B13 : List Nat := [0, 0, 0, 6, 0, 0, 48, 112, 240, 510, 0, 0, 0, 8191, 16383]
theorem spec_l2On.tab13 : rtab .any (opsOf Try.f46 13) = spec_l2On.T13 := by kernel_rfl
theorem spec_l2On.bits13 : waitsOk spec_l2On.T13.2 spec_l2On.B13 = true := by kernel_rfl
set_option maxHeartbeats 8000000 in
set_option maxRecDepth 100000 in
theorem spec_l2On.calls (k : Nat) : ∀ (a0_0 : Int) (A0_1 : Option Addr) (c0_1 : Nat) (l0_1 : List (STie)) (A1 : Option Addr) (c1 : Nat) (l1 : List Int) (a2 : Int) (a3 : Int) (P4_ : Nat → Prop) (u108_ : Value) (l4 : List (List Int)) (r : List (List Int)) (w0 w : World) (hB : Below w0.heap.size w0 w) (hr0_1 : ∀ W_, Kept w W_ (fun k_ => P4_ k_) → Kd.C kTie W_ A0_1 l0_1.length l0_1) (hc0_1 : l0_1.length ≤ c0_1) (hr1 : ∀ W_, Kept w W_ (fun k_ => P4_ k_) → Kd.C (Kd.int .i64) W_ A1 l1.length l1) (hc1 : l1.length ≤ c1) (ho4 : Kd.S (Kd.slice 3 (Kd.int .i64)) 26 w w0.heap.size P4_ u108_ l4) (h : spec_l2On.f k a0_0 l0_1 l1 a2 a3 l4 = some r),
    Calls Try.prog 46 #[.agg #[.int .i64 a0_0, .slice A0_1 l0_1.length c0_1], .slice A1 l1.length c1, .int .i64 a2, .int .i64 a3, u108_] w fun e w' => ∃ v0_ : Value, e = .returned (v0_) ∧ Kd.S (Kd.slice 3 (Kd.int .i64)) 26 w' w0.heap.size (fun k_ => (P4_ k_ ∨ w.heap.size ≤ k_)) v0_ r ∧ Below w0.heap.size w0 w' ∧ Kept w w' (fun k_ => P4_ k_) := by
 induction k using Nat.strongRecOn with
 | _ k ih =>
 intro a0_0 A0_1 c0_1 l0_1 A1 c1 l1 a2 a3 P4_ u108_ l4 r w0 w hB hr0_1 hc0_1 hr1 hc1 ho4 h
 cases k with
 | zero => exact absurd h (by simp [spec_l2On.f])
 | succ k =>
 simp only [spec_l2On.f] at h
 have hu31 := Try.underlying31
 have HR0_1 := Aside0.mk hr0_1
 have HC0_1 := Aside0.mk hc0_1
 clear hr0_1 hc0_1
 have HR1 := Aside0.mk hr1
 have HC1 := Aside0.mk hc1
 clear hr1 hc1
 have HO4 := q0 (show Kd.S (Kd.slice 3 (Kd.int .i64)) 26 w w0.heap.size (fun k_ => (P4_ k_ ∨ w.heap.size ≤ k_)) u108_ l4 from Kd.S_mono ho4 (fun k_ hk => (.inl hk)))
 have HK := q0 (Kept.refl w (fun k_ => P4_ k_))
 have HW0 := Aside0.mk hB.size
 have HB := Aside0.mk hB
 clear hB
 have H : (if 0 ≤ (wrap64 ((l1.length : Int) - 1)) then (if (wrap64 ((l1.length : Int) - 1)) < (l1.length : Int) then (if (rd l1 (wrap64 ((l1.length : Int) - 1))) = a2 then (if (l1.length : Int) = a3 then ((some (([] : List Int) : List Int)).bind fun y109 => (if y109.length + l1.length < 17592186044416 then ((some (y109 ++ l1 : List Int)).bind fun y106 => (if l4.length < 5864062014805 then (some (l4 ++ [y106])) else (none))) else (none))) else (some l4)) else (if (l1.length : Int) ≥ a3 then (some l4) else ((spec_l2Next.f k a0_0 l0_1 (rd l1 (wrap64 ((l1.length : Int) - 1)))).bind fun t107 => (spec_l2On.l0 k l1 a2 a3 l4 t107 0 a0_0 l0_1)))) else (none)) else (none)) = some r := h
 clear h
 obtain ⟨ji6, hji6⟩ : ∃ j_ : Int, (wrap64 ((l1.length : Int) - 1)) = j_ := ⟨_, rfl⟩
 replace H : (if 0 ≤ (ji6) then (if (ji6) < (l1.length : Int) then (if (rd l1 (ji6)) = a2 then (if (l1.length : Int) = a3 then ((some (([] : List Int) : List Int)).bind fun y109 => (if y109.length + l1.length < 17592186044416 then ((some (y109 ++ l1 : List Int)).bind fun y106 => (if l4.length < 5864062014805 then (some (l4 ++ [y106])) else (none))) else (none))) else (some l4)) else (if (l1.length : Int) ≥ a3 then (some l4) else ((spec_l2Next.f k a0_0 l0_1 (rd l1 (ji6))).bind fun t107 => (spec_l2On.l0 k l1 a2 a3 l4 t107 0 a0_0 l0_1)))) else (none)) else (none)) = some r := by first | (rw [hji6] at H; exact H) | (simp only [hji6] at H ⊢; exact H)
 have hji6w : (IntKind.i64.wrap ((l1.length : Int) - 1)) = ji6 := (i64_w _).trans hji6
 by_cases c7 : 0 ≤ (ji6)
 rotate_left
 · rw [if_neg c7] at H
   exact absurd H (by simp)
 rw [if_pos c7] at H
 have c7b0 : decide (0 ≤ (ji6)) = true := decide_eq_true c7
 clear c7
 by_cases c8 : (ji6) < (l1.length : Int)
 rotate_left
 · rw [if_neg c8] at H
   exact absurd H (by simp)
 rw [if_pos c8] at H
 have c8b0 : decide ((ji6) < (l1.length : Int)) = true := decide_eq_true c8
 clear c8
 by_cases c9 : (rd l1 (ji6)) = a2
 · rw [if_pos c9] at H
   have c9b0 : ((rd l1 (ji6)) == a2) = true := beq_iff_eq.mpr c9
   have c9b1 : ((rd l1 (ji6)) != a2) = false := bne_eq_false_iff_eq.mpr c9
   clear c9
   by_cases c10 : (l1.length : Int) = a3
   rotate_left
   · rw [if_neg c10] at H
     have c10b0 : ((l1.length : Int) == a3) = false := beq_eq_false_iff_ne.mpr c10
     have c10b1 : ((l1.length : Int) != a3) = true := bne_iff_ne.mpr c10
     obtain rfl := Option.some.inj H
     go_enter Try.func46, Try.ntmps46
     go_wp2_with (first | ((with_reducible refine gate_dst (N := 5) rfl ?_); refine be 5 #[.int .i64 a0_0, .slice A0_1 l0_1.length c0_1] 31 ?_; intro gb111 hg w19 hbox hb; replace HO4 := q0 (Kd.S_below (qv HO4.out) hb); have BK111 := q0 (hbox); have GW111 := q0 ((by rw [hg]; exact (by first | exact HK.out.1 | exact (qp HK.out).1) : w.heap.size ≤ gb111)); replace HK := q0 (Kept.below (S := (fun k_ => P4_ k_)) (qp HK.out) hb); have GE111 := q0 ((bs HB.out hg : w0.heap.size ≤ gb111)); replace HB := q0 (below_step (qb HB.out) hb); clear hb hbox hg; have p100 : 0 ≤ ((ji6) : Int) := of_decide_eq_true qa; have q100 : (ji6) < (l1.length : Int) := of_decide_eq_true qa; obtain ⟨ad100, e100, hx100_0⟩ := Kd.at_int (Kd.C_kept_now HR1.out HK.out) (ji6) p100 q100; cases e100; replace p100 := eq_true p100; replace q100 := eq_true q100))
     go_ret
     exact ⟨_, by first | rfl | (simp [errW_none, errW_some] <;> rfl) | (simp only [← hji6]; first | rfl | (simp [errW_none, errW_some] <;> rfl)) | (simp [*, errW_none, errW_some] <;> rfl), qv HO4.out, qb HB.out, qp HK.out⟩
   rw [if_pos c10] at H
   have c10b0 : ((l1.length : Int) == a3) = true := beq_iff_eq.mpr c10
   have c10b1 : ((l1.length : Int) != a3) = false := bne_eq_false_iff_eq.mpr c10
   clear c10
   obtain ⟨y109, hy109⟩ : ∃ y_ : List Int, y_ = (([] : List Int)) := ⟨_, rfl⟩
   replace H : (if y109.length + l1.length < 17592186044416 then ((some (y109 ++ l1 : List Int)).bind fun y106 => (if l4.length < 5864062014805 then (some (l4 ++ [y106])) else (none))) else (none)) = some r := qy H hy109
   have Ny109 := Aside0.mk hy109
   clear hy109
   by_cases c12 : y109.length + l1.length < 17592186044416
   rotate_left
   · rw [if_neg c12] at H
     exact absurd H (by simp)
   rw [if_pos c12] at H
   have LMc12 := Aside0.mk c12
   clear c12
   obtain ⟨y106, hy106⟩ : ∃ y_ : List Int, y_ = (y109 ++ l1) := ⟨_, rfl⟩
   replace H : (if l4.length < 5864062014805 then (some (l4 ++ [y106])) else (none)) = some r := qy H hy106
   have Ny106 := Aside0.mk hy106
   clear hy106
   by_cases c11 : l4.length < 5864062014805
   rotate_left
   · rw [if_neg c11] at H
     exact absurd H (by simp)
   rw [if_pos c11] at H
   have LMc11 := Aside0.mk c11
   clear c11
   obtain ⟨y110, hy110⟩ : ∃ y_ : List (List Int), y_ = (l4 ++ [y106]) := ⟨_, rfl⟩
   replace H : (some y110) = some r := qy H hy110
   have Ny110 := Aside0.mk hy110
   clear hy110
   obtain rfl := Option.some.inj H
   go_enter Try.func46, Try.ntmps46
   go_wp2_with (first | ((with_reducible refine gate_dst (N := 5) rfl ?_); refine be 5 #[.int .i64 a0_0, .slice A0_1 l0_1.length c0_1] 31 ?_; intro gb111 hg w12 hbox hb; replace HO4 := q0 (Kd.S_below (qv HO4.out) hb); have BK111 := q0 (hbox); have GW111 := q0 ((by rw [hg]; exact (by first | exact HK.out.1 | exact (qp HK.out).1) : w.heap.size ≤ gb111)); replace HK := q0 (Kept.below (S := (fun k_ => P4_ k_)) (qp HK.out) hb); have GE111 := q0 ((bs HB.out hg : w0.heap.size ≤ gb111)); replace HB := q0 (below_step (qb HB.out) hb); clear hb hbox hg; have p100 : 0 ≤ ((ji6) : Int) := of_decide_eq_true qa; have q100 : (ji6) < (l1.length : Int) := of_decide_eq_true qa; obtain ⟨ad100, e100, hx100_0⟩ := Kd.at_int (Kd.C_kept_now HR1.out HK.out) (ji6) p100 q100; cases e100; replace p100 := eq_true p100; replace q100 := eq_true q100) | ((with_reducible refine gate_dst (N := 28) rfl ?_); refine Kd.R_lit (Kd.int .i64) _ 3 ?hg (N := 28) ?hd (xs := ([] : List Int)) (inner := []) (ok := fun _ => True) (okp := fun _ => True) ?hr ?hp (fun _ hk => hk) trivial (Below.refl _ _) (Nat.le_refl _) (by simp) ?_; (case hd => rfl); (case hg => rfl); (case hr => first | (go_simp; done) | (go_simp; rfl)); (case hp => exact (Reps.none _ _)); intro v112 w13 ho14 hb hg_ hnew_; clear hg_ hnew_; (first | rw [← Ny109.out] at ho14 | (simp only [Int.reduceToNat] at ho14; rw [← Ny109.out] at ho14)); have HO113 := q0 (Kd.R_lower (Kd.R_new' (Kd.R_newM (M := (fun k_ => (P4_ k_ ∨ w.heap.size ≤ k_))) ho14 (by first | exact HK.out.1 | exact (qp HK.out).1) (fun k_ h_ => .inr h_)) (Kd.S_lt (qv HO4.out))) (below_size (qb HB.out))); replace HO4 := q0 (Kd.S_elder' (qv HO4.out) (Kd.R_base ho14) hb); replace BK111 := q0 (kb BK111.out hb); replace HK := q0 (Kept.below (S := (fun k_ => P4_ k_)) (qp HK.out) hb); replace HB := q0 (below_step (qb HB.out) hb); clear hb ho14) | ((with_reducible refine gate_builtin (b := .append) (xs := #[.tmp 28, .tmp 29]) rfl ?_); at_builtin; refine Kd.R_append_rows (Kd.int .i64) (w0 := w0) w0.heap.size rfl (.tmp 28) (.tmp 29) 26 3 (.int .i64 0) 8 rfl Try.underlying26 info3 rfl (by decide) (by omega) v112 y109 l1 _ _ _ (fun k_ => (P4_ k_ ∨ w.heap.size ≤ k_) ∧ some k_ ≠ (u108_ : Value).ownBlock) (fun _ => False) rfl rfl ?aO ?aR (fun _ _ h => h) (fun _ h => h.elim) ?aF ?aB ?aS ?aL ?_; (case aR => exact Kd.C_kept_now HR1.out (qp HK.out)); (case aB => exact (qb HB.out)); (case aF => exact (fun k_ hk => ⟨(.inr (Nat.le_trans (by first | exact HK.out.1 | exact (qp HK.out).1) hk)), Kd.fresh' (Kd.S_lt (qv HO4.out)) k_ hk⟩)); (case aO => exact (by (with_reducible repeat (first | apply Kd.R_alloc | apply Kd.R_drewN | apply Kd.R_drew)); exact Kd.R_mono HO113.out (fun _ hk => ⟨hk.1.1, hk.2⟩))); (case aS => exact (below_size (qb HB.out))); (case aL => have := LMc12.out; omega); intro v114 w15 ho hb hg hat; rw [← Ny106.out] at ho; replace HO4 := q0 (Kd.S_after (ok := (fun k_ => (P4_ k_ ∨ w.heap.size ≤ k_))) (qv HO4.out) hg hat); replace BK111 := q0 (blk_grown (g := gb111) (o := .cells #[.int .i64 a0_0, .slice A0_1 l0_1.length c0_1] 31 (0, 0)) (qk BK111.out) hg (Kd.R_ne HO113.out BK111.out (by decide))); replace HB := q0 (hb); replace HK := q0 (Kept.of_grown (S := (fun k_ => P4_ k_)) hg (qp HK.out) (fun k_ e_ => (HO113.out.1 k_ e_).1.1)); have HO115 := q0 (ho); clear HO113; clear ho hb hg hat; obtain ⟨Ao14, co14, eo14⟩ := Kd.R_slice HO115.out; subst eo14) | ((with_reducible refine gate_builtin (b := .append) (xs := #[.tmp 27, .tmp 31]) rfl ?_); at_builtin; refine Kd.S_append (Kd.slice 3 (Kd.int .i64)) (w0 := w0) w0.heap.size rfl (.tmp 27) (.tmp 31) 38 26 (.slice none 0 0) 24 rfl Try.underlying38 info26 rfl (by decide) (by omega) u108_ l4 y106 [.slice Ao14 y106.length co14] (fun k_ => (P4_ k_ ∨ w.heap.size ≤ k_)) (fun k_ => some k_ = (.slice Ao14 y106.length co14 : Value).ownBlock) rfl rfl ?aP (fun k_ hk_ => HO115.out.1 k_ hk_.symm) ?aF ?aO ?aB ?aS ?aL ?_; (case aP => exact Kd.M_row (Kd.R_tight rfl HO115.out)); (case aB => exact (qb HB.out)); (case aF => exact (fun k_ hk => .inr (Nat.le_trans (by first | exact HK.out.1 | exact (qp HK.out).1) hk))); (case aO => exact (qv HO4.out)); (case aS => exact (below_size (qb HB.out))); (case aL => have := LMc11.out; omega); intro v116 w16 ho hb hg hat; rw [← Ny110.out] at ho; replace HB := q0 (hb); replace HK := q0 (Kept.of_grown (S := (fun k_ => P4_ k_)) hg (qp HK.out) (fun k_ e_ => ((Kd.S_R HO4.out).1 k_ e_).1)); have HO117 := q0 (ho); clear HO4; clear ho hb hg hat))
   go_ret
   exact ⟨_, by first | rfl | (simp only [← hji6]; first | rfl | (simp; done)) | (simp [*]; done), qv HO117.out, qb HB.out, qp HK.out⟩
 rw [if_neg c9] at H
 have c9b0 : ((rd l1 (ji6)) == a2) = false := beq_eq_false_iff_ne.mpr c9
 have c9b1 : ((rd l1 (ji6)) != a2) = true := bne_iff_ne.mpr c9
 by_cases c20 : (l1.length : Int) ≥ a3
 · rw [if_pos c20] at H
   have c20b0 : decide (a3 ≤ (l1.length : Int)) = true := decide_eq_true c20
   clear c20
   obtain rfl := Option.some.inj H
   go_enter Try.func46, Try.ntmps46
   go_wp2_with (first | ((with_reducible refine gate_dst (N := 5) rfl ?_); refine be 5 #[.int .i64 a0_0, .slice A0_1 l0_1.length c0_1] 31 ?_; intro gb111 hg w21 hbox hb; replace HO4 := q0 (Kd.S_below (qv HO4.out) hb); have BK111 := q0 (hbox); have GW111 := q0 ((by rw [hg]; exact (by first | exact HK.out.1 | exact (qp HK.out).1) : w.heap.size ≤ gb111)); replace HK := q0 (Kept.below (S := (fun k_ => P4_ k_)) (qp HK.out) hb); have GE111 := q0 ((bs HB.out hg : w0.heap.size ≤ gb111)); replace HB := q0 (below_step (qb HB.out) hb); clear hb hbox hg; have p100 : 0 ≤ ((ji6) : Int) := of_decide_eq_true qa; have q100 : (ji6) < (l1.length : Int) := of_decide_eq_true qa; obtain ⟨ad100, e100, hx100_0⟩ := Kd.at_int (Kd.C_kept_now HR1.out HK.out) (ji6) p100 q100; cases e100; replace p100 := eq_true p100; replace q100 := eq_true q100))
   go_ret
   exact ⟨_, by first | rfl | (simp [errW_none, errW_some] <;> rfl) | (simp only [← hji6]; first | rfl | (simp [errW_none, errW_some] <;> rfl)) | (simp [*, errW_none, errW_some] <;> rfl), qv HO4.out, qb HB.out, qp HK.out⟩
 rw [if_neg c20] at H
 have c20b0 : decide (a3 ≤ (l1.length : Int)) = false := decide_eq_false c20
 clear c20
 replace H := Option.bind_eq_some_iff.mp H
 obtain ⟨t107, A118, H⟩ := H
 have A22 := Aside0.mk A118
 clear A118
 have H' := Aside0.mk H
 clear H
 go_enter Try.func46, Try.ntmps46
 go_wp2_with (first | ((with_reducible refine gate_dst (N := 5) rfl ?_); refine be 5 #[.int .i64 a0_0, .slice A0_1 l0_1.length c0_1] 31 ?_; intro gb111 hg w23 hbox hb; replace HO4 := q0 (Kd.S_below (qv HO4.out) hb); have BK111 := q0 (hbox); have GW111 := q0 ((by rw [hg]; exact (by first | exact HK.out.1 | exact (qp HK.out).1) : w.heap.size ≤ gb111)); replace HK := q0 (Kept.below (S := (fun k_ => P4_ k_)) (qp HK.out) hb); have GE111 := q0 ((bs HB.out hg : w0.heap.size ≤ gb111)); replace HB := q0 (below_step (qb HB.out) hb); clear hb hbox hg; have p100 : 0 ≤ ((ji6) : Int) := of_decide_eq_true qa; have q100 : (ji6) < (l1.length : Int) := of_decide_eq_true qa; obtain ⟨ad100, e100, hx100_0⟩ := Kd.at_int (Kd.C_kept_now HR1.out HK.out) (ji6) p100 q100; cases e100; replace p100 := eq_true p100; replace q100 := eq_true q100; have hcz24_0 : w23.cell? ⟨gb111, 0, none⟩ = some (.int .i64 a0_0) := (blk_cell BK111.out 0).trans rfl; have hcz24_1 : w23.cell? ⟨gb111, 1, none⟩ = some (.slice A0_1 l0_1.length c0_1) := (blk_cell BK111.out 1).trans rfl; have hfz24_0 := blk_frozen BK111.out 0; have hfz24_1 := blk_frozen BK111.out 1) | ((with_reducible refine gate_callee (f := 42) rfl ?_); refine goesL_ (some 41) rfl rfl Try.func42 (by kernel_rfl) rfl #[.agg #[.int .i64 a0_0, .slice A0_1 l0_1.length c0_1], .int .i64 (rd l1 (ji6))] rfl (by (try simp only [List.map_toArray, List.map_cons, List.map_nil]); first | done | (simp only [hji6]; rfl) | rfl | (simp only [List.length_drop, List.length_take]; rfl)) ?_; (with_reducible refine (spec_l2Next.calls k a0_0 _ _ l0_1 (rd l1 (ji6)) t107 _ ?side1 ?side2 A22.out).mono ?_); (case side1 => exact Kd.C_kept_now HR0_1.out (qp HK.out)); (case side2 => exact HC0_1.out); rintro e w25 ⟨v119, rfl, ho0, hb⟩; refine ⟨_, rfl, ?_⟩; have HO120 := q0 (Kd.R_lower (Kd.R_new' (Kd.R_newM (M := fun k_ => (P4_ k_ ∨ w.heap.size ≤ k_)) ho0 (by first | exact HK.out.1 | exact (qp HK.out).1) (fun k_ h_ => .inr h_)) (Kd.S_lt (qv HO4.out))) (below_size (qb HB.out))); replace HO4 := q0 (Kd.S_elder' (qv HO4.out) (Kd.R_base ho0) hb); replace BK111 := q0 (kb BK111.out hb); replace HK := q0 (Kept.below (S := (fun k_ => P4_ k_)) (qp HK.out) hb); replace HB := q0 (below_step (qb HB.out) hb); (try clear hb); (try clear hb2); (try clear hk); (try clear hi); (try clear ho0)))
 go_loopg [4, 13] k (fun kq v4 v13 w' => ∃ (x4_1 : List (List Int)) (x13_1 : Int), v13 = .int .i64 x13_1 ∧ Aside0 (spec_l2On.l0 kq l1 a2 a3 x4_1 t107 x13_1 a0_0 l0_1 = some r) ∧ Aside0 (kq ≤ k) ∧ Aside0 (Kd.S (Kd.slice 3 (Kd.int .i64)) 26 w' w0.heap.size (fun k_ => (P4_ k_ ∨ w.heap.size ≤ k_) ∧ some k_ ≠ (v119 : Value).ownBlock) v4 x4_1) ∧ Aside0 (Kd.R (Kd.int .i64) 3 w' w0.heap.size (fun k_ => (P4_ k_ ∨ w.heap.size ≤ k_) ∧ some k_ ≠ (v4 : Value).ownBlock) v119 t107) ∧ Aside0 (w'.heap[gb111]? = some (.cells #[.int .i64 a0_0, (.slice A0_1 l0_1.length c0_1)] 31 (0, 0))) ∧ Aside0 (Kept w w' (fun k_ => P4_ k_)) ∧ Aside0 (Below w0.heap.size w0 w'))
 case atStart => exact ⟨(l4), (0), qs, H', ⟨Nat.le_refl _⟩, ⟨qv HO4.out⟩, ⟨by (with_reducible repeat (first | apply Kd.R_alloc | apply Kd.R_drewN | apply Kd.R_drew)); exact Kd.R_mono HO120.out (fun _ hk => ⟨hk.1.1, hk.2⟩)⟩, ⟨qk BK111.out⟩, ⟨qp HK.out⟩, ⟨qb HB.out⟩⟩
 clear H'
 try clear c1
 try clear c2
 try clear p2
 try clear p3
 try clear q3
 try clear hx3
 try clear c4
 try clear p6
 try clear c7
 try clear c7b0
 try clear c8
 try clear c8b0
 try clear c9
 try clear c9b0
 try clear c9b1
 try clear c10
 try clear c10b0
 try clear c10b1
 try clear c11
 try clear c20
 try clear c20b0
 try clear hcz24_0
 try clear hcz24_1
 try clear hfz24_0
 try clear hfz24_1
 try clear hx100_0
 try clear p100
 try clear q100
 obtain ⟨x4_1, x13_1, rfl, HA, HK1, HO_4, HO_12, BK111, HK, HB⟩ := hrel
 rcases gk with _ | k1
 · exact absurd HA.out (by simp [spec_l2On.l0])
 have H := HA.out
 clear HA
 simp only [spec_l2On.l0] at H
 by_cases c26 : x13_1 < (t107.length : Int)
 rotate_left
 · rw [if_neg c26] at H
   have c26b0 : decide (x13_1 < (t107.length : Int)) = false := decide_eq_false c26
   clear c26
   obtain rfl := Option.some.inj H
   obtain ⟨Ao47, co47, eo47⟩ := Kd.R_slice HO_12.out
   subst eo47
   go_wp2
   go_ret
   exact ⟨_, by first | rfl | (simp [errW_none, errW_some] <;> rfl) | (simp only [← hji6]; first | rfl | (simp [errW_none, errW_some] <;> rfl)) | (simp [*, errW_none, errW_some] <;> rfl), by (with_reducible repeat (first | apply Kd.S_alloc | apply Kd.S_drewN | apply Kd.S_drew)); exact Kd.S_mono HO_4.out (fun _ hk => hk.1), qb HB.out, qp HK.out⟩
 rw [if_pos c26] at H
 have c26b0 : decide (x13_1 < (t107.length : Int)) = true := decide_eq_true c26
 clear c26
 by_cases c27 : 0 ≤ x13_1
 rotate_left
 · rw [if_neg c27] at H
   exact absurd H (by simp)
 rw [if_pos c27] at H
 have c27b0 : decide (0 ≤ x13_1) = true := decide_eq_true c27
 clear c27
 replace H := Option.bind_eq_some_iff.mp H
 obtain ⟨t101, A121, H⟩ := H
 have A28 := Aside0.mk A121
 clear A121
 by_cases c29 : t101 = true
 · subst c29
   rw [if_pos rfl] at H
   have H' := Aside0.mk H
   clear H
   obtain ⟨Ao30, co30, eo30⟩ := Kd.R_slice HO_12.out
   subst eo30
   have p122 : 0 ≤ (x13_1 : Int) := of_decide_eq_true qa
   have q122 : x13_1 < (t107.length : Int) := of_decide_eq_true qa
   obtain ⟨ad122, e122, hx122_0⟩ := Kd.at_int (Kd.R_reads' HO_12.out).2.2 x13_1 p122 q122
   cases e122
   replace p122 := eq_true p122
   replace q122 := eq_true q122
   go_wp2_with (first | ((with_reducible refine gate_callee (f := 58) rfl ?_); refine gl 53 Try.func58 #[.slice (some ad100) l1.length c1, .int .i64 (rd t107 x13_1)] ?_; (with_reducible refine (spec_l2Has.calls k1 _ _ l1 (rd t107 x13_1) true _ ?side1 ?side2 A28.out).mono ?_); (case side1 => exact Kd.C_kept_now HR1.out (qp HK.out)); (case side2 => exact HC1.out); rintro e w' ⟨rfl, ⟨nd, rfl⟩⟩; refine ⟨_, rfl, ?_⟩))
   go_roundg k1
   case measure => have := HK1.out; omega
   case rel => exact ⟨(x4_1), (wrap64 (x13_1 + 1)), qs, H', ⟨by have := HK1.out; omega⟩, ⟨qv HO_4.out⟩, ⟨qr HO_12.out⟩, ⟨qk BK111.out⟩, ⟨qp HK.out⟩, ⟨qb HB.out⟩⟩
 replace c29 := Bool.eq_false_iff.mpr c29
 subst c29
 rw [if_neg nf] at H
 obtain ⟨y102, hy102⟩ : ∃ y_ : List Int, y_ = (([] : List Int)) := ⟨_, rfl⟩
 replace H : (if y102.length + l1.length < 17592186044416 then ((some (y102 ++ l1 : List Int)).bind fun y103 => ((some (([rd t107 x13_1] : List Int) : List Int)).bind fun y104 => (if y103.length + y104.length < 17592186044416 then ((spec_l2On.f k1 a0_0 l0_1 (y103 ++ y104) a2 a3 x4_1).bind fun t105 => (spec_l2On.l0 k1 l1 a2 a3 t105 t107 (wrap64 (x13_1 + 1)) a0_0 l0_1)) else (none)))) else (none)) = some r := qy H hy102
 have Ny102 := Aside0.mk hy102
 clear hy102
 by_cases c31 : y102.length + l1.length < 17592186044416
 rotate_left
 · rw [if_neg c31] at H
   exact absurd H (by simp)
 rw [if_pos c31] at H
 have LMc31 := Aside0.mk c31
 clear c31
 obtain ⟨y103, hy103⟩ : ∃ y_ : List Int, y_ = (y102 ++ l1) := ⟨_, rfl⟩
 replace H : ((some (([rd t107 x13_1] : List Int) : List Int)).bind fun y104 => (if y103.length + y104.length < 17592186044416 then ((spec_l2On.f k1 a0_0 l0_1 (y103 ++ y104) a2 a3 x4_1).bind fun t105 => (spec_l2On.l0 k1 l1 a2 a3 t105 t107 (wrap64 (x13_1 + 1)) a0_0 l0_1)) else (none))) = some r := qy H hy103
 have Ny103 := Aside0.mk hy103
 clear hy103
 obtain ⟨y104, hy104⟩ : ∃ y_ : List Int, y_ = (([rd t107 x13_1] : List Int)) := ⟨_, rfl⟩
 replace H : (if y103.length + y104.length < 17592186044416 then ((spec_l2On.f k1 a0_0 l0_1 (y103 ++ y104) a2 a3 x4_1).bind fun t105 => (spec_l2On.l0 k1 l1 a2 a3 t105 t107 (wrap64 (x13_1 + 1)) a0_0 l0_1)) else (none)) = some r := qy H hy104
 have Ny104 := Aside0.mk hy104
 clear hy104
 by_cases c32 : y103.length + y104.length < 17592186044416
 rotate_left
 · rw [if_neg c32] at H
   exact absurd H (by simp)
 rw [if_pos c32] at H
 have LMc32 := Aside0.mk c32
 clear c32
 obtain ⟨y123, hy123⟩ : ∃ y_ : List Int, y_ = (y103 ++ y104) := ⟨_, rfl⟩
 replace H : ((spec_l2On.f k1 a0_0 l0_1 y123 a2 a3 x4_1).bind fun t105 => (spec_l2On.l0 k1 l1 a2 a3 t105 t107 (wrap64 (x13_1 + 1)) a0_0 l0_1)) = some r := qy H hy123
 have Ny123 := Aside0.mk hy123
 clear hy123
 replace H := Option.bind_eq_some_iff.mp H
 obtain ⟨t105, A124, H⟩ := H
 have A33 := Aside0.mk A124
 clear A124
 have H' := Aside0.mk H
 clear H
 obtain ⟨Ao34, co34, eo34⟩ := Kd.R_slice HO_12.out
 subst eo34
 have p122 : 0 ≤ (x13_1 : Int) := of_decide_eq_true qa
 have q122 : x13_1 < (t107.length : Int) := of_decide_eq_true qa
 obtain ⟨ad122, e122, hx122_0⟩ := Kd.at_int (Kd.R_reads' HO_12.out).2.2 x13_1 p122 q122
 cases e122
 replace p122 := eq_true p122
 replace q122 := eq_true q122
 try go_wp2_with (first | ((with_reducible refine gate_callee (f := 58) rfl ?_); refine gl 53 Try.func58 #[.slice (some ad100) l1.length c1, .int .i64 (rd t107 x13_1)] ?_; (with_reducible refine (spec_l2Has.calls k1 _ _ l1 (rd t107 x13_1) false _ ?side1 ?side2 A28.out).mono ?_); (case side1 => exact Kd.C_kept_now HR1.out (qp HK.out)); (case side2 => exact HC1.out); rintro e w' ⟨rfl, ⟨nd, rfl⟩⟩; refine ⟨_, rfl, ?_⟩; obtain ⟨Ao35, co35, eo35⟩ := Kd.S_slice HO_4.out; subst eo35))
 (try (rw [drewN_self wr]; generalize hq_ : World.drewN wr _ = wr; have n0_ : Aside0 (Kd.R (Kd.int .i64) 3 wr w0.heap.size (fun k_ => (P4_ k_ ∨ w.heap.size ≤ k_) ∧ some k_ ≠ (.slice Ao35 x4_1.length co35 : Value).ownBlock) (.slice (some ad122) t107.length co34) t107) := ⟨by rw [← hq_]; exact (qr HO_12.out)⟩; have n1_ : Aside0 (Kd.S (Kd.slice 3 (Kd.int .i64)) 26 wr w0.heap.size (fun k_ => (P4_ k_ ∨ w.heap.size ≤ k_) ∧ some k_ ≠ (.slice (some ad122) t107.length co34 : Value).ownBlock) (.slice Ao35 x4_1.length co35) x4_1) := ⟨by rw [← hq_]; exact (qv HO_4.out)⟩; have n2_ : Aside0 (wr.heap[gb111]? = some (.cells #[.int .i64 a0_0, .slice A0_1 l0_1.length c0_1] 31 (0, 0))) := ⟨by rw [← hq_]; exact (qk BK111.out)⟩; have n3_ : Aside0 (Kept w wr (fun k_ => P4_ k_)) := ⟨by rw [← hq_]; exact (qp HK.out)⟩; have n4_ : Aside0 (Below w0.heap.size w0 wr) := ⟨by rw [← hq_]; exact (qb HB.out)⟩; clear HO_12 HO_4 BK111 HK HB hq_; have HO_12 := n0_; have HO_4 := n1_; have BK111 := n2_; have HK := n3_; have HB := n4_; clear n0_ n1_ n2_ n3_ n4_))
 replace HO_4 := q0 (Kd.S_drew HO_4.out)
 replace HO_12 := q0 (Kd.R_drew HO_12.out)
 replace BK111 := q0 (blk_drew BK111.out)
 replace HK := q0 (Kept.drew HK.out)
 replace HB := q0 (below_drew1 HB.out)
 refine start_ (n := 15) (S := fun w' => w'.cell? ⟨gb111, 0, none⟩ = some (.int .i64 a0_0) ∧ w'.cell? ⟨gb111, 1, none⟩ = some (.slice A0_1 l0_1.length c0_1) ∧ w'.cell? (ad122.add (x13_1).toNat) = some (.int .i64 (rd t107 x13_1))) (ds := []) (ba 15 0) (by kernel_rfl) rfl (by kernel_rfl) ⟨(blk_cell BK111.out 0).trans rfl, (blk_cell BK111.out 1).trans rfl, own_cell HO_12.out p122 q122⟩ (fun hHeld => ?_); refine with_tabW spec_l2On.tab13 spec_l2On.bits13 (fun HT_ HW_ => ?_)
 generalize wr.drew = w36 at HO_4 HO_12 BK111 HK HB hHeld ⊢
 refine pu 2 (some 57) (ba 15 4) HT_.out ?_
 refine pu 4 (some 59) (ba 15 20) HT_.out ?_
 refine pu 5 (some 60) (ba 15 52) HT_.out ?_
 refine pu 6 (some 61) (ba 15 116) HT_.out ?_
 refine pu 10 (some 65) (ba 15 1140) HT_.out ?_
 refine pu 11 (some 66) (ba 15 3188) HT_.out ?_
 refine pu 12 (some 67) (ba 15 7284) HT_.out ?_
 refine tu 0 (some 55) (ba 15 7285) HT_.out HW_.out hHeld ?_
 refine tu 7 (some 62) (ba 15 7413) HT_.out HW_.out hHeld ?_
 refine join_ (σ := Value × Value × Value) 3 (ba 15 7679) (fun s_ => [(56, s_.1), (58, s_.2.1), (63, s_.2.2)]) (fun s_ w' => (w'.cell? ⟨gb111, 0, none⟩ = some (.int .i64 a0_0) ∧ w'.cell? ⟨gb111, 1, none⟩ = some (.slice A0_1 l0_1.length c0_1) ∧ w'.cell? (ad122.add (x13_1).toNat) = some (.int .i64 (rd t107 x13_1))) ∧ (Kd.R (Kd.int .i64) 3 w' w0.heap.size (fun k_ => (P4_ k_ ∨ w.heap.size ≤ k_) ∧ some k_ ≠ (s_.2.2 : Value).ownBlock ∧ some k_ ≠ (.slice (some ad122) t107.length co34 : Value).ownBlock ∧ some k_ ≠ (.slice Ao35 x4_1.length co35 : Value).ownBlock) s_.2.1 y103) ∧ (Kd.R (Kd.int .i64) 3 w' w0.heap.size (fun k_ => (P4_ k_ ∨ w.heap.size ≤ k_) ∧ some k_ ≠ (s_.2.1 : Value).ownBlock ∧ some k_ ≠ (.slice (some ad122) t107.length co34 : Value).ownBlock ∧ some k_ ≠ (.slice Ao35 x4_1.length co35 : Value).ownBlock) s_.2.2 y104) ∧ (Kd.R (Kd.int .i64) 3 w' w0.heap.size (fun k_ => (P4_ k_ ∨ w.heap.size ≤ k_) ∧ some k_ ≠ (s_.2.1 : Value).ownBlock ∧ some k_ ≠ (s_.2.2 : Value).ownBlock ∧ some k_ ≠ (.slice Ao35 x4_1.length co35 : Value).ownBlock) (.slice (some ad122) t107.length co34) t107) ∧ (Kd.S (Kd.slice 3 (Kd.int .i64)) 26 w' w0.heap.size (fun k_ => (P4_ k_ ∨ w.heap.size ≤ k_) ∧ some k_ ≠ (s_.2.1 : Value).ownBlock ∧ some k_ ≠ (s_.2.2 : Value).ownBlock ∧ some k_ ≠ (.slice (some ad122) t107.length co34 : Value).ownBlock) (.slice Ao35 x4_1.length co35) x4_1) ∧ (w'.heap[gb111]? = some (.cells #[.int .i64 a0_0, .slice A0_1 l0_1.length c0_1] 31 (0, 0))) ∧ (Kept w w' (fun k_ => P4_ k_)) ∧ (Below w0.heap.size w0 w')) ?_ ?_
 rotate_left
 · intro hCont
   refine two_ (i := 1) (j := 8) (Ni := some 56) (Nj := some 63) (ba 15 7415) (ba 15 7669) rfl rfl rfl rfl (two_of HT_.out (by kernel_rfl)) (by decide) (by decide) (fun K hK => ?_) (fun K hK => ?_)
   · skip
     refine Kd.R_lit_step (Kd.int .i64) _ 3 ?hg (N := 56) ?hd (xs := ([] : List Int)) (inner := []) (ok := fun _ => True) (okp := fun _ => True) ?hr ?hp (fun _ hk => hk) trivial (Below.refl _ _) (Nat.le_refl _) (by simp) ?_; (case hd => rfl); (case hg => rfl); (case hr => first | (go_simp; done) | (go_simp; rfl)); (case hp => exact (Reps.none _ _))
     intro v125 w37 ho38 hb hg_ hnew_
     clear hg_ hnew_
     (first | rw [← Ny102.out] at ho38 | (simp only [Int.reduceToNat] at ho38; rw [← Ny102.out] at ho38))
     have HO126 := q0 (Kd.R_lower (Kd.R_new' (Kd.R_new' (Kd.R_newM (M := fun k_ => (P4_ k_ ∨ w.heap.size ≤ k_)) ho38 (by first | exact HK.out.1 | exact (qp HK.out).1) (fun k_ h_ => .inr h_)) (Kd.S_lt (qv HO_4.out))) (Kd.R_lt (qr HO_12.out))) (below_size (qb HB.out)))
     replace HO_4 := q0 (Kd.S_elder' (qv HO_4.out) (Kd.R_base ho38) hb)
     replace HO_12 := q0 (Kd.R_elder' (qr HO_12.out) (Kd.R_base ho38) hb)
     replace BK111 := q0 (kb BK111.out hb)
     replace HK := q0 (Kept.below (S := (fun k_ => P4_ k_)) (qp HK.out) hb)
     replace HB := q0 (below_step (qb HB.out) hb)
     clear hb ho38
     refine hK.out _ _ ⟨(blk_cell BK111.out 0).trans rfl, (blk_cell BK111.out 1).trans rfl, own_cell HO_12.out p122 q122⟩ (fun hHeld => ?_)
     clear hK K
     refine nu 56 ?_
     refine two_ (i := 3) (j := 8) (Ni := some 58) (Nj := some 63) (ba 15 7423) (ba 15 7671) rfl rfl rfl rfl (two_of HT_.out (by kernel_rfl)) (by decide) (by decide) (fun K hK => ?_) (fun K hK => ?_)
     · skip
       refine Kd.R_append_rows_step (Kd.int .i64) (w0 := w0) w0.heap.size (by rfl) (.tmp 56) (.tmp 57) 26 3 (.int .i64 0) 8 rfl Try.underlying26 info3 rfl (by decide) (by omega) v125 y102 l1 _ _ _ (fun k_ => (P4_ k_ ∨ w.heap.size ≤ k_) ∧ some k_ ≠ (.slice Ao35 x4_1.length co35 : Value).ownBlock ∧ some k_ ≠ (.slice (some ad122) t107.length co34 : Value).ownBlock) (fun _ => False) rfl rfl ?aO ?aR (fun _ _ h => h) (fun _ h => h.elim) ?aF ?aB ?aS ?aL ?_
       (case aR => exact Kd.C_kept_now HR1.out (qp HK.out))
       (case aB => exact (qb HB.out))
       (case aF => exact (fun k_ hk => ⟨(.inr (Nat.le_trans (by first | exact HK.out.1 | exact (qp HK.out).1) hk)), Kd.fresh' (Kd.S_lt (qv HO_4.out)) k_ hk, Kd.fresh' (Kd.R_lt (qr HO_12.out)) k_ hk⟩))
       (case aO => exact (by (with_reducible repeat (first | apply Kd.R_alloc | apply Kd.R_drewN | apply Kd.R_drew)); exact Kd.R_mono HO126.out (fun _ hk => ⟨hk.1.1.1, ⟨hk.1.2, hk.2⟩⟩)))
       (case aS => exact (below_size (qb HB.out)))
       (case aL => have := LMc31.out; omega)
       intro v127 w39 ho hb hg hat
       rw [← Ny103.out] at ho
       replace HO_4 := q0 (Kd.S_after (ok := (fun k_ => (P4_ k_ ∨ w.heap.size ≤ k_) ∧ some k_ ≠ (.slice (some ad122) t107.length co34 : Value).ownBlock)) (qv HO_4.out) hg hat)
       replace HO_12 := q0 (Kd.R_after (ok := (fun k_ => (P4_ k_ ∨ w.heap.size ≤ k_) ∧ some k_ ≠ (.slice Ao35 x4_1.length co35 : Value).ownBlock)) (qr HO_12.out) hg hat)
       replace BK111 := q0 (blk_grown (g := gb111) (o := .cells #[.int .i64 a0_0, .slice A0_1 l0_1.length c0_1] 31 (0, 0)) (qk BK111.out) hg (Kd.R_ne HO126.out BK111.out (by decide)))
       replace HB := q0 (hb)
       replace HK := q0 (Kept.of_grown (S := (fun k_ => P4_ k_)) hg (qp HK.out) (fun k_ e_ => (HO126.out.1 k_ e_).1.1.1))
       have HO128 := q0 (ho)
       clear HO126
       clear ho hb hg hat
       refine hK.out _ _ ⟨(blk_cell BK111.out 0).trans rfl, (blk_cell BK111.out 1).trans rfl, own_cell HO_12.out p122 q122⟩ (fun hHeld => ?_)
       clear hK K
       refine nu 58 ?_
       refine one_ (i := 8) (N := some 63) (ba 15 7679) rfl rfl (one_of HT_.out (by kernel_rfl)) (by decide) (fun K hK => ?_)
       refine Kd.R_lit_step (Kd.int .i64) _ 3 ?hg (N := 63) ?hd (xs := ([rd t107 x13_1] : List Int)) (inner := [.int .i64 (rd t107 x13_1)]) (ok := fun _ => True) (okp := fun _ => True) ?hr ?hp (fun _ hk => hk) trivial (Below.refl _ _) (Nat.le_refl _) (by simp) ?_; (case hd => rfl); (case hg => rfl); (case hr => first | (go_simp; done) | (go_simp; rfl)); (case hp => exact (Reps.one (show Kd.M (Kd.int .i64) _ _ _ (rd t107 x13_1) [.int .i64 (rd t107 x13_1)] from rfl) (Reps.none _ _)))
       intro v129 w40 ho41 hb hg_ hnew_
       clear hg_ hnew_
       (first | rw [← Ny104.out] at ho41 | (simp only [Int.reduceToNat] at ho41; rw [← Ny104.out] at ho41))
       have HO130 := q0 (Kd.R_lower (Kd.R_new' (Kd.R_new' (Kd.R_new' (Kd.R_newM (M := fun k_ => (P4_ k_ ∨ w.heap.size ≤ k_)) ho41 (by first | exact HK.out.1 | exact (qp HK.out).1) (fun k_ h_ => .inr h_)) (Kd.S_lt (qv HO_4.out))) (Kd.R_lt (qr HO_12.out))) (Kd.R_lt (qr HO128.out))) (below_size (qb HB.out)))
       replace HO_4 := q0 (Kd.S_elder' (qv HO_4.out) (Kd.R_base ho41) hb)
       replace HO_12 := q0 (Kd.R_elder' (qr HO_12.out) (Kd.R_base ho41) hb)
       replace HO128 := q0 (Kd.R_elder' (qr HO128.out) (Kd.R_base ho41) hb)
       replace BK111 := q0 (kb BK111.out hb)
       replace HK := q0 (Kept.below (S := (fun k_ => P4_ k_)) (qp HK.out) hb)
       replace HB := q0 (below_step (qb HB.out) hb)
       clear hb ho41
       refine hK.out _ _ ⟨(blk_cell BK111.out 0).trans rfl, (blk_cell BK111.out 1).trans rfl, own_cell HO_12.out p122 q122⟩ (fun hHeld => ?_)
       clear hK K
       refine nu 63 ?_
       exact norm_ (by simp only [putAll, Act.put, List.setIfInBounds_toArray, List.set_cons_zero, List.set_cons_succ]) (hCont (v125, v127, v129) _ ⟨hHeld, (by (with_reducible repeat (first | apply Kd.R_alloc | apply Kd.R_drewN | apply Kd.R_drew)); exact Kd.R_mono HO128.out (fun _ hk => ⟨hk.1.1, ⟨hk.2, ⟨hk.1.2.2, hk.1.2.1⟩⟩⟩)), (by (with_reducible repeat (first | apply Kd.R_alloc | apply Kd.R_drewN | apply Kd.R_drew)); exact Kd.R_mono HO130.out (fun _ hk => ⟨hk.1.1.1.1, ⟨hk.2, ⟨hk.1.2, hk.1.1.2⟩⟩⟩)), (by (with_reducible repeat (first | apply Kd.R_alloc | apply Kd.R_drewN | apply Kd.R_drew)); exact Kd.R_mono HO_12.out (fun _ hk => ⟨hk.1.1.1, ⟨hk.1.2, ⟨hk.2, hk.1.1.2⟩⟩⟩)), (by (with_reducible repeat (first | apply Kd.S_alloc | apply Kd.S_drewN | apply Kd.S_drew)); exact Kd.S_mono HO_4.out (fun _ hk => ⟨hk.1.1.1, ⟨hk.1.2, ⟨hk.2, hk.1.1.2⟩⟩⟩)), (qk BK111.out), (qp HK.out), (qb HB.out)⟩)
     · skip
       refine Kd.R_lit_step (Kd.int .i64) _ 3 ?hg (N := 63) ?hd (xs := ([rd t107 x13_1] : List Int)) (inner := [.int .i64 (rd t107 x13_1)]) (ok := fun _ => True) (okp := fun _ => True) ?hr ?hp (fun _ hk => hk) trivial (Below.refl _ _) (Nat.le_refl _) (by simp) ?_; (case hd => rfl); (case hg => rfl); (case hr => first | (go_simp; done) | (go_simp; rfl)); (case hp => exact (Reps.one (show Kd.M (Kd.int .i64) _ _ _ (rd t107 x13_1) [.int .i64 (rd t107 x13_1)] from rfl) (Reps.none _ _)))
       intro v129 w39 ho40 hb hg_ hnew_
       clear hg_ hnew_
       (first | rw [← Ny104.out] at ho40 | (simp only [Int.reduceToNat] at ho40; rw [← Ny104.out] at ho40))
       have HO130 := q0 (Kd.R_lower (Kd.R_new' (Kd.R_new' (Kd.R_new' (Kd.R_newM (M := fun k_ => (P4_ k_ ∨ w.heap.size ≤ k_)) ho40 (by first | exact HK.out.1 | exact (qp HK.out).1) (fun k_ h_ => .inr h_)) (Kd.S_lt (qv HO_4.out))) (Kd.R_lt (qr HO_12.out))) (Kd.R_lt (qr HO126.out))) (below_size (qb HB.out)))
       replace HO_4 := q0 (Kd.S_elder' (qv HO_4.out) (Kd.R_base ho40) hb)
       replace HO_12 := q0 (Kd.R_elder' (qr HO_12.out) (Kd.R_base ho40) hb)
       replace HO126 := q0 (Kd.R_elder' (qr HO126.out) (Kd.R_base ho40) hb)
       replace BK111 := q0 (kb BK111.out hb)
       replace HK := q0 (Kept.below (S := (fun k_ => P4_ k_)) (qp HK.out) hb)
       replace HB := q0 (below_step (qb HB.out) hb)
       clear hb ho40
       refine hK.out _ _ ⟨(blk_cell BK111.out 0).trans rfl, (blk_cell BK111.out 1).trans rfl, own_cell HO_12.out p122 q122⟩ (fun hHeld => ?_)
       clear hK K
       refine nu 63 ?_
       refine one_ (i := 3) (N := some 58) (ba 15 7679) rfl rfl (one_of HT_.out (by kernel_rfl)) (by decide) (fun K hK => ?_)
       refine Kd.R_append_rows_step (Kd.int .i64) (w0 := w0) w0.heap.size (by rfl) (.tmp 56) (.tmp 57) 26 3 (.int .i64 0) 8 rfl Try.underlying26 info3 rfl (by decide) (by omega) v125 y102 l1 _ _ _ (fun k_ => (P4_ k_ ∨ w.heap.size ≤ k_) ∧ some k_ ≠ (.slice Ao35 x4_1.length co35 : Value).ownBlock ∧ some k_ ≠ (.slice (some ad122) t107.length co34 : Value).ownBlock ∧ some k_ ≠ (v129 : Value).ownBlock) (fun _ => False) rfl rfl ?aO ?aR (fun _ _ h => h) (fun _ h => h.elim) ?aF ?aB ?aS ?aL ?_
       (case aR => exact Kd.C_kept_now HR1.out (qp HK.out))
       (case aB => exact (qb HB.out))
       (case aF => exact (fun k_ hk => ⟨(.inr (Nat.le_trans (by first | exact HK.out.1 | exact (qp HK.out).1) hk)), Kd.fresh' (Kd.S_lt (qv HO_4.out)) k_ hk, Kd.fresh' (Kd.R_lt (qr HO_12.out)) k_ hk, Kd.fresh' (Kd.R_lt (qr HO130.out)) k_ hk⟩))
       (case aO => exact (by (with_reducible repeat (first | apply Kd.R_alloc | apply Kd.R_drewN | apply Kd.R_drew)); exact Kd.R_mono HO126.out (fun _ hk => ⟨hk.1.1.1.1, ⟨hk.1.1.2, ⟨hk.1.2, hk.2⟩⟩⟩)))
       (case aS => exact (below_size (qb HB.out)))
       (case aL => have := LMc31.out; omega)
       intro v127 w41 ho hb hg hat
       rw [← Ny103.out] at ho
       replace HO_4 := q0 (Kd.S_after (ok := (fun k_ => (P4_ k_ ∨ w.heap.size ≤ k_) ∧ some k_ ≠ (.slice (some ad122) t107.length co34 : Value).ownBlock ∧ some k_ ≠ (v129 : Value).ownBlock)) (by (with_reducible repeat (first | apply Kd.S_alloc | apply Kd.S_drewN | apply Kd.S_drew)); exact Kd.S_mono HO_4.out (fun _ hk => ⟨⟨hk.1.1.1, ⟨hk.1.1.2, hk.2⟩⟩, hk.1.2⟩)) hg hat)
       replace HO_12 := q0 (Kd.R_after (ok := (fun k_ => (P4_ k_ ∨ w.heap.size ≤ k_) ∧ some k_ ≠ (.slice Ao35 x4_1.length co35 : Value).ownBlock ∧ some k_ ≠ (v129 : Value).ownBlock)) (by (with_reducible repeat (first | apply Kd.R_alloc | apply Kd.R_drewN | apply Kd.R_drew)); exact Kd.R_mono HO_12.out (fun _ hk => ⟨⟨hk.1.1.1, ⟨hk.1.1.2, hk.2⟩⟩, hk.1.2⟩)) hg hat)
       replace BK111 := q0 (blk_grown (g := gb111) (o := .cells #[.int .i64 a0_0, .slice A0_1 l0_1.length c0_1] 31 (0, 0)) (qk BK111.out) hg (Kd.R_ne HO126.out BK111.out (by decide)))
       replace HO130 := q0 (Kd.R_after (ok := (fun k_ => (P4_ k_ ∨ w.heap.size ≤ k_) ∧ some k_ ≠ (.slice Ao35 x4_1.length co35 : Value).ownBlock ∧ some k_ ≠ (.slice (some ad122) t107.length co34 : Value).ownBlock)) (by (with_reducible repeat (first | apply Kd.R_alloc | apply Kd.R_drewN | apply Kd.R_drew)); exact Kd.R_mono HO130.out (fun _ hk => ⟨⟨hk.1.1.1.1, ⟨hk.1.1.2, hk.1.2⟩⟩, hk.2⟩)) hg hat)
       replace HB := q0 (hb)
       replace HK := q0 (Kept.of_grown (S := (fun k_ => P4_ k_)) hg (qp HK.out) (fun k_ e_ => (HO126.out.1 k_ e_).1.1.1.1))
       have HO128 := q0 (ho)
       clear HO126
       clear ho hb hg hat
       refine hK.out _ _ ⟨(blk_cell BK111.out 0).trans rfl, (blk_cell BK111.out 1).trans rfl, own_cell HO_12.out p122 q122⟩ (fun hHeld => ?_)
       clear hK K
       refine nu 58 ?_
       exact norm_ (by simp only [putAll, Act.put, List.setIfInBounds_toArray, List.set_cons_zero, List.set_cons_succ]) (hCont (v125, v127, v129) _ ⟨hHeld, (by (with_reducible repeat (first | apply Kd.R_alloc | apply Kd.R_drewN | apply Kd.R_drew)); exact Kd.R_mono HO128.out (fun _ hk => ⟨hk.1, ⟨hk.2.2.2, ⟨hk.2.2.1, hk.2.1⟩⟩⟩)), (by (with_reducible repeat (first | apply Kd.R_alloc | apply Kd.R_drewN | apply Kd.R_drew)); exact Kd.R_mono HO130.out (fun _ hk => ⟨hk.1.1, ⟨hk.2, ⟨hk.1.2.2, hk.1.2.1⟩⟩⟩)), (by (with_reducible repeat (first | apply Kd.R_alloc | apply Kd.R_drewN | apply Kd.R_drew)); exact Kd.R_mono HO_12.out (fun _ hk => ⟨hk.1.1, ⟨hk.2, ⟨hk.1.2.2, hk.1.2.1⟩⟩⟩)), (by (with_reducible repeat (first | apply Kd.S_alloc | apply Kd.S_drewN | apply Kd.S_drew)); exact Kd.S_mono HO_4.out (fun _ hk => ⟨hk.1.1, ⟨hk.2, ⟨hk.1.2.2, hk.1.2.1⟩⟩⟩)), (qk BK111.out), (qp HK.out), (qb HB.out)⟩)
   · skip
     refine Kd.R_lit_step (Kd.int .i64) _ 3 ?hg (N := 63) ?hd (xs := ([rd t107 x13_1] : List Int)) (inner := [.int .i64 (rd t107 x13_1)]) (ok := fun _ => True) (okp := fun _ => True) ?hr ?hp (fun _ hk => hk) trivial (Below.refl _ _) (Nat.le_refl _) (by simp) ?_; (case hd => rfl); (case hg => rfl); (case hr => first | (go_simp; done) | (go_simp; rfl)); (case hp => exact (Reps.one (show Kd.M (Kd.int .i64) _ _ _ (rd t107 x13_1) [.int .i64 (rd t107 x13_1)] from rfl) (Reps.none _ _)))
     intro v129 w37 ho38 hb hg_ hnew_
     clear hg_ hnew_
     (first | rw [← Ny104.out] at ho38 | (simp only [Int.reduceToNat] at ho38; rw [← Ny104.out] at ho38))
     have HO130 := q0 (Kd.R_lower (Kd.R_new' (Kd.R_new' (Kd.R_newM (M := fun k_ => (P4_ k_ ∨ w.heap.size ≤ k_)) ho38 (by first | exact HK.out.1 | exact (qp HK.out).1) (fun k_ h_ => .inr h_)) (Kd.S_lt (qv HO_4.out))) (Kd.R_lt (qr HO_12.out))) (below_size (qb HB.out)))
     replace HO_4 := q0 (Kd.S_elder' (qv HO_4.out) (Kd.R_base ho38) hb)
     replace HO_12 := q0 (Kd.R_elder' (qr HO_12.out) (Kd.R_base ho38) hb)
     replace BK111 := q0 (kb BK111.out hb)
     replace HK := q0 (Kept.below (S := (fun k_ => P4_ k_)) (qp HK.out) hb)
     replace HB := q0 (below_step (qb HB.out) hb)
     clear hb ho38
     refine hK.out _ _ ⟨(blk_cell BK111.out 0).trans rfl, (blk_cell BK111.out 1).trans rfl, own_cell HO_12.out p122 q122⟩ (fun hHeld => ?_)
     clear hK K
     refine nu 63 ?_
     refine one_ (i := 1) (N := some 56) (ba 15 7671) rfl rfl (one_of HT_.out (by kernel_rfl)) (by decide) (fun K hK => ?_)
     refine Kd.R_lit_step (Kd.int .i64) _ 3 ?hg (N := 56) ?hd (xs := ([] : List Int)) (inner := []) (ok := fun _ => True) (okp := fun _ => True) ?hr ?hp (fun _ hk => hk) trivial (Below.refl _ _) (Nat.le_refl _) (by simp) ?_; (case hd => rfl); (case hg => rfl); (case hr => first | (go_simp; done) | (go_simp; rfl)); (case hp => exact (Reps.none _ _))
     intro v125 w39 ho40 hb hg_ hnew_
     clear hg_ hnew_
     (first | rw [← Ny102.out] at ho40 | (simp only [Int.reduceToNat] at ho40; rw [← Ny102.out] at ho40))
     have HO126 := q0 (Kd.R_lower (Kd.R_new' (Kd.R_new' (Kd.R_new' (Kd.R_newM (M := fun k_ => (P4_ k_ ∨ w.heap.size ≤ k_)) ho40 (by first | exact HK.out.1 | exact (qp HK.out).1) (fun k_ h_ => .inr h_)) (Kd.S_lt (qv HO_4.out))) (Kd.R_lt (qr HO_12.out))) (Kd.R_lt (qr HO130.out))) (below_size (qb HB.out)))
     replace HO_4 := q0 (Kd.S_elder' (qv HO_4.out) (Kd.R_base ho40) hb)
     replace HO_12 := q0 (Kd.R_elder' (qr HO_12.out) (Kd.R_base ho40) hb)
     replace HO130 := q0 (Kd.R_elder' (qr HO130.out) (Kd.R_base ho40) hb)
     replace BK111 := q0 (kb BK111.out hb)
     replace HK := q0 (Kept.below (S := (fun k_ => P4_ k_)) (qp HK.out) hb)
     replace HB := q0 (below_step (qb HB.out) hb)
     clear hb ho40
     refine hK.out _ _ ⟨(blk_cell BK111.out 0).trans rfl, (blk_cell BK111.out 1).trans rfl, own_cell HO_12.out p122 q122⟩ (fun hHeld => ?_)
     clear hK K
     refine nu 56 ?_
     refine one_ (i := 3) (N := some 58) (ba 15 7679) rfl rfl (one_of HT_.out (by kernel_rfl)) (by decide) (fun K hK => ?_)
     refine Kd.R_append_rows_step (Kd.int .i64) (w0 := w0) w0.heap.size (by rfl) (.tmp 56) (.tmp 57) 26 3 (.int .i64 0) 8 rfl Try.underlying26 info3 rfl (by decide) (by omega) v125 y102 l1 _ _ _ (fun k_ => (P4_ k_ ∨ w.heap.size ≤ k_) ∧ some k_ ≠ (.slice Ao35 x4_1.length co35 : Value).ownBlock ∧ some k_ ≠ (.slice (some ad122) t107.length co34 : Value).ownBlock ∧ some k_ ≠ (v129 : Value).ownBlock) (fun _ => False) rfl rfl ?aO ?aR (fun _ _ h => h) (fun _ h => h.elim) ?aF ?aB ?aS ?aL ?_
     (case aR => exact Kd.C_kept_now HR1.out (qp HK.out))
     (case aB => exact (qb HB.out))
     (case aF => exact (fun k_ hk => ⟨(.inr (Nat.le_trans (by first | exact HK.out.1 | exact (qp HK.out).1) hk)), Kd.fresh' (Kd.S_lt (qv HO_4.out)) k_ hk, Kd.fresh' (Kd.R_lt (qr HO_12.out)) k_ hk, Kd.fresh' (Kd.R_lt (qr HO130.out)) k_ hk⟩))
     (case aO => exact (by (with_reducible repeat (first | apply Kd.R_alloc | apply Kd.R_drewN | apply Kd.R_drew)); exact Kd.R_mono HO126.out (fun _ hk => ⟨hk.1.1.1.1, ⟨hk.1.1.2, ⟨hk.1.2, hk.2⟩⟩⟩)))
     (case aS => exact (below_size (qb HB.out)))
     (case aL => have := LMc31.out; omega)
     intro v127 w41 ho hb hg hat
     rw [← Ny103.out] at ho
     replace HO_4 := q0 (Kd.S_after (ok := (fun k_ => (P4_ k_ ∨ w.heap.size ≤ k_) ∧ some k_ ≠ (.slice (some ad122) t107.length co34 : Value).ownBlock ∧ some k_ ≠ (v129 : Value).ownBlock)) (by (with_reducible repeat (first | apply Kd.S_alloc | apply Kd.S_drewN | apply Kd.S_drew)); exact Kd.S_mono HO_4.out (fun _ hk => ⟨⟨hk.1.1.1, ⟨hk.1.1.2, hk.1.2⟩⟩, hk.2⟩)) hg hat)
     replace HO_12 := q0 (Kd.R_after (ok := (fun k_ => (P4_ k_ ∨ w.heap.size ≤ k_) ∧ some k_ ≠ (.slice Ao35 x4_1.length co35 : Value).ownBlock ∧ some k_ ≠ (v129 : Value).ownBlock)) (by (with_reducible repeat (first | apply Kd.R_alloc | apply Kd.R_drewN | apply Kd.R_drew)); exact Kd.R_mono HO_12.out (fun _ hk => ⟨⟨hk.1.1.1, ⟨hk.1.1.2, hk.1.2⟩⟩, hk.2⟩)) hg hat)
     replace BK111 := q0 (blk_grown (g := gb111) (o := .cells #[.int .i64 a0_0, .slice A0_1 l0_1.length c0_1] 31 (0, 0)) (qk BK111.out) hg (Kd.R_ne HO126.out BK111.out (by decide)))
     replace HO130 := q0 (Kd.R_after (ok := (fun k_ => (P4_ k_ ∨ w.heap.size ≤ k_) ∧ some k_ ≠ (.slice Ao35 x4_1.length co35 : Value).ownBlock ∧ some k_ ≠ (.slice (some ad122) t107.length co34 : Value).ownBlock)) (by (with_reducible repeat (first | apply Kd.R_alloc | apply Kd.R_drewN | apply Kd.R_drew)); exact Kd.R_mono HO130.out (fun _ hk => ⟨⟨hk.1.1.1.1, ⟨hk.1.1.2, hk.1.2⟩⟩, hk.2⟩)) hg hat)
     replace HB := q0 (hb)
     replace HK := q0 (Kept.of_grown (S := (fun k_ => P4_ k_)) hg (qp HK.out) (fun k_ e_ => (HO126.out.1 k_ e_).1.1.1.1))
     have HO128 := q0 (ho)
     clear HO126
     clear ho hb hg hat
     refine hK.out _ _ ⟨(blk_cell BK111.out 0).trans rfl, (blk_cell BK111.out 1).trans rfl, own_cell HO_12.out p122 q122⟩ (fun hHeld => ?_)
     clear hK K
     refine nu 58 ?_
     exact norm_ (by simp only [putAll, Act.put, List.setIfInBounds_toArray, List.set_cons_zero, List.set_cons_succ]) (hCont (v125, v127, v129) _ ⟨hHeld, (by (with_reducible repeat (first | apply Kd.R_alloc | apply Kd.R_drewN | apply Kd.R_drew)); exact Kd.R_mono HO128.out (fun _ hk => ⟨hk.1, ⟨hk.2.2.2, ⟨hk.2.2.1, hk.2.1⟩⟩⟩)), (by (with_reducible repeat (first | apply Kd.R_alloc | apply Kd.R_drewN | apply Kd.R_drew)); exact Kd.R_mono HO130.out (fun _ hk => ⟨hk.1.1, ⟨hk.2, ⟨hk.1.2.2, hk.1.2.1⟩⟩⟩)), (by (with_reducible repeat (first | apply Kd.R_alloc | apply Kd.R_drewN | apply Kd.R_drew)); exact Kd.R_mono HO_12.out (fun _ hk => ⟨hk.1.1, ⟨hk.2, ⟨hk.1.2.2, hk.1.2.1⟩⟩⟩)), (by (with_reducible repeat (first | apply Kd.S_alloc | apply Kd.S_drewN | apply Kd.S_drew)); exact Kd.S_mono HO_4.out (fun _ hk => ⟨hk.1.1, ⟨hk.2, ⟨hk.1.2.2, hk.1.2.1⟩⟩⟩)), (qk BK111.out), (qp HK.out), (qb HB.out)⟩)
 rintro ⟨v125, v127, v129⟩ w42 ⟨hS_, h0_, h1_, h2_, h3_, h4_, h5_, h6_⟩
 have n0_ : Aside0 (Kd.R (Kd.int .i64) 3 w42 w0.heap.size (fun k_ => (P4_ k_ ∨ w.heap.size ≤ k_) ∧ some k_ ≠ (v129 : Value).ownBlock ∧ some k_ ≠ (.slice (some ad122) t107.length co34 : Value).ownBlock ∧ some k_ ≠ (.slice Ao35 x4_1.length co35 : Value).ownBlock) v127 y103) := ⟨h0_⟩
 have n1_ : Aside0 (Kd.R (Kd.int .i64) 3 w42 w0.heap.size (fun k_ => (P4_ k_ ∨ w.heap.size ≤ k_) ∧ some k_ ≠ (v127 : Value).ownBlock ∧ some k_ ≠ (.slice (some ad122) t107.length co34 : Value).ownBlock ∧ some k_ ≠ (.slice Ao35 x4_1.length co35 : Value).ownBlock) v129 y104) := ⟨h1_⟩
 have n2_ : Aside0 (Kd.R (Kd.int .i64) 3 w42 w0.heap.size (fun k_ => (P4_ k_ ∨ w.heap.size ≤ k_) ∧ some k_ ≠ (v127 : Value).ownBlock ∧ some k_ ≠ (v129 : Value).ownBlock ∧ some k_ ≠ (.slice Ao35 x4_1.length co35 : Value).ownBlock) (.slice (some ad122) t107.length co34) t107) := ⟨h2_⟩
 have n3_ : Aside0 (Kd.S (Kd.slice 3 (Kd.int .i64)) 26 w42 w0.heap.size (fun k_ => (P4_ k_ ∨ w.heap.size ≤ k_) ∧ some k_ ≠ (v127 : Value).ownBlock ∧ some k_ ≠ (v129 : Value).ownBlock ∧ some k_ ≠ (.slice (some ad122) t107.length co34 : Value).ownBlock) (.slice Ao35 x4_1.length co35) x4_1) := ⟨h3_⟩
 have n4_ : Aside0 (w42.heap[gb111]? = some (.cells #[.int .i64 a0_0, .slice A0_1 l0_1.length c0_1] 31 (0, 0))) := ⟨h4_⟩
 have n5_ : Aside0 (Kept w w42 (fun k_ => P4_ k_)) := ⟨h5_⟩
 have n6_ : Aside0 (Below w0.heap.size w0 w42) := ⟨h6_⟩
 clear HO_4
 clear HO_12
 clear BK111
 clear HK
 clear HB
 clear h0_ h1_ h2_ h3_ h4_ h5_ h6_
 have HO128 := n0_
 have HO130 := n1_
 have HO_12 := n2_
 have HO_4 := n3_
 have BK111 := n4_
 have HK := n5_
 have HB := n6_
 clear n0_ n1_ n2_ n3_ n4_ n5_ n6_
 have hHeld : w42.cell? ⟨gb111, 0, none⟩ = some (.int .i64 a0_0) ∧ w42.cell? ⟨gb111, 1, none⟩ = some (.slice A0_1 l0_1.length c0_1) ∧ w42.cell? (ad122.add (x13_1).toNat) = some (.int .i64 (rd t107 x13_1)) := hS_
 obtain ⟨Ao44, co44, eo44⟩ := Kd.R_slice HO130.out
 (first | subst eo44 | (injection eo44 with f1_ f2_ f3_; have f4_ := f1_.symm; have f5_ := f3_.symm; clear f1_ f2_ f3_; subst f4_; subst f5_))
 refine norm_ (a' := ?_) ?_ ?_
 rotate_left
 · simp only [putAll, Act.put, List.setIfInBounds_toArray, List.set_cons_zero, List.set_cons_succ]
   rfl
 refine one_ (i := 9) (N := some 64) (ba 15 8191) rfl rfl (one_of HT_.out (by kernel_rfl)) (by decide) (fun K hK => ?_)
 refine Kd.R_append_rows_step (Kd.int .i64) (w0 := w0) w0.heap.size (by rfl) (.tmp 58) (.tmp 63) 26 3 (.int .i64 0) 8 rfl Try.underlying26 info3 rfl (by decide) (by omega) v127 y103 y104 _ _ _ (fun k_ => (P4_ k_ ∨ w.heap.size ≤ k_) ∧ some k_ ≠ (.slice Ao35 x4_1.length co35 : Value).ownBlock ∧ some k_ ≠ (.slice (some ad122) t107.length co34 : Value).ownBlock ∧ some k_ ≠ (.slice Ao44 y104.length co44 : Value).ownBlock) (fun _ => False) rfl rfl ?aO ?aR (fun _ _ h => h) (fun _ h => h.elim) ?aF ?aB ?aS ?aL ?_
 (case aR => repeat (first | exact (Kd.R_reads' HO130.out).2.2 | (with_reducible refine Kd.C_alloc ?_ _) | (with_reducible refine Kd.C_drewN ?_ _) | (with_reducible refine Kd.C_drew ?_)))
 (case aB => exact (qb HB.out))
 (case aF => exact (fun k_ hk => ⟨(.inr (Nat.le_trans (by first | exact HK.out.1 | exact (qp HK.out).1) hk)), Kd.fresh' (Kd.S_lt (qv HO_4.out)) k_ hk, Kd.fresh' (Kd.R_lt (qr HO_12.out)) k_ hk, Kd.fresh' (Kd.R_lt (qr HO130.out)) k_ hk⟩))
 (case aO => exact (by (with_reducible repeat (first | apply Kd.R_alloc | apply Kd.R_drewN | apply Kd.R_drew)); exact Kd.R_mono HO128.out (fun _ hk => ⟨hk.1, ⟨hk.2.2.2, ⟨hk.2.2.1, hk.2.1⟩⟩⟩)))
 (case aS => exact (below_size (qb HB.out)))
 (case aL => have := LMc32.out; omega)
 intro v131 w43 ho hb hg hat
 rw [← Ny123.out] at ho
 replace HO_4 := q0 (Kd.S_after (ok := (fun k_ => (P4_ k_ ∨ w.heap.size ≤ k_) ∧ some k_ ≠ (.slice (some ad122) t107.length co34 : Value).ownBlock ∧ some k_ ≠ (.slice Ao44 y104.length co44 : Value).ownBlock)) (by (with_reducible repeat (first | apply Kd.S_alloc | apply Kd.S_drewN | apply Kd.S_drew)); exact Kd.S_mono HO_4.out (fun _ hk => ⟨⟨hk.1, ⟨hk.2.2.2, hk.2.2.1⟩⟩, hk.2.1⟩)) hg hat)
 replace HO_12 := q0 (Kd.R_after (ok := (fun k_ => (P4_ k_ ∨ w.heap.size ≤ k_) ∧ some k_ ≠ (.slice Ao35 x4_1.length co35 : Value).ownBlock ∧ some k_ ≠ (.slice Ao44 y104.length co44 : Value).ownBlock)) (by (with_reducible repeat (first | apply Kd.R_alloc | apply Kd.R_drewN | apply Kd.R_drew)); exact Kd.R_mono HO_12.out (fun _ hk => ⟨⟨hk.1, ⟨hk.2.2.2, hk.2.2.1⟩⟩, hk.2.1⟩)) hg hat)
 replace BK111 := q0 (blk_grown (g := gb111) (o := .cells #[.int .i64 a0_0, .slice A0_1 l0_1.length c0_1] 31 (0, 0)) (qk BK111.out) hg (Kd.R_ne HO128.out BK111.out (by decide)))
 replace HO130 := q0 (Kd.R_after (ok := (fun k_ => (P4_ k_ ∨ w.heap.size ≤ k_) ∧ some k_ ≠ (.slice Ao35 x4_1.length co35 : Value).ownBlock ∧ some k_ ≠ (.slice (some ad122) t107.length co34 : Value).ownBlock)) (by (with_reducible repeat (first | apply Kd.R_alloc | apply Kd.R_drewN | apply Kd.R_drew)); exact Kd.R_mono HO130.out (fun _ hk => ⟨⟨hk.1, ⟨hk.2.2.2, hk.2.2.1⟩⟩, hk.2.1⟩)) hg hat)
 replace HB := q0 (hb)
 replace HK := q0 (Kept.of_grown (S := (fun k_ => P4_ k_)) hg (qp HK.out) (fun k_ e_ => (HO128.out.1 k_ e_).1))
 have HO132 := q0 (ho)
 clear HO128
 clear ho hb hg hat
 obtain ⟨Ao45, co45, eo45⟩ := Kd.R_slice HO132.out
 (first | subst eo45 | (injection eo45 with f1_ f2_ f3_; have f4_ := f1_.symm; have f5_ := f3_.symm; clear f1_ f2_ f3_; subst f4_; subst f5_))
 refine hK.out _ _ ⟨(blk_cell BK111.out 0).trans rfl, (blk_cell BK111.out 1).trans rfl, own_cell HO_12.out p122 q122⟩ (fun hHeld => ?_)
 clear hK K
 refine nu 64 ?_
 refine one_ (i := 13) (N := some 68) (ba 15 16383) rfl rfl (one_of HT_.out (by kernel_rfl)) (by decide) (fun K hK => ?_)
 refine goes_ Try.func46 (by kernel_rfl) rfl #[.agg #[.int .i64 a0_0, .slice A0_1 l0_1.length c0_1], .slice Ao45 y123.length co45, .int .i64 a2, .int .i64 a3, .slice Ao35 x4_1.length co35] (by rfl) rfl rfl qm ?_
 with_reducible refine (ih k1 (by have := HK1.out; omega) a0_0 _ _ l0_1 _ _ y123 a2 a3 (fun k_ => (((P4_ k_ ∨ w.heap.size ≤ k_) ∧ some k_ ≠ (.slice (some ad122) t107.length co34 : Value).ownBlock) ∧ some k_ ≠ (.slice Ao45 y123.length co45 : Value).ownBlock) ∧ k_ ≠ gb111) (.slice Ao35 x4_1.length co35) x4_1 t105 w0 _ ?side1 ?side2 ?side3 ?side4 ?side5 ?side6 A33.out).mono ?_
 (case side1 => exact qb HB.out)
 (case side2 => exact Kd.C_kept_call HR0_1.out (qp HK.out) (fun k_ hs_ => hs_.1.1.1))
 (case side3 => exact HC0_1.out)
 (case side4 => exact Kd.C_kept_own (Kd.R_tight rfl HO132.out) (fun k_ hk_ hs_ => hs_.1.2 hk_))
 (case side5 => exact (Kd.R_reads' HO132.out).2.1)
 (case side6 => exact Kd.S_types (Kd.S_mono HO_4.out (fun k_ hk_ => ⟨⟨hk_.1.1, hk_.1.2.1⟩, hk_.2⟩)) BK111.out (by decide))
 rintro e w46 ⟨v133, rfl, ho0, hb, hkp⟩
 refine ⟨_, rfl, ?_⟩
 replace BK111 := q0 (blk_kept (qk BK111.out) hkp (fun hs_ => hs_.2 rfl))
 have HO134 := q0 (Kd.S_mono (ok' := fun k_ => (P4_ k_ ∨ w.heap.size ≤ k_) ∧ some k_ ≠ (.slice (some ad122) t107.length co34 : Value).ownBlock) ho0 (fun k_ hk_ => Or.elim hk_ (fun hs_ => hs_.1.1) (fun hn_ => ⟨.inr (Nat.le_trans (by first | exact HK.out.1 | exact (qp HK.out).1) hn_), Kd.fresh' (Kd.R_lt (qr HO_12.out)) k_ hn_⟩)))
 replace HO_12 := q0 (Kd.R_mono (ok' := fun k_ => (P4_ k_ ∨ w.heap.size ≤ k_) ∧ some k_ ≠ (v133 : Value).ownBlock) (Kd.R_keptB (Kd.R_tight rfl HO_12.out) hkp (fun k_ hk_ hs_ => hs_.1.1.2 hk_)) (fun k_ hk_ => ⟨(HO_12.out.1 k_ hk_.1.symm).1.1, fun e_ => Or.elim ((Kd.S_R ho0).1 k_ e_.symm) (fun hs_ => hk_.2.1 hs_) (fun hn_ => Nat.not_le.2 hk_.2.2 hn_)⟩))
 replace HK := q0 (Kept.then_ (S := (fun k_ => P4_ k_)) (qp HK.out) hkp (fun k_ hs_ => hs_.1.1.1))
 replace HB := q0 (hb)
 clear HO_4 HO130 HO132
 clear hb hkp ho0
 refine hK.out _ _ ⟨(blk_cell BK111.out 0).trans rfl, (blk_cell BK111.out 1).trans rfl, own_cell HO_12.out p122 q122⟩ (fun hHeld => ?_)
 clear hK K
 refine nu 68 ?_
 refine pu 14 (some 4) (ba 15 32767) HT_.out ?_
 refine done_ (done_of HT_.out (by kernel_rfl)) ?_
 try go_wp2
 go_roundg k1
 case measure => have := HK1.out; omega
 case rel => exact ⟨(t105), (wrap64 (x13_1 + 1)), qs, H', ⟨by have := HK1.out; omega⟩, ⟨qv HO134.out⟩, ⟨qr HO_12.out⟩, ⟨qk BK111.out⟩, ⟨qp HK.out⟩, ⟨qb HB.out⟩⟩

set_option maxHeartbeats 8000000 in
set_option maxRecDepth 100000 in
theorem spec_WayAll.calls (k : Nat) (a0_0 : Int) (A0_1 : Option Addr) (c0_1 : Nat) (l0_1 : List (STie)) (a1 : Int) (a2 : Int) (r : List (List Int)) (w : World) (hr0_1 : Kd.C kTie w A0_1 l0_1.length l0_1) (hc0_1 : l0_1.length ≤ c0_1) (h : spec_WayAll.f k a0_0 l0_1 a1 a2 = some r) :
    Calls Try.prog 22 #[.agg #[.int .i64 a0_0, .slice A0_1 l0_1.length c0_1], .int .i64 a1, .int .i64 a2] w fun e w' => ∃ v0_ : Value, e = .returned (v0_) ∧ Kd.S (Kd.slice 3 (Kd.int .i64)) 26 w' w.heap.size (fun _ => True) v0_ r ∧ Below w.heap.size w w' := by
 have hu31 := Try.underlying31
 have HR0_1 := Aside0.mk hr0_1
 have HC0_1 := Aside0.mk hc0_1
 clear hr0_1 hc0_1
 have HB := q0 (Below.refl w.heap.size w)
 have H : ((some (([] : List (List Int)) : List (List Int))).bind fun y100 => ((spec_l1Knot.f k a0_0 l0_1 a1).bind fun t102 => (if t102 = true then ((spec_l1Knot.f k a0_0 l0_1 a2).bind fun t103 => (spec_WayAll.j0 k a1 a2 y100 (!t103) a0_0 l0_1)) else (spec_WayAll.j0 k a1 a2 y100 true a0_0 l0_1)))) = some r := h
 clear h
 obtain ⟨y100, hy100⟩ : ∃ y_ : List (List Int), y_ = (([] : List (List Int))) := ⟨_, rfl⟩
 replace H : ((spec_l1Knot.f k a0_0 l0_1 a1).bind fun t102 => (if t102 = true then ((spec_l1Knot.f k a0_0 l0_1 a2).bind fun t103 => (spec_WayAll.j0 k a1 a2 y100 (!t103) a0_0 l0_1)) else (spec_WayAll.j0 k a1 a2 y100 true a0_0 l0_1))) = some r := qy H hy100
 have Ny100 := Aside0.mk hy100
 clear hy100
 have HC4 := Aside0.mk H
 clear H
 go_enter Try.func22, Try.ntmps22
 go_upto_region 2 with (first | ((with_reducible refine gate_dst (N := 3) rfl ?_); refine be 3 #[.int .i64 a0_0, .slice A0_1 l0_1.length c0_1] 31 ?_; intro gb104 hg w5 hbox hb; have BK104 := q0 (hbox); have GW104 := q0 ((bs HB.out hg : w.heap.size ≤ gb104)); have GE104 := q0 ((bs HB.out hg : w.heap.size ≤ gb104)); replace HB := q0 (below_step (qb HB.out) hb); clear hb hbox hg) | ((with_reducible refine gate_dst (N := 9) rfl ?_); refine Kd.S_lit (Kd.slice 3 (Kd.int .i64)) _ 26 ?hg (N := 9) ?hd (xs := ([] : List (List Int))) (inner := []) (ok := fun _ => True) (okp := fun _ => True) ?hr ?hp (fun _ hk => hk) trivial (Below.refl _ _) (Nat.le_refl _) (by simp) ?_; (case hd => rfl); (case hg => rfl); (case hr => first | (go_simp; done) | (go_simp; rfl)); (case hp => exact (Reps.none _ _)); intro v105 w6 ho7 hb hg_ hnew_; clear hg_ hnew_; (first | rw [← Ny100.out] at ho7 | (simp only [Int.reduceToNat] at ho7; rw [← Ny100.out] at ho7)); have HO106 := q0 (Kd.S_lower ho7 (below_size (qb HB.out))); replace BK104 := q0 (kb BK104.out hb); replace HB := q0 (below_step (qb HB.out) hb); clear hb ho7))
 (try simp only [Act.put, List.setIfInBounds_toArray, List.set_cons_zero, List.set_cons_succ])
 go_cut [19] (fun v19 wc => ∃ (kq : Nat) (x19_3 : Bool), v19 = .bool x19_3 ∧ Aside0 (spec_WayAll.j0 kq a1 a2 y100 x19_3 a0_0 l0_1 = some r) ∧ Aside0 (kq ≤ k) ∧ Aside0 (Kd.S (Kd.slice 3 (Kd.int .i64)) 26 wc w.heap.size (fun _ => True) v105 y100) ∧ Aside0 (wc.heap[gb104]? = some (.cells #[.int .i64 a0_0, (.slice A0_1 l0_1.length c0_1)] 31 (0, 0))) ∧ Aside0 (Below w.heap.size w wc))
 case first =>
   have H := HC4.out
   clear HC4
   replace H := Option.bind_eq_some_iff.mp H
   obtain ⟨t102, A80, H⟩ := H
   have A8 := Aside0.mk A80
   clear A80
   by_cases c9 : t102 = true
   rotate_left
   · replace c9 := Bool.eq_false_iff.mpr c9
     subst c9
     rw [if_neg nf] at H
     have H' := Aside0.mk H
     clear H
     have hcz15_0 : w6.cell? ⟨gb104, 0, none⟩ = some (.int .i64 a0_0) := (blk_cell BK104.out 0).trans rfl
     have hcz15_1 : w6.cell? ⟨gb104, 1, none⟩ = some (.slice A0_1 l0_1.length c0_1) := (blk_cell BK104.out 1).trans rfl
     have hfz15_0 := blk_frozen BK104.out 0
     have hfz15_1 := blk_frozen BK104.out 1
     go_wp2_with (first | ((with_reducible refine gate_callee (f := 40) rfl ?_); refine gl 12 Try.func40 #[.agg #[.int .i64 a0_0, .slice A0_1 l0_1.length c0_1], .int .i64 a1] ?_; (with_reducible refine (spec_l1Knot.calls k a0_0 _ _ l0_1 a1 false _ ?side1 ?side2 A8.out).mono ?_); (case side1 => exact qc (Kd.C_below HR0_1.out HB.out)); (case side2 => exact HC0_1.out); rintro e w16 ⟨rfl, hb⟩; refine ⟨_, rfl, ?_⟩; replace HO106 := q0 (Kd.S_below (qv HO106.out) hb); replace BK104 := q0 (kb BK104.out hb); replace HB := q0 (below_step (qb HB.out) hb); (try clear hb); (try clear hb2); (try clear hk); (try clear hi)))
     go_meet
     case rel => exact ⟨_, (true), qs, H', ⟨by first | omega | exact Nat.le_refl _⟩, ⟨qv HO106.out⟩, ⟨qk BK104.out⟩, ⟨qb HB.out⟩⟩
   subst c9
   rw [if_pos rfl] at H
   replace H := Option.bind_eq_some_iff.mp H
   obtain ⟨t103, A107, H⟩ := H
   have A10 := Aside0.mk A107
   clear A107
   have H' := Aside0.mk H
   clear H
   have hcz11_0 : w6.cell? ⟨gb104, 0, none⟩ = some (.int .i64 a0_0) := (blk_cell BK104.out 0).trans rfl
   have hcz11_1 : w6.cell? ⟨gb104, 1, none⟩ = some (.slice A0_1 l0_1.length c0_1) := (blk_cell BK104.out 1).trans rfl
   have hfz11_0 := blk_frozen BK104.out 0
   have hfz11_1 := blk_frozen BK104.out 1
   go_wp2_with (first | ((with_reducible refine gate_callee (f := 40) rfl ?_); refine gl 12 Try.func40 #[.agg #[.int .i64 a0_0, .slice A0_1 l0_1.length c0_1], .int .i64 a1] ?_; (with_reducible refine (spec_l1Knot.calls k a0_0 _ _ l0_1 a1 true _ ?side1 ?side2 A8.out).mono ?_); (case side1 => exact qc (Kd.C_below HR0_1.out HB.out)); (case side2 => exact HC0_1.out); rintro e w12 ⟨rfl, hb⟩; refine ⟨_, rfl, ?_⟩; replace HO106 := q0 (Kd.S_below (qv HO106.out) hb); replace BK104 := q0 (kb BK104.out hb); replace HB := q0 (below_step (qb HB.out) hb); (try clear hb); (try clear hb2); (try clear hk); (try clear hi); have hcz13_0 : w12.cell? ⟨gb104, 0, none⟩ = some (.int .i64 a0_0) := (blk_cell BK104.out 0).trans rfl; have hcz13_1 : w12.cell? ⟨gb104, 1, none⟩ = some (.slice A0_1 l0_1.length c0_1) := (blk_cell BK104.out 1).trans rfl; have hfz13_0 := blk_frozen BK104.out 0; have hfz13_1 := blk_frozen BK104.out 1) | (go_at_call 40; (with_reducible refine (spec_l1Knot.calls k a0_0 _ _ l0_1 a2 t103 _ ?side1 ?side2 A10.out).mono ?_); (case side1 => exact qc (Kd.C_below HR0_1.out HB.out)); (case side2 => exact HC0_1.out); rintro e w14 ⟨rfl, hb⟩; replace HO106 := q0 (Kd.S_below (qv HO106.out) hb); replace BK104 := q0 (kb BK104.out hb); replace HB := q0 (below_step (qb HB.out) hb); (try clear hb); (try clear hb2); (try clear hk); (try clear hi)))
   go_meet
   case rel => exact ⟨_, (!t103), qs, H', ⟨by first | omega | exact Nat.le_refl _⟩, ⟨qv HO106.out⟩, ⟨qk BK104.out⟩, ⟨qb HB.out⟩⟩
 clear HC4
 try clear c2
 try clear p2
 try clear c4
 try clear c9
 try clear hcz11_0
 try clear hcz11_1
 try clear hcz13_0
 try clear hcz13_1
 try clear hcz15_0
 try clear hcz15_1
 try clear hfz11_0
 try clear hfz11_1
 try clear hfz13_0
 try clear hfz13_1
 try clear hfz15_0
 try clear hfz15_1
 obtain ⟨kq, x19_3, rfl, HA, HJ3, HO_7, BK104, HB⟩ := hcut
 rcases kq with _ | kj3
 · exact absurd HA.out (by simp [spec_WayAll.j0])
 have H := HA.out
 clear HA
 simp only [spec_WayAll.j0] at H
 by_cases c17 : x19_3 = true
 · subst c17
   rw [if_pos rfl] at H
   obtain rfl := Option.some.inj H
   go_wp2
   go_ret
   exact ⟨_, qe, qv HO_7.out, qb HB.out⟩
 replace c17 := Bool.eq_false_iff.mpr c17
 subst c17
 rw [if_neg nf] at H
 have H' := Aside0.mk H
 clear H
 go_wp2
 go_loopg [7, 8] kj3 (fun kq v7 v8 w' => ∃ (x7_2 : List (List Int)) (x8_2 : Int), v8 = .int .i64 x8_2 ∧ Aside0 (spec_WayAll.l0 kq a1 a2 x7_2 x8_2 a0_0 l0_1 = some r) ∧ Aside0 (kq ≤ kj3) ∧ Aside0 (Kd.S (Kd.slice 3 (Kd.int .i64)) 26 w' w.heap.size (fun _ => True) v7 x7_2) ∧ Aside0 (w'.heap[gb104]? = some (.cells #[.int .i64 a0_0, (.slice A0_1 l0_1.length c0_1)] 31 (0, 0))) ∧ Aside0 (Below w.heap.size w w'))
 case atStart => exact ⟨(y100), (1), qs, H', ⟨Nat.le_refl _⟩, ⟨qv HO_7.out⟩, ⟨qk BK104.out⟩, ⟨qb HB.out⟩⟩
 clear H'
 try clear c1
 try clear c2
 try clear p2
 try clear c4
 try clear c9
 try clear c17
 try clear hcz11_0
 try clear hcz11_1
 try clear hcz13_0
 try clear hcz13_1
 try clear hcz15_0
 try clear hcz15_1
 try clear hfz11_0
 try clear hfz11_1
 try clear hfz13_0
 try clear hfz13_1
 try clear hfz15_0
 try clear hfz15_1
 try clear p2
 obtain ⟨x7_2, x8_2, rfl, HA, HK2, HO_7, BK104, HB⟩ := hrel
 rcases gk with _ | k2
 · exact absurd HA.out (by simp [spec_WayAll.l0])
 have H := HA.out
 clear HA
 simp only [spec_WayAll.l0] at H
 by_cases c18 : x8_2 ≤ a0_0
 rotate_left
 · rw [if_neg c18] at H
   have c18b0 : decide (x8_2 ≤ a0_0) = false := decide_eq_false c18
   clear c18
   obtain rfl := Option.some.inj H
   have hcz26_0 : wr.cell? ⟨gb104, 0, none⟩ = some (.int .i64 a0_0) := (blk_cell BK104.out 0).trans rfl
   have hcz26_1 : wr.cell? ⟨gb104, 1, none⟩ = some (.slice A0_1 l0_1.length c0_1) := (blk_cell BK104.out 1).trans rfl
   have hfz26_0 := blk_frozen BK104.out 0
   have hfz26_1 := blk_frozen BK104.out 1
   go_wp2
   go_ret
   exact ⟨_, qe, qv HO_7.out, qb HB.out⟩
 rw [if_pos c18] at H
 have c18b0 : decide (x8_2 ≤ a0_0) = true := decide_eq_true c18
 clear c18
 obtain ⟨y108, hy108⟩ : ∃ y_ : List Int, y_ = (([a1] : List Int)) := ⟨_, rfl⟩
 replace H : ((spec_l2On.f k2 a0_0 l0_1 y108 a2 x8_2 x7_2).bind fun t101 => (spec_WayAll.l0 k2 a1 a2 t101 (wrap64 (x8_2 + 1)) a0_0 l0_1)) = some r := qy H hy108
 have Ny108 := Aside0.mk hy108
 clear hy108
 replace H := Option.bind_eq_some_iff.mp H
 obtain ⟨t101, A109, H⟩ := H
 have A19 := Aside0.mk A109
 clear A109
 have H' := Aside0.mk H
 clear H
 have hcz20_0 : wr.cell? ⟨gb104, 0, none⟩ = some (.int .i64 a0_0) := (blk_cell BK104.out 0).trans rfl
 have hcz20_1 : wr.cell? ⟨gb104, 1, none⟩ = some (.slice A0_1 l0_1.length c0_1) := (blk_cell BK104.out 1).trans rfl
 have hfz20_0 := blk_frozen BK104.out 0
 have hfz20_1 := blk_frozen BK104.out 1
 go_wp2_with (first | ((with_reducible refine gate_dst (N := 29) rfl ?_); refine Kd.R_lit (Kd.int .i64) _ 3 ?hg (N := 29) ?hd (xs := ([a1] : List Int)) (inner := [.int .i64 a1]) (ok := fun _ => True) (okp := fun _ => True) ?hr ?hp (fun _ hk => hk) trivial (Below.refl _ _) (Nat.le_refl _) (by simp) ?_; (case hd => rfl); (case hg => rfl); (case hr => first | (go_simp; done) | (go_simp; rfl)); (case hp => exact (Reps.one (show Kd.M (Kd.int .i64) _ _ _ a1 [.int .i64 a1] from rfl) (Reps.none _ _))); intro v110 w21 ho22 hb hg_ hnew_; clear hg_ hnew_; (first | rw [← Ny108.out] at ho22 | (simp only [Int.reduceToNat] at ho22; rw [← Ny108.out] at ho22)); have HO111 := q0 (Kd.R_lower (Kd.R_new' ho22 (Kd.S_lt (qv HO_7.out))) (below_size (qb HB.out))); replace HO_7 := q0 (Kd.S_elder' (qv HO_7.out) (Kd.R_base ho22) hb); replace BK104 := q0 (kb BK104.out hb); replace HB := q0 (below_step (qb HB.out) hb); clear hb ho22; obtain ⟨Ao23, co23, eo23⟩ := Kd.R_slice HO111.out; subst eo23; obtain ⟨Ao24, co24, eo24⟩ := Kd.S_slice HO_7.out; subst eo24) | ((with_reducible refine gate_callee (f := 46) rfl ?_); refine gl 33 Try.func46 #[.agg #[.int .i64 a0_0, .slice A0_1 l0_1.length c0_1], .slice Ao23 y108.length co23, .int .i64 a2, .int .i64 x8_2, .slice Ao24 x7_2.length co24] ?_; (with_reducible refine (spec_l2On.calls k2 a0_0 _ _ l0_1 _ _ y108 a2 x8_2 (fun k_ => (some k_ ≠ (.slice Ao23 y108.length co23 : Value).ownBlock ∧ w.heap.size ≤ k_) ∧ k_ ≠ gb104) (.slice Ao24 x7_2.length co24) x7_2 t101 w _ ?side1 ?side2 ?side3 ?side4 ?side5 ?side6 A19.out).mono ?_); (case side1 => exact qb HB.out); (case side2 => exact Kd.C_kept_came (Kd.heap_iso _ (Kd.heap_pair (Kd.heap_int .i64) (Kd.heap_int .i64))) HR0_1.out (qb HB.out) (fun k_ hs_ => hs_.1.2)); (case side3 => exact HC0_1.out); (case side4 => exact Kd.C_kept_own (Kd.R_tight rfl HO111.out) (fun k_ hk_ hs_ => hs_.1.1 hk_)); (case side5 => exact (Kd.R_reads' HO111.out).2.1); (case side6 => exact Kd.S_types (Kd.S_mono (Kd.S_bound HO_7.out) (fun k_ hk_ => ⟨hk_.1.2, hk_.2.1⟩)) BK104.out (by decide)); rintro e w25 ⟨v112, rfl, ho0, hb, hkp⟩; refine ⟨_, rfl, ?_⟩; replace BK104 := q0 (blk_kept (qk BK104.out) hkp (fun hs_ => hs_.2 rfl)); have HO113 := q0 (Kd.S_mono (ok' := fun _ => True) ho0 (fun _ _ => trivial)); replace HB := q0 (hb); clear HO_7 HO111; clear hb hkp ho0))
 go_roundg k2
 case measure => have := HJ3.out; have := HK2.out; omega
 case rel => exact ⟨(t101), (wrap64 (x8_2 + 1)), qs, H', ⟨by have := HJ3.out; have := HK2.out; omega⟩, ⟨qv HO113.out⟩, ⟨qk BK104.out⟩, ⟨qb HB.out⟩⟩

end Go.Proofs.Ytmfmeenfhdohcaa.P
