import Derived.Test.YtloonheabfdgbaaDoorP0
import Derived.Test.YtloonheabfdgbaaDoorP1
import Derived.Test.YtloonheabfdgbaaDoorP3
namespace Go.Proofs.YtloonheabfdgbaaDoor.P
open Go.RowKit Go.Proofs.YtloonheabfdgbaaDoorW.PrintWords Go.Proofs.YtloonheabfdgbaaDoorW.PrintLast Go.Proofs.YtloonheabfdgbaaDoorW.PrintMore
attribute [local go_sem] max2_int min2_int max_two min_two max_three min_three max_four min_four
set_option linter.unusedVariables false
set_option linter.unusedSimpArgs false
attribute [local go_sem high] eqATie
def spec_l71Spoil.T7 : Bool × List (List Nat × List Nat) := (true, [([], []), ([0], [0]), ([], []), ([2], [2]), ([], []), ([4, 3], [4]), ([3, 5], [3, 5]), ([6], [6]), ([1, 7, 5], [1, 7]), ([0, 1, 2, 3, 4, 5, 6, 7, 8], []), ([9, 8, 8, 0, 1, 2, 3, 4, 5, 6, 7, 8], [8, 9])])
def spec_l71Spoil.B7 : List Nat := [0, 1, 0, 4, 0, 28, 60, 124, 255, 511, 1023]
theorem spec_l71Spoil.tab7 : rtab .any (opsOf Tryd.f47 7) = spec_l71Spoil.T7 := by kernel_rfl
theorem spec_l71Spoil.bits7 : waitsOk spec_l71Spoil.T7.2 spec_l71Spoil.B7 = true := by kernel_rfl
def spec_l71Spoil.T13 : Bool × List (List Nat × List Nat) := (true, [([], []), ([0], [0]), ([], []), ([], []), ([3], [3]), ([], []), ([4, 5], [4, 5]), ([6], [6]), ([7], [7]), ([], []), ([9], [9]), ([], []), ([10, 11], [10, 11]), ([12], [12]), ([13], [13]), ([8, 14], [8, 14]), ([1, 2, 0, 1, 2, 3, 4, 5, 6, 7, 8, 9, 10, 11, 12, 13, 14, 15], [1, 2]), ([16, 15, 0, 1, 2, 3, 4, 5, 6, 7, 8, 9, 10, 11, 12, 13, 14, 15], [15, 16])])
def spec_l71Spoil.B13 : List Nat := [0, 1, 0, 0, 8, 0, 56, 120, 248, 0, 512, 0, 3584, 7680, 15872, 32760, 65535, 131071]
theorem spec_l71Spoil.tab13 : rtab .any (opsOf Tryd.f47 13) = spec_l71Spoil.T13 := by kernel_rfl
theorem spec_l71Spoil.bits13 : waitsOk spec_l71Spoil.T13.2 spec_l71Spoil.B13 = true := by kernel_rfl
def spec_l71Spoil.T16 : Bool × List (List Nat × List Nat) := (true, [([], []), ([0], [0]), ([], []), ([2], [2]), ([3], [3]), ([4], [4]), ([5], [5]), ([1, 6], [1, 6]), ([0, 1, 2, 3, 4, 5, 6, 7], []), ([8, 7, 7, 0, 1, 2, 3, 4, 5, 6, 7], [7, 8])])
def spec_l71Spoil.B16 : List Nat := [0, 1, 0, 4, 12, 28, 60, 127, 255, 511]
theorem spec_l71Spoil.tab16 : rtab .any (opsOf Tryd.f47 16) = spec_l71Spoil.T16 := by kernel_rfl
theorem spec_l71Spoil.bits16 : waitsOk spec_l71Spoil.T16.2 spec_l71Spoil.B16 = true := by kernel_rfl
set_option maxHeartbeats 8000000 in
set_option maxRecDepth 100000 in
theorem spec_l71Spoil.calls (k : Nat) (g : Nat) (s0_0 : List Int) (s0_1 : Int) (a1_0 : Int) (A1_1 : Option Addr) (c1_1 : Nat) (l1_1 : List (STie)) (r1 : Int) (r2 : List (STie)) (r3 : Int) (w0 w : World) (hI : IsSRd w0 w g s0_0 s0_1) (hB : Below w0.heap.size w0 w) (hr1_1 : ∀ W_, KeepBut w W_ g none → Kd.C kTie W_ A1_1 l1_1.length l1_1) (hc1_1 : l1_1.length ≤ c1_1) (h : spec_l71Spoil.f k s0_0 s0_1 a1_0 l1_1 = some (r1, r2, r3)) :
    Calls Tryd.prog 47 #[.pointer (some ⟨g, 0, none⟩), .agg #[.int .i64 a1_0, .slice A1_1 l1_1.length c1_1]] w fun e w' => ∃ v1_ : Value, e = .returned (.agg #[.int .i64 r1, v1_]) ∧ Kd.R kTie 47 w' w.heap.size (fun _ => True) v1_ r2 ∧ IsSRd w0 w' g s0_0 r3 ∧ Below w0.heap.size w0 w' ∧ KeepBut w w' g none := by
 have hu24 := Tryd.underlying24
 have hu47 := Tryd.underlying47
 have HR1_1 := Aside0.mk hr1_1
 have HC1_1 := Aside0.mk hc1_1
 clear hr1_1 hc1_1
 have HI0 := Aside0.mk hI
 have HK := q0 (KeepBut.refl w g none)
 have HL := Aside0.mk hB.size
 clear hI
 have HW0 := Aside0.mk hB.size
 have HB := Aside0.mk hB
 clear hB
 have H : ((spec_l1Copy.f a1_0 l1_1).bind fun bt100 => ((spec_l6Rd_pick.f k s0_0 s0_1 6).bind fun bt101 => (if bt101.1 = 0 then ((some (([(-1), 0, 1, 8, 9] : List Int) : List Int)).bind fun y102 => ((spec_l6Rd_pick.f k s0_0 bt101.2 5).bind fun bt103 => (if 0 ≤ bt103.1 then (if bt103.1 < (y102.length : Int) then (some (rd y102 bt103.1, bt100.2, bt103.2)) else (none)) else (none)))) else (if bt101.1 = 1 then ((spec_l6Rd_pick.f k s0_0 bt101.2 3).bind fun bt104 => ((spec_l6Rd_pick.f k s0_0 bt104.2 3).bind fun bt105 => (if bt100.2.length < 8796093022208 then (some (bt100.1, (bt100.2 ++ [(⟨bt104.1, bt105.1⟩ : STie)]), bt105.2)) else (none)))) else (if bt101.1 = 2 then (if bt100.2.length < 8796093022208 then (some (bt100.1, (bt100.2 ++ [(⟨wrap64 (bt100.1 - 1), bt100.1⟩ : STie)]), bt101.2)) else (none)) else (if bt101.1 = 3 then (if (bt100.2.length : Int) > 0 then ((spec_l6Rd_pick.f k s0_0 bt101.2 (bt100.2.length : Int)).bind fun bt106 => (if 0 ≤ bt106.1 then (if bt106.1 < (bt100.2.length : Int) then (some (bt100.1, (bt100.2.set (bt106.1 : Int).toNat (⟨(rd_TTie bt100.2 bt106.1).f1, (rd_TTie bt100.2 bt106.1).f0⟩ : STie)), bt106.2)) else (none)) else (none))) else (some (bt100.1, bt100.2, bt101.2))) else (if bt101.1 = 4 then (if (bt100.2.length : Int) > 1 then (if 0 < (bt100.2.length : Int) then (if bt100.2.length < 8796093022208 then (some (bt100.1, (bt100.2 ++ [(⟨(rd_TTie bt100.2 0).f0, (rd_TTie bt100.2 0).f1⟩ : STie)]), bt101.2)) else (none)) else (none)) else (some (bt100.1, bt100.2, bt101.2))) else ((some (([(⟨(-1), 0⟩ : STie)] : List (STie)) : List (STie))).bind fun y107 => (if y107.length + bt100.2.length < 8796093022208 then (some (bt100.1, (y107 ++ bt100.2), bt101.2)) else (none)))))))))) = some (r1, r2, r3) := h
 clear h
 replace H := Option.bind_eq_some_iff.mp H
 obtain ⟨⟨t100, t108⟩, A30, H⟩ := H
 have A3 := Aside0.mk A30
 clear A30
 replace H := Option.bind_eq_some_iff.mp H
 obtain ⟨⟨t101, t109⟩, A40, H⟩ := H
 have A4 := Aside0.mk A40
 clear A40
 by_cases c5 : t101 = 0
 · rw [if_pos c5] at H
   have c5b0 : (t101 == 0) = true := beq_iff_eq.mpr c5
   have c5b1 : (t101 != 0) = false := bne_eq_false_iff_eq.mpr c5
   clear c5
   obtain ⟨y102, hy102⟩ : ∃ y_ : List Int, y_ = (([(-1), 0, 1, 8, 9] : List Int)) := ⟨_, rfl⟩
   replace H : ((spec_l6Rd_pick.f k s0_0 t109 5).bind fun bt103 => (if 0 ≤ bt103.1 then (if bt103.1 < (y102.length : Int) then (some (rd y102 bt103.1, t108, bt103.2)) else (none)) else (none))) = some (r1, r2, r3) := qy H hy102
   have Ny102 := Aside0.mk hy102
   clear hy102
   replace H := Option.bind_eq_some_iff.mp H
   obtain ⟨⟨t103, t110⟩, A60, H⟩ := H
   have A6 := Aside0.mk A60
   clear A60
   by_cases c7 : 0 ≤ t103
   rotate_left
   · rw [if_neg c7] at H
     exact absurd H (by simp)
   rw [if_pos c7] at H
   have c7b0 : decide (0 ≤ t103) = true := decide_eq_true c7
   clear c7
   by_cases c8 : t103 < (y102.length : Int)
   rotate_left
   · rw [if_neg c8] at H
     exact absurd H (by simp)
   rw [if_pos c8] at H
   have c8b0 : decide (t103 < (y102.length : Int)) = true := decide_eq_true c8
   clear c8
   simp only [Option.some.injEq, Prod.mk.injEq] at H
   obtain ⟨rfl, rfl, rfl⟩ := H
   go_enter Tryd.func47, Tryd.ntmps47
   go_wp2_with (first | ((with_reducible refine gate_dst (N := 3) rfl ?_); refine be 3 #[.int .i64 a1_0, .slice A1_1 l1_1.length c1_1] 24 ?_; intro gb111 hg w9 hbox hb; replace HB := q0 (below_step (qj HB.out HI0.out) hb); have BK111 := q0 (hbox); have GW111 := q0 ((by rw [hg]; exact (keep_size (w := w) (g := g) (row := none) (qh HK.out)) : w.heap.size ≤ gb111)); have GE111 := q0 ((Nat.le_trans HW0.out (by rw [hg]; exact (keep_size (w := w) (g := g) (row := none) (qh HK.out)) : w.heap.size ≤ gb111) : w0.heap.size ≤ gb111)); replace HK := q0 (KeepBut.trans (qh HK.out) (KeepBut.of_below hb g none) (.inl rfl)); have NB0_111 := q0 ((by rw [hg]; exact Nat.ne_of_lt (IsSRd.lt (show IsSRd w0 _ g s0_0 s0_1 from qi HI0.out)) : g ≠ gb111)); have NB111_0 := q0 ((by rw [hg]; exact Nat.ne_of_gt (IsSRd.lt (show IsSRd w0 _ g s0_0 s0_1 from qi HI0.out)) : gb111 ≠ g)); replace HI0 := q0 (IsSRd.below (qi HI0.out) hb); clear hb hbox hg) | ((with_reducible refine gate_dst (N := 4) rfl ?_); refine be 4 #[.int .i64 0, .slice none 0 0] 24 ?_; intro gb112 hg w10 hbox hb; replace HB := q0 (below_step (qj HB.out HI0.out) hb); have BK112 := q0 (hbox); have GW112 := q0 ((by rw [hg]; exact (keep_size (w := w) (g := g) (row := none) (qh HK.out)) : w.heap.size ≤ gb112)); have GE112 := q0 ((Nat.le_trans HW0.out (by rw [hg]; exact (keep_size (w := w) (g := g) (row := none) (qh HK.out)) : w.heap.size ≤ gb112) : w0.heap.size ≤ gb112)); replace HK := q0 (KeepBut.trans (qh HK.out) (KeepBut.of_below hb g none) (.inl rfl)); have NB111_112 := q0 ((bl BK111.out hg : gb111 ≠ gb112)); have NB112_111 := q0 ((bg BK111.out hg : gb112 ≠ gb111)); replace BK111 := q0 (kb BK111.out hb); have NB0_112 := q0 ((by rw [hg]; exact Nat.ne_of_lt (IsSRd.lt (show IsSRd w0 _ g s0_0 s0_1 from qi HI0.out)) : g ≠ gb112)); have NB112_0 := q0 ((by rw [hg]; exact Nat.ne_of_gt (IsSRd.lt (show IsSRd w0 _ g s0_0 s0_1 from qi HI0.out)) : gb112 ≠ g)); replace HI0 := q0 (IsSRd.below (qi HI0.out) hb); clear hb hbox hg; have hnb11 := NB111_112.out; have hnc11 := NB112_111.out; have hnb12 := NB111_0.out; have hnc12 := NB0_111.out; have hcz13_0 : w10.cell? ⟨gb111, 0, none⟩ = some (.int .i64 a1_0) := (blk_cell BK111.out 0).trans rfl; have hcz13_1 : w10.cell? ⟨gb111, 1, none⟩ = some (.slice A1_1 l1_1.length c1_1) := (blk_cell BK111.out 1).trans rfl; have hfz13_0 := blk_frozen BK111.out 0; have hfz13_1 := blk_frozen BK111.out 1) | ((with_reducible refine gate_callee (f := 60) rfl ?_); refine gl 7 Tryd.func60 #[.agg #[.int .i64 a1_0, .slice A1_1 l1_1.length c1_1]] ?_; (with_reducible refine (spec_l1Copy.calls a1_0 _ _ l1_1 t100 t108 _ ?side1 ?side2 A3.out).mono ?_); (case side1 => exact Kd.C_foot_now HR1_1.out (qh HK.out)); (case side2 => exact HC1_1.out); rintro e w14 ⟨v113, rfl, ho0, hb⟩; refine ⟨_, rfl, ?_⟩; have HO114 := q0 (Kd.R_lower ho0 (keep_size (w := w) (g := g) (row := none) (qh HK.out))); replace BK111 := q0 (kb BK111.out hb); replace BK112 := q0 (kb BK112.out hb); replace HK := q0 (KeepBut.trans (qh HK.out) (KeepBut.of_below hb g none) (.inl rfl)); replace HB := q0 (below_step (qj HB.out HI0.out) hb); replace HI0 := q0 (IsSRd.below (qi HI0.out) hb); (try clear hb); (try clear hb2); (try clear hk); (try clear hi); (try clear ho0); have hcz15_0 : w14.cell? ⟨gb111, 0, none⟩ = some (.int .i64 a1_0) := (blk_cell BK111.out 0).trans rfl; have hcz15_1 : w14.cell? ⟨gb111, 1, none⟩ = some (.slice A1_1 l1_1.length c1_1) := (blk_cell BK111.out 1).trans rfl; have hfz15_0 := blk_frozen BK111.out 0; have hfz15_1 := blk_frozen BK111.out 1; obtain ⟨Ao16, co16, eo16⟩ := Kd.R_slice HO114.out; subst eo16) | ((with_reducible refine gate_callee (f := 38) rfl ?_); refine gl 9 Tryd.func38 #[.pointer (some ⟨g, 0, none⟩), .int .i64 6] ?_; (with_reducible refine (spec_l6Rd_pick.calls k g s0_0 s0_1 6 t101 t109 w0 _ ?side1 ?side2 A4.out).mono ?_); (case side1 => exact qi HI0.out); (case side2 => exact qj HB.out HI0.out); rintro e w17 ⟨rfl, hi, hb, hk⟩; refine ⟨_, rfl, ?_⟩; replace BK112 := q0 (kc hk BK112.out NB112_0.out); replace HO114 := q0 (Kd.R_mono (Kd.R_keep (IsSRd.apart (show IsSRd w0 _ g s0_0 s0_1 from qi HI0.out) (by (with_reducible repeat (first | apply Kd.R_alloc | apply Kd.R_drewN | apply Kd.R_drew)); exact (rf2 HO114.out BK111.out (fun _ h_ => h_.1))) (by decide)) hk (fun _ h => h.2)) (fun _ h => h.1)); replace BK111 := q0 (KeepBut.blk hk (g' := gb111) (o := .cells #[.int .i64 t100, .slice Ao16 t108.length co16] 24 (0, 0)) (by (with_reducible repeat (first | refine blk_drewN ?_ _ | refine blk_drew ?_ | refine blk_alloc ?_ _)); refine blk_put (cs := #[.int .i64 t100, .slice A1_1 l1_1.length c1_1]) ?_ 1 _ rfl; (with_reducible repeat (first | refine blk_drewN ?_ _ | refine blk_drew ?_ | refine blk_alloc ?_ _)); refine blk_put (cs := #[.int .i64 a1_0, .slice A1_1 l1_1.length c1_1]) ?_ 0 _ rfl; (with_reducible repeat (first | refine blk_drewN ?_ _ | refine blk_drew ?_ | refine blk_alloc ?_ _)); exact BK111.out) NB111_0.out (by simp)); replace HK := q0 (KeepBut.trans (qh HK.out) hk (.inl rfl)); replace HB := q0 (hb); replace HI0 := q0 (hi); (try clear hb); (try clear hb2); (try clear hk); (try clear hi)) | ((with_reducible refine gate_dst (N := 18) rfl ?_); refine Kd.R_lit (Kd.int .i64) _ 3 ?hg (N := 18) ?hd (xs := ([(-1), 0, 1, 8, 9] : List Int)) (inner := [.int .i64 (-1), .int .i64 0, .int .i64 1, .int .i64 8, .int .i64 9]) (ok := fun _ => True) (okp := fun _ => True) ?hr ?hp (fun _ hk => hk) trivial (Below.refl _ _) (Nat.le_refl _) (by simp) ?_; (case hd => rfl); (case hg => rfl); (case hr => first | (go_simp; done) | (go_simp; rfl)); (case hp => exact (Reps.one (show Kd.M (Kd.int .i64) _ _ _ (-1) [.int .i64 (-1)] from rfl) (Reps.one (show Kd.M (Kd.int .i64) _ _ _ 0 [.int .i64 0] from rfl) (Reps.one (show Kd.M (Kd.int .i64) _ _ _ 1 [.int .i64 1] from rfl) (Reps.one (show Kd.M (Kd.int .i64) _ _ _ 8 [.int .i64 8] from rfl) (Reps.one (show Kd.M (Kd.int .i64) _ _ _ 9 [.int .i64 9] from rfl) (Reps.none _ _))))))); intro v115 w18 ho19 hb hg_ hnew_; clear hg_ hnew_; (first | rw [← Ny102.out] at ho19 | (simp only [Int.reduceToNat] at ho19; rw [← Ny102.out] at ho19)); replace HO114 := q0 (Kd.R_below (qr HO114.out) hb); have HO116 := q0 (Kd.R_lower ho19 (keep_size (w := w) (g := g) (row := none) (qh HK.out))); replace BK111 := q0 (kb BK111.out hb); replace BK112 := q0 (kb BK112.out hb); replace HK := q0 (KeepBut.trans (qh HK.out) (KeepBut.of_below hb g none) (.inl rfl)); replace HB := q0 (below_step (qj HB.out HI0.out) hb); replace HI0 := q0 (IsSRd.below (qi HI0.out) hb); clear hb ho19) | ((with_reducible refine gate_callee (f := 38) rfl ?_); refine gl 20 Tryd.func38 #[.pointer (some ⟨g, 0, none⟩), .int .i64 5] ?_; (with_reducible refine (spec_l6Rd_pick.calls k g s0_0 t109 5 t103 t110 w0 _ ?side1 ?side2 A6.out).mono ?_); (case side1 => exact qi HI0.out); (case side2 => exact qj HB.out HI0.out); rintro e w20 ⟨rfl, hi, hb, hk⟩; refine ⟨_, rfl, ?_⟩; replace BK111 := q0 (kc hk BK111.out NB111_0.out); replace BK112 := q0 (kc hk BK112.out NB112_0.out); replace HO114 := q0 (Kd.R_mono (Kd.R_keep (IsSRd.apart (show IsSRd w0 _ g s0_0 t109 from qi HI0.out) (qr HO114.out) (by decide)) hk (fun _ h => h.2)) (fun _ h => h.1)); replace HO116 := q0 (Kd.R_mono (Kd.R_keep (IsSRd.apart (show IsSRd w0 _ g s0_0 t109 from qi HI0.out) (qr HO116.out) (by decide)) hk (fun _ h => h.2)) (fun _ h => h.1)); replace HK := q0 (KeepBut.trans (qh HK.out) hk (.inl rfl)); replace HB := q0 (hb); replace HI0 := q0 (hi); (try clear hb); (try clear hb2); (try clear hk); (try clear hi); obtain ⟨Ao21, co21, eo21⟩ := Kd.R_slice HO116.out; subst eo21; have p117 : 0 ≤ (t103 : Int) := of_decide_eq_true qa; have q117 : t103 < (y102.length : Int) := of_decide_eq_true qa; obtain ⟨ad117, e117, hx117_0⟩ := Kd.at_int (Kd.R_reads' HO116.out).2.2 t103 p117 q117; cases e117; replace p117 := eq_true p117; replace q117 := eq_true q117; have hcz22_0 : w20.cell? ⟨gb111, 0, none⟩ = some (.int .i64 t100) := (blk_cell BK111.out 0).trans rfl; have hcz22_1 : w20.cell? ⟨gb111, 1, none⟩ = some (.slice Ao16 t108.length co16) := (blk_cell BK111.out 1).trans rfl; have hfz22_0 := blk_frozen BK111.out 0; have hfz22_1 := blk_frozen BK111.out 1; have hnb23 := NB112_0.out; have hnc23 := NB0_112.out; have hcz24_0 : w20.cell? ⟨gb112, 0, none⟩ = some (.int .i64 0) := (blk_cell BK112.out 0).trans rfl; have hcz24_1 : w20.cell? ⟨gb112, 1, none⟩ = some (.slice none 0 0) := (blk_cell BK112.out 1).trans rfl; have hfz24_0 := blk_frozen BK112.out 0; have hfz24_1 := blk_frozen BK112.out 1))
   refine bodyPost_ret (results_cell_row rfl _ _ gb112 24 #[.int .i64 (rd y102 t103), .slice Ao16 t108.length co16] (0, 0) _ rfl (by (with_reducible repeat (first | refine blk_drewN ?_ _ | refine blk_drew ?_ | refine blk_alloc ?_ _)); refine blk_put (cs := #[.int .i64 (rd y102 t103), .slice none 0 0]) ?_ 1 _ rfl; (with_reducible repeat (first | refine blk_drewN ?_ _ | refine blk_drew ?_ | refine blk_alloc ?_ _)); refine blk_put (cs := #[.int .i64 0, .slice none 0 0]) ?_ 0 _ rfl; (with_reducible repeat (first | refine blk_drewN ?_ _ | refine blk_drew ?_ | refine blk_alloc ?_ _)); refine blk_far ?_ NB112_111.out _; (with_reducible repeat (first | refine blk_drewN ?_ _ | refine blk_drew ?_ | refine blk_alloc ?_ _)); exact BK112.out) Tryd.underlying24 rfl (by kernel_rfl)) rfl ?_
   exact ⟨_, qe, by (with_reducible repeat (first | apply Kd.R_alloc | apply Kd.R_drewN | apply Kd.R_drew)); exact Kd.R_mono (Kd.R_far (p := ⟨gb112, 1, none⟩) (Kd.R_far (p := ⟨gb112, 0, none⟩) (Kd.R_far (p := ⟨gb111, 0, none⟩) (Kd.R_types (Kd.R_types HO114.out BK111.out (by decide)) BK112.out (by decide)) (fun _ hk => hk.1.2) (.int .i64 (rd y102 t103))) (fun _ hk => hk.2) (.int .i64 (rd y102 t103))) (fun _ hk => hk.2) (.slice Ao16 t108.length co16)) (fun _ hk => trivial), qi HI0.out, qj HB.out HI0.out, by repeat (first | (with_reducible first | exact HK.out | apply KeepBut.set_ | apply keep_drewN | apply keep_drew | apply keep_alloc | refine keep_far ?_ GW111.out _ | refine keep_far ?_ GW112.out _) | exact HK.out)⟩
 rw [if_neg c5] at H
 have c5b0 : (t101 == 0) = false := beq_eq_false_iff_ne.mpr c5
 have c5b1 : (t101 != 0) = true := bne_iff_ne.mpr c5
 by_cases c25 : t101 = 1
 · rw [if_pos c25] at H
   have c25b0 : (t101 == 1) = true := beq_iff_eq.mpr c25
   have c25b1 : (t101 != 1) = false := bne_eq_false_iff_eq.mpr c25
   clear c25
   replace H := Option.bind_eq_some_iff.mp H
   obtain ⟨⟨t104, t118⟩, A119, H⟩ := H
   have A26 := Aside0.mk A119
   clear A119
   replace H := Option.bind_eq_some_iff.mp H
   obtain ⟨⟨t105, t120⟩, A121, H⟩ := H
   have A27 := Aside0.mk A121
   clear A121
   by_cases c28 : t108.length < 8796093022208
   rotate_left
   · rw [if_neg c28] at H
     exact absurd H (by simp)
   rw [if_pos c28] at H
   have LMc28 := Aside0.mk c28
   clear c28
   obtain ⟨y122, hy122⟩ : ∃ y_ : List (STie), y_ = (t108 ++ [(⟨t104, t105⟩ : STie)]) := ⟨_, rfl⟩
   replace H : (some (t100, y122, t120)) = some (r1, r2, r3) := qy H hy122
   have Ny122 := Aside0.mk hy122
   clear hy122
   simp only [Option.some.injEq, Prod.mk.injEq] at H
   obtain ⟨rfl, rfl, rfl⟩ := H
   go_enter Tryd.func47, Tryd.ntmps47
   try go_wp2_with (first | ((with_reducible refine gate_dst (N := 3) rfl ?_); refine be 3 #[.int .i64 a1_0, .slice A1_1 l1_1.length c1_1] 24 ?_; intro gb111 hg w29 hbox hb; replace HB := q0 (below_step (qj HB.out HI0.out) hb); have BK111 := q0 (hbox); have GW111 := q0 ((by rw [hg]; exact (keep_size (w := w) (g := g) (row := none) (qh HK.out)) : w.heap.size ≤ gb111)); have GE111 := q0 ((Nat.le_trans HW0.out (by rw [hg]; exact (keep_size (w := w) (g := g) (row := none) (qh HK.out)) : w.heap.size ≤ gb111) : w0.heap.size ≤ gb111)); replace HK := q0 (KeepBut.trans (qh HK.out) (KeepBut.of_below hb g none) (.inl rfl)); have NB0_111 := q0 ((by rw [hg]; exact Nat.ne_of_lt (IsSRd.lt (show IsSRd w0 _ g s0_0 s0_1 from qi HI0.out)) : g ≠ gb111)); have NB111_0 := q0 ((by rw [hg]; exact Nat.ne_of_gt (IsSRd.lt (show IsSRd w0 _ g s0_0 s0_1 from qi HI0.out)) : gb111 ≠ g)); replace HI0 := q0 (IsSRd.below (qi HI0.out) hb); clear hb hbox hg) | ((with_reducible refine gate_dst (N := 4) rfl ?_); refine be 4 #[.int .i64 0, .slice none 0 0] 24 ?_; intro gb112 hg w30 hbox hb; replace HB := q0 (below_step (qj HB.out HI0.out) hb); have BK112 := q0 (hbox); have GW112 := q0 ((by rw [hg]; exact (keep_size (w := w) (g := g) (row := none) (qh HK.out)) : w.heap.size ≤ gb112)); have GE112 := q0 ((Nat.le_trans HW0.out (by rw [hg]; exact (keep_size (w := w) (g := g) (row := none) (qh HK.out)) : w.heap.size ≤ gb112) : w0.heap.size ≤ gb112)); replace HK := q0 (KeepBut.trans (qh HK.out) (KeepBut.of_below hb g none) (.inl rfl)); have NB111_112 := q0 ((bl BK111.out hg : gb111 ≠ gb112)); have NB112_111 := q0 ((bg BK111.out hg : gb112 ≠ gb111)); replace BK111 := q0 (kb BK111.out hb); have NB0_112 := q0 ((by rw [hg]; exact Nat.ne_of_lt (IsSRd.lt (show IsSRd w0 _ g s0_0 s0_1 from qi HI0.out)) : g ≠ gb112)); have NB112_0 := q0 ((by rw [hg]; exact Nat.ne_of_gt (IsSRd.lt (show IsSRd w0 _ g s0_0 s0_1 from qi HI0.out)) : gb112 ≠ g)); replace HI0 := q0 (IsSRd.below (qi HI0.out) hb); clear hb hbox hg; have hnb31 := NB111_112.out; have hnc31 := NB112_111.out; have hnb32 := NB111_0.out; have hnc32 := NB0_111.out; have hcz33_0 : w30.cell? ⟨gb111, 0, none⟩ = some (.int .i64 a1_0) := (blk_cell BK111.out 0).trans rfl; have hcz33_1 : w30.cell? ⟨gb111, 1, none⟩ = some (.slice A1_1 l1_1.length c1_1) := (blk_cell BK111.out 1).trans rfl; have hfz33_0 := blk_frozen BK111.out 0; have hfz33_1 := blk_frozen BK111.out 1) | ((with_reducible refine gate_callee (f := 60) rfl ?_); refine gl 7 Tryd.func60 #[.agg #[.int .i64 a1_0, .slice A1_1 l1_1.length c1_1]] ?_; (with_reducible refine (spec_l1Copy.calls a1_0 _ _ l1_1 t100 t108 _ ?side1 ?side2 A3.out).mono ?_); (case side1 => exact Kd.C_foot_now HR1_1.out (qh HK.out)); (case side2 => exact HC1_1.out); rintro e w34 ⟨v113, rfl, ho0, hb⟩; refine ⟨_, rfl, ?_⟩; have HO114 := q0 (Kd.R_lower ho0 (keep_size (w := w) (g := g) (row := none) (qh HK.out))); replace BK111 := q0 (kb BK111.out hb); replace BK112 := q0 (kb BK112.out hb); replace HK := q0 (KeepBut.trans (qh HK.out) (KeepBut.of_below hb g none) (.inl rfl)); replace HB := q0 (below_step (qj HB.out HI0.out) hb); replace HI0 := q0 (IsSRd.below (qi HI0.out) hb); (try clear hb); (try clear hb2); (try clear hk); (try clear hi); (try clear ho0); have hcz35_0 : w34.cell? ⟨gb111, 0, none⟩ = some (.int .i64 a1_0) := (blk_cell BK111.out 0).trans rfl; have hcz35_1 : w34.cell? ⟨gb111, 1, none⟩ = some (.slice A1_1 l1_1.length c1_1) := (blk_cell BK111.out 1).trans rfl; have hfz35_0 := blk_frozen BK111.out 0; have hfz35_1 := blk_frozen BK111.out 1; obtain ⟨Ao36, co36, eo36⟩ := Kd.R_slice HO114.out; subst eo36) | ((with_reducible refine gate_callee (f := 38) rfl ?_); refine gl 9 Tryd.func38 #[.pointer (some ⟨g, 0, none⟩), .int .i64 6] ?_; (with_reducible refine (spec_l6Rd_pick.calls k g s0_0 s0_1 6 t101 t109 w0 _ ?side1 ?side2 A4.out).mono ?_); (case side1 => exact qi HI0.out); (case side2 => exact qj HB.out HI0.out); rintro e w37 ⟨rfl, hi, hb, hk⟩; refine ⟨_, rfl, ?_⟩; replace BK112 := q0 (kc hk BK112.out NB112_0.out); replace HO114 := q0 (Kd.R_mono (Kd.R_keep (IsSRd.apart (show IsSRd w0 _ g s0_0 s0_1 from qi HI0.out) (by (with_reducible repeat (first | apply Kd.R_alloc | apply Kd.R_drewN | apply Kd.R_drew)); exact (rf2 HO114.out BK111.out (fun _ h_ => h_.1))) (by decide)) hk (fun _ h => h.2)) (fun _ h => h.1)); replace BK111 := q0 (KeepBut.blk hk (g' := gb111) (o := .cells #[.int .i64 t100, .slice Ao36 t108.length co36] 24 (0, 0)) (by (with_reducible repeat (first | refine blk_drewN ?_ _ | refine blk_drew ?_ | refine blk_alloc ?_ _)); refine blk_put (cs := #[.int .i64 t100, .slice A1_1 l1_1.length c1_1]) ?_ 1 _ rfl; (with_reducible repeat (first | refine blk_drewN ?_ _ | refine blk_drew ?_ | refine blk_alloc ?_ _)); refine blk_put (cs := #[.int .i64 a1_0, .slice A1_1 l1_1.length c1_1]) ?_ 0 _ rfl; (with_reducible repeat (first | refine blk_drewN ?_ _ | refine blk_drew ?_ | refine blk_alloc ?_ _)); exact BK111.out) NB111_0.out (by simp)); replace HK := q0 (KeepBut.trans (qh HK.out) hk (.inl rfl)); replace HB := q0 (hb); replace HI0 := q0 (hi); (try clear hb); (try clear hb2); (try clear hk); (try clear hi)))
   replace HO114 := q0 (Kd.R_drew HO114.out)
   replace BK111 := q0 (blk_drew BK111.out)
   replace BK112 := q0 (blk_drew BK112.out)
   replace HI0 := q0 (IsSRd.drew HI0.out)
   replace HK := q0 (keep_drew HK.out)
   replace HB := q0 (below_drew1 HB.out)
   refine start_ (n := 11) (S := fun w' => w'.cell? ⟨gb111, 0, none⟩ = some (.int .i64 t100) ∧ w'.cell? ⟨gb111, 1, none⟩ = some (.slice Ao36 t108.length co36)) (ds := [10]) (ba 11 0) (by kernel_rfl) rfl (by kernel_rfl) ⟨(blk_cell BK111.out 0).trans rfl, (blk_cell BK111.out 1).trans rfl⟩ (fun hHeld => ?_); refine with_tabW spec_l71Spoil.tab7 spec_l71Spoil.bits7 (fun HT_ HW_ => ?_)
   generalize w37.drew = w38 at HO114 BK111 BK112 HI0 HK HB hHeld ⊢
   refine pu 0 (some 26) (ba 11 1) HT_.out ?_
   refine pu 2 (some 28) (ba 11 5) HT_.out ?_
   refine pu 4 (some 30) (ba 11 21) HT_.out ?_
   refine tu 1 (some 27) (ba 11 23) HT_.out HW_.out hHeld ?_
   refine one_ (i := 3) (N := some 29) (ba 11 31) rfl rfl (one_of HT_.out (by kernel_rfl)) (by decide) (fun K hK => ?_)
   refine goes_ Tryd.func38 (by kernel_rfl) rfl #[.pointer (some ⟨g, 0, none⟩), .int .i64 3] (by rfl) rfl rfl qm ?_
   with_reducible refine (spec_l6Rd_pick.calls k g s0_0 t109 3 t104 t118 w0 _ ?side1 ?side2 A26.out).mono ?_
   (case side1 => exact qi HI0.out)
   (case side2 => exact qj HB.out HI0.out)
   rintro e w39 ⟨rfl, hi, hb, hk⟩
   refine ⟨_, rfl, ?_⟩
   replace BK111 := q0 (kc hk BK111.out NB111_0.out)
   replace BK112 := q0 (kc hk BK112.out NB112_0.out)
   replace HO114 := q0 (Kd.R_mono (Kd.R_keep (IsSRd.apart (show IsSRd w0 _ g s0_0 t109 from qi HI0.out) (qr HO114.out) (by decide)) hk (fun _ h => h.2)) (fun _ h => h.1))
   replace HK := q0 (KeepBut.trans (qh HK.out) hk (.inl rfl))
   replace HB := q0 (hb)
   replace HI0 := q0 (hi)
   (try clear hb)
   (try clear hb2)
   (try clear hk)
   (try clear hi)
   refine hK.out _ _ ⟨(blk_cell BK111.out 0).trans rfl, (blk_cell BK111.out 1).trans rfl⟩ (fun hHeld => ?_)
   clear hK K
   refine nu 29 ?_
   refine one_ (i := 5) (N := some 31) (ba 11 63) rfl rfl (one_of HT_.out (by kernel_rfl)) (by decide) (fun K hK => ?_)
   refine goes_ Tryd.func38 (by kernel_rfl) rfl #[.pointer (some ⟨g, 0, none⟩), .int .i64 3] (by rfl) rfl rfl qm ?_
   with_reducible refine (spec_l6Rd_pick.calls k g s0_0 t118 3 t105 t120 w0 _ ?side1 ?side2 A27.out).mono ?_
   (case side1 => exact qi HI0.out)
   (case side2 => exact qj HB.out HI0.out)
   rintro e w40 ⟨rfl, hi, hb, hk⟩
   refine ⟨_, rfl, ?_⟩
   replace BK111 := q0 (kc hk BK111.out NB111_0.out)
   replace BK112 := q0 (kc hk BK112.out NB112_0.out)
   replace HO114 := q0 (Kd.R_mono (Kd.R_keep (IsSRd.apart (show IsSRd w0 _ g s0_0 t118 from qi HI0.out) (qr HO114.out) (by decide)) hk (fun _ h => h.2)) (fun _ h => h.1))
   replace HK := q0 (KeepBut.trans (qh HK.out) hk (.inl rfl))
   replace HB := q0 (hb)
   replace HI0 := q0 (hi)
   (try clear hb)
   (try clear hb2)
   (try clear hk)
   (try clear hi)
   refine hK.out _ _ ⟨(blk_cell BK111.out 0).trans rfl, (blk_cell BK111.out 1).trans rfl⟩ (fun hHeld => ?_)
   clear hK K
   refine nu 31 ?_
   refine pu 6 (some 32) (ba 11 127) HT_.out ?_
   refine one_ (i := 7) (N := some 33) (ba 11 255) rfl rfl (one_of HT_.out (by kernel_rfl)) (by decide) (fun K hK => ?_)
   refine value_ (w1 := ?_) (v := ?_) (by rfl) rfl ?_ ?_
   rotate_left 2
   · go_simp
     constructor
     · rfl
     · rfl
   refine hK.out _ _ ⟨(blk_cell (blk_alloc BK111.out _) 0).trans rfl, (blk_cell (blk_alloc BK111.out _) 1).trans rfl⟩ (fun hHeld => ?_)
   clear hK K
   refine nu 33 ?_
   refine one_ (i := 8) (N := some 34) (ba 11 511) rfl rfl (one_of HT_.out (by kernel_rfl)) (by decide) (fun K hK => ?_)
   refine Kd.R_append_step kTie w.heap.size (by rfl) (.tmp 27) (.tmp 33) 22 47 (.agg #[(.int .i64 0), (.int .i64 0)]) 16 rfl Tryd.underlying22 info47 rfl (by decide) (by omega) (.slice Ao36 t108.length co36) t108 (⟨t104, t105⟩ : STie) [.int .i64 t104, .int .i64 t105] (fun _ => True) (fun _ => False) rfl rfl ?aP (fun _ hk => hk.elim) ?aF ?aO (Below.refl _ _) ?aS ?aL ?_
   (case aP => exact kTie_mkM _ _ _ (⟨t104, t105⟩ : STie))
   (case aF => exact (fun _ _ => trivial))
   (case aO => exact (qr HO114.out))
   (case aS => exact (keep_size (w := w) (g := g) (row := none) (qh HK.out)))
   (case aL => have := LMc28.out; omega)
   intro v123 w41 ho hb hg hat
   rw [← Ny122.out] at ho
   replace BK111 := q0 (blk_grown (g := gb111) (o := .cells #[.int .i64 t100, .slice Ao36 t108.length co36] 24 (0, 0)) (qk BK111.out) hg (Kd.R_ne HO114.out BK111.out (by decide)))
   replace BK112 := q0 (blk_grown (g := gb112) (o := .cells #[.int .i64 0, .slice none 0 0] 24 (0, 0)) (qk BK112.out) hg (Kd.R_ne HO114.out BK112.out (by decide)))
   replace HB := q0 (below_weaken (qj HB.out HI0.out) HL.out hb)
   replace HI0 := q0 (IsSRd.grown (qi HI0.out) hg (IsSRd.own_ne HI0.out HO114.out (by decide)))
   replace HK := q0 (KeepBut.trans (qh HK.out) (KeepBut.of_grown hg g) (Kd.R_base2 HO114.out))
   have HO124 := q0 (ho)
   clear HO114
   clear ho hb hg hat
   obtain ⟨Ao42, co42, eo42⟩ := Kd.R_slice HO124.out
   (first | subst eo42 | (injection eo42 with f1_ f2_ f3_; have f4_ := f1_.symm; have f5_ := f3_.symm; clear f1_ f2_ f3_; subst f4_; subst f5_))
   refine hK.out _ _ ⟨(blk_cell BK111.out 0).trans rfl, (blk_cell BK111.out 1).trans rfl⟩ (fun hHeld => ?_)
   clear hK K
   refine nu 34 ?_
   refine pu 9 (some 35) (ba 11 1023) HT_.out ?_
   refine last_ (i := 10) (N := none) (ba 11 2047) rfl rfl (one_of HT_.out (by kernel_rfl)) (by decide) (fun K hK => ?_)
   have hs43 : w41.cell? ⟨gb111, 1, none⟩ = some (.slice Ao36 t108.length co36) := (blk_cell BK111.out 1).trans rfl
   have hfs43 := blk_frozen BK111.out 1
   have hns43_1 := NB112_111.out
   have hms43_1 := NB111_112.out
   refine skip_ (w1 := ?_) (by rfl) rfl ?_ ?_
   rotate_left
   · go_simp
     rfl
   refine hK.out _ _ ?_
   clear hK K
   refine done_ (done_of HT_.out (by kernel_rfl)) ?_
   have hcz44_0 : w41.cell? ⟨gb111, 0, none⟩ = some (.int .i64 t100) := (blk_cell BK111.out 0).trans rfl
   have hcz44_1 : w41.cell? ⟨gb111, 1, none⟩ = some (.slice Ao36 t108.length co36) := (blk_cell BK111.out 1).trans rfl
   have hfz44_0 := blk_frozen BK111.out 0
   have hfz44_1 := blk_frozen BK111.out 1
   have hnb45 := NB112_0.out
   have hnc45 := NB0_112.out
   have hcz46_0 : w41.cell? ⟨gb112, 0, none⟩ = some (.int .i64 0) := (blk_cell BK112.out 0).trans rfl
   have hcz46_1 : w41.cell? ⟨gb112, 1, none⟩ = some (.slice none 0 0) := (blk_cell BK112.out 1).trans rfl
   have hfz46_0 := blk_frozen BK112.out 0
   have hfz46_1 := blk_frozen BK112.out 1
   try go_wp2
   refine bodyPost_ret (results_cell_row rfl _ _ gb112 24 #[.int .i64 t100, .slice Ao42 y122.length co42] (0, 0) _ rfl (by (with_reducible repeat (first | refine blk_drewN ?_ _ | refine blk_drew ?_ | refine blk_alloc ?_ _)); refine blk_put (cs := #[.int .i64 t100, .slice none 0 0]) ?_ 1 _ rfl; (with_reducible repeat (first | refine blk_drewN ?_ _ | refine blk_drew ?_ | refine blk_alloc ?_ _)); refine blk_put (cs := #[.int .i64 0, .slice none 0 0]) ?_ 0 _ rfl; (with_reducible repeat (first | refine blk_drewN ?_ _ | refine blk_drew ?_ | refine blk_alloc ?_ _)); refine blk_far ?_ NB112_111.out _; (with_reducible repeat (first | refine blk_drewN ?_ _ | refine blk_drew ?_ | refine blk_alloc ?_ _)); exact BK112.out) Tryd.underlying24 rfl (by kernel_rfl)) rfl ?_
   exact ⟨_, qe, by (with_reducible repeat (first | apply Kd.R_alloc | apply Kd.R_drewN | apply Kd.R_drew)); exact Kd.R_mono (Kd.R_far (p := ⟨gb112, 1, none⟩) (Kd.R_far (p := ⟨gb112, 0, none⟩) (Kd.R_far (p := ⟨gb111, 1, none⟩) (Kd.R_types (Kd.R_types HO124.out BK111.out (by decide)) BK112.out (by decide)) (fun _ hk => hk.1.2) (.slice Ao42 y122.length co42)) (fun _ hk => hk.2) (.int .i64 t100)) (fun _ hk => hk.2) (.slice Ao42 y122.length co42)) (fun _ hk => trivial), qi HI0.out, qj HB.out HI0.out, by repeat (first | (with_reducible first | exact HK.out | apply KeepBut.set_ | apply keep_drewN | apply keep_drew | apply keep_alloc | refine keep_far ?_ GW111.out _ | refine keep_far ?_ GW112.out _) | exact HK.out)⟩
 rw [if_neg c25] at H
 have c25b0 : (t101 == 1) = false := beq_eq_false_iff_ne.mpr c25
 have c25b1 : (t101 != 1) = true := bne_iff_ne.mpr c25
 by_cases c47 : t101 = 2
 · rw [if_pos c47] at H
   have c47b0 : (t101 == 2) = true := beq_iff_eq.mpr c47
   have c47b1 : (t101 != 2) = false := bne_eq_false_iff_eq.mpr c47
   clear c47
   by_cases c48 : t108.length < 8796093022208
   rotate_left
   · rw [if_neg c48] at H
     exact absurd H (by simp)
   rw [if_pos c48] at H
   have LMc48 := Aside0.mk c48
   clear c48
   obtain ⟨y125, hy125⟩ : ∃ y_ : List (STie), y_ = (t108 ++ [(⟨wrap64 (t100 - 1), t100⟩ : STie)]) := ⟨_, rfl⟩
   replace H : (some (t100, y125, t109)) = some (r1, r2, r3) := qy H hy125
   have Ny125 := Aside0.mk hy125
   clear hy125
   simp only [Option.some.injEq, Prod.mk.injEq] at H
   obtain ⟨rfl, rfl, rfl⟩ := H
   go_enter Tryd.func47, Tryd.ntmps47
   go_wp2_with (first | ((with_reducible refine gate_dst (N := 3) rfl ?_); refine be 3 #[.int .i64 a1_0, .slice A1_1 l1_1.length c1_1] 24 ?_; intro gb111 hg w49 hbox hb; replace HB := q0 (below_step (qj HB.out HI0.out) hb); have BK111 := q0 (hbox); have GW111 := q0 ((by rw [hg]; exact (keep_size (w := w) (g := g) (row := none) (qh HK.out)) : w.heap.size ≤ gb111)); have GE111 := q0 ((Nat.le_trans HW0.out (by rw [hg]; exact (keep_size (w := w) (g := g) (row := none) (qh HK.out)) : w.heap.size ≤ gb111) : w0.heap.size ≤ gb111)); replace HK := q0 (KeepBut.trans (qh HK.out) (KeepBut.of_below hb g none) (.inl rfl)); have NB0_111 := q0 ((by rw [hg]; exact Nat.ne_of_lt (IsSRd.lt (show IsSRd w0 _ g s0_0 s0_1 from qi HI0.out)) : g ≠ gb111)); have NB111_0 := q0 ((by rw [hg]; exact Nat.ne_of_gt (IsSRd.lt (show IsSRd w0 _ g s0_0 s0_1 from qi HI0.out)) : gb111 ≠ g)); replace HI0 := q0 (IsSRd.below (qi HI0.out) hb); clear hb hbox hg) | ((with_reducible refine gate_dst (N := 4) rfl ?_); refine be 4 #[.int .i64 0, .slice none 0 0] 24 ?_; intro gb112 hg w50 hbox hb; replace HB := q0 (below_step (qj HB.out HI0.out) hb); have BK112 := q0 (hbox); have GW112 := q0 ((by rw [hg]; exact (keep_size (w := w) (g := g) (row := none) (qh HK.out)) : w.heap.size ≤ gb112)); have GE112 := q0 ((Nat.le_trans HW0.out (by rw [hg]; exact (keep_size (w := w) (g := g) (row := none) (qh HK.out)) : w.heap.size ≤ gb112) : w0.heap.size ≤ gb112)); replace HK := q0 (KeepBut.trans (qh HK.out) (KeepBut.of_below hb g none) (.inl rfl)); have NB111_112 := q0 ((bl BK111.out hg : gb111 ≠ gb112)); have NB112_111 := q0 ((bg BK111.out hg : gb112 ≠ gb111)); replace BK111 := q0 (kb BK111.out hb); have NB0_112 := q0 ((by rw [hg]; exact Nat.ne_of_lt (IsSRd.lt (show IsSRd w0 _ g s0_0 s0_1 from qi HI0.out)) : g ≠ gb112)); have NB112_0 := q0 ((by rw [hg]; exact Nat.ne_of_gt (IsSRd.lt (show IsSRd w0 _ g s0_0 s0_1 from qi HI0.out)) : gb112 ≠ g)); replace HI0 := q0 (IsSRd.below (qi HI0.out) hb); clear hb hbox hg; have hnb51 := NB111_112.out; have hnc51 := NB112_111.out; have hnb52 := NB111_0.out; have hnc52 := NB0_111.out; have hcz53_0 : w50.cell? ⟨gb111, 0, none⟩ = some (.int .i64 a1_0) := (blk_cell BK111.out 0).trans rfl; have hcz53_1 : w50.cell? ⟨gb111, 1, none⟩ = some (.slice A1_1 l1_1.length c1_1) := (blk_cell BK111.out 1).trans rfl; have hfz53_0 := blk_frozen BK111.out 0; have hfz53_1 := blk_frozen BK111.out 1) | ((with_reducible refine gate_callee (f := 60) rfl ?_); refine gl 7 Tryd.func60 #[.agg #[.int .i64 a1_0, .slice A1_1 l1_1.length c1_1]] ?_; (with_reducible refine (spec_l1Copy.calls a1_0 _ _ l1_1 t100 t108 _ ?side1 ?side2 A3.out).mono ?_); (case side1 => exact Kd.C_foot_now HR1_1.out (qh HK.out)); (case side2 => exact HC1_1.out); rintro e w54 ⟨v113, rfl, ho0, hb⟩; refine ⟨_, rfl, ?_⟩; have HO114 := q0 (Kd.R_lower ho0 (keep_size (w := w) (g := g) (row := none) (qh HK.out))); replace BK111 := q0 (kb BK111.out hb); replace BK112 := q0 (kb BK112.out hb); replace HK := q0 (KeepBut.trans (qh HK.out) (KeepBut.of_below hb g none) (.inl rfl)); replace HB := q0 (below_step (qj HB.out HI0.out) hb); replace HI0 := q0 (IsSRd.below (qi HI0.out) hb); (try clear hb); (try clear hb2); (try clear hk); (try clear hi); (try clear ho0); have hcz55_0 : w54.cell? ⟨gb111, 0, none⟩ = some (.int .i64 a1_0) := (blk_cell BK111.out 0).trans rfl; have hcz55_1 : w54.cell? ⟨gb111, 1, none⟩ = some (.slice A1_1 l1_1.length c1_1) := (blk_cell BK111.out 1).trans rfl; have hfz55_0 := blk_frozen BK111.out 0; have hfz55_1 := blk_frozen BK111.out 1; obtain ⟨Ao56, co56, eo56⟩ := Kd.R_slice HO114.out; subst eo56) | ((with_reducible refine gate_callee (f := 38) rfl ?_); refine gl 9 Tryd.func38 #[.pointer (some ⟨g, 0, none⟩), .int .i64 6] ?_; (with_reducible refine (spec_l6Rd_pick.calls k g s0_0 s0_1 6 t101 t109 w0 _ ?side1 ?side2 A4.out).mono ?_); (case side1 => exact qi HI0.out); (case side2 => exact qj HB.out HI0.out); rintro e w57 ⟨rfl, hi, hb, hk⟩; refine ⟨_, rfl, ?_⟩; replace BK112 := q0 (kc hk BK112.out NB112_0.out); replace HO114 := q0 (Kd.R_mono (Kd.R_keep (IsSRd.apart (show IsSRd w0 _ g s0_0 s0_1 from qi HI0.out) (by (with_reducible repeat (first | apply Kd.R_alloc | apply Kd.R_drewN | apply Kd.R_drew)); exact (rf2 HO114.out BK111.out (fun _ h_ => h_.1))) (by decide)) hk (fun _ h => h.2)) (fun _ h => h.1)); replace BK111 := q0 (KeepBut.blk hk (g' := gb111) (o := .cells #[.int .i64 t100, .slice Ao56 t108.length co56] 24 (0, 0)) (by (with_reducible repeat (first | refine blk_drewN ?_ _ | refine blk_drew ?_ | refine blk_alloc ?_ _)); refine blk_put (cs := #[.int .i64 t100, .slice A1_1 l1_1.length c1_1]) ?_ 1 _ rfl; (with_reducible repeat (first | refine blk_drewN ?_ _ | refine blk_drew ?_ | refine blk_alloc ?_ _)); refine blk_put (cs := #[.int .i64 a1_0, .slice A1_1 l1_1.length c1_1]) ?_ 0 _ rfl; (with_reducible repeat (first | refine blk_drewN ?_ _ | refine blk_drew ?_ | refine blk_alloc ?_ _)); exact BK111.out) NB111_0.out (by simp)); replace HK := q0 (KeepBut.trans (qh HK.out) hk (.inl rfl)); replace HB := q0 (hb); replace HI0 := q0 (hi); (try clear hb); (try clear hb2); (try clear hk); (try clear hi); have hcz58_0 : w57.cell? ⟨gb111, 0, none⟩ = some (.int .i64 t100) := (blk_cell BK111.out 0).trans rfl; have hcz58_1 : w57.cell? ⟨gb111, 1, none⟩ = some (.slice Ao56 t108.length co56) := (blk_cell BK111.out 1).trans rfl; have hfz58_0 := blk_frozen BK111.out 0; have hfz58_1 := blk_frozen BK111.out 1) | ((with_reducible refine gate_builtin (b := .append) (xs := #[.tmp 39, .tmp 46]) rfl ?_); at_builtin; refine Kd.R_append kTie w.heap.size rfl (.tmp 39) (.tmp 46) 22 47 (.agg #[(.int .i64 0), (.int .i64 0)]) 16 rfl Tryd.underlying22 info47 rfl (by decide) (by omega) (.slice Ao56 t108.length co56) t108 (⟨wrap64 (t100 - 1), t100⟩ : STie) [.int .i64 (wrap64 (t100 - 1)), .int .i64 t100] (fun _ => True) (fun _ => False) rfl rfl ?aP (fun _ hk => hk.elim) ?aF ?aO (Below.refl _ _) ?aS ?aL ?_; (case aP => exact kTie_mkM _ _ _ (⟨wrap64 (t100 - 1), t100⟩ : STie)); (case aF => exact (fun _ _ => trivial)); (case aO => exact (qr HO114.out)); (case aS => exact (keep_size (w := w) (g := g) (row := none) (qh HK.out))); (case aL => have := LMc48.out; omega); intro v126 w59 ho hb hg hat; rw [← Ny125.out] at ho; replace BK111 := q0 (blk_grown (g := gb111) (o := .cells #[.int .i64 t100, .slice Ao56 t108.length co56] 24 (0, 0)) (qk BK111.out) hg (Kd.R_ne HO114.out BK111.out (by decide))); replace BK112 := q0 (blk_grown (g := gb112) (o := .cells #[.int .i64 0, .slice none 0 0] 24 (0, 0)) (qk BK112.out) hg (Kd.R_ne HO114.out BK112.out (by decide))); replace HB := q0 (below_weaken (qj HB.out HI0.out) HL.out hb); replace HI0 := q0 (IsSRd.grown (qi HI0.out) hg (IsSRd.own_ne HI0.out HO114.out (by decide))); replace HK := q0 (KeepBut.trans (qh HK.out) (KeepBut.of_grown hg g) (Kd.R_base2 HO114.out)); have HO127 := q0 (ho); clear HO114; clear ho hb hg hat; obtain ⟨Ao60, co60, eo60⟩ := Kd.R_slice HO127.out; subst eo60; have hcz61_0 : w59.cell? ⟨gb111, 0, none⟩ = some (.int .i64 t100) := (blk_cell BK111.out 0).trans rfl; have hcz61_1 : w59.cell? ⟨gb111, 1, none⟩ = some (.slice Ao56 t108.length co56) := (blk_cell BK111.out 1).trans rfl; have hfz61_0 := blk_frozen BK111.out 0; have hfz61_1 := blk_frozen BK111.out 1; have hnb62 := NB112_0.out; have hnc62 := NB0_112.out; have hcz63_0 : w59.cell? ⟨gb112, 0, none⟩ = some (.int .i64 0) := (blk_cell BK112.out 0).trans rfl; have hcz63_1 : w59.cell? ⟨gb112, 1, none⟩ = some (.slice none 0 0) := (blk_cell BK112.out 1).trans rfl; have hfz63_0 := blk_frozen BK112.out 0; have hfz63_1 := blk_frozen BK112.out 1))
   refine bodyPost_ret (results_cell_row rfl _ _ gb112 24 #[.int .i64 t100, .slice Ao60 y125.length co60] (0, 0) _ rfl (by (with_reducible repeat (first | refine blk_drewN ?_ _ | refine blk_drew ?_ | refine blk_alloc ?_ _)); refine blk_put (cs := #[.int .i64 t100, .slice none 0 0]) ?_ 1 _ rfl; (with_reducible repeat (first | refine blk_drewN ?_ _ | refine blk_drew ?_ | refine blk_alloc ?_ _)); refine blk_put (cs := #[.int .i64 0, .slice none 0 0]) ?_ 0 _ rfl; (with_reducible repeat (first | refine blk_drewN ?_ _ | refine blk_drew ?_ | refine blk_alloc ?_ _)); refine blk_far ?_ NB112_111.out _; (with_reducible repeat (first | refine blk_drewN ?_ _ | refine blk_drew ?_ | refine blk_alloc ?_ _)); exact BK112.out) Tryd.underlying24 rfl (by kernel_rfl)) rfl ?_
   exact ⟨_, qe, by (with_reducible repeat (first | apply Kd.R_alloc | apply Kd.R_drewN | apply Kd.R_drew)); exact Kd.R_mono (Kd.R_far (p := ⟨gb112, 1, none⟩) (Kd.R_far (p := ⟨gb112, 0, none⟩) (Kd.R_far (p := ⟨gb111, 1, none⟩) (Kd.R_types (Kd.R_types HO127.out BK111.out (by decide)) BK112.out (by decide)) (fun _ hk => hk.1.2) (.slice Ao60 y125.length co60)) (fun _ hk => hk.2) (.int .i64 t100)) (fun _ hk => hk.2) (.slice Ao60 y125.length co60)) (fun _ hk => trivial), qi HI0.out, qj HB.out HI0.out, by repeat (first | (with_reducible first | exact HK.out | apply KeepBut.set_ | apply keep_drewN | apply keep_drew | apply keep_alloc | refine keep_far ?_ GW111.out _ | refine keep_far ?_ GW112.out _) | exact HK.out)⟩
 rw [if_neg c47] at H
 have c47b0 : (t101 == 2) = false := beq_eq_false_iff_ne.mpr c47
 have c47b1 : (t101 != 2) = true := bne_iff_ne.mpr c47
 by_cases c64 : t101 = 3
 rotate_left
 · rw [if_neg c64] at H
   have c64b0 : (t101 == 3) = false := beq_eq_false_iff_ne.mpr c64
   have c64b1 : (t101 != 3) = true := bne_iff_ne.mpr c64
   by_cases c99 : t101 = 4
   rotate_left
   · rw [if_neg c99] at H
     have c99b0 : (t101 == 4) = false := beq_eq_false_iff_ne.mpr c99
     have c99b1 : (t101 != 4) = true := bne_iff_ne.mpr c99
     obtain ⟨y107, hy107⟩ : ∃ y_ : List (STie), y_ = (([(⟨(-1), 0⟩ : STie)] : List (STie))) := ⟨_, rfl⟩
     replace H : (if y107.length + t108.length < 8796093022208 then (some (t100, (y107 ++ t108), t109)) else (none)) = some (r1, r2, r3) := qy H hy107
     have Ny107 := Aside0.mk hy107
     clear hy107
     by_cases c169 : y107.length + t108.length < 8796093022208
     rotate_left
     · rw [if_neg c169] at H
       exact absurd H (by simp)
     rw [if_pos c169] at H
     have LMc169 := Aside0.mk c169
     clear c169
     obtain ⟨y170, hy170⟩ : ∃ y_ : List (STie), y_ = (y107 ++ t108) := ⟨_, rfl⟩
     replace H : (some (t100, y170, t109)) = some (r1, r2, r3) := qy H hy170
     have Ny170 := Aside0.mk hy170
     clear hy170
     simp only [Option.some.injEq, Prod.mk.injEq] at H
     obtain ⟨rfl, rfl, rfl⟩ := H
     go_enter Tryd.func47, Tryd.ntmps47
     go_wp2_with (first | ((with_reducible refine gate_dst (N := 3) rfl ?_); refine be 3 #[.int .i64 a1_0, .slice A1_1 l1_1.length c1_1] 24 ?_; intro gb111 hg w171 hbox hb; replace HB := q0 (below_step (qj HB.out HI0.out) hb); have BK111 := q0 (hbox); have GW111 := q0 ((by rw [hg]; exact (keep_size (w := w) (g := g) (row := none) (qh HK.out)) : w.heap.size ≤ gb111)); have GE111 := q0 ((Nat.le_trans HW0.out (by rw [hg]; exact (keep_size (w := w) (g := g) (row := none) (qh HK.out)) : w.heap.size ≤ gb111) : w0.heap.size ≤ gb111)); replace HK := q0 (KeepBut.trans (qh HK.out) (KeepBut.of_below hb g none) (.inl rfl)); have NB0_111 := q0 ((by rw [hg]; exact Nat.ne_of_lt (IsSRd.lt (show IsSRd w0 _ g s0_0 s0_1 from qi HI0.out)) : g ≠ gb111)); have NB111_0 := q0 ((by rw [hg]; exact Nat.ne_of_gt (IsSRd.lt (show IsSRd w0 _ g s0_0 s0_1 from qi HI0.out)) : gb111 ≠ g)); replace HI0 := q0 (IsSRd.below (qi HI0.out) hb); clear hb hbox hg) | ((with_reducible refine gate_dst (N := 4) rfl ?_); refine be 4 #[.int .i64 0, .slice none 0 0] 24 ?_; intro gb112 hg w172 hbox hb; replace HB := q0 (below_step (qj HB.out HI0.out) hb); have BK112 := q0 (hbox); have GW112 := q0 ((by rw [hg]; exact (keep_size (w := w) (g := g) (row := none) (qh HK.out)) : w.heap.size ≤ gb112)); have GE112 := q0 ((Nat.le_trans HW0.out (by rw [hg]; exact (keep_size (w := w) (g := g) (row := none) (qh HK.out)) : w.heap.size ≤ gb112) : w0.heap.size ≤ gb112)); replace HK := q0 (KeepBut.trans (qh HK.out) (KeepBut.of_below hb g none) (.inl rfl)); have NB111_112 := q0 ((bl BK111.out hg : gb111 ≠ gb112)); have NB112_111 := q0 ((bg BK111.out hg : gb112 ≠ gb111)); replace BK111 := q0 (kb BK111.out hb); have NB0_112 := q0 ((by rw [hg]; exact Nat.ne_of_lt (IsSRd.lt (show IsSRd w0 _ g s0_0 s0_1 from qi HI0.out)) : g ≠ gb112)); have NB112_0 := q0 ((by rw [hg]; exact Nat.ne_of_gt (IsSRd.lt (show IsSRd w0 _ g s0_0 s0_1 from qi HI0.out)) : gb112 ≠ g)); replace HI0 := q0 (IsSRd.below (qi HI0.out) hb); clear hb hbox hg; have hnb173 := NB111_112.out; have hnc173 := NB112_111.out; have hnb174 := NB111_0.out; have hnc174 := NB0_111.out; have hcz175_0 : w172.cell? ⟨gb111, 0, none⟩ = some (.int .i64 a1_0) := (blk_cell BK111.out 0).trans rfl; have hcz175_1 : w172.cell? ⟨gb111, 1, none⟩ = some (.slice A1_1 l1_1.length c1_1) := (blk_cell BK111.out 1).trans rfl; have hfz175_0 := blk_frozen BK111.out 0; have hfz175_1 := blk_frozen BK111.out 1) | ((with_reducible refine gate_callee (f := 60) rfl ?_); refine gl 7 Tryd.func60 #[.agg #[.int .i64 a1_0, .slice A1_1 l1_1.length c1_1]] ?_; (with_reducible refine (spec_l1Copy.calls a1_0 _ _ l1_1 t100 t108 _ ?side1 ?side2 A3.out).mono ?_); (case side1 => exact Kd.C_foot_now HR1_1.out (qh HK.out)); (case side2 => exact HC1_1.out); rintro e w176 ⟨v113, rfl, ho0, hb⟩; refine ⟨_, rfl, ?_⟩; have HO114 := q0 (Kd.R_lower ho0 (keep_size (w := w) (g := g) (row := none) (qh HK.out))); replace BK111 := q0 (kb BK111.out hb); replace BK112 := q0 (kb BK112.out hb); replace HK := q0 (KeepBut.trans (qh HK.out) (KeepBut.of_below hb g none) (.inl rfl)); replace HB := q0 (below_step (qj HB.out HI0.out) hb); replace HI0 := q0 (IsSRd.below (qi HI0.out) hb); (try clear hb); (try clear hb2); (try clear hk); (try clear hi); (try clear ho0); have hcz177_0 : w176.cell? ⟨gb111, 0, none⟩ = some (.int .i64 a1_0) := (blk_cell BK111.out 0).trans rfl; have hcz177_1 : w176.cell? ⟨gb111, 1, none⟩ = some (.slice A1_1 l1_1.length c1_1) := (blk_cell BK111.out 1).trans rfl; have hfz177_0 := blk_frozen BK111.out 0; have hfz177_1 := blk_frozen BK111.out 1; obtain ⟨Ao178, co178, eo178⟩ := Kd.R_slice HO114.out; subst eo178) | ((with_reducible refine gate_callee (f := 38) rfl ?_); refine gl 9 Tryd.func38 #[.pointer (some ⟨g, 0, none⟩), .int .i64 6] ?_; (with_reducible refine (spec_l6Rd_pick.calls k g s0_0 s0_1 6 t101 t109 w0 _ ?side1 ?side2 A4.out).mono ?_); (case side1 => exact qi HI0.out); (case side2 => exact qj HB.out HI0.out); rintro e w179 ⟨rfl, hi, hb, hk⟩; refine ⟨_, rfl, ?_⟩; replace BK112 := q0 (kc hk BK112.out NB112_0.out); replace HO114 := q0 (Kd.R_mono (Kd.R_keep (IsSRd.apart (show IsSRd w0 _ g s0_0 s0_1 from qi HI0.out) (by (with_reducible repeat (first | apply Kd.R_alloc | apply Kd.R_drewN | apply Kd.R_drew)); exact (rf2 HO114.out BK111.out (fun _ h_ => h_.1))) (by decide)) hk (fun _ h => h.2)) (fun _ h => h.1)); replace BK111 := q0 (KeepBut.blk hk (g' := gb111) (o := .cells #[.int .i64 t100, .slice Ao178 t108.length co178] 24 (0, 0)) (by (with_reducible repeat (first | refine blk_drewN ?_ _ | refine blk_drew ?_ | refine blk_alloc ?_ _)); refine blk_put (cs := #[.int .i64 t100, .slice A1_1 l1_1.length c1_1]) ?_ 1 _ rfl; (with_reducible repeat (first | refine blk_drewN ?_ _ | refine blk_drew ?_ | refine blk_alloc ?_ _)); refine blk_put (cs := #[.int .i64 a1_0, .slice A1_1 l1_1.length c1_1]) ?_ 0 _ rfl; (with_reducible repeat (first | refine blk_drewN ?_ _ | refine blk_drew ?_ | refine blk_alloc ?_ _)); exact BK111.out) NB111_0.out (by simp)); replace HK := q0 (KeepBut.trans (qh HK.out) hk (.inl rfl)); replace HB := q0 (hb); replace HI0 := q0 (hi); (try clear hb); (try clear hb2); (try clear hk); (try clear hi)) | ((with_reducible refine gate_dst (N := 11) rfl ?_); refine Kd.R_lit kTie _ 47 ?hg (N := 11) ?hd (xs := ([(⟨(-1), 0⟩ : STie)] : List (STie))) (inner := [.int .i64 (-1), .int .i64 0]) (ok := fun _ => True) (okp := fun _ => True) ?hr ?hp (fun _ hk => hk) trivial (Below.refl _ _) (Nat.le_refl _) (by simp) ?_; (case hd => rfl); (case hg => rfl); (case hr => first | (go_simp; done) | (go_simp; rfl)); (case hp => exact (Reps.c2 (show Kd.M kTie _ _ _ (⟨(-1), 0⟩ : STie) [.int .i64 (-1), .int .i64 0] from (kTie_mkM _ _ _ (⟨(-1), 0⟩ : STie) )) (Reps.none _ _))); intro v180 w181 ho182 hb hg_ hnew_; clear hg_ hnew_; (first | rw [← Ny107.out] at ho182 | (simp only [Int.reduceToNat] at ho182; rw [← Ny107.out] at ho182)); have HO183 := q0 (Kd.R_lower (Kd.R_new' ho182 (Kd.R_lt (qr HO114.out))) (keep_size (w := w) (g := g) (row := none) (qh HK.out))); replace HO114 := q0 (Kd.R_elder' (qr HO114.out) (Kd.R_base ho182) hb); replace BK111 := q0 (kb BK111.out hb); replace BK112 := q0 (kb BK112.out hb); replace HK := q0 (KeepBut.trans (qh HK.out) (KeepBut.of_below hb g none) (.inl rfl)); replace HB := q0 (below_step (qj HB.out HI0.out) hb); replace HI0 := q0 (IsSRd.below (qi HI0.out) hb); clear hb ho182; have hcz184_0 : w181.cell? ⟨gb111, 0, none⟩ = some (.int .i64 t100) := (blk_cell BK111.out 0).trans rfl; have hcz184_1 : w181.cell? ⟨gb111, 1, none⟩ = some (.slice Ao178 t108.length co178) := (blk_cell BK111.out 1).trans rfl; have hfz184_0 := blk_frozen BK111.out 0; have hfz184_1 := blk_frozen BK111.out 1) | ((with_reducible refine gate_builtin (b := .append) (xs := #[.tmp 11, .tmp 13]) rfl ?_); at_builtin; refine Kd.R_append_rows kTie w.heap.size rfl (.tmp 11) (.tmp 13) 22 47 (.agg #[(.int .i64 0), (.int .i64 0)]) 16 rfl Tryd.underlying22 info47 rfl (by decide) (by omega) v180 y107 t108 _ _ _ (fun k_ => some k_ ≠ (.slice Ao178 t108.length co178 : Value).ownBlock) (fun _ => False) rfl rfl ?aO ?aR (fun _ _ h => h) (fun _ h => h.elim) ?aF (Below.refl _ _) ?aS ?aL ?_; (case aR => repeat (first | exact (Kd.R_reads' HO114.out).2.2 | (with_reducible refine Kd.C_alloc ?_ _) | (with_reducible refine Kd.C_drewN ?_ _) | (with_reducible refine Kd.C_drew ?_))); (case aF => exact (fun k_ hk => Kd.fresh' (Kd.R_lt (qr HO114.out)) k_ hk)); (case aO => exact (by (with_reducible repeat (first | apply Kd.R_alloc | apply Kd.R_drewN | apply Kd.R_drew)); exact Kd.R_mono HO183.out (fun _ hk => hk.2))); (case aS => exact (keep_size (w := w) (g := g) (row := none) (qh HK.out))); (case aL => have := LMc169.out; omega); intro v185 w186 ho hb hg hat; rw [← Ny170.out] at ho; replace BK111 := q0 (blk_grown (g := gb111) (o := .cells #[.int .i64 t100, .slice Ao178 t108.length co178] 24 (0, 0)) (qk BK111.out) hg (Kd.R_ne HO183.out BK111.out (by decide))); replace BK112 := q0 (blk_grown (g := gb112) (o := .cells #[.int .i64 0, .slice none 0 0] 24 (0, 0)) (qk BK112.out) hg (Kd.R_ne HO183.out BK112.out (by decide))); replace HO114 := q0 (Kd.R_after (ok := (fun _ => True)) (qr HO114.out) hg hat); replace HB := q0 (below_weaken (qj HB.out HI0.out) HL.out hb); replace HI0 := q0 (IsSRd.grown (qi HI0.out) hg (IsSRd.own_ne HI0.out HO183.out (by decide))); replace HK := q0 (KeepBut.trans (qh HK.out) (KeepBut.of_grown hg g) (Kd.R_base2 HO183.out)); have HO187 := q0 (ho); clear HO183; clear ho hb hg hat; obtain ⟨Ao188, co188, eo188⟩ := Kd.R_slice HO187.out; subst eo188; have hcz189_0 : w186.cell? ⟨gb111, 0, none⟩ = some (.int .i64 t100) := (blk_cell BK111.out 0).trans rfl; have hcz189_1 : w186.cell? ⟨gb111, 1, none⟩ = some (.slice Ao178 t108.length co178) := (blk_cell BK111.out 1).trans rfl; have hfz189_0 := blk_frozen BK111.out 0; have hfz189_1 := blk_frozen BK111.out 1; have hnb190 := NB112_0.out; have hnc190 := NB0_112.out; have hcz191_0 : w186.cell? ⟨gb112, 0, none⟩ = some (.int .i64 0) := (blk_cell BK112.out 0).trans rfl; have hcz191_1 : w186.cell? ⟨gb112, 1, none⟩ = some (.slice none 0 0) := (blk_cell BK112.out 1).trans rfl; have hfz191_0 := blk_frozen BK112.out 0; have hfz191_1 := blk_frozen BK112.out 1))
     refine bodyPost_ret (results_cell_row rfl _ _ gb112 24 #[.int .i64 t100, .slice Ao188 y170.length co188] (0, 0) _ rfl (by (with_reducible repeat (first | refine blk_drewN ?_ _ | refine blk_drew ?_ | refine blk_alloc ?_ _)); refine blk_put (cs := #[.int .i64 t100, .slice none 0 0]) ?_ 1 _ rfl; (with_reducible repeat (first | refine blk_drewN ?_ _ | refine blk_drew ?_ | refine blk_alloc ?_ _)); refine blk_put (cs := #[.int .i64 0, .slice none 0 0]) ?_ 0 _ rfl; (with_reducible repeat (first | refine blk_drewN ?_ _ | refine blk_drew ?_ | refine blk_alloc ?_ _)); refine blk_far ?_ NB112_111.out _; (with_reducible repeat (first | refine blk_drewN ?_ _ | refine blk_drew ?_ | refine blk_alloc ?_ _)); exact BK112.out) Tryd.underlying24 rfl (by kernel_rfl)) rfl ?_
     exact ⟨_, qe, by (with_reducible repeat (first | apply Kd.R_alloc | apply Kd.R_drewN | apply Kd.R_drew)); exact Kd.R_mono (Kd.R_far (p := ⟨gb112, 1, none⟩) (Kd.R_far (p := ⟨gb112, 0, none⟩) (Kd.R_far (p := ⟨gb111, 1, none⟩) (Kd.R_types (Kd.R_types HO187.out BK111.out (by decide)) BK112.out (by decide)) (fun _ hk => hk.1.2) (.slice Ao188 y170.length co188)) (fun _ hk => hk.2) (.int .i64 t100)) (fun _ hk => hk.2) (.slice Ao188 y170.length co188)) (fun _ hk => trivial), qi HI0.out, qj HB.out HI0.out, by repeat (first | (with_reducible first | exact HK.out | apply KeepBut.set_ | apply keep_drewN | apply keep_drew | apply keep_alloc | refine keep_far ?_ GW111.out _ | refine keep_far ?_ GW112.out _) | exact HK.out)⟩
   rw [if_pos c99] at H
   have c99b0 : (t101 == 4) = true := beq_iff_eq.mpr c99
   have c99b1 : (t101 != 4) = false := bne_eq_false_iff_eq.mpr c99
   clear c99
   by_cases c133 : (t108.length : Int) > 1
   rotate_left
   · rw [if_neg c133] at H
     have c133b0 : decide (1 < (t108.length : Int)) = false := decide_eq_false c133
     have c133b1 : decide (1 < t108.length) = false := decide_eq_false (by omega)
     clear c133
     simp only [Option.some.injEq, Prod.mk.injEq] at H
     obtain ⟨rfl, rfl, rfl⟩ := H
     go_enter Tryd.func47, Tryd.ntmps47
     go_wp2_with (first | ((with_reducible refine gate_dst (N := 3) rfl ?_); refine be 3 #[.int .i64 a1_0, .slice A1_1 l1_1.length c1_1] 24 ?_; intro gb111 hg w157 hbox hb; replace HB := q0 (below_step (qj HB.out HI0.out) hb); have BK111 := q0 (hbox); have GW111 := q0 ((by rw [hg]; exact (keep_size (w := w) (g := g) (row := none) (qh HK.out)) : w.heap.size ≤ gb111)); have GE111 := q0 ((Nat.le_trans HW0.out (by rw [hg]; exact (keep_size (w := w) (g := g) (row := none) (qh HK.out)) : w.heap.size ≤ gb111) : w0.heap.size ≤ gb111)); replace HK := q0 (KeepBut.trans (qh HK.out) (KeepBut.of_below hb g none) (.inl rfl)); have NB0_111 := q0 ((by rw [hg]; exact Nat.ne_of_lt (IsSRd.lt (show IsSRd w0 _ g s0_0 s0_1 from qi HI0.out)) : g ≠ gb111)); have NB111_0 := q0 ((by rw [hg]; exact Nat.ne_of_gt (IsSRd.lt (show IsSRd w0 _ g s0_0 s0_1 from qi HI0.out)) : gb111 ≠ g)); replace HI0 := q0 (IsSRd.below (qi HI0.out) hb); clear hb hbox hg) | ((with_reducible refine gate_dst (N := 4) rfl ?_); refine be 4 #[.int .i64 0, .slice none 0 0] 24 ?_; intro gb112 hg w158 hbox hb; replace HB := q0 (below_step (qj HB.out HI0.out) hb); have BK112 := q0 (hbox); have GW112 := q0 ((by rw [hg]; exact (keep_size (w := w) (g := g) (row := none) (qh HK.out)) : w.heap.size ≤ gb112)); have GE112 := q0 ((Nat.le_trans HW0.out (by rw [hg]; exact (keep_size (w := w) (g := g) (row := none) (qh HK.out)) : w.heap.size ≤ gb112) : w0.heap.size ≤ gb112)); replace HK := q0 (KeepBut.trans (qh HK.out) (KeepBut.of_below hb g none) (.inl rfl)); have NB111_112 := q0 ((bl BK111.out hg : gb111 ≠ gb112)); have NB112_111 := q0 ((bg BK111.out hg : gb112 ≠ gb111)); replace BK111 := q0 (kb BK111.out hb); have NB0_112 := q0 ((by rw [hg]; exact Nat.ne_of_lt (IsSRd.lt (show IsSRd w0 _ g s0_0 s0_1 from qi HI0.out)) : g ≠ gb112)); have NB112_0 := q0 ((by rw [hg]; exact Nat.ne_of_gt (IsSRd.lt (show IsSRd w0 _ g s0_0 s0_1 from qi HI0.out)) : gb112 ≠ g)); replace HI0 := q0 (IsSRd.below (qi HI0.out) hb); clear hb hbox hg; have hnb159 := NB111_112.out; have hnc159 := NB112_111.out; have hnb160 := NB111_0.out; have hnc160 := NB0_111.out; have hcz161_0 : w158.cell? ⟨gb111, 0, none⟩ = some (.int .i64 a1_0) := (blk_cell BK111.out 0).trans rfl; have hcz161_1 : w158.cell? ⟨gb111, 1, none⟩ = some (.slice A1_1 l1_1.length c1_1) := (blk_cell BK111.out 1).trans rfl; have hfz161_0 := blk_frozen BK111.out 0; have hfz161_1 := blk_frozen BK111.out 1) | ((with_reducible refine gate_callee (f := 60) rfl ?_); refine gl 7 Tryd.func60 #[.agg #[.int .i64 a1_0, .slice A1_1 l1_1.length c1_1]] ?_; (with_reducible refine (spec_l1Copy.calls a1_0 _ _ l1_1 t100 t108 _ ?side1 ?side2 A3.out).mono ?_); (case side1 => exact Kd.C_foot_now HR1_1.out (qh HK.out)); (case side2 => exact HC1_1.out); rintro e w162 ⟨v113, rfl, ho0, hb⟩; refine ⟨_, rfl, ?_⟩; have HO114 := q0 (Kd.R_lower ho0 (keep_size (w := w) (g := g) (row := none) (qh HK.out))); replace BK111 := q0 (kb BK111.out hb); replace BK112 := q0 (kb BK112.out hb); replace HK := q0 (KeepBut.trans (qh HK.out) (KeepBut.of_below hb g none) (.inl rfl)); replace HB := q0 (below_step (qj HB.out HI0.out) hb); replace HI0 := q0 (IsSRd.below (qi HI0.out) hb); (try clear hb); (try clear hb2); (try clear hk); (try clear hi); (try clear ho0); have hcz163_0 : w162.cell? ⟨gb111, 0, none⟩ = some (.int .i64 a1_0) := (blk_cell BK111.out 0).trans rfl; have hcz163_1 : w162.cell? ⟨gb111, 1, none⟩ = some (.slice A1_1 l1_1.length c1_1) := (blk_cell BK111.out 1).trans rfl; have hfz163_0 := blk_frozen BK111.out 0; have hfz163_1 := blk_frozen BK111.out 1; obtain ⟨Ao164, co164, eo164⟩ := Kd.R_slice HO114.out; subst eo164) | ((with_reducible refine gate_callee (f := 38) rfl ?_); refine gl 9 Tryd.func38 #[.pointer (some ⟨g, 0, none⟩), .int .i64 6] ?_; (with_reducible refine (spec_l6Rd_pick.calls k g s0_0 s0_1 6 t101 t109 w0 _ ?side1 ?side2 A4.out).mono ?_); (case side1 => exact qi HI0.out); (case side2 => exact qj HB.out HI0.out); rintro e w165 ⟨rfl, hi, hb, hk⟩; refine ⟨_, rfl, ?_⟩; replace BK112 := q0 (kc hk BK112.out NB112_0.out); replace HO114 := q0 (Kd.R_mono (Kd.R_keep (IsSRd.apart (show IsSRd w0 _ g s0_0 s0_1 from qi HI0.out) (by (with_reducible repeat (first | apply Kd.R_alloc | apply Kd.R_drewN | apply Kd.R_drew)); exact (rf2 HO114.out BK111.out (fun _ h_ => h_.1))) (by decide)) hk (fun _ h => h.2)) (fun _ h => h.1)); replace BK111 := q0 (KeepBut.blk hk (g' := gb111) (o := .cells #[.int .i64 t100, .slice Ao164 t108.length co164] 24 (0, 0)) (by (with_reducible repeat (first | refine blk_drewN ?_ _ | refine blk_drew ?_ | refine blk_alloc ?_ _)); refine blk_put (cs := #[.int .i64 t100, .slice A1_1 l1_1.length c1_1]) ?_ 1 _ rfl; (with_reducible repeat (first | refine blk_drewN ?_ _ | refine blk_drew ?_ | refine blk_alloc ?_ _)); refine blk_put (cs := #[.int .i64 a1_0, .slice A1_1 l1_1.length c1_1]) ?_ 0 _ rfl; (with_reducible repeat (first | refine blk_drewN ?_ _ | refine blk_drew ?_ | refine blk_alloc ?_ _)); exact BK111.out) NB111_0.out (by simp)); replace HK := q0 (KeepBut.trans (qh HK.out) hk (.inl rfl)); replace HB := q0 (hb); replace HI0 := q0 (hi); (try clear hb); (try clear hb2); (try clear hk); (try clear hi); have hcz166_0 : w165.cell? ⟨gb111, 0, none⟩ = some (.int .i64 t100) := (blk_cell BK111.out 0).trans rfl; have hcz166_1 : w165.cell? ⟨gb111, 1, none⟩ = some (.slice Ao164 t108.length co164) := (blk_cell BK111.out 1).trans rfl; have hfz166_0 := blk_frozen BK111.out 0; have hfz166_1 := blk_frozen BK111.out 1; have hnb167 := NB112_0.out; have hnc167 := NB0_112.out; have hcz168_0 : w165.cell? ⟨gb112, 0, none⟩ = some (.int .i64 0) := (blk_cell BK112.out 0).trans rfl; have hcz168_1 : w165.cell? ⟨gb112, 1, none⟩ = some (.slice none 0 0) := (blk_cell BK112.out 1).trans rfl; have hfz168_0 := blk_frozen BK112.out 0; have hfz168_1 := blk_frozen BK112.out 1))
     refine bodyPost_ret (results_cell_row rfl _ _ gb112 24 #[.int .i64 t100, .slice Ao164 t108.length co164] (0, 0) _ rfl (by (with_reducible repeat (first | refine blk_drewN ?_ _ | refine blk_drew ?_ | refine blk_alloc ?_ _)); refine blk_put (cs := #[.int .i64 t100, .slice none 0 0]) ?_ 1 _ rfl; (with_reducible repeat (first | refine blk_drewN ?_ _ | refine blk_drew ?_ | refine blk_alloc ?_ _)); refine blk_put (cs := #[.int .i64 0, .slice none 0 0]) ?_ 0 _ rfl; (with_reducible repeat (first | refine blk_drewN ?_ _ | refine blk_drew ?_ | refine blk_alloc ?_ _)); exact BK112.out) Tryd.underlying24 rfl (by kernel_rfl)) rfl ?_
     exact ⟨_, qe, by (with_reducible repeat (first | apply Kd.R_alloc | apply Kd.R_drewN | apply Kd.R_drew)); exact rf2 HO114.out BK112.out (fun _ hk => trivial), qi HI0.out, qj HB.out HI0.out, by repeat (first | (with_reducible first | exact HK.out | apply KeepBut.set_ | apply keep_drewN | apply keep_drew | apply keep_alloc | refine keep_far ?_ GW111.out _ | refine keep_far ?_ GW112.out _) | exact HK.out)⟩
   rw [if_pos c133] at H
   have c133b0 : decide (1 < (t108.length : Int)) = true := decide_eq_true c133
   have c133b1 : decide (1 < t108.length) = true := decide_eq_true (by omega)
   clear c133
   by_cases c134 : 0 < (t108.length : Int)
   rotate_left
   · rw [if_neg c134] at H
     exact absurd H (by simp)
   rw [if_pos c134] at H
   have c134b0 : decide (0 < (t108.length : Int)) = true := decide_eq_true c134
   have c134b1 : decide (0 < t108.length) = true := decide_eq_true (by omega)
   clear c134
   by_cases c135 : t108.length < 8796093022208
   rotate_left
   · rw [if_neg c135] at H
     exact absurd H (by simp)
   rw [if_pos c135] at H
   have LMc135 := Aside0.mk c135
   clear c135
   obtain ⟨y136, hy136⟩ : ∃ y_ : List (STie), y_ = (t108 ++ [(⟨(rd_TTie t108 0).f0, (rd_TTie t108 0).f1⟩ : STie)]) := ⟨_, rfl⟩
   replace H : (some (t100, y136, t109)) = some (r1, r2, r3) := qy H hy136
   have Ny136 := Aside0.mk hy136
   clear hy136
   simp only [Option.some.injEq, Prod.mk.injEq] at H
   obtain ⟨rfl, rfl, rfl⟩ := H
   go_enter Tryd.func47, Tryd.ntmps47
   try go_wp2_with (first | ((with_reducible refine gate_dst (N := 3) rfl ?_); refine be 3 #[.int .i64 a1_0, .slice A1_1 l1_1.length c1_1] 24 ?_; intro gb111 hg w137 hbox hb; replace HB := q0 (below_step (qj HB.out HI0.out) hb); have BK111 := q0 (hbox); have GW111 := q0 ((by rw [hg]; exact (keep_size (w := w) (g := g) (row := none) (qh HK.out)) : w.heap.size ≤ gb111)); have GE111 := q0 ((Nat.le_trans HW0.out (by rw [hg]; exact (keep_size (w := w) (g := g) (row := none) (qh HK.out)) : w.heap.size ≤ gb111) : w0.heap.size ≤ gb111)); replace HK := q0 (KeepBut.trans (qh HK.out) (KeepBut.of_below hb g none) (.inl rfl)); have NB0_111 := q0 ((by rw [hg]; exact Nat.ne_of_lt (IsSRd.lt (show IsSRd w0 _ g s0_0 s0_1 from qi HI0.out)) : g ≠ gb111)); have NB111_0 := q0 ((by rw [hg]; exact Nat.ne_of_gt (IsSRd.lt (show IsSRd w0 _ g s0_0 s0_1 from qi HI0.out)) : gb111 ≠ g)); replace HI0 := q0 (IsSRd.below (qi HI0.out) hb); clear hb hbox hg) | ((with_reducible refine gate_dst (N := 4) rfl ?_); refine be 4 #[.int .i64 0, .slice none 0 0] 24 ?_; intro gb112 hg w138 hbox hb; replace HB := q0 (below_step (qj HB.out HI0.out) hb); have BK112 := q0 (hbox); have GW112 := q0 ((by rw [hg]; exact (keep_size (w := w) (g := g) (row := none) (qh HK.out)) : w.heap.size ≤ gb112)); have GE112 := q0 ((Nat.le_trans HW0.out (by rw [hg]; exact (keep_size (w := w) (g := g) (row := none) (qh HK.out)) : w.heap.size ≤ gb112) : w0.heap.size ≤ gb112)); replace HK := q0 (KeepBut.trans (qh HK.out) (KeepBut.of_below hb g none) (.inl rfl)); have NB111_112 := q0 ((bl BK111.out hg : gb111 ≠ gb112)); have NB112_111 := q0 ((bg BK111.out hg : gb112 ≠ gb111)); replace BK111 := q0 (kb BK111.out hb); have NB0_112 := q0 ((by rw [hg]; exact Nat.ne_of_lt (IsSRd.lt (show IsSRd w0 _ g s0_0 s0_1 from qi HI0.out)) : g ≠ gb112)); have NB112_0 := q0 ((by rw [hg]; exact Nat.ne_of_gt (IsSRd.lt (show IsSRd w0 _ g s0_0 s0_1 from qi HI0.out)) : gb112 ≠ g)); replace HI0 := q0 (IsSRd.below (qi HI0.out) hb); clear hb hbox hg; have hnb139 := NB111_112.out; have hnc139 := NB112_111.out; have hnb140 := NB111_0.out; have hnc140 := NB0_111.out; have hcz141_0 : w138.cell? ⟨gb111, 0, none⟩ = some (.int .i64 a1_0) := (blk_cell BK111.out 0).trans rfl; have hcz141_1 : w138.cell? ⟨gb111, 1, none⟩ = some (.slice A1_1 l1_1.length c1_1) := (blk_cell BK111.out 1).trans rfl; have hfz141_0 := blk_frozen BK111.out 0; have hfz141_1 := blk_frozen BK111.out 1) | ((with_reducible refine gate_callee (f := 60) rfl ?_); refine gl 7 Tryd.func60 #[.agg #[.int .i64 a1_0, .slice A1_1 l1_1.length c1_1]] ?_; (with_reducible refine (spec_l1Copy.calls a1_0 _ _ l1_1 t100 t108 _ ?side1 ?side2 A3.out).mono ?_); (case side1 => exact Kd.C_foot_now HR1_1.out (qh HK.out)); (case side2 => exact HC1_1.out); rintro e w142 ⟨v113, rfl, ho0, hb⟩; refine ⟨_, rfl, ?_⟩; have HO114 := q0 (Kd.R_lower ho0 (keep_size (w := w) (g := g) (row := none) (qh HK.out))); replace BK111 := q0 (kb BK111.out hb); replace BK112 := q0 (kb BK112.out hb); replace HK := q0 (KeepBut.trans (qh HK.out) (KeepBut.of_below hb g none) (.inl rfl)); replace HB := q0 (below_step (qj HB.out HI0.out) hb); replace HI0 := q0 (IsSRd.below (qi HI0.out) hb); (try clear hb); (try clear hb2); (try clear hk); (try clear hi); (try clear ho0); have hcz143_0 : w142.cell? ⟨gb111, 0, none⟩ = some (.int .i64 a1_0) := (blk_cell BK111.out 0).trans rfl; have hcz143_1 : w142.cell? ⟨gb111, 1, none⟩ = some (.slice A1_1 l1_1.length c1_1) := (blk_cell BK111.out 1).trans rfl; have hfz143_0 := blk_frozen BK111.out 0; have hfz143_1 := blk_frozen BK111.out 1; obtain ⟨Ao144, co144, eo144⟩ := Kd.R_slice HO114.out; subst eo144) | ((with_reducible refine gate_callee (f := 38) rfl ?_); refine gl 9 Tryd.func38 #[.pointer (some ⟨g, 0, none⟩), .int .i64 6] ?_; (with_reducible refine (spec_l6Rd_pick.calls k g s0_0 s0_1 6 t101 t109 w0 _ ?side1 ?side2 A4.out).mono ?_); (case side1 => exact qi HI0.out); (case side2 => exact qj HB.out HI0.out); rintro e w145 ⟨rfl, hi, hb, hk⟩; refine ⟨_, rfl, ?_⟩; replace BK112 := q0 (kc hk BK112.out NB112_0.out); replace HO114 := q0 (Kd.R_mono (Kd.R_keep (IsSRd.apart (show IsSRd w0 _ g s0_0 s0_1 from qi HI0.out) (by (with_reducible repeat (first | apply Kd.R_alloc | apply Kd.R_drewN | apply Kd.R_drew)); exact (rf2 HO114.out BK111.out (fun _ h_ => h_.1))) (by decide)) hk (fun _ h => h.2)) (fun _ h => h.1)); replace BK111 := q0 (KeepBut.blk hk (g' := gb111) (o := .cells #[.int .i64 t100, .slice Ao144 t108.length co144] 24 (0, 0)) (by (with_reducible repeat (first | refine blk_drewN ?_ _ | refine blk_drew ?_ | refine blk_alloc ?_ _)); refine blk_put (cs := #[.int .i64 t100, .slice A1_1 l1_1.length c1_1]) ?_ 1 _ rfl; (with_reducible repeat (first | refine blk_drewN ?_ _ | refine blk_drew ?_ | refine blk_alloc ?_ _)); refine blk_put (cs := #[.int .i64 a1_0, .slice A1_1 l1_1.length c1_1]) ?_ 0 _ rfl; (with_reducible repeat (first | refine blk_drewN ?_ _ | refine blk_drew ?_ | refine blk_alloc ?_ _)); exact BK111.out) NB111_0.out (by simp)); replace HK := q0 (KeepBut.trans (qh HK.out) hk (.inl rfl)); replace HB := q0 (hb); replace HI0 := q0 (hi); (try clear hb); (try clear hb2); (try clear hk); (try clear hi); have hcz146_0 : w145.cell? ⟨gb111, 0, none⟩ = some (.int .i64 t100) := (blk_cell BK111.out 0).trans rfl; have hcz146_1 : w145.cell? ⟨gb111, 1, none⟩ = some (.slice Ao144 t108.length co144) := (blk_cell BK111.out 1).trans rfl; have hfz146_0 := blk_frozen BK111.out 0; have hfz146_1 := blk_frozen BK111.out 1))
   replace HO114 := q0 (Kd.R_drew HO114.out)
   replace BK111 := q0 (blk_drew BK111.out)
   replace BK112 := q0 (blk_drew BK112.out)
   replace HI0 := q0 (IsSRd.drew HI0.out)
   replace HK := q0 (keep_drew HK.out)
   replace HB := q0 (below_drew1 HB.out)
   have p147 : 0 ≤ (0 : Int) := (by omega)
   have q147 : 0 < (t108.length : Int) := of_decide_eq_true qa
   obtain ⟨ad147, e147, hx147_0, hx147_1⟩ := at_TTie (Kd.R_reads' HO114.out).2.2 0 p147 q147
   cases e147
   have qi147 : (0 < t108.length) = True := eq_true (by omega)
   (try rw [show ((0 : Int)).toNat = 0 from rfl] at hx147_0)
   (try rw [show 0 * 2 = 0 from rfl] at hx147_0)
   (try rw [Addr.add_zero'] at hx147_0)
   (try rw [show ((0 : Int)).toNat = 0 from rfl] at hx147_1)
   (try rw [show 0 * 2 = 0 from rfl] at hx147_1)
   (try rw [Addr.add_zero'] at hx147_1)
   replace p147 := eq_true p147
   replace q147 := eq_true q147
   refine start_ (n := 10) (S := fun w' => w'.cell? ⟨gb111, 0, none⟩ = some (.int .i64 t100) ∧ w'.cell? ⟨gb111, 1, none⟩ = some (.slice (some ad147) t108.length co144) ∧ w'.cell? ad147 = some (.int .i64 ((rd_TTie t108 0).f0)) ∧ w'.cell? ⟨ad147.block, ad147.off + 1, none⟩ = some (.int .i64 ((rd_TTie t108 0).f1))) (ds := [7, 9]) (ba 10 0) (by kernel_rfl) rfl (by kernel_rfl) ⟨(blk_cell BK111.out 0).trans rfl, (blk_cell BK111.out 1).trans rfl, hx147_0, hx147_1⟩ (fun hHeld => ?_); refine with_tabW spec_l71Spoil.tab16 spec_l71Spoil.bits16 (fun HT_ HW_ => ?_)
   generalize w145.drew = w148 at HO114 BK111 BK112 HI0 HK HB hx147_0 hx147_1 hHeld ⊢
   refine pu 0 (some 83) (ba 10 1) HT_.out ?_
   refine pu 2 (some 85) (ba 10 5) HT_.out ?_
   refine tu 1 (some 84) (ba 10 7) HT_.out HW_.out hHeld ?_
   refine tu 3 (some 86) (ba 10 15) HT_.out HW_.out hHeld ?_
   refine pu 4 (some 87) (ba 10 31) HT_.out ?_
   refine tu 5 (some 88) (ba 10 63) HT_.out HW_.out hHeld ?_
   refine one_ (i := 6) (N := some 89) (ba 10 127) rfl rfl (one_of HT_.out (by kernel_rfl)) (by decide) (fun K hK => ?_)
   refine value_ (w1 := ?_) (v := ?_) (by rfl) rfl ?_ ?_
   rotate_left 2
   · go_simp
     constructor
     · rfl
     · rfl
   refine hK.out _ _ ⟨(blk_cell (blk_alloc BK111.out _) 0).trans rfl, (blk_cell (blk_alloc BK111.out _) 1).trans rfl, (World.cell?_alloc_lt _ _ _ (World.block_lt_of_cell? _ _ (hHeld.2.2.1))).trans (hHeld.2.2.1), (World.cell?_alloc_lt _ _ _ (World.block_lt_of_cell? _ _ (hHeld.2.2.2))).trans (hHeld.2.2.2)⟩ (fun hHeld => ?_)
   clear hK K
   refine nu 89 ?_
   refine last_ (i := 7) (N := some 90) (ba 10 255) rfl rfl (one_of HT_.out (by kernel_rfl)) (by decide) (fun K hK => ?_)
   refine Kd.R_append_step kTie w.heap.size (by rfl) (.tmp 84) (.tmp 89) 22 47 (.agg #[(.int .i64 0), (.int .i64 0)]) 16 rfl Tryd.underlying22 info47 rfl (by decide) (by omega) (.slice (some ad147) t108.length co144) t108 (⟨(rd_TTie t108 0).f0, (rd_TTie t108 0).f1⟩ : STie) [.int .i64 ((rd_TTie t108 0).f0), .int .i64 ((rd_TTie t108 0).f1)] (fun _ => True) (fun _ => False) rfl rfl ?aP (fun _ hk => hk.elim) ?aF ?aO (Below.refl _ _) ?aS ?aL ?_
   (case aP => exact kTie_mkM _ _ _ (⟨(rd_TTie t108 0).f0, (rd_TTie t108 0).f1⟩ : STie))
   (case aF => exact (fun _ _ => trivial))
   (case aO => exact (qr HO114.out))
   (case aS => exact (keep_size (w := w) (g := g) (row := none) (qh HK.out)))
   (case aL => have := LMc135.out; omega)
   intro v149 w150 ho hb hg hat
   rw [← Ny136.out] at ho
   replace BK111 := q0 (blk_grown (g := gb111) (o := .cells #[.int .i64 t100, .slice (some ad147) t108.length co144] 24 (0, 0)) (qk BK111.out) hg (Kd.R_ne HO114.out BK111.out (by decide)))
   replace BK112 := q0 (blk_grown (g := gb112) (o := .cells #[.int .i64 0, .slice none 0 0] 24 (0, 0)) (qk BK112.out) hg (Kd.R_ne HO114.out BK112.out (by decide)))
   replace HB := q0 (below_weaken (qj HB.out HI0.out) HL.out hb)
   replace HI0 := q0 (IsSRd.grown (qi HI0.out) hg (IsSRd.own_ne HI0.out HO114.out (by decide)))
   replace HK := q0 (KeepBut.trans (qh HK.out) (KeepBut.of_grown hg g) (Kd.R_base2 HO114.out))
   have HO151 := q0 (ho)
   clear HO114
   clear ho hb hg hat
   obtain ⟨Ao152, co152, eo152⟩ := Kd.R_slice HO151.out
   (first | subst eo152 | (injection eo152 with f1_ f2_ f3_; have f4_ := f1_.symm; have f5_ := f3_.symm; clear f1_ f2_ f3_; subst f4_; subst f5_))
   refine hK.out _ _ ?_
   clear hK K
   refine nu 90 ?_
   refine pu 8 (some 91) (ba 10 511) HT_.out ?_
   refine last_ (i := 9) (N := none) (ba 10 1023) rfl rfl (one_of HT_.out (by kernel_rfl)) (by decide) (fun K hK => ?_)
   have hs153 : w150.cell? ⟨gb111, 1, none⟩ = some (.slice (some ad147) t108.length co144) := (blk_cell BK111.out 1).trans rfl
   have hfs153 := blk_frozen BK111.out 1
   have hns153_1 := NB112_111.out
   have hms153_1 := NB111_112.out
   refine skip_ (w1 := ?_) (by rfl) rfl ?_ ?_
   rotate_left
   · go_simp
     rfl
   refine hK.out _ _ ?_
   clear hK K
   refine done_ (done_of HT_.out (by kernel_rfl)) ?_
   have hcz154_0 : w150.cell? ⟨gb111, 0, none⟩ = some (.int .i64 t100) := (blk_cell BK111.out 0).trans rfl
   have hcz154_1 : w150.cell? ⟨gb111, 1, none⟩ = some (.slice (some ad147) t108.length co144) := (blk_cell BK111.out 1).trans rfl
   have hfz154_0 := blk_frozen BK111.out 0
   have hfz154_1 := blk_frozen BK111.out 1
   have hnb155 := NB112_0.out
   have hnc155 := NB0_112.out
   have hcz156_0 : w150.cell? ⟨gb112, 0, none⟩ = some (.int .i64 0) := (blk_cell BK112.out 0).trans rfl
   have hcz156_1 : w150.cell? ⟨gb112, 1, none⟩ = some (.slice none 0 0) := (blk_cell BK112.out 1).trans rfl
   have hfz156_0 := blk_frozen BK112.out 0
   have hfz156_1 := blk_frozen BK112.out 1
   try go_wp2
   refine bodyPost_ret (results_cell_row rfl _ _ gb112 24 #[.int .i64 t100, .slice Ao152 y136.length co152] (0, 0) _ rfl (by (with_reducible repeat (first | refine blk_drewN ?_ _ | refine blk_drew ?_ | refine blk_alloc ?_ _)); refine blk_put (cs := #[.int .i64 t100, .slice none 0 0]) ?_ 1 _ rfl; (with_reducible repeat (first | refine blk_drewN ?_ _ | refine blk_drew ?_ | refine blk_alloc ?_ _)); refine blk_put (cs := #[.int .i64 0, .slice none 0 0]) ?_ 0 _ rfl; (with_reducible repeat (first | refine blk_drewN ?_ _ | refine blk_drew ?_ | refine blk_alloc ?_ _)); refine blk_far ?_ NB112_111.out _; (with_reducible repeat (first | refine blk_drewN ?_ _ | refine blk_drew ?_ | refine blk_alloc ?_ _)); exact BK112.out) Tryd.underlying24 rfl (by kernel_rfl)) rfl ?_
   exact ⟨_, qe, by (with_reducible repeat (first | apply Kd.R_alloc | apply Kd.R_drewN | apply Kd.R_drew)); exact Kd.R_mono (Kd.R_far (p := ⟨gb112, 1, none⟩) (Kd.R_far (p := ⟨gb112, 0, none⟩) (Kd.R_far (p := ⟨gb111, 1, none⟩) (Kd.R_types (Kd.R_types HO151.out BK111.out (by decide)) BK112.out (by decide)) (fun _ hk => hk.1.2) (.slice Ao152 y136.length co152)) (fun _ hk => hk.2) (.int .i64 t100)) (fun _ hk => hk.2) (.slice Ao152 y136.length co152)) (fun _ hk => trivial), qi HI0.out, qj HB.out HI0.out, by repeat (first | (with_reducible first | exact HK.out | apply KeepBut.set_ | apply keep_drewN | apply keep_drew | apply keep_alloc | refine keep_far ?_ GW111.out _ | refine keep_far ?_ GW112.out _) | exact HK.out)⟩
 rw [if_pos c64] at H
 have c64b0 : (t101 == 3) = true := beq_iff_eq.mpr c64
 have c64b1 : (t101 != 3) = false := bne_eq_false_iff_eq.mpr c64
 clear c64
 by_cases c65 : (t108.length : Int) > 0
 rotate_left
 · rw [if_neg c65] at H
   have c65b0 : decide (0 < (t108.length : Int)) = false := decide_eq_false c65
   have c65b1 : decide (0 < t108.length) = false := decide_eq_false (by omega)
   clear c65
   simp only [Option.some.injEq, Prod.mk.injEq] at H
   obtain ⟨rfl, rfl, rfl⟩ := H
   go_enter Tryd.func47, Tryd.ntmps47
   go_wp2_with (first | ((with_reducible refine gate_dst (N := 3) rfl ?_); refine be 3 #[.int .i64 a1_0, .slice A1_1 l1_1.length c1_1] 24 ?_; intro gb111 hg w87 hbox hb; replace HB := q0 (below_step (qj HB.out HI0.out) hb); have BK111 := q0 (hbox); have GW111 := q0 ((by rw [hg]; exact (keep_size (w := w) (g := g) (row := none) (qh HK.out)) : w.heap.size ≤ gb111)); have GE111 := q0 ((Nat.le_trans HW0.out (by rw [hg]; exact (keep_size (w := w) (g := g) (row := none) (qh HK.out)) : w.heap.size ≤ gb111) : w0.heap.size ≤ gb111)); replace HK := q0 (KeepBut.trans (qh HK.out) (KeepBut.of_below hb g none) (.inl rfl)); have NB0_111 := q0 ((by rw [hg]; exact Nat.ne_of_lt (IsSRd.lt (show IsSRd w0 _ g s0_0 s0_1 from qi HI0.out)) : g ≠ gb111)); have NB111_0 := q0 ((by rw [hg]; exact Nat.ne_of_gt (IsSRd.lt (show IsSRd w0 _ g s0_0 s0_1 from qi HI0.out)) : gb111 ≠ g)); replace HI0 := q0 (IsSRd.below (qi HI0.out) hb); clear hb hbox hg) | ((with_reducible refine gate_dst (N := 4) rfl ?_); refine be 4 #[.int .i64 0, .slice none 0 0] 24 ?_; intro gb112 hg w88 hbox hb; replace HB := q0 (below_step (qj HB.out HI0.out) hb); have BK112 := q0 (hbox); have GW112 := q0 ((by rw [hg]; exact (keep_size (w := w) (g := g) (row := none) (qh HK.out)) : w.heap.size ≤ gb112)); have GE112 := q0 ((Nat.le_trans HW0.out (by rw [hg]; exact (keep_size (w := w) (g := g) (row := none) (qh HK.out)) : w.heap.size ≤ gb112) : w0.heap.size ≤ gb112)); replace HK := q0 (KeepBut.trans (qh HK.out) (KeepBut.of_below hb g none) (.inl rfl)); have NB111_112 := q0 ((bl BK111.out hg : gb111 ≠ gb112)); have NB112_111 := q0 ((bg BK111.out hg : gb112 ≠ gb111)); replace BK111 := q0 (kb BK111.out hb); have NB0_112 := q0 ((by rw [hg]; exact Nat.ne_of_lt (IsSRd.lt (show IsSRd w0 _ g s0_0 s0_1 from qi HI0.out)) : g ≠ gb112)); have NB112_0 := q0 ((by rw [hg]; exact Nat.ne_of_gt (IsSRd.lt (show IsSRd w0 _ g s0_0 s0_1 from qi HI0.out)) : gb112 ≠ g)); replace HI0 := q0 (IsSRd.below (qi HI0.out) hb); clear hb hbox hg; have hnb89 := NB111_112.out; have hnc89 := NB112_111.out; have hnb90 := NB111_0.out; have hnc90 := NB0_111.out; have hcz91_0 : w88.cell? ⟨gb111, 0, none⟩ = some (.int .i64 a1_0) := (blk_cell BK111.out 0).trans rfl; have hcz91_1 : w88.cell? ⟨gb111, 1, none⟩ = some (.slice A1_1 l1_1.length c1_1) := (blk_cell BK111.out 1).trans rfl; have hfz91_0 := blk_frozen BK111.out 0; have hfz91_1 := blk_frozen BK111.out 1) | ((with_reducible refine gate_callee (f := 60) rfl ?_); refine gl 7 Tryd.func60 #[.agg #[.int .i64 a1_0, .slice A1_1 l1_1.length c1_1]] ?_; (with_reducible refine (spec_l1Copy.calls a1_0 _ _ l1_1 t100 t108 _ ?side1 ?side2 A3.out).mono ?_); (case side1 => exact Kd.C_foot_now HR1_1.out (qh HK.out)); (case side2 => exact HC1_1.out); rintro e w92 ⟨v113, rfl, ho0, hb⟩; refine ⟨_, rfl, ?_⟩; have HO114 := q0 (Kd.R_lower ho0 (keep_size (w := w) (g := g) (row := none) (qh HK.out))); replace BK111 := q0 (kb BK111.out hb); replace BK112 := q0 (kb BK112.out hb); replace HK := q0 (KeepBut.trans (qh HK.out) (KeepBut.of_below hb g none) (.inl rfl)); replace HB := q0 (below_step (qj HB.out HI0.out) hb); replace HI0 := q0 (IsSRd.below (qi HI0.out) hb); (try clear hb); (try clear hb2); (try clear hk); (try clear hi); (try clear ho0); have hcz93_0 : w92.cell? ⟨gb111, 0, none⟩ = some (.int .i64 a1_0) := (blk_cell BK111.out 0).trans rfl; have hcz93_1 : w92.cell? ⟨gb111, 1, none⟩ = some (.slice A1_1 l1_1.length c1_1) := (blk_cell BK111.out 1).trans rfl; have hfz93_0 := blk_frozen BK111.out 0; have hfz93_1 := blk_frozen BK111.out 1; obtain ⟨Ao94, co94, eo94⟩ := Kd.R_slice HO114.out; subst eo94) | ((with_reducible refine gate_callee (f := 38) rfl ?_); refine gl 9 Tryd.func38 #[.pointer (some ⟨g, 0, none⟩), .int .i64 6] ?_; (with_reducible refine (spec_l6Rd_pick.calls k g s0_0 s0_1 6 t101 t109 w0 _ ?side1 ?side2 A4.out).mono ?_); (case side1 => exact qi HI0.out); (case side2 => exact qj HB.out HI0.out); rintro e w95 ⟨rfl, hi, hb, hk⟩; refine ⟨_, rfl, ?_⟩; replace BK112 := q0 (kc hk BK112.out NB112_0.out); replace HO114 := q0 (Kd.R_mono (Kd.R_keep (IsSRd.apart (show IsSRd w0 _ g s0_0 s0_1 from qi HI0.out) (by (with_reducible repeat (first | apply Kd.R_alloc | apply Kd.R_drewN | apply Kd.R_drew)); exact (rf2 HO114.out BK111.out (fun _ h_ => h_.1))) (by decide)) hk (fun _ h => h.2)) (fun _ h => h.1)); replace BK111 := q0 (KeepBut.blk hk (g' := gb111) (o := .cells #[.int .i64 t100, .slice Ao94 t108.length co94] 24 (0, 0)) (by (with_reducible repeat (first | refine blk_drewN ?_ _ | refine blk_drew ?_ | refine blk_alloc ?_ _)); refine blk_put (cs := #[.int .i64 t100, .slice A1_1 l1_1.length c1_1]) ?_ 1 _ rfl; (with_reducible repeat (first | refine blk_drewN ?_ _ | refine blk_drew ?_ | refine blk_alloc ?_ _)); refine blk_put (cs := #[.int .i64 a1_0, .slice A1_1 l1_1.length c1_1]) ?_ 0 _ rfl; (with_reducible repeat (first | refine blk_drewN ?_ _ | refine blk_drew ?_ | refine blk_alloc ?_ _)); exact BK111.out) NB111_0.out (by simp)); replace HK := q0 (KeepBut.trans (qh HK.out) hk (.inl rfl)); replace HB := q0 (hb); replace HI0 := q0 (hi); (try clear hb); (try clear hb2); (try clear hk); (try clear hi); have hcz96_0 : w95.cell? ⟨gb111, 0, none⟩ = some (.int .i64 t100) := (blk_cell BK111.out 0).trans rfl; have hcz96_1 : w95.cell? ⟨gb111, 1, none⟩ = some (.slice Ao94 t108.length co94) := (blk_cell BK111.out 1).trans rfl; have hfz96_0 := blk_frozen BK111.out 0; have hfz96_1 := blk_frozen BK111.out 1; have hnb97 := NB112_0.out; have hnc97 := NB0_112.out; have hcz98_0 : w95.cell? ⟨gb112, 0, none⟩ = some (.int .i64 0) := (blk_cell BK112.out 0).trans rfl; have hcz98_1 : w95.cell? ⟨gb112, 1, none⟩ = some (.slice none 0 0) := (blk_cell BK112.out 1).trans rfl; have hfz98_0 := blk_frozen BK112.out 0; have hfz98_1 := blk_frozen BK112.out 1))
   refine bodyPost_ret (results_cell_row rfl _ _ gb112 24 #[.int .i64 t100, .slice Ao94 t108.length co94] (0, 0) _ rfl (by (with_reducible repeat (first | refine blk_drewN ?_ _ | refine blk_drew ?_ | refine blk_alloc ?_ _)); refine blk_put (cs := #[.int .i64 t100, .slice none 0 0]) ?_ 1 _ rfl; (with_reducible repeat (first | refine blk_drewN ?_ _ | refine blk_drew ?_ | refine blk_alloc ?_ _)); refine blk_put (cs := #[.int .i64 0, .slice none 0 0]) ?_ 0 _ rfl; (with_reducible repeat (first | refine blk_drewN ?_ _ | refine blk_drew ?_ | refine blk_alloc ?_ _)); exact BK112.out) Tryd.underlying24 rfl (by kernel_rfl)) rfl ?_
   exact ⟨_, qe, by (with_reducible repeat (first | apply Kd.R_alloc | apply Kd.R_drewN | apply Kd.R_drew)); exact rf2 HO114.out BK112.out (fun _ hk => trivial), qi HI0.out, qj HB.out HI0.out, by repeat (first | (with_reducible first | exact HK.out | apply KeepBut.set_ | apply keep_drewN | apply keep_drew | apply keep_alloc | refine keep_far ?_ GW111.out _ | refine keep_far ?_ GW112.out _) | exact HK.out)⟩
 rw [if_pos c65] at H
 have c65b0 : decide (0 < (t108.length : Int)) = true := decide_eq_true c65
 have c65b1 : decide (0 < t108.length) = true := decide_eq_true (by omega)
 clear c65
 replace H := Option.bind_eq_some_iff.mp H
 obtain ⟨⟨t106, t128⟩, A129, H⟩ := H
 have A66 := Aside0.mk A129
 clear A129
 by_cases c67 : 0 ≤ t106
 rotate_left
 · rw [if_neg c67] at H
   exact absurd H (by simp)
 rw [if_pos c67] at H
 have c67b0 : decide (0 ≤ t106) = true := decide_eq_true c67
 clear c67
 by_cases c68 : t106 < (t108.length : Int)
 rotate_left
 · rw [if_neg c68] at H
   exact absurd H (by simp)
 rw [if_pos c68] at H
 have c68b0 : decide (t106 < (t108.length : Int)) = true := decide_eq_true c68
 clear c68
 obtain ⟨y130, hy130⟩ : ∃ y_ : List (STie), y_ = (t108.set (t106 : Int).toNat (⟨(rd_TTie t108 t106).f1, (rd_TTie t108 t106).f0⟩ : STie)) := ⟨_, rfl⟩
 replace H : (some (t100, y130, t128)) = some (r1, r2, r3) := qy H hy130
 have Ny130 := Aside0.mk hy130
 clear hy130
 simp only [Option.some.injEq, Prod.mk.injEq] at H
 obtain ⟨rfl, rfl, rfl⟩ := H
 go_enter Tryd.func47, Tryd.ntmps47
 try go_wp2_with (first | ((with_reducible refine gate_dst (N := 3) rfl ?_); refine be 3 #[.int .i64 a1_0, .slice A1_1 l1_1.length c1_1] 24 ?_; intro gb111 hg w70 hbox hb; replace HB := q0 (below_step (qj HB.out HI0.out) hb); have BK111 := q0 (hbox); have GW111 := q0 ((by rw [hg]; exact (keep_size (w := w) (g := g) (row := none) (qh HK.out)) : w.heap.size ≤ gb111)); have GE111 := q0 ((Nat.le_trans HW0.out (by rw [hg]; exact (keep_size (w := w) (g := g) (row := none) (qh HK.out)) : w.heap.size ≤ gb111) : w0.heap.size ≤ gb111)); replace HK := q0 (KeepBut.trans (qh HK.out) (KeepBut.of_below hb g none) (.inl rfl)); have NB0_111 := q0 ((by rw [hg]; exact Nat.ne_of_lt (IsSRd.lt (show IsSRd w0 _ g s0_0 s0_1 from qi HI0.out)) : g ≠ gb111)); have NB111_0 := q0 ((by rw [hg]; exact Nat.ne_of_gt (IsSRd.lt (show IsSRd w0 _ g s0_0 s0_1 from qi HI0.out)) : gb111 ≠ g)); replace HI0 := q0 (IsSRd.below (qi HI0.out) hb); clear hb hbox hg) | ((with_reducible refine gate_dst (N := 4) rfl ?_); refine be 4 #[.int .i64 0, .slice none 0 0] 24 ?_; intro gb112 hg w71 hbox hb; replace HB := q0 (below_step (qj HB.out HI0.out) hb); have BK112 := q0 (hbox); have GW112 := q0 ((by rw [hg]; exact (keep_size (w := w) (g := g) (row := none) (qh HK.out)) : w.heap.size ≤ gb112)); have GE112 := q0 ((Nat.le_trans HW0.out (by rw [hg]; exact (keep_size (w := w) (g := g) (row := none) (qh HK.out)) : w.heap.size ≤ gb112) : w0.heap.size ≤ gb112)); replace HK := q0 (KeepBut.trans (qh HK.out) (KeepBut.of_below hb g none) (.inl rfl)); have NB111_112 := q0 ((bl BK111.out hg : gb111 ≠ gb112)); have NB112_111 := q0 ((bg BK111.out hg : gb112 ≠ gb111)); replace BK111 := q0 (kb BK111.out hb); have NB0_112 := q0 ((by rw [hg]; exact Nat.ne_of_lt (IsSRd.lt (show IsSRd w0 _ g s0_0 s0_1 from qi HI0.out)) : g ≠ gb112)); have NB112_0 := q0 ((by rw [hg]; exact Nat.ne_of_gt (IsSRd.lt (show IsSRd w0 _ g s0_0 s0_1 from qi HI0.out)) : gb112 ≠ g)); replace HI0 := q0 (IsSRd.below (qi HI0.out) hb); clear hb hbox hg; have hnb72 := NB111_112.out; have hnc72 := NB112_111.out; have hnb73 := NB111_0.out; have hnc73 := NB0_111.out; have hcz74_0 : w71.cell? ⟨gb111, 0, none⟩ = some (.int .i64 a1_0) := (blk_cell BK111.out 0).trans rfl; have hcz74_1 : w71.cell? ⟨gb111, 1, none⟩ = some (.slice A1_1 l1_1.length c1_1) := (blk_cell BK111.out 1).trans rfl; have hfz74_0 := blk_frozen BK111.out 0; have hfz74_1 := blk_frozen BK111.out 1) | ((with_reducible refine gate_callee (f := 60) rfl ?_); refine gl 7 Tryd.func60 #[.agg #[.int .i64 a1_0, .slice A1_1 l1_1.length c1_1]] ?_; (with_reducible refine (spec_l1Copy.calls a1_0 _ _ l1_1 t100 t108 _ ?side1 ?side2 A3.out).mono ?_); (case side1 => exact Kd.C_foot_now HR1_1.out (qh HK.out)); (case side2 => exact HC1_1.out); rintro e w75 ⟨v113, rfl, ho0, hb⟩; refine ⟨_, rfl, ?_⟩; have HO114 := q0 (Kd.R_lower ho0 (keep_size (w := w) (g := g) (row := none) (qh HK.out))); replace BK111 := q0 (kb BK111.out hb); replace BK112 := q0 (kb BK112.out hb); replace HK := q0 (KeepBut.trans (qh HK.out) (KeepBut.of_below hb g none) (.inl rfl)); replace HB := q0 (below_step (qj HB.out HI0.out) hb); replace HI0 := q0 (IsSRd.below (qi HI0.out) hb); (try clear hb); (try clear hb2); (try clear hk); (try clear hi); (try clear ho0); have hcz76_0 : w75.cell? ⟨gb111, 0, none⟩ = some (.int .i64 a1_0) := (blk_cell BK111.out 0).trans rfl; have hcz76_1 : w75.cell? ⟨gb111, 1, none⟩ = some (.slice A1_1 l1_1.length c1_1) := (blk_cell BK111.out 1).trans rfl; have hfz76_0 := blk_frozen BK111.out 0; have hfz76_1 := blk_frozen BK111.out 1; obtain ⟨Ao77, co77, eo77⟩ := Kd.R_slice HO114.out; subst eo77) | ((with_reducible refine gate_callee (f := 38) rfl ?_); refine gl 9 Tryd.func38 #[.pointer (some ⟨g, 0, none⟩), .int .i64 6] ?_; (with_reducible refine (spec_l6Rd_pick.calls k g s0_0 s0_1 6 t101 t109 w0 _ ?side1 ?side2 A4.out).mono ?_); (case side1 => exact qi HI0.out); (case side2 => exact qj HB.out HI0.out); rintro e w78 ⟨rfl, hi, hb, hk⟩; refine ⟨_, rfl, ?_⟩; replace BK112 := q0 (kc hk BK112.out NB112_0.out); replace HO114 := q0 (Kd.R_mono (Kd.R_keep (IsSRd.apart (show IsSRd w0 _ g s0_0 s0_1 from qi HI0.out) (by (with_reducible repeat (first | apply Kd.R_alloc | apply Kd.R_drewN | apply Kd.R_drew)); exact (rf2 HO114.out BK111.out (fun _ h_ => h_.1))) (by decide)) hk (fun _ h => h.2)) (fun _ h => h.1)); replace BK111 := q0 (KeepBut.blk hk (g' := gb111) (o := .cells #[.int .i64 t100, .slice Ao77 t108.length co77] 24 (0, 0)) (by (with_reducible repeat (first | refine blk_drewN ?_ _ | refine blk_drew ?_ | refine blk_alloc ?_ _)); refine blk_put (cs := #[.int .i64 t100, .slice A1_1 l1_1.length c1_1]) ?_ 1 _ rfl; (with_reducible repeat (first | refine blk_drewN ?_ _ | refine blk_drew ?_ | refine blk_alloc ?_ _)); refine blk_put (cs := #[.int .i64 a1_0, .slice A1_1 l1_1.length c1_1]) ?_ 0 _ rfl; (with_reducible repeat (first | refine blk_drewN ?_ _ | refine blk_drew ?_ | refine blk_alloc ?_ _)); exact BK111.out) NB111_0.out (by simp)); replace HK := q0 (KeepBut.trans (qh HK.out) hk (.inl rfl)); replace HB := q0 (hb); replace HI0 := q0 (hi); (try clear hb); (try clear hb2); (try clear hk); (try clear hi); have hcz79_0 : w78.cell? ⟨gb111, 0, none⟩ = some (.int .i64 t100) := (blk_cell BK111.out 0).trans rfl; have hcz79_1 : w78.cell? ⟨gb111, 1, none⟩ = some (.slice Ao77 t108.length co77) := (blk_cell BK111.out 1).trans rfl; have hfz79_0 := blk_frozen BK111.out 0; have hfz79_1 := blk_frozen BK111.out 1) | ((with_reducible refine gate_callee (f := 38) rfl ?_); refine gl 59 Tryd.func38 #[.pointer (some ⟨g, 0, none⟩), .int .i64 (t108.length : Int)] ?_; (with_reducible refine (spec_l6Rd_pick.calls k g s0_0 t109 (t108.length : Int) t106 t128 w0 _ ?side1 ?side2 A66.out).mono ?_); (case side1 => exact qi HI0.out); (case side2 => exact qj HB.out HI0.out); rintro e w80 ⟨rfl, hi, hb, hk⟩; refine ⟨_, rfl, ?_⟩; replace BK111 := q0 (kc hk BK111.out NB111_0.out); replace BK112 := q0 (kc hk BK112.out NB112_0.out); replace HO114 := q0 (Kd.R_mono (Kd.R_keep (IsSRd.apart (show IsSRd w0 _ g s0_0 t109 from qi HI0.out) (qr HO114.out) (by decide)) hk (fun _ h => h.2)) (fun _ h => h.1)); replace HK := q0 (KeepBut.trans (qh HK.out) hk (.inl rfl)); replace HB := q0 (hb); replace HI0 := q0 (hi); (try clear hb); (try clear hb2); (try clear hk); (try clear hi)))
 replace HO114 := q0 (Kd.R_drew HO114.out)
 replace BK111 := q0 (blk_drew BK111.out)
 replace BK112 := q0 (blk_drew BK112.out)
 replace HI0 := q0 (IsSRd.drew HI0.out)
 replace HK := q0 (keep_drew HK.out)
 replace HB := q0 (below_drew1 HB.out)
 have p131 : 0 ≤ (t106 : Int) := of_decide_eq_true qa
 have q131 : t106 < (t108.length : Int) := of_decide_eq_true qa
 obtain ⟨ad131, e131, hx131_0, hx131_1⟩ := at_TTie (Kd.R_reads' HO114.out).2.2 t106 p131 q131
 cases e131
 replace p131 := eq_true p131
 replace q131 := eq_true q131
 have p132 : 0 ≤ (t106 : Int) := of_decide_eq_true qa
 have q132 : t106 < (t108.length : Int) := of_decide_eq_true qa
 obtain ⟨ad132, e132, hx132_0, hx132_1⟩ := at_TTie (Kd.R_reads' HO114.out).2.2 t106 p132 q132
 obtain rfl : ad131 = ad132 := (by injection e132)
 replace p132 := eq_true p132
 replace q132 := eq_true q132
 have p69 : 0 ≤ (t106 : Int) := of_decide_eq_true qa
 have q69 : (t106 : Int) < ((t108.length : Int) : Int) := of_decide_eq_true qa
 obtain ⟨go69, co69, eo69, gb69, gl69, cl69, HG69⟩ := Kd.R_form HO114.out (by omega)
 (first | cases eo69 | (injection eo69 with ea_ en_ ec_; (first | subst ea_ | (injection ea_ with ea_; subst ea_)); subst ec_; clear en_))
 have GB69 := Aside0.mk gb69
 have GG69 := Aside0.mk HG69
 clear gb69 gl69 HG69
 (first | simp only [add_plain] at hx131_0 | skip)
 (first | simp only [add_plain] at hx131_1 | skip)
 (first | simp only [add_plain] at hx132_0 | skip)
 (first | simp only [add_plain] at hx132_1 | skip)
 obtain ⟨ce69, hcl69, hM69, hcc69, hfr69⟩ := Kd.R_elem HO114.out zTie (t106 : Int) p69 q69
 obtain rfl := kTie_openM hM69
 have hx69_0 : World.cell? _ ⟨go69, (t106 : Int).toNat * 2, none⟩ = some (.int .i64 ((rd_TTie t108 t106).f0)) := hcc69 0 _ rfl
 have hx69_1 : World.cell? _ ⟨go69, (t106 : Int).toNat * 2 + 1, none⟩ = some (.int .i64 ((rd_TTie t108 t106).f1)) := hcc69 1 _ rfl
 have hf69_0 : World.frozen? _ ⟨go69, (t106 : Int).toNat * 2, none⟩ = false := hfr69 0
 have hf69_1 : World.frozen? _ ⟨go69, (t106 : Int).toNat * 2 + 1, none⟩ = false := hfr69 1
 clear hcl69 hcc69 hfr69 hM69
 replace p69 := eq_true p69
 replace q69 := eq_true q69
 have HN0_go69 := q0 (show g ≠ go69 from by have h_ := IsSRd.own_ne HI0.out HO114.out (by decide); intro e_; exact h_ (by rw [e_]; rfl))
 obtain ⟨ce82, hcl82, hM82, hcc82, hfr82⟩ := Kd.R_elem HO114.out zTie (t106 : Int) (of_decide_eq_true qa) (by have h_ : (t106 : Int) < ((t108.length : Int) : Int) := of_decide_eq_true qa; first | exact h_ | (have e_ := (Kd.R_reads' HO114.out).1; omega) | simpa using h_)
 obtain rfl := kTie_openM hM82
 have HP82 := (Kd.R_seg HO114.out (t106 : Int) (of_decide_eq_true qa) (by have h_ : (t106 : Int) < ((t108.length : Int) : Int) := of_decide_eq_true qa; first | exact h_ | (have e_ := (Kd.R_reads' HO114.out).1; omega) | simpa using h_) (seg := [.int .i64 ((rd_TTie t108 t106).f1), .int .i64 ((rd_TTie t108 t106).f0)]) (j := 0) hcl82 hcc82 (show 2 ≤ 2 from by decide) (x' := (⟨(rd_TTie t108 t106).f1, (rd_TTie t108 t106).f0⟩ : STie)) (kTie_mkM _ _ _ (⟨(rd_TTie t108 t106).f1, (rd_TTie t108 t106).f0⟩ : STie) ) (fun _ hk => hk)).1
 rw [← Ny130.out] at HP82
 have HQ82 := Aside0.mk HP82
 clear hcl82 hcc82 hfr82 hM82 HP82
 refine start_ (n := 18) (S := fun w' => w'.cell? ⟨gb111, 0, none⟩ = some (.int .i64 t100) ∧ w'.cell? ⟨gb111, 1, none⟩ = some (.slice (some ⟨go69, 0, none⟩) t108.length co77) ∧ w'.cell? ⟨go69, ((t106).toNat * 2), none⟩ = some (.int .i64 ((rd_TTie t108 t106).f0)) ∧ w'.cell? ⟨go69, ((t106).toNat * 2) + 1, none⟩ = some (.int .i64 ((rd_TTie t108 t106).f1)) ∧ w'.cell? ⟨go69, ((t106).toNat * 2), none⟩ = some (.int .i64 ((rd_TTie t108 t106).f0)) ∧ w'.cell? ⟨go69, ((t106).toNat * 2) + 1, none⟩ = some (.int .i64 ((rd_TTie t108 t106).f1))) (ds := [17]) (ba 18 0) (by kernel_rfl) rfl (by kernel_rfl) ⟨(blk_cell BK111.out 0).trans rfl, (blk_cell BK111.out 1).trans rfl, hx131_0, hx131_1, hx132_0, hx132_1⟩ (fun hHeld => ?_); refine with_tabW spec_l71Spoil.tab13 spec_l71Spoil.bits13 (fun HT_ HW_ => ?_)
 generalize w80.drew = w81 at HO114 BK111 BK112 HI0 HK HB GG69 HQ82 hf69_0 hf69_1 hx131_0 hx131_1 hx132_0 hx132_1 hx69_0 hx69_1 hHeld ⊢
 refine pu 0 (some 60) (ba 18 1) HT_.out ?_
 refine pu 2 (some 62) (ba 18 5) HT_.out ?_
 refine pu 3 (some 63) (ba 18 13) HT_.out ?_
 refine pu 5 (some 65) (ba 18 45) HT_.out ?_
 refine pu 9 (some 69) (ba 18 557) HT_.out ?_
 refine pu 11 (some 71) (ba 18 2605) HT_.out ?_
 refine tu 1 (some 61) (ba 18 2607) HT_.out HW_.out hHeld ?_
 refine tu 4 (some 64) (ba 18 2623) HT_.out HW_.out hHeld ?_
 refine pu 6 (some 66) (ba 18 2687) HT_.out ?_
 refine pu 7 (some 67) (ba 18 2815) HT_.out ?_
 refine tu 8 (some 68) (ba 18 3071) HT_.out HW_.out hHeld ?_
 refine tu 10 (some 70) (ba 18 4095) HT_.out HW_.out hHeld ?_
 refine pu 12 (some 72) (ba 18 8191) HT_.out ?_
 refine pu 13 (some 73) (ba 18 16383) HT_.out ?_
 refine tu 14 (some 74) (ba 18 32767) HT_.out HW_.out hHeld ?_
 refine pu 15 (some 75) (ba 18 65535) HT_.out ?_
 refine pu 16 (some 76) (ba 18 131071) HT_.out ?_
 refine last_ (i := 17) (N := none) (ba 18 262143) rfl rfl (one_of HT_.out (by kernel_rfl)) (by decide) (fun K hK => ?_)
 refine skip_ (w1 := ?_) (by rfl) rfl ?_ ?_
 rotate_left
 · go_simp
   rfl
 refine hK.out _ _ ?_
 clear hK K
 refine done_ (done_of HT_.out (by kernel_rfl)) ?_
 have n0_ : Aside0 (Kd.R kTie 47 ((w81.setCell ⟨go69, (t106 : Int).toNat * 2, none⟩ (.int .i64 ((rd_TTie t108 t106).f1))).setCell ⟨go69, (t106 : Int).toNat * 2 + 1, none⟩ (.int .i64 ((rd_TTie t108 t106).f0))) w.heap.size (fun _ => True) (.slice (some ⟨go69, 0, none⟩) t108.length co77) y130) := ⟨by (with_reducible repeat (first | apply Kd.R_alloc | apply Kd.R_drewN | apply Kd.R_drew)); exact HQ82.out⟩
 have n1_ : Aside0 (((w81.setCell ⟨go69, (t106 : Int).toNat * 2, none⟩ (.int .i64 ((rd_TTie t108 t106).f1))).setCell ⟨go69, (t106 : Int).toNat * 2 + 1, none⟩ (.int .i64 ((rd_TTie t108 t106).f0))).heap[gb111]? = some (.cells #[.int .i64 t100, .slice (some ⟨go69, 0, none⟩) t108.length co77] 24 (0, 0))) := ⟨by (with_reducible repeat (first | refine blk_drewN ?_ _ | refine blk_drew ?_ | refine blk_alloc ?_ _)); refine blk_far ?_ (by have h_ := Kd.R_ne HO114.out BK111.out (by decide); intro e_; exact h_ (by rw [e_]; rfl)) _; (with_reducible repeat (first | refine blk_drewN ?_ _ | refine blk_drew ?_ | refine blk_alloc ?_ _)); refine blk_far ?_ (by have h_ := Kd.R_ne HO114.out BK111.out (by decide); intro e_; exact h_ (by rw [e_]; rfl)) _; (with_reducible repeat (first | refine blk_drewN ?_ _ | refine blk_drew ?_ | refine blk_alloc ?_ _)); exact BK111.out⟩
 have n2_ : Aside0 (((w81.setCell ⟨go69, (t106 : Int).toNat * 2, none⟩ (.int .i64 ((rd_TTie t108 t106).f1))).setCell ⟨go69, (t106 : Int).toNat * 2 + 1, none⟩ (.int .i64 ((rd_TTie t108 t106).f0))).heap[gb112]? = some (.cells #[.int .i64 0, .slice none 0 0] 24 (0, 0))) := ⟨by (with_reducible repeat (first | refine blk_drewN ?_ _ | refine blk_drew ?_ | refine blk_alloc ?_ _)); refine blk_far ?_ (by have h_ := Kd.R_ne HO114.out BK112.out (by decide); intro e_; exact h_ (by rw [e_]; rfl)) _; (with_reducible repeat (first | refine blk_drewN ?_ _ | refine blk_drew ?_ | refine blk_alloc ?_ _)); refine blk_far ?_ (by have h_ := Kd.R_ne HO114.out BK112.out (by decide); intro e_; exact h_ (by rw [e_]; rfl)) _; (with_reducible repeat (first | refine blk_drewN ?_ _ | refine blk_drew ?_ | refine blk_alloc ?_ _)); exact BK112.out⟩
 have n3_ : Aside0 (IsSRd w0 ((w81.setCell ⟨go69, (t106 : Int).toNat * 2, none⟩ (.int .i64 ((rd_TTie t108 t106).f1))).setCell ⟨go69, (t106 : Int).toNat * 2 + 1, none⟩ (.int .i64 ((rd_TTie t108 t106).f0))) g s0_0 t128) := ⟨by repeat (first | (with_reducible first | exact HI0.out | apply IsSRd.alloc | apply IsSRd.drewN | apply IsSRd.drew | apply IsSRd.set_1 | refine IsSRd.far ?_ HN0_go69.out _ | refine IsSRd.far ?_ HN0_go69.out _ | refine IsSRd.far ?_ NB0_111.out _ | refine IsSRd.far ?_ NB0_112.out _) | exact HI0.out)⟩
 have n4_ : Aside0 (KeepBut w ((w81.setCell ⟨go69, (t106 : Int).toNat * 2, none⟩ (.int .i64 ((rd_TTie t108 t106).f1))).setCell ⟨go69, (t106 : Int).toNat * 2 + 1, none⟩ (.int .i64 ((rd_TTie t108 t106).f0))) g none) := ⟨by repeat (first | (with_reducible first | exact HK.out | apply KeepBut.set_ | apply keep_drewN | apply keep_drew | apply keep_alloc | refine keep_far ?_ GB69.out _ | refine keep_far ?_ GB69.out _ | refine keep_far ?_ GW111.out _ | refine keep_far ?_ GW112.out _) | exact HK.out)⟩
 have n5_ : Aside0 (Below w0.heap.size w0 ((w81.setCell ⟨go69, (t106 : Int).toNat * 2, none⟩ (.int .i64 ((rd_TTie t108 t106).f1))).setCell ⟨go69, (t106 : Int).toNat * 2 + 1, none⟩ (.int .i64 ((rd_TTie t108 t106).f0)))) := ⟨by repeat (first | (with_reducible first | exact HB.out | apply below_alloc | apply pw_below_drewN | apply below_drew1 | refine below_set ?_ (Nat.le_trans HL.out GB69.out) | refine below_set ?_ (Nat.le_trans HL.out GB69.out) | refine below_set ?_ (IsSRd.ge HI0.out) | refine below_set ?_ GE111.out | refine below_set ?_ GE112.out) | exact HB.out)⟩
 (try clear HO114)
 (try clear BK111)
 (try clear BK112)
 (try clear HI0)
 (try clear HK)
 (try clear HB)
 generalize ((w81.setCell ⟨go69, (t106 : Int).toNat * 2, none⟩ (.int .i64 ((rd_TTie t108 t106).f1))).setCell ⟨go69, (t106 : Int).toNat * 2 + 1, none⟩ (.int .i64 ((rd_TTie t108 t106).f0))) = w83 at n0_ n1_ n2_ n3_ n4_ n5_ ⊢
 have HO114 := n0_
 have BK111 := n1_
 have BK112 := n2_
 have HI0 := n3_
 have HK := n4_
 have HB := n5_
 clear n0_ n1_ n2_ n3_ n4_ n5_
 have hcz84_0 : w83.cell? ⟨gb111, 0, none⟩ = some (.int .i64 t100) := (blk_cell BK111.out 0).trans rfl
 have hcz84_1 : w83.cell? ⟨gb111, 1, none⟩ = some (.slice (some ⟨go69, 0, none⟩) t108.length co77) := (blk_cell BK111.out 1).trans rfl
 have hfz84_0 := blk_frozen BK111.out 0
 have hfz84_1 := blk_frozen BK111.out 1
 have hnb85 := NB112_0.out
 have hnc85 := NB0_112.out
 have hcz86_0 : w83.cell? ⟨gb112, 0, none⟩ = some (.int .i64 0) := (blk_cell BK112.out 0).trans rfl
 have hcz86_1 : w83.cell? ⟨gb112, 1, none⟩ = some (.slice none 0 0) := (blk_cell BK112.out 1).trans rfl
 have hfz86_0 := blk_frozen BK112.out 0
 have hfz86_1 := blk_frozen BK112.out 1
 try go_wp2
 refine bodyPost_ret (results_cell_row rfl _ _ gb112 24 #[.int .i64 t100, .slice (some ⟨go69, 0, none⟩) t108.length co77] (0, 0) _ rfl (by (with_reducible repeat (first | refine blk_drewN ?_ _ | refine blk_drew ?_ | refine blk_alloc ?_ _)); refine blk_put (cs := #[.int .i64 t100, .slice none 0 0]) ?_ 1 _ rfl; (with_reducible repeat (first | refine blk_drewN ?_ _ | refine blk_drew ?_ | refine blk_alloc ?_ _)); refine blk_put (cs := #[.int .i64 0, .slice none 0 0]) ?_ 0 _ rfl; (with_reducible repeat (first | refine blk_drewN ?_ _ | refine blk_drew ?_ | refine blk_alloc ?_ _)); exact BK112.out) Tryd.underlying24 rfl (by kernel_rfl)) rfl ?_
 exact ⟨_, qe, by (with_reducible repeat (first | apply Kd.R_alloc | apply Kd.R_drewN | apply Kd.R_drew)); exact rf2 HO114.out BK112.out (fun _ hk => trivial), qi HI0.out, qj HB.out HI0.out, by repeat (first | (with_reducible first | exact HK.out | apply KeepBut.set_ | apply keep_drewN | apply keep_drew | apply keep_alloc | refine keep_far ?_ GW111.out _ | refine keep_far ?_ GW112.out _) | exact HK.out)⟩

set_option maxHeartbeats 8000000 in
set_option maxRecDepth 100000 in
theorem spec_l71Any.calls (k : Nat) (g : Nat) (s0_0 : List Int) (s0_1 : Int) (r1 : Int) (r2 : List (STie)) (r3 : Int) (w0 w : World) (hI : IsSRd w0 w g s0_0 s0_1) (hB : Below w0.heap.size w0 w) (h : spec_l71Any.f k s0_0 s0_1 = some (r1, r2, r3)) :
    Calls Tryd.prog 29 #[.pointer (some ⟨g, 0, none⟩)] w fun e w' => ∃ v1_ : Value, e = .returned (.agg #[.int .i64 r1, v1_]) ∧ Kd.R kTie 47 w' w.heap.size (fun _ => True) v1_ r2 ∧ IsSRd w0 w' g s0_0 r3 ∧ Below w0.heap.size w0 w' ∧ KeepBut w w' g none := by
 have hu24 := Tryd.underlying24
 have HI0 := Aside0.mk hI
 have HK := q0 (KeepBut.refl w g none)
 have HL := Aside0.mk hB.size
 clear hI
 have HW0 := Aside0.mk hB.size
 have HB := Aside0.mk hB
 clear hB
 have H : ((spec_l71Net.f k s0_0 s0_1).bind fun bt100 => ((spec_l6Rd_pick.f k s0_0 bt100.2.2 12).bind fun bt101 => (if bt101.1 = 0 then ((spec_l71Spoil.f k s0_0 bt101.2 bt100.1 bt100.2.1).bind fun bt102 => (some (bt102.1, bt102.2.1, bt102.2.2))) else (some (bt100.1, bt100.2.1, bt101.2))))) = some (r1, r2, r3) := h
 clear h
 replace H := Option.bind_eq_some_iff.mp H
 obtain ⟨⟨t100, t103, t104⟩, A20, H⟩ := H
 have A2 := Aside0.mk A20
 clear A20
 replace H := Option.bind_eq_some_iff.mp H
 obtain ⟨⟨t101, t105⟩, A30, H⟩ := H
 have A3 := Aside0.mk A30
 clear A30
 by_cases c4 : t101 = 0
 rotate_left
 · rw [if_neg c4] at H
   have c4b0 : (t101 == 0) = false := beq_eq_false_iff_ne.mpr c4
   have c4b1 : (t101 != 0) = true := bne_iff_ne.mpr c4
   simp only [Option.some.injEq, Prod.mk.injEq] at H
   obtain ⟨rfl, rfl, rfl⟩ := H
   go_enter Tryd.func29, Tryd.ntmps29
   go_wp2_with (first | ((with_reducible refine gate_dst (N := 2) rfl ?_); refine be 2 #[.int .i64 0, .slice none 0 0] 24 ?_; intro gb108 hg w19 hbox hb; replace HB := q0 (below_step (qj HB.out HI0.out) hb); have BK108 := q0 (hbox); have GW108 := q0 ((by rw [hg]; exact (keep_size (w := w) (g := g) (row := none) (qh HK.out)) : w.heap.size ≤ gb108)); have GE108 := q0 ((Nat.le_trans HW0.out (by rw [hg]; exact (keep_size (w := w) (g := g) (row := none) (qh HK.out)) : w.heap.size ≤ gb108) : w0.heap.size ≤ gb108)); replace HK := q0 (KeepBut.trans (qh HK.out) (KeepBut.of_below hb g none) (.inl rfl)); have NB0_108 := q0 ((by rw [hg]; exact Nat.ne_of_lt (IsSRd.lt (show IsSRd w0 _ g s0_0 s0_1 from qi HI0.out)) : g ≠ gb108)); have NB108_0 := q0 ((by rw [hg]; exact Nat.ne_of_gt (IsSRd.lt (show IsSRd w0 _ g s0_0 s0_1 from qi HI0.out)) : gb108 ≠ g)); replace HI0 := q0 (IsSRd.below (qi HI0.out) hb); clear hb hbox hg) | ((with_reducible refine gate_callee (f := 37) rfl ?_); refine gl 5 Tryd.func37 #[.pointer (some ⟨g, 0, none⟩)] ?_; (with_reducible refine (spec_l71Net.calls k g s0_0 s0_1 t100 t103 t104 w0 _ ?side1 ?side2 A2.out).mono ?_); (case side1 => exact qi HI0.out); (case side2 => exact qj HB.out HI0.out); rintro e w20 ⟨v109, rfl, ho0, hi, hb, hk⟩; refine ⟨_, rfl, ?_⟩; replace BK108 := q0 (kc hk BK108.out NB108_0.out); have HO110 := q0 (Kd.R_lower ho0 (keep_size (w := w) (g := g) (row := none) (qh HK.out))); replace HK := q0 (KeepBut.trans (qh HK.out) hk (.inl rfl)); replace HB := q0 (hb); replace HI0 := q0 (hi); (try clear hb); (try clear hb2); (try clear hk); (try clear hi); (try clear ho0)) | ((with_reducible refine gate_dst (N := 3) rfl ?_); refine be 3 #[.int .i64 0, .slice none 0 0] 24 ?_; intro gb111 hg w21 hbox hb; replace HO110 := q0 (Kd.R_below (qr HO110.out) hb); replace HB := q0 (below_step (qj HB.out HI0.out) hb); have BK111 := q0 (hbox); have GW111 := q0 ((by rw [hg]; exact (keep_size (w := w) (g := g) (row := none) (qh HK.out)) : w.heap.size ≤ gb111)); have GE111 := q0 ((Nat.le_trans HW0.out (by rw [hg]; exact (keep_size (w := w) (g := g) (row := none) (qh HK.out)) : w.heap.size ≤ gb111) : w0.heap.size ≤ gb111)); replace HK := q0 (KeepBut.trans (qh HK.out) (KeepBut.of_below hb g none) (.inl rfl)); have NB108_111 := q0 ((bl BK108.out hg : gb108 ≠ gb111)); have NB111_108 := q0 ((bg BK108.out hg : gb111 ≠ gb108)); replace BK108 := q0 (kb BK108.out hb); have NB0_111 := q0 ((by rw [hg]; exact Nat.ne_of_lt (IsSRd.lt (show IsSRd w0 _ g s0_0 t104 from qi HI0.out)) : g ≠ gb111)); have NB111_0 := q0 ((by rw [hg]; exact Nat.ne_of_gt (IsSRd.lt (show IsSRd w0 _ g s0_0 t104 from qi HI0.out)) : gb111 ≠ g)); replace HI0 := q0 (IsSRd.below (qi HI0.out) hb); clear hb hbox hg; have hnb22 := NB111_108.out; have hnc22 := NB108_111.out; have hnb23 := NB111_0.out; have hnc23 := NB0_111.out; have hcz24_0 : w21.cell? ⟨gb111, 0, none⟩ = some (.int .i64 0) := (blk_cell BK111.out 0).trans rfl; have hcz24_1 : w21.cell? ⟨gb111, 1, none⟩ = some (.slice none 0 0) := (blk_cell BK111.out 1).trans rfl; have hfz24_0 := blk_frozen BK111.out 0; have hfz24_1 := blk_frozen BK111.out 1; obtain ⟨Ao25, co25, eo25⟩ := Kd.R_slice HO110.out; subst eo25) | ((with_reducible refine gate_callee (f := 38) rfl ?_); refine gl 7 Tryd.func38 #[.pointer (some ⟨g, 0, none⟩), .int .i64 12] ?_; (with_reducible refine (spec_l6Rd_pick.calls k g s0_0 t104 12 t101 t105 w0 _ ?side1 ?side2 A3.out).mono ?_); (case side1 => exact qi HI0.out); (case side2 => exact qj HB.out HI0.out); rintro e w26 ⟨rfl, hi, hb, hk⟩; refine ⟨_, rfl, ?_⟩; replace BK108 := q0 (kc hk BK108.out NB108_0.out); replace HO110 := q0 (Kd.R_mono (Kd.R_keep (IsSRd.apart (show IsSRd w0 _ g s0_0 t104 from qi HI0.out) (by (with_reducible repeat (first | apply Kd.R_alloc | apply Kd.R_drewN | apply Kd.R_drew)); exact (rf2 HO110.out BK111.out (fun _ h_ => h_.1))) (by decide)) hk (fun _ h => h.2)) (fun _ h => h.1)); replace BK111 := q0 (KeepBut.blk hk (g' := gb111) (o := .cells #[.int .i64 t100, .slice Ao25 t103.length co25] 24 (0, 0)) (by (with_reducible repeat (first | refine blk_drewN ?_ _ | refine blk_drew ?_ | refine blk_alloc ?_ _)); refine blk_put (cs := #[.int .i64 t100, .slice none 0 0]) ?_ 1 _ rfl; (with_reducible repeat (first | refine blk_drewN ?_ _ | refine blk_drew ?_ | refine blk_alloc ?_ _)); refine blk_put (cs := #[.int .i64 0, .slice none 0 0]) ?_ 0 _ rfl; (with_reducible repeat (first | refine blk_drewN ?_ _ | refine blk_drew ?_ | refine blk_alloc ?_ _)); exact BK111.out) NB111_0.out (by simp)); replace HK := q0 (KeepBut.trans (qh HK.out) hk (.inl rfl)); replace HB := q0 (hb); replace HI0 := q0 (hi); (try clear hb); (try clear hb2); (try clear hk); (try clear hi); have hcz27_0 : w26.cell? ⟨gb111, 0, none⟩ = some (.int .i64 t100) := (blk_cell BK111.out 0).trans rfl; have hcz27_1 : w26.cell? ⟨gb111, 1, none⟩ = some (.slice Ao25 t103.length co25) := (blk_cell BK111.out 1).trans rfl; have hfz27_0 := blk_frozen BK111.out 0; have hfz27_1 := blk_frozen BK111.out 1; have hnb28 := NB108_0.out; have hnc28 := NB0_108.out; have hcz29_0 : w26.cell? ⟨gb108, 0, none⟩ = some (.int .i64 0) := (blk_cell BK108.out 0).trans rfl; have hcz29_1 : w26.cell? ⟨gb108, 1, none⟩ = some (.slice none 0 0) := (blk_cell BK108.out 1).trans rfl; have hfz29_0 := blk_frozen BK108.out 0; have hfz29_1 := blk_frozen BK108.out 1))
   refine bodyPost_ret (results_cell_row rfl _ _ gb108 24 #[.int .i64 t100, .slice Ao25 t103.length co25] (0, 0) _ rfl (by (with_reducible repeat (first | refine blk_drewN ?_ _ | refine blk_drew ?_ | refine blk_alloc ?_ _)); refine blk_put (cs := #[.int .i64 t100, .slice none 0 0]) ?_ 1 _ rfl; (with_reducible repeat (first | refine blk_drewN ?_ _ | refine blk_drew ?_ | refine blk_alloc ?_ _)); refine blk_put (cs := #[.int .i64 0, .slice none 0 0]) ?_ 0 _ rfl; (with_reducible repeat (first | refine blk_drewN ?_ _ | refine blk_drew ?_ | refine blk_alloc ?_ _)); exact BK108.out) Tryd.underlying24 rfl (by kernel_rfl)) rfl ?_
   exact ⟨_, qe, by (with_reducible repeat (first | apply Kd.R_alloc | apply Kd.R_drewN | apply Kd.R_drew)); exact rf2 HO110.out BK108.out (fun _ hk => trivial), qi HI0.out, qj HB.out HI0.out, by repeat (first | (with_reducible first | exact HK.out | apply KeepBut.set_ | apply keep_drewN | apply keep_drew | apply keep_alloc | refine keep_far ?_ GW108.out _ | refine keep_far ?_ GW111.out _) | exact HK.out)⟩
 rw [if_pos c4] at H
 have c4b0 : (t101 == 0) = true := beq_iff_eq.mpr c4
 have c4b1 : (t101 != 0) = false := bne_eq_false_iff_eq.mpr c4
 clear c4
 replace H := Option.bind_eq_some_iff.mp H
 obtain ⟨⟨t102, t106, t107⟩, A50, H⟩ := H
 have A5 := Aside0.mk A50
 clear A50
 simp only [Option.some.injEq, Prod.mk.injEq] at H
 obtain ⟨rfl, rfl, rfl⟩ := H
 go_enter Tryd.func29, Tryd.ntmps29
 go_wp2_with (first | ((with_reducible refine gate_dst (N := 2) rfl ?_); refine be 2 #[.int .i64 0, .slice none 0 0] 24 ?_; intro gb108 hg w6 hbox hb; replace HB := q0 (below_step (qj HB.out HI0.out) hb); have BK108 := q0 (hbox); have GW108 := q0 ((by rw [hg]; exact (keep_size (w := w) (g := g) (row := none) (qh HK.out)) : w.heap.size ≤ gb108)); have GE108 := q0 ((Nat.le_trans HW0.out (by rw [hg]; exact (keep_size (w := w) (g := g) (row := none) (qh HK.out)) : w.heap.size ≤ gb108) : w0.heap.size ≤ gb108)); replace HK := q0 (KeepBut.trans (qh HK.out) (KeepBut.of_below hb g none) (.inl rfl)); have NB0_108 := q0 ((by rw [hg]; exact Nat.ne_of_lt (IsSRd.lt (show IsSRd w0 _ g s0_0 s0_1 from qi HI0.out)) : g ≠ gb108)); have NB108_0 := q0 ((by rw [hg]; exact Nat.ne_of_gt (IsSRd.lt (show IsSRd w0 _ g s0_0 s0_1 from qi HI0.out)) : gb108 ≠ g)); replace HI0 := q0 (IsSRd.below (qi HI0.out) hb); clear hb hbox hg) | ((with_reducible refine gate_callee (f := 37) rfl ?_); refine gl 5 Tryd.func37 #[.pointer (some ⟨g, 0, none⟩)] ?_; (with_reducible refine (spec_l71Net.calls k g s0_0 s0_1 t100 t103 t104 w0 _ ?side1 ?side2 A2.out).mono ?_); (case side1 => exact qi HI0.out); (case side2 => exact qj HB.out HI0.out); rintro e w7 ⟨v109, rfl, ho0, hi, hb, hk⟩; refine ⟨_, rfl, ?_⟩; replace BK108 := q0 (kc hk BK108.out NB108_0.out); have HO110 := q0 (Kd.R_lower ho0 (keep_size (w := w) (g := g) (row := none) (qh HK.out))); replace HK := q0 (KeepBut.trans (qh HK.out) hk (.inl rfl)); replace HB := q0 (hb); replace HI0 := q0 (hi); (try clear hb); (try clear hb2); (try clear hk); (try clear hi); (try clear ho0)) | ((with_reducible refine gate_dst (N := 3) rfl ?_); refine be 3 #[.int .i64 0, .slice none 0 0] 24 ?_; intro gb111 hg w8 hbox hb; replace HO110 := q0 (Kd.R_below (qr HO110.out) hb); replace HB := q0 (below_step (qj HB.out HI0.out) hb); have BK111 := q0 (hbox); have GW111 := q0 ((by rw [hg]; exact (keep_size (w := w) (g := g) (row := none) (qh HK.out)) : w.heap.size ≤ gb111)); have GE111 := q0 ((Nat.le_trans HW0.out (by rw [hg]; exact (keep_size (w := w) (g := g) (row := none) (qh HK.out)) : w.heap.size ≤ gb111) : w0.heap.size ≤ gb111)); replace HK := q0 (KeepBut.trans (qh HK.out) (KeepBut.of_below hb g none) (.inl rfl)); have NB108_111 := q0 ((bl BK108.out hg : gb108 ≠ gb111)); have NB111_108 := q0 ((bg BK108.out hg : gb111 ≠ gb108)); replace BK108 := q0 (kb BK108.out hb); have NB0_111 := q0 ((by rw [hg]; exact Nat.ne_of_lt (IsSRd.lt (show IsSRd w0 _ g s0_0 t104 from qi HI0.out)) : g ≠ gb111)); have NB111_0 := q0 ((by rw [hg]; exact Nat.ne_of_gt (IsSRd.lt (show IsSRd w0 _ g s0_0 t104 from qi HI0.out)) : gb111 ≠ g)); replace HI0 := q0 (IsSRd.below (qi HI0.out) hb); clear hb hbox hg; have hnb9 := NB111_108.out; have hnc9 := NB108_111.out; have hnb10 := NB111_0.out; have hnc10 := NB0_111.out; have hcz11_0 : w8.cell? ⟨gb111, 0, none⟩ = some (.int .i64 0) := (blk_cell BK111.out 0).trans rfl; have hcz11_1 : w8.cell? ⟨gb111, 1, none⟩ = some (.slice none 0 0) := (blk_cell BK111.out 1).trans rfl; have hfz11_0 := blk_frozen BK111.out 0; have hfz11_1 := blk_frozen BK111.out 1; obtain ⟨Ao12, co12, eo12⟩ := Kd.R_slice HO110.out; subst eo12) | ((with_reducible refine gate_callee (f := 38) rfl ?_); refine gl 7 Tryd.func38 #[.pointer (some ⟨g, 0, none⟩), .int .i64 12] ?_; (with_reducible refine (spec_l6Rd_pick.calls k g s0_0 t104 12 t101 t105 w0 _ ?side1 ?side2 A3.out).mono ?_); (case side1 => exact qi HI0.out); (case side2 => exact qj HB.out HI0.out); rintro e w13 ⟨rfl, hi, hb, hk⟩; refine ⟨_, rfl, ?_⟩; replace BK108 := q0 (kc hk BK108.out NB108_0.out); replace HO110 := q0 (Kd.R_mono (Kd.R_keep (IsSRd.apart (show IsSRd w0 _ g s0_0 t104 from qi HI0.out) (by (with_reducible repeat (first | apply Kd.R_alloc | apply Kd.R_drewN | apply Kd.R_drew)); exact (rf2 HO110.out BK111.out (fun _ h_ => h_.1))) (by decide)) hk (fun _ h => h.2)) (fun _ h => h.1)); replace BK111 := q0 (KeepBut.blk hk (g' := gb111) (o := .cells #[.int .i64 t100, .slice Ao12 t103.length co12] 24 (0, 0)) (by (with_reducible repeat (first | refine blk_drewN ?_ _ | refine blk_drew ?_ | refine blk_alloc ?_ _)); refine blk_put (cs := #[.int .i64 t100, .slice none 0 0]) ?_ 1 _ rfl; (with_reducible repeat (first | refine blk_drewN ?_ _ | refine blk_drew ?_ | refine blk_alloc ?_ _)); refine blk_put (cs := #[.int .i64 0, .slice none 0 0]) ?_ 0 _ rfl; (with_reducible repeat (first | refine blk_drewN ?_ _ | refine blk_drew ?_ | refine blk_alloc ?_ _)); exact BK111.out) NB111_0.out (by simp)); replace HK := q0 (KeepBut.trans (qh HK.out) hk (.inl rfl)); replace HB := q0 (hb); replace HI0 := q0 (hi); (try clear hb); (try clear hb2); (try clear hk); (try clear hi); have hcz14_0 : w13.cell? ⟨gb111, 0, none⟩ = some (.int .i64 t100) := (blk_cell BK111.out 0).trans rfl; have hcz14_1 : w13.cell? ⟨gb111, 1, none⟩ = some (.slice Ao12 t103.length co12) := (blk_cell BK111.out 1).trans rfl; have hfz14_0 := blk_frozen BK111.out 0; have hfz14_1 := blk_frozen BK111.out 1) | ((with_reducible refine gate_callee (f := 47) rfl ?_); refine gl 11 Tryd.func47 #[.pointer (some ⟨g, 0, none⟩), .agg #[.int .i64 t100, .slice Ao12 t103.length co12]] ?_; (with_reducible refine (spec_l71Spoil.calls k g s0_0 t105 t100 _ _ t103 t102 t106 t107 w0 _ ?side1 ?side2 ?side3 ?side4 A5.out).mono ?_); (case side1 => exact qi HI0.out); (case side2 => exact qj HB.out HI0.out); (case side3 => exact Kd.C_foot_own (IsSRd.apart (show IsSRd w0 _ g s0_0 t105 from qi HI0.out) (qr HO110.out) (by decide)) (fun _ h_ => h_.2)); (case side4 => exact (Kd.R_reads' HO110.out).2.1); rintro e w15 ⟨v112, rfl, ho0, hi, hb, hk⟩; refine ⟨_, rfl, ?_⟩; replace BK108 := q0 (kc hk BK108.out NB108_0.out); replace BK111 := q0 (kc hk BK111.out NB111_0.out); have HO113 := q0 (Kd.R_lower (Kd.R_new' ho0 (Kd.R_lt (qr HO110.out))) (keep_size (w := w) (g := g) (row := none) (qh HK.out))); replace HO110 := q0 (Kd.R_mono (Kd.R_told (Kd.R_oldK (IsSRd.apart (show IsSRd w0 _ g s0_0 t105 from qi HI0.out) (qr HO110.out) (by decide)) hk) (Kd.R_base ho0)) (fun _ h_ => h_.1)); replace HK := q0 (KeepBut.trans (qh HK.out) hk (.inl rfl)); replace HB := q0 (hb); replace HI0 := q0 (hi); (try clear hb); (try clear hb2); (try clear hk); (try clear hi); (try clear ho0); have hnb16 := NB108_0.out; have hnc16 := NB0_108.out; have hcz17_0 : w15.cell? ⟨gb108, 0, none⟩ = some (.int .i64 0) := (blk_cell BK108.out 0).trans rfl; have hcz17_1 : w15.cell? ⟨gb108, 1, none⟩ = some (.slice none 0 0) := (blk_cell BK108.out 1).trans rfl; have hfz17_0 := blk_frozen BK108.out 0; have hfz17_1 := blk_frozen BK108.out 1; obtain ⟨Ao18, co18, eo18⟩ := Kd.R_slice HO113.out; subst eo18))
 refine bodyPost_ret (results_cell_row rfl _ _ gb108 24 #[.int .i64 t102, .slice Ao18 t106.length co18] (0, 0) _ rfl (by (with_reducible repeat (first | refine blk_drewN ?_ _ | refine blk_drew ?_ | refine blk_alloc ?_ _)); refine blk_put (cs := #[.int .i64 t102, .slice none 0 0]) ?_ 1 _ rfl; (with_reducible repeat (first | refine blk_drewN ?_ _ | refine blk_drew ?_ | refine blk_alloc ?_ _)); refine blk_put (cs := #[.int .i64 0, .slice none 0 0]) ?_ 0 _ rfl; (with_reducible repeat (first | refine blk_drewN ?_ _ | refine blk_drew ?_ | refine blk_alloc ?_ _)); exact BK108.out) Tryd.underlying24 rfl (by kernel_rfl)) rfl ?_
 exact ⟨_, qe, by (with_reducible repeat (first | apply Kd.R_alloc | apply Kd.R_drewN | apply Kd.R_drew)); exact rf2 HO113.out BK108.out (fun _ hk => trivial), qi HI0.out, qj HB.out HI0.out, by repeat (first | (with_reducible first | exact HK.out | apply KeepBut.set_ | apply keep_drewN | apply keep_drew | apply keep_alloc | refine keep_far ?_ GW108.out _ | refine keep_far ?_ GW111.out _) | exact HK.out)⟩

set_option maxHeartbeats 8000000 in
set_option maxRecDepth 100000 in
theorem spec_l6Open.calls (A0 : Option Addr) (c0 : Nat) (l0 : List Int) (r1 : List Int) (r2 : Int) (w0 w : World) (hB : Below w0.heap.size w0 w) (hr0 : Kd.C (Kd.int .u8) w0 A0 l0.length l0) (hc0 : l0.length ≤ c0) (h : spec_l6Open.f l0 = some (r1, r2)) :
    Calls Tryd.prog 30 #[.slice A0 l0.length c0] w fun e w' => ∃ g_ : Nat, e = .returned (.pointer (some ⟨g_, 0, none⟩)) ∧ IsSRd w0 w' g_ r1 r2 ∧ Below w0.heap.size w0 w' ∧ Below w.heap.size w w' := by
 have hu71 := Tryd.underlying71
 have HR0 := Aside0.mk hr0
 have HC0 := Aside0.mk hc0
 clear hr0 hc0
 have HBW := q0 (Below.refl w.heap.size w)
 have HW0 := Aside0.mk hB.size
 have HB := Aside0.mk hB
 clear hB
 have H : (if (l0.length : Int) > 2000 then (if 2000 ≤ (l0.length : Int) then (some (l0.take 2000, 0)) else (none)) else (some (l0, 0))) = some (r1, r2) := h
 clear h
 by_cases c2 : (l0.length : Int) > 2000
 rotate_left
 · rw [if_neg c2] at H
   have c2b0 : decide (2000 < (l0.length : Int)) = false := decide_eq_false c2
   have c2b1 : decide (2000 < l0.length) = false := decide_eq_false (by omega)
   clear c2
   simp only [Option.some.injEq, Prod.mk.injEq] at H
   obtain ⟨rfl, rfl⟩ := H
   go_enter Tryd.func30, Tryd.ntmps30
   go_wp2_with (first | ((with_reducible refine gate_dst (N := 10) rfl ?_); refine be 10 #[.slice A0 l0.length c0, .int .i64 0] 71 ?_; intro gb102 hg w6 hbox hb; replace HB := q0 (below_step (qb HB.out) hb); have BK102 := q0 (hbox); have GW102 := q0 ((by rw [hg]; exact (below_size (by repeat (first | (with_reducible first | exact HBW.out | apply below_alloc | apply pw_below_drewN | apply below_drew1) | exact HBW.out))) : w.heap.size ≤ gb102)); have GE102 := q0 ((Nat.le_trans HW0.out (by rw [hg]; exact (below_size (by repeat (first | (with_reducible first | exact HBW.out | apply below_alloc | apply pw_below_drewN | apply below_drew1) | exact HBW.out))) : w.heap.size ≤ gb102) : w0.heap.size ≤ gb102)); replace HBW := q0 (below_step HBW.out hb); clear hb hbox hg))
   go_ret
   exact ⟨_, rfl, (show IsSRd w0 _ gb102 l0 0 from ⟨_, _, qk BK102.out, GE102.out, HR0.out⟩), qb HB.out, by repeat (first | (with_reducible first | exact HBW.out | apply below_alloc | apply pw_below_drewN | apply below_drew1 | refine below_set ?_ GW102.out) | exact HBW.out)⟩
 rw [if_pos c2] at H
 have c2b0 : decide (2000 < (l0.length : Int)) = true := decide_eq_true c2
 have c2b1 : decide (2000 < l0.length) = true := decide_eq_true (by omega)
 clear c2
 by_cases c3 : 2000 ≤ (l0.length : Int)
 rotate_left
 · rw [if_neg c3] at H
   exact absurd H (by simp)
 rw [if_pos c3] at H
 have c3b0 := eq_true c3
 have c3b1 : decide (2000 ≤ (l0.length : Int)) = true := decide_eq_true c3
 clear c3
 simp only [Option.some.injEq, Prod.mk.injEq] at H
 obtain ⟨rfl, rfl⟩ := H
 obtain ⟨i04, hi04, _, hsz4, _⟩ := info_parts info5
 obtain ⟨hcut4, hA4, hC4⟩ := print_take_of (P := Tryd.prog) (Value.int .u8) 0 30 5 .i64 Tryd.underlying30 hi04 hsz4 A0 c0 l0 2000 (by omega) (of_decide_eq_true qa) HC0.out
 have HR100 := q0 (Kd.C_of_reads (h1 := fun _ => rfl) (hA4 _ (Kd.reads_of_C HR0.out)))
 have HC100 := Aside0.mk hC4
 clear hA4 hC4 hi04 hsz4
 go_enter Tryd.func30, Tryd.ntmps30
 go_wp2_with (first | ((with_reducible refine gate_dst (N := 10) rfl ?_); refine be 10 #[.slice A0 (l0.take 2000).length c0, .int .i64 0] 71 ?_; intro gb101 hg w5 hbox hb; replace HB := q0 (below_step (qb HB.out) hb); have BK101 := q0 (hbox); have GW101 := q0 ((by rw [hg]; exact (below_size (by repeat (first | (with_reducible first | exact HBW.out | apply below_alloc | apply pw_below_drewN | apply below_drew1) | exact HBW.out))) : w.heap.size ≤ gb101)); have GE101 := q0 ((Nat.le_trans HW0.out (by rw [hg]; exact (below_size (by repeat (first | (with_reducible first | exact HBW.out | apply below_alloc | apply pw_below_drewN | apply below_drew1) | exact HBW.out))) : w.heap.size ≤ gb101) : w0.heap.size ≤ gb101)); replace HBW := q0 (below_step HBW.out hb); clear hb hbox hg))
 go_ret
 exact ⟨_, rfl, (show IsSRd w0 _ gb101 (l0.take 2000) 0 from ⟨_, _, qk BK101.out, GE101.out, HR100.out⟩), qb HB.out, by repeat (first | (with_reducible first | exact HBW.out | apply below_alloc | apply pw_below_drewN | apply below_drew1 | refine below_set ?_ GW101.out) | exact HBW.out)⟩

set_option maxHeartbeats 8000000 in
set_option maxRecDepth 100000 in
theorem spec_DrawNetWrite.calls (k : Nat) (A0 : Option Addr) (c0 : Nat) (l0 : List Int) (r1 : Int) (r2 : List (STie)) (w : World) (hr0 : Kd.C (Kd.int .u8) w A0 l0.length l0) (hc0 : l0.length ≤ c0) (h : spec_DrawNetWrite.f k l0 = some (r1, r2)) :
    Calls Tryd.prog 13 #[.slice A0 l0.length c0] w fun e w' => ∃ v1_ : Value, e = .returned (.agg #[.int .i64 r1, v1_]) ∧ Kd.R kTie 47 w' w.heap.size (fun _ => True) v1_ r2 ∧ Below w.heap.size w w' := by
 have hu24 := Tryd.underlying24
 have HR0 := Aside0.mk hr0
 have HC0 := Aside0.mk hc0
 clear hr0 hc0
 have HB := q0 (Below.refl w.heap.size w)
 have H : ((spec_l6Open.f l0).bind fun bt100 => ((spec_l71Any.f k bt100.1 bt100.2).bind fun bt101 => (some (bt101.1, bt101.2.1)))) = some (r1, r2) := h
 clear h
 replace H := Option.bind_eq_some_iff.mp H
 obtain ⟨⟨t100, t102⟩, A20, H⟩ := H
 have A2 := Aside0.mk A20
 clear A20
 replace H := Option.bind_eq_some_iff.mp H
 obtain ⟨⟨t101, t103, t104⟩, A30, H⟩ := H
 have A3 := Aside0.mk A30
 clear A30
 simp only [Option.some.injEq, Prod.mk.injEq] at H
 obtain ⟨rfl, rfl⟩ := H
 go_enter Tryd.func13, Tryd.ntmps13
 go_wp2_with (first | ((with_reducible refine gate_dst (N := 2) rfl ?_); refine be 2 #[.int .i64 0, .slice none 0 0] 24 ?_; intro gb105 hg w4 hbox hb; have BK105 := q0 (hbox); have GW105 := q0 ((bs HB.out hg : w.heap.size ≤ gb105)); have GE105 := q0 ((bs HB.out hg : w.heap.size ≤ gb105)); replace HB := q0 (below_step (qb HB.out) hb); clear hb hbox hg) | ((with_reducible refine gate_callee (f := 30) rfl ?_); refine gl 4 Tryd.func30 #[.slice A0 l0.length c0] ?_; (with_reducible refine (spec_l6Open.calls _ _ l0 t100 t102 w _ ?side1 ?side2 ?side3 A2.out).mono ?_); (case side1 => exact qb HB.out); (case side2 => exact HR0.out); (case side3 => exact HC0.out); rintro e w5 ⟨g106, rfl, hi, hb, hb2⟩; refine ⟨_, rfl, ?_⟩; replace HB := q0 (hb); have HI106 := q0 (hi); have NB106_105 := q0 (IsSRd.ne_blk hi (kb BK105.out hb2) (by decide)); have NB105_106 := q0 (Ne.symm (IsSRd.ne_blk hi (kb BK105.out hb2) (by decide))); replace BK105 := q0 (kb BK105.out hb2); (try clear hb); (try clear hb2); (try clear hk); (try clear hi)) | ((with_reducible refine gate_callee (f := 29) rfl ?_); refine gl 5 Tryd.func29 #[.pointer (some ⟨g106, 0, none⟩)] ?_; (with_reducible refine (spec_l71Any.calls k g106 t100 t102 t101 t103 t104 w _ ?side1 ?side2 A3.out).mono ?_); (case side1 => exact qi HI106.out); (case side2 => exact qj HB.out HI106.out); rintro e w6 ⟨v107, rfl, ho0, hi, hb, hk⟩; refine ⟨_, rfl, ?_⟩; replace BK105 := q0 (kc hk BK105.out NB105_106.out); have HO108 := q0 (Kd.R_lower ho0 (below_size (qj HB.out HI106.out))); replace HB := q0 (hb); replace HI106 := q0 (hi); (try clear hb); (try clear hb2); (try clear hk); (try clear hi); (try clear ho0); have hnb7 := NB105_106.out; have hnc7 := NB106_105.out; have hcz8_0 : w6.cell? ⟨gb105, 0, none⟩ = some (.int .i64 0) := (blk_cell BK105.out 0).trans rfl; have hcz8_1 : w6.cell? ⟨gb105, 1, none⟩ = some (.slice none 0 0) := (blk_cell BK105.out 1).trans rfl; have hfz8_0 := blk_frozen BK105.out 0; have hfz8_1 := blk_frozen BK105.out 1; obtain ⟨Ao9, co9, eo9⟩ := Kd.R_slice HO108.out; subst eo9))
 refine bodyPost_ret (results_cell_row rfl _ _ gb105 24 #[.int .i64 t101, .slice Ao9 t103.length co9] (0, 0) _ rfl (by (with_reducible repeat (first | refine blk_drewN ?_ _ | refine blk_drew ?_ | refine blk_alloc ?_ _)); refine blk_put (cs := #[.int .i64 t101, .slice none 0 0]) ?_ 1 _ rfl; (with_reducible repeat (first | refine blk_drewN ?_ _ | refine blk_drew ?_ | refine blk_alloc ?_ _)); refine blk_put (cs := #[.int .i64 0, .slice none 0 0]) ?_ 0 _ rfl; (with_reducible repeat (first | refine blk_drewN ?_ _ | refine blk_drew ?_ | refine blk_alloc ?_ _)); exact BK105.out) Tryd.underlying24 rfl (by kernel_rfl)) rfl ?_
 exact ⟨_, qe, by (with_reducible repeat (first | apply Kd.R_alloc | apply Kd.R_drewN | apply Kd.R_drew)); exact rf2 HO108.out BK105.out (fun _ hk => trivial), qj HB.out HI106.out⟩

attribute [local go_sem high] eqATie
set_option maxHeartbeats 8000000 in
set_option maxRecDepth 100000 in
theorem laws_loTies.calls (k : Nat) (A0 : Option Addr) (c0 : Nat) (l0 : List (STie)) (A1 : Option Addr) (c1 : Nat) (l1 : List (STie)) (r : Bool) (w : World) (hr0 : Kd.C kTie w A0 l0.length l0) (hc0 : l0.length ≤ c0) (hr1 : Kd.C kTie w A1 l1.length l1) (hc1 : l1.length ≤ c1) (h : laws_loTies.f k l0 l1 = some r) :
    Calls Tryd.prog 36 #[.slice A0 l0.length c0, .slice A1 l1.length c1] w fun e w' => e = .returned (.bool r) ∧ Drawn0 w w' := by
 have hu47 := Tryd.underlying47
 have HR0 := Aside0.mk hr0
 have HC0 := Aside0.mk hc0
 clear hr0 hc0
 have HR1 := Aside0.mk hr1
 have HC1 := Aside0.mk hc1
 clear hr1 hc1
 have H : (if (l0.length : Int) = (l1.length : Int) then (laws_loTies.l0 k l0 l1 0) else (some false)) = some r := h
 clear h
 by_cases c3 : (l0.length : Int) = (l1.length : Int)
 rotate_left
 · rw [if_neg c3] at H
   have c3b0 : ((l0.length : Int) == (l1.length : Int)) = false := beq_eq_false_iff_ne.mpr c3
   have c3b1 : ((l0.length : Int) != (l1.length : Int)) = true := bne_iff_ne.mpr c3
   have c3b2 : (l0.length == l1.length) = false := by first | simpa using c3 | (simp at c3 ⊢; omega)
   obtain rfl := Option.some.inj H
   go_enter Tryd.func36, Tryd.ntmps36
   go_wp2
   repeat (go_quiet (fail); try go_wp2)
   go_ret
   exact ⟨by first | rfl | (simp; done) | (simp [*]; done), by repeat (first | exact Drawn0.refl _ | apply Drawn0.step)⟩
 rw [if_pos c3] at H
 have c3b0 : ((l0.length : Int) == (l1.length : Int)) = true := beq_iff_eq.mpr c3
 have c3b1 : ((l0.length : Int) != (l1.length : Int)) = false := bne_eq_false_iff_eq.mpr c3
 have c3b2 : (l0.length == l1.length) = true := by first | simpa using c3 | (simp at c3 ⊢; omega)
 clear c3
 have H' := Aside0.mk H
 clear H
 go_enter Tryd.func36, Tryd.ntmps36
 go_wp2
 repeat (go_quiet (fail); try go_wp2)
 go_loopg [5] k (fun kq v5 w' => ∃ (x5_1 : Int), v5 = .int .i64 x5_1 ∧ Aside0 (laws_loTies.l0 kq l0 l1 x5_1 = some r) ∧ Aside0 (kq ≤ k) ∧ Drawn0 w w')
 case atStart => exact ⟨(0), qs, H', ⟨Nat.le_refl _⟩, by repeat (first | exact Drawn0.refl _ | apply Drawn0.step)⟩
 clear H'
 try clear c1
 try clear p2
 try clear c3
 try clear c3b0
 try clear c3b1
 try clear c3b2
 obtain ⟨x5_1, rfl, HA, HK1, ⟨m1, rfl⟩⟩ := hrel
 rcases gk with _ | k1
 · exact absurd HA.out (by simp [laws_loTies.l0])
 have H := HA.out
 clear HA
 simp only [laws_loTies.l0] at H
 by_cases c4 : x5_1 < (l0.length : Int)
 rotate_left
 · rw [if_neg c4] at H
   have c4b0 : decide (x5_1 < (l0.length : Int)) = false := decide_eq_false c4
   clear c4
   obtain rfl := Option.some.inj H
   go_wp2
   repeat (go_quiet (fail); try go_wp2)
   go_ret
   exact ⟨by first | rfl | (simp; done) | (simp [*]; done), by repeat (first | exact Drawn0.refl _ | apply Drawn0.step)⟩
 rw [if_pos c4] at H
 have c4b0 : decide (x5_1 < (l0.length : Int)) = true := decide_eq_true c4
 clear c4
 by_cases c5 : 0 ≤ x5_1
 rotate_left
 · rw [if_neg c5] at H
   exact absurd H (by simp)
 rw [if_pos c5] at H
 have c5b0 : decide (0 ≤ x5_1) = true := decide_eq_true c5
 clear c5
 by_cases c6 : x5_1 < (l1.length : Int)
 rotate_left
 · rw [if_neg c6] at H
   exact absurd H (by simp)
 rw [if_pos c6] at H
 have c6b0 : decide (x5_1 < (l1.length : Int)) = true := decide_eq_true c6
 clear c6
 by_cases c7 : (!(((rd_TTie l0 x5_1).f0) == ((rd_TTie l1 x5_1).f0)) || (!(((rd_TTie l0 x5_1).f1) == ((rd_TTie l1 x5_1).f1)))) = true
 · rw [if_pos c7] at H
   have c7b0 : (!(((rd_TTie l0 x5_1).f0) == ((rd_TTie l1 x5_1).f0)) || (!(((rd_TTie l0 x5_1).f1) == ((rd_TTie l1 x5_1).f1)))) = true := c7
   clear c7
   obtain rfl := Option.some.inj H
   have p100 : 0 ≤ (x5_1 : Int) := of_decide_eq_true qa
   have q100 : x5_1 < (l0.length : Int) := of_decide_eq_true qa
   obtain ⟨ad100, e100, hx100_0, hx100_1⟩ := at_TTie HR0.out x5_1 p100 q100
   cases e100
   replace p100 := eq_true p100
   replace q100 := eq_true q100
   have p101 : 0 ≤ (x5_1 : Int) := of_decide_eq_true qa
   have q101 : x5_1 < (l1.length : Int) := of_decide_eq_true qa
   obtain ⟨ad101, e101, hx101_0, hx101_1⟩ := at_TTie HR1.out x5_1 p101 q101
   cases e101
   replace p101 := eq_true p101
   replace q101 := eq_true q101
   go_wp2
   repeat (go_quiet (fail); try go_wp2)
   go_ret
   exact ⟨by first | rfl | (simp; done) | (simp [*]; done), by repeat (first | exact Drawn0.refl _ | apply Drawn0.step)⟩
 rw [if_neg c7] at H
 have c7b0 : (!(((rd_TTie l0 x5_1).f0) == ((rd_TTie l1 x5_1).f0)) || (!(((rd_TTie l0 x5_1).f1) == ((rd_TTie l1 x5_1).f1)))) = false := by simpa using c7
 clear c7
 have H' := Aside0.mk H
 clear H
 have p100 : 0 ≤ (x5_1 : Int) := of_decide_eq_true qa
 have q100 : x5_1 < (l0.length : Int) := of_decide_eq_true qa
 obtain ⟨ad100, e100, hx100_0, hx100_1⟩ := at_TTie HR0.out x5_1 p100 q100
 cases e100
 replace p100 := eq_true p100
 replace q100 := eq_true q100
 have p101 : 0 ≤ (x5_1 : Int) := of_decide_eq_true qa
 have q101 : x5_1 < (l1.length : Int) := of_decide_eq_true qa
 obtain ⟨ad101, e101, hx101_0, hx101_1⟩ := at_TTie HR1.out x5_1 p101 q101
 cases e101
 replace p101 := eq_true p101
 replace q101 := eq_true q101
 go_wp2
 repeat (go_quiet (fail); try go_wp2)
 go_roundg k1
 case measure => have := HK1.out; omega
 case rel => exact ⟨(wrap64 (x5_1 + 1)), qs, H', ⟨by have := HK1.out; omega⟩, by repeat (first | exact Drawn0.refl _ | apply Drawn0.step)⟩

set_option maxHeartbeats 8000000 in
set_option maxRecDepth 100000 in
theorem laws_loNet.calls (k : Nat) (a0_0 : Int) (A0_1 : Option Addr) (c0_1 : Nat) (l0_1 : List (STie)) (a1_0 : Int) (A1_1 : Option Addr) (c1_1 : Nat) (l1_1 : List (STie)) (r : Bool) (w : World) (hr0_1 : Kd.C kTie w A0_1 l0_1.length l0_1) (hc0_1 : l0_1.length ≤ c0_1) (hr1_1 : Kd.C kTie w A1_1 l1_1.length l1_1) (hc1_1 : l1_1.length ≤ c1_1) (h : laws_loNet.f k a0_0 l0_1 a1_0 l1_1 = some r) :
    Calls Tryd.prog 18 #[.agg #[.int .i64 a0_0, .slice A0_1 l0_1.length c0_1], .agg #[.int .i64 a1_0, .slice A1_1 l1_1.length c1_1]] w fun e w' => e = .returned (.bool r) ∧ Below w.heap.size w w' := by
 have hu24 := Tryd.underlying24
 have HR0_1 := Aside0.mk hr0_1
 have HC0_1 := Aside0.mk hc0_1
 clear hr0_1 hc0_1
 have HR1_1 := Aside0.mk hr1_1
 have HC1_1 := Aside0.mk hc1_1
 clear hr1_1 hc1_1
 have HB := q0 (Below.refl w.heap.size w)
 have H : (if a0_0 = a1_0 then ((laws_loTies.f k l0_1 l1_1).bind fun t100 => (some t100)) else (some false)) = some r := h
 clear h
 by_cases c3 : a0_0 = a1_0
 rotate_left
 · rw [if_neg c3] at H
   have c3b0 : (a0_0 == a1_0) = false := beq_eq_false_iff_ne.mpr c3
   have c3b1 : (a0_0 != a1_0) = true := bne_iff_ne.mpr c3
   obtain rfl := Option.some.inj H
   go_enter Tryd.func18, Tryd.ntmps18
   go_wp2_with (first | ((with_reducible refine gate_dst (N := 2) rfl ?_); refine be 2 #[.int .i64 a0_0, .slice A0_1 l0_1.length c0_1] 24 ?_; intro gb101 hg w10 hbox hb; have BK101 := q0 (hbox); have GW101 := q0 ((bs HB.out hg : w.heap.size ≤ gb101)); have GE101 := q0 ((bs HB.out hg : w.heap.size ≤ gb101)); replace HB := q0 (below_step (qb HB.out) hb); clear hb hbox hg) | ((with_reducible refine gate_dst (N := 3) rfl ?_); refine be 3 #[.int .i64 a1_0, .slice A1_1 l1_1.length c1_1] 24 ?_; intro gb102 hg w11 hbox hb; have BK102 := q0 (hbox); have GW102 := q0 ((bs HB.out hg : w.heap.size ≤ gb102)); have GE102 := q0 ((bs HB.out hg : w.heap.size ≤ gb102)); replace HB := q0 (below_step (qb HB.out) hb); have NB101_102 := q0 ((bl BK101.out hg : gb101 ≠ gb102)); have NB102_101 := q0 ((bg BK101.out hg : gb102 ≠ gb101)); replace BK101 := q0 (kb BK101.out hb); clear hb hbox hg; have hnb12 := NB101_102.out; have hnc12 := NB102_101.out; have hcz13_0 : w11.cell? ⟨gb101, 0, none⟩ = some (.int .i64 a0_0) := (blk_cell BK101.out 0).trans rfl; have hcz13_1 : w11.cell? ⟨gb101, 1, none⟩ = some (.slice A0_1 l0_1.length c0_1) := (blk_cell BK101.out 1).trans rfl; have hfz13_0 := blk_frozen BK101.out 0; have hfz13_1 := blk_frozen BK101.out 1; have hcz14_0 : w11.cell? ⟨gb102, 0, none⟩ = some (.int .i64 a1_0) := (blk_cell BK102.out 0).trans rfl; have hcz14_1 : w11.cell? ⟨gb102, 1, none⟩ = some (.slice A1_1 l1_1.length c1_1) := (blk_cell BK102.out 1).trans rfl; have hfz14_0 := blk_frozen BK102.out 0; have hfz14_1 := blk_frozen BK102.out 1))
   go_ret
   exact ⟨qe, qb HB.out⟩
 rw [if_pos c3] at H
 have c3b0 : (a0_0 == a1_0) = true := beq_iff_eq.mpr c3
 have c3b1 : (a0_0 != a1_0) = false := bne_eq_false_iff_eq.mpr c3
 clear c3
 replace H := Option.bind_eq_some_iff.mp H
 obtain ⟨t100, A40, H⟩ := H
 have A4 := Aside0.mk A40
 clear A40
 obtain rfl := Option.some.inj H
 go_enter Tryd.func18, Tryd.ntmps18
 go_wp2_with (first | ((with_reducible refine gate_dst (N := 2) rfl ?_); refine be 2 #[.int .i64 a0_0, .slice A0_1 l0_1.length c0_1] 24 ?_; intro gb101 hg w5 hbox hb; have BK101 := q0 (hbox); have GW101 := q0 ((bs HB.out hg : w.heap.size ≤ gb101)); have GE101 := q0 ((bs HB.out hg : w.heap.size ≤ gb101)); replace HB := q0 (below_step (qb HB.out) hb); clear hb hbox hg) | ((with_reducible refine gate_dst (N := 3) rfl ?_); refine be 3 #[.int .i64 a1_0, .slice A1_1 l1_1.length c1_1] 24 ?_; intro gb102 hg w6 hbox hb; have BK102 := q0 (hbox); have GW102 := q0 ((bs HB.out hg : w.heap.size ≤ gb102)); have GE102 := q0 ((bs HB.out hg : w.heap.size ≤ gb102)); replace HB := q0 (below_step (qb HB.out) hb); have NB101_102 := q0 ((bl BK101.out hg : gb101 ≠ gb102)); have NB102_101 := q0 ((bg BK101.out hg : gb102 ≠ gb101)); replace BK101 := q0 (kb BK101.out hb); clear hb hbox hg; have hnb7 := NB101_102.out; have hnc7 := NB102_101.out; have hcz8_0 : w6.cell? ⟨gb101, 0, none⟩ = some (.int .i64 a0_0) := (blk_cell BK101.out 0).trans rfl; have hcz8_1 : w6.cell? ⟨gb101, 1, none⟩ = some (.slice A0_1 l0_1.length c0_1) := (blk_cell BK101.out 1).trans rfl; have hfz8_0 := blk_frozen BK101.out 0; have hfz8_1 := blk_frozen BK101.out 1; have hcz9_0 : w6.cell? ⟨gb102, 0, none⟩ = some (.int .i64 a1_0) := (blk_cell BK102.out 0).trans rfl; have hcz9_1 : w6.cell? ⟨gb102, 1, none⟩ = some (.slice A1_1 l1_1.length c1_1) := (blk_cell BK102.out 1).trans rfl; have hfz9_0 := blk_frozen BK102.out 0; have hfz9_1 := blk_frozen BK102.out 1) | (go_at_call 36; (with_reducible refine (laws_loTies.calls k _ _ l0_1 _ _ l1_1 t100 _ ?side1 ?side2 ?side3 ?side4 A4.out).mono ?_); (case side1 => exact qc (Kd.C_below HR0_1.out HB.out)); (case side2 => exact HC0_1.out); (case side3 => exact qc (Kd.C_below HR1_1.out HB.out)); (case side4 => exact HC1_1.out); rintro e w' ⟨rfl, ⟨nd, rfl⟩⟩))
 go_ret
 exact ⟨qe, qb HB.out⟩

set_option maxHeartbeats 8000000 in
set_option maxRecDepth 100000 in
theorem laws_FnNetOne.calls (k : Nat) (A0 : Option Addr) (c0 : Nat) (l0 : List Int) (A1 : Option Addr) (c1 : Nat) (l1 : List Int) (r : Bool) (w : World) (hr0 : Kd.C (Kd.int .u8) w A0 l0.length l0) (hc0 : l0.length ≤ c0) (hr1 : Kd.C (Kd.int .u8) w A1 l1.length l1) (hc1 : l1.length ≤ c1) (h : laws_FnNetOne.f k l0 l1 = some r) :
    Calls Tryd.prog 7 #[.slice A0 l0.length c0, .slice A1 l1.length c1] w fun e w' => e = .returned (.bool r) ∧ Below w.heap.size w w' := by
 have hu24 := Tryd.underlying24
 have HR0 := Aside0.mk hr0
 have HC0 := Aside0.mk hc0
 clear hr0 hc0
 have HR1 := Aside0.mk hr1
 have HC1 := Aside0.mk hc1
 clear hr1 hc1
 have HB := q0 (Below.refl w.heap.size w)
 have H : (if (l0.length : Int) > 1048576 then (laws_FnNetOne.j0 k l0 l1 true) else (laws_FnNetOne.j0 k l0 l1 (decide ((l1.length : Int) > 1048576)))) = some r := h
 clear h
 have HC3 := Aside0.mk H
 clear H
 go_enter Tryd.func7, Tryd.ntmps7
 go_upto_region 1 with (fail)
 go_cut [16] (fun v16 wc => ∃ (kq : Nat) (x16_2 : Bool), v16 = .bool x16_2 ∧ Aside0 (laws_FnNetOne.j0 kq l0 l1 x16_2 = some r) ∧ Aside0 (kq ≤ k) ∧ Aside0 (Below w.heap.size w wc))
 case first =>
   have H := HC3.out
   clear HC3
   by_cases c4 : (l0.length : Int) > 1048576
   · rw [if_pos c4] at H
     have c4b0 : decide (1048576 < (l0.length : Int)) = true := decide_eq_true c4
     have c4b1 : decide (1048576 < l0.length) = true := decide_eq_true (by omega)
     clear c4
     (first | rw [c4b0] | (simp only [i64_w, i32_w]; rw [c4b0]) | skip)
     have H' := Aside0.mk H
     clear H
     go_wp2
     go_meet
     case rel => exact ⟨_, (true), qs, H', ⟨by first | omega | exact Nat.le_refl _⟩, ⟨qb HB.out⟩⟩
   rw [if_neg c4] at H
   have c4b0 : decide (1048576 < (l0.length : Int)) = false := decide_eq_false c4
   have c4b1 : decide (1048576 < l0.length) = false := decide_eq_false (by omega)
   clear c4
   (first | rw [c4b0] | (simp only [i64_w, i32_w]; rw [c4b0]) | skip)
   have H' := Aside0.mk H
   clear H
   go_wp2
   go_meet
   case rel => exact ⟨_, (decide ((l1.length : Int) > 1048576)), qs, H', ⟨by first | omega | exact Nat.le_refl _⟩, ⟨qb HB.out⟩⟩
 clear HC3
 try clear c1
 try clear p2
 try clear c4
 try clear c4b0
 try clear c4b1
 obtain ⟨kq, x16_2, rfl, HA, HJ2, HB⟩ := hcut
 rcases kq with _ | kj2
 · exact absurd HA.out (by simp [laws_FnNetOne.j0])
 have H := HA.out
 clear HA
 simp only [laws_FnNetOne.j0] at H
 by_cases c5 : x16_2 = true
 · subst c5
   rw [if_pos rfl] at H
   obtain rfl := Option.some.inj H
   go_wp2
   go_ret
   exact ⟨qe, qb HB.out⟩
 replace c5 := Bool.eq_false_iff.mpr c5
 subst c5
 rw [if_neg nf] at H
 replace H := Option.bind_eq_some_iff.mp H
 obtain ⟨⟨t100, t109⟩, A60, H⟩ := H
 have A6 := Aside0.mk A60
 clear A60
 replace H := Option.bind_eq_some_iff.mp H
 obtain ⟨⟨t101, t110⟩, A70, H⟩ := H
 have A7 := Aside0.mk A70
 clear A70
 replace H := Option.bind_eq_some_iff.mp H
 obtain ⟨t102, A80, H⟩ := H
 have A8 := Aside0.mk A80
 clear A80
 replace H := Option.bind_eq_some_iff.mp H
 obtain ⟨t103, A90, H⟩ := H
 have A9 := Aside0.mk A90
 clear A90
 have HC10 := Aside0.mk H
 clear H
 go_upto_region 7 with (first | ((with_reducible refine gate_callee (f := 13) rfl ?_); refine gl 18 Tryd.func13 #[.slice A0 l0.length c0] ?_; (with_reducible refine (spec_DrawNetWrite.calls kj2 _ _ l0 t100 t109 _ ?side1 ?side2 A6.out).mono ?_); (case side1 => exact qc (Kd.C_below HR0.out HB.out)); (case side2 => exact HC0.out); rintro e w11 ⟨v111, rfl, ho0, hb⟩; refine ⟨_, rfl, ?_⟩; have HO112 := q0 (Kd.R_lower ho0 (below_size (qb HB.out))); replace HB := q0 (below_step (qb HB.out) hb); (try clear hb); (try clear hb2); (try clear hk); (try clear hi); (try clear ho0)) | ((with_reducible refine gate_dst (N := 5) rfl ?_); (try (refine gate_guard (by rfl) ?_; dsimp only)); refine be 5 #[.int .i64 0, .slice none 0 0] 24 ?_; intro gb113 hg w12 hbox hb; replace HO112 := q0 (Kd.R_below (qr HO112.out) hb); have BK113 := q0 (hbox); have GW113 := q0 ((bs HB.out hg : w.heap.size ≤ gb113)); have GE113 := q0 ((bs HB.out hg : w.heap.size ≤ gb113)); replace HB := q0 (below_step (qb HB.out) hb); clear hb hbox hg; have hcz13_0 : w12.cell? ⟨gb113, 0, none⟩ = some (.int .i64 0) := (blk_cell BK113.out 0).trans rfl; have hcz13_1 : w12.cell? ⟨gb113, 1, none⟩ = some (.slice none 0 0) := (blk_cell BK113.out 1).trans rfl; have hfz13_0 := blk_frozen BK113.out 0; have hfz13_1 := blk_frozen BK113.out 1; obtain ⟨Ao14, co14, eo14⟩ := Kd.R_slice HO112.out; subst eo14) | ((with_reducible refine gate_callee (f := 13) rfl ?_); refine gl 20 Tryd.func13 #[.slice A1 l1.length c1] ?_; (with_reducible refine (spec_DrawNetWrite.calls kj2 _ _ l1 t101 t110 _ ?side1 ?side2 A7.out).mono ?_); (case side1 => exact Kd.C_below HR1.out (qb HB.out)); (case side2 => exact HC1.out); rintro e w15 ⟨v114, rfl, ho0, hb⟩; refine ⟨_, rfl, ?_⟩; have HO115 := q0 (Kd.R_lower (Kd.R_new' ho0 (Kd.R_lt (by (with_reducible repeat (first | apply Kd.R_alloc | apply Kd.R_drewN | apply Kd.R_drew)); exact (rf2 HO112.out BK113.out (fun _ h_ => h_.1))))) (below_size (qb HB.out))); replace HO112 := q0 (Kd.R_elder' (by (with_reducible repeat (first | apply Kd.R_alloc | apply Kd.R_drewN | apply Kd.R_drew)); exact (rf2 HO112.out BK113.out (fun _ h_ => h_.1))) (Kd.R_base ho0) hb); replace BK113 := q0 (blk_below (g := gb113) (o := .cells #[.int .i64 t100, .slice Ao14 t109.length co14] 24 (0, 0)) (by (with_reducible repeat (first | refine blk_drewN ?_ _ | refine blk_drew ?_ | refine blk_alloc ?_ _)); refine blk_put (cs := #[.int .i64 t100, .slice none 0 0]) ?_ 1 _ rfl; (with_reducible repeat (first | refine blk_drewN ?_ _ | refine blk_drew ?_ | refine blk_alloc ?_ _)); refine blk_put (cs := #[.int .i64 0, .slice none 0 0]) ?_ 0 _ rfl; (with_reducible repeat (first | refine blk_drewN ?_ _ | refine blk_drew ?_ | refine blk_alloc ?_ _)); exact BK113.out) hb); replace HB := q0 (below_step (qb HB.out) hb); (try clear hb); (try clear hb2); (try clear hk); (try clear hi); (try clear ho0)) | ((with_reducible refine gate_dst (N := 6) rfl ?_); (try (refine gate_guard (by rfl) ?_; dsimp only)); refine be 6 #[.int .i64 0, .slice none 0 0] 24 ?_; intro gb116 hg w16 hbox hb; replace HO112 := q0 (Kd.R_below (qr HO112.out) hb); replace HO115 := q0 (Kd.R_below (qr HO115.out) hb); have BK116 := q0 (hbox); have GW116 := q0 ((bs HB.out hg : w.heap.size ≤ gb116)); have GE116 := q0 ((bs HB.out hg : w.heap.size ≤ gb116)); replace HB := q0 (below_step (qb HB.out) hb); have NB113_116 := q0 ((bl BK113.out hg : gb113 ≠ gb116)); have NB116_113 := q0 ((bg BK113.out hg : gb116 ≠ gb113)); replace BK113 := q0 (kb BK113.out hb); clear hb hbox hg; have hnb17 := NB116_113.out; have hnc17 := NB113_116.out; have hcz18_0 : w16.cell? ⟨gb116, 0, none⟩ = some (.int .i64 0) := (blk_cell BK116.out 0).trans rfl; have hcz18_1 : w16.cell? ⟨gb116, 1, none⟩ = some (.slice none 0 0) := (blk_cell BK116.out 1).trans rfl; have hfz18_0 := blk_frozen BK116.out 0; have hfz18_1 := blk_frozen BK116.out 1; obtain ⟨Ao19, co19, eo19⟩ := Kd.R_slice HO115.out; subst eo19; have hcz20_0 : w16.cell? ⟨gb113, 0, none⟩ = some (.int .i64 t100) := (blk_cell BK113.out 0).trans rfl; have hcz20_1 : w16.cell? ⟨gb113, 1, none⟩ = some (.slice Ao14 t109.length co14) := (blk_cell BK113.out 1).trans rfl; have hfz20_0 := blk_frozen BK113.out 0; have hfz20_1 := blk_frozen BK113.out 1) | ((with_reducible refine gate_callee (f := 14) rfl ?_); refine gl 22 Tryd.func14 #[.agg #[.int .i64 t100, .slice Ao14 t109.length co14]] ?_; (with_reducible refine (impl_NetWrite.calls kj2 t100 _ _ t109 t102 _ ?side1 ?side2 A8.out).mono ?_); (case side1 => refine (Kd.R_reads' (e := 47) (base := w.heap.size) (ok := fun k_ => (True ∧ some k_ ≠ (.slice Ao19 t110.length co19 : Value).ownBlock)) (n := t109.length) (c := co14) ?_).2.2; exact (by (with_reducible repeat (first | apply Kd.R_alloc | apply Kd.R_drewN | apply Kd.R_drew)); exact (rf2 HO112.out BK116.out (fun _ h_ => h_.1)))); (case side2 => exact (Kd.R_reads' HO112.out).2.1); rintro e w21 ⟨rfl, hb⟩; refine ⟨_, rfl, ?_⟩; replace HO112 := q0 (Kd.R_below (by (with_reducible repeat (first | apply Kd.R_alloc | apply Kd.R_drewN | apply Kd.R_drew)); exact (rf2 HO112.out BK116.out (fun _ h_ => h_.1))) hb); replace HO115 := q0 (Kd.R_below (by (with_reducible repeat (first | apply Kd.R_alloc | apply Kd.R_drewN | apply Kd.R_drew)); exact (rf2 HO115.out BK116.out (fun _ h_ => h_.1))) hb); replace BK113 := q0 (kf BK113.out hb); replace BK116 := q0 (blk_below (g := gb116) (o := .cells #[.int .i64 t101, .slice Ao19 t110.length co19] 24 (0, 0)) (by (with_reducible repeat (first | refine blk_drewN ?_ _ | refine blk_drew ?_ | refine blk_alloc ?_ _)); refine blk_put (cs := #[.int .i64 t101, .slice none 0 0]) ?_ 1 _ rfl; (with_reducible repeat (first | refine blk_drewN ?_ _ | refine blk_drew ?_ | refine blk_alloc ?_ _)); refine blk_put (cs := #[.int .i64 0, .slice none 0 0]) ?_ 0 _ rfl; (with_reducible repeat (first | refine blk_drewN ?_ _ | refine blk_drew ?_ | refine blk_alloc ?_ _)); exact BK116.out) hb); replace HB := q0 (below_step (qb HB.out) hb); (try clear hb); (try clear hb2); (try clear hk); (try clear hi); have hcz22_0 : w21.cell? ⟨gb116, 0, none⟩ = some (.int .i64 t101) := (blk_cell BK116.out 0).trans rfl; have hcz22_1 : w21.cell? ⟨gb116, 1, none⟩ = some (.slice Ao19 t110.length co19) := (blk_cell BK116.out 1).trans rfl; have hfz22_0 := blk_frozen BK116.out 0; have hfz22_1 := blk_frozen BK116.out 1) | ((with_reducible refine gate_callee (f := 14) rfl ?_); refine gl 24 Tryd.func14 #[.agg #[.int .i64 t101, .slice Ao19 t110.length co19]] ?_; (with_reducible refine (impl_NetWrite.calls kj2 t101 _ _ t110 t103 _ ?side1 ?side2 A9.out).mono ?_); (case side1 => exact qc (Kd.R_reads' HO115.out).2.2); (case side2 => exact (Kd.R_reads' HO115.out).2.1); rintro e w23 ⟨rfl, hb⟩; refine ⟨_, rfl, ?_⟩; replace HO112 := q0 (Kd.R_below (qr HO112.out) hb); replace HO115 := q0 (Kd.R_below (qr HO115.out) hb); replace BK113 := q0 (kb BK113.out hb); replace BK116 := q0 (kb BK116.out hb); replace HB := q0 (below_step (qb HB.out) hb); (try clear hb); (try clear hb2); (try clear hk); (try clear hi)))
 (try simp only [Act.put, List.setIfInBounds_toArray, List.set_cons_zero, List.set_cons_succ])
 go_cut [42] (fun v42 wc => ∃ (kq : Nat) (x42_9 : Bool), v42 = .bool x42_9 ∧ Aside0 (laws_FnNetOne.j1 kq t102 t103 x42_9 t100 t109 t101 t110 = some r) ∧ Aside0 (kq ≤ kj2) ∧ Aside0 (Kd.R kTie 47 wc w.heap.size (fun k_ => some k_ ≠ ((.slice Ao19 t110.length co19) : Value).ownBlock) (.slice Ao14 t109.length co14) t109) ∧ Aside0 (Kd.R kTie 47 wc w.heap.size (fun k_ => some k_ ≠ ((.slice Ao14 t109.length co14) : Value).ownBlock) (.slice Ao19 t110.length co19) t110) ∧ Aside0 (wc.heap[gb113]? = some (.cells #[.int .i64 t100, (.slice Ao14 t109.length co14)] 24 (0, 0))) ∧ Aside0 (wc.heap[gb116]? = some (.cells #[.int .i64 t101, (.slice Ao19 t110.length co19)] 24 (0, 0))) ∧ Aside0 (Below w.heap.size w wc))
 case first =>
   have H := HC10.out
   clear HC10
   replace H := Option.bind_eq_some_iff.mp H
   obtain ⟨t104, A117, H⟩ := H
   have A24 := Aside0.mk A117
   clear A117
   by_cases c25 : t102.toList = t104.toList
   rotate_left
   · rw [if_neg c25] at H
     have c25b0 : (t102.toList == t104.toList) = false := beq_eq_false_iff_ne.mpr c25
     have c25b1 : (t102.toList != t104.toList) = true := bne_iff_ne.mpr c25
     (first | rw [c25b0] | (simp only [i64_w, i32_w]; rw [c25b0]) | skip)
     have H' := Aside0.mk H
     clear H
     have hnb44 := NB113_116.out
     have hnc44 := NB116_113.out
     have hcz45_0 : w23.cell? ⟨gb113, 0, none⟩ = some (.int .i64 t100) := (blk_cell BK113.out 0).trans rfl
     have hcz45_1 : w23.cell? ⟨gb113, 1, none⟩ = some (.slice Ao14 t109.length co14) := (blk_cell BK113.out 1).trans rfl
     have hfz45_0 := blk_frozen BK113.out 0
     have hfz45_1 := blk_frozen BK113.out 1
     go_wp2_with (first | ((with_reducible refine gate_callee (f := 15) rfl ?_); refine gl 27 Tryd.func15 #[.agg #[.int .i64 t100, .slice Ao14 t109.length co14]] ?_; (with_reducible refine (spec_NetWrite.calls kj2 t100 _ _ t109 t104 _ ?side1 ?side2 A24.out).mono ?_); (case side1 => exact qc (Kd.R_reads' HO112.out).2.2); (case side2 => exact (Kd.R_reads' HO112.out).2.1); rintro e w46 ⟨rfl, hb⟩; refine ⟨_, rfl, ?_⟩; replace HO112 := q0 (Kd.R_below (qr HO112.out) hb); replace HO115 := q0 (Kd.R_below (qr HO115.out) hb); replace BK113 := q0 (kb BK113.out hb); replace BK116 := q0 (kb BK116.out hb); replace HB := q0 (below_step (qb HB.out) hb); (try clear hb); (try clear hb2); (try clear hk); (try clear hi)))
     go_meet
     case rel => exact ⟨_, (true), qs, H', ⟨by have := HJ2.out; first | omega | exact Nat.le_refl _⟩, ⟨by (with_reducible repeat (first | apply Kd.R_alloc | apply Kd.R_drewN | apply Kd.R_drew)); exact Kd.R_mono HO112.out (fun _ hk => hk.2)⟩, ⟨by (with_reducible repeat (first | apply Kd.R_alloc | apply Kd.R_drewN | apply Kd.R_drew)); exact Kd.R_mono HO115.out (fun _ hk => hk.2)⟩, ⟨qk BK113.out⟩, ⟨qk BK116.out⟩, ⟨qb HB.out⟩⟩
   rw [if_pos c25] at H
   have c25b0 : (t102.toList == t104.toList) = true := beq_iff_eq.mpr c25
   have c25b1 : (t102.toList != t104.toList) = false := bne_eq_false_iff_eq.mpr c25
   clear c25
   (first | rw [c25b0] | (simp only [i64_w, i32_w]; rw [c25b0]) | skip)
   replace H := Option.bind_eq_some_iff.mp H
   obtain ⟨t105, A118, H⟩ := H
   have A26 := Aside0.mk A118
   clear A118
   by_cases c27 : t103.toList = t105.toList
   rotate_left
   · rw [if_neg c27] at H
     have c27b0 : (t103.toList == t105.toList) = false := beq_eq_false_iff_ne.mpr c27
     have c27b1 : (t103.toList != t105.toList) = true := bne_iff_ne.mpr c27
     have H' := Aside0.mk H
     clear H
     have hnb39 := NB113_116.out
     have hnc39 := NB116_113.out
     have hcz40_0 : w23.cell? ⟨gb113, 0, none⟩ = some (.int .i64 t100) := (blk_cell BK113.out 0).trans rfl
     have hcz40_1 : w23.cell? ⟨gb113, 1, none⟩ = some (.slice Ao14 t109.length co14) := (blk_cell BK113.out 1).trans rfl
     have hfz40_0 := blk_frozen BK113.out 0
     have hfz40_1 := blk_frozen BK113.out 1
     go_wp2_with (first | ((with_reducible refine gate_callee (f := 15) rfl ?_); refine gl 27 Tryd.func15 #[.agg #[.int .i64 t100, .slice Ao14 t109.length co14]] ?_; (with_reducible refine (spec_NetWrite.calls kj2 t100 _ _ t109 t104 _ ?side1 ?side2 A24.out).mono ?_); (case side1 => exact qc (Kd.R_reads' HO112.out).2.2); (case side2 => exact (Kd.R_reads' HO112.out).2.1); rintro e w41 ⟨rfl, hb⟩; refine ⟨_, rfl, ?_⟩; replace HO112 := q0 (Kd.R_below (qr HO112.out) hb); replace HO115 := q0 (Kd.R_below (qr HO115.out) hb); replace BK113 := q0 (kb BK113.out hb); replace BK116 := q0 (kb BK116.out hb); replace HB := q0 (below_step (qb HB.out) hb); (try clear hb); (try clear hb2); (try clear hk); (try clear hi); have hcz42_0 : w41.cell? ⟨gb116, 0, none⟩ = some (.int .i64 t101) := (blk_cell BK116.out 0).trans rfl; have hcz42_1 : w41.cell? ⟨gb116, 1, none⟩ = some (.slice Ao19 t110.length co19) := (blk_cell BK116.out 1).trans rfl; have hfz42_0 := blk_frozen BK116.out 0; have hfz42_1 := blk_frozen BK116.out 1) | (go_at_call 15; (with_reducible refine (spec_NetWrite.calls kj2 t101 _ _ t110 t105 _ ?side1 ?side2 A26.out).mono ?_); (case side1 => exact qc (Kd.R_reads' HO115.out).2.2); (case side2 => exact (Kd.R_reads' HO115.out).2.1); rintro e w43 ⟨rfl, hb⟩; replace HO112 := q0 (Kd.R_below (qr HO112.out) hb); replace HO115 := q0 (Kd.R_below (qr HO115.out) hb); replace BK113 := q0 (kb BK113.out hb); replace BK116 := q0 (kb BK116.out hb); replace HB := q0 (below_step (qb HB.out) hb); (try clear hb); (try clear hb2); (try clear hk); (try clear hi)))
     go_meet
     case rel => exact ⟨_, (true), qs, H', ⟨by have := HJ2.out; first | omega | exact Nat.le_refl _⟩, ⟨by (with_reducible repeat (first | apply Kd.R_alloc | apply Kd.R_drewN | apply Kd.R_drew)); exact Kd.R_mono HO112.out (fun _ hk => hk.2)⟩, ⟨by (with_reducible repeat (first | apply Kd.R_alloc | apply Kd.R_drewN | apply Kd.R_drew)); exact Kd.R_mono HO115.out (fun _ hk => hk.2)⟩, ⟨qk BK113.out⟩, ⟨qk BK116.out⟩, ⟨qb HB.out⟩⟩
   rw [if_pos c27] at H
   have c27b0 : (t103.toList == t105.toList) = true := beq_iff_eq.mpr c27
   have c27b1 : (t103.toList != t105.toList) = false := bne_eq_false_iff_eq.mpr c27
   clear c27
   by_cases c28 : t102.toList = ([] : List UInt8)
   rotate_left
   · rw [if_neg c28] at H
     have c28b0 : (t102.toList == ([] : List UInt8)) = false := beq_eq_false_iff_ne.mpr c28
     have c28b1 : (t102.toList != ([] : List UInt8)) = true := bne_iff_ne.mpr c28
     have H' := Aside0.mk H
     clear H
     have hnb34 := NB113_116.out
     have hnc34 := NB116_113.out
     have hcz35_0 : w23.cell? ⟨gb113, 0, none⟩ = some (.int .i64 t100) := (blk_cell BK113.out 0).trans rfl
     have hcz35_1 : w23.cell? ⟨gb113, 1, none⟩ = some (.slice Ao14 t109.length co14) := (blk_cell BK113.out 1).trans rfl
     have hfz35_0 := blk_frozen BK113.out 0
     have hfz35_1 := blk_frozen BK113.out 1
     go_wp2_with (first | ((with_reducible refine gate_callee (f := 15) rfl ?_); refine gl 27 Tryd.func15 #[.agg #[.int .i64 t100, .slice Ao14 t109.length co14]] ?_; (with_reducible refine (spec_NetWrite.calls kj2 t100 _ _ t109 t104 _ ?side1 ?side2 A24.out).mono ?_); (case side1 => exact qc (Kd.R_reads' HO112.out).2.2); (case side2 => exact (Kd.R_reads' HO112.out).2.1); rintro e w36 ⟨rfl, hb⟩; refine ⟨_, rfl, ?_⟩; replace HO112 := q0 (Kd.R_below (qr HO112.out) hb); replace HO115 := q0 (Kd.R_below (qr HO115.out) hb); replace BK113 := q0 (kb BK113.out hb); replace BK116 := q0 (kb BK116.out hb); replace HB := q0 (below_step (qb HB.out) hb); (try clear hb); (try clear hb2); (try clear hk); (try clear hi); have hcz37_0 : w36.cell? ⟨gb116, 0, none⟩ = some (.int .i64 t101) := (blk_cell BK116.out 0).trans rfl; have hcz37_1 : w36.cell? ⟨gb116, 1, none⟩ = some (.slice Ao19 t110.length co19) := (blk_cell BK116.out 1).trans rfl; have hfz37_0 := blk_frozen BK116.out 0; have hfz37_1 := blk_frozen BK116.out 1) | (go_at_call 15; (with_reducible refine (spec_NetWrite.calls kj2 t101 _ _ t110 t105 _ ?side1 ?side2 A26.out).mono ?_); (case side1 => exact qc (Kd.R_reads' HO115.out).2.2); (case side2 => exact (Kd.R_reads' HO115.out).2.1); rintro e w38 ⟨rfl, hb⟩; replace HO112 := q0 (Kd.R_below (qr HO112.out) hb); replace HO115 := q0 (Kd.R_below (qr HO115.out) hb); replace BK113 := q0 (kb BK113.out hb); replace BK116 := q0 (kb BK116.out hb); replace HB := q0 (below_step (qb HB.out) hb); (try clear hb); (try clear hb2); (try clear hk); (try clear hi)))
     go_meet
     case rel => exact ⟨_, ((t103.toList == ([] : List UInt8))), qs, H', ⟨by have := HJ2.out; first | omega | exact Nat.le_refl _⟩, ⟨by (with_reducible repeat (first | apply Kd.R_alloc | apply Kd.R_drewN | apply Kd.R_drew)); exact Kd.R_mono HO112.out (fun _ hk => hk.2)⟩, ⟨by (with_reducible repeat (first | apply Kd.R_alloc | apply Kd.R_drewN | apply Kd.R_drew)); exact Kd.R_mono HO115.out (fun _ hk => hk.2)⟩, ⟨qk BK113.out⟩, ⟨qk BK116.out⟩, ⟨qb HB.out⟩⟩
   rw [if_pos c28] at H
   have c28b0 : (t102.toList == ([] : List UInt8)) = true := beq_iff_eq.mpr c28
   have c28b1 : (t102.toList != ([] : List UInt8)) = false := bne_eq_false_iff_eq.mpr c28
   clear c28
   have H' := Aside0.mk H
   clear H
   have hnb29 := NB113_116.out
   have hnc29 := NB116_113.out
   have hcz30_0 : w23.cell? ⟨gb113, 0, none⟩ = some (.int .i64 t100) := (blk_cell BK113.out 0).trans rfl
   have hcz30_1 : w23.cell? ⟨gb113, 1, none⟩ = some (.slice Ao14 t109.length co14) := (blk_cell BK113.out 1).trans rfl
   have hfz30_0 := blk_frozen BK113.out 0
   have hfz30_1 := blk_frozen BK113.out 1
   go_wp2_with (first | ((with_reducible refine gate_callee (f := 15) rfl ?_); refine gl 27 Tryd.func15 #[.agg #[.int .i64 t100, .slice Ao14 t109.length co14]] ?_; (with_reducible refine (spec_NetWrite.calls kj2 t100 _ _ t109 t104 _ ?side1 ?side2 A24.out).mono ?_); (case side1 => exact qc (Kd.R_reads' HO112.out).2.2); (case side2 => exact (Kd.R_reads' HO112.out).2.1); rintro e w31 ⟨rfl, hb⟩; refine ⟨_, rfl, ?_⟩; replace HO112 := q0 (Kd.R_below (qr HO112.out) hb); replace HO115 := q0 (Kd.R_below (qr HO115.out) hb); replace BK113 := q0 (kb BK113.out hb); replace BK116 := q0 (kb BK116.out hb); replace HB := q0 (below_step (qb HB.out) hb); (try clear hb); (try clear hb2); (try clear hk); (try clear hi); have hcz32_0 : w31.cell? ⟨gb116, 0, none⟩ = some (.int .i64 t101) := (blk_cell BK116.out 0).trans rfl; have hcz32_1 : w31.cell? ⟨gb116, 1, none⟩ = some (.slice Ao19 t110.length co19) := (blk_cell BK116.out 1).trans rfl; have hfz32_0 := blk_frozen BK116.out 0; have hfz32_1 := blk_frozen BK116.out 1) | (go_at_call 15; (with_reducible refine (spec_NetWrite.calls kj2 t101 _ _ t110 t105 _ ?side1 ?side2 A26.out).mono ?_); (case side1 => exact qc (Kd.R_reads' HO115.out).2.2); (case side2 => exact (Kd.R_reads' HO115.out).2.1); rintro e w33 ⟨rfl, hb⟩; replace HO112 := q0 (Kd.R_below (qr HO112.out) hb); replace HO115 := q0 (Kd.R_below (qr HO115.out) hb); replace BK113 := q0 (kb BK113.out hb); replace BK116 := q0 (kb BK116.out hb); replace HB := q0 (below_step (qb HB.out) hb); (try clear hb); (try clear hb2); (try clear hk); (try clear hi)))
   go_meet
   case rel => exact ⟨_, (true), qs, H', ⟨by have := HJ2.out; first | omega | exact Nat.le_refl _⟩, ⟨by (with_reducible repeat (first | apply Kd.R_alloc | apply Kd.R_drewN | apply Kd.R_drew)); exact Kd.R_mono HO112.out (fun _ hk => hk.2)⟩, ⟨by (with_reducible repeat (first | apply Kd.R_alloc | apply Kd.R_drewN | apply Kd.R_drew)); exact Kd.R_mono HO115.out (fun _ hk => hk.2)⟩, ⟨qk BK113.out⟩, ⟨qk BK116.out⟩, ⟨qb HB.out⟩⟩
 clear HC10
 try clear c1
 try clear c2
 try clear p2
 try clear c3
 try clear c4
 try clear c4b0
 try clear c4b1
 try clear c5
 try clear c7
 try clear c13
 try clear c14
 try clear c15
 try clear c17
 try clear c25
 try clear c25b0
 try clear c25b1
 try clear c27
 try clear c27b0
 try clear c27b1
 try clear c28
 try clear c28b0
 try clear c28b1
 try clear c29
 try clear c34
 try clear c39
 try clear c44
 try clear hcz13_0
 try clear hcz13_1
 try clear hcz18_0
 try clear hcz18_1
 try clear hcz20_0
 try clear hcz20_1
 try clear hcz22_0
 try clear hcz22_1
 try clear hcz30_0
 try clear hcz30_1
 try clear hcz32_0
 try clear hcz32_1
 try clear hcz35_0
 try clear hcz35_1
 try clear hcz37_0
 try clear hcz37_1
 try clear hcz40_0
 try clear hcz40_1
 try clear hcz42_0
 try clear hcz42_1
 try clear hcz45_0
 try clear hcz45_1
 try clear hfz13_0
 try clear hfz13_1
 try clear hfz18_0
 try clear hfz18_1
 try clear hfz20_0
 try clear hfz20_1
 try clear hfz22_0
 try clear hfz22_1
 try clear hfz30_0
 try clear hfz30_1
 try clear hfz32_0
 try clear hfz32_1
 try clear hfz35_0
 try clear hfz35_1
 try clear hfz37_0
 try clear hfz37_1
 try clear hfz40_0
 try clear hfz40_1
 try clear hfz42_0
 try clear hfz42_1
 try clear hfz45_0
 try clear hfz45_1
 try clear p2
 obtain ⟨kq, x42_9, rfl, HA, HJ9, HO_101001, HO_102001, BK113, BK116, HB⟩ := hcut
 rcases kq with _ | kj9
 · exact absurd HA.out (by simp [laws_FnNetOne.j1])
 have H := HA.out
 clear HA
 simp only [laws_FnNetOne.j1] at H
 by_cases c47 : x42_9 = true
 rotate_left
 · replace c47 := Bool.eq_false_iff.mpr c47
   subst c47
   rw [if_neg nf] at H
   replace H := Option.bind_eq_some_iff.mp H
   obtain ⟨t108, A121, H⟩ := H
   have A59 := Aside0.mk A121
   clear A121
   obtain rfl := Option.some.inj H
   have hnb60 := NB113_116.out
   have hnc60 := NB116_113.out
   have hcz61_0 : wc.cell? ⟨gb113, 0, none⟩ = some (.int .i64 t100) := (blk_cell BK113.out 0).trans rfl
   have hcz61_1 : wc.cell? ⟨gb113, 1, none⟩ = some (.slice Ao14 t109.length co14) := (blk_cell BK113.out 1).trans rfl
   have hfz61_0 := blk_frozen BK113.out 0
   have hfz61_1 := blk_frozen BK113.out 1
   have hcz62_0 : wc.cell? ⟨gb116, 0, none⟩ = some (.int .i64 t101) := (blk_cell BK116.out 0).trans rfl
   have hcz62_1 : wc.cell? ⟨gb116, 1, none⟩ = some (.slice Ao19 t110.length co19) := (blk_cell BK116.out 1).trans rfl
   have hfz62_0 := blk_frozen BK116.out 0
   have hfz62_1 := blk_frozen BK116.out 1
   go_wp2_with (first | ((with_reducible refine gate_callee (f := 18) rfl ?_); refine gl 58 Tryd.func18 #[.agg #[.int .i64 t100, .slice Ao14 t109.length co14], .agg #[.int .i64 t101, .slice Ao19 t110.length co19]] ?_; (with_reducible refine (laws_loNet.calls kj9 t100 _ _ t109 t101 _ _ t110 t108 _ ?side1 ?side2 ?side3 ?side4 A59.out).mono ?_); (case side1 => exact qc (Kd.R_reads' HO_101001.out).2.2); (case side2 => exact (Kd.R_reads' HO_101001.out).2.1); (case side3 => exact qc (Kd.R_reads' HO_102001.out).2.2); (case side4 => exact (Kd.R_reads' HO_102001.out).2.1); rintro e w63 ⟨rfl, hb⟩; refine ⟨_, rfl, ?_⟩; replace HO_101001 := q0 (Kd.R_below (qr HO_101001.out) hb); replace HO_102001 := q0 (Kd.R_below (qr HO_102001.out) hb); replace BK113 := q0 (kb BK113.out hb); replace BK116 := q0 (kb BK116.out hb); replace HB := q0 (below_step (qb HB.out) hb); (try clear hb); (try clear hb2); (try clear hk); (try clear hi)))
   go_ret
   exact ⟨qe, qb HB.out⟩
 subst c47
 rw [if_pos rfl] at H
 replace H := Option.bind_eq_some_iff.mp H
 obtain ⟨t106, A119, H⟩ := H
 have A48 := Aside0.mk A119
 clear A119
 by_cases c49 : t102.toList = t106.toList
 rotate_left
 · rw [if_neg c49] at H
   have c49b0 : (t102.toList == t106.toList) = false := beq_eq_false_iff_ne.mpr c49
   have c49b1 : (t102.toList != t106.toList) = true := bne_iff_ne.mpr c49
   obtain rfl := Option.some.inj H
   have hnb56 := NB113_116.out
   have hnc56 := NB116_113.out
   have hcz57_0 : wc.cell? ⟨gb113, 0, none⟩ = some (.int .i64 t100) := (blk_cell BK113.out 0).trans rfl
   have hcz57_1 : wc.cell? ⟨gb113, 1, none⟩ = some (.slice Ao14 t109.length co14) := (blk_cell BK113.out 1).trans rfl
   have hfz57_0 := blk_frozen BK113.out 0
   have hfz57_1 := blk_frozen BK113.out 1
   go_wp2_with (first | ((with_reducible refine gate_callee (f := 15) rfl ?_); refine gl 45 Tryd.func15 #[.agg #[.int .i64 t100, .slice Ao14 t109.length co14]] ?_; (with_reducible refine (spec_NetWrite.calls kj9 t100 _ _ t109 t106 _ ?side1 ?side2 A48.out).mono ?_); (case side1 => exact qc (Kd.R_reads' HO_101001.out).2.2); (case side2 => exact (Kd.R_reads' HO_101001.out).2.1); rintro e w58 ⟨rfl, hb⟩; refine ⟨_, rfl, ?_⟩; replace HO_101001 := q0 (Kd.R_below (qr HO_101001.out) hb); replace HO_102001 := q0 (Kd.R_below (qr HO_102001.out) hb); replace BK113 := q0 (kb BK113.out hb); replace BK116 := q0 (kb BK116.out hb); replace HB := q0 (below_step (qb HB.out) hb); (try clear hb); (try clear hb2); (try clear hk); (try clear hi)))
   go_ret
   exact ⟨qe, qb HB.out⟩
 rw [if_pos c49] at H
 have c49b0 : (t102.toList == t106.toList) = true := beq_iff_eq.mpr c49
 have c49b1 : (t102.toList != t106.toList) = false := bne_eq_false_iff_eq.mpr c49
 clear c49
 replace H := Option.bind_eq_some_iff.mp H
 obtain ⟨t107, A120, H⟩ := H
 have A50 := Aside0.mk A120
 clear A120
 obtain rfl := Option.some.inj H
 have hnb51 := NB113_116.out
 have hnc51 := NB116_113.out
 have hcz52_0 : wc.cell? ⟨gb113, 0, none⟩ = some (.int .i64 t100) := (blk_cell BK113.out 0).trans rfl
 have hcz52_1 : wc.cell? ⟨gb113, 1, none⟩ = some (.slice Ao14 t109.length co14) := (blk_cell BK113.out 1).trans rfl
 have hfz52_0 := blk_frozen BK113.out 0
 have hfz52_1 := blk_frozen BK113.out 1
 go_wp2_with (first | ((with_reducible refine gate_callee (f := 15) rfl ?_); refine gl 45 Tryd.func15 #[.agg #[.int .i64 t100, .slice Ao14 t109.length co14]] ?_; (with_reducible refine (spec_NetWrite.calls kj9 t100 _ _ t109 t106 _ ?side1 ?side2 A48.out).mono ?_); (case side1 => exact qc (Kd.R_reads' HO_101001.out).2.2); (case side2 => exact (Kd.R_reads' HO_101001.out).2.1); rintro e w53 ⟨rfl, hb⟩; refine ⟨_, rfl, ?_⟩; replace HO_101001 := q0 (Kd.R_below (qr HO_101001.out) hb); replace HO_102001 := q0 (Kd.R_below (qr HO_102001.out) hb); replace BK113 := q0 (kb BK113.out hb); replace BK116 := q0 (kb BK116.out hb); replace HB := q0 (below_step (qb HB.out) hb); (try clear hb); (try clear hb2); (try clear hk); (try clear hi); have hcz54_0 : w53.cell? ⟨gb116, 0, none⟩ = some (.int .i64 t101) := (blk_cell BK116.out 0).trans rfl; have hcz54_1 : w53.cell? ⟨gb116, 1, none⟩ = some (.slice Ao19 t110.length co19) := (blk_cell BK116.out 1).trans rfl; have hfz54_0 := blk_frozen BK116.out 0; have hfz54_1 := blk_frozen BK116.out 1) | (go_at_call 15; (with_reducible refine (spec_NetWrite.calls kj9 t101 _ _ t110 t107 _ ?side1 ?side2 A50.out).mono ?_); (case side1 => exact qc (Kd.R_reads' HO_102001.out).2.2); (case side2 => exact (Kd.R_reads' HO_102001.out).2.1); rintro e w55 ⟨rfl, hb⟩; replace HO_101001 := q0 (Kd.R_below (qr HO_101001.out) hb); replace HO_102001 := q0 (Kd.R_below (qr HO_102001.out) hb); replace BK113 := q0 (kb BK113.out hb); replace BK116 := q0 (kb BK116.out hb); replace HB := q0 (below_step (qb HB.out) hb); (try clear hb); (try clear hb2); (try clear hk); (try clear hi)))
 go_ret
 exact ⟨qe, qb HB.out⟩

theorem laws_FnNetOne.walk (P : laws_FnNetOne.Pure) (a0 : Option Addr) (len0 cap0 : Nat) (z0 : List Int) (a1 : Option Addr) (len1 cap1 : Nat) (z1 : List Int) (w : World) (w0 : (a0 = none ∧ len0 = 0 ∧ cap0 = 0 ∧ z0 = []) ∨ ∃ x, a0 = some x ∧ len0 ≤ cap0 ∧ cap0 ≤ maxLen ∧ z0.length = cap0 ∧ (∀ i, i < z0.length → w.cell? (x.add i) = some (.int .u8 (z0.getD i 0))) ∧ ∀ n ∈ z0, (Lit.int .u8 n).wf = true) (y0 : len0 * 1 ≤ 140737488351232) (w1 : (a1 = none ∧ len1 = 0 ∧ cap1 = 0 ∧ z1 = []) ∨ ∃ x, a1 = some x ∧ len1 ≤ cap1 ∧ cap1 ≤ maxLen ∧ z1.length = cap1 ∧ (∀ i, i < z1.length → w.cell? (x.add i) = some (.int .u8 (z1.getD i 0))) ∧ ∀ n ∈ z1, (Lit.int .u8 n).wf = true) (y1 : len1 * 1 ≤ 140737488351232) :
    Calls Tryd.prog 7 #[.slice a0 len0 cap0, .slice a1 len1 cap1] w fun e w' => e = .returned (.bool true) ∧ Below w.heap.size w w' := by
  obtain ⟨l0, rfl, hr0, hm0, hw0, hc0⟩ := ReadsInt.ofRowC w0
  obtain ⟨l1, rfl, hr1, hm1, hw1, hc1⟩ := ReadsInt.ofRowC w1
  obtain ⟨k, h⟩ := P l0 l1 hm0 y0 hw0 hm1 y1 hw1
  refine (laws_FnNetOne.calls k _ _ l0 _ _ l1 true w (Kd.C_of_reads (d := (0 : Int)) (h1 := fun _ => rfl) hr0) hc0 (Kd.C_of_reads (d := (0 : Int)) (h1 := fun _ => rfl) hr1) hc1 h).mono ?_
  rintro e w' ⟨rfl, hd⟩
  exact ⟨rfl, hd⟩
end Go.Proofs.YtloonheabfdgbaaDoor.P
