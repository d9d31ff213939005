import Derived.Test.YtleibnekeioamaaP0
import Derived.Test.YtleibnekeioamaaP1
namespace Go.Proofs.Ytleibnekeioamaa.P
open Go.RowKit Go.Proofs.YtleibnekeioamaaW.PrintWords Go.Proofs.YtleibnekeioamaaW.PrintLast Go.Proofs.YtleibnekeioamaaW.PrintMore
attribute [local go_sem] max2_int min2_int max_two min_two max_three min_three max_four min_four
set_option linter.unusedVariables false
set_option linter.unusedSimpArgs false
attribute [local go_sem high] eqATie
def spec_l71Spoil.T7 : Bool × List (List Nat × List Nat) := (true, [([], []), ([0], [0]), ([], []), ([2], [2]), ([], []), ([4, 3], [4]), ([3, 5], [3, 5]), ([6], [6]), ([1, 7, 5], [1, 7]), ([0, 1, 2, 3, 4, 5, 6, 7, 8], []), ([9, 8, 8, 0, 1, 2, 3, 4, 5, 6, 7, 8], [8, 9])])
def spec_l71Spoil.B7 : List Nat := [0, 1, 0, 4, 0, 28, 60, 124, 255, 511, 1023]
theorem spec_l71Spoil.tab7 : rtab .any (opsOf Try.f20 7) = spec_l71Spoil.T7 := by kernel_rfl
theorem spec_l71Spoil.bits7 : waitsOk spec_l71Spoil.T7.2 spec_l71Spoil.B7 = true := by kernel_rfl
def spec_l71Spoil.T13 : Bool × List (List Nat × List Nat) := (true, [([], []), ([0], [0]), ([], []), ([], []), ([3], [3]), ([], []), ([4, 5], [4, 5]), ([6], [6]), ([7], [7]), ([], []), ([9], [9]), ([], []), ([10, 11], [10, 11]), ([12], [12]), ([13], [13]), ([8, 14], [8, 14]), ([1, 2, 0, 1, 2, 3, 4, 5, 6, 7, 8, 9, 10, 11, 12, 13, 14, 15], [1, 2]), ([16, 15, 0, 1, 2, 3, 4, 5, 6, 7, 8, 9, 10, 11, 12, 13, 14, 15], [15, 16])])
def spec_l71Spoil.B13 : List Nat := [0, 1, 0, 0, 8, 0, 56, 120, 248, 0, 512, 0, 3584, 7680, 15872, 32760, 65535, 131071]
theorem spec_l71Spoil.tab13 : rtab .any (opsOf Try.f20 13) = spec_l71Spoil.T13 := by kernel_rfl
theorem spec_l71Spoil.bits13 : waitsOk spec_l71Spoil.T13.2 spec_l71Spoil.B13 = true := by kernel_rfl
def spec_l71Spoil.T16 : Bool × List (List Nat × List Nat) := (true, [([], []), ([0], [0]), ([], []), ([2], [2]), ([3], [3]), ([4], [4]), ([5], [5]), ([1, 6], [1, 6]), ([0, 1, 2, 3, 4, 5, 6, 7], []), ([8, 7, 7, 0, 1, 2, 3, 4, 5, 6, 7], [7, 8])])
def spec_l71Spoil.B16 : List Nat := [0, 1, 0, 4, 12, 28, 60, 127, 255, 511]
theorem spec_l71Spoil.tab16 : rtab .any (opsOf Try.f20 16) = spec_l71Spoil.T16 := by kernel_rfl
theorem spec_l71Spoil.bits16 : waitsOk spec_l71Spoil.T16.2 spec_l71Spoil.B16 = true := by kernel_rfl
set_option maxHeartbeats 8000000 in
set_option maxRecDepth 100000 in
theorem spec_l71Spoil.calls (k : Nat) (g : Nat) (s0_0 : List Int) (s0_1 : Int) (a1_0 : Int) (A1_1 : Option Addr) (c1_1 : Nat) (l1_1 : List (STie)) (r1 : Int) (r2 : List (STie)) (r3 : Int) (w0 w : World) (hI : IsSRd w0 w g s0_0 s0_1) (hB : Below w0.heap.size w0 w) (hr1_1 : ∀ W_, KeepBut w W_ g none → Kd.C kTie W_ A1_1 l1_1.length l1_1) (hc1_1 : l1_1.length ≤ c1_1) (h : spec_l71Spoil.f k s0_0 s0_1 a1_0 l1_1 = some (r1, r2, r3)) :
    Calls Try.prog 20 #[.pointer (some ⟨g, 0, none⟩), .agg #[.int .i64 a1_0, .slice A1_1 l1_1.length c1_1]] w fun e w' => ∃ v1_ : Value, e = .returned (.agg #[.int .i64 r1, v1_]) ∧ Kd.R kTie 32 w' w.heap.size (fun _ => True) v1_ r2 ∧ IsSRd w0 w' g s0_0 r3 ∧ Below w0.heap.size w0 w' ∧ KeepBut w w' g none := by
 have hu25 := Try.underlying25
 have hu32 := Try.underlying32
 have HR1_1 := q0 hr1_1
 have HC1_1 := q0 hc1_1
 clear hr1_1 hc1_1
 have HI0 := q0 hI
 have HK := q0 (KeepBut.refl w g none)
 have HL := q0 hB.size
 clear hI
 have HW0 := q0 hB.size
 have HB := q0 hB
 clear hB
 have H : ((spec_l1Copy.f a1_0 l1_1).bind fun bt100 => ((spec_l6Rd_pick.f k s0_0 s0_1 6).bind fun bt101 => (if bt101.1 = 0 then ((some (([(-1), 0, 1, 8, 9] : List Int) : List Int)).bind fun y102 => ((spec_l6Rd_pick.f k s0_0 bt101.2 5).bind fun bt103 => (if 0 ≤ bt103.1 then (if bt103.1 < (y102.length : Int) then (some (rd y102 bt103.1, bt100.2, bt103.2)) else (none)) else (none)))) else (if bt101.1 = 1 then ((spec_l6Rd_pick.f k s0_0 bt101.2 3).bind fun bt104 => ((spec_l6Rd_pick.f k s0_0 bt104.2 3).bind fun bt105 => (if bt100.2.length < 8796093022208 then (some (bt100.1, (bt100.2 ++ [(⟨bt104.1, bt105.1⟩ : STie)]), bt105.2)) else (none)))) else (if bt101.1 = 2 then (if bt100.2.length < 8796093022208 then (some (bt100.1, (bt100.2 ++ [(⟨wrap64 (bt100.1 - 1), bt100.1⟩ : STie)]), bt101.2)) else (none)) else (if bt101.1 = 3 then (if (bt100.2.length : Int) > 0 then ((spec_l6Rd_pick.f k s0_0 bt101.2 (bt100.2.length : Int)).bind fun bt106 => (if 0 ≤ bt106.1 then (if bt106.1 < (bt100.2.length : Int) then (some (bt100.1, (bt100.2.set (bt106.1 : Int).toNat (⟨(rd_TTie bt100.2 bt106.1).f1, (rd_TTie bt100.2 bt106.1).f0⟩ : STie)), bt106.2)) else (none)) else (none))) else (some (bt100.1, bt100.2, bt101.2))) else (if bt101.1 = 4 then (if (bt100.2.length : Int) > 1 then (if 0 < (bt100.2.length : Int) then (if bt100.2.length < 8796093022208 then (some (bt100.1, (bt100.2 ++ [(⟨(rd_TTie bt100.2 0).f0, (rd_TTie bt100.2 0).f1⟩ : STie)]), bt101.2)) else (none)) else (none)) else (some (bt100.1, bt100.2, bt101.2))) else ((some (([(⟨(-1), 0⟩ : STie)] : List (STie)) : List (STie))).bind fun y107 => (if y107.length + bt100.2.length < 8796093022208 then (some (bt100.1, (y107 ++ bt100.2), bt101.2)) else (none)))))))))) = some (r1, r2, r3) := h
 clear h
 obtain ⟨⟨t100, t108⟩, A3, H⟩ := ob H
 obtain ⟨⟨t101, t109⟩, A4, H⟩ := ob H
 by_cases c5 : t101 = 0
 · rw [if_pos c5] at H
   have c5b0 : (t101 == 0) = true := beq_iff_eq.mpr c5
   have c5b1 : (t101 != 0) = false := bne_eq_false_iff_eq.mpr c5
   clear c5
   obtain ⟨y102, hy102⟩ : ∃ y_ : List Int, y_ = (([(-1), 0, 1, 8, 9] : List Int)) := ⟨_, rfl⟩
   replace H : ((spec_l6Rd_pick.f k s0_0 t109 5).bind fun bt103 => (if 0 ≤ bt103.1 then (if bt103.1 < (y102.length : Int) then (some (rd y102 bt103.1, t108, bt103.2)) else (none)) else (none))) = some (r1, r2, r3) := qy H hy102
   have Ny102 := q0 hy102
   clear hy102
   obtain ⟨⟨t103, t110⟩, A6, H⟩ := ob H
   obtain ⟨c7, H⟩ : (0 ≤ t103) ∧ _ := og H
   have c7b0 := decide_eq_true c7
   clear c7
   obtain ⟨c8, H⟩ : (t103 < (y102.length : Int)) ∧ _ := og H
   have c8b0 := decide_eq_true c8
   clear c8
   simp only [Option.some.injEq, Prod.mk.injEq] at H
   obtain ⟨rfl, rfl, rfl⟩ := H
   go_enter Try.func20, Try.ntmps20
   go_wp2_with (first | ((with_reducible refine gd 3 ?_); refine be 3 #[.int .i64 a1_0, .slice A1_1 l1_1.length c1_1] 25 ?_; intro gb111 hg w9 hbox hb; replace HB := q0 (below_step (qj HB.out HI0.out) hb); have BK111 := q0 (hbox); have GW111 := q0 ((by rw [hg]; exact (keep_size (w := w) (g := g) (row := none) (qh HK.out)) : w.heap.size ≤ gb111)); have GE111 := q0 ((Nat.le_trans HW0.out (by rw [hg]; exact (keep_size (w := w) (g := g) (row := none) (qh HK.out)) : w.heap.size ≤ gb111) : w0.heap.size ≤ gb111)); replace HK := q0 (KeepBut.trans (qh HK.out) (KeepBut.of_below hb g none) (.inl rfl)); have NB0_111 := q0 ((by rw [hg]; exact Nat.ne_of_lt (IsSRd.lt (show IsSRd w0 _ g s0_0 s0_1 from qi HI0.out)) : g ≠ gb111)); have NB111_0 := q0 ((by rw [hg]; exact Nat.ne_of_gt (IsSRd.lt (show IsSRd w0 _ g s0_0 s0_1 from qi HI0.out)) : gb111 ≠ g)); replace HI0 := q0 (IsSRd.below (qi HI0.out) hb); clear hb hbox hg) | ((with_reducible refine gd 4 ?_); refine be 4 #[.int .i64 0, .slice none 0 0] 25 ?_; intro gb112 hg w10 hbox hb; replace HB := q0 (below_step (qj HB.out HI0.out) hb); have BK112 := q0 (hbox); have GW112 := q0 ((by rw [hg]; exact (keep_size (w := w) (g := g) (row := none) (qh HK.out)) : w.heap.size ≤ gb112)); have GE112 := q0 ((Nat.le_trans HW0.out (by rw [hg]; exact (keep_size (w := w) (g := g) (row := none) (qh HK.out)) : w.heap.size ≤ gb112) : w0.heap.size ≤ gb112)); replace HK := q0 (KeepBut.trans (qh HK.out) (KeepBut.of_below hb g none) (.inl rfl)); have NB111_112 := nl BK111 hg; have NB112_111 := ng BK111 hg; replace BK111 := kd BK111 hb; have NB0_112 := q0 ((by rw [hg]; exact Nat.ne_of_lt (IsSRd.lt (show IsSRd w0 _ g s0_0 s0_1 from qi HI0.out)) : g ≠ gb112)); have NB112_0 := q0 ((by rw [hg]; exact Nat.ne_of_gt (IsSRd.lt (show IsSRd w0 _ g s0_0 s0_1 from qi HI0.out)) : gb112 ≠ g)); replace HI0 := q0 (IsSRd.below (qi HI0.out) hb); clear hb hbox hg; have hnb11 := NB111_112.out; have hnc11 := NB112_111.out; have hnb12 := NB111_0.out; have hnc12 := NB0_111.out; obtain ⟨hcz13_0, hcz13_1, hfz13_0, hfz13_1⟩ := b2 BK111) | ((with_reducible refine gf 30 ?_); refine gl 7 Try.func30 #[.agg #[.int .i64 a1_0, .slice A1_1 l1_1.length c1_1]] ?_; (with_reducible refine (spec_l1Copy.calls a1_0 _ _ l1_1 t100 t108 _ ?side1 ?side2 A3.out).mono ?_); (case side1 => exact Kd.C_foot_now HR1_1.out (qh HK.out)); (case side2 => exact HC1_1.out); rintro e w14 ⟨v113, rfl, ho0, hb⟩; refine ⟨_, rfl, ?_⟩; have HO114 := q0 (Kd.R_lower ho0 (keep_size (w := w) (g := g) (row := none) (qh HK.out))); replace BK111 := kd BK111 hb; replace BK112 := kd BK112 hb; replace HK := q0 (KeepBut.trans (qh HK.out) (KeepBut.of_below hb g none) (.inl rfl)); replace HB := q0 (below_step (qj HB.out HI0.out) hb); replace HI0 := q0 (IsSRd.below (qi HI0.out) hb); (try clear hb); (try clear hb2); (try clear hk); (try clear hi); (try clear ho0); obtain ⟨hcz15_0, hcz15_1, hfz15_0, hfz15_1⟩ := b2 BK111; obtain ⟨Ao16, co16, eo16⟩ := Kd.R_slice HO114.out; subst eo16) | ((with_reducible refine gf 19 ?_); refine gl 9 Try.func19 #[.pointer (some ⟨g, 0, none⟩), .int .i64 6] ?_; (with_reducible refine (spec_l6Rd_pick.calls k g s0_0 s0_1 6 t101 t109 w0 _ ?side1 ?side2 A4.out).mono ?_); (case side1 => exact qi HI0.out); (case side2 => exact qj HB.out HI0.out); rintro e w17 ⟨rfl, hi, hb, hk⟩; refine ⟨_, rfl, ?_⟩; replace BK112 := q0 (kc hk BK112.out NB112_0.out); replace HO114 := q0 (Kd.R_mono (Kd.R_keep (IsSRd.apart (show IsSRd w0 _ g s0_0 s0_1 from qi HI0.out) (by (with_reducible repeat (first | apply Kd.R_alloc | apply Kd.R_drewN | apply Kd.R_drew)); exact (rf2 HO114.out BK111.out (fun _ h_ => h_.1))) (by decide)) hk (fun _ h => h.2)) (fun _ h => h.1)); replace BK111 := q0 (KeepBut.blk hk (g' := gb111) (o := .cells #[.int .i64 t100, .slice Ao16 t108.length co16] 25 (0, 0)) (by (with_reducible repeat (first | refine blk_drewN ?_ _ | refine blk_drew ?_ | refine blk_alloc ?_ _)); refine blk_put (cs := #[.int .i64 t100, .slice A1_1 l1_1.length c1_1]) ?_ 1 _ rfl; (with_reducible repeat (first | refine blk_drewN ?_ _ | refine blk_drew ?_ | refine blk_alloc ?_ _)); refine blk_put (cs := #[.int .i64 a1_0, .slice A1_1 l1_1.length c1_1]) ?_ 0 _ rfl; (with_reducible repeat (first | refine blk_drewN ?_ _ | refine blk_drew ?_ | refine blk_alloc ?_ _)); exact BK111.out) NB111_0.out (by simp)); replace HK := q0 (KeepBut.trans (qh HK.out) hk (.inl rfl)); replace HB := q0 (hb); replace HI0 := q0 (hi); (try clear hb); (try clear hb2); (try clear hk); (try clear hi)) | ((with_reducible refine gd 18 ?_); refine Kd.R_lit (Kd.int .i64) _ 3 ?hg (N := 18) ?hd (xs := ([(-1), 0, 1, 8, 9] : List Int)) (inner := [.int .i64 (-1), .int .i64 0, .int .i64 1, .int .i64 8, .int .i64 9]) (ok := fun _ => True) (okp := fun _ => True) ?hr ?hp (fun _ hk => hk) trivial (Below.refl _ _) (Nat.le_refl _) (by simp) ?_; (case hd => rfl); (case hg => rfl); (case hr => first | (go_simp; done) | (go_simp; rfl)); (case hp => exact (Reps.one (show Kd.M (Kd.int .i64) _ _ _ (-1) [.int .i64 (-1)] from rfl) (Reps.one (show Kd.M (Kd.int .i64) _ _ _ 0 [.int .i64 0] from rfl) (Reps.one (show Kd.M (Kd.int .i64) _ _ _ 1 [.int .i64 1] from rfl) (Reps.one (show Kd.M (Kd.int .i64) _ _ _ 8 [.int .i64 8] from rfl) (Reps.one (show Kd.M (Kd.int .i64) _ _ _ 9 [.int .i64 9] from rfl) (Reps.none _ _))))))); intro v115 w18 ho19 hb hg_ hnew_; clear hg_ hnew_; (first | rw [← Ny102.out] at ho19 | (simp only [Int.reduceToNat] at ho19; rw [← Ny102.out] at ho19)); replace HO114 := q0 (Kd.R_below (qr HO114.out) hb); have HO116 := q0 (Kd.R_lower ho19 (keep_size (w := w) (g := g) (row := none) (qh HK.out))); replace BK111 := kd BK111 hb; replace BK112 := kd BK112 hb; replace HK := q0 (KeepBut.trans (qh HK.out) (KeepBut.of_below hb g none) (.inl rfl)); replace HB := q0 (below_step (qj HB.out HI0.out) hb); replace HI0 := q0 (IsSRd.below (qi HI0.out) hb); clear hb ho19) | ((with_reducible refine gf 19 ?_); refine gl 20 Try.func19 #[.pointer (some ⟨g, 0, none⟩), .int .i64 5] ?_; (with_reducible refine (spec_l6Rd_pick.calls k g s0_0 t109 5 t103 t110 w0 _ ?side1 ?side2 A6.out).mono ?_); (case side1 => exact qi HI0.out); (case side2 => exact qj HB.out HI0.out); rintro e w20 ⟨rfl, hi, hb, hk⟩; refine ⟨_, rfl, ?_⟩; replace BK111 := q0 (kc hk BK111.out NB111_0.out); replace BK112 := q0 (kc hk BK112.out NB112_0.out); replace HO114 := q0 (Kd.R_mono (Kd.R_keep (IsSRd.apart (show IsSRd w0 _ g s0_0 t109 from qi HI0.out) (qr HO114.out) (by decide)) hk (fun _ h => h.2)) (fun _ h => h.1)); replace HO116 := q0 (Kd.R_mono (Kd.R_keep (IsSRd.apart (show IsSRd w0 _ g s0_0 t109 from qi HI0.out) (qr HO116.out) (by decide)) hk (fun _ h => h.2)) (fun _ h => h.1)); replace HK := q0 (KeepBut.trans (qh HK.out) hk (.inl rfl)); replace HB := q0 (hb); replace HI0 := q0 (hi); (try clear hb); (try clear hb2); (try clear hk); (try clear hi); obtain ⟨Ao21, co21, eo21⟩ := Kd.R_slice HO116.out; subst eo21; have p117 : 0 ≤ (t103 : Int) := of_decide_eq_true qa; have q117 : t103 < (y102.length : Int) := of_decide_eq_true qa; obtain ⟨ad117, e117, hx117_0⟩ := Kd.at_int (Kd.R_reads' HO116.out).2.2 t103 p117 q117; cases e117; replace p117 := eq_true p117; replace q117 := eq_true q117; obtain ⟨hcz22_0, hcz22_1, hfz22_0, hfz22_1⟩ := b2 BK111; have hnb23 := NB112_0.out; have hnc23 := NB0_112.out; obtain ⟨hcz24_0, hcz24_1, hfz24_0, hfz24_1⟩ := b2 BK112))
   refine bodyPost_ret (results_cell_row rfl _ _ gb112 25 #[.int .i64 (rd y102 t103), .slice Ao16 t108.length co16] (0, 0) _ rfl (by (with_reducible repeat (first | refine blk_drewN ?_ _ | refine blk_drew ?_ | refine blk_alloc ?_ _)); refine blk_put (cs := #[.int .i64 (rd y102 t103), .slice none 0 0]) ?_ 1 _ rfl; (with_reducible repeat (first | refine blk_drewN ?_ _ | refine blk_drew ?_ | refine blk_alloc ?_ _)); refine blk_put (cs := #[.int .i64 0, .slice none 0 0]) ?_ 0 _ rfl; (with_reducible repeat (first | refine blk_drewN ?_ _ | refine blk_drew ?_ | refine blk_alloc ?_ _)); refine blk_far ?_ NB112_111.out _; (with_reducible repeat (first | refine blk_drewN ?_ _ | refine blk_drew ?_ | refine blk_alloc ?_ _)); exact BK112.out) Try.underlying25 rfl (by kernel_rfl)) rfl ?_
   exact ⟨_, qe, by (with_reducible repeat (first | apply Kd.R_alloc | apply Kd.R_drewN | apply Kd.R_drew)); exact Kd.R_mono (Kd.R_far (p := ⟨gb112, 1, none⟩) (Kd.R_far (p := ⟨gb112, 0, none⟩) (Kd.R_far (p := ⟨gb111, 0, none⟩) (Kd.R_types (Kd.R_types HO114.out BK111.out (by decide)) BK112.out (by decide)) (fun _ hk => hk.1.2) (.int .i64 (rd y102 t103))) (fun _ hk => hk.2) (.int .i64 (rd y102 t103))) (fun _ hk => hk.2) (.slice Ao16 t108.length co16)) (fun _ hk => trivial), qi HI0.out, qj HB.out HI0.out, by repeat (first | (with_reducible first | exact HK.out | apply KeepBut.set_ | apply keep_drewN | apply keep_drew | apply keep_alloc | refine keep_far ?_ GW111.out _ | refine keep_far ?_ GW112.out _) | exact HK.out)⟩
 rw [if_neg c5] at H
 have c5b0 : (t101 == 0) = false := beq_eq_false_iff_ne.mpr c5
 have c5b1 : (t101 != 0) = true := bne_iff_ne.mpr c5
 by_cases c25 : t101 = 1
 · rw [if_pos c25] at H
   have c25b0 : (t101 == 1) = true := beq_iff_eq.mpr c25
   have c25b1 : (t101 != 1) = false := bne_eq_false_iff_eq.mpr c25
   clear c25
   obtain ⟨⟨t104, t118⟩, A26, H⟩ := ob H
   obtain ⟨⟨t105, t120⟩, A27, H⟩ := ob H
   obtain ⟨c28, H⟩ : (t108.length < 8796093022208) ∧ _ := og H
   have LMc28 := q0 c28
   clear c28
   obtain ⟨y122, hy122⟩ : ∃ y_ : List (STie), y_ = (t108 ++ [(⟨t104, t105⟩ : STie)]) := ⟨_, rfl⟩
   replace H : (some (t100, y122, t120)) = some (r1, r2, r3) := qy H hy122
   have Ny122 := q0 hy122
   clear hy122
   simp only [Option.some.injEq, Prod.mk.injEq] at H
   obtain ⟨rfl, rfl, rfl⟩ := H
   go_enter Try.func20, Try.ntmps20
   try go_wp2_with (first | ((with_reducible refine gd 3 ?_); refine be 3 #[.int .i64 a1_0, .slice A1_1 l1_1.length c1_1] 25 ?_; intro gb111 hg w29 hbox hb; replace HB := q0 (below_step (qj HB.out HI0.out) hb); have BK111 := q0 (hbox); have GW111 := q0 ((by rw [hg]; exact (keep_size (w := w) (g := g) (row := none) (qh HK.out)) : w.heap.size ≤ gb111)); have GE111 := q0 ((Nat.le_trans HW0.out (by rw [hg]; exact (keep_size (w := w) (g := g) (row := none) (qh HK.out)) : w.heap.size ≤ gb111) : w0.heap.size ≤ gb111)); replace HK := q0 (KeepBut.trans (qh HK.out) (KeepBut.of_below hb g none) (.inl rfl)); have NB0_111 := q0 ((by rw [hg]; exact Nat.ne_of_lt (IsSRd.lt (show IsSRd w0 _ g s0_0 s0_1 from qi HI0.out)) : g ≠ gb111)); have NB111_0 := q0 ((by rw [hg]; exact Nat.ne_of_gt (IsSRd.lt (show IsSRd w0 _ g s0_0 s0_1 from qi HI0.out)) : gb111 ≠ g)); replace HI0 := q0 (IsSRd.below (qi HI0.out) hb); clear hb hbox hg) | ((with_reducible refine gd 4 ?_); refine be 4 #[.int .i64 0, .slice none 0 0] 25 ?_; intro gb112 hg w30 hbox hb; replace HB := q0 (below_step (qj HB.out HI0.out) hb); have BK112 := q0 (hbox); have GW112 := q0 ((by rw [hg]; exact (keep_size (w := w) (g := g) (row := none) (qh HK.out)) : w.heap.size ≤ gb112)); have GE112 := q0 ((Nat.le_trans HW0.out (by rw [hg]; exact (keep_size (w := w) (g := g) (row := none) (qh HK.out)) : w.heap.size ≤ gb112) : w0.heap.size ≤ gb112)); replace HK := q0 (KeepBut.trans (qh HK.out) (KeepBut.of_below hb g none) (.inl rfl)); have NB111_112 := nl BK111 hg; have NB112_111 := ng BK111 hg; replace BK111 := kd BK111 hb; have NB0_112 := q0 ((by rw [hg]; exact Nat.ne_of_lt (IsSRd.lt (show IsSRd w0 _ g s0_0 s0_1 from qi HI0.out)) : g ≠ gb112)); have NB112_0 := q0 ((by rw [hg]; exact Nat.ne_of_gt (IsSRd.lt (show IsSRd w0 _ g s0_0 s0_1 from qi HI0.out)) : gb112 ≠ g)); replace HI0 := q0 (IsSRd.below (qi HI0.out) hb); clear hb hbox hg; have hnb31 := NB111_112.out; have hnc31 := NB112_111.out; have hnb32 := NB111_0.out; have hnc32 := NB0_111.out; obtain ⟨hcz33_0, hcz33_1, hfz33_0, hfz33_1⟩ := b2 BK111) | ((with_reducible refine gf 30 ?_); refine gl 7 Try.func30 #[.agg #[.int .i64 a1_0, .slice A1_1 l1_1.length c1_1]] ?_; (with_reducible refine (spec_l1Copy.calls a1_0 _ _ l1_1 t100 t108 _ ?side1 ?side2 A3.out).mono ?_); (case side1 => exact Kd.C_foot_now HR1_1.out (qh HK.out)); (case side2 => exact HC1_1.out); rintro e w34 ⟨v113, rfl, ho0, hb⟩; refine ⟨_, rfl, ?_⟩; have HO114 := q0 (Kd.R_lower ho0 (keep_size (w := w) (g := g) (row := none) (qh HK.out))); replace BK111 := kd BK111 hb; replace BK112 := kd BK112 hb; replace HK := q0 (KeepBut.trans (qh HK.out) (KeepBut.of_below hb g none) (.inl rfl)); replace HB := q0 (below_step (qj HB.out HI0.out) hb); replace HI0 := q0 (IsSRd.below (qi HI0.out) hb); (try clear hb); (try clear hb2); (try clear hk); (try clear hi); (try clear ho0); obtain ⟨hcz35_0, hcz35_1, hfz35_0, hfz35_1⟩ := b2 BK111; obtain ⟨Ao36, co36, eo36⟩ := Kd.R_slice HO114.out; subst eo36) | ((with_reducible refine gf 19 ?_); refine gl 9 Try.func19 #[.pointer (some ⟨g, 0, none⟩), .int .i64 6] ?_; (with_reducible refine (spec_l6Rd_pick.calls k g s0_0 s0_1 6 t101 t109 w0 _ ?side1 ?side2 A4.out).mono ?_); (case side1 => exact qi HI0.out); (case side2 => exact qj HB.out HI0.out); rintro e w37 ⟨rfl, hi, hb, hk⟩; refine ⟨_, rfl, ?_⟩; replace BK112 := q0 (kc hk BK112.out NB112_0.out); replace HO114 := q0 (Kd.R_mono (Kd.R_keep (IsSRd.apart (show IsSRd w0 _ g s0_0 s0_1 from qi HI0.out) (by (with_reducible repeat (first | apply Kd.R_alloc | apply Kd.R_drewN | apply Kd.R_drew)); exact (rf2 HO114.out BK111.out (fun _ h_ => h_.1))) (by decide)) hk (fun _ h => h.2)) (fun _ h => h.1)); replace BK111 := q0 (KeepBut.blk hk (g' := gb111) (o := .cells #[.int .i64 t100, .slice Ao36 t108.length co36] 25 (0, 0)) (by (with_reducible repeat (first | refine blk_drewN ?_ _ | refine blk_drew ?_ | refine blk_alloc ?_ _)); refine blk_put (cs := #[.int .i64 t100, .slice A1_1 l1_1.length c1_1]) ?_ 1 _ rfl; (with_reducible repeat (first | refine blk_drewN ?_ _ | refine blk_drew ?_ | refine blk_alloc ?_ _)); refine blk_put (cs := #[.int .i64 a1_0, .slice A1_1 l1_1.length c1_1]) ?_ 0 _ rfl; (with_reducible repeat (first | refine blk_drewN ?_ _ | refine blk_drew ?_ | refine blk_alloc ?_ _)); exact BK111.out) NB111_0.out (by simp)); replace HK := q0 (KeepBut.trans (qh HK.out) hk (.inl rfl)); replace HB := q0 (hb); replace HI0 := q0 (hi); (try clear hb); (try clear hb2); (try clear hk); (try clear hi)))
   replace HO114 := q0 (Kd.R_drew HO114.out)
   replace BK111 := q0 (blk_drew BK111.out)
   replace BK112 := q0 (blk_drew BK112.out)
   replace HI0 := q0 (IsSRd.drew HI0.out)
   replace HK := q0 (keep_drew HK.out)
   replace HB := q0 (below_drew1 HB.out)
   refine start_ (n := 11) (S := fun w' => w'.cell? ⟨gb111, 0, none⟩ = some (.int .i64 t100) ∧ w'.cell? ⟨gb111, 1, none⟩ = some (.slice Ao36 t108.length co36)) (ds := [10]) (ba 11 0) (by kernel_rfl) rfl (by kernel_rfl) ⟨bca BK111, bcb BK111⟩ (fun hHeld => ?_); refine with_tabW spec_l71Spoil.tab7 spec_l71Spoil.bits7 (fun HT_ HW_ => ?_)
   generalize w37.drew = w38 at HO114 BK111 BK112 HI0 HK HB hHeld ⊢
   refine pU 0 26 11 1 HT_ ?_
   refine pU 2 28 11 5 HT_ ?_
   refine pU 4 30 11 21 HT_ ?_
   refine tU 1 27 11 23 HT_ HW_ hHeld ?_
   refine one_ (i := 3) (N := some 29) (ba 11 31) rfl rfl (one_of HT_.out (by kernel_rfl)) (by decide) (fun K hK => ?_)
   refine goes_ Try.func19 (by kernel_rfl) rfl #[.pointer (some ⟨g, 0, none⟩), .int .i64 3] (by rfl) rfl rfl qm ?_
   with_reducible refine (spec_l6Rd_pick.calls k g s0_0 t109 3 t104 t118 w0 _ ?side1 ?side2 A26.out).mono ?_
   (case side1 => exact qi HI0.out)
   (case side2 => exact qj HB.out HI0.out)
   rintro e w39 ⟨rfl, hi, hb, hk⟩
   refine ⟨_, rfl, ?_⟩
   replace BK111 := q0 (kc hk BK111.out NB111_0.out)
   replace BK112 := q0 (kc hk BK112.out NB112_0.out)
   replace HO114 := q0 (Kd.R_mono (Kd.R_keep (IsSRd.apart (show IsSRd w0 _ g s0_0 t109 from qi HI0.out) (qr HO114.out) (by decide)) hk (fun _ h => h.2)) (fun _ h => h.1))
   replace HK := q0 (KeepBut.trans (qh HK.out) hk (.inl rfl))
   replace HB := q0 (hb)
   replace HI0 := q0 (hi)
   (try clear hb)
   (try clear hb2)
   (try clear hk)
   (try clear hi)
   refine hK.out _ _ ⟨bca BK111, bcb BK111⟩ (fun hHeld => ?_)
   clear hK K
   refine nu 29 ?_
   refine one_ (i := 5) (N := some 31) (ba 11 63) rfl rfl (one_of HT_.out (by kernel_rfl)) (by decide) (fun K hK => ?_)
   refine goes_ Try.func19 (by kernel_rfl) rfl #[.pointer (some ⟨g, 0, none⟩), .int .i64 3] (by rfl) rfl rfl qm ?_
   with_reducible refine (spec_l6Rd_pick.calls k g s0_0 t118 3 t105 t120 w0 _ ?side1 ?side2 A27.out).mono ?_
   (case side1 => exact qi HI0.out)
   (case side2 => exact qj HB.out HI0.out)
   rintro e w40 ⟨rfl, hi, hb, hk⟩
   refine ⟨_, rfl, ?_⟩
   replace BK111 := q0 (kc hk BK111.out NB111_0.out)
   replace BK112 := q0 (kc hk BK112.out NB112_0.out)
   replace HO114 := q0 (Kd.R_mono (Kd.R_keep (IsSRd.apart (show IsSRd w0 _ g s0_0 t118 from qi HI0.out) (qr HO114.out) (by decide)) hk (fun _ h => h.2)) (fun _ h => h.1))
   replace HK := q0 (KeepBut.trans (qh HK.out) hk (.inl rfl))
   replace HB := q0 (hb)
   replace HI0 := q0 (hi)
   (try clear hb)
   (try clear hb2)
   (try clear hk)
   (try clear hi)
   refine hK.out _ _ ⟨bca BK111, bcb BK111⟩ (fun hHeld => ?_)
   clear hK K
   refine nu 31 ?_
   refine pU 6 32 11 127 HT_ ?_
   refine one_ (i := 7) (N := some 33) (ba 11 255) rfl rfl (one_of HT_.out (by kernel_rfl)) (by decide) (fun K hK => ?_)
   refine value_ (w1 := ?_) (v := ?_) (by rfl) rfl ?_ ?_
   rotate_left 2
   · go_simp
     constructor
     · rfl
     · rfl
   refine hK.out _ _ ⟨(blk_cell (blk_alloc BK111.out _) 0).trans rfl, (blk_cell (blk_alloc BK111.out _) 1).trans rfl⟩ (fun hHeld => ?_)
   clear hK K
   refine nu 33 ?_
   refine one_ (i := 8) (N := some 34) (ba 11 511) rfl rfl (one_of HT_.out (by kernel_rfl)) (by decide) (fun K hK => ?_)
   refine Kd.R_append_step kTie w.heap.size (by rfl) (.tmp 27) (.tmp 33) 23 32 (.agg #[(.int .i64 0), (.int .i64 0)]) 16 rfl Try.underlying23 info32 rfl (by decide) (by omega) (.slice Ao36 t108.length co36) t108 (⟨t104, t105⟩ : STie) [.int .i64 t104, .int .i64 t105] (fun _ => True) (fun _ => False) rfl rfl ?aP (fun _ hk => hk.elim) ?aF ?aO (Below.refl _ _) ?aS ?aL ?_
   (case aP => exact kTie_mkM _ _ _ (⟨t104, t105⟩ : STie))
   (case aF => exact (fun _ _ => trivial))
   (case aO => exact (qr HO114.out))
   (case aS => exact (keep_size (w := w) (g := g) (row := none) (qh HK.out)))
   (case aL => have := LMc28.out; omega)
   intro v123 w41 ho hb hg hat
   rw [← Ny122.out] at ho
   replace BK111 := q0 (blk_grown (g := gb111) (o := .cells #[.int .i64 t100, .slice Ao36 t108.length co36] 25 (0, 0)) (qk BK111.out) hg (Kd.R_ne HO114.out BK111.out (by decide)))
   replace BK112 := q0 (blk_grown (g := gb112) (o := .cells #[.int .i64 0, .slice none 0 0] 25 (0, 0)) (qk BK112.out) hg (Kd.R_ne HO114.out BK112.out (by decide)))
   replace HB := q0 (below_weaken (qj HB.out HI0.out) HL.out hb)
   replace HI0 := q0 (IsSRd.grown (qi HI0.out) hg (IsSRd.own_ne HI0.out HO114.out (by decide)))
   replace HK := q0 (KeepBut.trans (qh HK.out) (KeepBut.of_grown hg g) (Kd.R_base2 HO114.out))
   have HO124 := q0 (ho)
   clear HO114
   clear ho hb hg hat
   obtain ⟨Ao42, co42, eo42⟩ := Kd.R_slice HO124.out
   (first | subst eo42 | (injection eo42 with f1_ f2_ f3_; have f4_ := f1_.symm; have f5_ := f3_.symm; clear f1_ f2_ f3_; subst f4_; subst f5_))
   refine hK.out _ _ ⟨bca BK111, bcb BK111⟩ (fun hHeld => ?_)
   clear hK K
   refine nu 34 ?_
   refine pU 9 35 11 1023 HT_ ?_
   refine last_ (i := 10) (N := none) (ba 11 2047) rfl rfl (one_of HT_.out (by kernel_rfl)) (by decide) (fun K hK => ?_)
   have hs43 : w41.cell? ⟨gb111, 1, none⟩ = some (.slice Ao36 t108.length co36) := (blk_cell BK111.out 1).trans rfl
   have hfs43 := blk_frozen BK111.out 1
   have hns43_1 := NB112_111.out
   have hms43_1 := NB111_112.out
   refine skip_ (w1 := ?_) (by rfl) rfl ?_ ?_
   rotate_left
   · go_simp
     rfl
   refine hK.out _ _ ?_
   clear hK K
   refine done_ (done_of HT_.out (by kernel_rfl)) ?_
   obtain ⟨hcz44_0, hcz44_1, hfz44_0, hfz44_1⟩ := b2 BK111
   have hnb45 := NB112_0.out
   have hnc45 := NB0_112.out
   obtain ⟨hcz46_0, hcz46_1, hfz46_0, hfz46_1⟩ := b2 BK112
   try go_wp2
   refine bodyPost_ret (results_cell_row rfl _ _ gb112 25 #[.int .i64 t100, .slice Ao42 y122.length co42] (0, 0) _ rfl (by (with_reducible repeat (first | refine blk_drewN ?_ _ | refine blk_drew ?_ | refine blk_alloc ?_ _)); refine blk_put (cs := #[.int .i64 t100, .slice none 0 0]) ?_ 1 _ rfl; (with_reducible repeat (first | refine blk_drewN ?_ _ | refine blk_drew ?_ | refine blk_alloc ?_ _)); refine blk_put (cs := #[.int .i64 0, .slice none 0 0]) ?_ 0 _ rfl; (with_reducible repeat (first | refine blk_drewN ?_ _ | refine blk_drew ?_ | refine blk_alloc ?_ _)); refine blk_far ?_ NB112_111.out _; (with_reducible repeat (first | refine blk_drewN ?_ _ | refine blk_drew ?_ | refine blk_alloc ?_ _)); exact BK112.out) Try.underlying25 rfl (by kernel_rfl)) rfl ?_
   exact ⟨_, qe, by (with_reducible repeat (first | apply Kd.R_alloc | apply Kd.R_drewN | apply Kd.R_drew)); exact Kd.R_mono (Kd.R_far (p := ⟨gb112, 1, none⟩) (Kd.R_far (p := ⟨gb112, 0, none⟩) (Kd.R_far (p := ⟨gb111, 1, none⟩) (Kd.R_types (Kd.R_types HO124.out BK111.out (by decide)) BK112.out (by decide)) (fun _ hk => hk.1.2) (.slice Ao42 y122.length co42)) (fun _ hk => hk.2) (.int .i64 t100)) (fun _ hk => hk.2) (.slice Ao42 y122.length co42)) (fun _ hk => trivial), qi HI0.out, qj HB.out HI0.out, by repeat (first | (with_reducible first | exact HK.out | apply KeepBut.set_ | apply keep_drewN | apply keep_drew | apply keep_alloc | refine keep_far ?_ GW111.out _ | refine keep_far ?_ GW112.out _) | exact HK.out)⟩
 rw [if_neg c25] at H
 have c25b0 : (t101 == 1) = false := beq_eq_false_iff_ne.mpr c25
 have c25b1 : (t101 != 1) = true := bne_iff_ne.mpr c25
 by_cases c47 : t101 = 2
 · rw [if_pos c47] at H
   have c47b0 : (t101 == 2) = true := beq_iff_eq.mpr c47
   have c47b1 : (t101 != 2) = false := bne_eq_false_iff_eq.mpr c47
   clear c47
   obtain ⟨c48, H⟩ : (t108.length < 8796093022208) ∧ _ := og H
   have LMc48 := q0 c48
   clear c48
   obtain ⟨y125, hy125⟩ : ∃ y_ : List (STie), y_ = (t108 ++ [(⟨wrap64 (t100 - 1), t100⟩ : STie)]) := ⟨_, rfl⟩
   replace H : (some (t100, y125, t109)) = some (r1, r2, r3) := qy H hy125
   have Ny125 := q0 hy125
   clear hy125
   simp only [Option.some.injEq, Prod.mk.injEq] at H
   obtain ⟨rfl, rfl, rfl⟩ := H
   go_enter Try.func20, Try.ntmps20
   go_wp2_with (first | ((with_reducible refine gd 3 ?_); refine be 3 #[.int .i64 a1_0, .slice A1_1 l1_1.length c1_1] 25 ?_; intro gb111 hg w49 hbox hb; replace HB := q0 (below_step (qj HB.out HI0.out) hb); have BK111 := q0 (hbox); have GW111 := q0 ((by rw [hg]; exact (keep_size (w := w) (g := g) (row := none) (qh HK.out)) : w.heap.size ≤ gb111)); have GE111 := q0 ((Nat.le_trans HW0.out (by rw [hg]; exact (keep_size (w := w) (g := g) (row := none) (qh HK.out)) : w.heap.size ≤ gb111) : w0.heap.size ≤ gb111)); replace HK := q0 (KeepBut.trans (qh HK.out) (KeepBut.of_below hb g none) (.inl rfl)); have NB0_111 := q0 ((by rw [hg]; exact Nat.ne_of_lt (IsSRd.lt (show IsSRd w0 _ g s0_0 s0_1 from qi HI0.out)) : g ≠ gb111)); have NB111_0 := q0 ((by rw [hg]; exact Nat.ne_of_gt (IsSRd.lt (show IsSRd w0 _ g s0_0 s0_1 from qi HI0.out)) : gb111 ≠ g)); replace HI0 := q0 (IsSRd.below (qi HI0.out) hb); clear hb hbox hg) | ((with_reducible refine gd 4 ?_); refine be 4 #[.int .i64 0, .slice none 0 0] 25 ?_; intro gb112 hg w50 hbox hb; replace HB := q0 (below_step (qj HB.out HI0.out) hb); have BK112 := q0 (hbox); have GW112 := q0 ((by rw [hg]; exact (keep_size (w := w) (g := g) (row := none) (qh HK.out)) : w.heap.size ≤ gb112)); have GE112 := q0 ((Nat.le_trans HW0.out (by rw [hg]; exact (keep_size (w := w) (g := g) (row := none) (qh HK.out)) : w.heap.size ≤ gb112) : w0.heap.size ≤ gb112)); replace HK := q0 (KeepBut.trans (qh HK.out) (KeepBut.of_below hb g none) (.inl rfl)); have NB111_112 := nl BK111 hg; have NB112_111 := ng BK111 hg; replace BK111 := kd BK111 hb; have NB0_112 := q0 ((by rw [hg]; exact Nat.ne_of_lt (IsSRd.lt (show IsSRd w0 _ g s0_0 s0_1 from qi HI0.out)) : g ≠ gb112)); have NB112_0 := q0 ((by rw [hg]; exact Nat.ne_of_gt (IsSRd.lt (show IsSRd w0 _ g s0_0 s0_1 from qi HI0.out)) : gb112 ≠ g)); replace HI0 := q0 (IsSRd.below (qi HI0.out) hb); clear hb hbox hg; have hnb51 := NB111_112.out; have hnc51 := NB112_111.out; have hnb52 := NB111_0.out; have hnc52 := NB0_111.out; obtain ⟨hcz53_0, hcz53_1, hfz53_0, hfz53_1⟩ := b2 BK111) | ((with_reducible refine gf 30 ?_); refine gl 7 Try.func30 #[.agg #[.int .i64 a1_0, .slice A1_1 l1_1.length c1_1]] ?_; (with_reducible refine (spec_l1Copy.calls a1_0 _ _ l1_1 t100 t108 _ ?side1 ?side2 A3.out).mono ?_); (case side1 => exact Kd.C_foot_now HR1_1.out (qh HK.out)); (case side2 => exact HC1_1.out); rintro e w54 ⟨v113, rfl, ho0, hb⟩; refine ⟨_, rfl, ?_⟩; have HO114 := q0 (Kd.R_lower ho0 (keep_size (w := w) (g := g) (row := none) (qh HK.out))); replace BK111 := kd BK111 hb; replace BK112 := kd BK112 hb; replace HK := q0 (KeepBut.trans (qh HK.out) (KeepBut.of_below hb g none) (.inl rfl)); replace HB := q0 (below_step (qj HB.out HI0.out) hb); replace HI0 := q0 (IsSRd.below (qi HI0.out) hb); (try clear hb); (try clear hb2); (try clear hk); (try clear hi); (try clear ho0); obtain ⟨hcz55_0, hcz55_1, hfz55_0, hfz55_1⟩ := b2 BK111; obtain ⟨Ao56, co56, eo56⟩ := Kd.R_slice HO114.out; subst eo56) | ((with_reducible refine gf 19 ?_); refine gl 9 Try.func19 #[.pointer (some ⟨g, 0, none⟩), .int .i64 6] ?_; (with_reducible refine (spec_l6Rd_pick.calls k g s0_0 s0_1 6 t101 t109 w0 _ ?side1 ?side2 A4.out).mono ?_); (case side1 => exact qi HI0.out); (case side2 => exact qj HB.out HI0.out); rintro e w57 ⟨rfl, hi, hb, hk⟩; refine ⟨_, rfl, ?_⟩; replace BK112 := q0 (kc hk BK112.out NB112_0.out); replace HO114 := q0 (Kd.R_mono (Kd.R_keep (IsSRd.apart (show IsSRd w0 _ g s0_0 s0_1 from qi HI0.out) (by (with_reducible repeat (first | apply Kd.R_alloc | apply Kd.R_drewN | apply Kd.R_drew)); exact (rf2 HO114.out BK111.out (fun _ h_ => h_.1))) (by decide)) hk (fun _ h => h.2)) (fun _ h => h.1)); replace BK111 := q0 (KeepBut.blk hk (g' := gb111) (o := .cells #[.int .i64 t100, .slice Ao56 t108.length co56] 25 (0, 0)) (by (with_reducible repeat (first | refine blk_drewN ?_ _ | refine blk_drew ?_ | refine blk_alloc ?_ _)); refine blk_put (cs := #[.int .i64 t100, .slice A1_1 l1_1.length c1_1]) ?_ 1 _ rfl; (with_reducible repeat (first | refine blk_drewN ?_ _ | refine blk_drew ?_ | refine blk_alloc ?_ _)); refine blk_put (cs := #[.int .i64 a1_0, .slice A1_1 l1_1.length c1_1]) ?_ 0 _ rfl; (with_reducible repeat (first | refine blk_drewN ?_ _ | refine blk_drew ?_ | refine blk_alloc ?_ _)); exact BK111.out) NB111_0.out (by simp)); replace HK := q0 (KeepBut.trans (qh HK.out) hk (.inl rfl)); replace HB := q0 (hb); replace HI0 := q0 (hi); (try clear hb); (try clear hb2); (try clear hk); (try clear hi); obtain ⟨hcz58_0, hcz58_1, hfz58_0, hfz58_1⟩ := b2 BK111) | ((with_reducible refine gate_builtin (b := .append) (xs := #[.tmp 39, .tmp 46]) rfl ?_); at_builtin; refine Kd.R_append kTie w.heap.size rfl (.tmp 39) (.tmp 46) 23 32 (.agg #[(.int .i64 0), (.int .i64 0)]) 16 rfl Try.underlying23 info32 rfl (by decide) (by omega) (.slice Ao56 t108.length co56) t108 (⟨wrap64 (t100 - 1), t100⟩ : STie) [.int .i64 (wrap64 (t100 - 1)), .int .i64 t100] (fun _ => True) (fun _ => False) rfl rfl ?aP (fun _ hk => hk.elim) ?aF ?aO (Below.refl _ _) ?aS ?aL ?_; (case aP => exact kTie_mkM _ _ _ (⟨wrap64 (t100 - 1), t100⟩ : STie)); (case aF => exact (fun _ _ => trivial)); (case aO => exact (qr HO114.out)); (case aS => exact (keep_size (w := w) (g := g) (row := none) (qh HK.out))); (case aL => have := LMc48.out; omega); intro v126 w59 ho hb hg hat; rw [← Ny125.out] at ho; replace BK111 := q0 (blk_grown (g := gb111) (o := .cells #[.int .i64 t100, .slice Ao56 t108.length co56] 25 (0, 0)) (qk BK111.out) hg (Kd.R_ne HO114.out BK111.out (by decide))); replace BK112 := q0 (blk_grown (g := gb112) (o := .cells #[.int .i64 0, .slice none 0 0] 25 (0, 0)) (qk BK112.out) hg (Kd.R_ne HO114.out BK112.out (by decide))); replace HB := q0 (below_weaken (qj HB.out HI0.out) HL.out hb); replace HI0 := q0 (IsSRd.grown (qi HI0.out) hg (IsSRd.own_ne HI0.out HO114.out (by decide))); replace HK := q0 (KeepBut.trans (qh HK.out) (KeepBut.of_grown hg g) (Kd.R_base2 HO114.out)); have HO127 := q0 (ho); clear HO114; clear ho hb hg hat; obtain ⟨Ao60, co60, eo60⟩ := Kd.R_slice HO127.out; subst eo60; obtain ⟨hcz61_0, hcz61_1, hfz61_0, hfz61_1⟩ := b2 BK111; have hnb62 := NB112_0.out; have hnc62 := NB0_112.out; obtain ⟨hcz63_0, hcz63_1, hfz63_0, hfz63_1⟩ := b2 BK112))
   refine bodyPost_ret (results_cell_row rfl _ _ gb112 25 #[.int .i64 t100, .slice Ao60 y125.length co60] (0, 0) _ rfl (by (with_reducible repeat (first | refine blk_drewN ?_ _ | refine blk_drew ?_ | refine blk_alloc ?_ _)); refine blk_put (cs := #[.int .i64 t100, .slice none 0 0]) ?_ 1 _ rfl; (with_reducible repeat (first | refine blk_drewN ?_ _ | refine blk_drew ?_ | refine blk_alloc ?_ _)); refine blk_put (cs := #[.int .i64 0, .slice none 0 0]) ?_ 0 _ rfl; (with_reducible repeat (first | refine blk_drewN ?_ _ | refine blk_drew ?_ | refine blk_alloc ?_ _)); refine blk_far ?_ NB112_111.out _; (with_reducible repeat (first | refine blk_drewN ?_ _ | refine blk_drew ?_ | refine blk_alloc ?_ _)); exact BK112.out) Try.underlying25 rfl (by kernel_rfl)) rfl ?_
   exact ⟨_, qe, by (with_reducible repeat (first | apply Kd.R_alloc | apply Kd.R_drewN | apply Kd.R_drew)); exact Kd.R_mono (Kd.R_far (p := ⟨gb112, 1, none⟩) (Kd.R_far (p := ⟨gb112, 0, none⟩) (Kd.R_far (p := ⟨gb111, 1, none⟩) (Kd.R_types (Kd.R_types HO127.out BK111.out (by decide)) BK112.out (by decide)) (fun _ hk => hk.1.2) (.slice Ao60 y125.length co60)) (fun _ hk => hk.2) (.int .i64 t100)) (fun _ hk => hk.2) (.slice Ao60 y125.length co60)) (fun _ hk => trivial), qi HI0.out, qj HB.out HI0.out, by repeat (first | (with_reducible first | exact HK.out | apply KeepBut.set_ | apply keep_drewN | apply keep_drew | apply keep_alloc | refine keep_far ?_ GW111.out _ | refine keep_far ?_ GW112.out _) | exact HK.out)⟩
 rw [if_neg c47] at H
 have c47b0 : (t101 == 2) = false := beq_eq_false_iff_ne.mpr c47
 have c47b1 : (t101 != 2) = true := bne_iff_ne.mpr c47
 by_cases c64 : t101 = 3
 rotate_left
 · rw [if_neg c64] at H
   have c64b0 : (t101 == 3) = false := beq_eq_false_iff_ne.mpr c64
   have c64b1 : (t101 != 3) = true := bne_iff_ne.mpr c64
   by_cases c99 : t101 = 4
   rotate_left
   · rw [if_neg c99] at H
     have c99b0 : (t101 == 4) = false := beq_eq_false_iff_ne.mpr c99
     have c99b1 : (t101 != 4) = true := bne_iff_ne.mpr c99
     obtain ⟨y107, hy107⟩ : ∃ y_ : List (STie), y_ = (([(⟨(-1), 0⟩ : STie)] : List (STie))) := ⟨_, rfl⟩
     replace H : (if y107.length + t108.length < 8796093022208 then (some (t100, (y107 ++ t108), t109)) else (none)) = some (r1, r2, r3) := qy H hy107
     have Ny107 := q0 hy107
     clear hy107
     obtain ⟨c169, H⟩ : (y107.length + t108.length < 8796093022208) ∧ _ := og H
     have LMc169 := q0 c169
     clear c169
     obtain ⟨y170, hy170⟩ : ∃ y_ : List (STie), y_ = (y107 ++ t108) := ⟨_, rfl⟩
     replace H : (some (t100, y170, t109)) = some (r1, r2, r3) := qy H hy170
     have Ny170 := q0 hy170
     clear hy170
     simp only [Option.some.injEq, Prod.mk.injEq] at H
     obtain ⟨rfl, rfl, rfl⟩ := H
     go_enter Try.func20, Try.ntmps20
     go_wp2_with (first | ((with_reducible refine gd 3 ?_); refine be 3 #[.int .i64 a1_0, .slice A1_1 l1_1.length c1_1] 25 ?_; intro gb111 hg w171 hbox hb; replace HB := q0 (below_step (qj HB.out HI0.out) hb); have BK111 := q0 (hbox); have GW111 := q0 ((by rw [hg]; exact (keep_size (w := w) (g := g) (row := none) (qh HK.out)) : w.heap.size ≤ gb111)); have GE111 := q0 ((Nat.le_trans HW0.out (by rw [hg]; exact (keep_size (w := w) (g := g) (row := none) (qh HK.out)) : w.heap.size ≤ gb111) : w0.heap.size ≤ gb111)); replace HK := q0 (KeepBut.trans (qh HK.out) (KeepBut.of_below hb g none) (.inl rfl)); have NB0_111 := q0 ((by rw [hg]; exact Nat.ne_of_lt (IsSRd.lt (show IsSRd w0 _ g s0_0 s0_1 from qi HI0.out)) : g ≠ gb111)); have NB111_0 := q0 ((by rw [hg]; exact Nat.ne_of_gt (IsSRd.lt (show IsSRd w0 _ g s0_0 s0_1 from qi HI0.out)) : gb111 ≠ g)); replace HI0 := q0 (IsSRd.below (qi HI0.out) hb); clear hb hbox hg) | ((with_reducible refine gd 4 ?_); refine be 4 #[.int .i64 0, .slice none 0 0] 25 ?_; intro gb112 hg w172 hbox hb; replace HB := q0 (below_step (qj HB.out HI0.out) hb); have BK112 := q0 (hbox); have GW112 := q0 ((by rw [hg]; exact (keep_size (w := w) (g := g) (row := none) (qh HK.out)) : w.heap.size ≤ gb112)); have GE112 := q0 ((Nat.le_trans HW0.out (by rw [hg]; exact (keep_size (w := w) (g := g) (row := none) (qh HK.out)) : w.heap.size ≤ gb112) : w0.heap.size ≤ gb112)); replace HK := q0 (KeepBut.trans (qh HK.out) (KeepBut.of_below hb g none) (.inl rfl)); have NB111_112 := nl BK111 hg; have NB112_111 := ng BK111 hg; replace BK111 := kd BK111 hb; have NB0_112 := q0 ((by rw [hg]; exact Nat.ne_of_lt (IsSRd.lt (show IsSRd w0 _ g s0_0 s0_1 from qi HI0.out)) : g ≠ gb112)); have NB112_0 := q0 ((by rw [hg]; exact Nat.ne_of_gt (IsSRd.lt (show IsSRd w0 _ g s0_0 s0_1 from qi HI0.out)) : gb112 ≠ g)); replace HI0 := q0 (IsSRd.below (qi HI0.out) hb); clear hb hbox hg; have hnb173 := NB111_112.out; have hnc173 := NB112_111.out; have hnb174 := NB111_0.out; have hnc174 := NB0_111.out; obtain ⟨hcz175_0, hcz175_1, hfz175_0, hfz175_1⟩ := b2 BK111) | ((with_reducible refine gf 30 ?_); refine gl 7 Try.func30 #[.agg #[.int .i64 a1_0, .slice A1_1 l1_1.length c1_1]] ?_; (with_reducible refine (spec_l1Copy.calls a1_0 _ _ l1_1 t100 t108 _ ?side1 ?side2 A3.out).mono ?_); (case side1 => exact Kd.C_foot_now HR1_1.out (qh HK.out)); (case side2 => exact HC1_1.out); rintro e w176 ⟨v113, rfl, ho0, hb⟩; refine ⟨_, rfl, ?_⟩; have HO114 := q0 (Kd.R_lower ho0 (keep_size (w := w) (g := g) (row := none) (qh HK.out))); replace BK111 := kd BK111 hb; replace BK112 := kd BK112 hb; replace HK := q0 (KeepBut.trans (qh HK.out) (KeepBut.of_below hb g none) (.inl rfl)); replace HB := q0 (below_step (qj HB.out HI0.out) hb); replace HI0 := q0 (IsSRd.below (qi HI0.out) hb); (try clear hb); (try clear hb2); (try clear hk); (try clear hi); (try clear ho0); obtain ⟨hcz177_0, hcz177_1, hfz177_0, hfz177_1⟩ := b2 BK111; obtain ⟨Ao178, co178, eo178⟩ := Kd.R_slice HO114.out; subst eo178) | ((with_reducible refine gf 19 ?_); refine gl 9 Try.func19 #[.pointer (some ⟨g, 0, none⟩), .int .i64 6] ?_; (with_reducible refine (spec_l6Rd_pick.calls k g s0_0 s0_1 6 t101 t109 w0 _ ?side1 ?side2 A4.out).mono ?_); (case side1 => exact qi HI0.out); (case side2 => exact qj HB.out HI0.out); rintro e w179 ⟨rfl, hi, hb, hk⟩; refine ⟨_, rfl, ?_⟩; replace BK112 := q0 (kc hk BK112.out NB112_0.out); replace HO114 := q0 (Kd.R_mono (Kd.R_keep (IsSRd.apart (show IsSRd w0 _ g s0_0 s0_1 from qi HI0.out) (by (with_reducible repeat (first | apply Kd.R_alloc | apply Kd.R_drewN | apply Kd.R_drew)); exact (rf2 HO114.out BK111.out (fun _ h_ => h_.1))) (by decide)) hk (fun _ h => h.2)) (fun _ h => h.1)); replace BK111 := q0 (KeepBut.blk hk (g' := gb111) (o := .cells #[.int .i64 t100, .slice Ao178 t108.length co178] 25 (0, 0)) (by (with_reducible repeat (first | refine blk_drewN ?_ _ | refine blk_drew ?_ | refine blk_alloc ?_ _)); refine blk_put (cs := #[.int .i64 t100, .slice A1_1 l1_1.length c1_1]) ?_ 1 _ rfl; (with_reducible repeat (first | refine blk_drewN ?_ _ | refine blk_drew ?_ | refine blk_alloc ?_ _)); refine blk_put (cs := #[.int .i64 a1_0, .slice A1_1 l1_1.length c1_1]) ?_ 0 _ rfl; (with_reducible repeat (first | refine blk_drewN ?_ _ | refine blk_drew ?_ | refine blk_alloc ?_ _)); exact BK111.out) NB111_0.out (by simp)); replace HK := q0 (KeepBut.trans (qh HK.out) hk (.inl rfl)); replace HB := q0 (hb); replace HI0 := q0 (hi); (try clear hb); (try clear hb2); (try clear hk); (try clear hi)) | ((with_reducible refine gd 11 ?_); refine Kd.R_lit kTie _ 32 ?hg (N := 11) ?hd (xs := ([(⟨(-1), 0⟩ : STie)] : List (STie))) (inner := [.int .i64 (-1), .int .i64 0]) (ok := fun _ => True) (okp := fun _ => True) ?hr ?hp (fun _ hk => hk) trivial (Below.refl _ _) (Nat.le_refl _) (by simp) ?_; (case hd => rfl); (case hg => rfl); (case hr => first | (go_simp; done) | (go_simp; rfl)); (case hp => exact (Reps.c2 (show Kd.M kTie _ _ _ (⟨(-1), 0⟩ : STie) [.int .i64 (-1), .int .i64 0] from (kTie_mkM _ _ _ (⟨(-1), 0⟩ : STie) )) (Reps.none _ _))); intro v180 w181 ho182 hb hg_ hnew_; clear hg_ hnew_; (first | rw [← Ny107.out] at ho182 | (simp only [Int.reduceToNat] at ho182; rw [← Ny107.out] at ho182)); have HO183 := q0 (Kd.R_lower (Kd.R_new' ho182 (Kd.R_lt (qr HO114.out))) (keep_size (w := w) (g := g) (row := none) (qh HK.out))); replace HO114 := q0 (Kd.R_elder' (qr HO114.out) (Kd.R_base ho182) hb); replace BK111 := kd BK111 hb; replace BK112 := kd BK112 hb; replace HK := q0 (KeepBut.trans (qh HK.out) (KeepBut.of_below hb g none) (.inl rfl)); replace HB := q0 (below_step (qj HB.out HI0.out) hb); replace HI0 := q0 (IsSRd.below (qi HI0.out) hb); clear hb ho182; obtain ⟨hcz184_0, hcz184_1, hfz184_0, hfz184_1⟩ := b2 BK111) | ((with_reducible refine gate_builtin (b := .append) (xs := #[.tmp 11, .tmp 13]) rfl ?_); at_builtin; refine Kd.R_append_rows kTie w.heap.size rfl (.tmp 11) (.tmp 13) 23 32 (.agg #[(.int .i64 0), (.int .i64 0)]) 16 rfl Try.underlying23 info32 rfl (by decide) (by omega) v180 y107 t108 _ _ _ (fun k_ => some k_ ≠ (.slice Ao178 t108.length co178 : Value).ownBlock) (fun _ => False) rfl rfl ?aO ?aR (fun _ _ h => h) (fun _ h => h.elim) ?aF (Below.refl _ _) ?aS ?aL ?_; (case aR => repeat (first | exact (Kd.R_reads' HO114.out).2.2 | (with_reducible refine Kd.C_alloc ?_ _) | (with_reducible refine Kd.C_drewN ?_ _) | (with_reducible refine Kd.C_drew ?_))); (case aF => exact (fun k_ hk => Kd.fresh' (Kd.R_lt (qr HO114.out)) k_ hk)); (case aO => exact (by (with_reducible repeat (first | apply Kd.R_alloc | apply Kd.R_drewN | apply Kd.R_drew)); exact Kd.R_mono HO183.out (fun _ hk => hk.2))); (case aS => exact (keep_size (w := w) (g := g) (row := none) (qh HK.out))); (case aL => have := LMc169.out; omega); intro v185 w186 ho hb hg hat; rw [← Ny170.out] at ho; replace BK111 := q0 (blk_grown (g := gb111) (o := .cells #[.int .i64 t100, .slice Ao178 t108.length co178] 25 (0, 0)) (qk BK111.out) hg (Kd.R_ne HO183.out BK111.out (by decide))); replace BK112 := q0 (blk_grown (g := gb112) (o := .cells #[.int .i64 0, .slice none 0 0] 25 (0, 0)) (qk BK112.out) hg (Kd.R_ne HO183.out BK112.out (by decide))); replace HO114 := q0 (Kd.R_after (ok := (fun _ => True)) (qr HO114.out) hg hat); replace HB := q0 (below_weaken (qj HB.out HI0.out) HL.out hb); replace HI0 := q0 (IsSRd.grown (qi HI0.out) hg (IsSRd.own_ne HI0.out HO183.out (by decide))); replace HK := q0 (KeepBut.trans (qh HK.out) (KeepBut.of_grown hg g) (Kd.R_base2 HO183.out)); have HO187 := q0 (ho); clear HO183; clear ho hb hg hat; obtain ⟨Ao188, co188, eo188⟩ := Kd.R_slice HO187.out; subst eo188; obtain ⟨hcz189_0, hcz189_1, hfz189_0, hfz189_1⟩ := b2 BK111; have hnb190 := NB112_0.out; have hnc190 := NB0_112.out; obtain ⟨hcz191_0, hcz191_1, hfz191_0, hfz191_1⟩ := b2 BK112))
     refine bodyPost_ret (results_cell_row rfl _ _ gb112 25 #[.int .i64 t100, .slice Ao188 y170.length co188] (0, 0) _ rfl (by (with_reducible repeat (first | refine blk_drewN ?_ _ | refine blk_drew ?_ | refine blk_alloc ?_ _)); refine blk_put (cs := #[.int .i64 t100, .slice none 0 0]) ?_ 1 _ rfl; (with_reducible repeat (first | refine blk_drewN ?_ _ | refine blk_drew ?_ | refine blk_alloc ?_ _)); refine blk_put (cs := #[.int .i64 0, .slice none 0 0]) ?_ 0 _ rfl; (with_reducible repeat (first | refine blk_drewN ?_ _ | refine blk_drew ?_ | refine blk_alloc ?_ _)); refine blk_far ?_ NB112_111.out _; (with_reducible repeat (first | refine blk_drewN ?_ _ | refine blk_drew ?_ | refine blk_alloc ?_ _)); exact BK112.out) Try.underlying25 rfl (by kernel_rfl)) rfl ?_
     exact ⟨_, qe, by (with_reducible repeat (first | apply Kd.R_alloc | apply Kd.R_drewN | apply Kd.R_drew)); exact Kd.R_mono (Kd.R_far (p := ⟨gb112, 1, none⟩) (Kd.R_far (p := ⟨gb112, 0, none⟩) (Kd.R_far (p := ⟨gb111, 1, none⟩) (Kd.R_types (Kd.R_types HO187.out BK111.out (by decide)) BK112.out (by decide)) (fun _ hk => hk.1.2) (.slice Ao188 y170.length co188)) (fun _ hk => hk.2) (.int .i64 t100)) (fun _ hk => hk.2) (.slice Ao188 y170.length co188)) (fun _ hk => trivial), qi HI0.out, qj HB.out HI0.out, by repeat (first | (with_reducible first | exact HK.out | apply KeepBut.set_ | apply keep_drewN | apply keep_drew | apply keep_alloc | refine keep_far ?_ GW111.out _ | refine keep_far ?_ GW112.out _) | exact HK.out)⟩
   rw [if_pos c99] at H
   have c99b0 : (t101 == 4) = true := beq_iff_eq.mpr c99
   have c99b1 : (t101 != 4) = false := bne_eq_false_iff_eq.mpr c99
   clear c99
   by_cases c133 : (t108.length : Int) > 1
   rotate_left
   · rw [if_neg c133] at H
     have c133b0 := decide_eq_false c133
     have c133b1 : decide (1 < t108.length) = false := decide_eq_false (by omega)
     clear c133
     simp only [Option.some.injEq, Prod.mk.injEq] at H
     obtain ⟨rfl, rfl, rfl⟩ := H
     go_enter Try.func20, Try.ntmps20
     go_wp2_with (first | ((with_reducible refine gd 3 ?_); refine be 3 #[.int .i64 a1_0, .slice A1_1 l1_1.length c1_1] 25 ?_; intro gb111 hg w157 hbox hb; replace HB := q0 (below_step (qj HB.out HI0.out) hb); have BK111 := q0 (hbox); have GW111 := q0 ((by rw [hg]; exact (keep_size (w := w) (g := g) (row := none) (qh HK.out)) : w.heap.size ≤ gb111)); have GE111 := q0 ((Nat.le_trans HW0.out (by rw [hg]; exact (keep_size (w := w) (g := g) (row := none) (qh HK.out)) : w.heap.size ≤ gb111) : w0.heap.size ≤ gb111)); replace HK := q0 (KeepBut.trans (qh HK.out) (KeepBut.of_below hb g none) (.inl rfl)); have NB0_111 := q0 ((by rw [hg]; exact Nat.ne_of_lt (IsSRd.lt (show IsSRd w0 _ g s0_0 s0_1 from qi HI0.out)) : g ≠ gb111)); have NB111_0 := q0 ((by rw [hg]; exact Nat.ne_of_gt (IsSRd.lt (show IsSRd w0 _ g s0_0 s0_1 from qi HI0.out)) : gb111 ≠ g)); replace HI0 := q0 (IsSRd.below (qi HI0.out) hb); clear hb hbox hg) | ((with_reducible refine gd 4 ?_); refine be 4 #[.int .i64 0, .slice none 0 0] 25 ?_; intro gb112 hg w158 hbox hb; replace HB := q0 (below_step (qj HB.out HI0.out) hb); have BK112 := q0 (hbox); have GW112 := q0 ((by rw [hg]; exact (keep_size (w := w) (g := g) (row := none) (qh HK.out)) : w.heap.size ≤ gb112)); have GE112 := q0 ((Nat.le_trans HW0.out (by rw [hg]; exact (keep_size (w := w) (g := g) (row := none) (qh HK.out)) : w.heap.size ≤ gb112) : w0.heap.size ≤ gb112)); replace HK := q0 (KeepBut.trans (qh HK.out) (KeepBut.of_below hb g none) (.inl rfl)); have NB111_112 := nl BK111 hg; have NB112_111 := ng BK111 hg; replace BK111 := kd BK111 hb; have NB0_112 := q0 ((by rw [hg]; exact Nat.ne_of_lt (IsSRd.lt (show IsSRd w0 _ g s0_0 s0_1 from qi HI0.out)) : g ≠ gb112)); have NB112_0 := q0 ((by rw [hg]; exact Nat.ne_of_gt (IsSRd.lt (show IsSRd w0 _ g s0_0 s0_1 from qi HI0.out)) : gb112 ≠ g)); replace HI0 := q0 (IsSRd.below (qi HI0.out) hb); clear hb hbox hg; have hnb159 := NB111_112.out; have hnc159 := NB112_111.out; have hnb160 := NB111_0.out; have hnc160 := NB0_111.out; obtain ⟨hcz161_0, hcz161_1, hfz161_0, hfz161_1⟩ := b2 BK111) | ((with_reducible refine gf 30 ?_); refine gl 7 Try.func30 #[.agg #[.int .i64 a1_0, .slice A1_1 l1_1.length c1_1]] ?_; (with_reducible refine (spec_l1Copy.calls a1_0 _ _ l1_1 t100 t108 _ ?side1 ?side2 A3.out).mono ?_); (case side1 => exact Kd.C_foot_now HR1_1.out (qh HK.out)); (case side2 => exact HC1_1.out); rintro e w162 ⟨v113, rfl, ho0, hb⟩; refine ⟨_, rfl, ?_⟩; have HO114 := q0 (Kd.R_lower ho0 (keep_size (w := w) (g := g) (row := none) (qh HK.out))); replace BK111 := kd BK111 hb; replace BK112 := kd BK112 hb; replace HK := q0 (KeepBut.trans (qh HK.out) (KeepBut.of_below hb g none) (.inl rfl)); replace HB := q0 (below_step (qj HB.out HI0.out) hb); replace HI0 := q0 (IsSRd.below (qi HI0.out) hb); (try clear hb); (try clear hb2); (try clear hk); (try clear hi); (try clear ho0); obtain ⟨hcz163_0, hcz163_1, hfz163_0, hfz163_1⟩ := b2 BK111; obtain ⟨Ao164, co164, eo164⟩ := Kd.R_slice HO114.out; subst eo164) | ((with_reducible refine gf 19 ?_); refine gl 9 Try.func19 #[.pointer (some ⟨g, 0, none⟩), .int .i64 6] ?_; (with_reducible refine (spec_l6Rd_pick.calls k g s0_0 s0_1 6 t101 t109 w0 _ ?side1 ?side2 A4.out).mono ?_); (case side1 => exact qi HI0.out); (case side2 => exact qj HB.out HI0.out); rintro e w165 ⟨rfl, hi, hb, hk⟩; refine ⟨_, rfl, ?_⟩; replace BK112 := q0 (kc hk BK112.out NB112_0.out); replace HO114 := q0 (Kd.R_mono (Kd.R_keep (IsSRd.apart (show IsSRd w0 _ g s0_0 s0_1 from qi HI0.out) (by (with_reducible repeat (first | apply Kd.R_alloc | apply Kd.R_drewN | apply Kd.R_drew)); exact (rf2 HO114.out BK111.out (fun _ h_ => h_.1))) (by decide)) hk (fun _ h => h.2)) (fun _ h => h.1)); replace BK111 := q0 (KeepBut.blk hk (g' := gb111) (o := .cells #[.int .i64 t100, .slice Ao164 t108.length co164] 25 (0, 0)) (by (with_reducible repeat (first | refine blk_drewN ?_ _ | refine blk_drew ?_ | refine blk_alloc ?_ _)); refine blk_put (cs := #[.int .i64 t100, .slice A1_1 l1_1.length c1_1]) ?_ 1 _ rfl; (with_reducible repeat (first | refine blk_drewN ?_ _ | refine blk_drew ?_ | refine blk_alloc ?_ _)); refine blk_put (cs := #[.int .i64 a1_0, .slice A1_1 l1_1.length c1_1]) ?_ 0 _ rfl; (with_reducible repeat (first | refine blk_drewN ?_ _ | refine blk_drew ?_ | refine blk_alloc ?_ _)); exact BK111.out) NB111_0.out (by simp)); replace HK := q0 (KeepBut.trans (qh HK.out) hk (.inl rfl)); replace HB := q0 (hb); replace HI0 := q0 (hi); (try clear hb); (try clear hb2); (try clear hk); (try clear hi); obtain ⟨hcz166_0, hcz166_1, hfz166_0, hfz166_1⟩ := b2 BK111; have hnb167 := NB112_0.out; have hnc167 := NB0_112.out; obtain ⟨hcz168_0, hcz168_1, hfz168_0, hfz168_1⟩ := b2 BK112))
     refine bodyPost_ret (results_cell_row rfl _ _ gb112 25 #[.int .i64 t100, .slice Ao164 t108.length co164] (0, 0) _ rfl (by (with_reducible repeat (first | refine blk_drewN ?_ _ | refine blk_drew ?_ | refine blk_alloc ?_ _)); refine blk_put (cs := #[.int .i64 t100, .slice none 0 0]) ?_ 1 _ rfl; (with_reducible repeat (first | refine blk_drewN ?_ _ | refine blk_drew ?_ | refine blk_alloc ?_ _)); refine blk_put (cs := #[.int .i64 0, .slice none 0 0]) ?_ 0 _ rfl; (with_reducible repeat (first | refine blk_drewN ?_ _ | refine blk_drew ?_ | refine blk_alloc ?_ _)); exact BK112.out) Try.underlying25 rfl (by kernel_rfl)) rfl ?_
     exact ⟨_, qe, by (with_reducible repeat (first | apply Kd.R_alloc | apply Kd.R_drewN | apply Kd.R_drew)); exact rf2 HO114.out BK112.out (fun _ hk => trivial), qi HI0.out, qj HB.out HI0.out, by repeat (first | (with_reducible first | exact HK.out | apply KeepBut.set_ | apply keep_drewN | apply keep_drew | apply keep_alloc | refine keep_far ?_ GW111.out _ | refine keep_far ?_ GW112.out _) | exact HK.out)⟩
   rw [if_pos c133] at H
   have c133b0 := decide_eq_true c133
   have c133b1 : decide (1 < t108.length) = true := decide_eq_true (by omega)
   clear c133
   obtain ⟨c134, H⟩ : (0 < (t108.length : Int)) ∧ _ := og H
   have c134b0 := decide_eq_true c134
   have c134b1 : decide (0 < t108.length) = true := decide_eq_true (by omega)
   clear c134
   obtain ⟨c135, H⟩ : (t108.length < 8796093022208) ∧ _ := og H
   have LMc135 := q0 c135
   clear c135
   obtain ⟨y136, hy136⟩ : ∃ y_ : List (STie), y_ = (t108 ++ [(⟨(rd_TTie t108 0).f0, (rd_TTie t108 0).f1⟩ : STie)]) := ⟨_, rfl⟩
   replace H : (some (t100, y136, t109)) = some (r1, r2, r3) := qy H hy136
   have Ny136 := q0 hy136
   clear hy136
   simp only [Option.some.injEq, Prod.mk.injEq] at H
   obtain ⟨rfl, rfl, rfl⟩ := H
   go_enter Try.func20, Try.ntmps20
   try go_wp2_with (first | ((with_reducible refine gd 3 ?_); refine be 3 #[.int .i64 a1_0, .slice A1_1 l1_1.length c1_1] 25 ?_; intro gb111 hg w137 hbox hb; replace HB := q0 (below_step (qj HB.out HI0.out) hb); have BK111 := q0 (hbox); have GW111 := q0 ((by rw [hg]; exact (keep_size (w := w) (g := g) (row := none) (qh HK.out)) : w.heap.size ≤ gb111)); have GE111 := q0 ((Nat.le_trans HW0.out (by rw [hg]; exact (keep_size (w := w) (g := g) (row := none) (qh HK.out)) : w.heap.size ≤ gb111) : w0.heap.size ≤ gb111)); replace HK := q0 (KeepBut.trans (qh HK.out) (KeepBut.of_below hb g none) (.inl rfl)); have NB0_111 := q0 ((by rw [hg]; exact Nat.ne_of_lt (IsSRd.lt (show IsSRd w0 _ g s0_0 s0_1 from qi HI0.out)) : g ≠ gb111)); have NB111_0 := q0 ((by rw [hg]; exact Nat.ne_of_gt (IsSRd.lt (show IsSRd w0 _ g s0_0 s0_1 from qi HI0.out)) : gb111 ≠ g)); replace HI0 := q0 (IsSRd.below (qi HI0.out) hb); clear hb hbox hg) | ((with_reducible refine gd 4 ?_); refine be 4 #[.int .i64 0, .slice none 0 0] 25 ?_; intro gb112 hg w138 hbox hb; replace HB := q0 (below_step (qj HB.out HI0.out) hb); have BK112 := q0 (hbox); have GW112 := q0 ((by rw [hg]; exact (keep_size (w := w) (g := g) (row := none) (qh HK.out)) : w.heap.size ≤ gb112)); have GE112 := q0 ((Nat.le_trans HW0.out (by rw [hg]; exact (keep_size (w := w) (g := g) (row := none) (qh HK.out)) : w.heap.size ≤ gb112) : w0.heap.size ≤ gb112)); replace HK := q0 (KeepBut.trans (qh HK.out) (KeepBut.of_below hb g none) (.inl rfl)); have NB111_112 := nl BK111 hg; have NB112_111 := ng BK111 hg; replace BK111 := kd BK111 hb; have NB0_112 := q0 ((by rw [hg]; exact Nat.ne_of_lt (IsSRd.lt (show IsSRd w0 _ g s0_0 s0_1 from qi HI0.out)) : g ≠ gb112)); have NB112_0 := q0 ((by rw [hg]; exact Nat.ne_of_gt (IsSRd.lt (show IsSRd w0 _ g s0_0 s0_1 from qi HI0.out)) : gb112 ≠ g)); replace HI0 := q0 (IsSRd.below (qi HI0.out) hb); clear hb hbox hg; have hnb139 := NB111_112.out; have hnc139 := NB112_111.out; have hnb140 := NB111_0.out; have hnc140 := NB0_111.out; obtain ⟨hcz141_0, hcz141_1, hfz141_0, hfz141_1⟩ := b2 BK111) | ((with_reducible refine gf 30 ?_); refine gl 7 Try.func30 #[.agg #[.int .i64 a1_0, .slice A1_1 l1_1.length c1_1]] ?_; (with_reducible refine (spec_l1Copy.calls a1_0 _ _ l1_1 t100 t108 _ ?side1 ?side2 A3.out).mono ?_); (case side1 => exact Kd.C_foot_now HR1_1.out (qh HK.out)); (case side2 => exact HC1_1.out); rintro e w142 ⟨v113, rfl, ho0, hb⟩; refine ⟨_, rfl, ?_⟩; have HO114 := q0 (Kd.R_lower ho0 (keep_size (w := w) (g := g) (row := none) (qh HK.out))); replace BK111 := kd BK111 hb; replace BK112 := kd BK112 hb; replace HK := q0 (KeepBut.trans (qh HK.out) (KeepBut.of_below hb g none) (.inl rfl)); replace HB := q0 (below_step (qj HB.out HI0.out) hb); replace HI0 := q0 (IsSRd.below (qi HI0.out) hb); (try clear hb); (try clear hb2); (try clear hk); (try clear hi); (try clear ho0); obtain ⟨hcz143_0, hcz143_1, hfz143_0, hfz143_1⟩ := b2 BK111; obtain ⟨Ao144, co144, eo144⟩ := Kd.R_slice HO114.out; subst eo144) | ((with_reducible refine gf 19 ?_); refine gl 9 Try.func19 #[.pointer (some ⟨g, 0, none⟩), .int .i64 6] ?_; (with_reducible refine (spec_l6Rd_pick.calls k g s0_0 s0_1 6 t101 t109 w0 _ ?side1 ?side2 A4.out).mono ?_); (case side1 => exact qi HI0.out); (case side2 => exact qj HB.out HI0.out); rintro e w145 ⟨rfl, hi, hb, hk⟩; refine ⟨_, rfl, ?_⟩; replace BK112 := q0 (kc hk BK112.out NB112_0.out); replace HO114 := q0 (Kd.R_mono (Kd.R_keep (IsSRd.apart (show IsSRd w0 _ g s0_0 s0_1 from qi HI0.out) (by (with_reducible repeat (first | apply Kd.R_alloc | apply Kd.R_drewN | apply Kd.R_drew)); exact (rf2 HO114.out BK111.out (fun _ h_ => h_.1))) (by decide)) hk (fun _ h => h.2)) (fun _ h => h.1)); replace BK111 := q0 (KeepBut.blk hk (g' := gb111) (o := .cells #[.int .i64 t100, .slice Ao144 t108.length co144] 25 (0, 0)) (by (with_reducible repeat (first | refine blk_drewN ?_ _ | refine blk_drew ?_ | refine blk_alloc ?_ _)); refine blk_put (cs := #[.int .i64 t100, .slice A1_1 l1_1.length c1_1]) ?_ 1 _ rfl; (with_reducible repeat (first | refine blk_drewN ?_ _ | refine blk_drew ?_ | refine blk_alloc ?_ _)); refine blk_put (cs := #[.int .i64 a1_0, .slice A1_1 l1_1.length c1_1]) ?_ 0 _ rfl; (with_reducible repeat (first | refine blk_drewN ?_ _ | refine blk_drew ?_ | refine blk_alloc ?_ _)); exact BK111.out) NB111_0.out (by simp)); replace HK := q0 (KeepBut.trans (qh HK.out) hk (.inl rfl)); replace HB := q0 (hb); replace HI0 := q0 (hi); (try clear hb); (try clear hb2); (try clear hk); (try clear hi); obtain ⟨hcz146_0, hcz146_1, hfz146_0, hfz146_1⟩ := b2 BK111))
   replace HO114 := q0 (Kd.R_drew HO114.out)
   replace BK111 := q0 (blk_drew BK111.out)
   replace BK112 := q0 (blk_drew BK112.out)
   replace HI0 := q0 (IsSRd.drew HI0.out)
   replace HK := q0 (keep_drew HK.out)
   replace HB := q0 (below_drew1 HB.out)
   have p147 : 0 ≤ (0 : Int) := (by omega)
   have q147 : 0 < (t108.length : Int) := of_decide_eq_true qa
   obtain ⟨ad147, e147, hx147_0, hx147_1⟩ := at_TTie (Kd.R_reads' HO114.out).2.2 0 p147 q147
   cases e147
   have qi147 : (0 < t108.length) = True := eq_true (by omega)
   (try rw [show ((0 : Int)).toNat = 0 from rfl] at hx147_0)
   (try rw [show 0 * 2 = 0 from rfl] at hx147_0)
   (try rw [Addr.add_zero'] at hx147_0)
   (try rw [show ((0 : Int)).toNat = 0 from rfl] at hx147_1)
   (try rw [show 0 * 2 = 0 from rfl] at hx147_1)
   (try rw [Addr.add_zero'] at hx147_1)
   replace p147 := eq_true p147
   replace q147 := eq_true q147
   refine start_ (n := 10) (S := fun w' => w'.cell? ⟨gb111, 0, none⟩ = some (.int .i64 t100) ∧ w'.cell? ⟨gb111, 1, none⟩ = some (.slice (some ad147) t108.length co144) ∧ w'.cell? ad147 = some (.int .i64 ((rd_TTie t108 0).f0)) ∧ w'.cell? ⟨ad147.block, ad147.off + 1, none⟩ = some (.int .i64 ((rd_TTie t108 0).f1))) (ds := [7, 9]) (ba 10 0) (by kernel_rfl) rfl (by kernel_rfl) ⟨bca BK111, bcb BK111, hx147_0, hx147_1⟩ (fun hHeld => ?_); refine with_tabW spec_l71Spoil.tab16 spec_l71Spoil.bits16 (fun HT_ HW_ => ?_)
   generalize w145.drew = w148 at HO114 BK111 BK112 HI0 HK HB hx147_0 hx147_1 hHeld ⊢
   refine pU 0 83 10 1 HT_ ?_
   refine pU 2 85 10 5 HT_ ?_
   refine tU 1 84 10 7 HT_ HW_ hHeld ?_
   refine tU 3 86 10 15 HT_ HW_ hHeld ?_
   refine pU 4 87 10 31 HT_ ?_
   refine tU 5 88 10 63 HT_ HW_ hHeld ?_
   refine one_ (i := 6) (N := some 89) (ba 10 127) rfl rfl (one_of HT_.out (by kernel_rfl)) (by decide) (fun K hK => ?_)
   refine value_ (w1 := ?_) (v := ?_) (by rfl) rfl ?_ ?_
   rotate_left 2
   · go_simp
     constructor
     · rfl
     · rfl
   refine hK.out _ _ ⟨(blk_cell (blk_alloc BK111.out _) 0).trans rfl, (blk_cell (blk_alloc BK111.out _) 1).trans rfl, (World.cell?_alloc_lt _ _ _ (World.block_lt_of_cell? _ _ (hHeld.2.2.1))).trans (hHeld.2.2.1), (World.cell?_alloc_lt _ _ _ (World.block_lt_of_cell? _ _ (hHeld.2.2.2))).trans (hHeld.2.2.2)⟩ (fun hHeld => ?_)
   clear hK K
   refine nu 89 ?_
   refine last_ (i := 7) (N := some 90) (ba 10 255) rfl rfl (one_of HT_.out (by kernel_rfl)) (by decide) (fun K hK => ?_)
   refine Kd.R_append_step kTie w.heap.size (by rfl) (.tmp 84) (.tmp 89) 23 32 (.agg #[(.int .i64 0), (.int .i64 0)]) 16 rfl Try.underlying23 info32 rfl (by decide) (by omega) (.slice (some ad147) t108.length co144) t108 (⟨(rd_TTie t108 0).f0, (rd_TTie t108 0).f1⟩ : STie) [.int .i64 ((rd_TTie t108 0).f0), .int .i64 ((rd_TTie t108 0).f1)] (fun _ => True) (fun _ => False) rfl rfl ?aP (fun _ hk => hk.elim) ?aF ?aO (Below.refl _ _) ?aS ?aL ?_
   (case aP => exact kTie_mkM _ _ _ (⟨(rd_TTie t108 0).f0, (rd_TTie t108 0).f1⟩ : STie))
   (case aF => exact (fun _ _ => trivial))
   (case aO => exact (qr HO114.out))
   (case aS => exact (keep_size (w := w) (g := g) (row := none) (qh HK.out)))
   (case aL => have := LMc135.out; omega)
   intro v149 w150 ho hb hg hat
   rw [← Ny136.out] at ho
   replace BK111 := q0 (blk_grown (g := gb111) (o := .cells #[.int .i64 t100, .slice (some ad147) t108.length co144] 25 (0, 0)) (qk BK111.out) hg (Kd.R_ne HO114.out BK111.out (by decide)))
   replace BK112 := q0 (blk_grown (g := gb112) (o := .cells #[.int .i64 0, .slice none 0 0] 25 (0, 0)) (qk BK112.out) hg (Kd.R_ne HO114.out BK112.out (by decide)))
   replace HB := q0 (below_weaken (qj HB.out HI0.out) HL.out hb)
   replace HI0 := q0 (IsSRd.grown (qi HI0.out) hg (IsSRd.own_ne HI0.out HO114.out (by decide)))
   replace HK := q0 (KeepBut.trans (qh HK.out) (KeepBut.of_grown hg g) (Kd.R_base2 HO114.out))
   have HO151 := q0 (ho)
   clear HO114
   clear ho hb hg hat
   obtain ⟨Ao152, co152, eo152⟩ := Kd.R_slice HO151.out
   (first | subst eo152 | (injection eo152 with f1_ f2_ f3_; have f4_ := f1_.symm; have f5_ := f3_.symm; clear f1_ f2_ f3_; subst f4_; subst f5_))
   refine hK.out _ _ ?_
   clear hK K
   refine nu 90 ?_
   refine pU 8 91 10 511 HT_ ?_
   refine last_ (i := 9) (N := none) (ba 10 1023) rfl rfl (one_of HT_.out (by kernel_rfl)) (by decide) (fun K hK => ?_)
   have hs153 : w150.cell? ⟨gb111, 1, none⟩ = some (.slice (some ad147) t108.length co144) := (blk_cell BK111.out 1).trans rfl
   have hfs153 := blk_frozen BK111.out 1
   have hns153_1 := NB112_111.out
   have hms153_1 := NB111_112.out
   refine skip_ (w1 := ?_) (by rfl) rfl ?_ ?_
   rotate_left
   · go_simp
     rfl
   refine hK.out _ _ ?_
   clear hK K
   refine done_ (done_of HT_.out (by kernel_rfl)) ?_
   obtain ⟨hcz154_0, hcz154_1, hfz154_0, hfz154_1⟩ := b2 BK111
   have hnb155 := NB112_0.out
   have hnc155 := NB0_112.out
   obtain ⟨hcz156_0, hcz156_1, hfz156_0, hfz156_1⟩ := b2 BK112
   try go_wp2
   refine bodyPost_ret (results_cell_row rfl _ _ gb112 25 #[.int .i64 t100, .slice Ao152 y136.length co152] (0, 0) _ rfl (by (with_reducible repeat (first | refine blk_drewN ?_ _ | refine blk_drew ?_ | refine blk_alloc ?_ _)); refine blk_put (cs := #[.int .i64 t100, .slice none 0 0]) ?_ 1 _ rfl; (with_reducible repeat (first | refine blk_drewN ?_ _ | refine blk_drew ?_ | refine blk_alloc ?_ _)); refine blk_put (cs := #[.int .i64 0, .slice none 0 0]) ?_ 0 _ rfl; (with_reducible repeat (first | refine blk_drewN ?_ _ | refine blk_drew ?_ | refine blk_alloc ?_ _)); refine blk_far ?_ NB112_111.out _; (with_reducible repeat (first | refine blk_drewN ?_ _ | refine blk_drew ?_ | refine blk_alloc ?_ _)); exact BK112.out) Try.underlying25 rfl (by kernel_rfl)) rfl ?_
   exact ⟨_, qe, by (with_reducible repeat (first | apply Kd.R_alloc | apply Kd.R_drewN | apply Kd.R_drew)); exact Kd.R_mono (Kd.R_far (p := ⟨gb112, 1, none⟩) (Kd.R_far (p := ⟨gb112, 0, none⟩) (Kd.R_far (p := ⟨gb111, 1, none⟩) (Kd.R_types (Kd.R_types HO151.out BK111.out (by decide)) BK112.out (by decide)) (fun _ hk => hk.1.2) (.slice Ao152 y136.length co152)) (fun _ hk => hk.2) (.int .i64 t100)) (fun _ hk => hk.2) (.slice Ao152 y136.length co152)) (fun _ hk => trivial), qi HI0.out, qj HB.out HI0.out, by repeat (first | (with_reducible first | exact HK.out | apply KeepBut.set_ | apply keep_drewN | apply keep_drew | apply keep_alloc | refine keep_far ?_ GW111.out _ | refine keep_far ?_ GW112.out _) | exact HK.out)⟩
 rw [if_pos c64] at H
 have c64b0 : (t101 == 3) = true := beq_iff_eq.mpr c64
 have c64b1 : (t101 != 3) = false := bne_eq_false_iff_eq.mpr c64
 clear c64
 by_cases c65 : (t108.length : Int) > 0
 rotate_left
 · rw [if_neg c65] at H
   have c65b0 := decide_eq_false c65
   have c65b1 : decide (0 < t108.length) = false := decide_eq_false (by omega)
   clear c65
   simp only [Option.some.injEq, Prod.mk.injEq] at H
   obtain ⟨rfl, rfl, rfl⟩ := H
   go_enter Try.func20, Try.ntmps20
   go_wp2_with (first | ((with_reducible refine gd 3 ?_); refine be 3 #[.int .i64 a1_0, .slice A1_1 l1_1.length c1_1] 25 ?_; intro gb111 hg w87 hbox hb; replace HB := q0 (below_step (qj HB.out HI0.out) hb); have BK111 := q0 (hbox); have GW111 := q0 ((by rw [hg]; exact (keep_size (w := w) (g := g) (row := none) (qh HK.out)) : w.heap.size ≤ gb111)); have GE111 := q0 ((Nat.le_trans HW0.out (by rw [hg]; exact (keep_size (w := w) (g := g) (row := none) (qh HK.out)) : w.heap.size ≤ gb111) : w0.heap.size ≤ gb111)); replace HK := q0 (KeepBut.trans (qh HK.out) (KeepBut.of_below hb g none) (.inl rfl)); have NB0_111 := q0 ((by rw [hg]; exact Nat.ne_of_lt (IsSRd.lt (show IsSRd w0 _ g s0_0 s0_1 from qi HI0.out)) : g ≠ gb111)); have NB111_0 := q0 ((by rw [hg]; exact Nat.ne_of_gt (IsSRd.lt (show IsSRd w0 _ g s0_0 s0_1 from qi HI0.out)) : gb111 ≠ g)); replace HI0 := q0 (IsSRd.below (qi HI0.out) hb); clear hb hbox hg) | ((with_reducible refine gd 4 ?_); refine be 4 #[.int .i64 0, .slice none 0 0] 25 ?_; intro gb112 hg w88 hbox hb; replace HB := q0 (below_step (qj HB.out HI0.out) hb); have BK112 := q0 (hbox); have GW112 := q0 ((by rw [hg]; exact (keep_size (w := w) (g := g) (row := none) (qh HK.out)) : w.heap.size ≤ gb112)); have GE112 := q0 ((Nat.le_trans HW0.out (by rw [hg]; exact (keep_size (w := w) (g := g) (row := none) (qh HK.out)) : w.heap.size ≤ gb112) : w0.heap.size ≤ gb112)); replace HK := q0 (KeepBut.trans (qh HK.out) (KeepBut.of_below hb g none) (.inl rfl)); have NB111_112 := nl BK111 hg; have NB112_111 := ng BK111 hg; replace BK111 := kd BK111 hb; have NB0_112 := q0 ((by rw [hg]; exact Nat.ne_of_lt (IsSRd.lt (show IsSRd w0 _ g s0_0 s0_1 from qi HI0.out)) : g ≠ gb112)); have NB112_0 := q0 ((by rw [hg]; exact Nat.ne_of_gt (IsSRd.lt (show IsSRd w0 _ g s0_0 s0_1 from qi HI0.out)) : gb112 ≠ g)); replace HI0 := q0 (IsSRd.below (qi HI0.out) hb); clear hb hbox hg; have hnb89 := NB111_112.out; have hnc89 := NB112_111.out; have hnb90 := NB111_0.out; have hnc90 := NB0_111.out; obtain ⟨hcz91_0, hcz91_1, hfz91_0, hfz91_1⟩ := b2 BK111) | ((with_reducible refine gf 30 ?_); refine gl 7 Try.func30 #[.agg #[.int .i64 a1_0, .slice A1_1 l1_1.length c1_1]] ?_; (with_reducible refine (spec_l1Copy.calls a1_0 _ _ l1_1 t100 t108 _ ?side1 ?side2 A3.out).mono ?_); (case side1 => exact Kd.C_foot_now HR1_1.out (qh HK.out)); (case side2 => exact HC1_1.out); rintro e w92 ⟨v113, rfl, ho0, hb⟩; refine ⟨_, rfl, ?_⟩; have HO114 := q0 (Kd.R_lower ho0 (keep_size (w := w) (g := g) (row := none) (qh HK.out))); replace BK111 := kd BK111 hb; replace BK112 := kd BK112 hb; replace HK := q0 (KeepBut.trans (qh HK.out) (KeepBut.of_below hb g none) (.inl rfl)); replace HB := q0 (below_step (qj HB.out HI0.out) hb); replace HI0 := q0 (IsSRd.below (qi HI0.out) hb); (try clear hb); (try clear hb2); (try clear hk); (try clear hi); (try clear ho0); obtain ⟨hcz93_0, hcz93_1, hfz93_0, hfz93_1⟩ := b2 BK111; obtain ⟨Ao94, co94, eo94⟩ := Kd.R_slice HO114.out; subst eo94) | ((with_reducible refine gf 19 ?_); refine gl 9 Try.func19 #[.pointer (some ⟨g, 0, none⟩), .int .i64 6] ?_; (with_reducible refine (spec_l6Rd_pick.calls k g s0_0 s0_1 6 t101 t109 w0 _ ?side1 ?side2 A4.out).mono ?_); (case side1 => exact qi HI0.out); (case side2 => exact qj HB.out HI0.out); rintro e w95 ⟨rfl, hi, hb, hk⟩; refine ⟨_, rfl, ?_⟩; replace BK112 := q0 (kc hk BK112.out NB112_0.out); replace HO114 := q0 (Kd.R_mono (Kd.R_keep (IsSRd.apart (show IsSRd w0 _ g s0_0 s0_1 from qi HI0.out) (by (with_reducible repeat (first | apply Kd.R_alloc | apply Kd.R_drewN | apply Kd.R_drew)); exact (rf2 HO114.out BK111.out (fun _ h_ => h_.1))) (by decide)) hk (fun _ h => h.2)) (fun _ h => h.1)); replace BK111 := q0 (KeepBut.blk hk (g' := gb111) (o := .cells #[.int .i64 t100, .slice Ao94 t108.length co94] 25 (0, 0)) (by (with_reducible repeat (first | refine blk_drewN ?_ _ | refine blk_drew ?_ | refine blk_alloc ?_ _)); refine blk_put (cs := #[.int .i64 t100, .slice A1_1 l1_1.length c1_1]) ?_ 1 _ rfl; (with_reducible repeat (first | refine blk_drewN ?_ _ | refine blk_drew ?_ | refine blk_alloc ?_ _)); refine blk_put (cs := #[.int .i64 a1_0, .slice A1_1 l1_1.length c1_1]) ?_ 0 _ rfl; (with_reducible repeat (first | refine blk_drewN ?_ _ | refine blk_drew ?_ | refine blk_alloc ?_ _)); exact BK111.out) NB111_0.out (by simp)); replace HK := q0 (KeepBut.trans (qh HK.out) hk (.inl rfl)); replace HB := q0 (hb); replace HI0 := q0 (hi); (try clear hb); (try clear hb2); (try clear hk); (try clear hi); obtain ⟨hcz96_0, hcz96_1, hfz96_0, hfz96_1⟩ := b2 BK111; have hnb97 := NB112_0.out; have hnc97 := NB0_112.out; obtain ⟨hcz98_0, hcz98_1, hfz98_0, hfz98_1⟩ := b2 BK112))
   refine bodyPost_ret (results_cell_row rfl _ _ gb112 25 #[.int .i64 t100, .slice Ao94 t108.length co94] (0, 0) _ rfl (by (with_reducible repeat (first | refine blk_drewN ?_ _ | refine blk_drew ?_ | refine blk_alloc ?_ _)); refine blk_put (cs := #[.int .i64 t100, .slice none 0 0]) ?_ 1 _ rfl; (with_reducible repeat (first | refine blk_drewN ?_ _ | refine blk_drew ?_ | refine blk_alloc ?_ _)); refine blk_put (cs := #[.int .i64 0, .slice none 0 0]) ?_ 0 _ rfl; (with_reducible repeat (first | refine blk_drewN ?_ _ | refine blk_drew ?_ | refine blk_alloc ?_ _)); exact BK112.out) Try.underlying25 rfl (by kernel_rfl)) rfl ?_
   exact ⟨_, qe, by (with_reducible repeat (first | apply Kd.R_alloc | apply Kd.R_drewN | apply Kd.R_drew)); exact rf2 HO114.out BK112.out (fun _ hk => trivial), qi HI0.out, qj HB.out HI0.out, by repeat (first | (with_reducible first | exact HK.out | apply KeepBut.set_ | apply keep_drewN | apply keep_drew | apply keep_alloc | refine keep_far ?_ GW111.out _ | refine keep_far ?_ GW112.out _) | exact HK.out)⟩
 rw [if_pos c65] at H
 have c65b0 := decide_eq_true c65
 have c65b1 : decide (0 < t108.length) = true := decide_eq_true (by omega)
 clear c65
 obtain ⟨⟨t106, t128⟩, A66, H⟩ := ob H
 obtain ⟨c67, H⟩ : (0 ≤ t106) ∧ _ := og H
 have c67b0 := decide_eq_true c67
 clear c67
 obtain ⟨c68, H⟩ : (t106 < (t108.length : Int)) ∧ _ := og H
 have c68b0 := decide_eq_true c68
 clear c68
 obtain ⟨y130, hy130⟩ : ∃ y_ : List (STie), y_ = (t108.set (t106 : Int).toNat (⟨(rd_TTie t108 t106).f1, (rd_TTie t108 t106).f0⟩ : STie)) := ⟨_, rfl⟩
 replace H : (some (t100, y130, t128)) = some (r1, r2, r3) := qy H hy130
 have Ny130 := q0 hy130
 clear hy130
 simp only [Option.some.injEq, Prod.mk.injEq] at H
 obtain ⟨rfl, rfl, rfl⟩ := H
 go_enter Try.func20, Try.ntmps20
 try go_wp2_with (first | ((with_reducible refine gd 3 ?_); refine be 3 #[.int .i64 a1_0, .slice A1_1 l1_1.length c1_1] 25 ?_; intro gb111 hg w70 hbox hb; replace HB := q0 (below_step (qj HB.out HI0.out) hb); have BK111 := q0 (hbox); have GW111 := q0 ((by rw [hg]; exact (keep_size (w := w) (g := g) (row := none) (qh HK.out)) : w.heap.size ≤ gb111)); have GE111 := q0 ((Nat.le_trans HW0.out (by rw [hg]; exact (keep_size (w := w) (g := g) (row := none) (qh HK.out)) : w.heap.size ≤ gb111) : w0.heap.size ≤ gb111)); replace HK := q0 (KeepBut.trans (qh HK.out) (KeepBut.of_below hb g none) (.inl rfl)); have NB0_111 := q0 ((by rw [hg]; exact Nat.ne_of_lt (IsSRd.lt (show IsSRd w0 _ g s0_0 s0_1 from qi HI0.out)) : g ≠ gb111)); have NB111_0 := q0 ((by rw [hg]; exact Nat.ne_of_gt (IsSRd.lt (show IsSRd w0 _ g s0_0 s0_1 from qi HI0.out)) : gb111 ≠ g)); replace HI0 := q0 (IsSRd.below (qi HI0.out) hb); clear hb hbox hg) | ((with_reducible refine gd 4 ?_); refine be 4 #[.int .i64 0, .slice none 0 0] 25 ?_; intro gb112 hg w71 hbox hb; replace HB := q0 (below_step (qj HB.out HI0.out) hb); have BK112 := q0 (hbox); have GW112 := q0 ((by rw [hg]; exact (keep_size (w := w) (g := g) (row := none) (qh HK.out)) : w.heap.size ≤ gb112)); have GE112 := q0 ((Nat.le_trans HW0.out (by rw [hg]; exact (keep_size (w := w) (g := g) (row := none) (qh HK.out)) : w.heap.size ≤ gb112) : w0.heap.size ≤ gb112)); replace HK := q0 (KeepBut.trans (qh HK.out) (KeepBut.of_below hb g none) (.inl rfl)); have NB111_112 := nl BK111 hg; have NB112_111 := ng BK111 hg; replace BK111 := kd BK111 hb; have NB0_112 := q0 ((by rw [hg]; exact Nat.ne_of_lt (IsSRd.lt (show IsSRd w0 _ g s0_0 s0_1 from qi HI0.out)) : g ≠ gb112)); have NB112_0 := q0 ((by rw [hg]; exact Nat.ne_of_gt (IsSRd.lt (show IsSRd w0 _ g s0_0 s0_1 from qi HI0.out)) : gb112 ≠ g)); replace HI0 := q0 (IsSRd.below (qi HI0.out) hb); clear hb hbox hg; have hnb72 := NB111_112.out; have hnc72 := NB112_111.out; have hnb73 := NB111_0.out; have hnc73 := NB0_111.out; obtain ⟨hcz74_0, hcz74_1, hfz74_0, hfz74_1⟩ := b2 BK111) | ((with_reducible refine gf 30 ?_); refine gl 7 Try.func30 #[.agg #[.int .i64 a1_0, .slice A1_1 l1_1.length c1_1]] ?_; (with_reducible refine (spec_l1Copy.calls a1_0 _ _ l1_1 t100 t108 _ ?side1 ?side2 A3.out).mono ?_); (case side1 => exact Kd.C_foot_now HR1_1.out (qh HK.out)); (case side2 => exact HC1_1.out); rintro e w75 ⟨v113, rfl, ho0, hb⟩; refine ⟨_, rfl, ?_⟩; have HO114 := q0 (Kd.R_lower ho0 (keep_size (w := w) (g := g) (row := none) (qh HK.out))); replace BK111 := kd BK111 hb; replace BK112 := kd BK112 hb; replace HK := q0 (KeepBut.trans (qh HK.out) (KeepBut.of_below hb g none) (.inl rfl)); replace HB := q0 (below_step (qj HB.out HI0.out) hb); replace HI0 := q0 (IsSRd.below (qi HI0.out) hb); (try clear hb); (try clear hb2); (try clear hk); (try clear hi); (try clear ho0); obtain ⟨hcz76_0, hcz76_1, hfz76_0, hfz76_1⟩ := b2 BK111; obtain ⟨Ao77, co77, eo77⟩ := Kd.R_slice HO114.out; subst eo77) | ((with_reducible refine gf 19 ?_); refine gl 9 Try.func19 #[.pointer (some ⟨g, 0, none⟩), .int .i64 6] ?_; (with_reducible refine (spec_l6Rd_pick.calls k g s0_0 s0_1 6 t101 t109 w0 _ ?side1 ?side2 A4.out).mono ?_); (case side1 => exact qi HI0.out); (case side2 => exact qj HB.out HI0.out); rintro e w78 ⟨rfl, hi, hb, hk⟩; refine ⟨_, rfl, ?_⟩; replace BK112 := q0 (kc hk BK112.out NB112_0.out); replace HO114 := q0 (Kd.R_mono (Kd.R_keep (IsSRd.apart (show IsSRd w0 _ g s0_0 s0_1 from qi HI0.out) (by (with_reducible repeat (first | apply Kd.R_alloc | apply Kd.R_drewN | apply Kd.R_drew)); exact (rf2 HO114.out BK111.out (fun _ h_ => h_.1))) (by decide)) hk (fun _ h => h.2)) (fun _ h => h.1)); replace BK111 := q0 (KeepBut.blk hk (g' := gb111) (o := .cells #[.int .i64 t100, .slice Ao77 t108.length co77] 25 (0, 0)) (by (with_reducible repeat (first | refine blk_drewN ?_ _ | refine blk_drew ?_ | refine blk_alloc ?_ _)); refine blk_put (cs := #[.int .i64 t100, .slice A1_1 l1_1.length c1_1]) ?_ 1 _ rfl; (with_reducible repeat (first | refine blk_drewN ?_ _ | refine blk_drew ?_ | refine blk_alloc ?_ _)); refine blk_put (cs := #[.int .i64 a1_0, .slice A1_1 l1_1.length c1_1]) ?_ 0 _ rfl; (with_reducible repeat (first | refine blk_drewN ?_ _ | refine blk_drew ?_ | refine blk_alloc ?_ _)); exact BK111.out) NB111_0.out (by simp)); replace HK := q0 (KeepBut.trans (qh HK.out) hk (.inl rfl)); replace HB := q0 (hb); replace HI0 := q0 (hi); (try clear hb); (try clear hb2); (try clear hk); (try clear hi); obtain ⟨hcz79_0, hcz79_1, hfz79_0, hfz79_1⟩ := b2 BK111) | ((with_reducible refine gf 19 ?_); refine gl 59 Try.func19 #[.pointer (some ⟨g, 0, none⟩), .int .i64 (t108.length : Int)] ?_; (with_reducible refine (spec_l6Rd_pick.calls k g s0_0 t109 (t108.length : Int) t106 t128 w0 _ ?side1 ?side2 A66.out).mono ?_); (case side1 => exact qi HI0.out); (case side2 => exact qj HB.out HI0.out); rintro e w80 ⟨rfl, hi, hb, hk⟩; refine ⟨_, rfl, ?_⟩; replace BK111 := q0 (kc hk BK111.out NB111_0.out); replace BK112 := q0 (kc hk BK112.out NB112_0.out); replace HO114 := q0 (Kd.R_mono (Kd.R_keep (IsSRd.apart (show IsSRd w0 _ g s0_0 t109 from qi HI0.out) (qr HO114.out) (by decide)) hk (fun _ h => h.2)) (fun _ h => h.1)); replace HK := q0 (KeepBut.trans (qh HK.out) hk (.inl rfl)); replace HB := q0 (hb); replace HI0 := q0 (hi); (try clear hb); (try clear hb2); (try clear hk); (try clear hi)))
 replace HO114 := q0 (Kd.R_drew HO114.out)
 replace BK111 := q0 (blk_drew BK111.out)
 replace BK112 := q0 (blk_drew BK112.out)
 replace HI0 := q0 (IsSRd.drew HI0.out)
 replace HK := q0 (keep_drew HK.out)
 replace HB := q0 (below_drew1 HB.out)
 have p131 : 0 ≤ (t106 : Int) := of_decide_eq_true qa
 have q131 : t106 < (t108.length : Int) := of_decide_eq_true qa
 obtain ⟨ad131, e131, hx131_0, hx131_1⟩ := at_TTie (Kd.R_reads' HO114.out).2.2 t106 p131 q131
 cases e131
 replace p131 := eq_true p131
 replace q131 := eq_true q131
 have p132 : 0 ≤ (t106 : Int) := of_decide_eq_true qa
 have q132 : t106 < (t108.length : Int) := of_decide_eq_true qa
 obtain ⟨ad132, e132, hx132_0, hx132_1⟩ := at_TTie (Kd.R_reads' HO114.out).2.2 t106 p132 q132
 obtain rfl : ad131 = ad132 := (by injection e132)
 replace p132 := eq_true p132
 replace q132 := eq_true q132
 have p69 : 0 ≤ (t106 : Int) := of_decide_eq_true qa
 have q69 : (t106 : Int) < ((t108.length : Int) : Int) := of_decide_eq_true qa
 obtain ⟨go69, co69, eo69, gb69, gl69, cl69, HG69⟩ := Kd.R_form HO114.out (by omega)
 (first | cases eo69 | (injection eo69 with ea_ en_ ec_; (first | subst ea_ | (injection ea_ with ea_; subst ea_)); subst ec_; clear en_))
 have GB69 := q0 gb69
 have GG69 := q0 HG69
 clear gb69 gl69 HG69
 (first | simp only [add_plain] at hx131_0 | skip)
 (first | simp only [add_plain] at hx131_1 | skip)
 (first | simp only [add_plain] at hx132_0 | skip)
 (first | simp only [add_plain] at hx132_1 | skip)
 obtain ⟨ce69, hcl69, hM69, hcc69, hfr69⟩ := Kd.R_elem HO114.out zTie (t106 : Int) p69 q69
 obtain rfl := kTie_openM hM69
 have hx69_0 : World.cell? _ ⟨go69, (t106 : Int).toNat * 2, none⟩ = some (.int .i64 ((rd_TTie t108 t106).f0)) := hcc69 0 _ rfl
 have hx69_1 : World.cell? _ ⟨go69, (t106 : Int).toNat * 2 + 1, none⟩ = some (.int .i64 ((rd_TTie t108 t106).f1)) := hcc69 1 _ rfl
 have hf69_0 : World.frozen? _ ⟨go69, (t106 : Int).toNat * 2, none⟩ = false := hfr69 0
 have hf69_1 : World.frozen? _ ⟨go69, (t106 : Int).toNat * 2 + 1, none⟩ = false := hfr69 1
 clear hcl69 hcc69 hfr69 hM69
 replace p69 := eq_true p69
 replace q69 := eq_true q69
 have HN0_go69 := q0 (show g ≠ go69 from by have h_ := IsSRd.own_ne HI0.out HO114.out (by decide); intro e_; exact h_ (by rw [e_]; rfl))
 obtain ⟨ce82, hcl82, hM82, hcc82, hfr82⟩ := Kd.R_elem HO114.out zTie (t106 : Int) (of_decide_eq_true qa) (by have h_ : (t106 : Int) < ((t108.length : Int) : Int) := of_decide_eq_true qa; first | exact h_ | (have e_ := (Kd.R_reads' HO114.out).1; omega) | simpa using h_)
 obtain rfl := kTie_openM hM82
 have HP82 := (Kd.R_seg HO114.out (t106 : Int) (of_decide_eq_true qa) (by have h_ : (t106 : Int) < ((t108.length : Int) : Int) := of_decide_eq_true qa; first | exact h_ | (have e_ := (Kd.R_reads' HO114.out).1; omega) | simpa using h_) (seg := [.int .i64 ((rd_TTie t108 t106).f1), .int .i64 ((rd_TTie t108 t106).f0)]) (j := 0) hcl82 hcc82 (show 2 ≤ 2 from by decide) (x' := (⟨(rd_TTie t108 t106).f1, (rd_TTie t108 t106).f0⟩ : STie)) (kTie_mkM _ _ _ (⟨(rd_TTie t108 t106).f1, (rd_TTie t108 t106).f0⟩ : STie) ) (fun _ hk => hk)).1
 rw [← Ny130.out] at HP82
 have HQ82 := q0 HP82
 clear hcl82 hcc82 hfr82 hM82 HP82
 refine start_ (n := 18) (S := fun w' => w'.cell? ⟨gb111, 0, none⟩ = some (.int .i64 t100) ∧ w'.cell? ⟨gb111, 1, none⟩ = some (.slice (some ⟨go69, 0, none⟩) t108.length co77) ∧ w'.cell? ⟨go69, ((t106).toNat * 2), none⟩ = some (.int .i64 ((rd_TTie t108 t106).f0)) ∧ w'.cell? ⟨go69, ((t106).toNat * 2) + 1, none⟩ = some (.int .i64 ((rd_TTie t108 t106).f1)) ∧ w'.cell? ⟨go69, ((t106).toNat * 2), none⟩ = some (.int .i64 ((rd_TTie t108 t106).f0)) ∧ w'.cell? ⟨go69, ((t106).toNat * 2) + 1, none⟩ = some (.int .i64 ((rd_TTie t108 t106).f1))) (ds := [17]) (ba 18 0) (by kernel_rfl) rfl (by kernel_rfl) ⟨bca BK111, bcb BK111, hx131_0, hx131_1, hx132_0, hx132_1⟩ (fun hHeld => ?_); refine with_tabW spec_l71Spoil.tab13 spec_l71Spoil.bits13 (fun HT_ HW_ => ?_)
 generalize w80.drew = w81 at HO114 BK111 BK112 HI0 HK HB GG69 HQ82 hf69_0 hf69_1 hx131_0 hx131_1 hx132_0 hx132_1 hx69_0 hx69_1 hHeld ⊢
 refine pU 0 60 18 1 HT_ ?_
 refine pU 2 62 18 5 HT_ ?_
 refine pU 3 63 18 13 HT_ ?_
 refine pU 5 65 18 45 HT_ ?_
 refine pU 9 69 18 557 HT_ ?_
 refine pU 11 71 18 2605 HT_ ?_
 refine tU 1 61 18 2607 HT_ HW_ hHeld ?_
 refine tU 4 64 18 2623 HT_ HW_ hHeld ?_
 refine pU 6 66 18 2687 HT_ ?_
 refine pU 7 67 18 2815 HT_ ?_
 refine tU 8 68 18 3071 HT_ HW_ hHeld ?_
 refine tU 10 70 18 4095 HT_ HW_ hHeld ?_
 refine pU 12 72 18 8191 HT_ ?_
 refine pU 13 73 18 16383 HT_ ?_
 refine tU 14 74 18 32767 HT_ HW_ hHeld ?_
 refine pU 15 75 18 65535 HT_ ?_
 refine pU 16 76 18 131071 HT_ ?_
 refine last_ (i := 17) (N := none) (ba 18 262143) rfl rfl (one_of HT_.out (by kernel_rfl)) (by decide) (fun K hK => ?_)
 refine skip_ (w1 := ?_) (by rfl) rfl ?_ ?_
 rotate_left
 · go_simp
   rfl
 refine hK.out _ _ ?_
 clear hK K
 refine done_ (done_of HT_.out (by kernel_rfl)) ?_
 have n0_ : Aside0 (Kd.R kTie 32 ((w81.setCell ⟨go69, (t106 : Int).toNat * 2, none⟩ (.int .i64 ((rd_TTie t108 t106).f1))).setCell ⟨go69, (t106 : Int).toNat * 2 + 1, none⟩ (.int .i64 ((rd_TTie t108 t106).f0))) w.heap.size (fun _ => True) (.slice (some ⟨go69, 0, none⟩) t108.length co77) y130) := ⟨by (with_reducible repeat (first | apply Kd.R_alloc | apply Kd.R_drewN | apply Kd.R_drew)); exact HQ82.out⟩
 have n1_ : Aside0 (((w81.setCell ⟨go69, (t106 : Int).toNat * 2, none⟩ (.int .i64 ((rd_TTie t108 t106).f1))).setCell ⟨go69, (t106 : Int).toNat * 2 + 1, none⟩ (.int .i64 ((rd_TTie t108 t106).f0))).heap[gb111]? = some (.cells #[.int .i64 t100, .slice (some ⟨go69, 0, none⟩) t108.length co77] 25 (0, 0))) := ⟨by (with_reducible repeat (first | refine blk_drewN ?_ _ | refine blk_drew ?_ | refine blk_alloc ?_ _)); refine blk_far ?_ (by have h_ := Kd.R_ne HO114.out BK111.out (by decide); intro e_; exact h_ (by rw [e_]; rfl)) _; (with_reducible repeat (first | refine blk_drewN ?_ _ | refine blk_drew ?_ | refine blk_alloc ?_ _)); refine blk_far ?_ (by have h_ := Kd.R_ne HO114.out BK111.out (by decide); intro e_; exact h_ (by rw [e_]; rfl)) _; (with_reducible repeat (first | refine blk_drewN ?_ _ | refine blk_drew ?_ | refine blk_alloc ?_ _)); exact BK111.out⟩
 have n2_ : Aside0 (((w81.setCell ⟨go69, (t106 : Int).toNat * 2, none⟩ (.int .i64 ((rd_TTie t108 t106).f1))).setCell ⟨go69, (t106 : Int).toNat * 2 + 1, none⟩ (.int .i64 ((rd_TTie t108 t106).f0))).heap[gb112]? = some (.cells #[.int .i64 0, .slice none 0 0] 25 (0, 0))) := ⟨by (with_reducible repeat (first | refine blk_drewN ?_ _ | refine blk_drew ?_ | refine blk_alloc ?_ _)); refine blk_far ?_ (by have h_ := Kd.R_ne HO114.out BK112.out (by decide); intro e_; exact h_ (by rw [e_]; rfl)) _; (with_reducible repeat (first | refine blk_drewN ?_ _ | refine blk_drew ?_ | refine blk_alloc ?_ _)); refine blk_far ?_ (by have h_ := Kd.R_ne HO114.out BK112.out (by decide); intro e_; exact h_ (by rw [e_]; rfl)) _; (with_reducible repeat (first | refine blk_drewN ?_ _ | refine blk_drew ?_ | refine blk_alloc ?_ _)); exact BK112.out⟩
 have n3_ : Aside0 (IsSRd w0 ((w81.setCell ⟨go69, (t106 : Int).toNat * 2, none⟩ (.int .i64 ((rd_TTie t108 t106).f1))).setCell ⟨go69, (t106 : Int).toNat * 2 + 1, none⟩ (.int .i64 ((rd_TTie t108 t106).f0))) g s0_0 t128) := ⟨by repeat (first | (with_reducible first | exact HI0.out | apply IsSRd.alloc | apply IsSRd.drewN | apply IsSRd.drew | apply IsSRd.set_1 | refine IsSRd.far ?_ HN0_go69.out _ | refine IsSRd.far ?_ HN0_go69.out _ | refine IsSRd.far ?_ NB0_111.out _ | refine IsSRd.far ?_ NB0_112.out _) | exact HI0.out)⟩
 have n4_ : Aside0 (KeepBut w ((w81.setCell ⟨go69, (t106 : Int).toNat * 2, none⟩ (.int .i64 ((rd_TTie t108 t106).f1))).setCell ⟨go69, (t106 : Int).toNat * 2 + 1, none⟩ (.int .i64 ((rd_TTie t108 t106).f0))) g none) := ⟨by repeat (first | (with_reducible first | exact HK.out | apply KeepBut.set_ | apply keep_drewN | apply keep_drew | apply keep_alloc | refine keep_far ?_ GB69.out _ | refine keep_far ?_ GB69.out _ | refine keep_far ?_ GW111.out _ | refine keep_far ?_ GW112.out _) | exact HK.out)⟩
 have n5_ : Aside0 (Below w0.heap.size w0 ((w81.setCell ⟨go69, (t106 : Int).toNat * 2, none⟩ (.int .i64 ((rd_TTie t108 t106).f1))).setCell ⟨go69, (t106 : Int).toNat * 2 + 1, none⟩ (.int .i64 ((rd_TTie t108 t106).f0)))) := ⟨by repeat (first | (with_reducible first | exact HB.out | apply below_alloc | apply pw_below_drewN | apply below_drew1 | refine below_set ?_ (Nat.le_trans HL.out GB69.out) | refine below_set ?_ (Nat.le_trans HL.out GB69.out) | refine below_set ?_ (IsSRd.ge HI0.out) | refine below_set ?_ GE111.out | refine below_set ?_ GE112.out) | exact HB.out)⟩
 (try clear HO114)
 (try clear BK111)
 (try clear BK112)
 (try clear HI0)
 (try clear HK)
 (try clear HB)
 generalize ((w81.setCell ⟨go69, (t106 : Int).toNat * 2, none⟩ (.int .i64 ((rd_TTie t108 t106).f1))).setCell ⟨go69, (t106 : Int).toNat * 2 + 1, none⟩ (.int .i64 ((rd_TTie t108 t106).f0))) = w83 at n0_ n1_ n2_ n3_ n4_ n5_ ⊢
 have HO114 := n0_
 have BK111 := n1_
 have BK112 := n2_
 have HI0 := n3_
 have HK := n4_
 have HB := n5_
 clear n0_ n1_ n2_ n3_ n4_ n5_
 obtain ⟨hcz84_0, hcz84_1, hfz84_0, hfz84_1⟩ := b2 BK111
 have hnb85 := NB112_0.out
 have hnc85 := NB0_112.out
 obtain ⟨hcz86_0, hcz86_1, hfz86_0, hfz86_1⟩ := b2 BK112
 try go_wp2
 refine bodyPost_ret (results_cell_row rfl _ _ gb112 25 #[.int .i64 t100, .slice (some ⟨go69, 0, none⟩) t108.length co77] (0, 0) _ rfl (by (with_reducible repeat (first | refine blk_drewN ?_ _ | refine blk_drew ?_ | refine blk_alloc ?_ _)); refine blk_put (cs := #[.int .i64 t100, .slice none 0 0]) ?_ 1 _ rfl; (with_reducible repeat (first | refine blk_drewN ?_ _ | refine blk_drew ?_ | refine blk_alloc ?_ _)); refine blk_put (cs := #[.int .i64 0, .slice none 0 0]) ?_ 0 _ rfl; (with_reducible repeat (first | refine blk_drewN ?_ _ | refine blk_drew ?_ | refine blk_alloc ?_ _)); exact BK112.out) Try.underlying25 rfl (by kernel_rfl)) rfl ?_
 exact ⟨_, qe, by (with_reducible repeat (first | apply Kd.R_alloc | apply Kd.R_drewN | apply Kd.R_drew)); exact rf2 HO114.out BK112.out (fun _ hk => trivial), qi HI0.out, qj HB.out HI0.out, by repeat (first | (with_reducible first | exact HK.out | apply KeepBut.set_ | apply keep_drewN | apply keep_drew | apply keep_alloc | refine keep_far ?_ GW111.out _ | refine keep_far ?_ GW112.out _) | exact HK.out)⟩

set_option maxHeartbeats 8000000 in
set_option maxRecDepth 100000 in
theorem spec_l71Any.calls (k : Nat) (g : Nat) (s0_0 : List Int) (s0_1 : Int) (r1 : Int) (r2 : List (STie)) (r3 : Int) (w0 w : World) (hI : IsSRd w0 w g s0_0 s0_1) (hB : Below w0.heap.size w0 w) (h : spec_l71Any.f k s0_0 s0_1 = some (r1, r2, r3)) :
    Calls Try.prog 9 #[.pointer (some ⟨g, 0, none⟩)] w fun e w' => ∃ v1_ : Value, e = .returned (.agg #[.int .i64 r1, v1_]) ∧ Kd.R kTie 32 w' w.heap.size (fun _ => True) v1_ r2 ∧ IsSRd w0 w' g s0_0 r3 ∧ Below w0.heap.size w0 w' ∧ KeepBut w w' g none := by
 have hu25 := Try.underlying25
 have HI0 := q0 hI
 have HK := q0 (KeepBut.refl w g none)
 have HL := q0 hB.size
 clear hI
 have HW0 := q0 hB.size
 have HB := q0 hB
 clear hB
 have H : ((spec_l71Net.f k s0_0 s0_1).bind fun bt100 => ((spec_l6Rd_pick.f k s0_0 bt100.2.2 12).bind fun bt101 => (if bt101.1 = 0 then ((spec_l71Spoil.f k s0_0 bt101.2 bt100.1 bt100.2.1).bind fun bt102 => (some (bt102.1, bt102.2.1, bt102.2.2))) else (some (bt100.1, bt100.2.1, bt101.2))))) = some (r1, r2, r3) := h
 clear h
 obtain ⟨⟨t100, t103, t104⟩, A2, H⟩ := ob H
 obtain ⟨⟨t101, t105⟩, A3, H⟩ := ob H
 by_cases c4 : t101 = 0
 rotate_left
 · rw [if_neg c4] at H
   have c4b0 : (t101 == 0) = false := beq_eq_false_iff_ne.mpr c4
   have c4b1 : (t101 != 0) = true := bne_iff_ne.mpr c4
   simp only [Option.some.injEq, Prod.mk.injEq] at H
   obtain ⟨rfl, rfl, rfl⟩ := H
   go_enter Try.func9, Try.ntmps9
   go_wp2_with (first | ((with_reducible refine gd 2 ?_); refine be 2 #[.int .i64 0, .slice none 0 0] 25 ?_; intro gb108 hg w19 hbox hb; replace HB := q0 (below_step (qj HB.out HI0.out) hb); have BK108 := q0 (hbox); have GW108 := q0 ((by rw [hg]; exact (keep_size (w := w) (g := g) (row := none) (qh HK.out)) : w.heap.size ≤ gb108)); have GE108 := q0 ((Nat.le_trans HW0.out (by rw [hg]; exact (keep_size (w := w) (g := g) (row := none) (qh HK.out)) : w.heap.size ≤ gb108) : w0.heap.size ≤ gb108)); replace HK := q0 (KeepBut.trans (qh HK.out) (KeepBut.of_below hb g none) (.inl rfl)); have NB0_108 := q0 ((by rw [hg]; exact Nat.ne_of_lt (IsSRd.lt (show IsSRd w0 _ g s0_0 s0_1 from qi HI0.out)) : g ≠ gb108)); have NB108_0 := q0 ((by rw [hg]; exact Nat.ne_of_gt (IsSRd.lt (show IsSRd w0 _ g s0_0 s0_1 from qi HI0.out)) : gb108 ≠ g)); replace HI0 := q0 (IsSRd.below (qi HI0.out) hb); clear hb hbox hg) | ((with_reducible refine gf 18 ?_); refine gl 5 Try.func18 #[.pointer (some ⟨g, 0, none⟩)] ?_; (with_reducible refine (spec_l71Net.calls k g s0_0 s0_1 t100 t103 t104 w0 _ ?side1 ?side2 A2.out).mono ?_); (case side1 => exact qi HI0.out); (case side2 => exact qj HB.out HI0.out); rintro e w20 ⟨v109, rfl, ho0, hi, hb, hk⟩; refine ⟨_, rfl, ?_⟩; replace BK108 := q0 (kc hk BK108.out NB108_0.out); have HO110 := q0 (Kd.R_lower ho0 (keep_size (w := w) (g := g) (row := none) (qh HK.out))); replace HK := q0 (KeepBut.trans (qh HK.out) hk (.inl rfl)); replace HB := q0 (hb); replace HI0 := q0 (hi); (try clear hb); (try clear hb2); (try clear hk); (try clear hi); (try clear ho0)) | ((with_reducible refine gd 3 ?_); refine be 3 #[.int .i64 0, .slice none 0 0] 25 ?_; intro gb111 hg w21 hbox hb; replace HO110 := q0 (Kd.R_below (qr HO110.out) hb); replace HB := q0 (below_step (qj HB.out HI0.out) hb); have BK111 := q0 (hbox); have GW111 := q0 ((by rw [hg]; exact (keep_size (w := w) (g := g) (row := none) (qh HK.out)) : w.heap.size ≤ gb111)); have GE111 := q0 ((Nat.le_trans HW0.out (by rw [hg]; exact (keep_size (w := w) (g := g) (row := none) (qh HK.out)) : w.heap.size ≤ gb111) : w0.heap.size ≤ gb111)); replace HK := q0 (KeepBut.trans (qh HK.out) (KeepBut.of_below hb g none) (.inl rfl)); have NB108_111 := nl BK108 hg; have NB111_108 := ng BK108 hg; replace BK108 := kd BK108 hb; have NB0_111 := q0 ((by rw [hg]; exact Nat.ne_of_lt (IsSRd.lt (show IsSRd w0 _ g s0_0 t104 from qi HI0.out)) : g ≠ gb111)); have NB111_0 := q0 ((by rw [hg]; exact Nat.ne_of_gt (IsSRd.lt (show IsSRd w0 _ g s0_0 t104 from qi HI0.out)) : gb111 ≠ g)); replace HI0 := q0 (IsSRd.below (qi HI0.out) hb); clear hb hbox hg; have hnb22 := NB111_108.out; have hnc22 := NB108_111.out; have hnb23 := NB111_0.out; have hnc23 := NB0_111.out; obtain ⟨hcz24_0, hcz24_1, hfz24_0, hfz24_1⟩ := b2 BK111; obtain ⟨Ao25, co25, eo25⟩ := Kd.R_slice HO110.out; subst eo25) | ((with_reducible refine gf 19 ?_); refine gl 7 Try.func19 #[.pointer (some ⟨g, 0, none⟩), .int .i64 12] ?_; (with_reducible refine (spec_l6Rd_pick.calls k g s0_0 t104 12 t101 t105 w0 _ ?side1 ?side2 A3.out).mono ?_); (case side1 => exact qi HI0.out); (case side2 => exact qj HB.out HI0.out); rintro e w26 ⟨rfl, hi, hb, hk⟩; refine ⟨_, rfl, ?_⟩; replace BK108 := q0 (kc hk BK108.out NB108_0.out); replace HO110 := q0 (Kd.R_mono (Kd.R_keep (IsSRd.apart (show IsSRd w0 _ g s0_0 t104 from qi HI0.out) (by (with_reducible repeat (first | apply Kd.R_alloc | apply Kd.R_drewN | apply Kd.R_drew)); exact (rf2 HO110.out BK111.out (fun _ h_ => h_.1))) (by decide)) hk (fun _ h => h.2)) (fun _ h => h.1)); replace BK111 := q0 (KeepBut.blk hk (g' := gb111) (o := .cells #[.int .i64 t100, .slice Ao25 t103.length co25] 25 (0, 0)) (by (with_reducible repeat (first | refine blk_drewN ?_ _ | refine blk_drew ?_ | refine blk_alloc ?_ _)); refine blk_put (cs := #[.int .i64 t100, .slice none 0 0]) ?_ 1 _ rfl; (with_reducible repeat (first | refine blk_drewN ?_ _ | refine blk_drew ?_ | refine blk_alloc ?_ _)); refine blk_put (cs := #[.int .i64 0, .slice none 0 0]) ?_ 0 _ rfl; (with_reducible repeat (first | refine blk_drewN ?_ _ | refine blk_drew ?_ | refine blk_alloc ?_ _)); exact BK111.out) NB111_0.out (by simp)); replace HK := q0 (KeepBut.trans (qh HK.out) hk (.inl rfl)); replace HB := q0 (hb); replace HI0 := q0 (hi); (try clear hb); (try clear hb2); (try clear hk); (try clear hi); obtain ⟨hcz27_0, hcz27_1, hfz27_0, hfz27_1⟩ := b2 BK111; have hnb28 := NB108_0.out; have hnc28 := NB0_108.out; obtain ⟨hcz29_0, hcz29_1, hfz29_0, hfz29_1⟩ := b2 BK108))
   refine bodyPost_ret (results_cell_row rfl _ _ gb108 25 #[.int .i64 t100, .slice Ao25 t103.length co25] (0, 0) _ rfl (by (with_reducible repeat (first | refine blk_drewN ?_ _ | refine blk_drew ?_ | refine blk_alloc ?_ _)); refine blk_put (cs := #[.int .i64 t100, .slice none 0 0]) ?_ 1 _ rfl; (with_reducible repeat (first | refine blk_drewN ?_ _ | refine blk_drew ?_ | refine blk_alloc ?_ _)); refine blk_put (cs := #[.int .i64 0, .slice none 0 0]) ?_ 0 _ rfl; (with_reducible repeat (first | refine blk_drewN ?_ _ | refine blk_drew ?_ | refine blk_alloc ?_ _)); exact BK108.out) Try.underlying25 rfl (by kernel_rfl)) rfl ?_
   exact ⟨_, qe, by (with_reducible repeat (first | apply Kd.R_alloc | apply Kd.R_drewN | apply Kd.R_drew)); exact rf2 HO110.out BK108.out (fun _ hk => trivial), qi HI0.out, qj HB.out HI0.out, by repeat (first | (with_reducible first | exact HK.out | apply KeepBut.set_ | apply keep_drewN | apply keep_drew | apply keep_alloc | refine keep_far ?_ GW108.out _ | refine keep_far ?_ GW111.out _) | exact HK.out)⟩
 rw [if_pos c4] at H
 have c4b0 : (t101 == 0) = true := beq_iff_eq.mpr c4
 have c4b1 : (t101 != 0) = false := bne_eq_false_iff_eq.mpr c4
 clear c4
 obtain ⟨⟨t102, t106, t107⟩, A5, H⟩ := ob H
 simp only [Option.some.injEq, Prod.mk.injEq] at H
 obtain ⟨rfl, rfl, rfl⟩ := H
 go_enter Try.func9, Try.ntmps9
 go_wp2_with (first | ((with_reducible refine gd 2 ?_); refine be 2 #[.int .i64 0, .slice none 0 0] 25 ?_; intro gb108 hg w6 hbox hb; replace HB := q0 (below_step (qj HB.out HI0.out) hb); have BK108 := q0 (hbox); have GW108 := q0 ((by rw [hg]; exact (keep_size (w := w) (g := g) (row := none) (qh HK.out)) : w.heap.size ≤ gb108)); have GE108 := q0 ((Nat.le_trans HW0.out (by rw [hg]; exact (keep_size (w := w) (g := g) (row := none) (qh HK.out)) : w.heap.size ≤ gb108) : w0.heap.size ≤ gb108)); replace HK := q0 (KeepBut.trans (qh HK.out) (KeepBut.of_below hb g none) (.inl rfl)); have NB0_108 := q0 ((by rw [hg]; exact Nat.ne_of_lt (IsSRd.lt (show IsSRd w0 _ g s0_0 s0_1 from qi HI0.out)) : g ≠ gb108)); have NB108_0 := q0 ((by rw [hg]; exact Nat.ne_of_gt (IsSRd.lt (show IsSRd w0 _ g s0_0 s0_1 from qi HI0.out)) : gb108 ≠ g)); replace HI0 := q0 (IsSRd.below (qi HI0.out) hb); clear hb hbox hg) | ((with_reducible refine gf 18 ?_); refine gl 5 Try.func18 #[.pointer (some ⟨g, 0, none⟩)] ?_; (with_reducible refine (spec_l71Net.calls k g s0_0 s0_1 t100 t103 t104 w0 _ ?side1 ?side2 A2.out).mono ?_); (case side1 => exact qi HI0.out); (case side2 => exact qj HB.out HI0.out); rintro e w7 ⟨v109, rfl, ho0, hi, hb, hk⟩; refine ⟨_, rfl, ?_⟩; replace BK108 := q0 (kc hk BK108.out NB108_0.out); have HO110 := q0 (Kd.R_lower ho0 (keep_size (w := w) (g := g) (row := none) (qh HK.out))); replace HK := q0 (KeepBut.trans (qh HK.out) hk (.inl rfl)); replace HB := q0 (hb); replace HI0 := q0 (hi); (try clear hb); (try clear hb2); (try clear hk); (try clear hi); (try clear ho0)) | ((with_reducible refine gd 3 ?_); refine be 3 #[.int .i64 0, .slice none 0 0] 25 ?_; intro gb111 hg w8 hbox hb; replace HO110 := q0 (Kd.R_below (qr HO110.out) hb); replace HB := q0 (below_step (qj HB.out HI0.out) hb); have BK111 := q0 (hbox); have GW111 := q0 ((by rw [hg]; exact (keep_size (w := w) (g := g) (row := none) (qh HK.out)) : w.heap.size ≤ gb111)); have GE111 := q0 ((Nat.le_trans HW0.out (by rw [hg]; exact (keep_size (w := w) (g := g) (row := none) (qh HK.out)) : w.heap.size ≤ gb111) : w0.heap.size ≤ gb111)); replace HK := q0 (KeepBut.trans (qh HK.out) (KeepBut.of_below hb g none) (.inl rfl)); have NB108_111 := nl BK108 hg; have NB111_108 := ng BK108 hg; replace BK108 := kd BK108 hb; have NB0_111 := q0 ((by rw [hg]; exact Nat.ne_of_lt (IsSRd.lt (show IsSRd w0 _ g s0_0 t104 from qi HI0.out)) : g ≠ gb111)); have NB111_0 := q0 ((by rw [hg]; exact Nat.ne_of_gt (IsSRd.lt (show IsSRd w0 _ g s0_0 t104 from qi HI0.out)) : gb111 ≠ g)); replace HI0 := q0 (IsSRd.below (qi HI0.out) hb); clear hb hbox hg; have hnb9 := NB111_108.out; have hnc9 := NB108_111.out; have hnb10 := NB111_0.out; have hnc10 := NB0_111.out; obtain ⟨hcz11_0, hcz11_1, hfz11_0, hfz11_1⟩ := b2 BK111; obtain ⟨Ao12, co12, eo12⟩ := Kd.R_slice HO110.out; subst eo12) | ((with_reducible refine gf 19 ?_); refine gl 7 Try.func19 #[.pointer (some ⟨g, 0, none⟩), .int .i64 12] ?_; (with_reducible refine (spec_l6Rd_pick.calls k g s0_0 t104 12 t101 t105 w0 _ ?side1 ?side2 A3.out).mono ?_); (case side1 => exact qi HI0.out); (case side2 => exact qj HB.out HI0.out); rintro e w13 ⟨rfl, hi, hb, hk⟩; refine ⟨_, rfl, ?_⟩; replace BK108 := q0 (kc hk BK108.out NB108_0.out); replace HO110 := q0 (Kd.R_mono (Kd.R_keep (IsSRd.apart (show IsSRd w0 _ g s0_0 t104 from qi HI0.out) (by (with_reducible repeat (first | apply Kd.R_alloc | apply Kd.R_drewN | apply Kd.R_drew)); exact (rf2 HO110.out BK111.out (fun _ h_ => h_.1))) (by decide)) hk (fun _ h => h.2)) (fun _ h => h.1)); replace BK111 := q0 (KeepBut.blk hk (g' := gb111) (o := .cells #[.int .i64 t100, .slice Ao12 t103.length co12] 25 (0, 0)) (by (with_reducible repeat (first | refine blk_drewN ?_ _ | refine blk_drew ?_ | refine blk_alloc ?_ _)); refine blk_put (cs := #[.int .i64 t100, .slice none 0 0]) ?_ 1 _ rfl; (with_reducible repeat (first | refine blk_drewN ?_ _ | refine blk_drew ?_ | refine blk_alloc ?_ _)); refine blk_put (cs := #[.int .i64 0, .slice none 0 0]) ?_ 0 _ rfl; (with_reducible repeat (first | refine blk_drewN ?_ _ | refine blk_drew ?_ | refine blk_alloc ?_ _)); exact BK111.out) NB111_0.out (by simp)); replace HK := q0 (KeepBut.trans (qh HK.out) hk (.inl rfl)); replace HB := q0 (hb); replace HI0 := q0 (hi); (try clear hb); (try clear hb2); (try clear hk); (try clear hi); obtain ⟨hcz14_0, hcz14_1, hfz14_0, hfz14_1⟩ := b2 BK111) | ((with_reducible refine gf 20 ?_); refine gl 11 Try.func20 #[.pointer (some ⟨g, 0, none⟩), .agg #[.int .i64 t100, .slice Ao12 t103.length co12]] ?_; (with_reducible refine (spec_l71Spoil.calls k g s0_0 t105 t100 _ _ t103 t102 t106 t107 w0 _ ?side1 ?side2 ?side3 ?side4 A5.out).mono ?_); (case side1 => exact qi HI0.out); (case side2 => exact qj HB.out HI0.out); (case side3 => exact Kd.C_foot_own (IsSRd.apart (show IsSRd w0 _ g s0_0 t105 from qi HI0.out) (qr HO110.out) (by decide)) (fun _ h_ => h_.2)); (case side4 => exact (Kd.R_reads' HO110.out).2.1); rintro e w15 ⟨v112, rfl, ho0, hi, hb, hk⟩; refine ⟨_, rfl, ?_⟩; replace BK108 := q0 (kc hk BK108.out NB108_0.out); replace BK111 := q0 (kc hk BK111.out NB111_0.out); have HO113 := q0 (Kd.R_lower (Kd.R_new' ho0 (Kd.R_lt (qr HO110.out))) (keep_size (w := w) (g := g) (row := none) (qh HK.out))); replace HO110 := q0 (Kd.R_mono (Kd.R_told (Kd.R_oldK (IsSRd.apart (show IsSRd w0 _ g s0_0 t105 from qi HI0.out) (qr HO110.out) (by decide)) hk) (Kd.R_base ho0)) (fun _ h_ => h_.1)); replace HK := q0 (KeepBut.trans (qh HK.out) hk (.inl rfl)); replace HB := q0 (hb); replace HI0 := q0 (hi); (try clear hb); (try clear hb2); (try clear hk); (try clear hi); (try clear ho0); have hnb16 := NB108_0.out; have hnc16 := NB0_108.out; obtain ⟨hcz17_0, hcz17_1, hfz17_0, hfz17_1⟩ := b2 BK108; obtain ⟨Ao18, co18, eo18⟩ := Kd.R_slice HO113.out; subst eo18))
 refine bodyPost_ret (results_cell_row rfl _ _ gb108 25 #[.int .i64 t102, .slice Ao18 t106.length co18] (0, 0) _ rfl (by (with_reducible repeat (first | refine blk_drewN ?_ _ | refine blk_drew ?_ | refine blk_alloc ?_ _)); refine blk_put (cs := #[.int .i64 t102, .slice none 0 0]) ?_ 1 _ rfl; (with_reducible repeat (first | refine blk_drewN ?_ _ | refine blk_drew ?_ | refine blk_alloc ?_ _)); refine blk_put (cs := #[.int .i64 0, .slice none 0 0]) ?_ 0 _ rfl; (with_reducible repeat (first | refine blk_drewN ?_ _ | refine blk_drew ?_ | refine blk_alloc ?_ _)); exact BK108.out) Try.underlying25 rfl (by kernel_rfl)) rfl ?_
 exact ⟨_, qe, by (with_reducible repeat (first | apply Kd.R_alloc | apply Kd.R_drewN | apply Kd.R_drew)); exact rf2 HO113.out BK108.out (fun _ hk => trivial), qi HI0.out, qj HB.out HI0.out, by repeat (first | (with_reducible first | exact HK.out | apply KeepBut.set_ | apply keep_drewN | apply keep_drew | apply keep_alloc | refine keep_far ?_ GW108.out _ | refine keep_far ?_ GW111.out _) | exact HK.out)⟩

set_option maxHeartbeats 8000000 in
set_option maxRecDepth 100000 in
theorem spec_l6Open.calls (A0 : Option Addr) (c0 : Nat) (l0 : List Int) (r1 : List Int) (r2 : Int) (w0 w : World) (hB : Below w0.heap.size w0 w) (hr0 : Kd.C (Kd.int .u8) w0 A0 l0.length l0) (hc0 : l0.length ≤ c0) (h : spec_l6Open.f l0 = some (r1, r2)) :
    Calls Try.prog 10 #[.slice A0 l0.length c0] w fun e w' => ∃ g_ : Nat, e = .returned (.pointer (some ⟨g_, 0, none⟩)) ∧ IsSRd w0 w' g_ r1 r2 ∧ Below w0.heap.size w0 w' ∧ Below w.heap.size w w' := by
 have hu45 := Try.underlying45
 have HR0 := q0 hr0
 have HC0 := q0 hc0
 clear hr0 hc0
 have HBW := q0 (Below.refl w.heap.size w)
 have HW0 := q0 hB.size
 have HB := q0 hB
 clear hB
 have H : (if (l0.length : Int) > 2000 then (if 2000 ≤ (l0.length : Int) then (some (l0.take 2000, 0)) else (none)) else (some (l0, 0))) = some (r1, r2) := h
 clear h
 by_cases c2 : (l0.length : Int) > 2000
 rotate_left
 · rw [if_neg c2] at H
   have c2b0 := decide_eq_false c2
   have c2b1 : decide (2000 < l0.length) = false := decide_eq_false (by omega)
   clear c2
   simp only [Option.some.injEq, Prod.mk.injEq] at H
   obtain ⟨rfl, rfl⟩ := H
   go_enter Try.func10, Try.ntmps10
   go_wp2_with (first | ((with_reducible refine gd 10 ?_); refine be 10 #[.slice A0 l0.length c0, .int .i64 0] 45 ?_; intro gb102 hg w6 hbox hb; replace HB := bp HB hb; have BK102 := q0 (hbox); have GW102 := q0 ((by rw [hg]; exact (below_size (by repeat (first | (with_reducible first | exact HBW.out | apply below_alloc | apply pw_below_drewN | apply below_drew1) | exact HBW.out))) : w.heap.size ≤ gb102)); have GE102 := q0 ((Nat.le_trans HW0.out (by rw [hg]; exact (below_size (by repeat (first | (with_reducible first | exact HBW.out | apply below_alloc | apply pw_below_drewN | apply below_drew1) | exact HBW.out))) : w.heap.size ≤ gb102) : w0.heap.size ≤ gb102)); replace HBW := q0 (below_step HBW.out hb); clear hb hbox hg))
   go_ret
   exact ⟨_, rfl, (show IsSRd w0 _ gb102 l0 0 from ⟨_, _, qk BK102.out, GE102.out, HR0.out⟩), qb HB.out, by repeat (first | (with_reducible first | exact HBW.out | apply below_alloc | apply pw_below_drewN | apply below_drew1 | refine below_set ?_ GW102.out) | exact HBW.out)⟩
 rw [if_pos c2] at H
 have c2b0 := decide_eq_true c2
 have c2b1 : decide (2000 < l0.length) = true := decide_eq_true (by omega)
 clear c2
 obtain ⟨c3, H⟩ : (2000 ≤ (l0.length : Int)) ∧ _ := og H
 have c3b0 := eq_true c3
 have c3b1 := decide_eq_true c3
 clear c3
 simp only [Option.some.injEq, Prod.mk.injEq] at H
 obtain ⟨rfl, rfl⟩ := H
 obtain ⟨i04, hi04, _, hsz4, _⟩ := info_parts info5
 obtain ⟨hcut4, hA4, hC4⟩ := print_take_of (P := Try.prog) (Value.int .u8) 0 22 5 .i64 Try.underlying22 hi04 hsz4 A0 c0 l0 2000 (by omega) (of_decide_eq_true qa) HC0.out
 have HR100 := q0 (Kd.C_of_reads (h1 := fun _ => rfl) (hA4 _ (Kd.reads_of_C HR0.out)))
 have HC100 := q0 hC4
 clear hA4 hC4 hi04 hsz4
 go_enter Try.func10, Try.ntmps10
 go_wp2_with (first | ((with_reducible refine gd 10 ?_); refine be 10 #[.slice A0 (l0.take 2000).length c0, .int .i64 0] 45 ?_; intro gb101 hg w5 hbox hb; replace HB := bp HB hb; have BK101 := q0 (hbox); have GW101 := q0 ((by rw [hg]; exact (below_size (by repeat (first | (with_reducible first | exact HBW.out | apply below_alloc | apply pw_below_drewN | apply below_drew1) | exact HBW.out))) : w.heap.size ≤ gb101)); have GE101 := q0 ((Nat.le_trans HW0.out (by rw [hg]; exact (below_size (by repeat (first | (with_reducible first | exact HBW.out | apply below_alloc | apply pw_below_drewN | apply below_drew1) | exact HBW.out))) : w.heap.size ≤ gb101) : w0.heap.size ≤ gb101)); replace HBW := q0 (below_step HBW.out hb); clear hb hbox hg))
 go_ret
 exact ⟨_, rfl, (show IsSRd w0 _ gb101 (l0.take 2000) 0 from ⟨_, _, qk BK101.out, GE101.out, HR100.out⟩), qb HB.out, by repeat (first | (with_reducible first | exact HBW.out | apply below_alloc | apply pw_below_drewN | apply below_drew1 | refine below_set ?_ GW101.out) | exact HBW.out)⟩

set_option maxHeartbeats 8000000 in
set_option maxRecDepth 100000 in
theorem spec_DrawBridgeList.calls (k : Nat) (A0 : Option Addr) (c0 : Nat) (l0 : List Int) (r1 : Int) (r2 : List (STie)) (w : World) (hr0 : Kd.C (Kd.int .u8) w A0 l0.length l0) (hc0 : l0.length ≤ c0) (h : spec_DrawBridgeList.f k l0 = some (r1, r2)) :
    Calls Try.prog 4 #[.slice A0 l0.length c0] w fun e w' => ∃ v1_ : Value, e = .returned (.agg #[.int .i64 r1, v1_]) ∧ Kd.R kTie 32 w' w.heap.size (fun _ => True) v1_ r2 ∧ Below w.heap.size w w' := by
 have hu25 := Try.underlying25
 have HR0 := q0 hr0
 have HC0 := q0 hc0
 clear hr0 hc0
 have HB := q0 (Below.refl w.heap.size w)
 have H : ((spec_l6Open.f l0).bind fun bt100 => ((spec_l71Any.f k bt100.1 bt100.2).bind fun bt101 => (some (bt101.1, bt101.2.1)))) = some (r1, r2) := h
 clear h
 obtain ⟨⟨t100, t102⟩, A2, H⟩ := ob H
 obtain ⟨⟨t101, t103, t104⟩, A3, H⟩ := ob H
 simp only [Option.some.injEq, Prod.mk.injEq] at H
 obtain ⟨rfl, rfl⟩ := H
 go_enter Try.func4, Try.ntmps4
 go_wp2_with (first | ((with_reducible refine gd 2 ?_); refine be 2 #[.int .i64 0, .slice none 0 0] 25 ?_; intro gb105 hg w4 hbox hb; have BK105 := q0 (hbox); have GW105 := gw HB hg; have GE105 := gw HB hg; replace HB := bp HB hb; clear hb hbox hg) | ((with_reducible refine gf 10 ?_); refine gl 4 Try.func10 #[.slice A0 l0.length c0] ?_; (with_reducible refine (spec_l6Open.calls _ _ l0 t100 t102 w _ ?side1 ?side2 ?side3 A2.out).mono ?_); (case side1 => exact qb HB.out); (case side2 => exact HR0.out); (case side3 => exact HC0.out); rintro e w5 ⟨g106, rfl, hi, hb, hb2⟩; refine ⟨_, rfl, ?_⟩; replace HB := q0 (hb); have HI106 := q0 (hi); have NB106_105 := q0 (IsSRd.ne_blk hi (kb BK105.out hb2) (by decide)); have NB105_106 := q0 (Ne.symm (IsSRd.ne_blk hi (kb BK105.out hb2) (by decide))); replace BK105 := q0 (kb BK105.out hb2); (try clear hb); (try clear hb2); (try clear hk); (try clear hi)) | ((with_reducible refine gf 9 ?_); refine gl 5 Try.func9 #[.pointer (some ⟨g106, 0, none⟩)] ?_; (with_reducible refine (spec_l71Any.calls k g106 t100 t102 t101 t103 t104 w _ ?side1 ?side2 A3.out).mono ?_); (case side1 => exact qi HI106.out); (case side2 => exact qj HB.out HI106.out); rintro e w6 ⟨v107, rfl, ho0, hi, hb, hk⟩; refine ⟨_, rfl, ?_⟩; replace BK105 := q0 (kc hk BK105.out NB105_106.out); have HO108 := q0 (Kd.R_lower ho0 (below_size (qj HB.out HI106.out))); replace HB := q0 (hb); replace HI106 := q0 (hi); (try clear hb); (try clear hb2); (try clear hk); (try clear hi); (try clear ho0); have hnb7 := NB105_106.out; have hnc7 := NB106_105.out; obtain ⟨hcz8_0, hcz8_1, hfz8_0, hfz8_1⟩ := b2 BK105; obtain ⟨Ao9, co9, eo9⟩ := Kd.R_slice HO108.out; subst eo9))
 refine bodyPost_ret (results_cell_row rfl _ _ gb105 25 #[.int .i64 t101, .slice Ao9 t103.length co9] (0, 0) _ rfl (by (with_reducible repeat (first | refine blk_drewN ?_ _ | refine blk_drew ?_ | refine blk_alloc ?_ _)); refine blk_put (cs := #[.int .i64 t101, .slice none 0 0]) ?_ 1 _ rfl; (with_reducible repeat (first | refine blk_drewN ?_ _ | refine blk_drew ?_ | refine blk_alloc ?_ _)); refine blk_put (cs := #[.int .i64 0, .slice none 0 0]) ?_ 0 _ rfl; (with_reducible repeat (first | refine blk_drewN ?_ _ | refine blk_drew ?_ | refine blk_alloc ?_ _)); exact BK105.out) Try.underlying25 rfl (by kernel_rfl)) rfl ?_
 exact ⟨_, qe, by (with_reducible repeat (first | apply Kd.R_alloc | apply Kd.R_drewN | apply Kd.R_drew)); exact rf2 HO108.out BK105.out (fun _ hk => trivial), qj HB.out HI106.out⟩

set_option maxHeartbeats 8000000 in
set_option maxRecDepth 100000 in
theorem cmp_Or_int.calls (k : Nat) (A0 : Option Addr) (c0 : Nat) (l0 : List Int) (r : Int) (w : World) (hr0 : Kd.C (Kd.int .i64) w A0 l0.length l0) (hc0 : l0.length ≤ c0) (h : cmp_Or_int.f k l0 = some r) :
    Calls Try.prog 38 #[.slice A0 l0.length c0] w fun e w' => e = .returned (.int .i64 r) ∧ Drawn0 w w' := by
 have HR0 := q0 hr0
 have HC0 := q0 hc0
 clear hr0 hc0
 have H : (cmp_Or_int.l0 k 0 l0 (l0.length : Int) 0) = some r := h
 clear h
 have H' := q0 H
 clear H
 go_enter Try.func38, Try.ntmps38
 go_wp2
 go_loopg [8] k (fun kq v8 w' => ∃ (x8_1 : Int), v8 = .int .i64 x8_1 ∧ Aside0 (cmp_Or_int.l0 kq 0 l0 (l0.length : Int) x8_1 = some r) ∧ Aside0 (kq ≤ k) ∧ Drawn0 w w')
 case atStart => exact ⟨(0), qs, H', ⟨Nat.le_refl _⟩, by repeat (first | exact Drawn0.refl _ | apply Drawn0.step)⟩
 clear H'
 obtain ⟨x8_1, rfl, HA, HK1, ⟨m1, rfl⟩⟩ := hrel
 rcases gk with _ | k1
 · exact absurd HA.out (by simp [cmp_Or_int.l0])
 have H := HA.out
 clear HA
 simp only [cmp_Or_int.l0] at H
 by_cases c2 : x8_1 < (l0.length : Int)
 rotate_left
 · rw [if_neg c2] at H
   have c2b0 := decide_eq_false c2
   clear c2
   obtain rfl := Option.some.inj H
   go_wp2
   go_ret
   exact ⟨by first | rfl | (simp; done) | (simp [*]; done), by repeat (first | exact Drawn0.refl _ | apply Drawn0.step)⟩
 rw [if_pos c2] at H
 have c2b0 := decide_eq_true c2
 clear c2
 obtain ⟨c3, H⟩ : (0 ≤ x8_1) ∧ _ := og H
 have c3b0 := decide_eq_true c3
 clear c3
 obtain ⟨c4, H⟩ : (x8_1 < (l0.length : Int)) ∧ _ := og H
 have c4b0 := decide_eq_true c4
 clear c4
 by_cases c5 : (rd l0 x8_1) = 0
 rotate_left
 · rw [if_neg c5] at H
   have c5b0 : ((rd l0 x8_1) == 0) = false := beq_eq_false_iff_ne.mpr c5
   have c5b1 : ((rd l0 x8_1) != 0) = true := bne_iff_ne.mpr c5
   obtain rfl := Option.some.inj H
   have p100 : 0 ≤ (x8_1 : Int) := of_decide_eq_true qa
   have q100 : x8_1 < (l0.length : Int) := of_decide_eq_true qa
   obtain ⟨ad100, e100, hx100_0⟩ := Kd.at_int HR0.out x8_1 p100 q100
   cases e100
   replace p100 := eq_true p100
   replace q100 := eq_true q100
   go_wp2
   go_ret
   exact ⟨by first | rfl | (simp; done) | (simp [*]; done), by repeat (first | exact Drawn0.refl _ | apply Drawn0.step)⟩
 rw [if_pos c5] at H
 have c5b0 : ((rd l0 x8_1) == 0) = true := beq_iff_eq.mpr c5
 have c5b1 : ((rd l0 x8_1) != 0) = false := bne_eq_false_iff_eq.mpr c5
 clear c5
 have H' := q0 H
 clear H
 have p100 : 0 ≤ (x8_1 : Int) := of_decide_eq_true qa
 have q100 : x8_1 < (l0.length : Int) := of_decide_eq_true qa
 obtain ⟨ad100, e100, hx100_0⟩ := Kd.at_int HR0.out x8_1 p100 q100
 cases e100
 replace p100 := eq_true p100
 replace q100 := eq_true q100
 go_wp2
 go_roundg k1
 case measure => have := HK1.out; omega
 case rel => exact ⟨(wrap64 (x8_1 + 1)), qs, H', ⟨by have := HK1.out; omega⟩, by repeat (first | exact Drawn0.refl _ | apply Drawn0.step)⟩

set_option maxHeartbeats 8000000 in
set_option maxRecDepth 100000 in
theorem cmp_isNaN_int.calls (a0 : Int) (r : Bool) (w : World) (h : cmp_isNaN_int.f a0 = some r) :
    Calls Try.prog 42 #[.int .i64 a0] w fun e w' => e = .returned (.bool r) ∧ Drawn0 w w' := by
 have H : (some (a0 != a0)) = some r := h
 clear h
 obtain rfl := Option.some.inj H
 go_enter Try.func42, Try.ntmps42
 go_wp2
 go_ret
 exact ⟨by first | rfl | (simp; done) | (simp [*]; done), by repeat (first | exact Drawn0.refl _ | apply Drawn0.step)⟩

set_option maxHeartbeats 8000000 in
set_option maxRecDepth 100000 in
theorem cmp_Compare_int.calls (a0 : Int) (a1 : Int) (r : Int) (w : World) (h : cmp_Compare_int.f a0 a1 = some r) :
    Calls Try.prog 39 #[.int .i64 a0, .int .i64 a1] w fun e w' => e = .returned (.int .i64 r) ∧ Drawn0 w w' := by
 have H : ((cmp_isNaN_int.f a0).bind fun t100 => ((cmp_isNaN_int.f a1).bind fun t101 => (if t100 = true then (if t101 = true then (some 0) else (some (-1))) else (if t101 = true then (some 1) else (if a0 < a1 then (some (-1)) else (if a0 > a1 then (some 1) else (some 0))))))) = some r := h
 clear h
 obtain ⟨t100, A3, H⟩ := ob H
 obtain ⟨t101, A4, H⟩ := ob H
 by_cases c5 : t100 = true
 · subst c5
   rw [if_pos rfl] at H
   by_cases c6 : t101 = true
   · subst c6
     rw [if_pos rfl] at H
     obtain rfl := Option.some.inj H
     go_enter Try.func39, Try.ntmps39
     go_wp2_with (first | ((with_reducible refine gf 42 ?_); refine gl 8 Try.func42 #[.int .i64 a0] ?_; (with_reducible refine (cmp_isNaN_int.calls a0 true _ A3.out).mono ?_); rintro e w' ⟨rfl, ⟨nd, rfl⟩⟩; refine ⟨_, rfl, ?_⟩) | ((with_reducible refine gf 42 ?_); refine gl 10 Try.func42 #[.int .i64 a1] ?_; (with_reducible refine (cmp_isNaN_int.calls a1 true _ A4.out).mono ?_); rintro e w' ⟨rfl, ⟨nd, rfl⟩⟩; refine ⟨_, rfl, ?_⟩))
     go_ret
     exact ⟨by first | rfl | (simp; done) | (simp [*]; done), by repeat (first | exact Drawn0.refl _ | apply Drawn0.step)⟩
   replace c6 := Bool.eq_false_iff.mpr c6
   subst c6
   rw [if_neg nf] at H
   obtain rfl := Option.some.inj H
   go_enter Try.func39, Try.ntmps39
   go_wp2_with (first | ((with_reducible refine gf 42 ?_); refine gl 8 Try.func42 #[.int .i64 a0] ?_; (with_reducible refine (cmp_isNaN_int.calls a0 true _ A3.out).mono ?_); rintro e w' ⟨rfl, ⟨nd, rfl⟩⟩; refine ⟨_, rfl, ?_⟩) | ((with_reducible refine gf 42 ?_); refine gl 10 Try.func42 #[.int .i64 a1] ?_; (with_reducible refine (cmp_isNaN_int.calls a1 false _ A4.out).mono ?_); rintro e w' ⟨rfl, ⟨nd, rfl⟩⟩; refine ⟨_, rfl, ?_⟩))
   go_ret
   exact ⟨by first | rfl | (simp; done) | (simp [*]; done), by repeat (first | exact Drawn0.refl _ | apply Drawn0.step)⟩
 replace c5 := Bool.eq_false_iff.mpr c5
 subst c5
 rw [if_neg nf] at H
 by_cases c7 : t101 = true
 · subst c7
   rw [if_pos rfl] at H
   obtain rfl := Option.some.inj H
   go_enter Try.func39, Try.ntmps39
   go_wp2_with (first | ((with_reducible refine gf 42 ?_); refine gl 8 Try.func42 #[.int .i64 a0] ?_; (with_reducible refine (cmp_isNaN_int.calls a0 false _ A3.out).mono ?_); rintro e w' ⟨rfl, ⟨nd, rfl⟩⟩; refine ⟨_, rfl, ?_⟩) | ((with_reducible refine gf 42 ?_); refine gl 10 Try.func42 #[.int .i64 a1] ?_; (with_reducible refine (cmp_isNaN_int.calls a1 true _ A4.out).mono ?_); rintro e w' ⟨rfl, ⟨nd, rfl⟩⟩; refine ⟨_, rfl, ?_⟩))
   go_ret
   exact ⟨by first | rfl | (simp; done) | (simp [*]; done), by repeat (first | exact Drawn0.refl _ | apply Drawn0.step)⟩
 replace c7 := Bool.eq_false_iff.mpr c7
 subst c7
 rw [if_neg nf] at H
 by_cases c8 : a0 < a1
 · rw [if_pos c8] at H
   have c8b0 := decide_eq_true c8
   clear c8
   obtain rfl := Option.some.inj H
   go_enter Try.func39, Try.ntmps39
   go_wp2_with (first | ((with_reducible refine gf 42 ?_); refine gl 8 Try.func42 #[.int .i64 a0] ?_; (with_reducible refine (cmp_isNaN_int.calls a0 false _ A3.out).mono ?_); rintro e w' ⟨rfl, ⟨nd, rfl⟩⟩; refine ⟨_, rfl, ?_⟩) | ((with_reducible refine gf 42 ?_); refine gl 10 Try.func42 #[.int .i64 a1] ?_; (with_reducible refine (cmp_isNaN_int.calls a1 false _ A4.out).mono ?_); rintro e w' ⟨rfl, ⟨nd, rfl⟩⟩; refine ⟨_, rfl, ?_⟩))
   go_ret
   exact ⟨by first | rfl | (simp; done) | (simp [*]; done), by repeat (first | exact Drawn0.refl _ | apply Drawn0.step)⟩
 rw [if_neg c8] at H
 have c8b0 := decide_eq_false c8
 clear c8
 by_cases c9 : a0 > a1
 · rw [if_pos c9] at H
   have c9b0 := decide_eq_true c9
   clear c9
   obtain rfl := Option.some.inj H
   go_enter Try.func39, Try.ntmps39
   go_wp2_with (first | ((with_reducible refine gf 42 ?_); refine gl 8 Try.func42 #[.int .i64 a0] ?_; (with_reducible refine (cmp_isNaN_int.calls a0 false _ A3.out).mono ?_); rintro e w' ⟨rfl, ⟨nd, rfl⟩⟩; refine ⟨_, rfl, ?_⟩) | ((with_reducible refine gf 42 ?_); refine gl 10 Try.func42 #[.int .i64 a1] ?_; (with_reducible refine (cmp_isNaN_int.calls a1 false _ A4.out).mono ?_); rintro e w' ⟨rfl, ⟨nd, rfl⟩⟩; refine ⟨_, rfl, ?_⟩))
   go_ret
   exact ⟨by first | rfl | (simp; done) | (simp [*]; done), by repeat (first | exact Drawn0.refl _ | apply Drawn0.step)⟩
 rw [if_neg c9] at H
 have c9b0 := decide_eq_false c9
 clear c9
 obtain rfl := Option.some.inj H
 go_enter Try.func39, Try.ntmps39
 go_wp2_with (first | ((with_reducible refine gf 42 ?_); refine gl 8 Try.func42 #[.int .i64 a0] ?_; (with_reducible refine (cmp_isNaN_int.calls a0 false _ A3.out).mono ?_); rintro e w' ⟨rfl, ⟨nd, rfl⟩⟩; refine ⟨_, rfl, ?_⟩) | ((with_reducible refine gf 42 ?_); refine gl 10 Try.func42 #[.int .i64 a1] ?_; (with_reducible refine (cmp_isNaN_int.calls a1 false _ A4.out).mono ?_); rintro e w' ⟨rfl, ⟨nd, rfl⟩⟩; refine ⟨_, rfl, ?_⟩))
 go_ret
 exact ⟨by first | rfl | (simp; done) | (simp [*]; done), by repeat (first | exact Drawn0.refl _ | apply Drawn0.step)⟩

def impl_tieOrder.T1 : Bool × List (List Nat × List Nat) := (true, [([], []), ([0], [0]), ([], []), ([2], [2]), ([1, 3], [1, 3]), ([], []), ([5], [5]), ([], []), ([7], [7]), ([6, 8, 4], [6, 8]), ([4, 9], [4, 9]), ([10, 9], [10]), ([11, 11, 0, 1, 2, 3, 4, 5, 6, 7, 8, 9, 10, 11], [11])])
def impl_tieOrder.B1 : List Nat := [0, 1, 0, 4, 15, 0, 32, 0, 128, 511, 1023, 2047, 4095]
theorem impl_tieOrder.tab1 : rtab .any (opsOf Try.f31 1) = impl_tieOrder.T1 := by kernel_rfl
theorem impl_tieOrder.bits1 : waitsOk impl_tieOrder.T1.2 impl_tieOrder.B1 = true := by kernel_rfl
set_option maxHeartbeats 8000000 in
set_option maxRecDepth 100000 in
theorem impl_tieOrder.calls (k : Nat) (a0_0 : Int) (a0_1 : Int) (a1_0 : Int) (a1_1 : Int) (r : Int) (w : World) (h : impl_tieOrder.f k a0_0 a0_1 a1_0 a1_1 = some r) :
    Calls Try.prog 31 #[.agg #[.int .i64 a0_0, .int .i64 a0_1], .agg #[.int .i64 a1_0, .int .i64 a1_1]] w fun e w' => e = .returned (.int .i64 r) ∧ Below w.heap.size w w' := by
 have hu32 := Try.underlying32
 have HB := q0 (Below.refl w.heap.size w)
 have H : ((cmp_Compare_int.f a0_0 a1_0).bind fun t100 => ((cmp_Compare_int.f a0_1 a1_1).bind fun t101 => ((cmp_Or_int.f k (([t100, t101] : List Int))).bind fun t102 => (some t102)))) = some r := h
 clear h
 obtain ⟨t100, A3, H⟩ := ob H
 obtain ⟨t101, A4, H⟩ := ob H
 obtain ⟨y103, hy103⟩ : ∃ y_ : List Int, y_ = (([t100, t101] : List Int)) := ⟨_, rfl⟩
 replace H : ((cmp_Or_int.f k y103).bind fun t102 => (some t102)) = some r := qy H hy103
 have Ny103 := q0 hy103
 clear hy103
 obtain ⟨t102, A5, H⟩ := ob H
 obtain rfl := Option.some.inj H
 go_enter Try.func31, Try.ntmps31
 try go_wp2_with (first | ((with_reducible refine gd 2 ?_); refine be 2 #[.int .i64 a0_0, .int .i64 a0_1] 32 ?_; intro gb104 hg w6 hbox hb; have BK104 := q0 (hbox); have GW104 := gw HB hg; have GE104 := gw HB hg; replace HB := bp HB hb; clear hb hbox hg) | ((with_reducible refine gd 3 ?_); refine be 3 #[.int .i64 a1_0, .int .i64 a1_1] 32 ?_; intro gb105 hg w7 hbox hb; have BK105 := q0 (hbox); have GW105 := gw HB hg; have GE105 := gw HB hg; replace HB := bp HB hb; have NB104_105 := nl BK104 hg; have NB105_104 := ng BK104 hg; replace BK104 := kd BK104 hb; clear hb hbox hg))
 replace BK104 := q0 (blk_drew BK104.out)
 replace BK105 := q0 (blk_drew BK105.out)
 replace HB := q0 (below_drew1 HB.out)
 refine start_ (n := 13) (S := fun w' => w'.cell? ⟨gb104, 0, none⟩ = some (.int .i64 a0_0) ∧ w'.cell? ⟨gb104, 1, none⟩ = some (.int .i64 a0_1) ∧ w'.cell? ⟨gb105, 0, none⟩ = some (.int .i64 a1_0) ∧ w'.cell? ⟨gb105, 1, none⟩ = some (.int .i64 a1_1)) (ds := []) (ba 13 0) (by kernel_rfl) rfl (by kernel_rfl) ⟨bca BK104, bcb BK104, bca BK105, bcb BK105⟩ (fun hHeld => ?_); refine with_tabW impl_tieOrder.tab1 impl_tieOrder.bits1 (fun HT_ HW_ => ?_)
 generalize w7.drew = w8 at BK104 BK105 HB hHeld ⊢
 refine pU 0 5 13 1 HT_ ?_
 refine pU 2 7 13 5 HT_ ?_
 refine pU 5 10 13 37 HT_ ?_
 refine pU 7 12 13 165 HT_ ?_
 refine tU 1 6 13 167 HT_ HW_ hHeld ?_
 refine tU 3 8 13 175 HT_ HW_ hHeld ?_
 refine tU 6 11 13 239 HT_ HW_ hHeld ?_
 refine tU 8 13 13 495 HT_ HW_ hHeld ?_
 refine one_ (i := 4) (N := some 9) (ba 13 511) rfl rfl (one_of HT_.out (by kernel_rfl)) (by decide) (fun K hK => ?_)
 refine goes_ Try.func39 (by kernel_rfl) rfl #[.int .i64 a0_0, .int .i64 a1_0] (by rfl) rfl rfl qm ?_
 with_reducible refine (cmp_Compare_int.calls a0_0 a1_0 t100 _ A3.out).mono ?_
 rintro e w' ⟨rfl, ⟨nd, rfl⟩⟩
 refine ⟨_, rfl, ?_⟩
 refine hK.out _ _ ⟨bca BK104, bcb BK104, bca BK105, bcb BK105⟩ (fun hHeld => ?_)
 clear hK K
 refine nu 9 ?_
 refine one_ (i := 9) (N := some 14) (ba 13 1023) rfl rfl (one_of HT_.out (by kernel_rfl)) (by decide) (fun K hK => ?_)
 refine goes_ Try.func39 (by kernel_rfl) rfl #[.int .i64 a0_1, .int .i64 a1_1] (by rfl) rfl rfl qm ?_
 with_reducible refine (cmp_Compare_int.calls a0_1 a1_1 t101 _ A4.out).mono ?_
 rintro e w' ⟨rfl, ⟨nd, rfl⟩⟩
 refine ⟨_, rfl, ?_⟩
 refine hK.out _ _ ⟨bca BK104, bcb BK104, bca BK105, bcb BK105⟩ (fun hHeld => ?_)
 clear hK K
 refine nu 14 ?_
 refine one_ (i := 10) (N := some 15) (ba 13 2047) rfl rfl (one_of HT_.out (by kernel_rfl)) (by decide) (fun K hK => ?_)
 refine Kd.R_lit_step (Kd.int .i64) _ 3 ?hg (N := 15) ?hd (xs := ([t100, t101] : List Int)) (inner := [.int .i64 t100, .int .i64 t101]) (ok := fun _ => True) (okp := fun _ => True) ?hr ?hp (fun _ hk => hk) trivial (Below.refl _ _) (Nat.le_refl _) (by simp) ?_; (case hd => rfl); (case hg => rfl); (case hr => first | (go_simp; done) | (go_simp; rfl)); (case hp => exact (Reps.one (show Kd.M (Kd.int .i64) _ _ _ t100 [.int .i64 t100] from rfl) (Reps.one (show Kd.M (Kd.int .i64) _ _ _ t101 [.int .i64 t101] from rfl) (Reps.none _ _))))
 intro v106 w9 ho10 hb hg_ hnew_
 clear hg_ hnew_
 (first | rw [← Ny103.out] at ho10 | (simp only [Int.reduceToNat] at ho10; rw [← Ny103.out] at ho10))
 have HO107 := q0 (Kd.R_lower ho10 (below_size (qb HB.out)))
 replace BK104 := kd BK104 hb
 replace BK105 := kd BK105 hb
 replace HB := bp HB hb
 clear hb ho10
 obtain ⟨Ao11, co11, eo11⟩ := Kd.R_slice HO107.out
 (first | subst eo11 | (injection eo11 with f1_ f2_ f3_; have f4_ := f1_.symm; have f5_ := f3_.symm; clear f1_ f2_ f3_; subst f4_; subst f5_))
 refine hK.out _ _ ⟨bca BK104, bcb BK104, bca BK105, bcb BK105⟩ (fun hHeld => ?_)
 clear hK K
 refine nu 15 ?_
 refine one_ (i := 11) (N := some 16) (ba 13 4095) rfl rfl (one_of HT_.out (by kernel_rfl)) (by decide) (fun K hK => ?_)
 refine goes_ Try.func38 (by kernel_rfl) rfl #[.slice Ao11 y103.length co11] (by rfl) rfl rfl qm ?_
 with_reducible refine (cmp_Or_int.calls k _ _ y103 t102 _ ?side1 ?side2 A5.out).mono ?_
 (case side1 => exact qc (Kd.R_reads' HO107.out).2.2)
 (case side2 => exact (Kd.R_reads' HO107.out).2.1)
 rintro e w' ⟨rfl, ⟨nd, rfl⟩⟩
 refine ⟨_, rfl, ?_⟩
 refine hK.out _ _ ⟨bca BK104, bcb BK104, bca BK105, bcb BK105⟩ (fun hHeld => ?_)
 clear hK K
 refine nu 16 ?_
 refine pU 12 4 13 8191 HT_ ?_
 refine done_ (done_of HT_.out (by kernel_rfl)) ?_
 try go_wp2
 go_ret
 exact ⟨qe, qb HB.out⟩

def impl_ascending.T4 : Bool × List (List Nat × List Nat) := (true, [([], []), ([], []), ([1], [1]), ([0, 2], [0, 2]), ([3], [3]), ([], []), ([], []), ([5, 6], [5, 6]), ([7], [7]), ([4, 8], [4, 8]), ([9], [9])])
def impl_ascending.B4 : List Nat := [0, 0, 2, 7, 15, 0, 0, 96, 224, 511, 1023]
theorem impl_ascending.tab4 : rtab .any (opsOf Try.f21 4) = impl_ascending.T4 := by kernel_rfl
theorem impl_ascending.bits4 : waitsOk impl_ascending.T4.2 impl_ascending.B4 = true := by kernel_rfl
set_option maxHeartbeats 8000000 in
set_option maxRecDepth 100000 in
theorem impl_ascending.calls (k : Nat) (A0 : Option Addr) (c0 : Nat) (l0 : List (STie)) (r : Bool) (w : World) (hr0 : Kd.C kTie w A0 l0.length l0) (hc0 : l0.length ≤ c0) (h : impl_ascending.f k l0 = some r) :
    Calls Try.prog 21 #[.slice A0 l0.length c0] w fun e w' => e = .returned (.bool r) ∧ Below w.heap.size w w' := by
 have hu32 := Try.underlying32
 have HR0 := q0 hr0
 have HC0 := q0 hc0
 clear hr0 hc0
 have HB := q0 (Below.refl w.heap.size w)
 have H : (impl_ascending.l0 k l0 1) = some r := h
 clear h
 have H' := q0 H
 clear H
 go_enter Try.func21, Try.ntmps21
 go_wp2
 go_loopg [3] k (fun kq v3 w' => ∃ (x3_1 : Int), v3 = .int .i64 x3_1 ∧ Aside0 (impl_ascending.l0 kq l0 x3_1 = some r) ∧ Aside0 (kq ≤ k) ∧ Aside0 (Below w.heap.size w w'))
 case atStart => exact ⟨(1), qs, H', ⟨Nat.le_refl _⟩, ⟨qb HB.out⟩⟩
 clear H'
 obtain ⟨x3_1, rfl, HA, HK1, HB⟩ := hrel
 rcases gk with _ | k1
 · exact absurd HA.out (by simp [impl_ascending.l0])
 have H := HA.out
 clear HA
 simp only [impl_ascending.l0] at H
 by_cases c2 : x3_1 < (l0.length : Int)
 rotate_left
 · rw [if_neg c2] at H
   have c2b0 := decide_eq_false c2
   clear c2
   obtain rfl := Option.some.inj H
   go_wp2
   go_ret
   exact ⟨qe, qb HB.out⟩
 rw [if_pos c2] at H
 have c2b0 := decide_eq_true c2
 clear c2
 obtain ⟨ji3, hji3⟩ : ∃ j_ : Int, (wrap64 (x3_1 - 1)) = j_ := ⟨_, rfl⟩
 replace H : (if 0 ≤ (ji3) then (if (ji3) < (l0.length : Int) then (if 0 ≤ x3_1 then ((impl_tieOrder.f k1 ((rd_TTie l0 (ji3)).f0) ((rd_TTie l0 (ji3)).f1) ((rd_TTie l0 x3_1).f0) ((rd_TTie l0 x3_1).f1)).bind fun t100 => (if t100 ≥ 0 then (some false) else (impl_ascending.l0 k1 l0 (wrap64 (x3_1 + 1))))) else (none)) else (none)) else (none)) = some r := by first | (rw [hji3] at H; exact H) | (simp only [hji3] at H ⊢; exact H)
 have hji3w : (IntKind.i64.wrap (x3_1 - 1)) = ji3 := (i64_w _).trans hji3
 obtain ⟨c4, H⟩ : (0 ≤ (ji3)) ∧ _ := og H
 have c4b0 := decide_eq_true c4
 clear c4
 obtain ⟨c5, H⟩ : ((ji3) < (l0.length : Int)) ∧ _ := og H
 have c5b0 := decide_eq_true c5
 clear c5
 obtain ⟨c6, H⟩ : (0 ≤ x3_1) ∧ _ := og H
 have c6b0 := decide_eq_true c6
 clear c6
 obtain ⟨t100, A7, H⟩ := ob H
 by_cases c8 : t100 ≥ 0
 · rw [if_pos c8] at H
   have c8b0 := decide_eq_true c8
   clear c8
   obtain rfl := Option.some.inj H
   try go_wp2
   replace HB := q0 (below_drew1 HB.out)
   have p101 : 0 ≤ ((ji3) : Int) := of_decide_eq_true qa
   have q101 : (ji3) < (l0.length : Int) := of_decide_eq_true qa
   obtain ⟨ad101, e101, hx101_0, hx101_1⟩ := at_TTie HR0.out (ji3) p101 q101
   have hw101_1 := hx101_1
   have hw101_0 := hx101_0
   cases e101
   replace hx101_0 := hcl HB.out hx101_0
   replace hx101_1 := hcl HB.out hx101_1
   replace p101 := eq_true p101
   replace q101 := eq_true q101
   have p102 : 0 ≤ (x3_1 : Int) := of_decide_eq_true qa
   have q102 : x3_1 < (l0.length : Int) := of_decide_eq_true qa
   obtain ⟨ad102, e102, hx102_0, hx102_1⟩ := at_TTie HR0.out x3_1 p102 q102
   have hw102_1 := hx102_1
   have hw102_0 := hx102_0
   obtain rfl : ad101 = ad102 := (by injection e102)
   replace hx102_0 := hcl HB.out hx102_0
   replace hx102_1 := hcl HB.out hx102_1
   replace p102 := eq_true p102
   replace q102 := eq_true q102
   refine start_ (n := 11) (S := fun w' => w'.cell? (ad101.add (((ji3)).toNat * 2)) = some (.int .i64 ((rd_TTie l0 (ji3)).f0)) ∧ w'.cell? ⟨(ad101.add (((ji3)).toNat * 2)).block, (ad101.add (((ji3)).toNat * 2)).off + 1, none⟩ = some (.int .i64 ((rd_TTie l0 (ji3)).f1)) ∧ w'.cell? (ad101.add ((x3_1).toNat * 2)) = some (.int .i64 ((rd_TTie l0 x3_1).f0)) ∧ w'.cell? ⟨(ad101.add ((x3_1).toNat * 2)).block, (ad101.add ((x3_1).toNat * 2)).off + 1, none⟩ = some (.int .i64 ((rd_TTie l0 x3_1).f1))) (ds := []) (ba 11 0) (by kernel_rfl) rfl (by kernel_rfl) ⟨((HB.out.cell (World.block_lt_of_cell? w _ hw101_0)).trans hw101_0), ((HB.out.cell (World.block_lt_of_cell? w _ hw101_1)).trans hw101_1), ((HB.out.cell (World.block_lt_of_cell? w _ hw102_0)).trans hw102_0), ((HB.out.cell (World.block_lt_of_cell? w _ hw102_1)).trans hw102_1)⟩ (fun hHeld => ?_); refine with_tabW impl_ascending.tab4 impl_ascending.bits4 (fun HT_ HW_ => ?_)
   generalize wr.drew = w9 at HB hx101_0 hx101_1 hx102_0 hx102_1 hHeld ⊢
   refine pU 0 10 11 1 HT_ ?_
   refine pU 1 11 11 3 HT_ ?_
   refine pU 2 12 11 7 HT_ ?_
   refine pU 3 13 11 15 HT_ ?_
   refine pU 5 15 11 47 HT_ ?_
   refine pU 6 16 11 111 HT_ ?_
   refine pU 7 17 11 239 HT_ ?_
   refine tU 4 14 11 255 HT_ HW_ hHeld ?_
   refine tU 8 18 11 511 HT_ HW_ hHeld ?_
   refine one_ (i := 9) (N := some 19) (ba 11 1023) rfl rfl (one_of HT_.out (by kernel_rfl)) (by decide) (fun K hK => ?_)
   refine goes_ Try.func31 (by kernel_rfl) rfl #[.agg #[.int .i64 ((rd_TTie l0 (ji3)).f0), .int .i64 ((rd_TTie l0 (ji3)).f1)], .agg #[.int .i64 ((rd_TTie l0 x3_1).f0), .int .i64 ((rd_TTie l0 x3_1).f1)]] (by rfl) rfl rfl (by (try simp only [List.map_toArray, List.map_cons, List.map_nil]); first | done | (simp only [hji3]; rfl) | rfl | (simp only [List.length_drop, List.length_take]; rfl)) ?_
   with_reducible refine (impl_tieOrder.calls k1 ((rd_TTie l0 (ji3)).f0) ((rd_TTie l0 (ji3)).f1) ((rd_TTie l0 x3_1).f0) ((rd_TTie l0 x3_1).f1) t100 _ A7.out).mono ?_
   rintro e w10 ⟨rfl, hb⟩
   refine ⟨_, rfl, ?_⟩
   replace HB := bp HB hb
   (try clear hb)
   (try clear hb2)
   (try clear hk)
   (try clear hi)
   refine hK.out _ _ ⟨((HB.out.cell (World.block_lt_of_cell? w _ hw101_0)).trans hw101_0), ((HB.out.cell (World.block_lt_of_cell? w _ hw101_1)).trans hw101_1), ((HB.out.cell (World.block_lt_of_cell? w _ hw102_0)).trans hw102_0), ((HB.out.cell (World.block_lt_of_cell? w _ hw102_1)).trans hw102_1)⟩ (fun hHeld => ?_)
   clear hK K
   refine nu 19 ?_
   refine pU 10 20 11 2047 HT_ ?_
   refine done_ (done_of HT_.out (by kernel_rfl)) ?_
   try go_wp2
   go_ret
   exact ⟨by first | rfl | (simp [errW_none, errW_some] <;> rfl) | (simp only [← hji3]; first | rfl | (simp [errW_none, errW_some] <;> rfl)) | (simp [*, errW_none, errW_some] <;> rfl), qb HB.out⟩
 rw [if_neg c8] at H
 have c8b0 := decide_eq_false c8
 clear c8
 have H' := q0 H
 clear H
 try go_wp2
 replace HB := q0 (below_drew1 HB.out)
 have p101 : 0 ≤ ((ji3) : Int) := of_decide_eq_true qa
 have q101 : (ji3) < (l0.length : Int) := of_decide_eq_true qa
 obtain ⟨ad101, e101, hx101_0, hx101_1⟩ := at_TTie HR0.out (ji3) p101 q101
 have hw101_1 := hx101_1
 have hw101_0 := hx101_0
 cases e101
 replace hx101_0 := hcl HB.out hx101_0
 replace hx101_1 := hcl HB.out hx101_1
 replace p101 := eq_true p101
 replace q101 := eq_true q101
 have p102 : 0 ≤ (x3_1 : Int) := of_decide_eq_true qa
 have q102 : x3_1 < (l0.length : Int) := of_decide_eq_true qa
 obtain ⟨ad102, e102, hx102_0, hx102_1⟩ := at_TTie HR0.out x3_1 p102 q102
 have hw102_1 := hx102_1
 have hw102_0 := hx102_0
 obtain rfl : ad101 = ad102 := (by injection e102)
 replace hx102_0 := hcl HB.out hx102_0
 replace hx102_1 := hcl HB.out hx102_1
 replace p102 := eq_true p102
 replace q102 := eq_true q102
 refine start_ (n := 11) (S := fun w' => w'.cell? (ad101.add (((ji3)).toNat * 2)) = some (.int .i64 ((rd_TTie l0 (ji3)).f0)) ∧ w'.cell? ⟨(ad101.add (((ji3)).toNat * 2)).block, (ad101.add (((ji3)).toNat * 2)).off + 1, none⟩ = some (.int .i64 ((rd_TTie l0 (ji3)).f1)) ∧ w'.cell? (ad101.add ((x3_1).toNat * 2)) = some (.int .i64 ((rd_TTie l0 x3_1).f0)) ∧ w'.cell? ⟨(ad101.add ((x3_1).toNat * 2)).block, (ad101.add ((x3_1).toNat * 2)).off + 1, none⟩ = some (.int .i64 ((rd_TTie l0 x3_1).f1))) (ds := []) (ba 11 0) (by kernel_rfl) rfl (by kernel_rfl) ⟨((HB.out.cell (World.block_lt_of_cell? w _ hw101_0)).trans hw101_0), ((HB.out.cell (World.block_lt_of_cell? w _ hw101_1)).trans hw101_1), ((HB.out.cell (World.block_lt_of_cell? w _ hw102_0)).trans hw102_0), ((HB.out.cell (World.block_lt_of_cell? w _ hw102_1)).trans hw102_1)⟩ (fun hHeld => ?_); refine with_tabW impl_ascending.tab4 impl_ascending.bits4 (fun HT_ HW_ => ?_)
 generalize wr.drew = w11 at HB hx101_0 hx101_1 hx102_0 hx102_1 hHeld ⊢
 refine pU 0 10 11 1 HT_ ?_
 refine pU 1 11 11 3 HT_ ?_
 refine pU 2 12 11 7 HT_ ?_
 refine pU 3 13 11 15 HT_ ?_
 refine pU 5 15 11 47 HT_ ?_
 refine pU 6 16 11 111 HT_ ?_
 refine pU 7 17 11 239 HT_ ?_
 refine tU 4 14 11 255 HT_ HW_ hHeld ?_
 refine tU 8 18 11 511 HT_ HW_ hHeld ?_
 refine one_ (i := 9) (N := some 19) (ba 11 1023) rfl rfl (one_of HT_.out (by kernel_rfl)) (by decide) (fun K hK => ?_)
 refine goes_ Try.func31 (by kernel_rfl) rfl #[.agg #[.int .i64 ((rd_TTie l0 (ji3)).f0), .int .i64 ((rd_TTie l0 (ji3)).f1)], .agg #[.int .i64 ((rd_TTie l0 x3_1).f0), .int .i64 ((rd_TTie l0 x3_1).f1)]] (by rfl) rfl rfl (by (try simp only [List.map_toArray, List.map_cons, List.map_nil]); first | done | (simp only [hji3]; rfl) | rfl | (simp only [List.length_drop, List.length_take]; rfl)) ?_
 with_reducible refine (impl_tieOrder.calls k1 ((rd_TTie l0 (ji3)).f0) ((rd_TTie l0 (ji3)).f1) ((rd_TTie l0 x3_1).f0) ((rd_TTie l0 x3_1).f1) t100 _ A7.out).mono ?_
 rintro e w12 ⟨rfl, hb⟩
 refine ⟨_, rfl, ?_⟩
 replace HB := bp HB hb
 (try clear hb)
 (try clear hb2)
 (try clear hk)
 (try clear hi)
 refine hK.out _ _ ⟨((HB.out.cell (World.block_lt_of_cell? w _ hw101_0)).trans hw101_0), ((HB.out.cell (World.block_lt_of_cell? w _ hw101_1)).trans hw101_1), ((HB.out.cell (World.block_lt_of_cell? w _ hw102_0)).trans hw102_0), ((HB.out.cell (World.block_lt_of_cell? w _ hw102_1)).trans hw102_1)⟩ (fun hHeld => ?_)
 clear hK K
 refine nu 19 ?_
 refine pU 10 20 11 2047 HT_ ?_
 refine done_ (done_of HT_.out (by kernel_rfl)) ?_
 try go_wp2
 go_roundg k1
 case measure => have := HK1.out; omega
 case rel => exact ⟨(wrap64 (x3_1 + 1)), qs, H', ⟨by have := HK1.out; omega⟩, ⟨qb HB.out⟩⟩

set_option maxHeartbeats 8000000 in
set_option maxRecDepth 100000 in
theorem impl_NetOk.calls (k : Nat) (a0_0 : Int) (A0_1 : Option Addr) (c0_1 : Nat) (l0_1 : List (STie)) (r : Bool) (w : World) (hr0_1 : Kd.C kTie w A0_1 l0_1.length l0_1) (hc0_1 : l0_1.length ≤ c0_1) (h : impl_NetOk.f k a0_0 l0_1 = some r) :
    Calls Try.prog 11 #[.agg #[.int .i64 a0_0, .slice A0_1 l0_1.length c0_1]] w fun e w' => e = .returned (.bool r) ∧ Below w.heap.size w w' := by
 have hu25 := Try.underlying25
 have hu32 := Try.underlying32
 have HR0_1 := q0 hr0_1
 have HC0_1 := q0 hc0_1
 clear hr0_1 hc0_1
 have HB := q0 (Below.refl w.heap.size w)
 have H : (if a0_0 < 0 then (impl_NetOk.j0 k true a0_0 l0_1) else (impl_NetOk.j0 k (decide (a0_0 > 8)) a0_0 l0_1)) = some r := h
 clear h
 have HC2 := q0 H
 clear H
 go_enter Try.func11, Try.ntmps11
 go_upto_region 1 with (first | ((with_reducible refine gd 1 ?_); refine be 1 #[.int .i64 a0_0, .slice A0_1 l0_1.length c0_1] 25 ?_; intro gb102 hg w3 hbox hb; have BK102 := q0 (hbox); have GW102 := gw HB hg; have GE102 := gw HB hg; replace HB := bp HB hb; clear hb hbox hg))
 (try simp only [Act.put, List.setIfInBounds_toArray, List.set_cons_zero, List.set_cons_succ])
 go_cut [12] (fun v12 wc => ∃ (kq : Nat) (x12_1 : Bool), v12 = .bool x12_1 ∧ Aside0 (impl_NetOk.j0 kq x12_1 a0_0 l0_1 = some r) ∧ Aside0 (kq ≤ k) ∧ Aside0 (wc.heap[gb102]? = some (.cells #[.int .i64 a0_0, (.slice A0_1 l0_1.length c0_1)] 25 (0, 0))) ∧ Aside0 (Below w.heap.size w wc))
 case first =>
   have H := HC2.out
   clear HC2
   by_cases c4 : a0_0 < 0
   · rw [if_pos c4] at H
     have c4b0 := decide_eq_true c4
     clear c4
     (first | rw [c4b0] | (simp only [i64_w, i32_w]; rw [c4b0]) | skip)
     have H' := q0 H
     clear H
     obtain ⟨hcz5_0, hcz5_1, hfz5_0, hfz5_1⟩ := b2 BK102
     go_wp2
     go_meet
     case rel => exact ⟨_, (true), qs, H', ⟨by first | omega | exact Nat.le_refl _⟩, ⟨qk BK102.out⟩, ⟨qb HB.out⟩⟩
   rw [if_neg c4] at H
   have c4b0 := decide_eq_false c4
   clear c4
   (first | rw [c4b0] | (simp only [i64_w, i32_w]; rw [c4b0]) | skip)
   have H' := q0 H
   clear H
   obtain ⟨hcz6_0, hcz6_1, hfz6_0, hfz6_1⟩ := b2 BK102
   go_wp2
   go_meet
   case rel => exact ⟨_, (decide (a0_0 > 8)), qs, H', ⟨by first | omega | exact Nat.le_refl _⟩, ⟨qk BK102.out⟩, ⟨qb HB.out⟩⟩
 clear HC2
 try clear c1
 try clear p2
 try clear c4
 try clear c4b0
 try clear hcz5_0
 try clear hcz5_1
 try clear hcz6_0
 try clear hcz6_1
 try clear hfz5_0
 try clear hfz5_1
 try clear hfz6_0
 try clear hfz6_1
 obtain ⟨kq, x12_1, rfl, HA, HJ1, BK102, HB⟩ := hcut
 rcases kq with _ | kj1
 · exact absurd HA.out (by simp [impl_NetOk.j0])
 have H := HA.out
 clear HA
 simp only [impl_NetOk.j0] at H
 by_cases c7 : x12_1 = true
 · subst c7
   rw [if_pos rfl] at H
   obtain rfl := Option.some.inj H
   go_wp2
   go_ret
   exact ⟨qe, qb HB.out⟩
 replace c7 := Bool.eq_false_iff.mpr c7
 subst c7
 rw [if_neg nf] at H
 have H' := q0 H
 clear H
 obtain ⟨hcz8_0, hcz8_1, hfz8_0, hfz8_1⟩ := b2 BK102
 go_wp2
 go_loopg [16] kj1 (fun kq v16 w' => ∃ (x16_2 : Int), v16 = .int .i64 x16_2 ∧ Aside0 (impl_NetOk.l0 kq l0_1 (l0_1.length : Int) x16_2 a0_0 l0_1 = some r) ∧ Aside0 (kq ≤ kj1) ∧ Aside0 (w'.heap[gb102]? = some (.cells #[.int .i64 a0_0, (.slice A0_1 l0_1.length c0_1)] 25 (0, 0))) ∧ Aside0 (Below w.heap.size w w'))
 case atStart => exact ⟨(0), qs, H', ⟨Nat.le_refl _⟩, ⟨qk BK102.out⟩, ⟨qb HB.out⟩⟩
 clear H'
 try clear c1
 try clear p2
 try clear c4
 try clear c4b0
 try clear c7
 try clear hcz5_0
 try clear hcz5_1
 try clear hcz6_0
 try clear hcz6_1
 try clear hcz8_0
 try clear hcz8_1
 try clear hfz5_0
 try clear hfz5_1
 try clear hfz6_0
 try clear hfz6_1
 try clear hfz8_0
 try clear hfz8_1
 try clear p2
 obtain ⟨x16_2, rfl, HA, HK2, BK102, HB⟩ := hrel
 rcases gk with _ | k2
 · exact absurd HA.out (by simp [impl_NetOk.l0])
 have H := HA.out
 clear HA
 simp only [impl_NetOk.l0] at H
 by_cases c9 : x16_2 < (l0_1.length : Int)
 rotate_left
 · rw [if_neg c9] at H
   have c9b0 := decide_eq_false c9
   clear c9
   obtain ⟨t101, A29, H⟩ := ob H
   obtain rfl := Option.some.inj H
   obtain ⟨hcz30_0, hcz30_1, hfz30_0, hfz30_1⟩ := b2 BK102
   go_wp2_with (first | ((with_reducible refine gf 21 ?_); refine gl 40 Try.func21 #[.slice A0_1 l0_1.length c0_1] ?_; (with_reducible refine (impl_ascending.calls k2 _ _ l0_1 t101 _ ?side1 ?side2 A29.out).mono ?_); (case side1 => exact qc (Kd.C_below HR0_1.out HB.out)); (case side2 => exact HC0_1.out); rintro e w31 ⟨rfl, hb⟩; refine ⟨_, rfl, ?_⟩; replace BK102 := kd BK102 hb; replace HB := bp HB hb; (try clear hb); (try clear hb2); (try clear hk); (try clear hi)))
   go_ret
   exact ⟨qe, qb HB.out⟩
 rw [if_pos c9] at H
 have c9b0 := decide_eq_true c9
 clear c9
 obtain ⟨c10, H⟩ : (0 ≤ x16_2) ∧ _ := og H
 have c10b0 := decide_eq_true c10
 clear c10
 obtain ⟨c11, H⟩ : (x16_2 < (l0_1.length : Int)) ∧ _ := og H
 have c11b0 := decide_eq_true c11
 clear c11
 by_cases c12 : ((rd_TTie l0_1 x16_2).f0) < 0
 · rw [if_pos c12] at H
   have c12b0 := decide_eq_true c12
   clear c12
   obtain rfl := Option.some.inj H
   have p100 : 0 ≤ (x16_2 : Int) := of_decide_eq_true qa
   have q100 : x16_2 < (l0_1.length : Int) := of_decide_eq_true qa
   obtain ⟨ad100, e100, hx100_0, hx100_1⟩ := at_TTie HR0_1.out x16_2 p100 q100
   cases e100
   replace hx100_0 := hcl HB.out hx100_0
   replace hx100_1 := hcl HB.out hx100_1
   replace p100 := eq_true p100
   replace q100 := eq_true q100
   go_wp2_with (first | ((with_reducible refine gd 4 ?_); refine be 4 #[.int .i64 0, .int .i64 0] 32 ?_; intro gb103 hg w13 hbox hb; have BK103 := q0 (hbox); have GW103 := gw HB hg; have GE103 := gw HB hg; replace HB := bp HB hb; have NB102_103 := nl BK102 hg; have NB103_102 := ng BK102 hg; replace BK102 := kd BK102 hb; clear hb hbox hg; have hnb14 := NB103_102.out; have hnc14 := NB102_103.out; obtain ⟨hcz15_0, hcz15_1, hfz15_0, hfz15_1⟩ := b2 BK103))
   go_ret
   exact ⟨qe, qb HB.out⟩
 rw [if_neg c12] at H
 have c12b0 := decide_eq_false c12
 clear c12
 by_cases c16 : ((rd_TTie l0_1 x16_2).f0) ≥ ((rd_TTie l0_1 x16_2).f1)
 · rw [if_pos c16] at H
   have c16b0 := decide_eq_true c16
   clear c16
   obtain rfl := Option.some.inj H
   have p100 : 0 ≤ (x16_2 : Int) := of_decide_eq_true qa
   have q100 : x16_2 < (l0_1.length : Int) := of_decide_eq_true qa
   obtain ⟨ad100, e100, hx100_0, hx100_1⟩ := at_TTie HR0_1.out x16_2 p100 q100
   cases e100
   replace hx100_0 := hcl HB.out hx100_0
   replace hx100_1 := hcl HB.out hx100_1
   replace p100 := eq_true p100
   replace q100 := eq_true q100
   go_wp2_with (first | ((with_reducible refine gd 4 ?_); refine be 4 #[.int .i64 0, .int .i64 0] 32 ?_; intro gb103 hg w17 hbox hb; have BK103 := q0 (hbox); have GW103 := gw HB hg; have GE103 := gw HB hg; replace HB := bp HB hb; have NB102_103 := nl BK102 hg; have NB103_102 := ng BK102 hg; replace BK102 := kd BK102 hb; clear hb hbox hg; have hnb18 := NB103_102.out; have hnc18 := NB102_103.out; obtain ⟨hcz19_0, hcz19_1, hfz19_0, hfz19_1⟩ := b2 BK103))
   go_ret
   exact ⟨qe, qb HB.out⟩
 rw [if_neg c16] at H
 have c16b0 := decide_eq_false c16
 clear c16
 by_cases c20 : ((rd_TTie l0_1 x16_2).f1) ≥ a0_0
 · rw [if_pos c20] at H
   have c20b0 := decide_eq_true c20
   clear c20
   obtain rfl := Option.some.inj H
   have p100 : 0 ≤ (x16_2 : Int) := of_decide_eq_true qa
   have q100 : x16_2 < (l0_1.length : Int) := of_decide_eq_true qa
   obtain ⟨ad100, e100, hx100_0, hx100_1⟩ := at_TTie HR0_1.out x16_2 p100 q100
   cases e100
   replace hx100_0 := hcl HB.out hx100_0
   replace hx100_1 := hcl HB.out hx100_1
   replace p100 := eq_true p100
   replace q100 := eq_true q100
   go_wp2_with (first | ((with_reducible refine gd 4 ?_); refine be 4 #[.int .i64 0, .int .i64 0] 32 ?_; intro gb103 hg w21 hbox hb; have BK103 := q0 (hbox); have GW103 := gw HB hg; have GE103 := gw HB hg; replace HB := bp HB hb; have NB102_103 := nl BK102 hg; have NB103_102 := ng BK102 hg; replace BK102 := kd BK102 hb; clear hb hbox hg; have hnb22 := NB103_102.out; have hnc22 := NB102_103.out; obtain ⟨hcz23_0, hcz23_1, hfz23_0, hfz23_1⟩ := b2 BK103; obtain ⟨hcz24_0, hcz24_1, hfz24_0, hfz24_1⟩ := b2 BK102))
   go_ret
   exact ⟨qe, qb HB.out⟩
 rw [if_neg c20] at H
 have c20b0 := decide_eq_false c20
 clear c20
 have H' := q0 H
 clear H
 have p100 : 0 ≤ (x16_2 : Int) := of_decide_eq_true qa
 have q100 : x16_2 < (l0_1.length : Int) := of_decide_eq_true qa
 obtain ⟨ad100, e100, hx100_0, hx100_1⟩ := at_TTie HR0_1.out x16_2 p100 q100
 cases e100
 replace hx100_0 := hcl HB.out hx100_0
 replace hx100_1 := hcl HB.out hx100_1
 replace p100 := eq_true p100
 replace q100 := eq_true q100
 go_wp2_with (first | ((with_reducible refine gd 4 ?_); refine be 4 #[.int .i64 0, .int .i64 0] 32 ?_; intro gb103 hg w25 hbox hb; have BK103 := q0 (hbox); have GW103 := gw HB hg; have GE103 := gw HB hg; replace HB := bp HB hb; have NB102_103 := nl BK102 hg; have NB103_102 := ng BK102 hg; replace BK102 := kd BK102 hb; clear hb hbox hg; have hnb26 := NB103_102.out; have hnc26 := NB102_103.out; obtain ⟨hcz27_0, hcz27_1, hfz27_0, hfz27_1⟩ := b2 BK103; obtain ⟨hcz28_0, hcz28_1, hfz28_0, hfz28_1⟩ := b2 BK102))
 go_roundg k2
 case measure => have := HJ1.out; have := HK2.out; omega
 case rel => exact ⟨(wrap64 (x16_2 + 1)), qs, H', ⟨by have := HJ1.out; have := HK2.out; omega⟩, ⟨qf BK102.out⟩, ⟨qb HB.out⟩⟩

attribute [local go_sem high] eqATie
set_option maxHeartbeats 8000000 in
set_option maxRecDepth 100000 in
theorem slices_Index_Tie.calls (k : Nat) (A0 : Option Addr) (c0 : Nat) (l0 : List (STie)) (a1_0 : Int) (a1_1 : Int) (r : Int) (w : World) (hr0 : Kd.C kTie w A0 l0.length l0) (hc0 : l0.length ≤ c0) (h : slices_Index_Tie.f k l0 a1_0 a1_1 = some r) :
    Calls Try.prog 36 #[.slice A0 l0.length c0, .agg #[.int .i64 a1_0, .int .i64 a1_1]] w fun e w' => e = .returned (.int .i64 r) ∧ Below w.heap.size w w' := by
 have hu32 := Try.underlying32
 have HR0 := q0 hr0
 have HC0 := q0 hc0
 clear hr0 hc0
 have HB := q0 (Below.refl w.heap.size w)
 have H : (slices_Index_Tie.l0 k l0 (l0.length : Int) 0 a1_0 a1_1) = some r := h
 clear h
 have H' := q0 H
 clear H
 go_enter Try.func36, Try.ntmps36
 go_wp2_with (first | ((with_reducible refine gd 3 ?_); refine be 3 #[.int .i64 a1_0, .int .i64 a1_1] 32 ?_; intro gb101 hg w3 hbox hb; have BK101 := q0 (hbox); have GW101 := gw HB hg; have GE101 := gw HB hg; replace HB := bp HB hb; clear hb hbox hg))
 repeat (go_quiet (first | ((with_reducible refine gd 3 ?_); refine be 3 #[.int .i64 a1_0, .int .i64 a1_1] 32 ?_; intro gb101 hg w3 hbox hb; have BK101 := q0 (hbox); have GW101 := gw HB hg; have GE101 := gw HB hg; replace HB := bp HB hb; clear hb hbox hg)); try go_wp2_with (first | ((with_reducible refine gd 3 ?_); refine be 3 #[.int .i64 a1_0, .int .i64 a1_1] 32 ?_; intro gb101 hg w3 hbox hb; have BK101 := q0 (hbox); have GW101 := gw HB hg; have GE101 := gw HB hg; replace HB := bp HB hb; clear hb hbox hg)))
 go_loopg [8] k (fun kq v8 w' => ∃ (x8_1 : Int), v8 = .int .i64 x8_1 ∧ Aside0 (slices_Index_Tie.l0 kq l0 (l0.length : Int) x8_1 a1_0 a1_1 = some r) ∧ Aside0 (kq ≤ k) ∧ Aside0 (w'.heap[gb101]? = some (.cells #[.int .i64 a1_0, .int .i64 a1_1] 32 (0, 0))) ∧ Aside0 (Below w.heap.size w w'))
 case atStart => exact ⟨(0), qs, H', ⟨Nat.le_refl _⟩, ⟨qk BK101.out⟩, ⟨qb HB.out⟩⟩
 clear H'
 try clear p2
 try clear c3
 obtain ⟨x8_1, rfl, HA, HK1, BK101, HB⟩ := hrel
 rcases gk with _ | k1
 · exact absurd HA.out (by simp [slices_Index_Tie.l0])
 have H := HA.out
 clear HA
 simp only [slices_Index_Tie.l0] at H
 by_cases c4 : x8_1 < (l0.length : Int)
 rotate_left
 · rw [if_neg c4] at H
   have c4b0 := decide_eq_false c4
   clear c4
   obtain rfl := Option.some.inj H
   go_wp2
   repeat (go_quiet (fail); try go_wp2)
   go_ret
   exact ⟨qe, qb HB.out⟩
 rw [if_pos c4] at H
 have c4b0 := decide_eq_true c4
 clear c4
 obtain ⟨c5, H⟩ : (0 ≤ x8_1) ∧ _ := og H
 have c5b0 := decide_eq_true c5
 clear c5
 obtain ⟨c6, H⟩ : (x8_1 < (l0.length : Int)) ∧ _ := og H
 have c6b0 := decide_eq_true c6
 clear c6
 by_cases c7 : (a1_0 == ((rd_TTie l0 x8_1).f0) && (a1_1 == ((rd_TTie l0 x8_1).f1))) = true
 · rw [if_pos c7] at H
   have c7b0 : (a1_0 == ((rd_TTie l0 x8_1).f0) && (a1_1 == ((rd_TTie l0 x8_1).f1))) = true := c7
   (try (have c7b1 : decide (a1_0 = ((rd_TTie l0 x8_1).f0) && (a1_1 == ((rd_TTie l0 x8_1).f1))) = true := by simpa using c7))
   (try (have c7b2 : (a1_0 == ((rd_TTie l0 x8_1).f0) && (a1_1 == ((rd_TTie l0 x8_1).f1))) = true := by simpa using c7))
   clear c7
   obtain rfl := Option.some.inj H
   obtain ⟨hcz8_0, hcz8_1, hfz8_0, hfz8_1⟩ := b2 BK101
   have p100 : 0 ≤ (x8_1 : Int) := of_decide_eq_true qa
   have q100 : x8_1 < (l0.length : Int) := of_decide_eq_true qa
   obtain ⟨ad100, e100, hx100_0, hx100_1⟩ := at_TTie HR0.out x8_1 p100 q100
   cases e100
   replace hx100_0 := hcl HB.out hx100_0
   replace hx100_1 := hcl HB.out hx100_1
   replace p100 := eq_true p100
   replace q100 := eq_true q100
   go_wp2
   repeat (go_quiet (fail); try go_wp2)
   go_ret
   exact ⟨qe, qb HB.out⟩
 rw [if_neg c7] at H
 have c7b0 : (a1_0 == ((rd_TTie l0 x8_1).f0) && (a1_1 == ((rd_TTie l0 x8_1).f1))) = false := by simpa using c7
 (try (have c7b1 : decide (a1_0 = ((rd_TTie l0 x8_1).f0) && (a1_1 == ((rd_TTie l0 x8_1).f1))) = false := by simpa using c7))
 (try (have c7b2 : (a1_0 == ((rd_TTie l0 x8_1).f0) && (a1_1 == ((rd_TTie l0 x8_1).f1))) = false := by simpa using c7))
 (try (have c7b3 : ¬ (a1_0 = ((rd_TTie l0 x8_1).f0) && (a1_1 == ((rd_TTie l0 x8_1).f1))) := by simpa using c7))
 clear c7
 have H' := q0 H
 clear H
 obtain ⟨hcz9_0, hcz9_1, hfz9_0, hfz9_1⟩ := b2 BK101
 have p100 : 0 ≤ (x8_1 : Int) := of_decide_eq_true qa
 have q100 : x8_1 < (l0.length : Int) := of_decide_eq_true qa
 obtain ⟨ad100, e100, hx100_0, hx100_1⟩ := at_TTie HR0.out x8_1 p100 q100
 cases e100
 replace hx100_0 := hcl HB.out hx100_0
 replace hx100_1 := hcl HB.out hx100_1
 replace p100 := eq_true p100
 replace q100 := eq_true q100
 go_wp2
 repeat (go_quiet (fail); try go_wp2)
 go_roundg k1
 case measure => have := HK1.out; omega
 case rel => exact ⟨(wrap64 (x8_1 + 1)), qs, H', ⟨by have := HK1.out; omega⟩, ⟨qk BK101.out⟩, ⟨qb HB.out⟩⟩

set_option maxHeartbeats 8000000 in
set_option maxRecDepth 100000 in
theorem slices_Contains_Tie.calls (k : Nat) (A0 : Option Addr) (c0 : Nat) (l0 : List (STie)) (a1_0 : Int) (a1_1 : Int) (r : Bool) (w : World) (hr0 : Kd.C kTie w A0 l0.length l0) (hc0 : l0.length ≤ c0) (h : slices_Contains_Tie.f k l0 a1_0 a1_1 = some r) :
    Calls Try.prog 28 #[.slice A0 l0.length c0, .agg #[.int .i64 a1_0, .int .i64 a1_1]] w fun e w' => e = .returned (.bool r) ∧ Below w.heap.size w w' := by
 have hu32 := Try.underlying32
 have HR0 := q0 hr0
 have HC0 := q0 hc0
 clear hr0 hc0
 have HB := q0 (Below.refl w.heap.size w)
 have H : ((slices_Index_Tie.f k l0 a1_0 a1_1).bind fun t100 => (some (decide (t100 ≥ 0)))) = some r := h
 clear h
 obtain ⟨t100, A3, H⟩ := ob H
 obtain rfl := Option.some.inj H
 go_enter Try.func28, Try.ntmps28
 go_wp2_with (first | ((with_reducible refine gd 3 ?_); refine be 3 #[.int .i64 a1_0, .int .i64 a1_1] 32 ?_; intro gb101 hg w4 hbox hb; have BK101 := q0 (hbox); have GW101 := gw HB hg; have GE101 := gw HB hg; replace HB := bp HB hb; clear hb hbox hg; obtain ⟨hcz5_0, hcz5_1, hfz5_0, hfz5_1⟩ := b2 BK101) | ((with_reducible refine gf 36 ?_); refine gl 7 Try.func36 #[.slice A0 l0.length c0, .agg #[.int .i64 a1_0, .int .i64 a1_1]] ?_; (with_reducible refine (slices_Index_Tie.calls k _ _ l0 a1_0 a1_1 t100 _ ?side1 ?side2 A3.out).mono ?_); (case side1 => exact qc (Kd.C_below HR0.out HB.out)); (case side2 => exact HC0.out); rintro e w6 ⟨rfl, hb⟩; refine ⟨_, rfl, ?_⟩; replace BK101 := kd BK101 hb; replace HB := bp HB hb; (try clear hb); (try clear hb2); (try clear hk); (try clear hi)))
 go_ret
 exact ⟨qe, qb HB.out⟩

set_option maxHeartbeats 8000000 in
set_option maxRecDepth 100000 in
theorem impl_Net_less.calls (k : Nat) (a0_0 : Int) (A0_1 : Option Addr) (c0_1 : Nat) (l0_1 : List (STie)) (A1 : Option Addr) (c1 : Nat) (l1 : List (STie)) (r1 : Int) (r2 : List (STie)) (w : World) (hr0_1 : Kd.C kTie w A0_1 l0_1.length l0_1) (hc0_1 : l0_1.length ≤ c0_1) (hr1 : Kd.C kTie w A1 l1.length l1) (hc1 : l1.length ≤ c1) (h : impl_Net_less.f k a0_0 l0_1 l1 = some (r1, r2)) :
    Calls Try.prog 16 #[.agg #[.int .i64 a0_0, .slice A0_1 l0_1.length c0_1], .slice A1 l1.length c1] w fun e w' => ∃ v1_ : Value, e = .returned (.agg #[.int .i64 r1, v1_]) ∧ Kd.R kTie 32 w' w.heap.size (fun _ => True) v1_ r2 ∧ Below w.heap.size w w' := by
 have hu25 := Try.underlying25
 have hu32 := Try.underlying32
 have HR0_1 := q0 hr0_1
 have HC0_1 := q0 hc0_1
 clear hr0_1 hc0_1
 have HR1 := q0 hr1
 have HC1 := q0 hc1
 clear hr1 hc1
 have HB := q0 (Below.refl w.heap.size w)
 have H : (impl_Net_less.l0 k l1 l0_1 (l0_1.length : Int) 0 a0_0 (([] : List (STie)))) = some (r1, r2) := h
 clear h
 obtain ⟨y102, hy102⟩ : ∃ y_ : List (STie), y_ = (([] : List (STie))) := ⟨_, rfl⟩
 replace H : (impl_Net_less.l0 k l1 l0_1 (l0_1.length : Int) 0 a0_0 y102) = some (r1, r2) := qy H hy102
 have Ny102 := q0 hy102
 clear hy102
 have H' := q0 H
 clear H
 go_enter Try.func16, Try.ntmps16
 go_wp2_with (first | ((with_reducible refine gd 2 ?_); refine be 2 #[.int .i64 a0_0, .slice A0_1 l0_1.length c0_1] 25 ?_; intro gb103 hg w3 hbox hb; have BK103 := q0 (hbox); have GW103 := gw HB hg; have GE103 := gw HB hg; replace HB := bp HB hb; clear hb hbox hg) | ((with_reducible refine gd 4 ?_); refine be 4 #[.int .i64 0, .slice none 0 0] 25 ?_; intro gb104 hg w4 hbox hb; have BK104 := q0 (hbox); have GW104 := gw HB hg; have GE104 := gw HB hg; replace HB := bp HB hb; have NB103_104 := nl BK103 hg; have NB104_103 := ng BK103 hg; replace BK103 := kd BK103 hb; clear hb hbox hg; have hnb5 := NB103_104.out; have hnc5 := NB104_103.out; obtain ⟨hcz6_0, hcz6_1, hfz6_0, hfz6_1⟩ := b2 BK103) | ((with_reducible refine gd 10 ?_); refine Kd.R_lit kTie _ 32 ?hg (N := 10) ?hd (xs := ([] : List (STie))) (inner := []) (ok := fun _ => True) (okp := fun _ => True) ?hr ?hp (fun _ hk => hk) trivial (Below.refl _ _) (Nat.le_refl _) (by simp) ?_; (case hd => rfl); (case hg => rfl); (case hr => first | (go_simp; done) | (go_simp; rfl)); (case hp => exact (Reps.none _ _)); intro v105 w7 ho8 hb hg_ hnew_; clear hg_ hnew_; (first | rw [← Ny102.out] at ho8 | (simp only [Int.reduceToNat] at ho8; rw [← Ny102.out] at ho8)); have HO106 := q0 (Kd.R_lower ho8 (below_size (qb HB.out))); replace BK103 := kd BK103 hb; replace BK104 := kd BK104 hb; replace HB := bp HB hb; clear hb ho8; obtain ⟨Ao9, co9, eo9⟩ := Kd.R_slice HO106.out; subst eo9) | ((with_reducible refine gd 5 ?_); refine be 5 #[.int .i64 0, .slice none 0 0] 25 ?_; intro gb107 hg w10 hbox hb; replace HO106 := q0 (Kd.R_below (qr HO106.out) hb); have BK107 := q0 (hbox); have GW107 := gw HB hg; have GE107 := gw HB hg; replace HB := bp HB hb; have NB103_107 := nl BK103 hg; have NB107_103 := ng BK103 hg; replace BK103 := kd BK103 hb; have NB104_107 := nl BK104 hg; have NB107_104 := ng BK104 hg; replace BK104 := kd BK104 hb; clear hb hbox hg; have hnb11 := NB107_103.out; have hnc11 := NB103_107.out; have hnb12 := NB107_104.out; have hnc12 := NB104_107.out; obtain ⟨hcz13_0, hcz13_1, hfz13_0, hfz13_1⟩ := b2 BK107; obtain ⟨hcz14_0, hcz14_1, hfz14_0, hfz14_1⟩ := b2 BK103))
 go_loopg [15] k (fun kq v15 w' => ∃ (x15_1 : Int) (x100001_1 : List (STie)) (u100001 : Value), v15 = .int .i64 x15_1 ∧ Aside0 (impl_Net_less.l0 kq l1 l0_1 (l0_1.length : Int) x15_1 a0_0 x100001_1 = some (r1, r2)) ∧ Aside0 (kq ≤ k) ∧ Aside0 (Kd.R kTie 32 w' w.heap.size (fun _ => True) u100001 x100001_1) ∧ Aside0 (w'.heap[gb103]? = some (.cells #[.int .i64 a0_0, (.slice A0_1 l0_1.length c0_1)] 25 (0, 0))) ∧ Aside0 (w'.heap[gb104]? = some (.cells #[.int .i64 0, (.slice none 0 0)] 25 (0, 0))) ∧ Aside0 (w'.heap[gb107]? = some (.cells #[.int .i64 a0_0, u100001] 25 (0, 0))) ∧ Aside0 (Below w.heap.size w w'))
 case atStart => exact ⟨(0), (y102), (.slice Ao9 y102.length co9), qs, H', ⟨Nat.le_refl _⟩, ⟨by (with_reducible repeat (first | apply Kd.R_alloc | apply Kd.R_drewN | apply Kd.R_drew)); exact rf2 HO106.out BK107.out (fun _ hk => trivial)⟩, ⟨qf BK103.out⟩, ⟨qf BK104.out⟩, ⟨by (with_reducible repeat (first | refine blk_drewN ?_ _ | refine blk_drew ?_ | refine blk_alloc ?_ _)); refine blk_put (cs := #[.int .i64 a0_0, .slice none 0 0]) ?_ 1 _ rfl; (with_reducible repeat (first | refine blk_drewN ?_ _ | refine blk_drew ?_ | refine blk_alloc ?_ _)); refine blk_put (cs := #[.int .i64 0, .slice none 0 0]) ?_ 0 _ rfl; (with_reducible repeat (first | refine blk_drewN ?_ _ | refine blk_drew ?_ | refine blk_alloc ?_ _)); exact BK107.out⟩, ⟨qb HB.out⟩⟩
 clear H'
 try clear c1
 try clear p2
 try clear c5
 try clear c11
 try clear c12
 try clear hcz13_0
 try clear hcz13_1
 try clear hcz14_0
 try clear hcz14_1
 try clear hcz6_0
 try clear hcz6_1
 try clear hfz13_0
 try clear hfz13_1
 try clear hfz14_0
 try clear hfz14_1
 try clear hfz6_0
 try clear hfz6_1
 obtain ⟨x15_1, x100001_1, u100001, rfl, HA, HK1, HO_100001, BK103, BK104, BK107, HB⟩ := hrel
 rcases gk with _ | k1
 · exact absurd HA.out (by simp [impl_Net_less.l0])
 have H := HA.out
 clear HA
 simp only [impl_Net_less.l0] at H
 by_cases c15 : x15_1 < (l0_1.length : Int)
 rotate_left
 · rw [if_neg c15] at H
   have c15b0 := decide_eq_false c15
   clear c15
   simp only [Option.some.injEq, Prod.mk.injEq] at H
   obtain ⟨rfl, rfl⟩ := H
   have hnb40 := NB107_103.out
   have hnc40 := NB103_107.out
   have hnb41 := NB107_104.out
   have hnc41 := NB104_107.out
   obtain ⟨hcz42_0, hcz42_1, hfz42_0, hfz42_1⟩ := b2 BK107
   have hnb43 := NB104_103.out
   have hnc43 := NB103_104.out
   obtain ⟨hcz44_0, hcz44_1, hfz44_0, hfz44_1⟩ := b2 BK104
   obtain ⟨Ao45, co45, eo45⟩ := Kd.R_slice HO_100001.out
   subst eo45
   go_wp2
   refine bodyPost_ret (results_cell_row rfl _ _ gb104 25 #[.int .i64 a0_0, .slice Ao45 x100001_1.length co45] (0, 0) _ rfl (by (with_reducible repeat (first | refine blk_drewN ?_ _ | refine blk_drew ?_ | refine blk_alloc ?_ _)); refine blk_put (cs := #[.int .i64 a0_0, .slice none 0 0]) ?_ 1 _ rfl; (with_reducible repeat (first | refine blk_drewN ?_ _ | refine blk_drew ?_ | refine blk_alloc ?_ _)); refine blk_put (cs := #[.int .i64 0, .slice none 0 0]) ?_ 0 _ rfl; (with_reducible repeat (first | refine blk_drewN ?_ _ | refine blk_drew ?_ | refine blk_alloc ?_ _)); exact BK104.out) Try.underlying25 rfl (by kernel_rfl)) rfl ?_
   exact ⟨_, qe, by (with_reducible repeat (first | apply Kd.R_alloc | apply Kd.R_drewN | apply Kd.R_drew)); exact rf2 HO_100001.out BK104.out (fun _ hk => trivial), qb HB.out⟩
 rw [if_pos c15] at H
 have c15b0 := decide_eq_true c15
 clear c15
 obtain ⟨c16, H⟩ : (0 ≤ x15_1) ∧ _ := og H
 have c16b0 := decide_eq_true c16
 clear c16
 obtain ⟨c17, H⟩ : (x15_1 < (l0_1.length : Int)) ∧ _ := og H
 have c17b0 := decide_eq_true c17
 clear c17
 obtain ⟨t101, A18, H⟩ := ob H
 by_cases c19 : t101 = true
 · subst c19
   rw [if_pos rfl] at H
   have H' := q0 H
   clear H
   have p100 : 0 ≤ (x15_1 : Int) := of_decide_eq_true qa
   have q100 : x15_1 < (l0_1.length : Int) := of_decide_eq_true qa
   obtain ⟨ad100, e100, hx100_0, hx100_1⟩ := at_TTie HR0_1.out x15_1 p100 q100
   cases e100
   replace hx100_0 := hcl HB.out hx100_0
   replace hx100_1 := hcl HB.out hx100_1
   replace p100 := eq_true p100
   replace q100 := eq_true q100
   go_wp2_with (first | ((with_reducible refine gd 7 ?_); refine be 7 #[.int .i64 0, .int .i64 0] 32 ?_; intro gb109 hg w20 hbox hb; replace HO_100001 := q0 (Kd.R_below (Kd.R_elderB (qr HO_100001.out) gb109 (Nat.le_of_eq hg.symm)) hb); have BK109 := q0 (hbox); have GW109 := gw HB hg; have GE109 := gw HB hg; replace HB := bp HB hb; have NB103_109 := nl BK103 hg; have NB109_103 := ng BK103 hg; replace BK103 := kd BK103 hb; have NB104_109 := nl BK104 hg; have NB109_104 := ng BK104 hg; replace BK104 := kd BK104 hb; have NB107_109 := nl BK107 hg; have NB109_107 := ng BK107 hg; replace BK107 := kd BK107 hb; clear hb hbox hg; have hnb21 := NB109_103.out; have hnc21 := NB103_109.out; have hnb22 := NB109_104.out; have hnc22 := NB104_109.out; have hnb23 := NB109_107.out; have hnc23 := NB107_109.out; obtain ⟨hcz24_0, hcz24_1, hfz24_0, hfz24_1⟩ := b2 BK109) | ((with_reducible refine gf 28 ?_); refine gl 21 Try.func28 #[.slice A1 l1.length c1, .agg #[.int .i64 ((rd_TTie l0_1 x15_1).f0), .int .i64 ((rd_TTie l0_1 x15_1).f1)]] ?_; (with_reducible refine (slices_Contains_Tie.calls k1 _ _ l1 ((rd_TTie l0_1 x15_1).f0) ((rd_TTie l0_1 x15_1).f1) true _ ?side1 ?side2 A18.out).mono ?_); (case side1 => exact Kd.C_below HR1.out (qb HB.out)); (case side2 => exact HC1.out); rintro e w25 ⟨rfl, hb⟩; refine ⟨_, rfl, ?_⟩; replace HO_100001 := q0 (Kd.R_below (by (with_reducible repeat (first | apply Kd.R_alloc | apply Kd.R_drewN | apply Kd.R_drew)); exact (Kd.R_mono (Kd.R_far (p := ⟨gb109, 1, none⟩) (Kd.R_far (p := ⟨gb109, 0, none⟩) (Kd.R_mono HO_100001.out (fun k_ hk => (⟨hk, hk.2⟩ : _ ∧ k_ ≠ gb109))) (fun _ hk => hk.2) (.int .i64 ((rd_TTie l0_1 x15_1).f0))) (fun _ hk => hk.2) (.int .i64 ((rd_TTie l0_1 x15_1).f1))) (fun _ h_ => h_.1))) hb); replace BK103 := q0 (kf BK103.out hb); replace BK104 := q0 (kf BK104.out hb); replace BK107 := q0 (kf BK107.out hb); replace BK109 := q0 (blk_below (g := gb109) (o := .cells #[.int .i64 ((rd_TTie l0_1 x15_1).f0), .int .i64 ((rd_TTie l0_1 x15_1).f1)] 32 (0, 0)) (by (with_reducible repeat (first | refine blk_drewN ?_ _ | refine blk_drew ?_ | refine blk_alloc ?_ _)); refine blk_put (cs := #[.int .i64 ((rd_TTie l0_1 x15_1).f0), .int .i64 0]) ?_ 1 _ rfl; (with_reducible repeat (first | refine blk_drewN ?_ _ | refine blk_drew ?_ | refine blk_alloc ?_ _)); refine blk_put (cs := #[.int .i64 0, .int .i64 0]) ?_ 0 _ rfl; (with_reducible repeat (first | refine blk_drewN ?_ _ | refine blk_drew ?_ | refine blk_alloc ?_ _)); exact BK109.out) hb); replace HB := bp HB hb; (try clear hb); (try clear hb2); (try clear hk); (try clear hi)))
   go_roundg k1
   case measure => have := HK1.out; omega
   case rel => exact ⟨(wrap64 (x15_1 + 1)), (x100001_1), (u100001), qs, H', ⟨by have := HK1.out; omega⟩, ⟨by (with_reducible repeat (first | apply Kd.R_alloc | apply Kd.R_drewN | apply Kd.R_drew)); exact Kd.R_mono HO_100001.out (fun _ hk => trivial)⟩, ⟨qk BK103.out⟩, ⟨qk BK104.out⟩, ⟨qk BK107.out⟩, ⟨qb HB.out⟩⟩
 replace c19 := Bool.eq_false_iff.mpr c19
 subst c19
 rw [if_neg nf] at H
 obtain ⟨c26, H⟩ : (x100001_1.length < 8796093022208) ∧ _ := og H
 have LMc26 := q0 c26
 clear c26
 obtain ⟨y110, hy110⟩ : ∃ y_ : List (STie), y_ = (x100001_1 ++ [(⟨(rd_TTie l0_1 x15_1).f0, (rd_TTie l0_1 x15_1).f1⟩ : STie)]) := ⟨_, rfl⟩
 replace H : (impl_Net_less.l0 k1 l1 l0_1 (l0_1.length : Int) (wrap64 (x15_1 + 1)) a0_0 y110) = some (r1, r2) := qy H hy110
 have Ny110 := q0 hy110
 clear hy110
 have H' := q0 H
 clear H
 have p100 : 0 ≤ (x15_1 : Int) := of_decide_eq_true qa
 have q100 : x15_1 < (l0_1.length : Int) := of_decide_eq_true qa
 obtain ⟨ad100, e100, hx100_0, hx100_1⟩ := at_TTie HR0_1.out x15_1 p100 q100
 cases e100
 replace hx100_0 := hcl HB.out hx100_0
 replace hx100_1 := hcl HB.out hx100_1
 replace p100 := eq_true p100
 replace q100 := eq_true q100
 go_wp2_with (first | ((with_reducible refine gd 7 ?_); refine be 7 #[.int .i64 0, .int .i64 0] 32 ?_; intro gb109 hg w27 hbox hb; replace HO_100001 := q0 (Kd.R_below (Kd.R_elderB (qr HO_100001.out) gb109 (Nat.le_of_eq hg.symm)) hb); have BK109 := q0 (hbox); have GW109 := gw HB hg; have GE109 := gw HB hg; replace HB := bp HB hb; have NB103_109 := nl BK103 hg; have NB109_103 := ng BK103 hg; replace BK103 := kd BK103 hb; have NB104_109 := nl BK104 hg; have NB109_104 := ng BK104 hg; replace BK104 := kd BK104 hb; have NB107_109 := nl BK107 hg; have NB109_107 := ng BK107 hg; replace BK107 := kd BK107 hb; clear hb hbox hg; have hnb28 := NB109_103.out; have hnc28 := NB103_109.out; have hnb29 := NB109_104.out; have hnc29 := NB104_109.out; have hnb30 := NB109_107.out; have hnc30 := NB107_109.out; obtain ⟨hcz31_0, hcz31_1, hfz31_0, hfz31_1⟩ := b2 BK109) | ((with_reducible refine gf 28 ?_); refine gl 21 Try.func28 #[.slice A1 l1.length c1, .agg #[.int .i64 ((rd_TTie l0_1 x15_1).f0), .int .i64 ((rd_TTie l0_1 x15_1).f1)]] ?_; (with_reducible refine (slices_Contains_Tie.calls k1 _ _ l1 ((rd_TTie l0_1 x15_1).f0) ((rd_TTie l0_1 x15_1).f1) false _ ?side1 ?side2 A18.out).mono ?_); (case side1 => exact Kd.C_below HR1.out (qb HB.out)); (case side2 => exact HC1.out); rintro e w32 ⟨rfl, hb⟩; refine ⟨_, rfl, ?_⟩; replace HO_100001 := q0 (Kd.R_below (by (with_reducible repeat (first | apply Kd.R_alloc | apply Kd.R_drewN | apply Kd.R_drew)); exact (Kd.R_mono (Kd.R_far (p := ⟨gb109, 1, none⟩) (Kd.R_far (p := ⟨gb109, 0, none⟩) (Kd.R_mono HO_100001.out (fun k_ hk => (⟨hk, hk.2⟩ : _ ∧ k_ ≠ gb109))) (fun _ hk => hk.2) (.int .i64 ((rd_TTie l0_1 x15_1).f0))) (fun _ hk => hk.2) (.int .i64 ((rd_TTie l0_1 x15_1).f1))) (fun _ h_ => h_.1))) hb); replace BK103 := q0 (kf BK103.out hb); replace BK104 := q0 (kf BK104.out hb); replace BK107 := q0 (kf BK107.out hb); replace BK109 := q0 (blk_below (g := gb109) (o := .cells #[.int .i64 ((rd_TTie l0_1 x15_1).f0), .int .i64 ((rd_TTie l0_1 x15_1).f1)] 32 (0, 0)) (by (with_reducible repeat (first | refine blk_drewN ?_ _ | refine blk_drew ?_ | refine blk_alloc ?_ _)); refine blk_put (cs := #[.int .i64 ((rd_TTie l0_1 x15_1).f0), .int .i64 0]) ?_ 1 _ rfl; (with_reducible repeat (first | refine blk_drewN ?_ _ | refine blk_drew ?_ | refine blk_alloc ?_ _)); refine blk_put (cs := #[.int .i64 0, .int .i64 0]) ?_ 0 _ rfl; (with_reducible repeat (first | refine blk_drewN ?_ _ | refine blk_drew ?_ | refine blk_alloc ?_ _)); exact BK109.out) hb); replace HB := bp HB hb; (try clear hb); (try clear hb2); (try clear hk); (try clear hi); have hnb33 := NB107_103.out; have hnc33 := NB103_107.out; have hnb34 := NB107_104.out; have hnc34 := NB104_107.out; obtain ⟨hcz35_0, hcz35_1, hfz35_0, hfz35_1⟩ := b2 BK107; obtain ⟨hcz36_0, hcz36_1, hfz36_0, hfz36_1⟩ := b2 BK109) | ((with_reducible refine gate_builtin (b := .append) (xs := #[.tmp 24, .tmp 26]) rfl ?_); at_builtin; refine Kd.R_append kTie (w0 := w) w.heap.size rfl (.tmp 24) (.tmp 26) 23 32 (.agg #[(.int .i64 0), (.int .i64 0)]) 16 rfl Try.underlying23 info32 rfl (by decide) (by omega) u100001 x100001_1 (⟨(rd_TTie l0_1 x15_1).f0, (rd_TTie l0_1 x15_1).f1⟩ : STie) [.int .i64 ((rd_TTie l0_1 x15_1).f0), .int .i64 ((rd_TTie l0_1 x15_1).f1)] (fun k_ => k_ ≠ gb109) (fun _ => False) rfl rfl ?aP (fun _ hk => hk.elim) ?aF ?aO ?aB ?aS ?aL ?_; (case aP => exact kTie_mkM _ _ _ (⟨(rd_TTie l0_1 x15_1).f0, (rd_TTie l0_1 x15_1).f1⟩ : STie)); (case aB => exact (qb HB.out)); (case aF => exact (fun k_ hk => Kd.freshB (g := gb109) (o := .cells #[.int .i64 ((rd_TTie l0_1 x15_1).f0), .int .i64 ((rd_TTie l0_1 x15_1).f1)] 32 (0, 0)) (qk BK109.out) k_ hk)); (case aO => exact (by (with_reducible repeat (first | apply Kd.R_alloc | apply Kd.R_drewN | apply Kd.R_drew)); exact Kd.R_mono HO_100001.out (fun _ hk => hk.2))); (case aS => exact (below_size (qb HB.out))); (case aL => have := LMc26.out; omega); intro v111 w37 ho hb hg hat; rw [← Ny110.out] at ho; replace BK103 := q0 (blk_grown (g := gb103) (o := .cells #[.int .i64 a0_0, .slice (some ad100) l0_1.length c0_1] 25 (0, 0)) (qk BK103.out) hg (Kd.R_ne HO_100001.out BK103.out (by decide))); replace BK104 := q0 (blk_grown (g := gb104) (o := .cells #[.int .i64 0, .slice none 0 0] 25 (0, 0)) (qk BK104.out) hg (Kd.R_ne HO_100001.out BK104.out (by decide))); replace BK107 := q0 (blk_grown (g := gb107) (o := .cells #[.int .i64 a0_0, u100001] 25 (0, 0)) (qk BK107.out) hg (Kd.R_ne HO_100001.out BK107.out (by decide))); replace BK109 := q0 (blk_grown (g := gb109) (o := .cells #[.int .i64 ((rd_TTie l0_1 x15_1).f0), .int .i64 ((rd_TTie l0_1 x15_1).f1)] 32 (0, 0)) (qk BK109.out) hg (Kd.R_away HO_100001.out (fun _ hk => hk.2))); replace HB := q0 (hb); have HO112 := q0 (ho); clear HO_100001; clear ho hb hg hat; obtain ⟨Ao38, co38, eo38⟩ := Kd.R_slice HO112.out; subst eo38; obtain ⟨hcz39_0, hcz39_1, hfz39_0, hfz39_1⟩ := b2 BK107))
 go_roundg k1
 case measure => have := HK1.out; omega
 case rel => exact ⟨(wrap64 (x15_1 + 1)), (y110), (.slice Ao38 y110.length co38), qs, H', ⟨by have := HK1.out; omega⟩, ⟨by (with_reducible repeat (first | apply Kd.R_alloc | apply Kd.R_drewN | apply Kd.R_drew)); exact Kd.R_mono (Kd.R_far (p := ⟨gb107, 1, none⟩) (Kd.R_types HO112.out BK107.out (by decide)) (fun _ hk => hk.2) (.slice Ao38 y110.length co38)) (fun _ hk => trivial)⟩, ⟨qf BK103.out⟩, ⟨qf BK104.out⟩, ⟨by (with_reducible repeat (first | refine blk_drewN ?_ _ | refine blk_drew ?_ | refine blk_alloc ?_ _)); refine blk_put (cs := #[.int .i64 a0_0, u100001]) ?_ 1 _ rfl; (with_reducible repeat (first | refine blk_drewN ?_ _ | refine blk_drew ?_ | refine blk_alloc ?_ _)); exact BK107.out⟩, ⟨qb HB.out⟩⟩

set_option maxHeartbeats 8000000 in
set_option maxRecDepth 100000 in
theorem impl_Net_parts.calls (k : Nat) (a0_0 : Int) (A0_1 : Option Addr) (c0_1 : Nat) (l0_1 : List (STie)) (r : List Int) (w : World) (hr0_1 : Kd.C kTie w A0_1 l0_1.length l0_1) (hc0_1 : l0_1.length ≤ c0_1) (h : impl_Net_parts.f k a0_0 l0_1 = some r) :
    Calls Try.prog 32 #[.agg #[.int .i64 a0_0, .slice A0_1 l0_1.length c0_1]] w fun e w' => ∃ v0_ : Value, e = .returned (v0_) ∧ Kd.R (Kd.int .i64) 3 w' w.heap.size (fun _ => True) v0_ r ∧ Below w.heap.size w w' := by
 have hu25 := Try.underlying25
 have hu32 := Try.underlying32
 have HR0_1 := q0 hr0_1
 have HC0_1 := q0 hc0_1
 clear hr0_1 hc0_1
 have HB := q0 (Below.refl w.heap.size w)
 have H : (impl_Net_parts.l0 k (([] : List Int)) a0_0 0 a0_0 l0_1) = some r := h
 clear h
 obtain ⟨y100, hy100⟩ : ∃ y_ : List Int, y_ = (([] : List Int)) := ⟨_, rfl⟩
 replace H : (impl_Net_parts.l0 k y100 a0_0 0 a0_0 l0_1) = some r := qy H hy100
 have Ny100 := q0 hy100
 clear hy100
 have H' := q0 H
 clear H
 go_enter Try.func32, Try.ntmps32
 go_wp2_with (first | ((with_reducible refine gd 1 ?_); refine be 1 #[.int .i64 a0_0, .slice A0_1 l0_1.length c0_1] 25 ?_; intro gb101 hg w2 hbox hb; have BK101 := q0 (hbox); have GW101 := gw HB hg; have GE101 := gw HB hg; replace HB := bp HB hb; clear hb hbox hg) | ((with_reducible refine gd 9 ?_); refine Kd.R_lit (Kd.int .i64) _ 3 ?hg (N := 9) ?hd (xs := ([] : List Int)) (inner := []) (ok := fun _ => True) (okp := fun _ => True) ?hr ?hp (fun _ hk => hk) trivial (Below.refl _ _) (Nat.le_refl _) (by simp) ?_; (case hd => rfl); (case hg => rfl); (case hr => first | (go_simp; done) | (go_simp; rfl)); (case hp => exact (Reps.none _ _)); intro v102 w3 ho4 hb hg_ hnew_; clear hg_ hnew_; (first | rw [← Ny100.out] at ho4 | (simp only [Int.reduceToNat] at ho4; rw [← Ny100.out] at ho4)); have HO103 := q0 (Kd.R_lower ho4 (below_size (qb HB.out))); replace BK101 := kd BK101 hb; replace HB := bp HB hb; clear hb ho4; obtain ⟨hcz5_0, hcz5_1, hfz5_0, hfz5_1⟩ := b2 BK101))
 repeat (go_quiet (first | ((with_reducible refine gd 1 ?_); refine be 1 #[.int .i64 a0_0, .slice A0_1 l0_1.length c0_1] 25 ?_; intro gb101 hg w2 hbox hb; have BK101 := q0 (hbox); have GW101 := gw HB hg; have GE101 := gw HB hg; replace HB := bp HB hb; clear hb hbox hg) | ((with_reducible refine gd 9 ?_); refine Kd.R_lit (Kd.int .i64) _ 3 ?hg (N := 9) ?hd (xs := ([] : List Int)) (inner := []) (ok := fun _ => True) (okp := fun _ => True) ?hr ?hp (fun _ hk => hk) trivial (Below.refl _ _) (Nat.le_refl _) (by simp) ?_; (case hd => rfl); (case hg => rfl); (case hr => first | (go_simp; done) | (go_simp; rfl)); (case hp => exact (Reps.none _ _)); intro v102 w3 ho4 hb hg_ hnew_; clear hg_ hnew_; (first | rw [← Ny100.out] at ho4 | (simp only [Int.reduceToNat] at ho4; rw [← Ny100.out] at ho4)); have HO103 := q0 (Kd.R_lower ho4 (below_size (qb HB.out))); replace BK101 := kd BK101 hb; replace HB := bp HB hb; clear hb ho4; obtain ⟨hcz5_0, hcz5_1, hfz5_0, hfz5_1⟩ := b2 BK101)); try go_wp2_with (first | ((with_reducible refine gd 1 ?_); refine be 1 #[.int .i64 a0_0, .slice A0_1 l0_1.length c0_1] 25 ?_; intro gb101 hg w2 hbox hb; have BK101 := q0 (hbox); have GW101 := gw HB hg; have GE101 := gw HB hg; replace HB := bp HB hb; clear hb hbox hg) | ((with_reducible refine gd 9 ?_); refine Kd.R_lit (Kd.int .i64) _ 3 ?hg (N := 9) ?hd (xs := ([] : List Int)) (inner := []) (ok := fun _ => True) (okp := fun _ => True) ?hr ?hp (fun _ hk => hk) trivial (Below.refl _ _) (Nat.le_refl _) (by simp) ?_; (case hd => rfl); (case hg => rfl); (case hr => first | (go_simp; done) | (go_simp; rfl)); (case hp => exact (Reps.none _ _)); intro v102 w3 ho4 hb hg_ hnew_; clear hg_ hnew_; (first | rw [← Ny100.out] at ho4 | (simp only [Int.reduceToNat] at ho4; rw [← Ny100.out] at ho4)); have HO103 := q0 (Kd.R_lower ho4 (below_size (qb HB.out))); replace BK101 := kd BK101 hb; replace HB := bp HB hb; clear hb ho4; obtain ⟨hcz5_0, hcz5_1, hfz5_0, hfz5_1⟩ := b2 BK101)))
 go_loopg [3, 12] k (fun kq v3 v12 w' => ∃ (x3_1 : List Int) (x12_1 : Int), v12 = .int .i64 x12_1 ∧ Aside0 (impl_Net_parts.l0 kq x3_1 a0_0 x12_1 a0_0 l0_1 = some r) ∧ Aside0 (kq ≤ k) ∧ Aside0 (Kd.R (Kd.int .i64) 3 w' w.heap.size (fun _ => True) v3 x3_1) ∧ Aside0 (w'.heap[gb101]? = some (.cells #[.int .i64 a0_0, (.slice A0_1 l0_1.length c0_1)] 25 (0, 0))) ∧ Aside0 (Below w.heap.size w w'))
 case atStart => exact ⟨(y100), (0), qs, H', ⟨Nat.le_refl _⟩, ⟨qr HO103.out⟩, ⟨qk BK101.out⟩, ⟨qb HB.out⟩⟩
 clear H'
 try clear p2
 try clear c3
 try clear hcz5_0
 try clear hcz5_1
 try clear hfz5_0
 try clear hfz5_1
 obtain ⟨x3_1, x12_1, rfl, HA, HK1, HO_3, BK101, HB⟩ := hrel
 rcases gk with _ | k1
 · exact absurd HA.out (by simp [impl_Net_parts.l0])
 have H := HA.out
 clear HA
 simp only [impl_Net_parts.l0] at H
 by_cases c6 : x12_1 < a0_0
 · rw [if_pos c6] at H
   have c6b0 := decide_eq_true c6
   clear c6
   obtain ⟨c7, H⟩ : (x3_1.length < 17592186044416) ∧ _ := og H
   have LMc7 := q0 c7
   clear c7
   obtain ⟨y104, hy104⟩ : ∃ y_ : List Int, y_ = (x3_1 ++ [x12_1]) := ⟨_, rfl⟩
   replace H : (impl_Net_parts.l0 k1 y104 a0_0 (wrap64 (x12_1 + 1)) a0_0 l0_1) = some r := qy H hy104
   have Ny104 := q0 hy104
   clear hy104
   have H' := q0 H
   clear H
   go_wp2_with (first | ((with_reducible refine gate_builtin (b := .append) (xs := #[.tmp 15, .tmp 17]) rfl ?_); at_builtin; refine Kd.R_append (Kd.int .i64) (w0 := w) w.heap.size rfl (.tmp 15) (.tmp 17) 53 3 (.int .i64 0) 8 rfl Try.underlying53 info3 rfl (by decide) (by omega) u3 x3_1 x12_1 [.int .i64 x12_1] (fun _ => True) (fun _ => False) rfl rfl ?aP (fun _ hk => hk.elim) ?aF ?aO ?aB ?aS ?aL ?_; (case aP => exact rfl); (case aB => exact (qb HB.out)); (case aF => exact (fun _ _ => trivial)); (case aO => exact (qr HO_3.out)); (case aS => exact (below_size (qb HB.out))); (case aL => have := LMc7.out; omega); intro v105 w8 ho hb hg hat; rw [← Ny104.out] at ho; replace BK101 := q0 (blk_grown (g := gb101) (o := .cells #[.int .i64 a0_0, .slice A0_1 l0_1.length c0_1] 25 (0, 0)) (qk BK101.out) hg (Kd.R_ne HO_3.out BK101.out (by decide))); replace HB := q0 (hb); have HO106 := q0 (ho); clear HO_3; clear ho hb hg hat))
   repeat (go_quiet (first | ((with_reducible refine gate_builtin (b := .append) (xs := #[.tmp 15, .tmp 17]) rfl ?_); at_builtin; refine Kd.R_append (Kd.int .i64) (w0 := w) w.heap.size rfl (.tmp 15) (.tmp 17) 53 3 (.int .i64 0) 8 rfl Try.underlying53 info3 rfl (by decide) (by omega) u3 x3_1 x12_1 [.int .i64 x12_1] (fun _ => True) (fun _ => False) rfl rfl ?aP (fun _ hk => hk.elim) ?aF ?aO ?aB ?aS ?aL ?_; (case aP => exact rfl); (case aB => exact (qb HB.out)); (case aF => exact (fun _ _ => trivial)); (case aO => exact (qr HO_3.out)); (case aS => exact (below_size (qb HB.out))); (case aL => have := LMc7.out; omega); intro v105 w8 ho hb hg hat; rw [← Ny104.out] at ho; replace BK101 := q0 (blk_grown (g := gb101) (o := .cells #[.int .i64 a0_0, .slice A0_1 l0_1.length c0_1] 25 (0, 0)) (qk BK101.out) hg (Kd.R_ne HO_3.out BK101.out (by decide))); replace HB := q0 (hb); have HO106 := q0 (ho); clear HO_3; clear ho hb hg hat)); try go_wp2_with (first | ((with_reducible refine gate_builtin (b := .append) (xs := #[.tmp 15, .tmp 17]) rfl ?_); at_builtin; refine Kd.R_append (Kd.int .i64) (w0 := w) w.heap.size rfl (.tmp 15) (.tmp 17) 53 3 (.int .i64 0) 8 rfl Try.underlying53 info3 rfl (by decide) (by omega) u3 x3_1 x12_1 [.int .i64 x12_1] (fun _ => True) (fun _ => False) rfl rfl ?aP (fun _ hk => hk.elim) ?aF ?aO ?aB ?aS ?aL ?_; (case aP => exact rfl); (case aB => exact (qb HB.out)); (case aF => exact (fun _ _ => trivial)); (case aO => exact (qr HO_3.out)); (case aS => exact (below_size (qb HB.out))); (case aL => have := LMc7.out; omega); intro v105 w8 ho hb hg hat; rw [← Ny104.out] at ho; replace BK101 := q0 (blk_grown (g := gb101) (o := .cells #[.int .i64 a0_0, .slice A0_1 l0_1.length c0_1] 25 (0, 0)) (qk BK101.out) hg (Kd.R_ne HO_3.out BK101.out (by decide))); replace HB := q0 (hb); have HO106 := q0 (ho); clear HO_3; clear ho hb hg hat)))
   go_roundg k1
   case measure => have := HK1.out; omega
   case rel => exact ⟨(y104), (wrap64 (x12_1 + 1)), qs, H', ⟨by have := HK1.out; omega⟩, ⟨qr HO106.out⟩, ⟨qk BK101.out⟩, ⟨qb HB.out⟩⟩
 rw [if_neg c6] at H
 have c6b0 := decide_eq_false c6
 clear c6
 have H' := q0 H
 clear H
 go_wp2
 repeat (go_quiet (fail); try go_wp2)
 go_loopg [5] k1 (fun kq v5 w' => ∃ (x3_2 : List Int) (x5_2 : Bool), v5 = .bool x5_2 ∧ Aside0 (impl_Net_parts.l1 kq x3_2 x5_2 a0_0 l0_1 = some r) ∧ Aside0 (kq ≤ k1) ∧ Aside0 (Kd.R (Kd.int .i64) 3 w' w.heap.size (fun _ => True) u3 x3_2) ∧ Aside0 (w'.heap[gb101]? = some (.cells #[.int .i64 a0_0, (.slice A0_1 l0_1.length c0_1)] 25 (0, 0))) ∧ Aside0 (Below w.heap.size w w'))
 case atStart => exact ⟨(x3_1), (true), qs, H', ⟨Nat.le_refl _⟩, ⟨qr HO_3.out⟩, ⟨qk BK101.out⟩, ⟨qb HB.out⟩⟩
 clear H'
 try clear p2
 try clear c3
 try clear c6
 try clear c6b0
 try clear p6
 try clear c7
 try clear hcz5_0
 try clear hcz5_1
 try clear hfz5_0
 try clear hfz5_1
 try clear p2
 obtain ⟨x3_2, x5_2, rfl, HA, HK2, HO_3, BK101, HB⟩ := hrel
 rcases gk with _ | k2
 · exact absurd HA.out (by simp [impl_Net_parts.l1])
 have H := HA.out
 clear HA
 simp only [impl_Net_parts.l1] at H
 by_cases c9 : x5_2 = true
 rotate_left
 · replace c9 := Bool.eq_false_iff.mpr c9
   subst c9
   rw [if_neg nf] at H
   obtain rfl := Option.some.inj H
   go_wp2
   repeat (go_quiet (fail); try go_wp2)
   go_ret
   exact ⟨_, qe, qr HO_3.out, qb HB.out⟩
 subst c9
 rw [if_pos rfl] at H
 have H' := q0 H
 clear H
 obtain ⟨hcz10_0, hcz10_1, hfz10_0, hfz10_1⟩ := b2 BK101
 go_wp2
 repeat (go_quiet (fail); try go_wp2)
 go_loopg [5, 24] k2 (fun kq v5 v24 w' => ∃ (x3_3 : List Int) (x5_3 : Bool) (x24_3 : Int), v5 = .bool x5_3 ∧ v24 = .int .i64 x24_3 ∧ Aside0 (impl_Net_parts.l2 kq x3_3 x5_3 l0_1 (l0_1.length : Int) x24_3 a0_0 l0_1 = some r) ∧ Aside0 (kq ≤ k2) ∧ Aside0 (Kd.R (Kd.int .i64) 3 w' w.heap.size (fun _ => True) u3 x3_3) ∧ Aside0 (w'.heap[gb101]? = some (.cells #[.int .i64 a0_0, (.slice A0_1 l0_1.length c0_1)] 25 (0, 0))) ∧ Aside0 (Below w.heap.size w w'))
 case atStart => exact ⟨(x3_2), (false), (0), qs, qs, H', ⟨Nat.le_refl _⟩, ⟨qr HO_3.out⟩, ⟨qk BK101.out⟩, ⟨qb HB.out⟩⟩
 clear H'
 try clear p2
 try clear c3
 try clear c6
 try clear c6b0
 try clear p6
 try clear c7
 try clear c9
 try clear hcz10_0
 try clear hcz10_1
 try clear hcz5_0
 try clear hcz5_1
 try clear hfz10_0
 try clear hfz10_1
 try clear hfz5_0
 try clear hfz5_1
 try clear p2
 try clear p6
 obtain ⟨x3_3, x5_3, x24_3, rfl, rfl, HA, HK3, HO_3, BK101, HB⟩ := hrel
 rcases gk with _ | k3
 · exact absurd HA.out (by simp [impl_Net_parts.l2])
 have H := HA.out
 clear HA
 simp only [impl_Net_parts.l2] at H
 by_cases c11 : x24_3 < (l0_1.length : Int)
 rotate_left
 · rw [if_neg c11] at H
   have c11b0 := decide_eq_false c11
   clear c11
   have H' := q0 H
   clear H
   go_wp2
   repeat (go_quiet (fail); try go_wp2)
   go_roundg k3
   case measure => have := HK1.out; have := HK2.out; have := HK3.out; omega
   case rel => exact ⟨(x3_3), (x5_3), qs, H', ⟨by have := HK1.out; have := HK2.out; have := HK3.out; omega⟩, ⟨qr HO_3.out⟩, ⟨qk BK101.out⟩, ⟨qb HB.out⟩⟩
 rw [if_pos c11] at H
 have c11b0 := decide_eq_true c11
 clear c11
 obtain ⟨c12, H⟩ : (0 ≤ x24_3) ∧ _ := og H
 have c12b0 := decide_eq_true c12
 clear c12
 obtain ⟨c13, H⟩ : (x24_3 < (l0_1.length : Int)) ∧ _ := og H
 have c13b0 := decide_eq_true c13
 clear c13
 obtain ⟨c14, H⟩ : (0 ≤ ((rd_TTie l0_1 x24_3).f0)) ∧ _ := og H
 have c14b0 := decide_eq_true c14
 clear c14
 obtain ⟨c15, H⟩ : (((rd_TTie l0_1 x24_3).f0) < (x3_3.length : Int)) ∧ _ := og H
 have c15b0 := decide_eq_true c15
 clear c15
 obtain ⟨c16, H⟩ : (0 ≤ ((rd_TTie l0_1 x24_3).f1)) ∧ _ := og H
 have c16b0 := decide_eq_true c16
 clear c16
 obtain ⟨c17, H⟩ : (((rd_TTie l0_1 x24_3).f1) < (x3_3.length : Int)) ∧ _ := og H
 have c17b0 := decide_eq_true c17
 clear c17
 obtain ⟨ji18, hji18⟩ : ∃ j_ : Int, (mn (rd x3_3 ((rd_TTie l0_1 x24_3).f0)) (rd x3_3 ((rd_TTie l0_1 x24_3).f1))) = j_ := ⟨_, rfl⟩
 replace H : (if (rd x3_3 ((rd_TTie l0_1 x24_3).f0)) = (rd x3_3 ((rd_TTie l0_1 x24_3).f1)) then (impl_Net_parts.l2 k3 x3_3 x5_3 l0_1 (l0_1.length : Int) (wrap64 (x24_3 + 1)) a0_0 l0_1) else (impl_Net_parts.l2 k3 ((x3_3.set (((rd_TTie l0_1 x24_3).f0) : Int).toNat (ji18)).set (((rd_TTie l0_1 x24_3).f1) : Int).toNat (ji18)) true l0_1 (l0_1.length : Int) (wrap64 (x24_3 + 1)) a0_0 l0_1)) = some r := by first | (rw [hji18] at H; exact H) | (simp only [hji18] at H ⊢; exact H)
 have hji18_ : (if (rd x3_3 ((rd_TTie l0_1 x24_3).f1)) < (rd x3_3 ((rd_TTie l0_1 x24_3).f0)) then (rd x3_3 ((rd_TTie l0_1 x24_3).f1)) else (rd x3_3 ((rd_TTie l0_1 x24_3).f0))) = ji18 := hji18
 by_cases c19 : (rd x3_3 ((rd_TTie l0_1 x24_3).f0)) = (rd x3_3 ((rd_TTie l0_1 x24_3).f1))
 · rw [if_pos c19] at H
   have c19b0 : ((rd x3_3 ((rd_TTie l0_1 x24_3).f0)) == (rd x3_3 ((rd_TTie l0_1 x24_3).f1))) = true := beq_iff_eq.mpr c19
   have c19b1 : ((rd x3_3 ((rd_TTie l0_1 x24_3).f0)) != (rd x3_3 ((rd_TTie l0_1 x24_3).f1))) = false := bne_eq_false_iff_eq.mpr c19
   clear c19
   have H' := q0 H
   clear H
   have p107 : 0 ≤ (x24_3 : Int) := of_decide_eq_true qa
   have q107 : x24_3 < (l0_1.length : Int) := of_decide_eq_true qa
   obtain ⟨ad107, e107, hx107_0, hx107_1⟩ := at_TTie HR0_1.out x24_3 p107 q107
   cases e107
   replace hx107_0 := hcl HB.out hx107_0
   replace hx107_1 := hcl HB.out hx107_1
   replace p107 := eq_true p107
   replace q107 := eq_true q107
   go_wp2_with (first | ((with_reducible refine gd 7 ?_); refine be 7 #[.int .i64 0, .int .i64 0] 32 ?_; intro gb108 hg w20 hbox hb; replace HO_3 := q0 (Kd.R_below (qr HO_3.out) hb); have BK108 := q0 (hbox); have GW108 := gw HB hg; have GE108 := gw HB hg; replace HB := bp HB hb; have NB101_108 := nl BK101 hg; have NB108_101 := ng BK101 hg; replace BK101 := kd BK101 hb; clear hb hbox hg; have hnb21 := NB108_101.out; have hnc21 := NB101_108.out; obtain ⟨hcz22_0, hcz22_1, hfz22_0, hfz22_1⟩ := b2 BK108; obtain ⟨Ao23, co23, eo23⟩ := Kd.R_slice HO_3.out; subst eo23; have p109 : 0 ≤ (((rd_TTie l0_1 x24_3).f0) : Int) := of_decide_eq_true qa; have q109 : ((rd_TTie l0_1 x24_3).f0) < (x3_3.length : Int) := of_decide_eq_true qa; obtain ⟨ad109, e109, hx109_0⟩ := Kd.at_int (Kd.R_reads' HO_3.out).2.2 ((rd_TTie l0_1 x24_3).f0) p109 q109; cases e109; have hn109_0 : ad109.block ≠ gb108 := Kd.own_blk (Kd.R_ne HO_3.out BK108.out (by decide)); have hn109_1 : ad109.block ≠ gb108 := Kd.own_blk (Kd.R_ne HO_3.out BK108.out (by decide)); replace hx109_0 := (cell_far (p := ⟨gb108, 0, none⟩) (by first | (rw [add_block]; exact hn109_0) | (show (Addr.add _ _).block ≠ _; rw [add_block]; exact hn109_0) | exact hn109_0) (.int .i64 ((rd_TTie l0_1 x24_3).f0))).trans hx109_0; replace hx109_0 := (cell_far (p := ⟨gb108, 1, none⟩) (by first | (rw [add_block]; exact hn109_1) | (show (Addr.add _ _).block ≠ _; rw [add_block]; exact hn109_1) | exact hn109_1) (.int .i64 ((rd_TTie l0_1 x24_3).f1))).trans hx109_0; (try have hy109_0 := fun (n_ : Nat) => (show ((((w20.drewN n_).setCell ⟨gb108, 0, none⟩ (.int .i64 ((rd_TTie l0_1 x24_3).f0))).setCell ⟨gb108, 1, none⟩ (.int .i64 ((rd_TTie l0_1 x24_3).f1)))).cell? _ = some _ from hx109_0)); clear hn109_0 hn109_1; replace p109 := eq_true p109; replace q109 := eq_true q109; have p110 : 0 ≤ (((rd_TTie l0_1 x24_3).f1) : Int) := of_decide_eq_true qa; have q110 : ((rd_TTie l0_1 x24_3).f1) < (x3_3.length : Int) := of_decide_eq_true qa; obtain ⟨ad110, e110, hx110_0⟩ := Kd.at_int (Kd.R_reads' HO_3.out).2.2 ((rd_TTie l0_1 x24_3).f1) p110 q110; obtain rfl : ad109 = ad110 := (by injection e110); have hn110_0 : ad109.block ≠ gb108 := Kd.own_blk (Kd.R_ne HO_3.out BK108.out (by decide)); have hn110_1 : ad109.block ≠ gb108 := Kd.own_blk (Kd.R_ne HO_3.out BK108.out (by decide)); replace hx110_0 := (cell_far (p := ⟨gb108, 0, none⟩) (by first | (rw [add_block]; exact hn110_0) | (show (Addr.add _ _).block ≠ _; rw [add_block]; exact hn110_0) | exact hn110_0) (.int .i64 ((rd_TTie l0_1 x24_3).f0))).trans hx110_0; replace hx110_0 := (cell_far (p := ⟨gb108, 1, none⟩) (by first | (rw [add_block]; exact hn110_1) | (show (Addr.add _ _).block ≠ _; rw [add_block]; exact hn110_1) | exact hn110_1) (.int .i64 ((rd_TTie l0_1 x24_3).f1))).trans hx110_0; (try have hy110_0 := fun (n_ : Nat) => (show ((((w20.drewN n_).setCell ⟨gb108, 0, none⟩ (.int .i64 ((rd_TTie l0_1 x24_3).f0))).setCell ⟨gb108, 1, none⟩ (.int .i64 ((rd_TTie l0_1 x24_3).f1)))).cell? _ = some _ from hx110_0)); clear hn110_0 hn110_1; replace p110 := eq_true p110; replace q110 := eq_true q110; have p111 : 0 ≤ (((rd_TTie l0_1 x24_3).f0) : Int) := of_decide_eq_true qa; have q111 : ((rd_TTie l0_1 x24_3).f0) < (x3_3.length : Int) := of_decide_eq_true qa; obtain ⟨ad111, e111, hx111_0⟩ := Kd.at_int (Kd.R_reads' HO_3.out).2.2 ((rd_TTie l0_1 x24_3).f0) p111 q111; obtain rfl : ad109 = ad111 := (by injection e111); have hn111_0 : ad109.block ≠ gb108 := Kd.own_blk (Kd.R_ne HO_3.out BK108.out (by decide)); have hn111_1 : ad109.block ≠ gb108 := Kd.own_blk (Kd.R_ne HO_3.out BK108.out (by decide)); replace hx111_0 := (cell_far (p := ⟨gb108, 0, none⟩) (by first | (rw [add_block]; exact hn111_0) | (show (Addr.add _ _).block ≠ _; rw [add_block]; exact hn111_0) | exact hn111_0) (.int .i64 ((rd_TTie l0_1 x24_3).f0))).trans hx111_0; replace hx111_0 := (cell_far (p := ⟨gb108, 1, none⟩) (by first | (rw [add_block]; exact hn111_1) | (show (Addr.add _ _).block ≠ _; rw [add_block]; exact hn111_1) | exact hn111_1) (.int .i64 ((rd_TTie l0_1 x24_3).f1))).trans hx111_0; (try have hy111_0 := fun (n_ : Nat) => (show ((((w20.drewN n_).setCell ⟨gb108, 0, none⟩ (.int .i64 ((rd_TTie l0_1 x24_3).f0))).setCell ⟨gb108, 1, none⟩ (.int .i64 ((rd_TTie l0_1 x24_3).f1)))).cell? _ = some _ from hx111_0)); clear hn111_0 hn111_1; replace p111 := eq_true p111; replace q111 := eq_true q111; have p112 : 0 ≤ (((rd_TTie l0_1 x24_3).f1) : Int) := of_decide_eq_true qa; have q112 : ((rd_TTie l0_1 x24_3).f1) < (x3_3.length : Int) := of_decide_eq_true qa; obtain ⟨ad112, e112, hx112_0⟩ := Kd.at_int (Kd.R_reads' HO_3.out).2.2 ((rd_TTie l0_1 x24_3).f1) p112 q112; obtain rfl : ad109 = ad112 := (by injection e112); have hn112_0 : ad109.block ≠ gb108 := Kd.own_blk (Kd.R_ne HO_3.out BK108.out (by decide)); have hn112_1 : ad109.block ≠ gb108 := Kd.own_blk (Kd.R_ne HO_3.out BK108.out (by decide)); replace hx112_0 := (cell_far (p := ⟨gb108, 0, none⟩) (by first | (rw [add_block]; exact hn112_0) | (show (Addr.add _ _).block ≠ _; rw [add_block]; exact hn112_0) | exact hn112_0) (.int .i64 ((rd_TTie l0_1 x24_3).f0))).trans hx112_0; replace hx112_0 := (cell_far (p := ⟨gb108, 1, none⟩) (by first | (rw [add_block]; exact hn112_1) | (show (Addr.add _ _).block ≠ _; rw [add_block]; exact hn112_1) | exact hn112_1) (.int .i64 ((rd_TTie l0_1 x24_3).f1))).trans hx112_0; (try have hy112_0 := fun (n_ : Nat) => (show ((((w20.drewN n_).setCell ⟨gb108, 0, none⟩ (.int .i64 ((rd_TTie l0_1 x24_3).f0))).setCell ⟨gb108, 1, none⟩ (.int .i64 ((rd_TTie l0_1 x24_3).f1)))).cell? _ = some _ from hx112_0)); clear hn112_0 hn112_1; replace p112 := eq_true p112; replace q112 := eq_true q112))
   repeat (go_quiet (first | ((with_reducible refine gd 7 ?_); refine be 7 #[.int .i64 0, .int .i64 0] 32 ?_; intro gb108 hg w20 hbox hb; replace HO_3 := q0 (Kd.R_below (qr HO_3.out) hb); have BK108 := q0 (hbox); have GW108 := gw HB hg; have GE108 := gw HB hg; replace HB := bp HB hb; have NB101_108 := nl BK101 hg; have NB108_101 := ng BK101 hg; replace BK101 := kd BK101 hb; clear hb hbox hg; have hnb21 := NB108_101.out; have hnc21 := NB101_108.out; obtain ⟨hcz22_0, hcz22_1, hfz22_0, hfz22_1⟩ := b2 BK108; obtain ⟨Ao23, co23, eo23⟩ := Kd.R_slice HO_3.out; subst eo23; have p109 : 0 ≤ (((rd_TTie l0_1 x24_3).f0) : Int) := of_decide_eq_true qa; have q109 : ((rd_TTie l0_1 x24_3).f0) < (x3_3.length : Int) := of_decide_eq_true qa; obtain ⟨ad109, e109, hx109_0⟩ := Kd.at_int (Kd.R_reads' HO_3.out).2.2 ((rd_TTie l0_1 x24_3).f0) p109 q109; cases e109; have hn109_0 : ad109.block ≠ gb108 := Kd.own_blk (Kd.R_ne HO_3.out BK108.out (by decide)); have hn109_1 : ad109.block ≠ gb108 := Kd.own_blk (Kd.R_ne HO_3.out BK108.out (by decide)); replace hx109_0 := (cell_far (p := ⟨gb108, 0, none⟩) (by first | (rw [add_block]; exact hn109_0) | (show (Addr.add _ _).block ≠ _; rw [add_block]; exact hn109_0) | exact hn109_0) (.int .i64 ((rd_TTie l0_1 x24_3).f0))).trans hx109_0; replace hx109_0 := (cell_far (p := ⟨gb108, 1, none⟩) (by first | (rw [add_block]; exact hn109_1) | (show (Addr.add _ _).block ≠ _; rw [add_block]; exact hn109_1) | exact hn109_1) (.int .i64 ((rd_TTie l0_1 x24_3).f1))).trans hx109_0; (try have hy109_0 := fun (n_ : Nat) => (show ((((w20.drewN n_).setCell ⟨gb108, 0, none⟩ (.int .i64 ((rd_TTie l0_1 x24_3).f0))).setCell ⟨gb108, 1, none⟩ (.int .i64 ((rd_TTie l0_1 x24_3).f1)))).cell? _ = some _ from hx109_0)); clear hn109_0 hn109_1; replace p109 := eq_true p109; replace q109 := eq_true q109; have p110 : 0 ≤ (((rd_TTie l0_1 x24_3).f1) : Int) := of_decide_eq_true qa; have q110 : ((rd_TTie l0_1 x24_3).f1) < (x3_3.length : Int) := of_decide_eq_true qa; obtain ⟨ad110, e110, hx110_0⟩ := Kd.at_int (Kd.R_reads' HO_3.out).2.2 ((rd_TTie l0_1 x24_3).f1) p110 q110; obtain rfl : ad109 = ad110 := (by injection e110); have hn110_0 : ad109.block ≠ gb108 := Kd.own_blk (Kd.R_ne HO_3.out BK108.out (by decide)); have hn110_1 : ad109.block ≠ gb108 := Kd.own_blk (Kd.R_ne HO_3.out BK108.out (by decide)); replace hx110_0 := (cell_far (p := ⟨gb108, 0, none⟩) (by first | (rw [add_block]; exact hn110_0) | (show (Addr.add _ _).block ≠ _; rw [add_block]; exact hn110_0) | exact hn110_0) (.int .i64 ((rd_TTie l0_1 x24_3).f0))).trans hx110_0; replace hx110_0 := (cell_far (p := ⟨gb108, 1, none⟩) (by first | (rw [add_block]; exact hn110_1) | (show (Addr.add _ _).block ≠ _; rw [add_block]; exact hn110_1) | exact hn110_1) (.int .i64 ((rd_TTie l0_1 x24_3).f1))).trans hx110_0; (try have hy110_0 := fun (n_ : Nat) => (show ((((w20.drewN n_).setCell ⟨gb108, 0, none⟩ (.int .i64 ((rd_TTie l0_1 x24_3).f0))).setCell ⟨gb108, 1, none⟩ (.int .i64 ((rd_TTie l0_1 x24_3).f1)))).cell? _ = some _ from hx110_0)); clear hn110_0 hn110_1; replace p110 := eq_true p110; replace q110 := eq_true q110; have p111 : 0 ≤ (((rd_TTie l0_1 x24_3).f0) : Int) := of_decide_eq_true qa; have q111 : ((rd_TTie l0_1 x24_3).f0) < (x3_3.length : Int) := of_decide_eq_true qa; obtain ⟨ad111, e111, hx111_0⟩ := Kd.at_int (Kd.R_reads' HO_3.out).2.2 ((rd_TTie l0_1 x24_3).f0) p111 q111; obtain rfl : ad109 = ad111 := (by injection e111); have hn111_0 : ad109.block ≠ gb108 := Kd.own_blk (Kd.R_ne HO_3.out BK108.out (by decide)); have hn111_1 : ad109.block ≠ gb108 := Kd.own_blk (Kd.R_ne HO_3.out BK108.out (by decide)); replace hx111_0 := (cell_far (p := ⟨gb108, 0, none⟩) (by first | (rw [add_block]; exact hn111_0) | (show (Addr.add _ _).block ≠ _; rw [add_block]; exact hn111_0) | exact hn111_0) (.int .i64 ((rd_TTie l0_1 x24_3).f0))).trans hx111_0; replace hx111_0 := (cell_far (p := ⟨gb108, 1, none⟩) (by first | (rw [add_block]; exact hn111_1) | (show (Addr.add _ _).block ≠ _; rw [add_block]; exact hn111_1) | exact hn111_1) (.int .i64 ((rd_TTie l0_1 x24_3).f1))).trans hx111_0; (try have hy111_0 := fun (n_ : Nat) => (show ((((w20.drewN n_).setCell ⟨gb108, 0, none⟩ (.int .i64 ((rd_TTie l0_1 x24_3).f0))).setCell ⟨gb108, 1, none⟩ (.int .i64 ((rd_TTie l0_1 x24_3).f1)))).cell? _ = some _ from hx111_0)); clear hn111_0 hn111_1; replace p111 := eq_true p111; replace q111 := eq_true q111; have p112 : 0 ≤ (((rd_TTie l0_1 x24_3).f1) : Int) := of_decide_eq_true qa; have q112 : ((rd_TTie l0_1 x24_3).f1) < (x3_3.length : Int) := of_decide_eq_true qa; obtain ⟨ad112, e112, hx112_0⟩ := Kd.at_int (Kd.R_reads' HO_3.out).2.2 ((rd_TTie l0_1 x24_3).f1) p112 q112; obtain rfl : ad109 = ad112 := (by injection e112); have hn112_0 : ad109.block ≠ gb108 := Kd.own_blk (Kd.R_ne HO_3.out BK108.out (by decide)); have hn112_1 : ad109.block ≠ gb108 := Kd.own_blk (Kd.R_ne HO_3.out BK108.out (by decide)); replace hx112_0 := (cell_far (p := ⟨gb108, 0, none⟩) (by first | (rw [add_block]; exact hn112_0) | (show (Addr.add _ _).block ≠ _; rw [add_block]; exact hn112_0) | exact hn112_0) (.int .i64 ((rd_TTie l0_1 x24_3).f0))).trans hx112_0; replace hx112_0 := (cell_far (p := ⟨gb108, 1, none⟩) (by first | (rw [add_block]; exact hn112_1) | (show (Addr.add _ _).block ≠ _; rw [add_block]; exact hn112_1) | exact hn112_1) (.int .i64 ((rd_TTie l0_1 x24_3).f1))).trans hx112_0; (try have hy112_0 := fun (n_ : Nat) => (show ((((w20.drewN n_).setCell ⟨gb108, 0, none⟩ (.int .i64 ((rd_TTie l0_1 x24_3).f0))).setCell ⟨gb108, 1, none⟩ (.int .i64 ((rd_TTie l0_1 x24_3).f1)))).cell? _ = some _ from hx112_0)); clear hn112_0 hn112_1; replace p112 := eq_true p112; replace q112 := eq_true q112)); try go_wp2_with (first | ((with_reducible refine gd 7 ?_); refine be 7 #[.int .i64 0, .int .i64 0] 32 ?_; intro gb108 hg w20 hbox hb; replace HO_3 := q0 (Kd.R_below (qr HO_3.out) hb); have BK108 := q0 (hbox); have GW108 := gw HB hg; have GE108 := gw HB hg; replace HB := bp HB hb; have NB101_108 := nl BK101 hg; have NB108_101 := ng BK101 hg; replace BK101 := kd BK101 hb; clear hb hbox hg; have hnb21 := NB108_101.out; have hnc21 := NB101_108.out; obtain ⟨hcz22_0, hcz22_1, hfz22_0, hfz22_1⟩ := b2 BK108; obtain ⟨Ao23, co23, eo23⟩ := Kd.R_slice HO_3.out; subst eo23; have p109 : 0 ≤ (((rd_TTie l0_1 x24_3).f0) : Int) := of_decide_eq_true qa; have q109 : ((rd_TTie l0_1 x24_3).f0) < (x3_3.length : Int) := of_decide_eq_true qa; obtain ⟨ad109, e109, hx109_0⟩ := Kd.at_int (Kd.R_reads' HO_3.out).2.2 ((rd_TTie l0_1 x24_3).f0) p109 q109; cases e109; have hn109_0 : ad109.block ≠ gb108 := Kd.own_blk (Kd.R_ne HO_3.out BK108.out (by decide)); have hn109_1 : ad109.block ≠ gb108 := Kd.own_blk (Kd.R_ne HO_3.out BK108.out (by decide)); replace hx109_0 := (cell_far (p := ⟨gb108, 0, none⟩) (by first | (rw [add_block]; exact hn109_0) | (show (Addr.add _ _).block ≠ _; rw [add_block]; exact hn109_0) | exact hn109_0) (.int .i64 ((rd_TTie l0_1 x24_3).f0))).trans hx109_0; replace hx109_0 := (cell_far (p := ⟨gb108, 1, none⟩) (by first | (rw [add_block]; exact hn109_1) | (show (Addr.add _ _).block ≠ _; rw [add_block]; exact hn109_1) | exact hn109_1) (.int .i64 ((rd_TTie l0_1 x24_3).f1))).trans hx109_0; (try have hy109_0 := fun (n_ : Nat) => (show ((((w20.drewN n_).setCell ⟨gb108, 0, none⟩ (.int .i64 ((rd_TTie l0_1 x24_3).f0))).setCell ⟨gb108, 1, none⟩ (.int .i64 ((rd_TTie l0_1 x24_3).f1)))).cell? _ = some _ from hx109_0)); clear hn109_0 hn109_1; replace p109 := eq_true p109; replace q109 := eq_true q109; have p110 : 0 ≤ (((rd_TTie l0_1 x24_3).f1) : Int) := of_decide_eq_true qa; have q110 : ((rd_TTie l0_1 x24_3).f1) < (x3_3.length : Int) := of_decide_eq_true qa; obtain ⟨ad110, e110, hx110_0⟩ := Kd.at_int (Kd.R_reads' HO_3.out).2.2 ((rd_TTie l0_1 x24_3).f1) p110 q110; obtain rfl : ad109 = ad110 := (by injection e110); have hn110_0 : ad109.block ≠ gb108 := Kd.own_blk (Kd.R_ne HO_3.out BK108.out (by decide)); have hn110_1 : ad109.block ≠ gb108 := Kd.own_blk (Kd.R_ne HO_3.out BK108.out (by decide)); replace hx110_0 := (cell_far (p := ⟨gb108, 0, none⟩) (by first | (rw [add_block]; exact hn110_0) | (show (Addr.add _ _).block ≠ _; rw [add_block]; exact hn110_0) | exact hn110_0) (.int .i64 ((rd_TTie l0_1 x24_3).f0))).trans hx110_0; replace hx110_0 := (cell_far (p := ⟨gb108, 1, none⟩) (by first | (rw [add_block]; exact hn110_1) | (show (Addr.add _ _).block ≠ _; rw [add_block]; exact hn110_1) | exact hn110_1) (.int .i64 ((rd_TTie l0_1 x24_3).f1))).trans hx110_0; (try have hy110_0 := fun (n_ : Nat) => (show ((((w20.drewN n_).setCell ⟨gb108, 0, none⟩ (.int .i64 ((rd_TTie l0_1 x24_3).f0))).setCell ⟨gb108, 1, none⟩ (.int .i64 ((rd_TTie l0_1 x24_3).f1)))).cell? _ = some _ from hx110_0)); clear hn110_0 hn110_1; replace p110 := eq_true p110; replace q110 := eq_true q110; have p111 : 0 ≤ (((rd_TTie l0_1 x24_3).f0) : Int) := of_decide_eq_true qa; have q111 : ((rd_TTie l0_1 x24_3).f0) < (x3_3.length : Int) := of_decide_eq_true qa; obtain ⟨ad111, e111, hx111_0⟩ := Kd.at_int (Kd.R_reads' HO_3.out).2.2 ((rd_TTie l0_1 x24_3).f0) p111 q111; obtain rfl : ad109 = ad111 := (by injection e111); have hn111_0 : ad109.block ≠ gb108 := Kd.own_blk (Kd.R_ne HO_3.out BK108.out (by decide)); have hn111_1 : ad109.block ≠ gb108 := Kd.own_blk (Kd.R_ne HO_3.out BK108.out (by decide)); replace hx111_0 := (cell_far (p := ⟨gb108, 0, none⟩) (by first | (rw [add_block]; exact hn111_0) | (show (Addr.add _ _).block ≠ _; rw [add_block]; exact hn111_0) | exact hn111_0) (.int .i64 ((rd_TTie l0_1 x24_3).f0))).trans hx111_0; replace hx111_0 := (cell_far (p := ⟨gb108, 1, none⟩) (by first | (rw [add_block]; exact hn111_1) | (show (Addr.add _ _).block ≠ _; rw [add_block]; exact hn111_1) | exact hn111_1) (.int .i64 ((rd_TTie l0_1 x24_3).f1))).trans hx111_0; (try have hy111_0 := fun (n_ : Nat) => (show ((((w20.drewN n_).setCell ⟨gb108, 0, none⟩ (.int .i64 ((rd_TTie l0_1 x24_3).f0))).setCell ⟨gb108, 1, none⟩ (.int .i64 ((rd_TTie l0_1 x24_3).f1)))).cell? _ = some _ from hx111_0)); clear hn111_0 hn111_1; replace p111 := eq_true p111; replace q111 := eq_true q111; have p112 : 0 ≤ (((rd_TTie l0_1 x24_3).f1) : Int) := of_decide_eq_true qa; have q112 : ((rd_TTie l0_1 x24_3).f1) < (x3_3.length : Int) := of_decide_eq_true qa; obtain ⟨ad112, e112, hx112_0⟩ := Kd.at_int (Kd.R_reads' HO_3.out).2.2 ((rd_TTie l0_1 x24_3).f1) p112 q112; obtain rfl : ad109 = ad112 := (by injection e112); have hn112_0 : ad109.block ≠ gb108 := Kd.own_blk (Kd.R_ne HO_3.out BK108.out (by decide)); have hn112_1 : ad109.block ≠ gb108 := Kd.own_blk (Kd.R_ne HO_3.out BK108.out (by decide)); replace hx112_0 := (cell_far (p := ⟨gb108, 0, none⟩) (by first | (rw [add_block]; exact hn112_0) | (show (Addr.add _ _).block ≠ _; rw [add_block]; exact hn112_0) | exact hn112_0) (.int .i64 ((rd_TTie l0_1 x24_3).f0))).trans hx112_0; replace hx112_0 := (cell_far (p := ⟨gb108, 1, none⟩) (by first | (rw [add_block]; exact hn112_1) | (show (Addr.add _ _).block ≠ _; rw [add_block]; exact hn112_1) | exact hn112_1) (.int .i64 ((rd_TTie l0_1 x24_3).f1))).trans hx112_0; (try have hy112_0 := fun (n_ : Nat) => (show ((((w20.drewN n_).setCell ⟨gb108, 0, none⟩ (.int .i64 ((rd_TTie l0_1 x24_3).f0))).setCell ⟨gb108, 1, none⟩ (.int .i64 ((rd_TTie l0_1 x24_3).f1)))).cell? _ = some _ from hx112_0)); clear hn112_0 hn112_1; replace p112 := eq_true p112; replace q112 := eq_true q112)))
   go_roundg k3
   case measure => have := HK1.out; have := HK2.out; have := HK3.out; omega
   case rel => exact ⟨(x3_3), (x5_3), (wrap64 (x24_3 + 1)), qs, qs, H', ⟨by have := HK1.out; have := HK2.out; have := HK3.out; omega⟩, ⟨by (with_reducible repeat (first | apply Kd.R_alloc | apply Kd.R_drewN | apply Kd.R_drew)); exact rf2 HO_3.out BK108.out (fun _ hk => trivial)⟩, ⟨qf BK101.out⟩, ⟨qb HB.out⟩⟩
 rw [if_neg c19] at H
 have c19b0 : ((rd x3_3 ((rd_TTie l0_1 x24_3).f0)) == (rd x3_3 ((rd_TTie l0_1 x24_3).f1))) = false := beq_eq_false_iff_ne.mpr c19
 have c19b1 : ((rd x3_3 ((rd_TTie l0_1 x24_3).f0)) != (rd x3_3 ((rd_TTie l0_1 x24_3).f1))) = true := bne_iff_ne.mpr c19
 obtain ⟨y113, hy113⟩ : ∃ y_ : List Int, y_ = (x3_3.set (((rd_TTie l0_1 x24_3).f0) : Int).toNat (ji18)) := ⟨_, rfl⟩
 replace H : (impl_Net_parts.l2 k3 (y113.set (((rd_TTie l0_1 x24_3).f1) : Int).toNat (ji18)) true l0_1 (l0_1.length : Int) (wrap64 (x24_3 + 1)) a0_0 l0_1) = some r := qy H hy113
 have Ny113 := q0 hy113
 clear hy113
 obtain ⟨y114, hy114⟩ : ∃ y_ : List Int, y_ = (y113.set (((rd_TTie l0_1 x24_3).f1) : Int).toNat (ji18)) := ⟨_, rfl⟩
 replace H : (impl_Net_parts.l2 k3 y114 true l0_1 (l0_1.length : Int) (wrap64 (x24_3 + 1)) a0_0 l0_1) = some r := qy H hy114
 have Ny114 := q0 hy114
 clear hy114
 have H' := q0 H
 clear H
 have p107 : 0 ≤ (x24_3 : Int) := of_decide_eq_true qa
 have q107 : x24_3 < (l0_1.length : Int) := of_decide_eq_true qa
 obtain ⟨ad107, e107, hx107_0, hx107_1⟩ := at_TTie HR0_1.out x24_3 p107 q107
 cases e107
 replace hx107_0 := hcl HB.out hx107_0
 replace hx107_1 := hcl HB.out hx107_1
 replace p107 := eq_true p107
 replace q107 := eq_true q107
 go_wp2_with (first | ((with_reducible refine gd 7 ?_); refine be 7 #[.int .i64 0, .int .i64 0] 32 ?_; intro gb108 hg w26 hbox hb; replace HO_3 := q0 (Kd.R_below (qr HO_3.out) hb); have BK108 := q0 (hbox); have GW108 := gw HB hg; have GE108 := gw HB hg; replace HB := bp HB hb; have NB101_108 := nl BK101 hg; have NB108_101 := ng BK101 hg; replace BK101 := kd BK101 hb; clear hb hbox hg; have hnb27 := NB108_101.out; have hnc27 := NB101_108.out; obtain ⟨hcz28_0, hcz28_1, hfz28_0, hfz28_1⟩ := b2 BK108) | ((with_reducible refine gate_store (t := 32) (p := 7) rfl ?_); (try (rw [drewN_self w26]; generalize hq_ : World.drewN w26 _ = w26; have n0_ := q0 (Kd.R_at hq_ HO_3.out); have n1_ := q0 (blk_at hq_ BK101.out); have n2_ := q0 (blk_at hq_ BK108.out); have n3_ := q0 (below_at hq_ HB.out); clear hq_ HO_3 BK101 BK108 HB; have HO_3 := n0_; have BK101 := n1_; have BK108 := n2_; have HB := n3_; clear n0_ n1_ n2_ n3_)); refine store_event (t := 32) (p := 7) (v := ?vo_w29) (w1 := ((w26.setCell ⟨gb108, 0, none⟩ (.int .i64 ((rd_TTie l0_1 x24_3).f0))).setCell ⟨gb108, 1, none⟩ (.int .i64 ((rd_TTie l0_1 x24_3).f1)))) ?hg ?ho ?hn ?hr ?_; (case ho => rfl); (case hg => rfl); (case hn => rfl); (case hr => first | (go_simp; done) | (go_simp; rfl)); intro w29 hw; have n0_ : Aside0 (Kd.R (Kd.int .i64) 3 w29 w.heap.size (fun _ => True) u3 x3_3) := ⟨(by rw [hw]; exact (by (with_reducible repeat (first | apply Kd.R_alloc | apply Kd.R_drewN | apply Kd.R_drew)); exact rf2 HO_3.out BK108.out (fun _ hk => trivial)))⟩; have n1_ : Aside0 (w29.heap[gb101]? = some (.cells #[.int .i64 a0_0, .slice (some ad107) l0_1.length c0_1] 25 (0, 0))) := ⟨(by rw [hw]; exact (qf BK101.out))⟩; have n2_ : Aside0 (w29.heap[gb108]? = some (.cells #[.int .i64 ((rd_TTie l0_1 x24_3).f0), .int .i64 ((rd_TTie l0_1 x24_3).f1)] 32 (0, 0))) := ⟨(by rw [hw]; exact (by (with_reducible repeat (first | refine blk_drewN ?_ _ | refine blk_drew ?_ | refine blk_alloc ?_ _)); refine blk_put (cs := #[.int .i64 ((rd_TTie l0_1 x24_3).f0), .int .i64 0]) ?_ 1 _ rfl; (with_reducible repeat (first | refine blk_drewN ?_ _ | refine blk_drew ?_ | refine blk_alloc ?_ _)); refine blk_put (cs := #[.int .i64 0, .int .i64 0]) ?_ 0 _ rfl; (with_reducible repeat (first | refine blk_drewN ?_ _ | refine blk_drew ?_ | refine blk_alloc ?_ _)); exact BK108.out))⟩; have n3_ : Aside0 (Below w.heap.size w w29) := ⟨(by rw [hw]; exact (qb HB.out))⟩; clear hw HO_3 BK101 BK108 HB; have HO_3 := n0_; have BK101 := n1_; have BK108 := n2_; have HB := n3_; clear n0_ n1_ n2_ n3_; obtain ⟨hcz30_0, hcz30_1, hfz30_0, hfz30_1⟩ := b2 BK108; obtain ⟨Ao31, co31, eo31⟩ := Kd.R_slice HO_3.out; subst eo31; have p109 : 0 ≤ (((rd_TTie l0_1 x24_3).f0) : Int) := of_decide_eq_true qa; have q109 : ((rd_TTie l0_1 x24_3).f0) < (x3_3.length : Int) := of_decide_eq_true qa; obtain ⟨ad109, e109, hx109_0⟩ := Kd.at_int (Kd.R_reads' HO_3.out).2.2 ((rd_TTie l0_1 x24_3).f0) p109 q109; cases e109; replace p109 := eq_true p109; replace q109 := eq_true q109; have p110 : 0 ≤ (((rd_TTie l0_1 x24_3).f1) : Int) := of_decide_eq_true qa; have q110 : ((rd_TTie l0_1 x24_3).f1) < (x3_3.length : Int) := of_decide_eq_true qa; obtain ⟨ad110, e110, hx110_0⟩ := Kd.at_int (Kd.R_reads' HO_3.out).2.2 ((rd_TTie l0_1 x24_3).f1) p110 q110; obtain rfl : ad109 = ad110 := (by injection e110); replace p110 := eq_true p110; replace q110 := eq_true q110; have p111 : 0 ≤ (((rd_TTie l0_1 x24_3).f0) : Int) := of_decide_eq_true qa; have q111 : ((rd_TTie l0_1 x24_3).f0) < (x3_3.length : Int) := of_decide_eq_true qa; obtain ⟨ad111, e111, hx111_0⟩ := Kd.at_int (Kd.R_reads' HO_3.out).2.2 ((rd_TTie l0_1 x24_3).f0) p111 q111; obtain rfl : ad109 = ad111 := (by injection e111); replace p111 := eq_true p111; replace q111 := eq_true q111; have p112 : 0 ≤ (((rd_TTie l0_1 x24_3).f1) : Int) := of_decide_eq_true qa; have q112 : ((rd_TTie l0_1 x24_3).f1) < (x3_3.length : Int) := of_decide_eq_true qa; obtain ⟨ad112, e112, hx112_0⟩ := Kd.at_int (Kd.R_reads' HO_3.out).2.2 ((rd_TTie l0_1 x24_3).f1) p112 q112; obtain rfl : ad109 = ad112 := (by injection e112); replace p112 := eq_true p112; replace q112 := eq_true q112; have p24 : 0 ≤ (((rd_TTie l0_1 x24_3).f0) : Int) := of_decide_eq_true qa; have q24 : (((rd_TTie l0_1 x24_3).f0) : Int) < ((x3_3.length : Int) : Int) := of_decide_eq_true qa; obtain ⟨go24, co24, eo24, gb24, gl24, cl24, HG24⟩ := Kd.R_form HO_3.out (by omega); (first | cases eo24 | (injection eo24 with ea_ en_ ec_; (first | subst ea_ | (injection ea_ with ea_; subst ea_)); subst ec_; clear en_)); have GB24 := q0 gb24; have GG24 := q0 HG24; clear gb24 gl24 HG24; (first | simp only [add_plain] at hx109_0 | skip); (first | simp only [add_plain] at hx110_0 | skip); (first | simp only [add_plain] at hx111_0 | skip); (first | simp only [add_plain] at hx112_0 | skip); obtain ⟨hx24_0, hf24_0⟩ := Kd.R_celln 0 HO_3.out (((rd_TTie l0_1 x24_3).f0) : Int) p24 q24; replace p24 := eq_true p24; replace q24 := eq_true q24; obtain ⟨hy32_, hz32_⟩ := Kd.R_celln 0 HO_3.out (((rd_TTie l0_1 x24_3).f0) : Int) (of_decide_eq_true qa) (of_decide_eq_true qa); have HP32 := Kd.R_putg HO_3.out (((rd_TTie l0_1 x24_3).f0) : Int) ji18) | ((with_reducible refine gate_store (t := 3) (p := 58) rfl ?_); (try (rw [drewN_self w29]; generalize hq_ : World.drewN w29 _ = w29; have n0_ := q0 (Kd.R_at hq_ HO_3.out); have n1_ := q0 (blk_at hq_ BK101.out); have n2_ := q0 (blk_at hq_ BK108.out); have n3_ := q0 (below_at hq_ HB.out); clear hq_ HO_3 BK101 BK108 HB; have HO_3 := n0_; have BK101 := n1_; have BK108 := n2_; have HB := n3_; clear n0_ n1_ n2_ n3_; (try (obtain ⟨hy32_, hz32_⟩ := Kd.R_celln 0 HO_3.out (((rd_TTie l0_1 x24_3).f0) : Int) (of_decide_eq_true qa) (of_decide_eq_true qa))); (try (have HP32 := Kd.R_putg HO_3.out (((rd_TTie l0_1 x24_3).f0) : Int) ji18)))); refine store_event (t := 3) (p := 58) (v := ?vo_w33) (w1 := (w29.setCell ⟨go24, (((rd_TTie l0_1 x24_3).f0) : Int).toNat, none⟩ (.int .i64 ji18))) ?hg ?ho ?hn ?hr ?_; (case ho => rfl); (case hg => rfl); (case hn => rfl); (case hr => first | (go_simp; done) | (go_simp; rfl)); intro w33 hw; have hg : w29.grownBy w33 (some go24) := (by rw [hw]; exact HP32.2); have hp_ : Kd.R (Kd.int .i64) 3 w33 w.heap.size (fun _ => True) (.slice (some ⟨go24, 0, none⟩) x3_3.length co31) y113 := (by rw [hw, Ny113.out]; exact HP32.1); clear HP32; replace BK101 := q0 (blk_grown (g := gb101) (o := .cells #[.int .i64 a0_0, .slice (some ad107) l0_1.length c0_1] 25 (0, 0)) (qk BK101.out) hg (Kd.R_ne HO_3.out BK101.out (by decide))); replace BK108 := q0 (blk_grown (g := gb108) (o := .cells #[.int .i64 ((rd_TTie l0_1 x24_3).f0), .int .i64 ((rd_TTie l0_1 x24_3).f1)] 32 (0, 0)) (qk BK108.out) hg (Kd.R_ne HO_3.out BK108.out (by decide))); replace HO_3 := q0 (hp_); replace HB := q0 ((by rw [hw]; exact below_set (HB.out) GB24.out : Below w.heap.size w w33)); clear hg hw hp_; have p25 : 0 ≤ (((rd_TTie l0_1 x24_3).f1) : Int) := of_decide_eq_true qa; have q25 : (((rd_TTie l0_1 x24_3).f1) : Int) < ((x3_3.length : Int) : Int) := of_decide_eq_true qa; obtain ⟨hx25_0, hf25_0⟩ := Kd.R_celln 0 HO_3.out (((rd_TTie l0_1 x24_3).f1) : Int) p25 q25; replace p25 := eq_true p25; replace q25 := eq_true q25; obtain ⟨hy34_, hz34_⟩ := Kd.R_celln 0 HO_3.out (((rd_TTie l0_1 x24_3).f1) : Int) (of_decide_eq_true qa) (of_decide_eq_true qa); have HP34 := Kd.R_putg HO_3.out (((rd_TTie l0_1 x24_3).f1) : Int) ji18) | ((with_reducible refine gate_store (t := 3) (p := 59) rfl ?_); (try (rw [drewN_self w33]; generalize hq_ : World.drewN w33 _ = w33; have n0_ := q0 (Kd.R_at hq_ HO_3.out); have n1_ := q0 (blk_at hq_ BK101.out); have n2_ := q0 (blk_at hq_ BK108.out); have n3_ := q0 (below_at hq_ HB.out); clear hq_ HO_3 BK101 BK108 HB; have HO_3 := n0_; have BK101 := n1_; have BK108 := n2_; have HB := n3_; clear n0_ n1_ n2_ n3_; (try (obtain ⟨hy34_, hz34_⟩ := Kd.R_celln 0 HO_3.out (((rd_TTie l0_1 x24_3).f1) : Int) (of_decide_eq_true qa) (of_decide_eq_true qa))); (try (have HP34 := Kd.R_putg HO_3.out (((rd_TTie l0_1 x24_3).f1) : Int) ji18)))); refine store_event (t := 3) (p := 59) (v := ?vo_w35) (w1 := (w33.setCell ⟨go24, (((rd_TTie l0_1 x24_3).f1) : Int).toNat, none⟩ (.int .i64 ji18))) ?hg ?ho ?hn ?hr ?_; (case ho => rfl); (case hg => rfl); (case hn => rfl); (case hr => first | (go_simp; done) | (go_simp; rfl)); intro w35 hw; have hg : w33.grownBy w35 (some go24) := (by rw [hw]; exact HP34.2); have hp_ : Kd.R (Kd.int .i64) 3 w35 w.heap.size (fun _ => True) (.slice (some ⟨go24, 0, none⟩) x3_3.length co31) y114 := (by rw [hw, Ny114.out]; exact HP34.1); clear HP34; replace BK101 := q0 (blk_grown (g := gb101) (o := .cells #[.int .i64 a0_0, .slice (some ad107) l0_1.length c0_1] 25 (0, 0)) (qk BK101.out) hg (Kd.R_ne HO_3.out BK101.out (by decide))); replace BK108 := q0 (blk_grown (g := gb108) (o := .cells #[.int .i64 ((rd_TTie l0_1 x24_3).f0), .int .i64 ((rd_TTie l0_1 x24_3).f1)] 32 (0, 0)) (qk BK108.out) hg (Kd.R_ne HO_3.out BK108.out (by decide))); replace HO_3 := q0 (hp_); replace HB := q0 ((by rw [hw]; exact below_set (HB.out) GB24.out : Below w.heap.size w w35)); clear hg hw hp_))
 repeat (go_quiet (first | ((with_reducible refine gd 7 ?_); refine be 7 #[.int .i64 0, .int .i64 0] 32 ?_; intro gb108 hg w26 hbox hb; replace HO_3 := q0 (Kd.R_below (qr HO_3.out) hb); have BK108 := q0 (hbox); have GW108 := gw HB hg; have GE108 := gw HB hg; replace HB := bp HB hb; have NB101_108 := nl BK101 hg; have NB108_101 := ng BK101 hg; replace BK101 := kd BK101 hb; clear hb hbox hg; have hnb27 := NB108_101.out; have hnc27 := NB101_108.out; obtain ⟨hcz28_0, hcz28_1, hfz28_0, hfz28_1⟩ := b2 BK108) | ((with_reducible refine gate_store (t := 32) (p := 7) rfl ?_); (try (rw [drewN_self w26]; generalize hq_ : World.drewN w26 _ = w26; have n0_ := q0 (Kd.R_at hq_ HO_3.out); have n1_ := q0 (blk_at hq_ BK101.out); have n2_ := q0 (blk_at hq_ BK108.out); have n3_ := q0 (below_at hq_ HB.out); clear hq_ HO_3 BK101 BK108 HB; have HO_3 := n0_; have BK101 := n1_; have BK108 := n2_; have HB := n3_; clear n0_ n1_ n2_ n3_)); refine store_event (t := 32) (p := 7) (v := ?vo_w29) (w1 := ((w26.setCell ⟨gb108, 0, none⟩ (.int .i64 ((rd_TTie l0_1 x24_3).f0))).setCell ⟨gb108, 1, none⟩ (.int .i64 ((rd_TTie l0_1 x24_3).f1)))) ?hg ?ho ?hn ?hr ?_; (case ho => rfl); (case hg => rfl); (case hn => rfl); (case hr => first | (go_simp; done) | (go_simp; rfl)); intro w29 hw; have n0_ : Aside0 (Kd.R (Kd.int .i64) 3 w29 w.heap.size (fun _ => True) u3 x3_3) := ⟨(by rw [hw]; exact (by (with_reducible repeat (first | apply Kd.R_alloc | apply Kd.R_drewN | apply Kd.R_drew)); exact rf2 HO_3.out BK108.out (fun _ hk => trivial)))⟩; have n1_ : Aside0 (w29.heap[gb101]? = some (.cells #[.int .i64 a0_0, .slice (some ad107) l0_1.length c0_1] 25 (0, 0))) := ⟨(by rw [hw]; exact (qf BK101.out))⟩; have n2_ : Aside0 (w29.heap[gb108]? = some (.cells #[.int .i64 ((rd_TTie l0_1 x24_3).f0), .int .i64 ((rd_TTie l0_1 x24_3).f1)] 32 (0, 0))) := ⟨(by rw [hw]; exact (by (with_reducible repeat (first | refine blk_drewN ?_ _ | refine blk_drew ?_ | refine blk_alloc ?_ _)); refine blk_put (cs := #[.int .i64 ((rd_TTie l0_1 x24_3).f0), .int .i64 0]) ?_ 1 _ rfl; (with_reducible repeat (first | refine blk_drewN ?_ _ | refine blk_drew ?_ | refine blk_alloc ?_ _)); refine blk_put (cs := #[.int .i64 0, .int .i64 0]) ?_ 0 _ rfl; (with_reducible repeat (first | refine blk_drewN ?_ _ | refine blk_drew ?_ | refine blk_alloc ?_ _)); exact BK108.out))⟩; have n3_ : Aside0 (Below w.heap.size w w29) := ⟨(by rw [hw]; exact (qb HB.out))⟩; clear hw HO_3 BK101 BK108 HB; have HO_3 := n0_; have BK101 := n1_; have BK108 := n2_; have HB := n3_; clear n0_ n1_ n2_ n3_; obtain ⟨hcz30_0, hcz30_1, hfz30_0, hfz30_1⟩ := b2 BK108; obtain ⟨Ao31, co31, eo31⟩ := Kd.R_slice HO_3.out; subst eo31; have p109 : 0 ≤ (((rd_TTie l0_1 x24_3).f0) : Int) := of_decide_eq_true qa; have q109 : ((rd_TTie l0_1 x24_3).f0) < (x3_3.length : Int) := of_decide_eq_true qa; obtain ⟨ad109, e109, hx109_0⟩ := Kd.at_int (Kd.R_reads' HO_3.out).2.2 ((rd_TTie l0_1 x24_3).f0) p109 q109; cases e109; replace p109 := eq_true p109; replace q109 := eq_true q109; have p110 : 0 ≤ (((rd_TTie l0_1 x24_3).f1) : Int) := of_decide_eq_true qa; have q110 : ((rd_TTie l0_1 x24_3).f1) < (x3_3.length : Int) := of_decide_eq_true qa; obtain ⟨ad110, e110, hx110_0⟩ := Kd.at_int (Kd.R_reads' HO_3.out).2.2 ((rd_TTie l0_1 x24_3).f1) p110 q110; obtain rfl : ad109 = ad110 := (by injection e110); replace p110 := eq_true p110; replace q110 := eq_true q110; have p111 : 0 ≤ (((rd_TTie l0_1 x24_3).f0) : Int) := of_decide_eq_true qa; have q111 : ((rd_TTie l0_1 x24_3).f0) < (x3_3.length : Int) := of_decide_eq_true qa; obtain ⟨ad111, e111, hx111_0⟩ := Kd.at_int (Kd.R_reads' HO_3.out).2.2 ((rd_TTie l0_1 x24_3).f0) p111 q111; obtain rfl : ad109 = ad111 := (by injection e111); replace p111 := eq_true p111; replace q111 := eq_true q111; have p112 : 0 ≤ (((rd_TTie l0_1 x24_3).f1) : Int) := of_decide_eq_true qa; have q112 : ((rd_TTie l0_1 x24_3).f1) < (x3_3.length : Int) := of_decide_eq_true qa; obtain ⟨ad112, e112, hx112_0⟩ := Kd.at_int (Kd.R_reads' HO_3.out).2.2 ((rd_TTie l0_1 x24_3).f1) p112 q112; obtain rfl : ad109 = ad112 := (by injection e112); replace p112 := eq_true p112; replace q112 := eq_true q112; have p24 : 0 ≤ (((rd_TTie l0_1 x24_3).f0) : Int) := of_decide_eq_true qa; have q24 : (((rd_TTie l0_1 x24_3).f0) : Int) < ((x3_3.length : Int) : Int) := of_decide_eq_true qa; obtain ⟨go24, co24, eo24, gb24, gl24, cl24, HG24⟩ := Kd.R_form HO_3.out (by omega); (first | cases eo24 | (injection eo24 with ea_ en_ ec_; (first | subst ea_ | (injection ea_ with ea_; subst ea_)); subst ec_; clear en_)); have GB24 := q0 gb24; have GG24 := q0 HG24; clear gb24 gl24 HG24; (first | simp only [add_plain] at hx109_0 | skip); (first | simp only [add_plain] at hx110_0 | skip); (first | simp only [add_plain] at hx111_0 | skip); (first | simp only [add_plain] at hx112_0 | skip); obtain ⟨hx24_0, hf24_0⟩ := Kd.R_celln 0 HO_3.out (((rd_TTie l0_1 x24_3).f0) : Int) p24 q24; replace p24 := eq_true p24; replace q24 := eq_true q24; obtain ⟨hy32_, hz32_⟩ := Kd.R_celln 0 HO_3.out (((rd_TTie l0_1 x24_3).f0) : Int) (of_decide_eq_true qa) (of_decide_eq_true qa); have HP32 := Kd.R_putg HO_3.out (((rd_TTie l0_1 x24_3).f0) : Int) ji18) | ((with_reducible refine gate_store (t := 3) (p := 58) rfl ?_); (try (rw [drewN_self w29]; generalize hq_ : World.drewN w29 _ = w29; have n0_ := q0 (Kd.R_at hq_ HO_3.out); have n1_ := q0 (blk_at hq_ BK101.out); have n2_ := q0 (blk_at hq_ BK108.out); have n3_ := q0 (below_at hq_ HB.out); clear hq_ HO_3 BK101 BK108 HB; have HO_3 := n0_; have BK101 := n1_; have BK108 := n2_; have HB := n3_; clear n0_ n1_ n2_ n3_; (try (obtain ⟨hy32_, hz32_⟩ := Kd.R_celln 0 HO_3.out (((rd_TTie l0_1 x24_3).f0) : Int) (of_decide_eq_true qa) (of_decide_eq_true qa))); (try (have HP32 := Kd.R_putg HO_3.out (((rd_TTie l0_1 x24_3).f0) : Int) ji18)))); refine store_event (t := 3) (p := 58) (v := ?vo_w33) (w1 := (w29.setCell ⟨go24, (((rd_TTie l0_1 x24_3).f0) : Int).toNat, none⟩ (.int .i64 ji18))) ?hg ?ho ?hn ?hr ?_; (case ho => rfl); (case hg => rfl); (case hn => rfl); (case hr => first | (go_simp; done) | (go_simp; rfl)); intro w33 hw; have hg : w29.grownBy w33 (some go24) := (by rw [hw]; exact HP32.2); have hp_ : Kd.R (Kd.int .i64) 3 w33 w.heap.size (fun _ => True) (.slice (some ⟨go24, 0, none⟩) x3_3.length co31) y113 := (by rw [hw, Ny113.out]; exact HP32.1); clear HP32; replace BK101 := q0 (blk_grown (g := gb101) (o := .cells #[.int .i64 a0_0, .slice (some ad107) l0_1.length c0_1] 25 (0, 0)) (qk BK101.out) hg (Kd.R_ne HO_3.out BK101.out (by decide))); replace BK108 := q0 (blk_grown (g := gb108) (o := .cells #[.int .i64 ((rd_TTie l0_1 x24_3).f0), .int .i64 ((rd_TTie l0_1 x24_3).f1)] 32 (0, 0)) (qk BK108.out) hg (Kd.R_ne HO_3.out BK108.out (by decide))); replace HO_3 := q0 (hp_); replace HB := q0 ((by rw [hw]; exact below_set (HB.out) GB24.out : Below w.heap.size w w33)); clear hg hw hp_; have p25 : 0 ≤ (((rd_TTie l0_1 x24_3).f1) : Int) := of_decide_eq_true qa; have q25 : (((rd_TTie l0_1 x24_3).f1) : Int) < ((x3_3.length : Int) : Int) := of_decide_eq_true qa; obtain ⟨hx25_0, hf25_0⟩ := Kd.R_celln 0 HO_3.out (((rd_TTie l0_1 x24_3).f1) : Int) p25 q25; replace p25 := eq_true p25; replace q25 := eq_true q25; obtain ⟨hy34_, hz34_⟩ := Kd.R_celln 0 HO_3.out (((rd_TTie l0_1 x24_3).f1) : Int) (of_decide_eq_true qa) (of_decide_eq_true qa); have HP34 := Kd.R_putg HO_3.out (((rd_TTie l0_1 x24_3).f1) : Int) ji18) | ((with_reducible refine gate_store (t := 3) (p := 59) rfl ?_); (try (rw [drewN_self w33]; generalize hq_ : World.drewN w33 _ = w33; have n0_ := q0 (Kd.R_at hq_ HO_3.out); have n1_ := q0 (blk_at hq_ BK101.out); have n2_ := q0 (blk_at hq_ BK108.out); have n3_ := q0 (below_at hq_ HB.out); clear hq_ HO_3 BK101 BK108 HB; have HO_3 := n0_; have BK101 := n1_; have BK108 := n2_; have HB := n3_; clear n0_ n1_ n2_ n3_; (try (obtain ⟨hy34_, hz34_⟩ := Kd.R_celln 0 HO_3.out (((rd_TTie l0_1 x24_3).f1) : Int) (of_decide_eq_true qa) (of_decide_eq_true qa))); (try (have HP34 := Kd.R_putg HO_3.out (((rd_TTie l0_1 x24_3).f1) : Int) ji18)))); refine store_event (t := 3) (p := 59) (v := ?vo_w35) (w1 := (w33.setCell ⟨go24, (((rd_TTie l0_1 x24_3).f1) : Int).toNat, none⟩ (.int .i64 ji18))) ?hg ?ho ?hn ?hr ?_; (case ho => rfl); (case hg => rfl); (case hn => rfl); (case hr => first | (go_simp; done) | (go_simp; rfl)); intro w35 hw; have hg : w33.grownBy w35 (some go24) := (by rw [hw]; exact HP34.2); have hp_ : Kd.R (Kd.int .i64) 3 w35 w.heap.size (fun _ => True) (.slice (some ⟨go24, 0, none⟩) x3_3.length co31) y114 := (by rw [hw, Ny114.out]; exact HP34.1); clear HP34; replace BK101 := q0 (blk_grown (g := gb101) (o := .cells #[.int .i64 a0_0, .slice (some ad107) l0_1.length c0_1] 25 (0, 0)) (qk BK101.out) hg (Kd.R_ne HO_3.out BK101.out (by decide))); replace BK108 := q0 (blk_grown (g := gb108) (o := .cells #[.int .i64 ((rd_TTie l0_1 x24_3).f0), .int .i64 ((rd_TTie l0_1 x24_3).f1)] 32 (0, 0)) (qk BK108.out) hg (Kd.R_ne HO_3.out BK108.out (by decide))); replace HO_3 := q0 (hp_); replace HB := q0 ((by rw [hw]; exact below_set (HB.out) GB24.out : Below w.heap.size w w35)); clear hg hw hp_)); try go_wp2_with (first | ((with_reducible refine gd 7 ?_); refine be 7 #[.int .i64 0, .int .i64 0] 32 ?_; intro gb108 hg w26 hbox hb; replace HO_3 := q0 (Kd.R_below (qr HO_3.out) hb); have BK108 := q0 (hbox); have GW108 := gw HB hg; have GE108 := gw HB hg; replace HB := bp HB hb; have NB101_108 := nl BK101 hg; have NB108_101 := ng BK101 hg; replace BK101 := kd BK101 hb; clear hb hbox hg; have hnb27 := NB108_101.out; have hnc27 := NB101_108.out; obtain ⟨hcz28_0, hcz28_1, hfz28_0, hfz28_1⟩ := b2 BK108) | ((with_reducible refine gate_store (t := 32) (p := 7) rfl ?_); (try (rw [drewN_self w26]; generalize hq_ : World.drewN w26 _ = w26; have n0_ := q0 (Kd.R_at hq_ HO_3.out); have n1_ := q0 (blk_at hq_ BK101.out); have n2_ := q0 (blk_at hq_ BK108.out); have n3_ := q0 (below_at hq_ HB.out); clear hq_ HO_3 BK101 BK108 HB; have HO_3 := n0_; have BK101 := n1_; have BK108 := n2_; have HB := n3_; clear n0_ n1_ n2_ n3_)); refine store_event (t := 32) (p := 7) (v := ?vo_w29) (w1 := ((w26.setCell ⟨gb108, 0, none⟩ (.int .i64 ((rd_TTie l0_1 x24_3).f0))).setCell ⟨gb108, 1, none⟩ (.int .i64 ((rd_TTie l0_1 x24_3).f1)))) ?hg ?ho ?hn ?hr ?_; (case ho => rfl); (case hg => rfl); (case hn => rfl); (case hr => first | (go_simp; done) | (go_simp; rfl)); intro w29 hw; have n0_ : Aside0 (Kd.R (Kd.int .i64) 3 w29 w.heap.size (fun _ => True) u3 x3_3) := ⟨(by rw [hw]; exact (by (with_reducible repeat (first | apply Kd.R_alloc | apply Kd.R_drewN | apply Kd.R_drew)); exact rf2 HO_3.out BK108.out (fun _ hk => trivial)))⟩; have n1_ : Aside0 (w29.heap[gb101]? = some (.cells #[.int .i64 a0_0, .slice (some ad107) l0_1.length c0_1] 25 (0, 0))) := ⟨(by rw [hw]; exact (qf BK101.out))⟩; have n2_ : Aside0 (w29.heap[gb108]? = some (.cells #[.int .i64 ((rd_TTie l0_1 x24_3).f0), .int .i64 ((rd_TTie l0_1 x24_3).f1)] 32 (0, 0))) := ⟨(by rw [hw]; exact (by (with_reducible repeat (first | refine blk_drewN ?_ _ | refine blk_drew ?_ | refine blk_alloc ?_ _)); refine blk_put (cs := #[.int .i64 ((rd_TTie l0_1 x24_3).f0), .int .i64 0]) ?_ 1 _ rfl; (with_reducible repeat (first | refine blk_drewN ?_ _ | refine blk_drew ?_ | refine blk_alloc ?_ _)); refine blk_put (cs := #[.int .i64 0, .int .i64 0]) ?_ 0 _ rfl; (with_reducible repeat (first | refine blk_drewN ?_ _ | refine blk_drew ?_ | refine blk_alloc ?_ _)); exact BK108.out))⟩; have n3_ : Aside0 (Below w.heap.size w w29) := ⟨(by rw [hw]; exact (qb HB.out))⟩; clear hw HO_3 BK101 BK108 HB; have HO_3 := n0_; have BK101 := n1_; have BK108 := n2_; have HB := n3_; clear n0_ n1_ n2_ n3_; obtain ⟨hcz30_0, hcz30_1, hfz30_0, hfz30_1⟩ := b2 BK108; obtain ⟨Ao31, co31, eo31⟩ := Kd.R_slice HO_3.out; subst eo31; have p109 : 0 ≤ (((rd_TTie l0_1 x24_3).f0) : Int) := of_decide_eq_true qa; have q109 : ((rd_TTie l0_1 x24_3).f0) < (x3_3.length : Int) := of_decide_eq_true qa; obtain ⟨ad109, e109, hx109_0⟩ := Kd.at_int (Kd.R_reads' HO_3.out).2.2 ((rd_TTie l0_1 x24_3).f0) p109 q109; cases e109; replace p109 := eq_true p109; replace q109 := eq_true q109; have p110 : 0 ≤ (((rd_TTie l0_1 x24_3).f1) : Int) := of_decide_eq_true qa; have q110 : ((rd_TTie l0_1 x24_3).f1) < (x3_3.length : Int) := of_decide_eq_true qa; obtain ⟨ad110, e110, hx110_0⟩ := Kd.at_int (Kd.R_reads' HO_3.out).2.2 ((rd_TTie l0_1 x24_3).f1) p110 q110; obtain rfl : ad109 = ad110 := (by injection e110); replace p110 := eq_true p110; replace q110 := eq_true q110; have p111 : 0 ≤ (((rd_TTie l0_1 x24_3).f0) : Int) := of_decide_eq_true qa; have q111 : ((rd_TTie l0_1 x24_3).f0) < (x3_3.length : Int) := of_decide_eq_true qa; obtain ⟨ad111, e111, hx111_0⟩ := Kd.at_int (Kd.R_reads' HO_3.out).2.2 ((rd_TTie l0_1 x24_3).f0) p111 q111; obtain rfl : ad109 = ad111 := (by injection e111); replace p111 := eq_true p111; replace q111 := eq_true q111; have p112 : 0 ≤ (((rd_TTie l0_1 x24_3).f1) : Int) := of_decide_eq_true qa; have q112 : ((rd_TTie l0_1 x24_3).f1) < (x3_3.length : Int) := of_decide_eq_true qa; obtain ⟨ad112, e112, hx112_0⟩ := Kd.at_int (Kd.R_reads' HO_3.out).2.2 ((rd_TTie l0_1 x24_3).f1) p112 q112; obtain rfl : ad109 = ad112 := (by injection e112); replace p112 := eq_true p112; replace q112 := eq_true q112; have p24 : 0 ≤ (((rd_TTie l0_1 x24_3).f0) : Int) := of_decide_eq_true qa; have q24 : (((rd_TTie l0_1 x24_3).f0) : Int) < ((x3_3.length : Int) : Int) := of_decide_eq_true qa; obtain ⟨go24, co24, eo24, gb24, gl24, cl24, HG24⟩ := Kd.R_form HO_3.out (by omega); (first | cases eo24 | (injection eo24 with ea_ en_ ec_; (first | subst ea_ | (injection ea_ with ea_; subst ea_)); subst ec_; clear en_)); have GB24 := q0 gb24; have GG24 := q0 HG24; clear gb24 gl24 HG24; (first | simp only [add_plain] at hx109_0 | skip); (first | simp only [add_plain] at hx110_0 | skip); (first | simp only [add_plain] at hx111_0 | skip); (first | simp only [add_plain] at hx112_0 | skip); obtain ⟨hx24_0, hf24_0⟩ := Kd.R_celln 0 HO_3.out (((rd_TTie l0_1 x24_3).f0) : Int) p24 q24; replace p24 := eq_true p24; replace q24 := eq_true q24; obtain ⟨hy32_, hz32_⟩ := Kd.R_celln 0 HO_3.out (((rd_TTie l0_1 x24_3).f0) : Int) (of_decide_eq_true qa) (of_decide_eq_true qa); have HP32 := Kd.R_putg HO_3.out (((rd_TTie l0_1 x24_3).f0) : Int) ji18) | ((with_reducible refine gate_store (t := 3) (p := 58) rfl ?_); (try (rw [drewN_self w29]; generalize hq_ : World.drewN w29 _ = w29; have n0_ := q0 (Kd.R_at hq_ HO_3.out); have n1_ := q0 (blk_at hq_ BK101.out); have n2_ := q0 (blk_at hq_ BK108.out); have n3_ := q0 (below_at hq_ HB.out); clear hq_ HO_3 BK101 BK108 HB; have HO_3 := n0_; have BK101 := n1_; have BK108 := n2_; have HB := n3_; clear n0_ n1_ n2_ n3_; (try (obtain ⟨hy32_, hz32_⟩ := Kd.R_celln 0 HO_3.out (((rd_TTie l0_1 x24_3).f0) : Int) (of_decide_eq_true qa) (of_decide_eq_true qa))); (try (have HP32 := Kd.R_putg HO_3.out (((rd_TTie l0_1 x24_3).f0) : Int) ji18)))); refine store_event (t := 3) (p := 58) (v := ?vo_w33) (w1 := (w29.setCell ⟨go24, (((rd_TTie l0_1 x24_3).f0) : Int).toNat, none⟩ (.int .i64 ji18))) ?hg ?ho ?hn ?hr ?_; (case ho => rfl); (case hg => rfl); (case hn => rfl); (case hr => first | (go_simp; done) | (go_simp; rfl)); intro w33 hw; have hg : w29.grownBy w33 (some go24) := (by rw [hw]; exact HP32.2); have hp_ : Kd.R (Kd.int .i64) 3 w33 w.heap.size (fun _ => True) (.slice (some ⟨go24, 0, none⟩) x3_3.length co31) y113 := (by rw [hw, Ny113.out]; exact HP32.1); clear HP32; replace BK101 := q0 (blk_grown (g := gb101) (o := .cells #[.int .i64 a0_0, .slice (some ad107) l0_1.length c0_1] 25 (0, 0)) (qk BK101.out) hg (Kd.R_ne HO_3.out BK101.out (by decide))); replace BK108 := q0 (blk_grown (g := gb108) (o := .cells #[.int .i64 ((rd_TTie l0_1 x24_3).f0), .int .i64 ((rd_TTie l0_1 x24_3).f1)] 32 (0, 0)) (qk BK108.out) hg (Kd.R_ne HO_3.out BK108.out (by decide))); replace HO_3 := q0 (hp_); replace HB := q0 ((by rw [hw]; exact below_set (HB.out) GB24.out : Below w.heap.size w w33)); clear hg hw hp_; have p25 : 0 ≤ (((rd_TTie l0_1 x24_3).f1) : Int) := of_decide_eq_true qa; have q25 : (((rd_TTie l0_1 x24_3).f1) : Int) < ((x3_3.length : Int) : Int) := of_decide_eq_true qa; obtain ⟨hx25_0, hf25_0⟩ := Kd.R_celln 0 HO_3.out (((rd_TTie l0_1 x24_3).f1) : Int) p25 q25; replace p25 := eq_true p25; replace q25 := eq_true q25; obtain ⟨hy34_, hz34_⟩ := Kd.R_celln 0 HO_3.out (((rd_TTie l0_1 x24_3).f1) : Int) (of_decide_eq_true qa) (of_decide_eq_true qa); have HP34 := Kd.R_putg HO_3.out (((rd_TTie l0_1 x24_3).f1) : Int) ji18) | ((with_reducible refine gate_store (t := 3) (p := 59) rfl ?_); (try (rw [drewN_self w33]; generalize hq_ : World.drewN w33 _ = w33; have n0_ := q0 (Kd.R_at hq_ HO_3.out); have n1_ := q0 (blk_at hq_ BK101.out); have n2_ := q0 (blk_at hq_ BK108.out); have n3_ := q0 (below_at hq_ HB.out); clear hq_ HO_3 BK101 BK108 HB; have HO_3 := n0_; have BK101 := n1_; have BK108 := n2_; have HB := n3_; clear n0_ n1_ n2_ n3_; (try (obtain ⟨hy34_, hz34_⟩ := Kd.R_celln 0 HO_3.out (((rd_TTie l0_1 x24_3).f1) : Int) (of_decide_eq_true qa) (of_decide_eq_true qa))); (try (have HP34 := Kd.R_putg HO_3.out (((rd_TTie l0_1 x24_3).f1) : Int) ji18)))); refine store_event (t := 3) (p := 59) (v := ?vo_w35) (w1 := (w33.setCell ⟨go24, (((rd_TTie l0_1 x24_3).f1) : Int).toNat, none⟩ (.int .i64 ji18))) ?hg ?ho ?hn ?hr ?_; (case ho => rfl); (case hg => rfl); (case hn => rfl); (case hr => first | (go_simp; done) | (go_simp; rfl)); intro w35 hw; have hg : w33.grownBy w35 (some go24) := (by rw [hw]; exact HP34.2); have hp_ : Kd.R (Kd.int .i64) 3 w35 w.heap.size (fun _ => True) (.slice (some ⟨go24, 0, none⟩) x3_3.length co31) y114 := (by rw [hw, Ny114.out]; exact HP34.1); clear HP34; replace BK101 := q0 (blk_grown (g := gb101) (o := .cells #[.int .i64 a0_0, .slice (some ad107) l0_1.length c0_1] 25 (0, 0)) (qk BK101.out) hg (Kd.R_ne HO_3.out BK101.out (by decide))); replace BK108 := q0 (blk_grown (g := gb108) (o := .cells #[.int .i64 ((rd_TTie l0_1 x24_3).f0), .int .i64 ((rd_TTie l0_1 x24_3).f1)] 32 (0, 0)) (qk BK108.out) hg (Kd.R_ne HO_3.out BK108.out (by decide))); replace HO_3 := q0 (hp_); replace HB := q0 ((by rw [hw]; exact below_set (HB.out) GB24.out : Below w.heap.size w w35)); clear hg hw hp_)))
 have hne_ : gb108 ≠ go24 := by
   intro he
   have h1 := BK108.out
   rw [he, GG24.out] at h1
   simp at h1
 have hne2_ : go24 ≠ gb108 := Ne.symm hne_
 rw [World.drewN_drewN]
 clear hcz28_0 hcz28_1 hfz28_0 hfz28_1 hcz30_0 hcz30_1 hfz30_0 hfz30_1 hx109_0 hx110_0 hx111_0 hx112_0 hx24_0 hf24_0 hy32_ hz32_ HP32 GG24
 generalize hq_ : World.drewN w29 _ = w29
 have n0_ := q0 (Kd.R_at hq_ HO_3.out)
 have n1_ := q0 (blk_at hq_ BK101.out)
 have n2_ := q0 (blk_at hq_ BK108.out)
 have n3_ := q0 (below_at hq_ HB.out)
 clear hq_ HO_3 BK101 BK108 HB
 have HO_3 := n0_
 have BK101 := n1_
 have BK108 := n2_
 have HB := n3_
 clear n0_ n1_ n2_ n3_
 obtain ⟨hcz30_0, hcz30_1, hfz30_0, hfz30_1⟩ := b2 BK108
 obtain ⟨hx24_0, hf24_0⟩ := Kd.R_celln 0 HO_3.out (((rd_TTie l0_1 x24_3).f0) : Int) (of_decide_eq_true qa) (of_decide_eq_true qa)
 obtain ⟨hx25_0, hf25_0⟩ := Kd.R_celln 0 HO_3.out (((rd_TTie l0_1 x24_3).f1) : Int) (of_decide_eq_true qa) (of_decide_eq_true qa)
 obtain ⟨hv_, hy_⟩ := cell?_setCell_some (p := ⟨go24, (((rd_TTie l0_1 x24_3).f0) : Int).toNat, none⟩) (x := .int .i64 ji18) hx25_0
 go_region
 have hP1_ := Kd.R_putg HO_3.out (((rd_TTie l0_1 x24_3).f0) : Int) ji18
 have hR1_ : Kd.R (Kd.int .i64) 3 (w29.setCell ⟨go24, (((rd_TTie l0_1 x24_3).f0) : Int).toNat, none⟩ (.int .i64 ji18)) w.heap.size (fun _ => True) (.slice (some ⟨go24, 0, none⟩) x3_3.length co31) y113 := by rw [Ny113.out]; exact hP1_.1
 have hP2_ := Kd.R_putg hR1_ (((rd_TTie l0_1 x24_3).f1) : Int) ji18
 have hR2_ : Kd.R (Kd.int .i64) 3 ((w29.setCell ⟨go24, (((rd_TTie l0_1 x24_3).f0) : Int).toNat, none⟩ (.int .i64 ji18)).setCell ⟨go24, (((rd_TTie l0_1 x24_3).f1) : Int).toNat, none⟩ (.int .i64 ji18)) w.heap.size (fun _ => True) (.slice (some ⟨go24, 0, none⟩) x3_3.length co31) y114 := by rw [Ny114.out]; exact hP2_.1
 have hB1_ := blk_grown (g := gb101) BK101.out hP1_.2 (Kd.R_ne HO_3.out BK101.out (by decide))
 have hB2_ := blk_grown (g := gb101) hB1_ hP2_.2 (Kd.R_ne hR1_ hB1_ (by decide))
 have hD_ : Below w.heap.size w ((w29.setCell ⟨go24, (((rd_TTie l0_1 x24_3).f0) : Int).toNat, none⟩ (.int .i64 ji18)).setCell ⟨go24, (((rd_TTie l0_1 x24_3).f1) : Int).toNat, none⟩ (.int .i64 ji18)) := below_set (below_set HB.out GB24.out) GB24.out
 clear hP1_ hR1_ hP2_ hB1_
 have n0_ := q0 hR2_
 have n1_ := q0 hB2_
 have n2_ := q0 hD_
 clear hR2_ hB2_ hD_
 clear HO_3 BK101 BK108 HB hcz30_0 hcz30_1 hfz30_0 hfz30_1 hx24_0 hf24_0 hx25_0 hf25_0 hy_
 generalize ((w29.setCell ⟨go24, (((rd_TTie l0_1 x24_3).f0) : Int).toNat, none⟩ (.int .i64 ji18)).setCell ⟨go24, (((rd_TTie l0_1 x24_3).f1) : Int).toNat, none⟩ (.int .i64 ji18)) = w35 at n0_ n1_ n2_ ⊢
 have HO_3 := n0_
 have BK101 := n1_
 have HB := n2_
 clear n0_ n1_ n2_
 go_wp2
 go_roundg k3
 case measure => have := HK1.out; have := HK2.out; have := HK3.out; omega
 case rel => exact ⟨(y114), (true), (wrap64 (x24_3 + 1)), qs, qs, H', ⟨by have := HK1.out; have := HK2.out; have := HK3.out; omega⟩, ⟨qr HO_3.out⟩, ⟨qk BK101.out⟩, ⟨qb HB.out⟩⟩

set_option maxHeartbeats 8000000 in
set_option maxRecDepth 100000 in
theorem impl_Net_joined.calls (k : Nat) (a0_0 : Int) (A0_1 : Option Addr) (c0_1 : Nat) (l0_1 : List (STie)) (a1 : Int) (a2 : Int) (r : Bool) (w : World) (hr0_1 : Kd.C kTie w A0_1 l0_1.length l0_1) (hc0_1 : l0_1.length ≤ c0_1) (h : impl_Net_joined.f k a0_0 l0_1 a1 a2 = some r) :
    Calls Try.prog 22 #[.agg #[.int .i64 a0_0, .slice A0_1 l0_1.length c0_1], .int .i64 a1, .int .i64 a2] w fun e w' => e = .returned (.bool r) ∧ Below w.heap.size w w' := by
 have hu25 := Try.underlying25
 have HR0_1 := q0 hr0_1
 have HC0_1 := q0 hc0_1
 clear hr0_1 hc0_1
 have HB := q0 (Below.refl w.heap.size w)
 have H : ((impl_Net_parts.f k a0_0 l0_1).bind fun t100 => (if 0 ≤ a1 then (if a1 < (t100.length : Int) then (if 0 ≤ a2 then (if a2 < (t100.length : Int) then (some ((rd t100 a1) == (rd t100 a2))) else (none)) else (none)) else (none)) else (none))) = some r := h
 clear h
 obtain ⟨t100, A4, H⟩ := ob H
 obtain ⟨c5, H⟩ : (0 ≤ a1) ∧ _ := og H
 have c5b0 := decide_eq_true c5
 clear c5
 obtain ⟨c6, H⟩ : (a1 < (t100.length : Int)) ∧ _ := og H
 have c6b0 := decide_eq_true c6
 clear c6
 obtain ⟨c7, H⟩ : (0 ≤ a2) ∧ _ := og H
 have c7b0 := decide_eq_true c7
 clear c7
 obtain ⟨c8, H⟩ : (a2 < (t100.length : Int)) ∧ _ := og H
 have c8b0 := decide_eq_true c8
 clear c8
 obtain rfl := Option.some.inj H
 go_enter Try.func22, Try.ntmps22
 go_wp2_with (first | ((with_reducible refine gd 3 ?_); refine be 3 #[.int .i64 a0_0, .slice A0_1 l0_1.length c0_1] 25 ?_; intro gb101 hg w9 hbox hb; have BK101 := q0 (hbox); have GW101 := gw HB hg; have GE101 := gw HB hg; replace HB := bp HB hb; clear hb hbox hg; obtain ⟨hcz10_0, hcz10_1, hfz10_0, hfz10_1⟩ := b2 BK101) | (go_at_call 32; (with_reducible refine (impl_Net_parts.calls k a0_0 _ _ l0_1 t100 _ ?side1 ?side2 A4.out).mono ?_); (case side1 => exact qc (Kd.C_below HR0_1.out HB.out)); (case side2 => exact HC0_1.out); rintro e w11 ⟨v102, rfl, ho0, hb⟩; have HO103 := q0 (Kd.R_lower ho0 (below_size (qb HB.out))); replace BK101 := kd BK101 hb; replace HB := bp HB hb; (try clear hb); (try clear hb2); (try clear hk); (try clear hi); (try clear ho0); obtain ⟨Ao12, co12, eo12⟩ := Kd.R_slice HO103.out; subst eo12; have p104 : 0 ≤ (a1 : Int) := of_decide_eq_true qa; have q104 : a1 < (t100.length : Int) := of_decide_eq_true qa; obtain ⟨ad104, e104, hx104_0⟩ := Kd.at_int (Kd.R_reads' HO103.out).2.2 a1 p104 q104; cases e104; replace p104 := eq_true p104; replace q104 := eq_true q104; have p105 : 0 ≤ (a2 : Int) := of_decide_eq_true qa; have q105 : a2 < (t100.length : Int) := of_decide_eq_true qa; obtain ⟨ad105, e105, hx105_0⟩ := Kd.at_int (Kd.R_reads' HO103.out).2.2 a2 p105 q105; obtain rfl : ad104 = ad105 := (by injection e105); replace p105 := eq_true p105; replace q105 := eq_true q105))
 repeat (go_quiet (first | ((with_reducible refine gd 3 ?_); refine be 3 #[.int .i64 a0_0, .slice A0_1 l0_1.length c0_1] 25 ?_; intro gb101 hg w9 hbox hb; have BK101 := q0 (hbox); have GW101 := gw HB hg; have GE101 := gw HB hg; replace HB := bp HB hb; clear hb hbox hg; obtain ⟨hcz10_0, hcz10_1, hfz10_0, hfz10_1⟩ := b2 BK101) | (go_at_call 32; (with_reducible refine (impl_Net_parts.calls k a0_0 _ _ l0_1 t100 _ ?side1 ?side2 A4.out).mono ?_); (case side1 => exact qc (Kd.C_below HR0_1.out HB.out)); (case side2 => exact HC0_1.out); rintro e w11 ⟨v102, rfl, ho0, hb⟩; have HO103 := q0 (Kd.R_lower ho0 (below_size (qb HB.out))); replace BK101 := kd BK101 hb; replace HB := bp HB hb; (try clear hb); (try clear hb2); (try clear hk); (try clear hi); (try clear ho0); obtain ⟨Ao12, co12, eo12⟩ := Kd.R_slice HO103.out; subst eo12; have p104 : 0 ≤ (a1 : Int) := of_decide_eq_true qa; have q104 : a1 < (t100.length : Int) := of_decide_eq_true qa; obtain ⟨ad104, e104, hx104_0⟩ := Kd.at_int (Kd.R_reads' HO103.out).2.2 a1 p104 q104; cases e104; replace p104 := eq_true p104; replace q104 := eq_true q104; have p105 : 0 ≤ (a2 : Int) := of_decide_eq_true qa; have q105 : a2 < (t100.length : Int) := of_decide_eq_true qa; obtain ⟨ad105, e105, hx105_0⟩ := Kd.at_int (Kd.R_reads' HO103.out).2.2 a2 p105 q105; obtain rfl : ad104 = ad105 := (by injection e105); replace p105 := eq_true p105; replace q105 := eq_true q105)); try go_wp2_with (first | ((with_reducible refine gd 3 ?_); refine be 3 #[.int .i64 a0_0, .slice A0_1 l0_1.length c0_1] 25 ?_; intro gb101 hg w9 hbox hb; have BK101 := q0 (hbox); have GW101 := gw HB hg; have GE101 := gw HB hg; replace HB := bp HB hb; clear hb hbox hg; obtain ⟨hcz10_0, hcz10_1, hfz10_0, hfz10_1⟩ := b2 BK101) | (go_at_call 32; (with_reducible refine (impl_Net_parts.calls k a0_0 _ _ l0_1 t100 _ ?side1 ?side2 A4.out).mono ?_); (case side1 => exact qc (Kd.C_below HR0_1.out HB.out)); (case side2 => exact HC0_1.out); rintro e w11 ⟨v102, rfl, ho0, hb⟩; have HO103 := q0 (Kd.R_lower ho0 (below_size (qb HB.out))); replace BK101 := kd BK101 hb; replace HB := bp HB hb; (try clear hb); (try clear hb2); (try clear hk); (try clear hi); (try clear ho0); obtain ⟨Ao12, co12, eo12⟩ := Kd.R_slice HO103.out; subst eo12; have p104 : 0 ≤ (a1 : Int) := of_decide_eq_true qa; have q104 : a1 < (t100.length : Int) := of_decide_eq_true qa; obtain ⟨ad104, e104, hx104_0⟩ := Kd.at_int (Kd.R_reads' HO103.out).2.2 a1 p104 q104; cases e104; replace p104 := eq_true p104; replace q104 := eq_true q104; have p105 : 0 ≤ (a2 : Int) := of_decide_eq_true qa; have q105 : a2 < (t100.length : Int) := of_decide_eq_true qa; obtain ⟨ad105, e105, hx105_0⟩ := Kd.at_int (Kd.R_reads' HO103.out).2.2 a2 p105 q105; obtain rfl : ad104 = ad105 := (by injection e105); replace p105 := eq_true p105; replace q105 := eq_true q105)))
 go_ret
 exact ⟨qe, qb HB.out⟩

def impl_Net_bridges.T5 : Bool × List (List Nat × List Nat) := (true, [([], []), ([], []), ([1], [1]), ([0, 2], [0, 2]), ([], []), ([4], [4]), ([], []), ([6], [6]), ([3, 5, 7, 3], [3, 5, 7]), ([8], [8])])
def impl_Net_bridges.B5 : List Nat := [0, 0, 2, 7, 0, 16, 0, 64, 255, 511]
theorem impl_Net_bridges.tab5 : rtab .any (opsOf Try.f12 5) = impl_Net_bridges.T5 := by kernel_rfl
theorem impl_Net_bridges.bits5 : waitsOk impl_Net_bridges.T5.2 impl_Net_bridges.B5 = true := by kernel_rfl
set_option maxHeartbeats 8000000 in
set_option maxRecDepth 100000 in
theorem impl_Net_bridges.calls (k : Nat) (a0_0 : Int) (A0_1 : Option Addr) (c0_1 : Nat) (l0_1 : List (STie)) (r : List (STie)) (w : World) (hr0_1 : Kd.C kTie w A0_1 l0_1.length l0_1) (hc0_1 : l0_1.length ≤ c0_1) (h : impl_Net_bridges.f k a0_0 l0_1 = some r) :
    Calls Try.prog 12 #[.agg #[.int .i64 a0_0, .slice A0_1 l0_1.length c0_1]] w fun e w' => ∃ v0_ : Value, e = .returned (v0_) ∧ Kd.R kTie 32 w' w.heap.size (fun _ => True) v0_ r ∧ Below w.heap.size w w' := by
 have hu25 := Try.underlying25
 have hu32 := Try.underlying32
 have HR0_1 := q0 hr0_1
 have HC0_1 := q0 hc0_1
 clear hr0_1 hc0_1
 have HB := q0 (Below.refl w.heap.size w)
 have H : (impl_Net_bridges.l0 k (([] : List (STie))) l0_1 (l0_1.length : Int) 0 a0_0 l0_1) = some r := h
 clear h
 obtain ⟨y100, hy100⟩ : ∃ y_ : List (STie), y_ = (([] : List (STie))) := ⟨_, rfl⟩
 replace H : (impl_Net_bridges.l0 k y100 l0_1 (l0_1.length : Int) 0 a0_0 l0_1) = some r := qy H hy100
 have Ny100 := q0 hy100
 clear hy100
 have H' := q0 H
 clear H
 go_enter Try.func12, Try.ntmps12
 go_wp2_with (first | ((with_reducible refine gd 1 ?_); refine be 1 #[.int .i64 a0_0, .slice A0_1 l0_1.length c0_1] 25 ?_; intro gb103 hg w2 hbox hb; have BK103 := q0 (hbox); have GW103 := gw HB hg; have GE103 := gw HB hg; replace HB := bp HB hb; clear hb hbox hg) | ((with_reducible refine gd 6 ?_); refine Kd.R_lit kTie _ 32 ?hg (N := 6) ?hd (xs := ([] : List (STie))) (inner := []) (ok := fun _ => True) (okp := fun _ => True) ?hr ?hp (fun _ hk => hk) trivial (Below.refl _ _) (Nat.le_refl _) (by simp) ?_; (case hd => rfl); (case hg => rfl); (case hr => first | (go_simp; done) | (go_simp; rfl)); (case hp => exact (Reps.none _ _)); intro v104 w3 ho4 hb hg_ hnew_; clear hg_ hnew_; (first | rw [← Ny100.out] at ho4 | (simp only [Int.reduceToNat] at ho4; rw [← Ny100.out] at ho4)); have HO105 := q0 (Kd.R_lower ho4 (below_size (qb HB.out))); replace BK103 := kd BK103 hb; replace HB := bp HB hb; clear hb ho4; obtain ⟨hcz5_0, hcz5_1, hfz5_0, hfz5_1⟩ := b2 BK103))
 go_loopg [3, 10] k (fun kq v3 v10 w' => ∃ (x3_1 : List (STie)) (x10_1 : Int), v10 = .int .i64 x10_1 ∧ Aside0 (impl_Net_bridges.l0 kq x3_1 l0_1 (l0_1.length : Int) x10_1 a0_0 l0_1 = some r) ∧ Aside0 (kq ≤ k) ∧ Aside0 (Kd.R kTie 32 w' w.heap.size (fun _ => True) v3 x3_1) ∧ Aside0 (w'.heap[gb103]? = some (.cells #[.int .i64 a0_0, (.slice A0_1 l0_1.length c0_1)] 25 (0, 0))) ∧ Aside0 (Below w.heap.size w w'))
 case atStart => exact ⟨(y100), (0), qs, H', ⟨Nat.le_refl _⟩, ⟨qr HO105.out⟩, ⟨qk BK103.out⟩, ⟨qb HB.out⟩⟩
 clear H'
 try clear c1
 try clear p2
 try clear hcz5_0
 try clear hcz5_1
 try clear hfz5_0
 try clear hfz5_1
 obtain ⟨x3_1, x10_1, rfl, HA, HK1, HO_3, BK103, HB⟩ := hrel
 rcases gk with _ | k1
 · exact absurd HA.out (by simp [impl_Net_bridges.l0])
 have H := HA.out
 clear HA
 simp only [impl_Net_bridges.l0] at H
 by_cases c6 : x10_1 < (l0_1.length : Int)
 rotate_left
 · rw [if_neg c6] at H
   have c6b0 := decide_eq_false c6
   clear c6
   obtain rfl := Option.some.inj H
   go_wp2
   go_ret
   exact ⟨_, qe, qr HO_3.out, qb HB.out⟩
 rw [if_pos c6] at H
 have c6b0 := decide_eq_true c6
 clear c6
 obtain ⟨c7, H⟩ : (0 ≤ x10_1) ∧ _ := og H
 have c7b0 := decide_eq_true c7
 clear c7
 obtain ⟨c8, H⟩ : (x10_1 < (l0_1.length : Int)) ∧ _ := og H
 have c8b0 := decide_eq_true c8
 clear c8
 obtain ⟨y106, hy106⟩ : ∃ y_ : List (STie), y_ = (([(⟨(rd_TTie l0_1 x10_1).f0, (rd_TTie l0_1 x10_1).f1⟩ : STie)] : List (STie))) := ⟨_, rfl⟩
 replace H : ((impl_Net_less.f k1 a0_0 l0_1 y106).bind fun bt101 => ((impl_Net_joined.f k1 bt101.1 bt101.2 ((rd_TTie l0_1 x10_1).f0) ((rd_TTie l0_1 x10_1).f1)).bind fun t102 => (if t102 = true then (impl_Net_bridges.l0 k1 x3_1 l0_1 (l0_1.length : Int) (wrap64 (x10_1 + 1)) a0_0 l0_1) else (if x3_1.length < 8796093022208 then (impl_Net_bridges.l0 k1 (x3_1 ++ [(⟨(rd_TTie l0_1 x10_1).f0, (rd_TTie l0_1 x10_1).f1⟩ : STie)]) l0_1 (l0_1.length : Int) (wrap64 (x10_1 + 1)) a0_0 l0_1) else (none))))) = some r := qy H hy106
 have Ny106 := q0 hy106
 clear hy106
 obtain ⟨⟨t101, t107⟩, A9, H⟩ := ob H
 obtain ⟨t102, A10, H⟩ := ob H
 by_cases c11 : t102 = true
 · subst c11
   rw [if_pos rfl] at H
   have H' := q0 H
   clear H
   have p109 : 0 ≤ (x10_1 : Int) := of_decide_eq_true qa
   have q109 : x10_1 < (l0_1.length : Int) := of_decide_eq_true qa
   obtain ⟨ad109, e109, hx109_0, hx109_1⟩ := at_TTie HR0_1.out x10_1 p109 q109
   cases e109
   replace hx109_0 := hcl HB.out hx109_0
   replace hx109_1 := hcl HB.out hx109_1
   replace p109 := eq_true p109
   replace q109 := eq_true q109
   try go_wp2_with (first | ((with_reducible refine gd 5 ?_); refine be 5 #[.int .i64 0, .int .i64 0] 32 ?_; intro gb110 hg w12 hbox hb; replace HO_3 := q0 (Kd.R_below (Kd.R_elderB (qr HO_3.out) gb110 (Nat.le_of_eq hg.symm)) hb); have BK110 := q0 (hbox); have GW110 := gw HB hg; have GE110 := gw HB hg; replace HB := bp HB hb; have NB103_110 := nl BK103 hg; have NB110_103 := ng BK103 hg; replace BK103 := kd BK103 hb; clear hb hbox hg; have hnb13 := NB110_103.out; have hnc13 := NB103_110.out; obtain ⟨hcz14_0, hcz14_1, hfz14_0, hfz14_1⟩ := b2 BK110))
   have n0_ : Aside0 (Kd.R kTie 32 ((w12.setCell ⟨gb110, 0, none⟩ (.int .i64 ((rd_TTie l0_1 x10_1).f0))).setCell ⟨gb110, 1, none⟩ (.int .i64 ((rd_TTie l0_1 x10_1).f1))) w.heap.size (fun k_ => k_ ≠ gb110) u3 x3_1) := ⟨by (with_reducible repeat (first | apply Kd.R_alloc | apply Kd.R_drewN | apply Kd.R_drew)); exact Kd.R_mono (Kd.R_far (p := ⟨gb110, 1, none⟩) (Kd.R_far (p := ⟨gb110, 0, none⟩) (Kd.R_mono HO_3.out (fun k_ hk => (⟨hk, hk.2⟩ : _ ∧ k_ ≠ gb110))) (fun _ hk => hk.2) (.int .i64 ((rd_TTie l0_1 x10_1).f0))) (fun _ hk => hk.2) (.int .i64 ((rd_TTie l0_1 x10_1).f1))) (fun _ hk => hk.1.2)⟩
   have n1_ : Aside0 (((w12.setCell ⟨gb110, 0, none⟩ (.int .i64 ((rd_TTie l0_1 x10_1).f0))).setCell ⟨gb110, 1, none⟩ (.int .i64 ((rd_TTie l0_1 x10_1).f1))).heap[gb103]? = some (.cells #[.int .i64 a0_0, .slice (some ad109) l0_1.length c0_1] 25 (0, 0))) := ⟨qf BK103.out⟩
   have n2_ : Aside0 (((w12.setCell ⟨gb110, 0, none⟩ (.int .i64 ((rd_TTie l0_1 x10_1).f0))).setCell ⟨gb110, 1, none⟩ (.int .i64 ((rd_TTie l0_1 x10_1).f1))).heap[gb110]? = some (.cells #[.int .i64 ((rd_TTie l0_1 x10_1).f0), .int .i64 ((rd_TTie l0_1 x10_1).f1)] 32 (0, 0))) := ⟨by (with_reducible repeat (first | refine blk_drewN ?_ _ | refine blk_drew ?_ | refine blk_alloc ?_ _)); refine blk_put (cs := #[.int .i64 ((rd_TTie l0_1 x10_1).f0), .int .i64 0]) ?_ 1 _ rfl; (with_reducible repeat (first | refine blk_drewN ?_ _ | refine blk_drew ?_ | refine blk_alloc ?_ _)); refine blk_put (cs := #[.int .i64 0, .int .i64 0]) ?_ 0 _ rfl; (with_reducible repeat (first | refine blk_drewN ?_ _ | refine blk_drew ?_ | refine blk_alloc ?_ _)); exact BK110.out⟩
   have n3_ : Aside0 (Below w.heap.size w ((w12.setCell ⟨gb110, 0, none⟩ (.int .i64 ((rd_TTie l0_1 x10_1).f0))).setCell ⟨gb110, 1, none⟩ (.int .i64 ((rd_TTie l0_1 x10_1).f1)))) := ⟨qb HB.out⟩
   (try clear HO_3)
   (try clear BK103)
   (try clear BK110)
   (try clear HB)
   generalize ((w12.setCell ⟨gb110, 0, none⟩ (.int .i64 ((rd_TTie l0_1 x10_1).f0))).setCell ⟨gb110, 1, none⟩ (.int .i64 ((rd_TTie l0_1 x10_1).f1))) = w15 at n0_ n1_ n2_ n3_ ⊢
   have HO_3 := n0_
   have BK103 := n1_
   have BK110 := n2_
   have HB := n3_
   clear n0_ n1_ n2_ n3_
   replace HO_3 := q0 (Kd.R_drew HO_3.out)
   replace BK103 := q0 (blk_drew BK103.out)
   replace BK110 := q0 (blk_drew BK110.out)
   replace HB := q0 (below_drew1 HB.out)
   refine start_ (n := 10) (S := fun w' => w'.cell? ⟨gb103, 0, none⟩ = some (.int .i64 a0_0) ∧ w'.cell? ⟨gb103, 1, none⟩ = some (.slice (some ad109) l0_1.length c0_1) ∧ w'.cell? ⟨gb110, 0, none⟩ = some (.int .i64 ((rd_TTie l0_1 x10_1).f0)) ∧ w'.cell? ⟨gb110, 1, none⟩ = some (.int .i64 ((rd_TTie l0_1 x10_1).f1))) (ds := []) (ba 10 0) (by kernel_rfl) rfl (by kernel_rfl) ⟨bca BK103, bcb BK103, bca BK110, bcb BK110⟩ (fun hHeld => ?_); refine with_tabW impl_Net_bridges.tab5 impl_Net_bridges.bits5 (fun HT_ HW_ => ?_)
   generalize w15.drew = w16 at HO_3 BK103 BK110 HB hHeld ⊢
   refine pU 4 18 10 16 HT_ ?_
   refine pU 6 20 10 80 HT_ ?_
   refine tU 0 14 10 81 HT_ HW_ hHeld ?_
   refine tU 1 15 10 83 HT_ HW_ hHeld ?_
   refine tU 5 19 10 115 HT_ HW_ hHeld ?_
   refine tU 7 21 10 243 HT_ HW_ hHeld ?_
   refine one_ (i := 2) (N := some 16) (ba 10 247) rfl rfl (one_of HT_.out (by kernel_rfl)) (by decide) (fun K hK => ?_)
   refine Kd.R_lit_step kTie _ 32 ?hg (N := 16) ?hd (xs := ([(⟨(rd_TTie l0_1 x10_1).f0, (rd_TTie l0_1 x10_1).f1⟩ : STie)] : List (STie))) (inner := [.int .i64 ((rd_TTie l0_1 x10_1).f0), .int .i64 ((rd_TTie l0_1 x10_1).f1)]) (ok := fun _ => True) (okp := fun _ => True) ?hr ?hp (fun _ hk => hk) trivial (Below.refl _ _) (Nat.le_refl _) (by simp) ?_; (case hd => rfl); (case hg => rfl); (case hr => first | (go_simp; done) | (go_simp; rfl)); (case hp => exact (Reps.c2 (show Kd.M kTie _ _ _ (⟨(rd_TTie l0_1 x10_1).f0, (rd_TTie l0_1 x10_1).f1⟩ : STie) [.int .i64 ((rd_TTie l0_1 x10_1).f0), .int .i64 ((rd_TTie l0_1 x10_1).f1)] from (kTie_mkM _ _ _ (⟨(rd_TTie l0_1 x10_1).f0, (rd_TTie l0_1 x10_1).f1⟩ : STie) )) (Reps.none _ _)))
   intro v111 w17 ho18 hb hg_ hnew_
   clear hg_ hnew_
   (first | rw [← Ny106.out] at ho18 | (simp only [Int.reduceToNat] at ho18; rw [← Ny106.out] at ho18))
   have HO112 := q0 (Kd.R_lower (Kd.R_newB (Kd.R_new' ho18 (Kd.R_lt (qr HO_3.out))) (g := gb110) (o := .cells #[.int .i64 ((rd_TTie l0_1 x10_1).f0), .int .i64 ((rd_TTie l0_1 x10_1).f1)] 32 (0, 0)) (qk BK110.out)) (below_size (qb HB.out)))
   replace HO_3 := q0 (Kd.R_elder' (qr HO_3.out) (Kd.R_base ho18) hb)
   replace BK103 := kd BK103 hb
   replace BK110 := kd BK110 hb
   replace HB := bp HB hb
   clear hb ho18
   obtain ⟨Ao19, co19, eo19⟩ := Kd.R_slice HO112.out
   (first | subst eo19 | (injection eo19 with f1_ f2_ f3_; have f4_ := f1_.symm; have f5_ := f3_.symm; clear f1_ f2_ f3_; subst f4_; subst f5_))
   refine hK.out _ _ ⟨bca BK103, bcb BK103, bca BK110, bcb BK110⟩ (fun hHeld => ?_)
   clear hK K
   refine nu 16 ?_
   refine one_ (i := 3) (N := some 17) (ba 10 255) rfl rfl (one_of HT_.out (by kernel_rfl)) (by decide) (fun K hK => ?_)
   refine goes_ Try.func16 (by kernel_rfl) rfl #[.agg #[.int .i64 a0_0, .slice (some ad109) l0_1.length c0_1], .slice Ao19 y106.length co19] (by rfl) rfl rfl qm ?_
   with_reducible refine (impl_Net_less.calls k1 a0_0 _ _ l0_1 _ _ y106 t101 t107 _ ?side1 ?side2 ?side3 ?side4 A9.out).mono ?_
   (case side1 => exact qc (Kd.C_below HR0_1.out HB.out))
   (case side2 => exact HC0_1.out)
   (case side3 => exact qc (Kd.R_reads' HO112.out).2.2)
   (case side4 => exact (Kd.R_reads' HO112.out).2.1)
   rintro e w20 ⟨v113, rfl, ho0, hb⟩
   refine ⟨_, rfl, ?_⟩
   have HO114 := q0 (Kd.R_lower (Kd.R_newB (Kd.R_new' (Kd.R_new' ho0 (Kd.R_lt (qr HO_3.out))) (Kd.R_lt (qr HO112.out))) (g := gb110) (o := .cells #[.int .i64 ((rd_TTie l0_1 x10_1).f0), .int .i64 ((rd_TTie l0_1 x10_1).f1)] 32 (0, 0)) (qk BK110.out)) (below_size (qb HB.out)))
   replace HO_3 := q0 (Kd.R_elder' (qr HO_3.out) (Kd.R_base ho0) hb)
   replace HO112 := q0 (Kd.R_elder' (qr HO112.out) (Kd.R_base ho0) hb)
   replace BK103 := kd BK103 hb
   replace BK110 := kd BK110 hb
   replace HB := bp HB hb
   (try clear hb)
   (try clear hb2)
   (try clear hk)
   (try clear hi)
   (try clear ho0)
   obtain ⟨Ao21, co21, eo21⟩ := Kd.R_slice HO114.out
   (first | subst eo21 | (injection eo21 with f1_ f2_ f3_; have f4_ := f1_.symm; have f5_ := f3_.symm; clear f1_ f2_ f3_; subst f4_; subst f5_))
   refine hK.out _ _ ⟨bca BK103, bcb BK103, bca BK110, bcb BK110⟩ (fun hHeld => ?_)
   clear hK K
   refine nu 17 ?_
   refine one_ (i := 8) (N := some 22) (ba 10 511) rfl rfl (one_of HT_.out (by kernel_rfl)) (by decide) (fun K hK => ?_)
   refine goes_ Try.func22 (by kernel_rfl) rfl #[.agg #[.int .i64 t101, .slice Ao21 t107.length co21], .int .i64 ((rd_TTie l0_1 x10_1).f0), .int .i64 ((rd_TTie l0_1 x10_1).f1)] (by rfl) rfl rfl qm ?_
   with_reducible refine (impl_Net_joined.calls k1 t101 _ _ t107 ((rd_TTie l0_1 x10_1).f0) ((rd_TTie l0_1 x10_1).f1) true _ ?side1 ?side2 A10.out).mono ?_
   (case side1 => exact qc (Kd.R_reads' HO114.out).2.2)
   (case side2 => exact (Kd.R_reads' HO114.out).2.1)
   rintro e w22 ⟨rfl, hb⟩
   refine ⟨_, rfl, ?_⟩
   replace HO_3 := q0 (Kd.R_below (qr HO_3.out) hb)
   replace HO112 := q0 (Kd.R_below (qr HO112.out) hb)
   replace HO114 := q0 (Kd.R_below (qr HO114.out) hb)
   replace BK103 := kd BK103 hb
   replace BK110 := kd BK110 hb
   replace HB := bp HB hb
   (try clear hb)
   (try clear hb2)
   (try clear hk)
   (try clear hi)
   refine hK.out _ _ ⟨bca BK103, bcb BK103, bca BK110, bcb BK110⟩ (fun hHeld => ?_)
   clear hK K
   refine nu 22 ?_
   refine pU 9 23 10 1023 HT_ ?_
   refine done_ (done_of HT_.out (by kernel_rfl)) ?_
   try go_wp2
   go_roundg k1
   case measure => have := HK1.out; omega
   case rel => exact ⟨(x3_1), (wrap64 (x10_1 + 1)), qs, H', ⟨by have := HK1.out; omega⟩, ⟨by (with_reducible repeat (first | apply Kd.R_alloc | apply Kd.R_drewN | apply Kd.R_drew)); exact Kd.R_mono HO_3.out (fun _ hk => trivial)⟩, ⟨qk BK103.out⟩, ⟨qb HB.out⟩⟩
 replace c11 := Bool.eq_false_iff.mpr c11
 subst c11
 rw [if_neg nf] at H
 obtain ⟨c23, H⟩ : (x3_1.length < 8796093022208) ∧ _ := og H
 have LMc23 := q0 c23
 clear c23
 obtain ⟨y115, hy115⟩ : ∃ y_ : List (STie), y_ = (x3_1 ++ [(⟨(rd_TTie l0_1 x10_1).f0, (rd_TTie l0_1 x10_1).f1⟩ : STie)]) := ⟨_, rfl⟩
 replace H : (impl_Net_bridges.l0 k1 y115 l0_1 (l0_1.length : Int) (wrap64 (x10_1 + 1)) a0_0 l0_1) = some r := qy H hy115
 have Ny115 := q0 hy115
 clear hy115
 have H' := q0 H
 clear H
 have p109 : 0 ≤ (x10_1 : Int) := of_decide_eq_true qa
 have q109 : x10_1 < (l0_1.length : Int) := of_decide_eq_true qa
 obtain ⟨ad109, e109, hx109_0, hx109_1⟩ := at_TTie HR0_1.out x10_1 p109 q109
 cases e109
 replace hx109_0 := hcl HB.out hx109_0
 replace hx109_1 := hcl HB.out hx109_1
 replace p109 := eq_true p109
 replace q109 := eq_true q109
 try go_wp2_with (first | ((with_reducible refine gd 5 ?_); refine be 5 #[.int .i64 0, .int .i64 0] 32 ?_; intro gb110 hg w24 hbox hb; replace HO_3 := q0 (Kd.R_below (Kd.R_elderB (qr HO_3.out) gb110 (Nat.le_of_eq hg.symm)) hb); have BK110 := q0 (hbox); have GW110 := gw HB hg; have GE110 := gw HB hg; replace HB := bp HB hb; have NB103_110 := nl BK103 hg; have NB110_103 := ng BK103 hg; replace BK103 := kd BK103 hb; clear hb hbox hg; have hnb25 := NB110_103.out; have hnc25 := NB103_110.out; obtain ⟨hcz26_0, hcz26_1, hfz26_0, hfz26_1⟩ := b2 BK110))
 have n0_ : Aside0 (Kd.R kTie 32 ((w24.setCell ⟨gb110, 0, none⟩ (.int .i64 ((rd_TTie l0_1 x10_1).f0))).setCell ⟨gb110, 1, none⟩ (.int .i64 ((rd_TTie l0_1 x10_1).f1))) w.heap.size (fun k_ => k_ ≠ gb110) u3 x3_1) := ⟨by (with_reducible repeat (first | apply Kd.R_alloc | apply Kd.R_drewN | apply Kd.R_drew)); exact Kd.R_mono (Kd.R_far (p := ⟨gb110, 1, none⟩) (Kd.R_far (p := ⟨gb110, 0, none⟩) (Kd.R_mono HO_3.out (fun k_ hk => (⟨hk, hk.2⟩ : _ ∧ k_ ≠ gb110))) (fun _ hk => hk.2) (.int .i64 ((rd_TTie l0_1 x10_1).f0))) (fun _ hk => hk.2) (.int .i64 ((rd_TTie l0_1 x10_1).f1))) (fun _ hk => hk.1.2)⟩
 have n1_ : Aside0 (((w24.setCell ⟨gb110, 0, none⟩ (.int .i64 ((rd_TTie l0_1 x10_1).f0))).setCell ⟨gb110, 1, none⟩ (.int .i64 ((rd_TTie l0_1 x10_1).f1))).heap[gb103]? = some (.cells #[.int .i64 a0_0, .slice (some ad109) l0_1.length c0_1] 25 (0, 0))) := ⟨qf BK103.out⟩
 have n2_ : Aside0 (((w24.setCell ⟨gb110, 0, none⟩ (.int .i64 ((rd_TTie l0_1 x10_1).f0))).setCell ⟨gb110, 1, none⟩ (.int .i64 ((rd_TTie l0_1 x10_1).f1))).heap[gb110]? = some (.cells #[.int .i64 ((rd_TTie l0_1 x10_1).f0), .int .i64 ((rd_TTie l0_1 x10_1).f1)] 32 (0, 0))) := ⟨by (with_reducible repeat (first | refine blk_drewN ?_ _ | refine blk_drew ?_ | refine blk_alloc ?_ _)); refine blk_put (cs := #[.int .i64 ((rd_TTie l0_1 x10_1).f0), .int .i64 0]) ?_ 1 _ rfl; (with_reducible repeat (first | refine blk_drewN ?_ _ | refine blk_drew ?_ | refine blk_alloc ?_ _)); refine blk_put (cs := #[.int .i64 0, .int .i64 0]) ?_ 0 _ rfl; (with_reducible repeat (first | refine blk_drewN ?_ _ | refine blk_drew ?_ | refine blk_alloc ?_ _)); exact BK110.out⟩
 have n3_ : Aside0 (Below w.heap.size w ((w24.setCell ⟨gb110, 0, none⟩ (.int .i64 ((rd_TTie l0_1 x10_1).f0))).setCell ⟨gb110, 1, none⟩ (.int .i64 ((rd_TTie l0_1 x10_1).f1)))) := ⟨qb HB.out⟩
 (try clear HO_3)
 (try clear BK103)
 (try clear BK110)
 (try clear HB)
 generalize ((w24.setCell ⟨gb110, 0, none⟩ (.int .i64 ((rd_TTie l0_1 x10_1).f0))).setCell ⟨gb110, 1, none⟩ (.int .i64 ((rd_TTie l0_1 x10_1).f1))) = w27 at n0_ n1_ n2_ n3_ ⊢
 have HO_3 := n0_
 have BK103 := n1_
 have BK110 := n2_
 have HB := n3_
 clear n0_ n1_ n2_ n3_
 replace HO_3 := q0 (Kd.R_drew HO_3.out)
 replace BK103 := q0 (blk_drew BK103.out)
 replace BK110 := q0 (blk_drew BK110.out)
 replace HB := q0 (below_drew1 HB.out)
 refine start_ (n := 10) (S := fun w' => w'.cell? ⟨gb103, 0, none⟩ = some (.int .i64 a0_0) ∧ w'.cell? ⟨gb103, 1, none⟩ = some (.slice (some ad109) l0_1.length c0_1) ∧ w'.cell? ⟨gb110, 0, none⟩ = some (.int .i64 ((rd_TTie l0_1 x10_1).f0)) ∧ w'.cell? ⟨gb110, 1, none⟩ = some (.int .i64 ((rd_TTie l0_1 x10_1).f1))) (ds := []) (ba 10 0) (by kernel_rfl) rfl (by kernel_rfl) ⟨bca BK103, bcb BK103, bca BK110, bcb BK110⟩ (fun hHeld => ?_); refine with_tabW impl_Net_bridges.tab5 impl_Net_bridges.bits5 (fun HT_ HW_ => ?_)
 generalize w27.drew = w28 at HO_3 BK103 BK110 HB hHeld ⊢
 refine pU 4 18 10 16 HT_ ?_
 refine pU 6 20 10 80 HT_ ?_
 refine tU 0 14 10 81 HT_ HW_ hHeld ?_
 refine tU 1 15 10 83 HT_ HW_ hHeld ?_
 refine tU 5 19 10 115 HT_ HW_ hHeld ?_
 refine tU 7 21 10 243 HT_ HW_ hHeld ?_
 refine one_ (i := 2) (N := some 16) (ba 10 247) rfl rfl (one_of HT_.out (by kernel_rfl)) (by decide) (fun K hK => ?_)
 refine Kd.R_lit_step kTie _ 32 ?hg (N := 16) ?hd (xs := ([(⟨(rd_TTie l0_1 x10_1).f0, (rd_TTie l0_1 x10_1).f1⟩ : STie)] : List (STie))) (inner := [.int .i64 ((rd_TTie l0_1 x10_1).f0), .int .i64 ((rd_TTie l0_1 x10_1).f1)]) (ok := fun _ => True) (okp := fun _ => True) ?hr ?hp (fun _ hk => hk) trivial (Below.refl _ _) (Nat.le_refl _) (by simp) ?_; (case hd => rfl); (case hg => rfl); (case hr => first | (go_simp; done) | (go_simp; rfl)); (case hp => exact (Reps.c2 (show Kd.M kTie _ _ _ (⟨(rd_TTie l0_1 x10_1).f0, (rd_TTie l0_1 x10_1).f1⟩ : STie) [.int .i64 ((rd_TTie l0_1 x10_1).f0), .int .i64 ((rd_TTie l0_1 x10_1).f1)] from (kTie_mkM _ _ _ (⟨(rd_TTie l0_1 x10_1).f0, (rd_TTie l0_1 x10_1).f1⟩ : STie) )) (Reps.none _ _)))
 intro v111 w29 ho30 hb hg_ hnew_
 clear hg_ hnew_
 (first | rw [← Ny106.out] at ho30 | (simp only [Int.reduceToNat] at ho30; rw [← Ny106.out] at ho30))
 have HO112 := q0 (Kd.R_lower (Kd.R_newB (Kd.R_new' ho30 (Kd.R_lt (qr HO_3.out))) (g := gb110) (o := .cells #[.int .i64 ((rd_TTie l0_1 x10_1).f0), .int .i64 ((rd_TTie l0_1 x10_1).f1)] 32 (0, 0)) (qk BK110.out)) (below_size (qb HB.out)))
 replace HO_3 := q0 (Kd.R_elder' (qr HO_3.out) (Kd.R_base ho30) hb)
 replace BK103 := kd BK103 hb
 replace BK110 := kd BK110 hb
 replace HB := bp HB hb
 clear hb ho30
 obtain ⟨Ao31, co31, eo31⟩ := Kd.R_slice HO112.out
 (first | subst eo31 | (injection eo31 with f1_ f2_ f3_; have f4_ := f1_.symm; have f5_ := f3_.symm; clear f1_ f2_ f3_; subst f4_; subst f5_))
 refine hK.out _ _ ⟨bca BK103, bcb BK103, bca BK110, bcb BK110⟩ (fun hHeld => ?_)
 clear hK K
 refine nu 16 ?_
 refine one_ (i := 3) (N := some 17) (ba 10 255) rfl rfl (one_of HT_.out (by kernel_rfl)) (by decide) (fun K hK => ?_)
 refine goes_ Try.func16 (by kernel_rfl) rfl #[.agg #[.int .i64 a0_0, .slice (some ad109) l0_1.length c0_1], .slice Ao31 y106.length co31] (by rfl) rfl rfl qm ?_
 with_reducible refine (impl_Net_less.calls k1 a0_0 _ _ l0_1 _ _ y106 t101 t107 _ ?side1 ?side2 ?side3 ?side4 A9.out).mono ?_
 (case side1 => exact qc (Kd.C_below HR0_1.out HB.out))
 (case side2 => exact HC0_1.out)
 (case side3 => exact qc (Kd.R_reads' HO112.out).2.2)
 (case side4 => exact (Kd.R_reads' HO112.out).2.1)
 rintro e w32 ⟨v113, rfl, ho0, hb⟩
 refine ⟨_, rfl, ?_⟩
 have HO114 := q0 (Kd.R_lower (Kd.R_newB (Kd.R_new' (Kd.R_new' ho0 (Kd.R_lt (qr HO_3.out))) (Kd.R_lt (qr HO112.out))) (g := gb110) (o := .cells #[.int .i64 ((rd_TTie l0_1 x10_1).f0), .int .i64 ((rd_TTie l0_1 x10_1).f1)] 32 (0, 0)) (qk BK110.out)) (below_size (qb HB.out)))
 replace HO_3 := q0 (Kd.R_elder' (qr HO_3.out) (Kd.R_base ho0) hb)
 replace HO112 := q0 (Kd.R_elder' (qr HO112.out) (Kd.R_base ho0) hb)
 replace BK103 := kd BK103 hb
 replace BK110 := kd BK110 hb
 replace HB := bp HB hb
 (try clear hb)
 (try clear hb2)
 (try clear hk)
 (try clear hi)
 (try clear ho0)
 obtain ⟨Ao33, co33, eo33⟩ := Kd.R_slice HO114.out
 (first | subst eo33 | (injection eo33 with f1_ f2_ f3_; have f4_ := f1_.symm; have f5_ := f3_.symm; clear f1_ f2_ f3_; subst f4_; subst f5_))
 refine hK.out _ _ ⟨bca BK103, bcb BK103, bca BK110, bcb BK110⟩ (fun hHeld => ?_)
 clear hK K
 refine nu 17 ?_
 refine one_ (i := 8) (N := some 22) (ba 10 511) rfl rfl (one_of HT_.out (by kernel_rfl)) (by decide) (fun K hK => ?_)
 refine goes_ Try.func22 (by kernel_rfl) rfl #[.agg #[.int .i64 t101, .slice Ao33 t107.length co33], .int .i64 ((rd_TTie l0_1 x10_1).f0), .int .i64 ((rd_TTie l0_1 x10_1).f1)] (by rfl) rfl rfl qm ?_
 with_reducible refine (impl_Net_joined.calls k1 t101 _ _ t107 ((rd_TTie l0_1 x10_1).f0) ((rd_TTie l0_1 x10_1).f1) false _ ?side1 ?side2 A10.out).mono ?_
 (case side1 => exact qc (Kd.R_reads' HO114.out).2.2)
 (case side2 => exact (Kd.R_reads' HO114.out).2.1)
 rintro e w34 ⟨rfl, hb⟩
 refine ⟨_, rfl, ?_⟩
 replace HO_3 := q0 (Kd.R_below (qr HO_3.out) hb)
 replace HO112 := q0 (Kd.R_below (qr HO112.out) hb)
 replace HO114 := q0 (Kd.R_below (qr HO114.out) hb)
 replace BK103 := kd BK103 hb
 replace BK110 := kd BK110 hb
 replace HB := bp HB hb
 (try clear hb)
 (try clear hb2)
 (try clear hk)
 (try clear hi)
 refine hK.out _ _ ⟨bca BK103, bcb BK103, bca BK110, bcb BK110⟩ (fun hHeld => ?_)
 clear hK K
 refine nu 22 ?_
 refine pU 9 23 10 1023 HT_ ?_
 refine done_ (done_of HT_.out (by kernel_rfl)) ?_
 obtain ⟨hcz35_0, hcz35_1, hfz35_0, hfz35_1⟩ := b2 BK110
 try go_wp2_with (first | ((with_reducible refine gate_builtin (b := .append) (xs := #[.tmp 24, .tmp 26]) rfl ?_); at_builtin; refine Kd.R_append kTie (w0 := w) w.heap.size rfl (.tmp 24) (.tmp 26) 23 32 (.agg #[(.int .i64 0), (.int .i64 0)]) 16 rfl Try.underlying23 info32 rfl (by decide) (by omega) u3 x3_1 (⟨(rd_TTie l0_1 x10_1).f0, (rd_TTie l0_1 x10_1).f1⟩ : STie) [.int .i64 ((rd_TTie l0_1 x10_1).f0), .int .i64 ((rd_TTie l0_1 x10_1).f1)] (fun k_ => some k_ ≠ (.slice Ao31 y106.length co31 : Value).ownBlock ∧ some k_ ≠ (.slice Ao33 t107.length co33 : Value).ownBlock ∧ k_ ≠ gb110) (fun _ => False) rfl rfl ?aP (fun _ hk => hk.elim) ?aF ?aO ?aB ?aS ?aL ?_; (case aP => exact kTie_mkM _ _ _ (⟨(rd_TTie l0_1 x10_1).f0, (rd_TTie l0_1 x10_1).f1⟩ : STie)); (case aB => exact (qb HB.out)); (case aF => exact (fun k_ hk => ⟨Kd.fresh' (Kd.R_lt (qr HO112.out)) k_ hk, Kd.fresh' (Kd.R_lt (qr HO114.out)) k_ hk, Kd.freshB (g := gb110) (o := .cells #[.int .i64 ((rd_TTie l0_1 x10_1).f0), .int .i64 ((rd_TTie l0_1 x10_1).f1)] 32 (0, 0)) (qk BK110.out) k_ hk⟩)); (case aO => exact (by (with_reducible repeat (first | apply Kd.R_alloc | apply Kd.R_drewN | apply Kd.R_drew)); exact Kd.R_mono HO_3.out (fun _ hk => ⟨hk.1.2, ⟨hk.2, hk.1.1⟩⟩))); (case aS => exact (below_size (qb HB.out))); (case aL => have := LMc23.out; omega); intro v116 w36 ho hb hg hat; rw [← Ny115.out] at ho; replace BK103 := q0 (blk_grown (g := gb103) (o := .cells #[.int .i64 a0_0, .slice (some ad109) l0_1.length c0_1] 25 (0, 0)) (qk BK103.out) hg (Kd.R_ne HO_3.out BK103.out (by decide))); replace BK110 := q0 (blk_grown (g := gb110) (o := .cells #[.int .i64 ((rd_TTie l0_1 x10_1).f0), .int .i64 ((rd_TTie l0_1 x10_1).f1)] 32 (0, 0)) (qk BK110.out) hg (Kd.R_away HO_3.out (fun _ hk => hk.1.1))); replace HO112 := q0 (Kd.R_after (ok := (fun k_ => some k_ ≠ (.slice Ao33 t107.length co33 : Value).ownBlock ∧ k_ ≠ gb110)) (by (with_reducible repeat (first | apply Kd.R_alloc | apply Kd.R_drewN | apply Kd.R_drew)); exact Kd.R_mono HO112.out (fun _ hk => ⟨⟨hk.2, hk.1.2⟩, hk.1.1.2⟩)) hg hat); replace HO114 := q0 (Kd.R_after (ok := (fun k_ => some k_ ≠ (.slice Ao31 y106.length co31 : Value).ownBlock ∧ k_ ≠ gb110)) (by (with_reducible repeat (first | apply Kd.R_alloc | apply Kd.R_drewN | apply Kd.R_drew)); exact Kd.R_mono HO114.out (fun _ hk => ⟨⟨hk.1.2, hk.2⟩, hk.1.1.2⟩)) hg hat); replace HB := q0 (hb); have HO117 := q0 (ho); clear HO_3; clear ho hb hg hat))
 go_roundg k1
 case measure => have := HK1.out; omega
 case rel => exact ⟨(y115), (wrap64 (x10_1 + 1)), qs, H', ⟨by have := HK1.out; omega⟩, ⟨by (with_reducible repeat (first | apply Kd.R_alloc | apply Kd.R_drewN | apply Kd.R_drew)); exact Kd.R_mono HO117.out (fun _ hk => trivial)⟩, ⟨qk BK103.out⟩, ⟨qb HB.out⟩⟩

set_option maxHeartbeats 8000000 in
set_option maxRecDepth 100000 in
theorem impl_BridgeList.calls (k : Nat) (a0_0 : Int) (A0_1 : Option Addr) (c0_1 : Nat) (l0_1 : List (STie)) (r : List (STie)) (w : World) (hr0_1 : Kd.C kTie w A0_1 l0_1.length l0_1) (hc0_1 : l0_1.length ≤ c0_1) (h : impl_BridgeList.f k a0_0 l0_1 = some r) :
    Calls Try.prog 5 #[.agg #[.int .i64 a0_0, .slice A0_1 l0_1.length c0_1]] w fun e w' => ∃ v0_ : Value, e = .returned (v0_) ∧ Kd.R kTie 32 w' w.heap.size (fun _ => True) v0_ r ∧ Below w.heap.size w w' := by
 have hu25 := Try.underlying25
 have HR0_1 := q0 hr0_1
 have HC0_1 := q0 hc0_1
 clear hr0_1 hc0_1
 have HB := q0 (Below.refl w.heap.size w)
 have H : ((impl_NetOk.f k a0_0 l0_1).bind fun t100 => (if t100 = true then ((impl_Net_bridges.f k a0_0 l0_1).bind fun t101 => (some t101)) else (some (([] : List (STie)))))) = some r := h
 clear h
 obtain ⟨t100, A2, H⟩ := ob H
 by_cases c3 : t100 = true
 · subst c3
   rw [if_pos rfl] at H
   obtain ⟨t101, A4, H⟩ := ob H
   obtain rfl := Option.some.inj H
   go_enter Try.func5, Try.ntmps5
   go_wp2_with (first | ((with_reducible refine gd 1 ?_); refine be 1 #[.int .i64 a0_0, .slice A0_1 l0_1.length c0_1] 25 ?_; intro gb102 hg w5 hbox hb; have BK102 := q0 (hbox); have GW102 := gw HB hg; have GE102 := gw HB hg; replace HB := bp HB hb; clear hb hbox hg; obtain ⟨hcz6_0, hcz6_1, hfz6_0, hfz6_1⟩ := b2 BK102) | ((with_reducible refine gf 11 ?_); refine gl 4 Try.func11 #[.agg #[.int .i64 a0_0, .slice A0_1 l0_1.length c0_1]] ?_; (with_reducible refine (impl_NetOk.calls k a0_0 _ _ l0_1 true _ ?side1 ?side2 A2.out).mono ?_); (case side1 => exact qc (Kd.C_below HR0_1.out HB.out)); (case side2 => exact HC0_1.out); rintro e w7 ⟨rfl, hb⟩; refine ⟨_, rfl, ?_⟩; replace BK102 := kd BK102 hb; replace HB := bp HB hb; (try clear hb); (try clear hb2); (try clear hk); (try clear hi); obtain ⟨hcz8_0, hcz8_1, hfz8_0, hfz8_1⟩ := b2 BK102) | ((with_reducible refine gf 12 ?_); refine gl 8 Try.func12 #[.agg #[.int .i64 a0_0, .slice A0_1 l0_1.length c0_1]] ?_; (with_reducible refine (impl_Net_bridges.calls k a0_0 _ _ l0_1 t101 _ ?side1 ?side2 A4.out).mono ?_); (case side1 => exact qc (Kd.C_below HR0_1.out HB.out)); (case side2 => exact HC0_1.out); rintro e w9 ⟨v103, rfl, ho0, hb⟩; refine ⟨_, rfl, ?_⟩; have HO104 := q0 (Kd.R_lower ho0 (below_size (qb HB.out))); replace BK102 := kd BK102 hb; replace HB := bp HB hb; (try clear hb); (try clear hb2); (try clear hk); (try clear hi); (try clear ho0)))
   go_ret
   exact ⟨_, qe, qr HO104.out, qb HB.out⟩
 replace c3 := Bool.eq_false_iff.mpr c3
 subst c3
 rw [if_neg nf] at H
 obtain ⟨y105, hy105⟩ : ∃ y_ : List (STie), y_ = (([] : List (STie))) := ⟨_, rfl⟩
 replace H : (some y105) = some r := qy H hy105
 have Ny105 := q0 hy105
 clear hy105
 obtain rfl := Option.some.inj H
 go_enter Try.func5, Try.ntmps5
 go_wp2_with (first | ((with_reducible refine gd 1 ?_); refine be 1 #[.int .i64 a0_0, .slice A0_1 l0_1.length c0_1] 25 ?_; intro gb102 hg w10 hbox hb; have BK102 := q0 (hbox); have GW102 := gw HB hg; have GE102 := gw HB hg; replace HB := bp HB hb; clear hb hbox hg; obtain ⟨hcz11_0, hcz11_1, hfz11_0, hfz11_1⟩ := b2 BK102) | ((with_reducible refine gf 11 ?_); refine gl 4 Try.func11 #[.agg #[.int .i64 a0_0, .slice A0_1 l0_1.length c0_1]] ?_; (with_reducible refine (impl_NetOk.calls k a0_0 _ _ l0_1 false _ ?side1 ?side2 A2.out).mono ?_); (case side1 => exact qc (Kd.C_below HR0_1.out HB.out)); (case side2 => exact HC0_1.out); rintro e w12 ⟨rfl, hb⟩; refine ⟨_, rfl, ?_⟩; replace BK102 := kd BK102 hb; replace HB := bp HB hb; (try clear hb); (try clear hb2); (try clear hk); (try clear hi)) | ((with_reducible refine gd 6 ?_); refine Kd.R_lit kTie _ 32 ?hg (N := 6) ?hd (xs := ([] : List (STie))) (inner := []) (ok := fun _ => True) (okp := fun _ => True) ?hr ?hp (fun _ hk => hk) trivial (Below.refl _ _) (Nat.le_refl _) (by simp) ?_; (case hd => rfl); (case hg => rfl); (case hr => first | (go_simp; done) | (go_simp; rfl)); (case hp => exact (Reps.none _ _)); intro v106 w13 ho14 hb hg_ hnew_; clear hg_ hnew_; (first | rw [← Ny105.out] at ho14 | (simp only [Int.reduceToNat] at ho14; rw [← Ny105.out] at ho14)); have HO107 := q0 (Kd.R_lower ho14 (below_size (qb HB.out))); replace BK102 := kd BK102 hb; replace HB := bp HB hb; clear hb ho14))
 go_ret
 exact ⟨_, qe, qr HO107.out, qb HB.out⟩

attribute [local go_sem high] eqATie
set_option maxHeartbeats 8000000 in
set_option maxRecDepth 100000 in
theorem laws_loTies.calls (k : Nat) (A0 : Option Addr) (c0 : Nat) (l0 : List (STie)) (A1 : Option Addr) (c1 : Nat) (l1 : List (STie)) (r : Bool) (w : World) (hr0 : Kd.C kTie w A0 l0.length l0) (hc0 : l0.length ≤ c0) (hr1 : Kd.C kTie w A1 l1.length l1) (hc1 : l1.length ≤ c1) (h : laws_loTies.f k l0 l1 = some r) :
    Calls Try.prog 6 #[.slice A0 l0.length c0, .slice A1 l1.length c1] w fun e w' => e = .returned (.bool r) ∧ Drawn0 w w' := by
 have hu32 := Try.underlying32
 have HR0 := q0 hr0
 have HC0 := q0 hc0
 clear hr0 hc0
 have HR1 := q0 hr1
 have HC1 := q0 hc1
 clear hr1 hc1
 have H : (if (l0.length : Int) = (l1.length : Int) then (laws_loTies.l0 k l0 l1 0) else (some false)) = some r := h
 clear h
 by_cases c3 : (l0.length : Int) = (l1.length : Int)
 rotate_left
 · rw [if_neg c3] at H
   have c3b0 : ((l0.length : Int) == (l1.length : Int)) = false := beq_eq_false_iff_ne.mpr c3
   have c3b1 : ((l0.length : Int) != (l1.length : Int)) = true := bne_iff_ne.mpr c3
   have c3b2 : (l0.length == l1.length) = false := by first | simpa using c3 | (simp at c3 ⊢; omega)
   obtain rfl := Option.some.inj H
   go_enter Try.func6, Try.ntmps6
   go_wp2
   repeat (go_quiet (fail); try go_wp2)
   go_ret
   exact ⟨by first | rfl | (simp; done) | (simp [*]; done), by repeat (first | exact Drawn0.refl _ | apply Drawn0.step)⟩
 rw [if_pos c3] at H
 have c3b0 : ((l0.length : Int) == (l1.length : Int)) = true := beq_iff_eq.mpr c3
 have c3b1 : ((l0.length : Int) != (l1.length : Int)) = false := bne_eq_false_iff_eq.mpr c3
 have c3b2 : (l0.length == l1.length) = true := by first | simpa using c3 | (simp at c3 ⊢; omega)
 clear c3
 have H' := q0 H
 clear H
 go_enter Try.func6, Try.ntmps6
 go_wp2
 repeat (go_quiet (fail); try go_wp2)
 go_loopg [5] k (fun kq v5 w' => ∃ (x5_1 : Int), v5 = .int .i64 x5_1 ∧ Aside0 (laws_loTies.l0 kq l0 l1 x5_1 = some r) ∧ Aside0 (kq ≤ k) ∧ Drawn0 w w')
 case atStart => exact ⟨(0), qs, H', ⟨Nat.le_refl _⟩, by repeat (first | exact Drawn0.refl _ | apply Drawn0.step)⟩
 clear H'
 try clear c1
 try clear p2
 try clear c3
 try clear c3b0
 try clear c3b1
 try clear c3b2
 obtain ⟨x5_1, rfl, HA, HK1, ⟨m1, rfl⟩⟩ := hrel
 rcases gk with _ | k1
 · exact absurd HA.out (by simp [laws_loTies.l0])
 have H := HA.out
 clear HA
 simp only [laws_loTies.l0] at H
 by_cases c4 : x5_1 < (l0.length : Int)
 rotate_left
 · rw [if_neg c4] at H
   have c4b0 := decide_eq_false c4
   clear c4
   obtain rfl := Option.some.inj H
   go_wp2
   repeat (go_quiet (fail); try go_wp2)
   go_ret
   exact ⟨by first | rfl | (simp; done) | (simp [*]; done), by repeat (first | exact Drawn0.refl _ | apply Drawn0.step)⟩
 rw [if_pos c4] at H
 have c4b0 := decide_eq_true c4
 clear c4
 obtain ⟨c5, H⟩ : (0 ≤ x5_1) ∧ _ := og H
 have c5b0 := decide_eq_true c5
 clear c5
 obtain ⟨c6, H⟩ : (x5_1 < (l1.length : Int)) ∧ _ := og H
 have c6b0 := decide_eq_true c6
 clear c6
 by_cases c7 : (!(((rd_TTie l0 x5_1).f0) == ((rd_TTie l1 x5_1).f0)) || (!(((rd_TTie l0 x5_1).f1) == ((rd_TTie l1 x5_1).f1)))) = true
 · rw [if_pos c7] at H
   have c7b0 : (!(((rd_TTie l0 x5_1).f0) == ((rd_TTie l1 x5_1).f0)) || (!(((rd_TTie l0 x5_1).f1) == ((rd_TTie l1 x5_1).f1)))) = true := c7
   clear c7
   obtain rfl := Option.some.inj H
   have p100 : 0 ≤ (x5_1 : Int) := of_decide_eq_true qa
   have q100 : x5_1 < (l0.length : Int) := of_decide_eq_true qa
   obtain ⟨ad100, e100, hx100_0, hx100_1⟩ := at_TTie HR0.out x5_1 p100 q100
   cases e100
   replace p100 := eq_true p100
   replace q100 := eq_true q100
   have p101 : 0 ≤ (x5_1 : Int) := of_decide_eq_true qa
   have q101 : x5_1 < (l1.length : Int) := of_decide_eq_true qa
   obtain ⟨ad101, e101, hx101_0, hx101_1⟩ := at_TTie HR1.out x5_1 p101 q101
   cases e101
   replace p101 := eq_true p101
   replace q101 := eq_true q101
   go_wp2
   repeat (go_quiet (fail); try go_wp2)
   go_ret
   exact ⟨by first | rfl | (simp; done) | (simp [*]; done), by repeat (first | exact Drawn0.refl _ | apply Drawn0.step)⟩
 rw [if_neg c7] at H
 have c7b0 : (!(((rd_TTie l0 x5_1).f0) == ((rd_TTie l1 x5_1).f0)) || (!(((rd_TTie l0 x5_1).f1) == ((rd_TTie l1 x5_1).f1)))) = false := by simpa using c7
 clear c7
 have H' := q0 H
 clear H
 have p100 : 0 ≤ (x5_1 : Int) := of_decide_eq_true qa
 have q100 : x5_1 < (l0.length : Int) := of_decide_eq_true qa
 obtain ⟨ad100, e100, hx100_0, hx100_1⟩ := at_TTie HR0.out x5_1 p100 q100
 cases e100
 replace p100 := eq_true p100
 replace q100 := eq_true q100
 have p101 : 0 ≤ (x5_1 : Int) := of_decide_eq_true qa
 have q101 : x5_1 < (l1.length : Int) := of_decide_eq_true qa
 obtain ⟨ad101, e101, hx101_0, hx101_1⟩ := at_TTie HR1.out x5_1 p101 q101
 cases e101
 replace p101 := eq_true p101
 replace q101 := eq_true q101
 go_wp2
 repeat (go_quiet (fail); try go_wp2)
 go_roundg k1
 case measure => have := HK1.out; omega
 case rel => exact ⟨(wrap64 (x5_1 + 1)), qs, H', ⟨by have := HK1.out; omega⟩, by repeat (first | exact Drawn0.refl _ | apply Drawn0.step)⟩

end Go.Proofs.Ytleibnekeioamaa.P
