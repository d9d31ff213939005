import Derived.Test.YtloonheabfdgbaaDoorP0
import Derived.Test.YtloonheabfdgbaaDoorP1
import Derived.Test.YtloonheabfdgbaaDoorP3
namespace Go.Proofs.YtloonheabfdgbaaDoor.P
open Go.RowKit Go.Proofs.YtloonheabfdgbaaDoorW.PrintWords Go.Proofs.YtloonheabfdgbaaDoorW.PrintLast Go.Proofs.YtloonheabfdgbaaDoorW.PrintMore
attribute [local go_sem] max2_int min2_int max_two min_two max_three min_three max_four min_four
set_option linter.unusedVariables false
set_option linter.unusedSimpArgs false
attribute [local go_sem high] eqATie
def spec_l1Copy.T1 : Bool × List (List Nat × List Nat) := (true, [([], []), ([0], [0]), ([], []), ([], []), ([3], [3]), ([2, 4], [2, 4]), ([1, 5], [1, 5]), ([6, 5, 0, 1, 2, 3, 4, 5, 6], [6])])
def spec_l1Copy.B1 : List Nat := [0, 1, 0, 0, 8, 28, 63, 127]
theorem spec_l1Copy.tab1 : rtab .any (opsOf Tryd.f60 1) = spec_l1Copy.T1 := by kernel_rfl
theorem spec_l1Copy.bits1 : waitsOk spec_l1Copy.T1.2 spec_l1Copy.B1 = true := by kernel_rfl
set_option maxHeartbeats 8000000 in
set_option maxRecDepth 100000 in
theorem spec_l1Copy.calls (a0_0 : Int) (A0_1 : Option Addr) (c0_1 : Nat) (l0_1 : List (STie)) (r1 : Int) (r2 : List (STie)) (w : World) (hr0_1 : Kd.C kTie w A0_1 l0_1.length l0_1) (hc0_1 : l0_1.length ≤ c0_1) (h : spec_l1Copy.f a0_0 l0_1 = some (r1, r2)) :
    Calls Tryd.prog 60 #[.agg #[.int .i64 a0_0, .slice A0_1 l0_1.length c0_1]] w fun e w' => ∃ v1_ : Value, e = .returned (.agg #[.int .i64 r1, v1_]) ∧ Kd.R kTie 47 w' w.heap.size (fun _ => True) v1_ r2 ∧ Below w.heap.size w w' := by
 have hu24 := Tryd.underlying24
 have HR0_1 := q0 hr0_1
 have HC0_1 := q0 hc0_1
 clear hr0_1 hc0_1
 have HB := q0 (Below.refl w.heap.size w)
 have H : ((some (([] : List (STie)) : List (STie))).bind fun y100 => (if y100.length + l0_1.length < 8796093022208 then (some (a0_0, (y100 ++ l0_1))) else (none))) = some (r1, r2) := h
 clear h
 obtain ⟨y100, hy100⟩ : ∃ y_ : List (STie), y_ = (([] : List (STie))) := ⟨_, rfl⟩
 replace H : (if y100.length + l0_1.length < 8796093022208 then (some (a0_0, (y100 ++ l0_1))) else (none)) = some (r1, r2) := qy H hy100
 have Ny100 := q0 hy100
 clear hy100
 obtain ⟨c2, H⟩ : (y100.length + l0_1.length < 8796093022208) ∧ _ := og H
 have LMc2 := q0 c2
 clear c2
 obtain ⟨y101, hy101⟩ : ∃ y_ : List (STie), y_ = (y100 ++ l0_1) := ⟨_, rfl⟩
 replace H : (some (a0_0, y101)) = some (r1, r2) := qy H hy101
 have Ny101 := q0 hy101
 clear hy101
 simp only [Option.some.injEq, Prod.mk.injEq] at H
 obtain ⟨rfl, rfl⟩ := H
 go_enter Tryd.func60, Tryd.ntmps60
 try go_wp2_with (first | ((with_reducible refine gd 1 ?_); refine be 1 #[.int .i64 a0_0, .slice A0_1 l0_1.length c0_1] 24 ?_; intro gb102 hg w3 hbox hb; have BK102 := q0 (hbox); have GW102 := gw HB hg; have GE102 := gw HB hg; replace HB := bp HB hb; clear hb hbox hg) | ((with_reducible refine gd 2 ?_); refine be 2 #[.int .i64 0, .slice none 0 0] 24 ?_; intro gb103 hg w4 hbox hb; have BK103 := q0 (hbox); have GW103 := gw HB hg; have GE103 := gw HB hg; replace HB := bp HB hb; have NB102_103 := nl BK102 hg; have NB103_102 := ng BK102 hg; replace BK102 := kd BK102 hb; clear hb hbox hg))
 replace BK102 := q0 (blk_drew BK102.out)
 replace BK103 := q0 (blk_drew BK103.out)
 replace HB := q0 (below_drew1 HB.out)
 refine start_ (n := 8) (S := fun w' => w'.cell? ⟨gb102, 0, none⟩ = some (.int .i64 a0_0) ∧ w'.cell? ⟨gb102, 1, none⟩ = some (.slice A0_1 l0_1.length c0_1)) (ds := []) (ba 8 0) (by kernel_rfl) rfl (by kernel_rfl) ⟨bca BK102, bcb BK102⟩ (fun hHeld => ?_); refine with_tabW spec_l1Copy.tab1 spec_l1Copy.bits1 (fun HT_ HW_ => ?_)
 generalize w4.drew = w5 at BK102 BK103 HB hHeld ⊢
 refine pU 0 3 8 1 HT_ ?_
 refine pU 3 6 8 9 HT_ ?_
 refine tU 1 4 8 11 HT_ HW_ hHeld ?_
 refine tU 4 7 8 27 HT_ HW_ hHeld ?_
 refine one_ (i := 2) (N := some 5) (ba 8 31) rfl rfl (one_of HT_.out (by kernel_rfl)) (by decide) (fun K hK => ?_)
 refine Kd.R_lit_step kTie _ 47 ?hg (N := 5) ?hd (xs := ([] : List (STie))) (inner := []) (ok := fun _ => True) (okp := fun _ => True) ?hr ?hp (fun _ hk => hk) trivial (Below.refl _ _) (Nat.le_refl _) (by simp) ?_; (case hd => rfl); (case hg => rfl); (case hr => first | (go_simp; done) | (go_simp; rfl)); (case hp => exact (Reps.none _ _))
 intro v104 w6 ho7 hb hg_ hnew_
 clear hg_ hnew_
 (first | rw [← Ny100.out] at ho7 | (simp only [Int.reduceToNat] at ho7; rw [← Ny100.out] at ho7))
 have HO105 := q0 (Kd.R_lower ho7 (below_size (qb HB.out)))
 replace BK102 := kd BK102 hb
 replace BK103 := kd BK103 hb
 replace HB := bp HB hb
 clear hb ho7
 refine hK.out _ _ ⟨bca BK102, bcb BK102⟩ (fun hHeld => ?_)
 clear hK K
 refine nu 5 ?_
 refine one_ (i := 5) (N := some 8) (ba 8 63) rfl rfl (one_of HT_.out (by kernel_rfl)) (by decide) (fun K hK => ?_)
 refine Kd.R_append_rows_step kTie (w0 := w) w.heap.size (by rfl) (.tmp 5) (.tmp 7) 22 47 (.agg #[(.int .i64 0), (.int .i64 0)]) 16 rfl Tryd.underlying22 info47 rfl (by decide) (by omega) v104 y100 l0_1 _ _ _ (fun _ => True) (fun _ => False) rfl rfl ?aO ?aR (fun _ _ h => h) (fun _ h => h.elim) ?aF ?aB ?aS ?aL ?_
 (case aR => repeat (first | exact (Kd.C_below HR0_1.out HB.out) | (with_reducible refine Kd.C_alloc ?_ _) | (with_reducible refine Kd.C_drewN ?_ _) | (with_reducible refine Kd.C_drew ?_)))
 (case aB => exact (qb HB.out))
 (case aF => exact (fun _ _ => trivial))
 (case aO => exact (qr HO105.out))
 (case aS => exact (below_size (qb HB.out)))
 (case aL => have := LMc2.out; omega)
 intro v106 w8 ho hb hg hat
 rw [← Ny101.out] at ho
 replace BK102 := q0 (blk_grown (g := gb102) (o := .cells #[.int .i64 a0_0, .slice A0_1 l0_1.length c0_1] 24 (0, 0)) (qk BK102.out) hg (Kd.R_ne HO105.out BK102.out (by decide)))
 replace BK103 := q0 (blk_grown (g := gb103) (o := .cells #[.int .i64 0, .slice none 0 0] 24 (0, 0)) (qk BK103.out) hg (Kd.R_ne HO105.out BK103.out (by decide)))
 replace HB := q0 (hb)
 have HO107 := q0 (ho)
 clear HO105
 clear ho hb hg hat
 obtain ⟨Ao9, co9, eo9⟩ := Kd.R_slice HO107.out
 (first | subst eo9 | (injection eo9 with f1_ f2_ f3_; have f4_ := f1_.symm; have f5_ := f3_.symm; clear f1_ f2_ f3_; subst f4_; subst f5_))
 refine hK.out _ _ ⟨bca BK102, bcb BK102⟩ (fun hHeld => ?_)
 clear hK K
 refine nu 8 ?_
 refine pU 6 9 8 127 HT_ ?_
 refine one_ (i := 7) (N := none) (ba 8 255) rfl rfl (one_of HT_.out (by kernel_rfl)) (by decide) (fun K hK => ?_)
 have hs10 : w8.cell? ⟨gb103, 0, none⟩ = some (.int .i64 0) := (blk_cell BK103.out 0).trans rfl
 have hfs10 := blk_frozen BK103.out 0
 have hns10_0 := NB102_103.out
 have hms10_0 := NB103_102.out
 have hs11 : w8.cell? ⟨gb103, 1, none⟩ = some (.slice none 0 0) := (blk_cell BK103.out 1).trans rfl
 have hfs11 := blk_frozen BK103.out 1
 have hns11_0 := NB102_103.out
 have hms11_0 := NB103_102.out
 refine skip_ (w1 := ?_) (by rfl) rfl ?_ ?_
 rotate_left
 · go_simp
   rfl
 refine hK.out _ _ ⟨((cell_far (p := ⟨gb103, _, none⟩) NB102_103.out _).trans (((cell_far (p := ⟨gb103, _, none⟩) NB102_103.out _).trans (hHeld.1)))), ((cell_far (p := ⟨gb103, _, none⟩) NB102_103.out _).trans (((cell_far (p := ⟨gb103, _, none⟩) NB102_103.out _).trans (hHeld.2))))⟩ (fun hHeld => ?_)
 clear hK K
 refine done_ (done_of HT_.out (by kernel_rfl)) ?_
 try go_wp2
 refine bodyPost_ret (results_cell_row rfl _ _ gb103 24 #[.int .i64 a0_0, .slice Ao9 y101.length co9] (0, 0) _ rfl (by (with_reducible repeat (first | refine blk_drewN ?_ _ | refine blk_drew ?_ | refine blk_alloc ?_ _)); refine blk_put (cs := #[.int .i64 a0_0, .slice none 0 0]) ?_ 1 _ rfl; (with_reducible repeat (first | refine blk_drewN ?_ _ | refine blk_drew ?_ | refine blk_alloc ?_ _)); refine blk_put (cs := #[.int .i64 0, .slice none 0 0]) ?_ 0 _ rfl; (with_reducible repeat (first | refine blk_drewN ?_ _ | refine blk_drew ?_ | refine blk_alloc ?_ _)); exact BK103.out) Tryd.underlying24 rfl (by kernel_rfl)) rfl ?_
 exact ⟨_, qe, by (with_reducible repeat (first | apply Kd.R_alloc | apply Kd.R_drewN | apply Kd.R_drew)); exact rf2 HO107.out BK103.out (fun _ hk => trivial), qb HB.out⟩

def spec_l71Spoil.T7 : Bool × List (List Nat × List Nat) := (true, [([], []), ([0], [0]), ([], []), ([2], [2]), ([], []), ([4, 3], [4]), ([3, 5], [3, 5]), ([6], [6]), ([1, 7, 5], [1, 7]), ([0, 1, 2, 3, 4, 5, 6, 7, 8], []), ([9, 8, 8, 0, 1, 2, 3, 4, 5, 6, 7, 8], [8, 9])])
def spec_l71Spoil.B7 : List Nat := [0, 1, 0, 4, 0, 28, 60, 124, 255, 511, 1023]
theorem spec_l71Spoil.tab7 : rtab .any (opsOf Tryd.f47 7) = spec_l71Spoil.T7 := by kernel_rfl
theorem spec_l71Spoil.bits7 : waitsOk spec_l71Spoil.T7.2 spec_l71Spoil.B7 = true := by kernel_rfl
def spec_l71Spoil.T13 : Bool × List (List Nat × List Nat) := (true, [([], []), ([0], [0]), ([], []), ([], []), ([3], [3]), ([], []), ([4, 5], [4, 5]), ([6], [6]), ([7], [7]), ([], []), ([9], [9]), ([], []), ([10, 11], [10, 11]), ([12], [12]), ([13], [13]), ([8, 14], [8, 14]), ([1, 2, 0, 1, 2, 3, 4, 5, 6, 7, 8, 9, 10, 11, 12, 13, 14, 15], [1, 2]), ([16, 15, 0, 1, 2, 3, 4, 5, 6, 7, 8, 9, 10, 11, 12, 13, 14, 15], [15, 16])])
def spec_l71Spoil.B13 : List Nat := [0, 1, 0, 0, 8, 0, 56, 120, 248, 0, 512, 0, 3584, 7680, 15872, 32760, 65535, 131071]
theorem spec_l71Spoil.tab13 : rtab .any (opsOf Tryd.f47 13) = spec_l71Spoil.T13 := by kernel_rfl
theorem spec_l71Spoil.bits13 : waitsOk spec_l71Spoil.T13.2 spec_l71Spoil.B13 = true := by kernel_rfl
def spec_l71Spoil.T16 : Bool × List (List Nat × List Nat) := (true, [([], []), ([0], [0]), ([], []), ([2], [2]), ([3], [3]), ([4], [4]), ([5], [5]), ([1, 6], [1, 6]), ([0, 1, 2, 3, 4, 5, 6, 7], []), ([8, 7, 7, 0, 1, 2, 3, 4, 5, 6, 7], [7, 8])])
def spec_l71Spoil.B16 : List Nat := [0, 1, 0, 4, 12, 28, 60, 127, 255, 511]
theorem spec_l71Spoil.tab16 : rtab .any (opsOf Tryd.f47 16) = spec_l71Spoil.T16 := by kernel_rfl
theorem spec_l71Spoil.bits16 : waitsOk spec_l71Spoil.T16.2 spec_l71Spoil.B16 = true := by kernel_rfl
set_option maxHeartbeats 8000000 in
set_option maxRecDepth 100000 in
theorem spec_l71Spoil.calls (k : Nat) (g : Nat) (s0_0 : List Int) (s0_1 : Int) (a1_0 : Int) (A1_1 : Option Addr) (c1_1 : Nat) (l1_1 : List (STie)) (r1 : Int) (r2 : List (STie)) (r3 : Int) (w0 w : World) (hI : IsSRd w0 w g s0_0 s0_1) (hB : Below w0.heap.size w0 w) (hr1_1 : ∀ W_, KeepBut w W_ g none → Kd.C kTie W_ A1_1 l1_1.length l1_1) (hc1_1 : l1_1.length ≤ c1_1) (h : spec_l71Spoil.f k s0_0 s0_1 a1_0 l1_1 = some (r1, r2, r3)) :
    Calls Tryd.prog 47 #[.pointer (some ⟨g, 0, none⟩), .agg #[.int .i64 a1_0, .slice A1_1 l1_1.length c1_1]] w fun e w' => ∃ v1_ : Value, e = .returned (.agg #[.int .i64 r1, v1_]) ∧ Kd.R kTie 47 w' w.heap.size (fun _ => True) v1_ r2 ∧ IsSRd w0 w' g s0_0 r3 ∧ Below w0.heap.size w0 w' ∧ KeepBut w w' g none := by
 have hu24 := Tryd.underlying24
 have hu47 := Tryd.underlying47
 have HR1_1 := q0 hr1_1
 have HC1_1 := q0 hc1_1
 clear hr1_1 hc1_1
 have HI0 := q0 hI
 have HK := q0 (KeepBut.refl w g none)
 have HL := q0 hB.size
 clear hI
 have HW0 := q0 hB.size
 have HB := q0 hB
 clear hB
 have H : ((spec_l1Copy.f a1_0 l1_1).bind fun bt100 => ((spec_l6Rd_pick.f k s0_0 s0_1 6).bind fun bt101 => (if bt101.1 = 0 then ((some (([(-1), 0, 1, 8, 9] : List Int) : List Int)).bind fun y102 => ((spec_l6Rd_pick.f k s0_0 bt101.2 5).bind fun bt103 => (if 0 ≤ bt103.1 then (if bt103.1 < (y102.length : Int) then (some (rd y102 bt103.1, bt100.2, bt103.2)) else (none)) else (none)))) else (if bt101.1 = 1 then ((spec_l6Rd_pick.f k s0_0 bt101.2 3).bind fun bt104 => ((spec_l6Rd_pick.f k s0_0 bt104.2 3).bind fun bt105 => (if bt100.2.length < 8796093022208 then (some (bt100.1, (bt100.2 ++ [(⟨bt104.1, bt105.1⟩ : STie)]), bt105.2)) else (none)))) else (if bt101.1 = 2 then (if bt100.2.length < 8796093022208 then (some (bt100.1, (bt100.2 ++ [(⟨wrap64 (bt100.1 - 1), bt100.1⟩ : STie)]), bt101.2)) else (none)) else (if bt101.1 = 3 then (if (bt100.2.length : Int) > 0 then ((spec_l6Rd_pick.f k s0_0 bt101.2 (bt100.2.length : Int)).bind fun bt106 => (if 0 ≤ bt106.1 then (if bt106.1 < (bt100.2.length : Int) then (some (bt100.1, (bt100.2.set (bt106.1 : Int).toNat (⟨(rd_TTie bt100.2 bt106.1).f1, (rd_TTie bt100.2 bt106.1).f0⟩ : STie)), bt106.2)) else (none)) else (none))) else (some (bt100.1, bt100.2, bt101.2))) else (if bt101.1 = 4 then (if (bt100.2.length : Int) > 1 then (if 0 < (bt100.2.length : Int) then (if bt100.2.length < 8796093022208 then (some (bt100.1, (bt100.2 ++ [(⟨(rd_TTie bt100.2 0).f0, (rd_TTie bt100.2 0).f1⟩ : STie)]), bt101.2)) else (none)) else (none)) else (some (bt100.1, bt100.2, bt101.2))) else ((some (([(⟨(-1), 0⟩ : STie)] : List (STie)) : List (STie))).bind fun y107 => (if y107.length + bt100.2.length < 8796093022208 then (some (bt100.1, (y107 ++ bt100.2), bt101.2)) else (none)))))))))) = some (r1, r2, r3) := h
 clear h
 obtain ⟨⟨t100, t108⟩, A3, H⟩ := ob H
 obtain ⟨⟨t101, t109⟩, A4, H⟩ := ob H
 by_cases c5 : t101 = 0
 · rw [if_pos c5] at H
   have c5b0 : (t101 == 0) = true := beq_iff_eq.mpr c5
   have c5b1 : (t101 != 0) = false := bne_eq_false_iff_eq.mpr c5
   clear c5
   obtain ⟨y102, hy102⟩ : ∃ y_ : List Int, y_ = (([(-1), 0, 1, 8, 9] : List Int)) := ⟨_, rfl⟩
   replace H : ((spec_l6Rd_pick.f k s0_0 t109 5).bind fun bt103 => (if 0 ≤ bt103.1 then (if bt103.1 < (y102.length : Int) then (some (rd y102 bt103.1, t108, bt103.2)) else (none)) else (none))) = some (r1, r2, r3) := qy H hy102
   have Ny102 := q0 hy102
   clear hy102
   obtain ⟨⟨t103, t110⟩, A6, H⟩ := ob H
   obtain ⟨c7, H⟩ : (0 ≤ t103) ∧ _ := og H
   have c7b0 := decide_eq_true c7
   clear c7
   obtain ⟨c8, H⟩ : (t103 < (y102.length : Int)) ∧ _ := og H
   have c8b0 := decide_eq_true c8
   clear c8
   simp only [Option.some.injEq, Prod.mk.injEq] at H
   obtain ⟨rfl, rfl, rfl⟩ := H
   go_enter Tryd.func47, Tryd.ntmps47
   go_wp2_with (first | ((with_reducible refine gd 3 ?_); refine be 3 #[.int .i64 a1_0, .slice A1_1 l1_1.length c1_1] 24 ?_; intro gb111 hg w9 hbox hb; replace HB := q0 (below_step (qj HB.out HI0.out) hb); have BK111 := q0 (hbox); have GW111 := q0 ((by rw [hg]; exact (keep_size (w := w) (g := g) (row := none) (qh HK.out)) : w.heap.size ≤ gb111)); have GE111 := q0 ((Nat.le_trans HW0.out (by rw [hg]; exact (keep_size (w := w) (g := g) (row := none) (qh HK.out)) : w.heap.size ≤ gb111) : w0.heap.size ≤ gb111)); replace HK := q0 (KeepBut.trans (qh HK.out) (KeepBut.of_below hb g none) (.inl rfl)); have NB0_111 := q0 ((by rw [hg]; exact Nat.ne_of_lt (IsSRd.lt (show IsSRd w0 _ g s0_0 s0_1 from qi HI0.out)) : g ≠ gb111)); have NB111_0 := q0 ((by rw [hg]; exact Nat.ne_of_gt (IsSRd.lt (show IsSRd w0 _ g s0_0 s0_1 from qi HI0.out)) : gb111 ≠ g)); replace HI0 := q0 (IsSRd.below (qi HI0.out) hb); clear hb hbox hg) | ((with_reducible refine gd 4 ?_); refine be 4 #[.int .i64 0, .slice none 0 0] 24 ?_; intro gb112 hg w10 hbox hb; replace HB := q0 (below_step (qj HB.out HI0.out) hb); have BK112 := q0 (hbox); have GW112 := q0 ((by rw [hg]; exact (keep_size (w := w) (g := g) (row := none) (qh HK.out)) : w.heap.size ≤ gb112)); have GE112 := q0 ((Nat.le_trans HW0.out (by rw [hg]; exact (keep_size (w := w) (g := g) (row := none) (qh HK.out)) : w.heap.size ≤ gb112) : w0.heap.size ≤ gb112)); replace HK := q0 (KeepBut.trans (qh HK.out) (KeepBut.of_below hb g none) (.inl rfl)); have NB111_112 := nl BK111 hg; have NB112_111 := ng BK111 hg; replace BK111 := kd BK111 hb; have NB0_112 := q0 ((by rw [hg]; exact Nat.ne_of_lt (IsSRd.lt (show IsSRd w0 _ g s0_0 s0_1 from qi HI0.out)) : g ≠ gb112)); have NB112_0 := q0 ((by rw [hg]; exact Nat.ne_of_gt (IsSRd.lt (show IsSRd w0 _ g s0_0 s0_1 from qi HI0.out)) : gb112 ≠ g)); replace HI0 := q0 (IsSRd.below (qi HI0.out) hb); clear hb hbox hg; have hnb11 := NB111_112.out; have hnc11 := NB112_111.out; have hnb12 := NB111_0.out; have hnc12 := NB0_111.out; obtain ⟨hcz13_0, hcz13_1, hfz13_0, hfz13_1⟩ := b2 BK111) | ((with_reducible refine gf 60 ?_); refine gl 7 Tryd.func60 #[.agg #[.int .i64 a1_0, .slice A1_1 l1_1.length c1_1]] ?_; (with_reducible refine (spec_l1Copy.calls a1_0 _ _ l1_1 t100 t108 _ ?side1 ?side2 A3.out).mono ?_); (case side1 => exact Kd.C_foot_now HR1_1.out (qh HK.out)); (case side2 => exact HC1_1.out); rintro e w14 ⟨v113, rfl, ho0, hb⟩; refine ⟨_, rfl, ?_⟩; have HO114 := q0 (Kd.R_lower ho0 (keep_size (w := w) (g := g) (row := none) (qh HK.out))); replace BK111 := kd BK111 hb; replace BK112 := kd BK112 hb; replace HK := q0 (KeepBut.trans (qh HK.out) (KeepBut.of_below hb g none) (.inl rfl)); replace HB := q0 (below_step (qj HB.out HI0.out) hb); replace HI0 := q0 (IsSRd.below (qi HI0.out) hb); (try clear hb); (try clear hb2); (try clear hk); (try clear hi); (try clear ho0); obtain ⟨hcz15_0, hcz15_1, hfz15_0, hfz15_1⟩ := b2 BK111; obtain ⟨Ao16, co16, eo16⟩ := Kd.R_slice HO114.out; subst eo16) | ((with_reducible refine gf 38 ?_); refine gl 9 Tryd.func38 #[.pointer (some ⟨g, 0, none⟩), .int .i64 6] ?_; (with_reducible refine (spec_l6Rd_pick.calls k g s0_0 s0_1 6 t101 t109 w0 _ ?side1 ?side2 A4.out).mono ?_); (case side1 => exact qi HI0.out); (case side2 => exact qj HB.out HI0.out); rintro e w17 ⟨rfl, hi, hb, hk⟩; refine ⟨_, rfl, ?_⟩; replace BK112 := q0 (kc hk BK112.out NB112_0.out); replace HO114 := q0 (Kd.R_mono (Kd.R_keep (IsSRd.apart (show IsSRd w0 _ g s0_0 s0_1 from qi HI0.out) (by (with_reducible repeat (first | apply Kd.R_alloc | apply Kd.R_drewN | apply Kd.R_drew)); exact (rf2 HO114.out BK111.out (fun _ h_ => h_.1))) (by decide)) hk (fun _ h => h.2)) (fun _ h => h.1)); replace BK111 := q0 (KeepBut.blk hk (g' := gb111) (o := .cells #[.int .i64 t100, .slice Ao16 t108.length co16] 24 (0, 0)) (by (with_reducible repeat (first | refine blk_drewN ?_ _ | refine blk_drew ?_ | refine blk_alloc ?_ _)); refine blk_put (cs := #[.int .i64 t100, .slice A1_1 l1_1.length c1_1]) ?_ 1 _ rfl; (with_reducible repeat (first | refine blk_drewN ?_ _ | refine blk_drew ?_ | refine blk_alloc ?_ _)); refine blk_put (cs := #[.int .i64 a1_0, .slice A1_1 l1_1.length c1_1]) ?_ 0 _ rfl; (with_reducible repeat (first | refine blk_drewN ?_ _ | refine blk_drew ?_ | refine blk_alloc ?_ _)); exact BK111.out) NB111_0.out (by simp)); replace HK := q0 (KeepBut.trans (qh HK.out) hk (.inl rfl)); replace HB := q0 (hb); replace HI0 := q0 (hi); (try clear hb); (try clear hb2); (try clear hk); (try clear hi)) | ((with_reducible refine gd 18 ?_); refine Kd.R_lit (Kd.int .i64) _ 3 ?hg (N := 18) ?hd (xs := ([(-1), 0, 1, 8, 9] : List Int)) (inner := [.int .i64 (-1), .int .i64 0, .int .i64 1, .int .i64 8, .int .i64 9]) (ok := fun _ => True) (okp := fun _ => True) ?hr ?hp (fun _ hk => hk) trivial (Below.refl _ _) (Nat.le_refl _) (by simp) ?_; (case hd => rfl); (case hg => rfl); (case hr => first | (go_simp; done) | (go_simp; rfl)); (case hp => exact (Reps.one (show Kd.M (Kd.int .i64) _ _ _ (-1) [.int .i64 (-1)] from rfl) (Reps.one (show Kd.M (Kd.int .i64) _ _ _ 0 [.int .i64 0] from rfl) (Reps.one (show Kd.M (Kd.int .i64) _ _ _ 1 [.int .i64 1] from rfl) (Reps.one (show Kd.M (Kd.int .i64) _ _ _ 8 [.int .i64 8] from rfl) (Reps.one (show Kd.M (Kd.int .i64) _ _ _ 9 [.int .i64 9] from rfl) (Reps.none _ _))))))); intro v115 w18 ho19 hb hg_ hnew_; clear hg_ hnew_; (first | rw [← Ny102.out] at ho19 | (simp only [Int.reduceToNat] at ho19; rw [← Ny102.out] at ho19)); replace HO114 := q0 (Kd.R_below (qr HO114.out) hb); have HO116 := q0 (Kd.R_lower ho19 (keep_size (w := w) (g := g) (row := none) (qh HK.out))); replace BK111 := kd BK111 hb; replace BK112 := kd BK112 hb; replace HK := q0 (KeepBut.trans (qh HK.out) (KeepBut.of_below hb g none) (.inl rfl)); replace HB := q0 (below_step (qj HB.out HI0.out) hb); replace HI0 := q0 (IsSRd.below (qi HI0.out) hb); clear hb ho19) | ((with_reducible refine gf 38 ?_); refine gl 20 Tryd.func38 #[.pointer (some ⟨g, 0, none⟩), .int .i64 5] ?_; (with_reducible refine (spec_l6Rd_pick.calls k g s0_0 t109 5 t103 t110 w0 _ ?side1 ?side2 A6.out).mono ?_); (case side1 => exact qi HI0.out); (case side2 => exact qj HB.out HI0.out); rintro e w20 ⟨rfl, hi, hb, hk⟩; refine ⟨_, rfl, ?_⟩; replace BK111 := q0 (kc hk BK111.out NB111_0.out); replace BK112 := q0 (kc hk BK112.out NB112_0.out); replace HO114 := q0 (Kd.R_mono (Kd.R_keep (IsSRd.apart (show IsSRd w0 _ g s0_0 t109 from qi HI0.out) (qr HO114.out) (by decide)) hk (fun _ h => h.2)) (fun _ h => h.1)); replace HO116 := q0 (Kd.R_mono (Kd.R_keep (IsSRd.apart (show IsSRd w0 _ g s0_0 t109 from qi HI0.out) (qr HO116.out) (by decide)) hk (fun _ h => h.2)) (fun _ h => h.1)); replace HK := q0 (KeepBut.trans (qh HK.out) hk (.inl rfl)); replace HB := q0 (hb); replace HI0 := q0 (hi); (try clear hb); (try clear hb2); (try clear hk); (try clear hi); obtain ⟨Ao21, co21, eo21⟩ := Kd.R_slice HO116.out; subst eo21; have p117 : 0 ≤ (t103 : Int) := of_decide_eq_true qa; have q117 : t103 < (y102.length : Int) := of_decide_eq_true qa; obtain ⟨ad117, e117, hx117_0⟩ := Kd.at_int (Kd.R_reads' HO116.out).2.2 t103 p117 q117; cases e117; replace p117 := eq_true p117; replace q117 := eq_true q117; obtain ⟨hcz22_0, hcz22_1, hfz22_0, hfz22_1⟩ := b2 BK111; have hnb23 := NB112_0.out; have hnc23 := NB0_112.out; obtain ⟨hcz24_0, hcz24_1, hfz24_0, hfz24_1⟩ := b2 BK112))
   refine bodyPost_ret (results_cell_row rfl _ _ gb112 24 #[.int .i64 (rd y102 t103), .slice Ao16 t108.length co16] (0, 0) _ rfl (by (with_reducible repeat (first | refine blk_drewN ?_ _ | refine blk_drew ?_ | refine blk_alloc ?_ _)); refine blk_put (cs := #[.int .i64 (rd y102 t103), .slice none 0 0]) ?_ 1 _ rfl; (with_reducible repeat (first | refine blk_drewN ?_ _ | refine blk_drew ?_ | refine blk_alloc ?_ _)); refine blk_put (cs := #[.int .i64 0, .slice none 0 0]) ?_ 0 _ rfl; (with_reducible repeat (first | refine blk_drewN ?_ _ | refine blk_drew ?_ | refine blk_alloc ?_ _)); refine blk_far ?_ NB112_111.out _; (with_reducible repeat (first | refine blk_drewN ?_ _ | refine blk_drew ?_ | refine blk_alloc ?_ _)); exact BK112.out) Tryd.underlying24 rfl (by kernel_rfl)) rfl ?_
   exact ⟨_, qe, by (with_reducible repeat (first | apply Kd.R_alloc | apply Kd.R_drewN | apply Kd.R_drew)); exact Kd.R_mono (Kd.R_far (p := ⟨gb112, 1, none⟩) (Kd.R_far (p := ⟨gb112, 0, none⟩) (Kd.R_far (p := ⟨gb111, 0, none⟩) (Kd.R_types (Kd.R_types HO114.out BK111.out (by decide)) BK112.out (by decide)) (fun _ hk => hk.1.2) (.int .i64 (rd y102 t103))) (fun _ hk => hk.2) (.int .i64 (rd y102 t103))) (fun _ hk => hk.2) (.slice Ao16 t108.length co16)) (fun _ hk => trivial), qi HI0.out, qj HB.out HI0.out, by repeat (first | (with_reducible first | exact HK.out | apply KeepBut.set_ | apply keep_drewN | apply keep_drew | apply keep_alloc | refine keep_far ?_ GW111.out _ | refine keep_far ?_ GW112.out _) | exact HK.out)⟩
 rw [if_neg c5] at H
 have c5b0 : (t101 == 0) = false := beq_eq_false_iff_ne.mpr c5
 have c5b1 : (t101 != 0) = true := bne_iff_ne.mpr c5
 by_cases c25 : t101 = 1
 · rw [if_pos c25] at H
   have c25b0 : (t101 == 1) = true := beq_iff_eq.mpr c25
   have c25b1 : (t101 != 1) = false := bne_eq_false_iff_eq.mpr c25
   clear c25
   obtain ⟨⟨t104, t118⟩, A26, H⟩ := ob H
   obtain ⟨⟨t105, t120⟩, A27, H⟩ := ob H
   obtain ⟨c28, H⟩ : (t108.length < 8796093022208) ∧ _ := og H
   have LMc28 := q0 c28
   clear c28
   obtain ⟨y122, hy122⟩ : ∃ y_ : List (STie), y_ = (t108 ++ [(⟨t104, t105⟩ : STie)]) := ⟨_, rfl⟩
   replace H : (some (t100, y122, t120)) = some (r1, r2, r3) := qy H hy122
   have Ny122 := q0 hy122
   clear hy122
   simp only [Option.some.injEq, Prod.mk.injEq] at H
   obtain ⟨rfl, rfl, rfl⟩ := H
   go_enter Tryd.func47, Tryd.ntmps47
   try go_wp2_with (first | ((with_reducible refine gd 3 ?_); refine be 3 #[.int .i64 a1_0, .slice A1_1 l1_1.length c1_1] 24 ?_; intro gb111 hg w29 hbox hb; replace HB := q0 (below_step (qj HB.out HI0.out) hb); have BK111 := q0 (hbox); have GW111 := q0 ((by rw [hg]; exact (keep_size (w := w) (g := g) (row := none) (qh HK.out)) : w.heap.size ≤ gb111)); have GE111 := q0 ((Nat.le_trans HW0.out (by rw [hg]; exact (keep_size (w := w) (g := g) (row := none) (qh HK.out)) : w.heap.size ≤ gb111) : w0.heap.size ≤ gb111)); replace HK := q0 (KeepBut.trans (qh HK.out) (KeepBut.of_below hb g none) (.inl rfl)); have NB0_111 := q0 ((by rw [hg]; exact Nat.ne_of_lt (IsSRd.lt (show IsSRd w0 _ g s0_0 s0_1 from qi HI0.out)) : g ≠ gb111)); have NB111_0 := q0 ((by rw [hg]; exact Nat.ne_of_gt (IsSRd.lt (show IsSRd w0 _ g s0_0 s0_1 from qi HI0.out)) : gb111 ≠ g)); replace HI0 := q0 (IsSRd.below (qi HI0.out) hb); clear hb hbox hg) | ((with_reducible refine gd 4 ?_); refine be 4 #[.int .i64 0, .slice none 0 0] 24 ?_; intro gb112 hg w30 hbox hb; replace HB := q0 (below_step (qj HB.out HI0.out) hb); have BK112 := q0 (hbox); have GW112 := q0 ((by rw [hg]; exact (keep_size (w := w) (g := g) (row := none) (qh HK.out)) : w.heap.size ≤ gb112)); have GE112 := q0 ((Nat.le_trans HW0.out (by rw [hg]; exact (keep_size (w := w) (g := g) (row := none) (qh HK.out)) : w.heap.size ≤ gb112) : w0.heap.size ≤ gb112)); replace HK := q0 (KeepBut.trans (qh HK.out) (KeepBut.of_below hb g none) (.inl rfl)); have NB111_112 := nl BK111 hg; have NB112_111 := ng BK111 hg; replace BK111 := kd BK111 hb; have NB0_112 := q0 ((by rw [hg]; exact Nat.ne_of_lt (IsSRd.lt (show IsSRd w0 _ g s0_0 s0_1 from qi HI0.out)) : g ≠ gb112)); have NB112_0 := q0 ((by rw [hg]; exact Nat.ne_of_gt (IsSRd.lt (show IsSRd w0 _ g s0_0 s0_1 from qi HI0.out)) : gb112 ≠ g)); replace HI0 := q0 (IsSRd.below (qi HI0.out) hb); clear hb hbox hg; have hnb31 := NB111_112.out; have hnc31 := NB112_111.out; have hnb32 := NB111_0.out; have hnc32 := NB0_111.out; obtain ⟨hcz33_0, hcz33_1, hfz33_0, hfz33_1⟩ := b2 BK111) | ((with_reducible refine gf 60 ?_); refine gl 7 Tryd.func60 #[.agg #[.int .i64 a1_0, .slice A1_1 l1_1.length c1_1]] ?_; (with_reducible refine (spec_l1Copy.calls a1_0 _ _ l1_1 t100 t108 _ ?side1 ?side2 A3.out).mono ?_); (case side1 => exact Kd.C_foot_now HR1_1.out (qh HK.out)); (case side2 => exact HC1_1.out); rintro e w34 ⟨v113, rfl, ho0, hb⟩; refine ⟨_, rfl, ?_⟩; have HO114 := q0 (Kd.R_lower ho0 (keep_size (w := w) (g := g) (row := none) (qh HK.out))); replace BK111 := kd BK111 hb; replace BK112 := kd BK112 hb; replace HK := q0 (KeepBut.trans (qh HK.out) (KeepBut.of_below hb g none) (.inl rfl)); replace HB := q0 (below_step (qj HB.out HI0.out) hb); replace HI0 := q0 (IsSRd.below (qi HI0.out) hb); (try clear hb); (try clear hb2); (try clear hk); (try clear hi); (try clear ho0); obtain ⟨hcz35_0, hcz35_1, hfz35_0, hfz35_1⟩ := b2 BK111; obtain ⟨Ao36, co36, eo36⟩ := Kd.R_slice HO114.out; subst eo36) | ((with_reducible refine gf 38 ?_); refine gl 9 Tryd.func38 #[.pointer (some ⟨g, 0, none⟩), .int .i64 6] ?_; (with_reducible refine (spec_l6Rd_pick.calls k g s0_0 s0_1 6 t101 t109 w0 _ ?side1 ?side2 A4.out).mono ?_); (case side1 => exact qi HI0.out); (case side2 => exact qj HB.out HI0.out); rintro e w37 ⟨rfl, hi, hb, hk⟩; refine ⟨_, rfl, ?_⟩; replace BK112 := q0 (kc hk BK112.out NB112_0.out); replace HO114 := q0 (Kd.R_mono (Kd.R_keep (IsSRd.apart (show IsSRd w0 _ g s0_0 s0_1 from qi HI0.out) (by (with_reducible repeat (first | apply Kd.R_alloc | apply Kd.R_drewN | apply Kd.R_drew)); exact (rf2 HO114.out BK111.out (fun _ h_ => h_.1))) (by decide)) hk (fun _ h => h.2)) (fun _ h => h.1)); replace BK111 := q0 (KeepBut.blk hk (g' := gb111) (o := .cells #[.int .i64 t100, .slice Ao36 t108.length co36] 24 (0, 0)) (by (with_reducible repeat (first | refine blk_drewN ?_ _ | refine blk_drew ?_ | refine blk_alloc ?_ _)); refine blk_put (cs := #[.int .i64 t100, .slice A1_1 l1_1.length c1_1]) ?_ 1 _ rfl; (with_reducible repeat (first | refine blk_drewN ?_ _ | refine blk_drew ?_ | refine blk_alloc ?_ _)); refine blk_put (cs := #[.int .i64 a1_0, .slice A1_1 l1_1.length c1_1]) ?_ 0 _ rfl; (with_reducible repeat (first | refine blk_drewN ?_ _ | refine blk_drew ?_ | refine blk_alloc ?_ _)); exact BK111.out) NB111_0.out (by simp)); replace HK := q0 (KeepBut.trans (qh HK.out) hk (.inl rfl)); replace HB := q0 (hb); replace HI0 := q0 (hi); (try clear hb); (try clear hb2); (try clear hk); (try clear hi)))
   replace HO114 := q0 (Kd.R_drew HO114.out)
   replace BK111 := q0 (blk_drew BK111.out)
   replace BK112 := q0 (blk_drew BK112.out)
   replace HI0 := q0 (IsSRd.drew HI0.out)
   replace HK := q0 (keep_drew HK.out)
   replace HB := q0 (below_drew1 HB.out)
   refine start_ (n := 11) (S := fun w' => w'.cell? ⟨gb111, 0, none⟩ = some (.int .i64 t100) ∧ w'.cell? ⟨gb111, 1, none⟩ = some (.slice Ao36 t108.length co36)) (ds := [10]) (ba 11 0) (by kernel_rfl) rfl (by kernel_rfl) ⟨bca BK111, bcb BK111⟩ (fun hHeld => ?_); refine with_tabW spec_l71Spoil.tab7 spec_l71Spoil.bits7 (fun HT_ HW_ => ?_)
   generalize w37.drew = w38 at HO114 BK111 BK112 HI0 HK HB hHeld ⊢
   refine pU 0 26 11 1 HT_ ?_
   refine pU 2 28 11 5 HT_ ?_
   refine pU 4 30 11 21 HT_ ?_
   refine tU 1 27 11 23 HT_ HW_ hHeld ?_
   refine one_ (i := 3) (N := some 29) (ba 11 31) rfl rfl (one_of HT_.out (by kernel_rfl)) (by decide) (fun K hK => ?_)
   refine goes_ Tryd.func38 (by kernel_rfl) rfl #[.pointer (some ⟨g, 0, none⟩), .int .i64 3] (by rfl) rfl rfl qm ?_
   with_reducible refine (spec_l6Rd_pick.calls k g s0_0 t109 3 t104 t118 w0 _ ?side1 ?side2 A26.out).mono ?_
   (case side1 => exact qi HI0.out)
   (case side2 => exact qj HB.out HI0.out)
   rintro e w39 ⟨rfl, hi, hb, hk⟩
   refine ⟨_, rfl, ?_⟩
   replace BK111 := q0 (kc hk BK111.out NB111_0.out)
   replace BK112 := q0 (kc hk BK112.out NB112_0.out)
   replace HO114 := q0 (Kd.R_mono (Kd.R_keep (IsSRd.apart (show IsSRd w0 _ g s0_0 t109 from qi HI0.out) (qr HO114.out) (by decide)) hk (fun _ h => h.2)) (fun _ h => h.1))
   replace HK := q0 (KeepBut.trans (qh HK.out) hk (.inl rfl))
   replace HB := q0 (hb)
   replace HI0 := q0 (hi)
   (try clear hb)
   (try clear hb2)
   (try clear hk)
   (try clear hi)
   refine hK.out _ _ ⟨bca BK111, bcb BK111⟩ (fun hHeld => ?_)
   clear hK K
   refine nu 29 ?_
   refine one_ (i := 5) (N := some 31) (ba 11 63) rfl rfl (one_of HT_.out (by kernel_rfl)) (by decide) (fun K hK => ?_)
   refine goes_ Tryd.func38 (by kernel_rfl) rfl #[.pointer (some ⟨g, 0, none⟩), .int .i64 3] (by rfl) rfl rfl qm ?_
   with_reducible refine (spec_l6Rd_pick.calls k g s0_0 t118 3 t105 t120 w0 _ ?side1 ?side2 A27.out).mono ?_
   (case side1 => exact qi HI0.out)
   (case side2 => exact qj HB.out HI0.out)
   rintro e w40 ⟨rfl, hi, hb, hk⟩
   refine ⟨_, rfl, ?_⟩
   replace BK111 := q0 (kc hk BK111.out NB111_0.out)
   replace BK112 := q0 (kc hk BK112.out NB112_0.out)
   replace HO114 := q0 (Kd.R_mono (Kd.R_keep (IsSRd.apart (show IsSRd w0 _ g s0_0 t118 from qi HI0.out) (qr HO114.out) (by decide)) hk (fun _ h => h.2)) (fun _ h => h.1))
   replace HK := q0 (KeepBut.trans (qh HK.out) hk (.inl rfl))
   replace HB := q0 (hb)
   replace HI0 := q0 (hi)
   (try clear hb)
   (try clear hb2)
   (try clear hk)
   (try clear hi)
   refine hK.out _ _ ⟨bca BK111, bcb BK111⟩ (fun hHeld => ?_)
   clear hK K
   refine nu 31 ?_
   refine pU 6 32 11 127 HT_ ?_
   refine one_ (i := 7) (N := some 33) (ba 11 255) rfl rfl (one_of HT_.out (by kernel_rfl)) (by decide) (fun K hK => ?_)
   refine value_ (w1 := ?_) (v := ?_) (by rfl) rfl ?_ ?_
   rotate_left 2
   · go_simp
     constructor
     · rfl
     · rfl
   refine hK.out _ _ ⟨(blk_cell (blk_alloc BK111.out _) 0).trans rfl, (blk_cell (blk_alloc BK111.out _) 1).trans rfl⟩ (fun hHeld => ?_)
   clear hK K
   refine nu 33 ?_
   refine one_ (i := 8) (N := some 34) (ba 11 511) rfl rfl (one_of HT_.out (by kernel_rfl)) (by decide) (fun K hK => ?_)
   refine Kd.R_append_step kTie w.heap.size (by rfl) (.tmp 27) (.tmp 33) 22 47 (.agg #[(.int .i64 0), (.int .i64 0)]) 16 rfl Tryd.underlying22 info47 rfl (by decide) (by omega) (.slice Ao36 t108.length co36) t108 (⟨t104, t105⟩ : STie) [.int .i64 t104, .int .i64 t105] (fun _ => True) (fun _ => False) rfl rfl ?aP (fun _ hk => hk.elim) ?aF ?aO (Below.refl _ _) ?aS ?aL ?_
   (case aP => exact kTie_mkM _ _ _ (⟨t104, t105⟩ : STie))
   (case aF => exact (fun _ _ => trivial))
   (case aO => exact (qr HO114.out))
   (case aS => exact (keep_size (w := w) (g := g) (row := none) (qh HK.out)))
   (case aL => have := LMc28.out; omega)
   intro v123 w41 ho hb hg hat
   rw [← Ny122.out] at ho
   replace BK111 := q0 (blk_grown (g := gb111) (o := .cells #[.int .i64 t100, .slice Ao36 t108.length co36] 24 (0, 0)) (qk BK111.out) hg (Kd.R_ne HO114.out BK111.out (by decide)))
   replace BK112 := q0 (blk_grown (g := gb112) (o := .cells #[.int .i64 0, .slice none 0 0] 24 (0, 0)) (qk BK112.out) hg (Kd.R_ne HO114.out BK112.out (by decide)))
   replace HB := q0 (below_weaken (qj HB.out HI0.out) HL.out hb)
   replace HI0 := q0 (IsSRd.grown (qi HI0.out) hg (IsSRd.own_ne HI0.out HO114.out (by decide)))
   replace HK := q0 (KeepBut.trans (qh HK.out) (KeepBut.of_grown hg g) (Kd.R_base2 HO114.out))
   have HO124 := q0 (ho)
   clear HO114
   clear ho hb hg hat
   obtain ⟨Ao42, co42, eo42⟩ := Kd.R_slice HO124.out
   (first | subst eo42 | (injection eo42 with f1_ f2_ f3_; have f4_ := f1_.symm; have f5_ := f3_.symm; clear f1_ f2_ f3_; subst f4_; subst f5_))
   refine hK.out _ _ ⟨bca BK111, bcb BK111⟩ (fun hHeld => ?_)
   clear hK K
   refine nu 34 ?_
   refine pU 9 35 11 1023 HT_ ?_
   refine last_ (i := 10) (N := none) (ba 11 2047) rfl rfl (one_of HT_.out (by kernel_rfl)) (by decide) (fun K hK => ?_)
   have hs43 : w41.cell? ⟨gb111, 1, none⟩ = some (.slice Ao36 t108.length co36) := (blk_cell BK111.out 1).trans rfl
   have hfs43 := blk_frozen BK111.out 1
   have hns43_1 := NB112_111.out
   have hms43_1 := NB111_112.out
   refine skip_ (w1 := ?_) (by rfl) rfl ?_ ?_
   rotate_left
   · go_simp
     rfl
   refine hK.out _ _ ?_
   clear hK K
   refine done_ (done_of HT_.out (by kernel_rfl)) ?_
   obtain ⟨hcz44_0, hcz44_1, hfz44_0, hfz44_1⟩ := b2 BK111
   have hnb45 := NB112_0.out
   have hnc45 := NB0_112.out
   obtain ⟨hcz46_0, hcz46_1, hfz46_0, hfz46_1⟩ := b2 BK112
   try go_wp2
   refine bodyPost_ret (results_cell_row rfl _ _ gb112 24 #[.int .i64 t100, .slice Ao42 y122.length co42] (0, 0) _ rfl (by (with_reducible repeat (first | refine blk_drewN ?_ _ | refine blk_drew ?_ | refine blk_alloc ?_ _)); refine blk_put (cs := #[.int .i64 t100, .slice none 0 0]) ?_ 1 _ rfl; (with_reducible repeat (first | refine blk_drewN ?_ _ | refine blk_drew ?_ | refine blk_alloc ?_ _)); refine blk_put (cs := #[.int .i64 0, .slice none 0 0]) ?_ 0 _ rfl; (with_reducible repeat (first | refine blk_drewN ?_ _ | refine blk_drew ?_ | refine blk_alloc ?_ _)); refine blk_far ?_ NB112_111.out _; (with_reducible repeat (first | refine blk_drewN ?_ _ | refine blk_drew ?_ | refine blk_alloc ?_ _)); exact BK112.out) Tryd.underlying24 rfl (by kernel_rfl)) rfl ?_
   exact ⟨_, qe, by (with_reducible repeat (first | apply Kd.R_alloc | apply Kd.R_drewN | apply Kd.R_drew)); exact Kd.R_mono (Kd.R_far (p := ⟨gb112, 1, none⟩) (Kd.R_far (p := ⟨gb112, 0, none⟩) (Kd.R_far (p := ⟨gb111, 1, none⟩) (Kd.R_types (Kd.R_types HO124.out BK111.out (by decide)) BK112.out (by decide)) (fun _ hk => hk.1.2) (.slice Ao42 y122.length co42)) (fun _ hk => hk.2) (.int .i64 t100)) (fun _ hk => hk.2) (.slice Ao42 y122.length co42)) (fun _ hk => trivial), qi HI0.out, qj HB.out HI0.out, by repeat (first | (with_reducible first | exact HK.out | apply KeepBut.set_ | apply keep_drewN | apply keep_drew | apply keep_alloc | refine keep_far ?_ GW111.out _ | refine keep_far ?_ GW112.out _) | exact HK.out)⟩
 rw [if_neg c25] at H
 have c25b0 : (t101 == 1) = false := beq_eq_false_iff_ne.mpr c25
 have c25b1 : (t101 != 1) = true := bne_iff_ne.mpr c25
 by_cases c47 : t101 = 2
 · rw [if_pos c47] at H
   have c47b0 : (t101 == 2) = true := beq_iff_eq.mpr c47
   have c47b1 : (t101 != 2) = false := bne_eq_false_iff_eq.mpr c47
   clear c47
   obtain ⟨c48, H⟩ : (t108.length < 8796093022208) ∧ _ := og H
   have LMc48 := q0 c48
   clear c48
   obtain ⟨y125, hy125⟩ : ∃ y_ : List (STie), y_ = (t108 ++ [(⟨wrap64 (t100 - 1), t100⟩ : STie)]) := ⟨_, rfl⟩
   replace H : (some (t100, y125, t109)) = some (r1, r2, r3) := qy H hy125
   have Ny125 := q0 hy125
   clear hy125
   simp only [Option.some.injEq, Prod.mk.injEq] at H
   obtain ⟨rfl, rfl, rfl⟩ := H
   go_enter Tryd.func47, Tryd.ntmps47
   go_wp2_with (first | ((with_reducible refine gd 3 ?_); refine be 3 #[.int .i64 a1_0, .slice A1_1 l1_1.length c1_1] 24 ?_; intro gb111 hg w49 hbox hb; replace HB := q0 (below_step (qj HB.out HI0.out) hb); have BK111 := q0 (hbox); have GW111 := q0 ((by rw [hg]; exact (keep_size (w := w) (g := g) (row := none) (qh HK.out)) : w.heap.size ≤ gb111)); have GE111 := q0 ((Nat.le_trans HW0.out (by rw [hg]; exact (keep_size (w := w) (g := g) (row := none) (qh HK.out)) : w.heap.size ≤ gb111) : w0.heap.size ≤ gb111)); replace HK := q0 (KeepBut.trans (qh HK.out) (KeepBut.of_below hb g none) (.inl rfl)); have NB0_111 := q0 ((by rw [hg]; exact Nat.ne_of_lt (IsSRd.lt (show IsSRd w0 _ g s0_0 s0_1 from qi HI0.out)) : g ≠ gb111)); have NB111_0 := q0 ((by rw [hg]; exact Nat.ne_of_gt (IsSRd.lt (show IsSRd w0 _ g s0_0 s0_1 from qi HI0.out)) : gb111 ≠ g)); replace HI0 := q0 (IsSRd.below (qi HI0.out) hb); clear hb hbox hg) | ((with_reducible refine gd 4 ?_); refine be 4 #[.int .i64 0, .slice none 0 0] 24 ?_; intro gb112 hg w50 hbox hb; replace HB := q0 (below_step (qj HB.out HI0.out) hb); have BK112 := q0 (hbox); have GW112 := q0 ((by rw [hg]; exact (keep_size (w := w) (g := g) (row := none) (qh HK.out)) : w.heap.size ≤ gb112)); have GE112 := q0 ((Nat.le_trans HW0.out (by rw [hg]; exact (keep_size (w := w) (g := g) (row := none) (qh HK.out)) : w.heap.size ≤ gb112) : w0.heap.size ≤ gb112)); replace HK := q0 (KeepBut.trans (qh HK.out) (KeepBut.of_below hb g none) (.inl rfl)); have NB111_112 := nl BK111 hg; have NB112_111 := ng BK111 hg; replace BK111 := kd BK111 hb; have NB0_112 := q0 ((by rw [hg]; exact Nat.ne_of_lt (IsSRd.lt (show IsSRd w0 _ g s0_0 s0_1 from qi HI0.out)) : g ≠ gb112)); have NB112_0 := q0 ((by rw [hg]; exact Nat.ne_of_gt (IsSRd.lt (show IsSRd w0 _ g s0_0 s0_1 from qi HI0.out)) : gb112 ≠ g)); replace HI0 := q0 (IsSRd.below (qi HI0.out) hb); clear hb hbox hg; have hnb51 := NB111_112.out; have hnc51 := NB112_111.out; have hnb52 := NB111_0.out; have hnc52 := NB0_111.out; obtain ⟨hcz53_0, hcz53_1, hfz53_0, hfz53_1⟩ := b2 BK111) | ((with_reducible refine gf 60 ?_); refine gl 7 Tryd.func60 #[.agg #[.int .i64 a1_0, .slice A1_1 l1_1.length c1_1]] ?_; (with_reducible refine (spec_l1Copy.calls a1_0 _ _ l1_1 t100 t108 _ ?side1 ?side2 A3.out).mono ?_); (case side1 => exact Kd.C_foot_now HR1_1.out (qh HK.out)); (case side2 => exact HC1_1.out); rintro e w54 ⟨v113, rfl, ho0, hb⟩; refine ⟨_, rfl, ?_⟩; have HO114 := q0 (Kd.R_lower ho0 (keep_size (w := w) (g := g) (row := none) (qh HK.out))); replace BK111 := kd BK111 hb; replace BK112 := kd BK112 hb; replace HK := q0 (KeepBut.trans (qh HK.out) (KeepBut.of_below hb g none) (.inl rfl)); replace HB := q0 (below_step (qj HB.out HI0.out) hb); replace HI0 := q0 (IsSRd.below (qi HI0.out) hb); (try clear hb); (try clear hb2); (try clear hk); (try clear hi); (try clear ho0); obtain ⟨hcz55_0, hcz55_1, hfz55_0, hfz55_1⟩ := b2 BK111; obtain ⟨Ao56, co56, eo56⟩ := Kd.R_slice HO114.out; subst eo56) | ((with_reducible refine gf 38 ?_); refine gl 9 Tryd.func38 #[.pointer (some ⟨g, 0, none⟩), .int .i64 6] ?_; (with_reducible refine (spec_l6Rd_pick.calls k g s0_0 s0_1 6 t101 t109 w0 _ ?side1 ?side2 A4.out).mono ?_); (case side1 => exact qi HI0.out); (case side2 => exact qj HB.out HI0.out); rintro e w57 ⟨rfl, hi, hb, hk⟩; refine ⟨_, rfl, ?_⟩; replace BK112 := q0 (kc hk BK112.out NB112_0.out); replace HO114 := q0 (Kd.R_mono (Kd.R_keep (IsSRd.apart (show IsSRd w0 _ g s0_0 s0_1 from qi HI0.out) (by (with_reducible repeat (first | apply Kd.R_alloc | apply Kd.R_drewN | apply Kd.R_drew)); exact (rf2 HO114.out BK111.out (fun _ h_ => h_.1))) (by decide)) hk (fun _ h => h.2)) (fun _ h => h.1)); replace BK111 := q0 (KeepBut.blk hk (g' := gb111) (o := .cells #[.int .i64 t100, .slice Ao56 t108.length co56] 24 (0, 0)) (by (with_reducible repeat (first | refine blk_drewN ?_ _ | refine blk_drew ?_ | refine blk_alloc ?_ _)); refine blk_put (cs := #[.int .i64 t100, .slice A1_1 l1_1.length c1_1]) ?_ 1 _ rfl; (with_reducible repeat (first | refine blk_drewN ?_ _ | refine blk_drew ?_ | refine blk_alloc ?_ _)); refine blk_put (cs := #[.int .i64 a1_0, .slice A1_1 l1_1.length c1_1]) ?_ 0 _ rfl; (with_reducible repeat (first | refine blk_drewN ?_ _ | refine blk_drew ?_ | refine blk_alloc ?_ _)); exact BK111.out) NB111_0.out (by simp)); replace HK := q0 (KeepBut.trans (qh HK.out) hk (.inl rfl)); replace HB := q0 (hb); replace HI0 := q0 (hi); (try clear hb); (try clear hb2); (try clear hk); (try clear hi); obtain ⟨hcz58_0, hcz58_1, hfz58_0, hfz58_1⟩ := b2 BK111) | ((with_reducible refine gate_builtin (b := .append) (xs := #[.tmp 39, .tmp 46]) rfl ?_); at_builtin; refine Kd.R_append kTie w.heap.size rfl (.tmp 39) (.tmp 46) 22 47 (.agg #[(.int .i64 0), (.int .i64 0)]) 16 rfl Tryd.underlying22 info47 rfl (by decide) (by omega) (.slice Ao56 t108.length co56) t108 (⟨wrap64 (t100 - 1), t100⟩ : STie) [.int .i64 (wrap64 (t100 - 1)), .int .i64 t100] (fun _ => True) (fun _ => False) rfl rfl ?aP (fun _ hk => hk.elim) ?aF ?aO (Below.refl _ _) ?aS ?aL ?_; (case aP => exact kTie_mkM _ _ _ (⟨wrap64 (t100 - 1), t100⟩ : STie)); (case aF => exact (fun _ _ => trivial)); (case aO => exact (qr HO114.out)); (case aS => exact (keep_size (w := w) (g := g) (row := none) (qh HK.out))); (case aL => have := LMc48.out; omega); intro v126 w59 ho hb hg hat; rw [← Ny125.out] at ho; replace BK111 := q0 (blk_grown (g := gb111) (o := .cells #[.int .i64 t100, .slice Ao56 t108.length co56] 24 (0, 0)) (qk BK111.out) hg (Kd.R_ne HO114.out BK111.out (by decide))); replace BK112 := q0 (blk_grown (g := gb112) (o := .cells #[.int .i64 0, .slice none 0 0] 24 (0, 0)) (qk BK112.out) hg (Kd.R_ne HO114.out BK112.out (by decide))); replace HB := q0 (below_weaken (qj HB.out HI0.out) HL.out hb); replace HI0 := q0 (IsSRd.grown (qi HI0.out) hg (IsSRd.own_ne HI0.out HO114.out (by decide))); replace HK := q0 (KeepBut.trans (qh HK.out) (KeepBut.of_grown hg g) (Kd.R_base2 HO114.out)); have HO127 := q0 (ho); clear HO114; clear ho hb hg hat; obtain ⟨Ao60, co60, eo60⟩ := Kd.R_slice HO127.out; subst eo60; obtain ⟨hcz61_0, hcz61_1, hfz61_0, hfz61_1⟩ := b2 BK111; have hnb62 := NB112_0.out; have hnc62 := NB0_112.out; obtain ⟨hcz63_0, hcz63_1, hfz63_0, hfz63_1⟩ := b2 BK112))
   refine bodyPost_ret (results_cell_row rfl _ _ gb112 24 #[.int .i64 t100, .slice Ao60 y125.length co60] (0, 0) _ rfl (by (with_reducible repeat (first | refine blk_drewN ?_ _ | refine blk_drew ?_ | refine blk_alloc ?_ _)); refine blk_put (cs := #[.int .i64 t100, .slice none 0 0]) ?_ 1 _ rfl; (with_reducible repeat (first | refine blk_drewN ?_ _ | refine blk_drew ?_ | refine blk_alloc ?_ _)); refine blk_put (cs := #[.int .i64 0, .slice none 0 0]) ?_ 0 _ rfl; (with_reducible repeat (first | refine blk_drewN ?_ _ | refine blk_drew ?_ | refine blk_alloc ?_ _)); refine blk_far ?_ NB112_111.out _; (with_reducible repeat (first | refine blk_drewN ?_ _ | refine blk_drew ?_ | refine blk_alloc ?_ _)); exact BK112.out) Tryd.underlying24 rfl (by kernel_rfl)) rfl ?_
   exact ⟨_, qe, by (with_reducible repeat (first | apply Kd.R_alloc | apply Kd.R_drewN | apply Kd.R_drew)); exact Kd.R_mono (Kd.R_far (p := ⟨gb112, 1, none⟩) (Kd.R_far (p := ⟨gb112, 0, none⟩) (Kd.R_far (p := ⟨gb111, 1, none⟩) (Kd.R_types (Kd.R_types HO127.out BK111.out (by decide)) BK112.out (by decide)) (fun _ hk => hk.1.2) (.slice Ao60 y125.length co60)) (fun _ hk => hk.2) (.int .i64 t100)) (fun _ hk => hk.2) (.slice Ao60 y125.length co60)) (fun _ hk => trivial), qi HI0.out, qj HB.out HI0.out, by repeat (first | (with_reducible first | exact HK.out | apply KeepBut.set_ | apply keep_drewN | apply keep_drew | apply keep_alloc | refine keep_far ?_ GW111.out _ | refine keep_far ?_ GW112.out _) | exact HK.out)⟩
 rw [if_neg c47] at H
 have c47b0 : (t101 == 2) = false := beq_eq_false_iff_ne.mpr c47
 have c47b1 : (t101 != 2) = true := bne_iff_ne.mpr c47
 by_cases c64 : t101 = 3
 rotate_left
 · rw [if_neg c64] at H
   have c64b0 : (t101 == 3) = false := beq_eq_false_iff_ne.mpr c64
   have c64b1 : (t101 != 3) = true := bne_iff_ne.mpr c64
   by_cases c99 : t101 = 4
   rotate_left
   · rw [if_neg c99] at H
     have c99b0 : (t101 == 4) = false := beq_eq_false_iff_ne.mpr c99
     have c99b1 : (t101 != 4) = true := bne_iff_ne.mpr c99
     obtain ⟨y107, hy107⟩ : ∃ y_ : List (STie), y_ = (([(⟨(-1), 0⟩ : STie)] : List (STie))) := ⟨_, rfl⟩
     replace H : (if y107.length + t108.length < 8796093022208 then (some (t100, (y107 ++ t108), t109)) else (none)) = some (r1, r2, r3) := qy H hy107
     have Ny107 := q0 hy107
     clear hy107
     obtain ⟨c169, H⟩ : (y107.length + t108.length < 8796093022208) ∧ _ := og H
     have LMc169 := q0 c169
     clear c169
     obtain ⟨y170, hy170⟩ : ∃ y_ : List (STie), y_ = (y107 ++ t108) := ⟨_, rfl⟩
     replace H : (some (t100, y170, t109)) = some (r1, r2, r3) := qy H hy170
     have Ny170 := q0 hy170
     clear hy170
     simp only [Option.some.injEq, Prod.mk.injEq] at H
     obtain ⟨rfl, rfl, rfl⟩ := H
     go_enter Tryd.func47, Tryd.ntmps47
     go_wp2_with (first | ((with_reducible refine gd 3 ?_); refine be 3 #[.int .i64 a1_0, .slice A1_1 l1_1.length c1_1] 24 ?_; intro gb111 hg w171 hbox hb; replace HB := q0 (below_step (qj HB.out HI0.out) hb); have BK111 := q0 (hbox); have GW111 := q0 ((by rw [hg]; exact (keep_size (w := w) (g := g) (row := none) (qh HK.out)) : w.heap.size ≤ gb111)); have GE111 := q0 ((Nat.le_trans HW0.out (by rw [hg]; exact (keep_size (w := w) (g := g) (row := none) (qh HK.out)) : w.heap.size ≤ gb111) : w0.heap.size ≤ gb111)); replace HK := q0 (KeepBut.trans (qh HK.out) (KeepBut.of_below hb g none) (.inl rfl)); have NB0_111 := q0 ((by rw [hg]; exact Nat.ne_of_lt (IsSRd.lt (show IsSRd w0 _ g s0_0 s0_1 from qi HI0.out)) : g ≠ gb111)); have NB111_0 := q0 ((by rw [hg]; exact Nat.ne_of_gt (IsSRd.lt (show IsSRd w0 _ g s0_0 s0_1 from qi HI0.out)) : gb111 ≠ g)); replace HI0 := q0 (IsSRd.below (qi HI0.out) hb); clear hb hbox hg) | ((with_reducible refine gd 4 ?_); refine be 4 #[.int .i64 0, .slice none 0 0] 24 ?_; intro gb112 hg w172 hbox hb; replace HB := q0 (below_step (qj HB.out HI0.out) hb); have BK112 := q0 (hbox); have GW112 := q0 ((by rw [hg]; exact (keep_size (w := w) (g := g) (row := none) (qh HK.out)) : w.heap.size ≤ gb112)); have GE112 := q0 ((Nat.le_trans HW0.out (by rw [hg]; exact (keep_size (w := w) (g := g) (row := none) (qh HK.out)) : w.heap.size ≤ gb112) : w0.heap.size ≤ gb112)); replace HK := q0 (KeepBut.trans (qh HK.out) (KeepBut.of_below hb g none) (.inl rfl)); have NB111_112 := nl BK111 hg; have NB112_111 := ng BK111 hg; replace BK111 := kd BK111 hb; have NB0_112 := q0 ((by rw [hg]; exact Nat.ne_of_lt (IsSRd.lt (show IsSRd w0 _ g s0_0 s0_1 from qi HI0.out)) : g ≠ gb112)); have NB112_0 := q0 ((by rw [hg]; exact Nat.ne_of_gt (IsSRd.lt (show IsSRd w0 _ g s0_0 s0_1 from qi HI0.out)) : gb112 ≠ g)); replace HI0 := q0 (IsSRd.below (qi HI0.out) hb); clear hb hbox hg; have hnb173 := NB111_112.out; have hnc173 := NB112_111.out; have hnb174 := NB111_0.out; have hnc174 := NB0_111.out; obtain ⟨hcz175_0, hcz175_1, hfz175_0, hfz175_1⟩ := b2 BK111) | ((with_reducible refine gf 60 ?_); refine gl 7 Tryd.func60 #[.agg #[.int .i64 a1_0, .slice A1_1 l1_1.length c1_1]] ?_; (with_reducible refine (spec_l1Copy.calls a1_0 _ _ l1_1 t100 t108 _ ?side1 ?side2 A3.out).mono ?_); (case side1 => exact Kd.C_foot_now HR1_1.out (qh HK.out)); (case side2 => exact HC1_1.out); rintro e w176 ⟨v113, rfl, ho0, hb⟩; refine ⟨_, rfl, ?_⟩; have HO114 := q0 (Kd.R_lower ho0 (keep_size (w := w) (g := g) (row := none) (qh HK.out))); replace BK111 := kd BK111 hb; replace BK112 := kd BK112 hb; replace HK := q0 (KeepBut.trans (qh HK.out) (KeepBut.of_below hb g none) (.inl rfl)); replace HB := q0 (below_step (qj HB.out HI0.out) hb); replace HI0 := q0 (IsSRd.below (qi HI0.out) hb); (try clear hb); (try clear hb2); (try clear hk); (try clear hi); (try clear ho0); obtain ⟨hcz177_0, hcz177_1, hfz177_0, hfz177_1⟩ := b2 BK111; obtain ⟨Ao178, co178, eo178⟩ := Kd.R_slice HO114.out; subst eo178) | ((with_reducible refine gf 38 ?_); refine gl 9 Tryd.func38 #[.pointer (some ⟨g, 0, none⟩), .int .i64 6] ?_; (with_reducible refine (spec_l6Rd_pick.calls k g s0_0 s0_1 6 t101 t109 w0 _ ?side1 ?side2 A4.out).mono ?_); (case side1 => exact qi HI0.out); (case side2 => exact qj HB.out HI0.out); rintro e w179 ⟨rfl, hi, hb, hk⟩; refine ⟨_, rfl, ?_⟩; replace BK112 := q0 (kc hk BK112.out NB112_0.out); replace HO114 := q0 (Kd.R_mono (Kd.R_keep (IsSRd.apart (show IsSRd w0 _ g s0_0 s0_1 from qi HI0.out) (by (with_reducible repeat (first | apply Kd.R_alloc | apply Kd.R_drewN | apply Kd.R_drew)); exact (rf2 HO114.out BK111.out (fun _ h_ => h_.1))) (by decide)) hk (fun _ h => h.2)) (fun _ h => h.1)); replace BK111 := q0 (KeepBut.blk hk (g' := gb111) (o := .cells #[.int .i64 t100, .slice Ao178 t108.length co178] 24 (0, 0)) (by (with_reducible repeat (first | refine blk_drewN ?_ _ | refine blk_drew ?_ | refine blk_alloc ?_ _)); refine blk_put (cs := #[.int .i64 t100, .slice A1_1 l1_1.length c1_1]) ?_ 1 _ rfl; (with_reducible repeat (first | refine blk_drewN ?_ _ | refine blk_drew ?_ | refine blk_alloc ?_ _)); refine blk_put (cs := #[.int .i64 a1_0, .slice A1_1 l1_1.length c1_1]) ?_ 0 _ rfl; (with_reducible repeat (first | refine blk_drewN ?_ _ | refine blk_drew ?_ | refine blk_alloc ?_ _)); exact BK111.out) NB111_0.out (by simp)); replace HK := q0 (KeepBut.trans (qh HK.out) hk (.inl rfl)); replace HB := q0 (hb); replace HI0 := q0 (hi); (try clear hb); (try clear hb2); (try clear hk); (try clear hi)) | ((with_reducible refine gd 11 ?_); refine Kd.R_lit kTie _ 47 ?hg (N := 11) ?hd (xs := ([(⟨(-1), 0⟩ : STie)] : List (STie))) (inner := [.int .i64 (-1), .int .i64 0]) (ok := fun _ => True) (okp := fun _ => True) ?hr ?hp (fun _ hk => hk) trivial (Below.refl _ _) (Nat.le_refl _) (by simp) ?_; (case hd => rfl); (case hg => rfl); (case hr => first | (go_simp; done) | (go_simp; rfl)); (case hp => exact (Reps.c2 (show Kd.M kTie _ _ _ (⟨(-1), 0⟩ : STie) [.int .i64 (-1), .int .i64 0] from (kTie_mkM _ _ _ (⟨(-1), 0⟩ : STie) )) (Reps.none _ _))); intro v180 w181 ho182 hb hg_ hnew_; clear hg_ hnew_; (first | rw [← Ny107.out] at ho182 | (simp only [Int.reduceToNat] at ho182; rw [← Ny107.out] at ho182)); have HO183 := q0 (Kd.R_lower (Kd.R_new' ho182 (Kd.R_lt (qr HO114.out))) (keep_size (w := w) (g := g) (row := none) (qh HK.out))); replace HO114 := q0 (Kd.R_elder' (qr HO114.out) (Kd.R_base ho182) hb); replace BK111 := kd BK111 hb; replace BK112 := kd BK112 hb; replace HK := q0 (KeepBut.trans (qh HK.out) (KeepBut.of_below hb g none) (.inl rfl)); replace HB := q0 (below_step (qj HB.out HI0.out) hb); replace HI0 := q0 (IsSRd.below (qi HI0.out) hb); clear hb ho182; obtain ⟨hcz184_0, hcz184_1, hfz184_0, hfz184_1⟩ := b2 BK111) | ((with_reducible refine gate_builtin (b := .append) (xs := #[.tmp 11, .tmp 13]) rfl ?_); at_builtin; refine Kd.R_append_rows kTie w.heap.size rfl (.tmp 11) (.tmp 13) 22 47 (.agg #[(.int .i64 0), (.int .i64 0)]) 16 rfl Tryd.underlying22 info47 rfl (by decide) (by omega) v180 y107 t108 _ _ _ (fun k_ => some k_ ≠ (.slice Ao178 t108.length co178 : Value).ownBlock) (fun _ => False) rfl rfl ?aO ?aR (fun _ _ h => h) (fun _ h => h.elim) ?aF (Below.refl _ _) ?aS ?aL ?_; (case aR => repeat (first | exact (Kd.R_reads' HO114.out).2.2 | (with_reducible refine Kd.C_alloc ?_ _) | (with_reducible refine Kd.C_drewN ?_ _) | (with_reducible refine Kd.C_drew ?_))); (case aF => exact (fun k_ hk => Kd.fresh' (Kd.R_lt (qr HO114.out)) k_ hk)); (case aO => exact (by (with_reducible repeat (first | apply Kd.R_alloc | apply Kd.R_drewN | apply Kd.R_drew)); exact Kd.R_mono HO183.out (fun _ hk => hk.2))); (case aS => exact (keep_size (w := w) (g := g) (row := none) (qh HK.out))); (case aL => have := LMc169.out; omega); intro v185 w186 ho hb hg hat; rw [← Ny170.out] at ho; replace BK111 := q0 (blk_grown (g := gb111) (o := .cells #[.int .i64 t100, .slice Ao178 t108.length co178] 24 (0, 0)) (qk BK111.out) hg (Kd.R_ne HO183.out BK111.out (by decide))); replace BK112 := q0 (blk_grown (g := gb112) (o := .cells #[.int .i64 0, .slice none 0 0] 24 (0, 0)) (qk BK112.out) hg (Kd.R_ne HO183.out BK112.out (by decide))); replace HO114 := q0 (Kd.R_after (ok := (fun _ => True)) (qr HO114.out) hg hat); replace HB := q0 (below_weaken (qj HB.out HI0.out) HL.out hb); replace HI0 := q0 (IsSRd.grown (qi HI0.out) hg (IsSRd.own_ne HI0.out HO183.out (by decide))); replace HK := q0 (KeepBut.trans (qh HK.out) (KeepBut.of_grown hg g) (Kd.R_base2 HO183.out)); have HO187 := q0 (ho); clear HO183; clear ho hb hg hat; obtain ⟨Ao188, co188, eo188⟩ := Kd.R_slice HO187.out; subst eo188; obtain ⟨hcz189_0, hcz189_1, hfz189_0, hfz189_1⟩ := b2 BK111; have hnb190 := NB112_0.out; have hnc190 := NB0_112.out; obtain ⟨hcz191_0, hcz191_1, hfz191_0, hfz191_1⟩ := b2 BK112))
     refine bodyPost_ret (results_cell_row rfl _ _ gb112 24 #[.int .i64 t100, .slice Ao188 y170.length co188] (0, 0) _ rfl (by (with_reducible repeat (first | refine blk_drewN ?_ _ | refine blk_drew ?_ | refine blk_alloc ?_ _)); refine blk_put (cs := #[.int .i64 t100, .slice none 0 0]) ?_ 1 _ rfl; (with_reducible repeat (first | refine blk_drewN ?_ _ | refine blk_drew ?_ | refine blk_alloc ?_ _)); refine blk_put (cs := #[.int .i64 0, .slice none 0 0]) ?_ 0 _ rfl; (with_reducible repeat (first | refine blk_drewN ?_ _ | refine blk_drew ?_ | refine blk_alloc ?_ _)); refine blk_far ?_ NB112_111.out _; (with_reducible repeat (first | refine blk_drewN ?_ _ | refine blk_drew ?_ | refine blk_alloc ?_ _)); exact BK112.out) Tryd.underlying24 rfl (by kernel_rfl)) rfl ?_
     exact ⟨_, qe, by (with_reducible repeat (first | apply Kd.R_alloc | apply Kd.R_drewN | apply Kd.R_drew)); exact Kd.R_mono (Kd.R_far (p := ⟨gb112, 1, none⟩) (Kd.R_far (p := ⟨gb112, 0, none⟩) (Kd.R_far (p := ⟨gb111, 1, none⟩) (Kd.R_types (Kd.R_types HO187.out BK111.out (by decide)) BK112.out (by decide)) (fun _ hk => hk.1.2) (.slice Ao188 y170.length co188)) (fun _ hk => hk.2) (.int .i64 t100)) (fun _ hk => hk.2) (.slice Ao188 y170.length co188)) (fun _ hk => trivial), qi HI0.out, qj HB.out HI0.out, by repeat (first | (with_reducible first | exact HK.out | apply KeepBut.set_ | apply keep_drewN | apply keep_drew | apply keep_alloc | refine keep_far ?_ GW111.out _ | refine keep_far ?_ GW112.out _) | exact HK.out)⟩
   rw [if_pos c99] at H
   have c99b0 : (t101 == 4) = true := beq_iff_eq.mpr c99
   have c99b1 : (t101 != 4) = false := bne_eq_false_iff_eq.mpr c99
   clear c99
   by_cases c133 : (t108.length : Int) > 1
   rotate_left
   · rw [if_neg c133] at H
     have c133b0 := decide_eq_false c133
     have c133b1 : decide (1 < t108.length) = false := decide_eq_false (by omega)
     clear c133
     simp only [Option.some.injEq, Prod.mk.injEq] at H
     obtain ⟨rfl, rfl, rfl⟩ := H
     go_enter Tryd.func47, Tryd.ntmps47
     go_wp2_with (first | ((with_reducible refine gd 3 ?_); refine be 3 #[.int .i64 a1_0, .slice A1_1 l1_1.length c1_1] 24 ?_; intro gb111 hg w157 hbox hb; replace HB := q0 (below_step (qj HB.out HI0.out) hb); have BK111 := q0 (hbox); have GW111 := q0 ((by rw [hg]; exact (keep_size (w := w) (g := g) (row := none) (qh HK.out)) : w.heap.size ≤ gb111)); have GE111 := q0 ((Nat.le_trans HW0.out (by rw [hg]; exact (keep_size (w := w) (g := g) (row := none) (qh HK.out)) : w.heap.size ≤ gb111) : w0.heap.size ≤ gb111)); replace HK := q0 (KeepBut.trans (qh HK.out) (KeepBut.of_below hb g none) (.inl rfl)); have NB0_111 := q0 ((by rw [hg]; exact Nat.ne_of_lt (IsSRd.lt (show IsSRd w0 _ g s0_0 s0_1 from qi HI0.out)) : g ≠ gb111)); have NB111_0 := q0 ((by rw [hg]; exact Nat.ne_of_gt (IsSRd.lt (show IsSRd w0 _ g s0_0 s0_1 from qi HI0.out)) : gb111 ≠ g)); replace HI0 := q0 (IsSRd.below (qi HI0.out) hb); clear hb hbox hg) | ((with_reducible refine gd 4 ?_); refine be 4 #[.int .i64 0, .slice none 0 0] 24 ?_; intro gb112 hg w158 hbox hb; replace HB := q0 (below_step (qj HB.out HI0.out) hb); have BK112 := q0 (hbox); have GW112 := q0 ((by rw [hg]; exact (keep_size (w := w) (g := g) (row := none) (qh HK.out)) : w.heap.size ≤ gb112)); have GE112 := q0 ((Nat.le_trans HW0.out (by rw [hg]; exact (keep_size (w := w) (g := g) (row := none) (qh HK.out)) : w.heap.size ≤ gb112) : w0.heap.size ≤ gb112)); replace HK := q0 (KeepBut.trans (qh HK.out) (KeepBut.of_below hb g none) (.inl rfl)); have NB111_112 := nl BK111 hg; have NB112_111 := ng BK111 hg; replace BK111 := kd BK111 hb; have NB0_112 := q0 ((by rw [hg]; exact Nat.ne_of_lt (IsSRd.lt (show IsSRd w0 _ g s0_0 s0_1 from qi HI0.out)) : g ≠ gb112)); have NB112_0 := q0 ((by rw [hg]; exact Nat.ne_of_gt (IsSRd.lt (show IsSRd w0 _ g s0_0 s0_1 from qi HI0.out)) : gb112 ≠ g)); replace HI0 := q0 (IsSRd.below (qi HI0.out) hb); clear hb hbox hg; have hnb159 := NB111_112.out; have hnc159 := NB112_111.out; have hnb160 := NB111_0.out; have hnc160 := NB0_111.out; obtain ⟨hcz161_0, hcz161_1, hfz161_0, hfz161_1⟩ := b2 BK111) | ((with_reducible refine gf 60 ?_); refine gl 7 Tryd.func60 #[.agg #[.int .i64 a1_0, .slice A1_1 l1_1.length c1_1]] ?_; (with_reducible refine (spec_l1Copy.calls a1_0 _ _ l1_1 t100 t108 _ ?side1 ?side2 A3.out).mono ?_); (case side1 => exact Kd.C_foot_now HR1_1.out (qh HK.out)); (case side2 => exact HC1_1.out); rintro e w162 ⟨v113, rfl, ho0, hb⟩; refine ⟨_, rfl, ?_⟩; have HO114 := q0 (Kd.R_lower ho0 (keep_size (w := w) (g := g) (row := none) (qh HK.out))); replace BK111 := kd BK111 hb; replace BK112 := kd BK112 hb; replace HK := q0 (KeepBut.trans (qh HK.out) (KeepBut.of_below hb g none) (.inl rfl)); replace HB := q0 (below_step (qj HB.out HI0.out) hb); replace HI0 := q0 (IsSRd.below (qi HI0.out) hb); (try clear hb); (try clear hb2); (try clear hk); (try clear hi); (try clear ho0); obtain ⟨hcz163_0, hcz163_1, hfz163_0, hfz163_1⟩ := b2 BK111; obtain ⟨Ao164, co164, eo164⟩ := Kd.R_slice HO114.out; subst eo164) | ((with_reducible refine gf 38 ?_); refine gl 9 Tryd.func38 #[.pointer (some ⟨g, 0, none⟩), .int .i64 6] ?_; (with_reducible refine (spec_l6Rd_pick.calls k g s0_0 s0_1 6 t101 t109 w0 _ ?side1 ?side2 A4.out).mono ?_); (case side1 => exact qi HI0.out); (case side2 => exact qj HB.out HI0.out); rintro e w165 ⟨rfl, hi, hb, hk⟩; refine ⟨_, rfl, ?_⟩; replace BK112 := q0 (kc hk BK112.out NB112_0.out); replace HO114 := q0 (Kd.R_mono (Kd.R_keep (IsSRd.apart (show IsSRd w0 _ g s0_0 s0_1 from qi HI0.out) (by (with_reducible repeat (first | apply Kd.R_alloc | apply Kd.R_drewN | apply Kd.R_drew)); exact (rf2 HO114.out BK111.out (fun _ h_ => h_.1))) (by decide)) hk (fun _ h => h.2)) (fun _ h => h.1)); replace BK111 := q0 (KeepBut.blk hk (g' := gb111) (o := .cells #[.int .i64 t100, .slice Ao164 t108.length co164] 24 (0, 0)) (by (with_reducible repeat (first | refine blk_drewN ?_ _ | refine blk_drew ?_ | refine blk_alloc ?_ _)); refine blk_put (cs := #[.int .i64 t100, .slice A1_1 l1_1.length c1_1]) ?_ 1 _ rfl; (with_reducible repeat (first | refine blk_drewN ?_ _ | refine blk_drew ?_ | refine blk_alloc ?_ _)); refine blk_put (cs := #[.int .i64 a1_0, .slice A1_1 l1_1.length c1_1]) ?_ 0 _ rfl; (with_reducible repeat (first | refine blk_drewN ?_ _ | refine blk_drew ?_ | refine blk_alloc ?_ _)); exact BK111.out) NB111_0.out (by simp)); replace HK := q0 (KeepBut.trans (qh HK.out) hk (.inl rfl)); replace HB := q0 (hb); replace HI0 := q0 (hi); (try clear hb); (try clear hb2); (try clear hk); (try clear hi); obtain ⟨hcz166_0, hcz166_1, hfz166_0, hfz166_1⟩ := b2 BK111; have hnb167 := NB112_0.out; have hnc167 := NB0_112.out; obtain ⟨hcz168_0, hcz168_1, hfz168_0, hfz168_1⟩ := b2 BK112))
     refine bodyPost_ret (results_cell_row rfl _ _ gb112 24 #[.int .i64 t100, .slice Ao164 t108.length co164] (0, 0) _ rfl (by (with_reducible repeat (first | refine blk_drewN ?_ _ | refine blk_drew ?_ | refine blk_alloc ?_ _)); refine blk_put (cs := #[.int .i64 t100, .slice none 0 0]) ?_ 1 _ rfl; (with_reducible repeat (first | refine blk_drewN ?_ _ | refine blk_drew ?_ | refine blk_alloc ?_ _)); refine blk_put (cs := #[.int .i64 0, .slice none 0 0]) ?_ 0 _ rfl; (with_reducible repeat (first | refine blk_drewN ?_ _ | refine blk_drew ?_ | refine blk_alloc ?_ _)); exact BK112.out) Tryd.underlying24 rfl (by kernel_rfl)) rfl ?_
     exact ⟨_, qe, by (with_reducible repeat (first | apply Kd.R_alloc | apply Kd.R_drewN | apply Kd.R_drew)); exact rf2 HO114.out BK112.out (fun _ hk => trivial), qi HI0.out, qj HB.out HI0.out, by repeat (first | (with_reducible first | exact HK.out | apply KeepBut.set_ | apply keep_drewN | apply keep_drew | apply keep_alloc | refine keep_far ?_ GW111.out _ | refine keep_far ?_ GW112.out _) | exact HK.out)⟩
   rw [if_pos c133] at H
   have c133b0 := decide_eq_true c133
   have c133b1 : decide (1 < t108.length) = true := decide_eq_true (by omega)
   clear c133
   obtain ⟨c134, H⟩ : (0 < (t108.length : Int)) ∧ _ := og H
   have c134b0 := decide_eq_true c134
   have c134b1 : decide (0 < t108.length) = true := decide_eq_true (by omega)
   clear c134
   obtain ⟨c135, H⟩ : (t108.length < 8796093022208) ∧ _ := og H
   have LMc135 := q0 c135
   clear c135
   obtain ⟨y136, hy136⟩ : ∃ y_ : List (STie), y_ = (t108 ++ [(⟨(rd_TTie t108 0).f0, (rd_TTie t108 0).f1⟩ : STie)]) := ⟨_, rfl⟩
   replace H : (some (t100, y136, t109)) = some (r1, r2, r3) := qy H hy136
   have Ny136 := q0 hy136
   clear hy136
   simp only [Option.some.injEq, Prod.mk.injEq] at H
   obtain ⟨rfl, rfl, rfl⟩ := H
   go_enter Tryd.func47, Tryd.ntmps47
   try go_wp2_with (first | ((with_reducible refine gd 3 ?_); refine be 3 #[.int .i64 a1_0, .slice A1_1 l1_1.length c1_1] 24 ?_; intro gb111 hg w137 hbox hb; replace HB := q0 (below_step (qj HB.out HI0.out) hb); have BK111 := q0 (hbox); have GW111 := q0 ((by rw [hg]; exact (keep_size (w := w) (g := g) (row := none) (qh HK.out)) : w.heap.size ≤ gb111)); have GE111 := q0 ((Nat.le_trans HW0.out (by rw [hg]; exact (keep_size (w := w) (g := g) (row := none) (qh HK.out)) : w.heap.size ≤ gb111) : w0.heap.size ≤ gb111)); replace HK := q0 (KeepBut.trans (qh HK.out) (KeepBut.of_below hb g none) (.inl rfl)); have NB0_111 := q0 ((by rw [hg]; exact Nat.ne_of_lt (IsSRd.lt (show IsSRd w0 _ g s0_0 s0_1 from qi HI0.out)) : g ≠ gb111)); have NB111_0 := q0 ((by rw [hg]; exact Nat.ne_of_gt (IsSRd.lt (show IsSRd w0 _ g s0_0 s0_1 from qi HI0.out)) : gb111 ≠ g)); replace HI0 := q0 (IsSRd.below (qi HI0.out) hb); clear hb hbox hg) | ((with_reducible refine gd 4 ?_); refine be 4 #[.int .i64 0, .slice none 0 0] 24 ?_; intro gb112 hg w138 hbox hb; replace HB := q0 (below_step (qj HB.out HI0.out) hb); have BK112 := q0 (hbox); have GW112 := q0 ((by rw [hg]; exact (keep_size (w := w) (g := g) (row := none) (qh HK.out)) : w.heap.size ≤ gb112)); have GE112 := q0 ((Nat.le_trans HW0.out (by rw [hg]; exact (keep_size (w := w) (g := g) (row := none) (qh HK.out)) : w.heap.size ≤ gb112) : w0.heap.size ≤ gb112)); replace HK := q0 (KeepBut.trans (qh HK.out) (KeepBut.of_below hb g none) (.inl rfl)); have NB111_112 := nl BK111 hg; have NB112_111 := ng BK111 hg; replace BK111 := kd BK111 hb; have NB0_112 := q0 ((by rw [hg]; exact Nat.ne_of_lt (IsSRd.lt (show IsSRd w0 _ g s0_0 s0_1 from qi HI0.out)) : g ≠ gb112)); have NB112_0 := q0 ((by rw [hg]; exact Nat.ne_of_gt (IsSRd.lt (show IsSRd w0 _ g s0_0 s0_1 from qi HI0.out)) : gb112 ≠ g)); replace HI0 := q0 (IsSRd.below (qi HI0.out) hb); clear hb hbox hg; have hnb139 := NB111_112.out; have hnc139 := NB112_111.out; have hnb140 := NB111_0.out; have hnc140 := NB0_111.out; obtain ⟨hcz141_0, hcz141_1, hfz141_0, hfz141_1⟩ := b2 BK111) | ((with_reducible refine gf 60 ?_); refine gl 7 Tryd.func60 #[.agg #[.int .i64 a1_0, .slice A1_1 l1_1.length c1_1]] ?_; (with_reducible refine (spec_l1Copy.calls a1_0 _ _ l1_1 t100 t108 _ ?side1 ?side2 A3.out).mono ?_); (case side1 => exact Kd.C_foot_now HR1_1.out (qh HK.out)); (case side2 => exact HC1_1.out); rintro e w142 ⟨v113, rfl, ho0, hb⟩; refine ⟨_, rfl, ?_⟩; have HO114 := q0 (Kd.R_lower ho0 (keep_size (w := w) (g := g) (row := none) (qh HK.out))); replace BK111 := kd BK111 hb; replace BK112 := kd BK112 hb; replace HK := q0 (KeepBut.trans (qh HK.out) (KeepBut.of_below hb g none) (.inl rfl)); replace HB := q0 (below_step (qj HB.out HI0.out) hb); replace HI0 := q0 (IsSRd.below (qi HI0.out) hb); (try clear hb); (try clear hb2); (try clear hk); (try clear hi); (try clear ho0); obtain ⟨hcz143_0, hcz143_1, hfz143_0, hfz143_1⟩ := b2 BK111; obtain ⟨Ao144, co144, eo144⟩ := Kd.R_slice HO114.out; subst eo144) | ((with_reducible refine gf 38 ?_); refine gl 9 Tryd.func38 #[.pointer (some ⟨g, 0, none⟩), .int .i64 6] ?_; (with_reducible refine (spec_l6Rd_pick.calls k g s0_0 s0_1 6 t101 t109 w0 _ ?side1 ?side2 A4.out).mono ?_); (case side1 => exact qi HI0.out); (case side2 => exact qj HB.out HI0.out); rintro e w145 ⟨rfl, hi, hb, hk⟩; refine ⟨_, rfl, ?_⟩; replace BK112 := q0 (kc hk BK112.out NB112_0.out); replace HO114 := q0 (Kd.R_mono (Kd.R_keep (IsSRd.apart (show IsSRd w0 _ g s0_0 s0_1 from qi HI0.out) (by (with_reducible repeat (first | apply Kd.R_alloc | apply Kd.R_drewN | apply Kd.R_drew)); exact (rf2 HO114.out BK111.out (fun _ h_ => h_.1))) (by decide)) hk (fun _ h => h.2)) (fun _ h => h.1)); replace BK111 := q0 (KeepBut.blk hk (g' := gb111) (o := .cells #[.int .i64 t100, .slice Ao144 t108.length co144] 24 (0, 0)) (by (with_reducible repeat (first | refine blk_drewN ?_ _ | refine blk_drew ?_ | refine blk_alloc ?_ _)); refine blk_put (cs := #[.int .i64 t100, .slice A1_1 l1_1.length c1_1]) ?_ 1 _ rfl; (with_reducible repeat (first | refine blk_drewN ?_ _ | refine blk_drew ?_ | refine blk_alloc ?_ _)); refine blk_put (cs := #[.int .i64 a1_0, .slice A1_1 l1_1.length c1_1]) ?_ 0 _ rfl; (with_reducible repeat (first | refine blk_drewN ?_ _ | refine blk_drew ?_ | refine blk_alloc ?_ _)); exact BK111.out) NB111_0.out (by simp)); replace HK := q0 (KeepBut.trans (qh HK.out) hk (.inl rfl)); replace HB := q0 (hb); replace HI0 := q0 (hi); (try clear hb); (try clear hb2); (try clear hk); (try clear hi); obtain ⟨hcz146_0, hcz146_1, hfz146_0, hfz146_1⟩ := b2 BK111))
   replace HO114 := q0 (Kd.R_drew HO114.out)
   replace BK111 := q0 (blk_drew BK111.out)
   replace BK112 := q0 (blk_drew BK112.out)
   replace HI0 := q0 (IsSRd.drew HI0.out)
   replace HK := q0 (keep_drew HK.out)
   replace HB := q0 (below_drew1 HB.out)
   have p147 : 0 ≤ (0 : Int) := (by omega)
   have q147 : 0 < (t108.length : Int) := of_decide_eq_true qa
   obtain ⟨ad147, e147, hx147_0, hx147_1⟩ := at_TTie (Kd.R_reads' HO114.out).2.2 0 p147 q147
   cases e147
   have qi147 : (0 < t108.length) = True := eq_true (by omega)
   (try rw [show ((0 : Int)).toNat = 0 from rfl] at hx147_0)
   (try rw [show 0 * 2 = 0 from rfl] at hx147_0)
   (try rw [Addr.add_zero'] at hx147_0)
   (try rw [show ((0 : Int)).toNat = 0 from rfl] at hx147_1)
   (try rw [show 0 * 2 = 0 from rfl] at hx147_1)
   (try rw [Addr.add_zero'] at hx147_1)
   replace p147 := eq_true p147
   replace q147 := eq_true q147
   refine start_ (n := 10) (S := fun w' => w'.cell? ⟨gb111, 0, none⟩ = some (.int .i64 t100) ∧ w'.cell? ⟨gb111, 1, none⟩ = some (.slice (some ad147) t108.length co144) ∧ w'.cell? ad147 = some (.int .i64 ((rd_TTie t108 0).f0)) ∧ w'.cell? ⟨ad147.block, ad147.off + 1, none⟩ = some (.int .i64 ((rd_TTie t108 0).f1))) (ds := [7, 9]) (ba 10 0) (by kernel_rfl) rfl (by kernel_rfl) ⟨bca BK111, bcb BK111, hx147_0, hx147_1⟩ (fun hHeld => ?_); refine with_tabW spec_l71Spoil.tab16 spec_l71Spoil.bits16 (fun HT_ HW_ => ?_)
   generalize w145.drew = w148 at HO114 BK111 BK112 HI0 HK HB hx147_0 hx147_1 hHeld ⊢
   refine pU 0 83 10 1 HT_ ?_
   refine pU 2 85 10 5 HT_ ?_
   refine tU 1 84 10 7 HT_ HW_ hHeld ?_
   refine tU 3 86 10 15 HT_ HW_ hHeld ?_
   refine pU 4 87 10 31 HT_ ?_
   refine tU 5 88 10 63 HT_ HW_ hHeld ?_
   refine one_ (i := 6) (N := some 89) (ba 10 127) rfl rfl (one_of HT_.out (by kernel_rfl)) (by decide) (fun K hK => ?_)
   refine value_ (w1 := ?_) (v := ?_) (by rfl) rfl ?_ ?_
   rotate_left 2
   · go_simp
     constructor
     · rfl
     · rfl
   refine hK.out _ _ ⟨(blk_cell (blk_alloc BK111.out _) 0).trans rfl, (blk_cell (blk_alloc BK111.out _) 1).trans rfl, (World.cell?_alloc_lt _ _ _ (World.block_lt_of_cell? _ _ (hHeld.2.2.1))).trans (hHeld.2.2.1), (World.cell?_alloc_lt _ _ _ (World.block_lt_of_cell? _ _ (hHeld.2.2.2))).trans (hHeld.2.2.2)⟩ (fun hHeld => ?_)
   clear hK K
   refine nu 89 ?_
   refine last_ (i := 7) (N := some 90) (ba 10 255) rfl rfl (one_of HT_.out (by kernel_rfl)) (by decide) (fun K hK => ?_)
   refine Kd.R_append_step kTie w.heap.size (by rfl) (.tmp 84) (.tmp 89) 22 47 (.agg #[(.int .i64 0), (.int .i64 0)]) 16 rfl Tryd.underlying22 info47 rfl (by decide) (by omega) (.slice (some ad147) t108.length co144) t108 (⟨(rd_TTie t108 0).f0, (rd_TTie t108 0).f1⟩ : STie) [.int .i64 ((rd_TTie t108 0).f0), .int .i64 ((rd_TTie t108 0).f1)] (fun _ => True) (fun _ => False) rfl rfl ?aP (fun _ hk => hk.elim) ?aF ?aO (Below.refl _ _) ?aS ?aL ?_
   (case aP => exact kTie_mkM _ _ _ (⟨(rd_TTie t108 0).f0, (rd_TTie t108 0).f1⟩ : STie))
   (case aF => exact (fun _ _ => trivial))
   (case aO => exact (qr HO114.out))
   (case aS => exact (keep_size (w := w) (g := g) (row := none) (qh HK.out)))
   (case aL => have := LMc135.out; omega)
   intro v149 w150 ho hb hg hat
   rw [← Ny136.out] at ho
   replace BK111 := q0 (blk_grown (g := gb111) (o := .cells #[.int .i64 t100, .slice (some ad147) t108.length co144] 24 (0, 0)) (qk BK111.out) hg (Kd.R_ne HO114.out BK111.out (by decide)))
   replace BK112 := q0 (blk_grown (g := gb112) (o := .cells #[.int .i64 0, .slice none 0 0] 24 (0, 0)) (qk BK112.out) hg (Kd.R_ne HO114.out BK112.out (by decide)))
   replace HB := q0 (below_weaken (qj HB.out HI0.out) HL.out hb)
   replace HI0 := q0 (IsSRd.grown (qi HI0.out) hg (IsSRd.own_ne HI0.out HO114.out (by decide)))
   replace HK := q0 (KeepBut.trans (qh HK.out) (KeepBut.of_grown hg g) (Kd.R_base2 HO114.out))
   have HO151 := q0 (ho)
   clear HO114
   clear ho hb hg hat
   obtain ⟨Ao152, co152, eo152⟩ := Kd.R_slice HO151.out
   (first | subst eo152 | (injection eo152 with f1_ f2_ f3_; have f4_ := f1_.symm; have f5_ := f3_.symm; clear f1_ f2_ f3_; subst f4_; subst f5_))
   refine hK.out _ _ ?_
   clear hK K
   refine nu 90 ?_
   refine pU 8 91 10 511 HT_ ?_
   refine last_ (i := 9) (N := none) (ba 10 1023) rfl rfl (one_of HT_.out (by kernel_rfl)) (by decide) (fun K hK => ?_)
   have hs153 : w150.cell? ⟨gb111, 1, none⟩ = some (.slice (some ad147) t108.length co144) := (blk_cell BK111.out 1).trans rfl
   have hfs153 := blk_frozen BK111.out 1
   have hns153_1 := NB112_111.out
   have hms153_1 := NB111_112.out
   refine skip_ (w1 := ?_) (by rfl) rfl ?_ ?_
   rotate_left
   · go_simp
     rfl
   refine hK.out _ _ ?_
   clear hK K
   refine done_ (done_of HT_.out (by kernel_rfl)) ?_
   obtain ⟨hcz154_0, hcz154_1, hfz154_0, hfz154_1⟩ := b2 BK111
   have hnb155 := NB112_0.out
   have hnc155 := NB0_112.out
   obtain ⟨hcz156_0, hcz156_1, hfz156_0, hfz156_1⟩ := b2 BK112
   try go_wp2
   refine bodyPost_ret (results_cell_row rfl _ _ gb112 24 #[.int .i64 t100, .slice Ao152 y136.length co152] (0, 0) _ rfl (by (with_reducible repeat (first | refine blk_drewN ?_ _ | refine blk_drew ?_ | refine blk_alloc ?_ _)); refine blk_put (cs := #[.int .i64 t100, .slice none 0 0]) ?_ 1 _ rfl; (with_reducible repeat (first | refine blk_drewN ?_ _ | refine blk_drew ?_ | refine blk_alloc ?_ _)); refine blk_put (cs := #[.int .i64 0, .slice none 0 0]) ?_ 0 _ rfl; (with_reducible repeat (first | refine blk_drewN ?_ _ | refine blk_drew ?_ | refine blk_alloc ?_ _)); refine blk_far ?_ NB112_111.out _; (with_reducible repeat (first | refine blk_drewN ?_ _ | refine blk_drew ?_ | refine blk_alloc ?_ _)); exact BK112.out) Tryd.underlying24 rfl (by kernel_rfl)) rfl ?_
   exact ⟨_, qe, by (with_reducible repeat (first | apply Kd.R_alloc | apply Kd.R_drewN | apply Kd.R_drew)); exact Kd.R_mono (Kd.R_far (p := ⟨gb112, 1, none⟩) (Kd.R_far (p := ⟨gb112, 0, none⟩) (Kd.R_far (p := ⟨gb111, 1, none⟩) (Kd.R_types (Kd.R_types HO151.out BK111.out (by decide)) BK112.out (by decide)) (fun _ hk => hk.1.2) (.slice Ao152 y136.length co152)) (fun _ hk => hk.2) (.int .i64 t100)) (fun _ hk => hk.2) (.slice Ao152 y136.length co152)) (fun _ hk => trivial), qi HI0.out, qj HB.out HI0.out, by repeat (first | (with_reducible first | exact HK.out | apply KeepBut.set_ | apply keep_drewN | apply keep_drew | apply keep_alloc | refine keep_far ?_ GW111.out _ | refine keep_far ?_ GW112.out _) | exact HK.out)⟩
 rw [if_pos c64] at H
 have c64b0 : (t101 == 3) = true := beq_iff_eq.mpr c64
 have c64b1 : (t101 != 3) = false := bne_eq_false_iff_eq.mpr c64
 clear c64
 by_cases c65 : (t108.length : Int) > 0
 rotate_left
 · rw [if_neg c65] at H
   have c65b0 := decide_eq_false c65
   have c65b1 : decide (0 < t108.length) = false := decide_eq_false (by omega)
   clear c65
   simp only [Option.some.injEq, Prod.mk.injEq] at H
   obtain ⟨rfl, rfl, rfl⟩ := H
   go_enter Tryd.func47, Tryd.ntmps47
   go_wp2_with (first | ((with_reducible refine gd 3 ?_); refine be 3 #[.int .i64 a1_0, .slice A1_1 l1_1.length c1_1] 24 ?_; intro gb111 hg w87 hbox hb; replace HB := q0 (below_step (qj HB.out HI0.out) hb); have BK111 := q0 (hbox); have GW111 := q0 ((by rw [hg]; exact (keep_size (w := w) (g := g) (row := none) (qh HK.out)) : w.heap.size ≤ gb111)); have GE111 := q0 ((Nat.le_trans HW0.out (by rw [hg]; exact (keep_size (w := w) (g := g) (row := none) (qh HK.out)) : w.heap.size ≤ gb111) : w0.heap.size ≤ gb111)); replace HK := q0 (KeepBut.trans (qh HK.out) (KeepBut.of_below hb g none) (.inl rfl)); have NB0_111 := q0 ((by rw [hg]; exact Nat.ne_of_lt (IsSRd.lt (show IsSRd w0 _ g s0_0 s0_1 from qi HI0.out)) : g ≠ gb111)); have NB111_0 := q0 ((by rw [hg]; exact Nat.ne_of_gt (IsSRd.lt (show IsSRd w0 _ g s0_0 s0_1 from qi HI0.out)) : gb111 ≠ g)); replace HI0 := q0 (IsSRd.below (qi HI0.out) hb); clear hb hbox hg) | ((with_reducible refine gd 4 ?_); refine be 4 #[.int .i64 0, .slice none 0 0] 24 ?_; intro gb112 hg w88 hbox hb; replace HB := q0 (below_step (qj HB.out HI0.out) hb); have BK112 := q0 (hbox); have GW112 := q0 ((by rw [hg]; exact (keep_size (w := w) (g := g) (row := none) (qh HK.out)) : w.heap.size ≤ gb112)); have GE112 := q0 ((Nat.le_trans HW0.out (by rw [hg]; exact (keep_size (w := w) (g := g) (row := none) (qh HK.out)) : w.heap.size ≤ gb112) : w0.heap.size ≤ gb112)); replace HK := q0 (KeepBut.trans (qh HK.out) (KeepBut.of_below hb g none) (.inl rfl)); have NB111_112 := nl BK111 hg; have NB112_111 := ng BK111 hg; replace BK111 := kd BK111 hb; have NB0_112 := q0 ((by rw [hg]; exact Nat.ne_of_lt (IsSRd.lt (show IsSRd w0 _ g s0_0 s0_1 from qi HI0.out)) : g ≠ gb112)); have NB112_0 := q0 ((by rw [hg]; exact Nat.ne_of_gt (IsSRd.lt (show IsSRd w0 _ g s0_0 s0_1 from qi HI0.out)) : gb112 ≠ g)); replace HI0 := q0 (IsSRd.below (qi HI0.out) hb); clear hb hbox hg; have hnb89 := NB111_112.out; have hnc89 := NB112_111.out; have hnb90 := NB111_0.out; have hnc90 := NB0_111.out; obtain ⟨hcz91_0, hcz91_1, hfz91_0, hfz91_1⟩ := b2 BK111) | ((with_reducible refine gf 60 ?_); refine gl 7 Tryd.func60 #[.agg #[.int .i64 a1_0, .slice A1_1 l1_1.length c1_1]] ?_; (with_reducible refine (spec_l1Copy.calls a1_0 _ _ l1_1 t100 t108 _ ?side1 ?side2 A3.out).mono ?_); (case side1 => exact Kd.C_foot_now HR1_1.out (qh HK.out)); (case side2 => exact HC1_1.out); rintro e w92 ⟨v113, rfl, ho0, hb⟩; refine ⟨_, rfl, ?_⟩; have HO114 := q0 (Kd.R_lower ho0 (keep_size (w := w) (g := g) (row := none) (qh HK.out))); replace BK111 := kd BK111 hb; replace BK112 := kd BK112 hb; replace HK := q0 (KeepBut.trans (qh HK.out) (KeepBut.of_below hb g none) (.inl rfl)); replace HB := q0 (below_step (qj HB.out HI0.out) hb); replace HI0 := q0 (IsSRd.below (qi HI0.out) hb); (try clear hb); (try clear hb2); (try clear hk); (try clear hi); (try clear ho0); obtain ⟨hcz93_0, hcz93_1, hfz93_0, hfz93_1⟩ := b2 BK111; obtain ⟨Ao94, co94, eo94⟩ := Kd.R_slice HO114.out; subst eo94) | ((with_reducible refine gf 38 ?_); refine gl 9 Tryd.func38 #[.pointer (some ⟨g, 0, none⟩), .int .i64 6] ?_; (with_reducible refine (spec_l6Rd_pick.calls k g s0_0 s0_1 6 t101 t109 w0 _ ?side1 ?side2 A4.out).mono ?_); (case side1 => exact qi HI0.out); (case side2 => exact qj HB.out HI0.out); rintro e w95 ⟨rfl, hi, hb, hk⟩; refine ⟨_, rfl, ?_⟩; replace BK112 := q0 (kc hk BK112.out NB112_0.out); replace HO114 := q0 (Kd.R_mono (Kd.R_keep (IsSRd.apart (show IsSRd w0 _ g s0_0 s0_1 from qi HI0.out) (by (with_reducible repeat (first | apply Kd.R_alloc | apply Kd.R_drewN | apply Kd.R_drew)); exact (rf2 HO114.out BK111.out (fun _ h_ => h_.1))) (by decide)) hk (fun _ h => h.2)) (fun _ h => h.1)); replace BK111 := q0 (KeepBut.blk hk (g' := gb111) (o := .cells #[.int .i64 t100, .slice Ao94 t108.length co94] 24 (0, 0)) (by (with_reducible repeat (first | refine blk_drewN ?_ _ | refine blk_drew ?_ | refine blk_alloc ?_ _)); refine blk_put (cs := #[.int .i64 t100, .slice A1_1 l1_1.length c1_1]) ?_ 1 _ rfl; (with_reducible repeat (first | refine blk_drewN ?_ _ | refine blk_drew ?_ | refine blk_alloc ?_ _)); refine blk_put (cs := #[.int .i64 a1_0, .slice A1_1 l1_1.length c1_1]) ?_ 0 _ rfl; (with_reducible repeat (first | refine blk_drewN ?_ _ | refine blk_drew ?_ | refine blk_alloc ?_ _)); exact BK111.out) NB111_0.out (by simp)); replace HK := q0 (KeepBut.trans (qh HK.out) hk (.inl rfl)); replace HB := q0 (hb); replace HI0 := q0 (hi); (try clear hb); (try clear hb2); (try clear hk); (try clear hi); obtain ⟨hcz96_0, hcz96_1, hfz96_0, hfz96_1⟩ := b2 BK111; have hnb97 := NB112_0.out; have hnc97 := NB0_112.out; obtain ⟨hcz98_0, hcz98_1, hfz98_0, hfz98_1⟩ := b2 BK112))
   refine bodyPost_ret (results_cell_row rfl _ _ gb112 24 #[.int .i64 t100, .slice Ao94 t108.length co94] (0, 0) _ rfl (by (with_reducible repeat (first | refine blk_drewN ?_ _ | refine blk_drew ?_ | refine blk_alloc ?_ _)); refine blk_put (cs := #[.int .i64 t100, .slice none 0 0]) ?_ 1 _ rfl; (with_reducible repeat (first | refine blk_drewN ?_ _ | refine blk_drew ?_ | refine blk_alloc ?_ _)); refine blk_put (cs := #[.int .i64 0, .slice none 0 0]) ?_ 0 _ rfl; (with_reducible repeat (first | refine blk_drewN ?_ _ | refine blk_drew ?_ | refine blk_alloc ?_ _)); exact BK112.out) Tryd.underlying24 rfl (by kernel_rfl)) rfl ?_
   exact ⟨_, qe, by (with_reducible repeat (first | apply Kd.R_alloc | apply Kd.R_drewN | apply Kd.R_drew)); exact rf2 HO114.out BK112.out (fun _ hk => trivial), qi HI0.out, qj HB.out HI0.out, by repeat (first | (with_reducible first | exact HK.out | apply KeepBut.set_ | apply keep_drewN | apply keep_drew | apply keep_alloc | refine keep_far ?_ GW111.out _ | refine keep_far ?_ GW112.out _) | exact HK.out)⟩
 rw [if_pos c65] at H
 have c65b0 := decide_eq_true c65
 have c65b1 : decide (0 < t108.length) = true := decide_eq_true (by omega)
 clear c65
 obtain ⟨⟨t106, t128⟩, A66, H⟩ := ob H
 obtain ⟨c67, H⟩ : (0 ≤ t106) ∧ _ := og H
 have c67b0 := decide_eq_true c67
 clear c67
 obtain ⟨c68, H⟩ : (t106 < (t108.length : Int)) ∧ _ := og H
 have c68b0 := decide_eq_true c68
 clear c68
 obtain ⟨y130, hy130⟩ : ∃ y_ : List (STie), y_ = (t108.set (t106 : Int).toNat (⟨(rd_TTie t108 t106).f1, (rd_TTie t108 t106).f0⟩ : STie)) := ⟨_, rfl⟩
 replace H : (some (t100, y130, t128)) = some (r1, r2, r3) := qy H hy130
 have Ny130 := q0 hy130
 clear hy130
 simp only [Option.some.injEq, Prod.mk.injEq] at H
 obtain ⟨rfl, rfl, rfl⟩ := H
 go_enter Tryd.func47, Tryd.ntmps47
 try go_wp2_with (first | ((with_reducible refine gd 3 ?_); refine be 3 #[.int .i64 a1_0, .slice A1_1 l1_1.length c1_1] 24 ?_; intro gb111 hg w70 hbox hb; replace HB := q0 (below_step (qj HB.out HI0.out) hb); have BK111 := q0 (hbox); have GW111 := q0 ((by rw [hg]; exact (keep_size (w := w) (g := g) (row := none) (qh HK.out)) : w.heap.size ≤ gb111)); have GE111 := q0 ((Nat.le_trans HW0.out (by rw [hg]; exact (keep_size (w := w) (g := g) (row := none) (qh HK.out)) : w.heap.size ≤ gb111) : w0.heap.size ≤ gb111)); replace HK := q0 (KeepBut.trans (qh HK.out) (KeepBut.of_below hb g none) (.inl rfl)); have NB0_111 := q0 ((by rw [hg]; exact Nat.ne_of_lt (IsSRd.lt (show IsSRd w0 _ g s0_0 s0_1 from qi HI0.out)) : g ≠ gb111)); have NB111_0 := q0 ((by rw [hg]; exact Nat.ne_of_gt (IsSRd.lt (show IsSRd w0 _ g s0_0 s0_1 from qi HI0.out)) : gb111 ≠ g)); replace HI0 := q0 (IsSRd.below (qi HI0.out) hb); clear hb hbox hg) | ((with_reducible refine gd 4 ?_); refine be 4 #[.int .i64 0, .slice none 0 0] 24 ?_; intro gb112 hg w71 hbox hb; replace HB := q0 (below_step (qj HB.out HI0.out) hb); have BK112 := q0 (hbox); have GW112 := q0 ((by rw [hg]; exact (keep_size (w := w) (g := g) (row := none) (qh HK.out)) : w.heap.size ≤ gb112)); have GE112 := q0 ((Nat.le_trans HW0.out (by rw [hg]; exact (keep_size (w := w) (g := g) (row := none) (qh HK.out)) : w.heap.size ≤ gb112) : w0.heap.size ≤ gb112)); replace HK := q0 (KeepBut.trans (qh HK.out) (KeepBut.of_below hb g none) (.inl rfl)); have NB111_112 := nl BK111 hg; have NB112_111 := ng BK111 hg; replace BK111 := kd BK111 hb; have NB0_112 := q0 ((by rw [hg]; exact Nat.ne_of_lt (IsSRd.lt (show IsSRd w0 _ g s0_0 s0_1 from qi HI0.out)) : g ≠ gb112)); have NB112_0 := q0 ((by rw [hg]; exact Nat.ne_of_gt (IsSRd.lt (show IsSRd w0 _ g s0_0 s0_1 from qi HI0.out)) : gb112 ≠ g)); replace HI0 := q0 (IsSRd.below (qi HI0.out) hb); clear hb hbox hg; have hnb72 := NB111_112.out; have hnc72 := NB112_111.out; have hnb73 := NB111_0.out; have hnc73 := NB0_111.out; obtain ⟨hcz74_0, hcz74_1, hfz74_0, hfz74_1⟩ := b2 BK111) | ((with_reducible refine gf 60 ?_); refine gl 7 Tryd.func60 #[.agg #[.int .i64 a1_0, .slice A1_1 l1_1.length c1_1]] ?_; (with_reducible refine (spec_l1Copy.calls a1_0 _ _ l1_1 t100 t108 _ ?side1 ?side2 A3.out).mono ?_); (case side1 => exact Kd.C_foot_now HR1_1.out (qh HK.out)); (case side2 => exact HC1_1.out); rintro e w75 ⟨v113, rfl, ho0, hb⟩; refine ⟨_, rfl, ?_⟩; have HO114 := q0 (Kd.R_lower ho0 (keep_size (w := w) (g := g) (row := none) (qh HK.out))); replace BK111 := kd BK111 hb; replace BK112 := kd BK112 hb; replace HK := q0 (KeepBut.trans (qh HK.out) (KeepBut.of_below hb g none) (.inl rfl)); replace HB := q0 (below_step (qj HB.out HI0.out) hb); replace HI0 := q0 (IsSRd.below (qi HI0.out) hb); (try clear hb); (try clear hb2); (try clear hk); (try clear hi); (try clear ho0); obtain ⟨hcz76_0, hcz76_1, hfz76_0, hfz76_1⟩ := b2 BK111; obtain ⟨Ao77, co77, eo77⟩ := Kd.R_slice HO114.out; subst eo77) | ((with_reducible refine gf 38 ?_); refine gl 9 Tryd.func38 #[.pointer (some ⟨g, 0, none⟩), .int .i64 6] ?_; (with_reducible refine (spec_l6Rd_pick.calls k g s0_0 s0_1 6 t101 t109 w0 _ ?side1 ?side2 A4.out).mono ?_); (case side1 => exact qi HI0.out); (case side2 => exact qj HB.out HI0.out); rintro e w78 ⟨rfl, hi, hb, hk⟩; refine ⟨_, rfl, ?_⟩; replace BK112 := q0 (kc hk BK112.out NB112_0.out); replace HO114 := q0 (Kd.R_mono (Kd.R_keep (IsSRd.apart (show IsSRd w0 _ g s0_0 s0_1 from qi HI0.out) (by (with_reducible repeat (first | apply Kd.R_alloc | apply Kd.R_drewN | apply Kd.R_drew)); exact (rf2 HO114.out BK111.out (fun _ h_ => h_.1))) (by decide)) hk (fun _ h => h.2)) (fun _ h => h.1)); replace BK111 := q0 (KeepBut.blk hk (g' := gb111) (o := .cells #[.int .i64 t100, .slice Ao77 t108.length co77] 24 (0, 0)) (by (with_reducible repeat (first | refine blk_drewN ?_ _ | refine blk_drew ?_ | refine blk_alloc ?_ _)); refine blk_put (cs := #[.int .i64 t100, .slice A1_1 l1_1.length c1_1]) ?_ 1 _ rfl; (with_reducible repeat (first | refine blk_drewN ?_ _ | refine blk_drew ?_ | refine blk_alloc ?_ _)); refine blk_put (cs := #[.int .i64 a1_0, .slice A1_1 l1_1.length c1_1]) ?_ 0 _ rfl; (with_reducible repeat (first | refine blk_drewN ?_ _ | refine blk_drew ?_ | refine blk_alloc ?_ _)); exact BK111.out) NB111_0.out (by simp)); replace HK := q0 (KeepBut.trans (qh HK.out) hk (.inl rfl)); replace HB := q0 (hb); replace HI0 := q0 (hi); (try clear hb); (try clear hb2); (try clear hk); (try clear hi); obtain ⟨hcz79_0, hcz79_1, hfz79_0, hfz79_1⟩ := b2 BK111) | ((with_reducible refine gf 38 ?_); refine gl 59 Tryd.func38 #[.pointer (some ⟨g, 0, none⟩), .int .i64 (t108.length : Int)] ?_; (with_reducible refine (spec_l6Rd_pick.calls k g s0_0 t109 (t108.length : Int) t106 t128 w0 _ ?side1 ?side2 A66.out).mono ?_); (case side1 => exact qi HI0.out); (case side2 => exact qj HB.out HI0.out); rintro e w80 ⟨rfl, hi, hb, hk⟩; refine ⟨_, rfl, ?_⟩; replace BK111 := q0 (kc hk BK111.out NB111_0.out); replace BK112 := q0 (kc hk BK112.out NB112_0.out); replace HO114 := q0 (Kd.R_mono (Kd.R_keep (IsSRd.apart (show IsSRd w0 _ g s0_0 t109 from qi HI0.out) (qr HO114.out) (by decide)) hk (fun _ h => h.2)) (fun _ h => h.1)); replace HK := q0 (KeepBut.trans (qh HK.out) hk (.inl rfl)); replace HB := q0 (hb); replace HI0 := q0 (hi); (try clear hb); (try clear hb2); (try clear hk); (try clear hi)))
 replace HO114 := q0 (Kd.R_drew HO114.out)
 replace BK111 := q0 (blk_drew BK111.out)
 replace BK112 := q0 (blk_drew BK112.out)
 replace HI0 := q0 (IsSRd.drew HI0.out)
 replace HK := q0 (keep_drew HK.out)
 replace HB := q0 (below_drew1 HB.out)
 have p131 : 0 ≤ (t106 : Int) := of_decide_eq_true qa
 have q131 : t106 < (t108.length : Int) := of_decide_eq_true qa
 obtain ⟨ad131, e131, hx131_0, hx131_1⟩ := at_TTie (Kd.R_reads' HO114.out).2.2 t106 p131 q131
 cases e131
 replace p131 := eq_true p131
 replace q131 := eq_true q131
 have p132 : 0 ≤ (t106 : Int) := of_decide_eq_true qa
 have q132 : t106 < (t108.length : Int) := of_decide_eq_true qa
 obtain ⟨ad132, e132, hx132_0, hx132_1⟩ := at_TTie (Kd.R_reads' HO114.out).2.2 t106 p132 q132
 obtain rfl : ad131 = ad132 := (by injection e132)
 replace p132 := eq_true p132
 replace q132 := eq_true q132
 have p69 : 0 ≤ (t106 : Int) := of_decide_eq_true qa
 have q69 : (t106 : Int) < ((t108.length : Int) : Int) := of_decide_eq_true qa
 obtain ⟨go69, co69, eo69, gb69, gl69, cl69, HG69⟩ := Kd.R_form HO114.out (by omega)
 (first | cases eo69 | (injection eo69 with ea_ en_ ec_; (first | subst ea_ | (injection ea_ with ea_; subst ea_)); subst ec_; clear en_))
 have GB69 := q0 gb69
 have GG69 := q0 HG69
 clear gb69 gl69 HG69
 (first | simp only [add_plain] at hx131_0 | skip)
 (first | simp only [add_plain] at hx131_1 | skip)
 (first | simp only [add_plain] at hx132_0 | skip)
 (first | simp only [add_plain] at hx132_1 | skip)
 obtain ⟨ce69, hcl69, hM69, hcc69, hfr69⟩ := Kd.R_elem HO114.out zTie (t106 : Int) p69 q69
 obtain rfl := kTie_openM hM69
 have hx69_0 : World.cell? _ ⟨go69, (t106 : Int).toNat * 2, none⟩ = some (.int .i64 ((rd_TTie t108 t106).f0)) := hcc69 0 _ rfl
 have hx69_1 : World.cell? _ ⟨go69, (t106 : Int).toNat * 2 + 1, none⟩ = some (.int .i64 ((rd_TTie t108 t106).f1)) := hcc69 1 _ rfl
 have hf69_0 : World.frozen? _ ⟨go69, (t106 : Int).toNat * 2, none⟩ = false := hfr69 0
 have hf69_1 : World.frozen? _ ⟨go69, (t106 : Int).toNat * 2 + 1, none⟩ = false := hfr69 1
 clear hcl69 hcc69 hfr69 hM69
 replace p69 := eq_true p69
 replace q69 := eq_true q69
 have HN0_go69 := q0 (show g ≠ go69 from by have h_ := IsSRd.own_ne HI0.out HO114.out (by decide); intro e_; exact h_ (by rw [e_]; rfl))
 obtain ⟨ce82, hcl82, hM82, hcc82, hfr82⟩ := Kd.R_elem HO114.out zTie (t106 : Int) (of_decide_eq_true qa) (by have h_ : (t106 : Int) < ((t108.length : Int) : Int) := of_decide_eq_true qa; first | exact h_ | (have e_ := (Kd.R_reads' HO114.out).1; omega) | simpa using h_)
 obtain rfl := kTie_openM hM82
 have HP82 := (Kd.R_seg HO114.out (t106 : Int) (of_decide_eq_true qa) (by have h_ : (t106 : Int) < ((t108.length : Int) : Int) := of_decide_eq_true qa; first | exact h_ | (have e_ := (Kd.R_reads' HO114.out).1; omega) | simpa using h_) (seg := [.int .i64 ((rd_TTie t108 t106).f1), .int .i64 ((rd_TTie t108 t106).f0)]) (j := 0) hcl82 hcc82 (show 2 ≤ 2 from by decide) (x' := (⟨(rd_TTie t108 t106).f1, (rd_TTie t108 t106).f0⟩ : STie)) (kTie_mkM _ _ _ (⟨(rd_TTie t108 t106).f1, (rd_TTie t108 t106).f0⟩ : STie) ) (fun _ hk => hk)).1
 rw [← Ny130.out] at HP82
 have HQ82 := q0 HP82
 clear hcl82 hcc82 hfr82 hM82 HP82
 refine start_ (n := 18) (S := fun w' => w'.cell? ⟨gb111, 0, none⟩ = some (.int .i64 t100) ∧ w'.cell? ⟨gb111, 1, none⟩ = some (.slice (some ⟨go69, 0, none⟩) t108.length co77) ∧ w'.cell? ⟨go69, ((t106).toNat * 2), none⟩ = some (.int .i64 ((rd_TTie t108 t106).f0)) ∧ w'.cell? ⟨go69, ((t106).toNat * 2) + 1, none⟩ = some (.int .i64 ((rd_TTie t108 t106).f1)) ∧ w'.cell? ⟨go69, ((t106).toNat * 2), none⟩ = some (.int .i64 ((rd_TTie t108 t106).f0)) ∧ w'.cell? ⟨go69, ((t106).toNat * 2) + 1, none⟩ = some (.int .i64 ((rd_TTie t108 t106).f1))) (ds := [17]) (ba 18 0) (by kernel_rfl) rfl (by kernel_rfl) ⟨bca BK111, bcb BK111, hx131_0, hx131_1, hx132_0, hx132_1⟩ (fun hHeld => ?_); refine with_tabW spec_l71Spoil.tab13 spec_l71Spoil.bits13 (fun HT_ HW_ => ?_)
 generalize w80.drew = w81 at HO114 BK111 BK112 HI0 HK HB GG69 HQ82 hf69_0 hf69_1 hx131_0 hx131_1 hx132_0 hx132_1 hx69_0 hx69_1 hHeld ⊢
 refine pU 0 60 18 1 HT_ ?_
 refine pU 2 62 18 5 HT_ ?_
 refine pU 3 63 18 13 HT_ ?_
 refine pU 5 65 18 45 HT_ ?_
 refine pU 9 69 18 557 HT_ ?_
 refine pU 11 71 18 2605 HT_ ?_
 refine tU 1 61 18 2607 HT_ HW_ hHeld ?_
 refine tU 4 64 18 2623 HT_ HW_ hHeld ?_
 refine pU 6 66 18 2687 HT_ ?_
 refine pU 7 67 18 2815 HT_ ?_
 refine tU 8 68 18 3071 HT_ HW_ hHeld ?_
 refine tU 10 70 18 4095 HT_ HW_ hHeld ?_
 refine pU 12 72 18 8191 HT_ ?_
 refine pU 13 73 18 16383 HT_ ?_
 refine tU 14 74 18 32767 HT_ HW_ hHeld ?_
 refine pU 15 75 18 65535 HT_ ?_
 refine pU 16 76 18 131071 HT_ ?_
 refine last_ (i := 17) (N := none) (ba 18 262143) rfl rfl (one_of HT_.out (by kernel_rfl)) (by decide) (fun K hK => ?_)
 refine skip_ (w1 := ?_) (by rfl) rfl ?_ ?_
 rotate_left
 · go_simp
   rfl
 refine hK.out _ _ ?_
 clear hK K
 refine done_ (done_of HT_.out (by kernel_rfl)) ?_
 have n0_ : Aside0 (Kd.R kTie 47 ((w81.setCell ⟨go69, (t106 : Int).toNat * 2, none⟩ (.int .i64 ((rd_TTie t108 t106).f1))).setCell ⟨go69, (t106 : Int).toNat * 2 + 1, none⟩ (.int .i64 ((rd_TTie t108 t106).f0))) w.heap.size (fun _ => True) (.slice (some ⟨go69, 0, none⟩) t108.length co77) y130) := ⟨by (with_reducible repeat (first | apply Kd.R_alloc | apply Kd.R_drewN | apply Kd.R_drew)); exact HQ82.out⟩
 have n1_ : Aside0 (((w81.setCell ⟨go69, (t106 : Int).toNat * 2, none⟩ (.int .i64 ((rd_TTie t108 t106).f1))).setCell ⟨go69, (t106 : Int).toNat * 2 + 1, none⟩ (.int .i64 ((rd_TTie t108 t106).f0))).heap[gb111]? = some (.cells #[.int .i64 t100, .slice (some ⟨go69, 0, none⟩) t108.length co77] 24 (0, 0))) := ⟨by (with_reducible repeat (first | refine blk_drewN ?_ _ | refine blk_drew ?_ | refine blk_alloc ?_ _)); refine blk_far ?_ (by have h_ := Kd.R_ne HO114.out BK111.out (by decide); intro e_; exact h_ (by rw [e_]; rfl)) _; (with_reducible repeat (first | refine blk_drewN ?_ _ | refine blk_drew ?_ | refine blk_alloc ?_ _)); refine blk_far ?_ (by have h_ := Kd.R_ne HO114.out BK111.out (by decide); intro e_; exact h_ (by rw [e_]; rfl)) _; (with_reducible repeat (first | refine blk_drewN ?_ _ | refine blk_drew ?_ | refine blk_alloc ?_ _)); exact BK111.out⟩
 have n2_ : Aside0 (((w81.setCell ⟨go69, (t106 : Int).toNat * 2, none⟩ (.int .i64 ((rd_TTie t108 t106).f1))).setCell ⟨go69, (t106 : Int).toNat * 2 + 1, none⟩ (.int .i64 ((rd_TTie t108 t106).f0))).heap[gb112]? = some (.cells #[.int .i64 0, .slice none 0 0] 24 (0, 0))) := ⟨by (with_reducible repeat (first | refine blk_drewN ?_ _ | refine blk_drew ?_ | refine blk_alloc ?_ _)); refine blk_far ?_ (by have h_ := Kd.R_ne HO114.out BK112.out (by decide); intro e_; exact h_ (by rw [e_]; rfl)) _; (with_reducible repeat (first | refine blk_drewN ?_ _ | refine blk_drew ?_ | refine blk_alloc ?_ _)); refine blk_far ?_ (by have h_ := Kd.R_ne HO114.out BK112.out (by decide); intro e_; exact h_ (by rw [e_]; rfl)) _; (with_reducible repeat (first | refine blk_drewN ?_ _ | refine blk_drew ?_ | refine blk_alloc ?_ _)); exact BK112.out⟩
 have n3_ : Aside0 (IsSRd w0 ((w81.setCell ⟨go69, (t106 : Int).toNat * 2, none⟩ (.int .i64 ((rd_TTie t108 t106).f1))).setCell ⟨go69, (t106 : Int).toNat * 2 + 1, none⟩ (.int .i64 ((rd_TTie t108 t106).f0))) g s0_0 t128) := ⟨by repeat (first | (with_reducible first | exact HI0.out | apply IsSRd.alloc | apply IsSRd.drewN | apply IsSRd.drew | apply IsSRd.set_1 | refine IsSRd.far ?_ HN0_go69.out _ | refine IsSRd.far ?_ HN0_go69.out _ | refine IsSRd.far ?_ NB0_111.out _ | refine IsSRd.far ?_ NB0_112.out _) | exact HI0.out)⟩
 have n4_ : Aside0 (KeepBut w ((w81.setCell ⟨go69, (t106 : Int).toNat * 2, none⟩ (.int .i64 ((rd_TTie t108 t106).f1))).setCell ⟨go69, (t106 : Int).toNat * 2 + 1, none⟩ (.int .i64 ((rd_TTie t108 t106).f0))) g none) := ⟨by repeat (first | (with_reducible first | exact HK.out | apply KeepBut.set_ | apply keep_drewN | apply keep_drew | apply keep_alloc | refine keep_far ?_ GB69.out _ | refine keep_far ?_ GB69.out _ | refine keep_far ?_ GW111.out _ | refine keep_far ?_ GW112.out _) | exact HK.out)⟩
 have n5_ : Aside0 (Below w0.heap.size w0 ((w81.setCell ⟨go69, (t106 : Int).toNat * 2, none⟩ (.int .i64 ((rd_TTie t108 t106).f1))).setCell ⟨go69, (t106 : Int).toNat * 2 + 1, none⟩ (.int .i64 ((rd_TTie t108 t106).f0)))) := ⟨by repeat (first | (with_reducible first | exact HB.out | apply below_alloc | apply pw_below_drewN | apply below_drew1 | refine below_set ?_ (Nat.le_trans HL.out GB69.out) | refine below_set ?_ (Nat.le_trans HL.out GB69.out) | refine below_set ?_ (IsSRd.ge HI0.out) | refine below_set ?_ GE111.out | refine below_set ?_ GE112.out) | exact HB.out)⟩
 (try clear HO114)
 (try clear BK111)
 (try clear BK112)
 (try clear HI0)
 (try clear HK)
 (try clear HB)
 generalize ((w81.setCell ⟨go69, (t106 : Int).toNat * 2, none⟩ (.int .i64 ((rd_TTie t108 t106).f1))).setCell ⟨go69, (t106 : Int).toNat * 2 + 1, none⟩ (.int .i64 ((rd_TTie t108 t106).f0))) = w83 at n0_ n1_ n2_ n3_ n4_ n5_ ⊢
 have HO114 := n0_
 have BK111 := n1_
 have BK112 := n2_
 have HI0 := n3_
 have HK := n4_
 have HB := n5_
 clear n0_ n1_ n2_ n3_ n4_ n5_
 obtain ⟨hcz84_0, hcz84_1, hfz84_0, hfz84_1⟩ := b2 BK111
 have hnb85 := NB112_0.out
 have hnc85 := NB0_112.out
 obtain ⟨hcz86_0, hcz86_1, hfz86_0, hfz86_1⟩ := b2 BK112
 try go_wp2
 refine bodyPost_ret (results_cell_row rfl _ _ gb112 24 #[.int .i64 t100, .slice (some ⟨go69, 0, none⟩) t108.length co77] (0, 0) _ rfl (by (with_reducible repeat (first | refine blk_drewN ?_ _ | refine blk_drew ?_ | refine blk_alloc ?_ _)); refine blk_put (cs := #[.int .i64 t100, .slice none 0 0]) ?_ 1 _ rfl; (with_reducible repeat (first | refine blk_drewN ?_ _ | refine blk_drew ?_ | refine blk_alloc ?_ _)); refine blk_put (cs := #[.int .i64 0, .slice none 0 0]) ?_ 0 _ rfl; (with_reducible repeat (first | refine blk_drewN ?_ _ | refine blk_drew ?_ | refine blk_alloc ?_ _)); exact BK112.out) Tryd.underlying24 rfl (by kernel_rfl)) rfl ?_
 exact ⟨_, qe, by (with_reducible repeat (first | apply Kd.R_alloc | apply Kd.R_drewN | apply Kd.R_drew)); exact rf2 HO114.out BK112.out (fun _ hk => trivial), qi HI0.out, qj HB.out HI0.out, by repeat (first | (with_reducible first | exact HK.out | apply KeepBut.set_ | apply keep_drewN | apply keep_drew | apply keep_alloc | refine keep_far ?_ GW111.out _ | refine keep_far ?_ GW112.out _) | exact HK.out)⟩

set_option maxHeartbeats 8000000 in
set_option maxRecDepth 100000 in
theorem spec_l71Any.calls (k : Nat) (g : Nat) (s0_0 : List Int) (s0_1 : Int) (r1 : Int) (r2 : List (STie)) (r3 : Int) (w0 w : World) (hI : IsSRd w0 w g s0_0 s0_1) (hB : Below w0.heap.size w0 w) (h : spec_l71Any.f k s0_0 s0_1 = some (r1, r2, r3)) :
    Calls Tryd.prog 29 #[.pointer (some ⟨g, 0, none⟩)] w fun e w' => ∃ v1_ : Value, e = .returned (.agg #[.int .i64 r1, v1_]) ∧ Kd.R kTie 47 w' w.heap.size (fun _ => True) v1_ r2 ∧ IsSRd w0 w' g s0_0 r3 ∧ Below w0.heap.size w0 w' ∧ KeepBut w w' g none := by
 have hu24 := Tryd.underlying24
 have HI0 := q0 hI
 have HK := q0 (KeepBut.refl w g none)
 have HL := q0 hB.size
 clear hI
 have HW0 := q0 hB.size
 have HB := q0 hB
 clear hB
 have H : ((spec_l71Net.f k s0_0 s0_1).bind fun bt100 => ((spec_l6Rd_pick.f k s0_0 bt100.2.2 12).bind fun bt101 => (if bt101.1 = 0 then ((spec_l71Spoil.f k s0_0 bt101.2 bt100.1 bt100.2.1).bind fun bt102 => (some (bt102.1, bt102.2.1, bt102.2.2))) else (some (bt100.1, bt100.2.1, bt101.2))))) = some (r1, r2, r3) := h
 clear h
 obtain ⟨⟨t100, t103, t104⟩, A2, H⟩ := ob H
 obtain ⟨⟨t101, t105⟩, A3, H⟩ := ob H
 by_cases c4 : t101 = 0
 rotate_left
 · rw [if_neg c4] at H
   have c4b0 : (t101 == 0) = false := beq_eq_false_iff_ne.mpr c4
   have c4b1 : (t101 != 0) = true := bne_iff_ne.mpr c4
   simp only [Option.some.injEq, Prod.mk.injEq] at H
   obtain ⟨rfl, rfl, rfl⟩ := H
   go_enter Tryd.func29, Tryd.ntmps29
   go_wp2_with (first | ((with_reducible refine gd 2 ?_); refine be 2 #[.int .i64 0, .slice none 0 0] 24 ?_; intro gb108 hg w19 hbox hb; replace HB := q0 (below_step (qj HB.out HI0.out) hb); have BK108 := q0 (hbox); have GW108 := q0 ((by rw [hg]; exact (keep_size (w := w) (g := g) (row := none) (qh HK.out)) : w.heap.size ≤ gb108)); have GE108 := q0 ((Nat.le_trans HW0.out (by rw [hg]; exact (keep_size (w := w) (g := g) (row := none) (qh HK.out)) : w.heap.size ≤ gb108) : w0.heap.size ≤ gb108)); replace HK := q0 (KeepBut.trans (qh HK.out) (KeepBut.of_below hb g none) (.inl rfl)); have NB0_108 := q0 ((by rw [hg]; exact Nat.ne_of_lt (IsSRd.lt (show IsSRd w0 _ g s0_0 s0_1 from qi HI0.out)) : g ≠ gb108)); have NB108_0 := q0 ((by rw [hg]; exact Nat.ne_of_gt (IsSRd.lt (show IsSRd w0 _ g s0_0 s0_1 from qi HI0.out)) : gb108 ≠ g)); replace HI0 := q0 (IsSRd.below (qi HI0.out) hb); clear hb hbox hg) | ((with_reducible refine gf 37 ?_); refine gl 5 Tryd.func37 #[.pointer (some ⟨g, 0, none⟩)] ?_; (with_reducible refine (spec_l71Net.calls k g s0_0 s0_1 t100 t103 t104 w0 _ ?side1 ?side2 A2.out).mono ?_); (case side1 => exact qi HI0.out); (case side2 => exact qj HB.out HI0.out); rintro e w20 ⟨v109, rfl, ho0, hi, hb, hk⟩; refine ⟨_, rfl, ?_⟩; replace BK108 := q0 (kc hk BK108.out NB108_0.out); have HO110 := q0 (Kd.R_lower ho0 (keep_size (w := w) (g := g) (row := none) (qh HK.out))); replace HK := q0 (KeepBut.trans (qh HK.out) hk (.inl rfl)); replace HB := q0 (hb); replace HI0 := q0 (hi); (try clear hb); (try clear hb2); (try clear hk); (try clear hi); (try clear ho0)) | ((with_reducible refine gd 3 ?_); refine be 3 #[.int .i64 0, .slice none 0 0] 24 ?_; intro gb111 hg w21 hbox hb; replace HO110 := q0 (Kd.R_below (qr HO110.out) hb); replace HB := q0 (below_step (qj HB.out HI0.out) hb); have BK111 := q0 (hbox); have GW111 := q0 ((by rw [hg]; exact (keep_size (w := w) (g := g) (row := none) (qh HK.out)) : w.heap.size ≤ gb111)); have GE111 := q0 ((Nat.le_trans HW0.out (by rw [hg]; exact (keep_size (w := w) (g := g) (row := none) (qh HK.out)) : w.heap.size ≤ gb111) : w0.heap.size ≤ gb111)); replace HK := q0 (KeepBut.trans (qh HK.out) (KeepBut.of_below hb g none) (.inl rfl)); have NB108_111 := nl BK108 hg; have NB111_108 := ng BK108 hg; replace BK108 := kd BK108 hb; have NB0_111 := q0 ((by rw [hg]; exact Nat.ne_of_lt (IsSRd.lt (show IsSRd w0 _ g s0_0 t104 from qi HI0.out)) : g ≠ gb111)); have NB111_0 := q0 ((by rw [hg]; exact Nat.ne_of_gt (IsSRd.lt (show IsSRd w0 _ g s0_0 t104 from qi HI0.out)) : gb111 ≠ g)); replace HI0 := q0 (IsSRd.below (qi HI0.out) hb); clear hb hbox hg; have hnb22 := NB111_108.out; have hnc22 := NB108_111.out; have hnb23 := NB111_0.out; have hnc23 := NB0_111.out; obtain ⟨hcz24_0, hcz24_1, hfz24_0, hfz24_1⟩ := b2 BK111; obtain ⟨Ao25, co25, eo25⟩ := Kd.R_slice HO110.out; subst eo25) | ((with_reducible refine gf 38 ?_); refine gl 7 Tryd.func38 #[.pointer (some ⟨g, 0, none⟩), .int .i64 12] ?_; (with_reducible refine (spec_l6Rd_pick.calls k g s0_0 t104 12 t101 t105 w0 _ ?side1 ?side2 A3.out).mono ?_); (case side1 => exact qi HI0.out); (case side2 => exact qj HB.out HI0.out); rintro e w26 ⟨rfl, hi, hb, hk⟩; refine ⟨_, rfl, ?_⟩; replace BK108 := q0 (kc hk BK108.out NB108_0.out); replace HO110 := q0 (Kd.R_mono (Kd.R_keep (IsSRd.apart (show IsSRd w0 _ g s0_0 t104 from qi HI0.out) (by (with_reducible repeat (first | apply Kd.R_alloc | apply Kd.R_drewN | apply Kd.R_drew)); exact (rf2 HO110.out BK111.out (fun _ h_ => h_.1))) (by decide)) hk (fun _ h => h.2)) (fun _ h => h.1)); replace BK111 := q0 (KeepBut.blk hk (g' := gb111) (o := .cells #[.int .i64 t100, .slice Ao25 t103.length co25] 24 (0, 0)) (by (with_reducible repeat (first | refine blk_drewN ?_ _ | refine blk_drew ?_ | refine blk_alloc ?_ _)); refine blk_put (cs := #[.int .i64 t100, .slice none 0 0]) ?_ 1 _ rfl; (with_reducible repeat (first | refine blk_drewN ?_ _ | refine blk_drew ?_ | refine blk_alloc ?_ _)); refine blk_put (cs := #[.int .i64 0, .slice none 0 0]) ?_ 0 _ rfl; (with_reducible repeat (first | refine blk_drewN ?_ _ | refine blk_drew ?_ | refine blk_alloc ?_ _)); exact BK111.out) NB111_0.out (by simp)); replace HK := q0 (KeepBut.trans (qh HK.out) hk (.inl rfl)); replace HB := q0 (hb); replace HI0 := q0 (hi); (try clear hb); (try clear hb2); (try clear hk); (try clear hi); obtain ⟨hcz27_0, hcz27_1, hfz27_0, hfz27_1⟩ := b2 BK111; have hnb28 := NB108_0.out; have hnc28 := NB0_108.out; obtain ⟨hcz29_0, hcz29_1, hfz29_0, hfz29_1⟩ := b2 BK108))
   refine bodyPost_ret (results_cell_row rfl _ _ gb108 24 #[.int .i64 t100, .slice Ao25 t103.length co25] (0, 0) _ rfl (by (with_reducible repeat (first | refine blk_drewN ?_ _ | refine blk_drew ?_ | refine blk_alloc ?_ _)); refine blk_put (cs := #[.int .i64 t100, .slice none 0 0]) ?_ 1 _ rfl; (with_reducible repeat (first | refine blk_drewN ?_ _ | refine blk_drew ?_ | refine blk_alloc ?_ _)); refine blk_put (cs := #[.int .i64 0, .slice none 0 0]) ?_ 0 _ rfl; (with_reducible repeat (first | refine blk_drewN ?_ _ | refine blk_drew ?_ | refine blk_alloc ?_ _)); exact BK108.out) Tryd.underlying24 rfl (by kernel_rfl)) rfl ?_
   exact ⟨_, qe, by (with_reducible repeat (first | apply Kd.R_alloc | apply Kd.R_drewN | apply Kd.R_drew)); exact rf2 HO110.out BK108.out (fun _ hk => trivial), qi HI0.out, qj HB.out HI0.out, by repeat (first | (with_reducible first | exact HK.out | apply KeepBut.set_ | apply keep_drewN | apply keep_drew | apply keep_alloc | refine keep_far ?_ GW108.out _ | refine keep_far ?_ GW111.out _) | exact HK.out)⟩
 rw [if_pos c4] at H
 have c4b0 : (t101 == 0) = true := beq_iff_eq.mpr c4
 have c4b1 : (t101 != 0) = false := bne_eq_false_iff_eq.mpr c4
 clear c4
 obtain ⟨⟨t102, t106, t107⟩, A5, H⟩ := ob H
 simp only [Option.some.injEq, Prod.mk.injEq] at H
 obtain ⟨rfl, rfl, rfl⟩ := H
 go_enter Tryd.func29, Tryd.ntmps29
 go_wp2_with (first | ((with_reducible refine gd 2 ?_); refine be 2 #[.int .i64 0, .slice none 0 0] 24 ?_; intro gb108 hg w6 hbox hb; replace HB := q0 (below_step (qj HB.out HI0.out) hb); have BK108 := q0 (hbox); have GW108 := q0 ((by rw [hg]; exact (keep_size (w := w) (g := g) (row := none) (qh HK.out)) : w.heap.size ≤ gb108)); have GE108 := q0 ((Nat.le_trans HW0.out (by rw [hg]; exact (keep_size (w := w) (g := g) (row := none) (qh HK.out)) : w.heap.size ≤ gb108) : w0.heap.size ≤ gb108)); replace HK := q0 (KeepBut.trans (qh HK.out) (KeepBut.of_below hb g none) (.inl rfl)); have NB0_108 := q0 ((by rw [hg]; exact Nat.ne_of_lt (IsSRd.lt (show IsSRd w0 _ g s0_0 s0_1 from qi HI0.out)) : g ≠ gb108)); have NB108_0 := q0 ((by rw [hg]; exact Nat.ne_of_gt (IsSRd.lt (show IsSRd w0 _ g s0_0 s0_1 from qi HI0.out)) : gb108 ≠ g)); replace HI0 := q0 (IsSRd.below (qi HI0.out) hb); clear hb hbox hg) | ((with_reducible refine gf 37 ?_); refine gl 5 Tryd.func37 #[.pointer (some ⟨g, 0, none⟩)] ?_; (with_reducible refine (spec_l71Net.calls k g s0_0 s0_1 t100 t103 t104 w0 _ ?side1 ?side2 A2.out).mono ?_); (case side1 => exact qi HI0.out); (case side2 => exact qj HB.out HI0.out); rintro e w7 ⟨v109, rfl, ho0, hi, hb, hk⟩; refine ⟨_, rfl, ?_⟩; replace BK108 := q0 (kc hk BK108.out NB108_0.out); have HO110 := q0 (Kd.R_lower ho0 (keep_size (w := w) (g := g) (row := none) (qh HK.out))); replace HK := q0 (KeepBut.trans (qh HK.out) hk (.inl rfl)); replace HB := q0 (hb); replace HI0 := q0 (hi); (try clear hb); (try clear hb2); (try clear hk); (try clear hi); (try clear ho0)) | ((with_reducible refine gd 3 ?_); refine be 3 #[.int .i64 0, .slice none 0 0] 24 ?_; intro gb111 hg w8 hbox hb; replace HO110 := q0 (Kd.R_below (qr HO110.out) hb); replace HB := q0 (below_step (qj HB.out HI0.out) hb); have BK111 := q0 (hbox); have GW111 := q0 ((by rw [hg]; exact (keep_size (w := w) (g := g) (row := none) (qh HK.out)) : w.heap.size ≤ gb111)); have GE111 := q0 ((Nat.le_trans HW0.out (by rw [hg]; exact (keep_size (w := w) (g := g) (row := none) (qh HK.out)) : w.heap.size ≤ gb111) : w0.heap.size ≤ gb111)); replace HK := q0 (KeepBut.trans (qh HK.out) (KeepBut.of_below hb g none) (.inl rfl)); have NB108_111 := nl BK108 hg; have NB111_108 := ng BK108 hg; replace BK108 := kd BK108 hb; have NB0_111 := q0 ((by rw [hg]; exact Nat.ne_of_lt (IsSRd.lt (show IsSRd w0 _ g s0_0 t104 from qi HI0.out)) : g ≠ gb111)); have NB111_0 := q0 ((by rw [hg]; exact Nat.ne_of_gt (IsSRd.lt (show IsSRd w0 _ g s0_0 t104 from qi HI0.out)) : gb111 ≠ g)); replace HI0 := q0 (IsSRd.below (qi HI0.out) hb); clear hb hbox hg; have hnb9 := NB111_108.out; have hnc9 := NB108_111.out; have hnb10 := NB111_0.out; have hnc10 := NB0_111.out; obtain ⟨hcz11_0, hcz11_1, hfz11_0, hfz11_1⟩ := b2 BK111; obtain ⟨Ao12, co12, eo12⟩ := Kd.R_slice HO110.out; subst eo12) | ((with_reducible refine gf 38 ?_); refine gl 7 Tryd.func38 #[.pointer (some ⟨g, 0, none⟩), .int .i64 12] ?_; (with_reducible refine (spec_l6Rd_pick.calls k g s0_0 t104 12 t101 t105 w0 _ ?side1 ?side2 A3.out).mono ?_); (case side1 => exact qi HI0.out); (case side2 => exact qj HB.out HI0.out); rintro e w13 ⟨rfl, hi, hb, hk⟩; refine ⟨_, rfl, ?_⟩; replace BK108 := q0 (kc hk BK108.out NB108_0.out); replace HO110 := q0 (Kd.R_mono (Kd.R_keep (IsSRd.apart (show IsSRd w0 _ g s0_0 t104 from qi HI0.out) (by (with_reducible repeat (first | apply Kd.R_alloc | apply Kd.R_drewN | apply Kd.R_drew)); exact (rf2 HO110.out BK111.out (fun _ h_ => h_.1))) (by decide)) hk (fun _ h => h.2)) (fun _ h => h.1)); replace BK111 := q0 (KeepBut.blk hk (g' := gb111) (o := .cells #[.int .i64 t100, .slice Ao12 t103.length co12] 24 (0, 0)) (by (with_reducible repeat (first | refine blk_drewN ?_ _ | refine blk_drew ?_ | refine blk_alloc ?_ _)); refine blk_put (cs := #[.int .i64 t100, .slice none 0 0]) ?_ 1 _ rfl; (with_reducible repeat (first | refine blk_drewN ?_ _ | refine blk_drew ?_ | refine blk_alloc ?_ _)); refine blk_put (cs := #[.int .i64 0, .slice none 0 0]) ?_ 0 _ rfl; (with_reducible repeat (first | refine blk_drewN ?_ _ | refine blk_drew ?_ | refine blk_alloc ?_ _)); exact BK111.out) NB111_0.out (by simp)); replace HK := q0 (KeepBut.trans (qh HK.out) hk (.inl rfl)); replace HB := q0 (hb); replace HI0 := q0 (hi); (try clear hb); (try clear hb2); (try clear hk); (try clear hi); obtain ⟨hcz14_0, hcz14_1, hfz14_0, hfz14_1⟩ := b2 BK111) | ((with_reducible refine gf 47 ?_); refine gl 11 Tryd.func47 #[.pointer (some ⟨g, 0, none⟩), .agg #[.int .i64 t100, .slice Ao12 t103.length co12]] ?_; (with_reducible refine (spec_l71Spoil.calls k g s0_0 t105 t100 _ _ t103 t102 t106 t107 w0 _ ?side1 ?side2 ?side3 ?side4 A5.out).mono ?_); (case side1 => exact qi HI0.out); (case side2 => exact qj HB.out HI0.out); (case side3 => exact Kd.C_foot_own (IsSRd.apart (show IsSRd w0 _ g s0_0 t105 from qi HI0.out) (qr HO110.out) (by decide)) (fun _ h_ => h_.2)); (case side4 => exact (Kd.R_reads' HO110.out).2.1); rintro e w15 ⟨v112, rfl, ho0, hi, hb, hk⟩; refine ⟨_, rfl, ?_⟩; replace BK108 := q0 (kc hk BK108.out NB108_0.out); replace BK111 := q0 (kc hk BK111.out NB111_0.out); have HO113 := q0 (Kd.R_lower (Kd.R_new' ho0 (Kd.R_lt (qr HO110.out))) (keep_size (w := w) (g := g) (row := none) (qh HK.out))); replace HO110 := q0 (Kd.R_mono (Kd.R_told (Kd.R_oldK (IsSRd.apart (show IsSRd w0 _ g s0_0 t105 from qi HI0.out) (qr HO110.out) (by decide)) hk) (Kd.R_base ho0)) (fun _ h_ => h_.1)); replace HK := q0 (KeepBut.trans (qh HK.out) hk (.inl rfl)); replace HB := q0 (hb); replace HI0 := q0 (hi); (try clear hb); (try clear hb2); (try clear hk); (try clear hi); (try clear ho0); have hnb16 := NB108_0.out; have hnc16 := NB0_108.out; obtain ⟨hcz17_0, hcz17_1, hfz17_0, hfz17_1⟩ := b2 BK108; obtain ⟨Ao18, co18, eo18⟩ := Kd.R_slice HO113.out; subst eo18))
 refine bodyPost_ret (results_cell_row rfl _ _ gb108 24 #[.int .i64 t102, .slice Ao18 t106.length co18] (0, 0) _ rfl (by (with_reducible repeat (first | refine blk_drewN ?_ _ | refine blk_drew ?_ | refine blk_alloc ?_ _)); refine blk_put (cs := #[.int .i64 t102, .slice none 0 0]) ?_ 1 _ rfl; (with_reducible repeat (first | refine blk_drewN ?_ _ | refine blk_drew ?_ | refine blk_alloc ?_ _)); refine blk_put (cs := #[.int .i64 0, .slice none 0 0]) ?_ 0 _ rfl; (with_reducible repeat (first | refine blk_drewN ?_ _ | refine blk_drew ?_ | refine blk_alloc ?_ _)); exact BK108.out) Tryd.underlying24 rfl (by kernel_rfl)) rfl ?_
 exact ⟨_, qe, by (with_reducible repeat (first | apply Kd.R_alloc | apply Kd.R_drewN | apply Kd.R_drew)); exact rf2 HO113.out BK108.out (fun _ hk => trivial), qi HI0.out, qj HB.out HI0.out, by repeat (first | (with_reducible first | exact HK.out | apply KeepBut.set_ | apply keep_drewN | apply keep_drew | apply keep_alloc | refine keep_far ?_ GW108.out _ | refine keep_far ?_ GW111.out _) | exact HK.out)⟩

set_option maxHeartbeats 8000000 in
set_option maxRecDepth 100000 in
theorem spec_DrawNetWrite.calls (k : Nat) (A0 : Option Addr) (c0 : Nat) (l0 : List Int) (r1 : Int) (r2 : List (STie)) (w : World) (hr0 : Kd.C (Kd.int .u8) w A0 l0.length l0) (hc0 : l0.length ≤ c0) (h : spec_DrawNetWrite.f k l0 = some (r1, r2)) :
    Calls Tryd.prog 13 #[.slice A0 l0.length c0] w fun e w' => ∃ v1_ : Value, e = .returned (.agg #[.int .i64 r1, v1_]) ∧ Kd.R kTie 47 w' w.heap.size (fun _ => True) v1_ r2 ∧ Below w.heap.size w w' := by
 have hu24 := Tryd.underlying24
 have HR0 := q0 hr0
 have HC0 := q0 hc0
 clear hr0 hc0
 have HB := q0 (Below.refl w.heap.size w)
 have H : ((spec_l6Open.f l0).bind fun bt100 => ((spec_l71Any.f k bt100.1 bt100.2).bind fun bt101 => (some (bt101.1, bt101.2.1)))) = some (r1, r2) := h
 clear h
 obtain ⟨⟨t100, t102⟩, A2, H⟩ := ob H
 obtain ⟨⟨t101, t103, t104⟩, A3, H⟩ := ob H
 simp only [Option.some.injEq, Prod.mk.injEq] at H
 obtain ⟨rfl, rfl⟩ := H
 go_enter Tryd.func13, Tryd.ntmps13
 go_wp2_with (first | ((with_reducible refine gd 2 ?_); refine be 2 #[.int .i64 0, .slice none 0 0] 24 ?_; intro gb105 hg w4 hbox hb; have BK105 := q0 (hbox); have GW105 := gw HB hg; have GE105 := gw HB hg; replace HB := bp HB hb; clear hb hbox hg) | ((with_reducible refine gf 30 ?_); refine gl 4 Tryd.func30 #[.slice A0 l0.length c0] ?_; (with_reducible refine (spec_l6Open.calls _ _ l0 t100 t102 w _ ?side1 ?side2 ?side3 A2.out).mono ?_); (case side1 => exact qb HB.out); (case side2 => exact HR0.out); (case side3 => exact HC0.out); rintro e w5 ⟨g106, rfl, hi, hb, hb2⟩; refine ⟨_, rfl, ?_⟩; replace HB := q0 (hb); have HI106 := q0 (hi); have NB106_105 := q0 (IsSRd.ne_blk hi (kb BK105.out hb2) (by decide)); have NB105_106 := q0 (Ne.symm (IsSRd.ne_blk hi (kb BK105.out hb2) (by decide))); replace BK105 := q0 (kb BK105.out hb2); (try clear hb); (try clear hb2); (try clear hk); (try clear hi)) | ((with_reducible refine gf 29 ?_); refine gl 5 Tryd.func29 #[.pointer (some ⟨g106, 0, none⟩)] ?_; (with_reducible refine (spec_l71Any.calls k g106 t100 t102 t101 t103 t104 w _ ?side1 ?side2 A3.out).mono ?_); (case side1 => exact qi HI106.out); (case side2 => exact qj HB.out HI106.out); rintro e w6 ⟨v107, rfl, ho0, hi, hb, hk⟩; refine ⟨_, rfl, ?_⟩; replace BK105 := q0 (kc hk BK105.out NB105_106.out); have HO108 := q0 (Kd.R_lower ho0 (below_size (qj HB.out HI106.out))); replace HB := q0 (hb); replace HI106 := q0 (hi); (try clear hb); (try clear hb2); (try clear hk); (try clear hi); (try clear ho0); have hnb7 := NB105_106.out; have hnc7 := NB106_105.out; obtain ⟨hcz8_0, hcz8_1, hfz8_0, hfz8_1⟩ := b2 BK105; obtain ⟨Ao9, co9, eo9⟩ := Kd.R_slice HO108.out; subst eo9))
 refine bodyPost_ret (results_cell_row rfl _ _ gb105 24 #[.int .i64 t101, .slice Ao9 t103.length co9] (0, 0) _ rfl (by (with_reducible repeat (first | refine blk_drewN ?_ _ | refine blk_drew ?_ | refine blk_alloc ?_ _)); refine blk_put (cs := #[.int .i64 t101, .slice none 0 0]) ?_ 1 _ rfl; (with_reducible repeat (first | refine blk_drewN ?_ _ | refine blk_drew ?_ | refine blk_alloc ?_ _)); refine blk_put (cs := #[.int .i64 0, .slice none 0 0]) ?_ 0 _ rfl; (with_reducible repeat (first | refine blk_drewN ?_ _ | refine blk_drew ?_ | refine blk_alloc ?_ _)); exact BK105.out) Tryd.underlying24 rfl (by kernel_rfl)) rfl ?_
 exact ⟨_, qe, by (with_reducible repeat (first | apply Kd.R_alloc | apply Kd.R_drewN | apply Kd.R_drew)); exact rf2 HO108.out BK105.out (fun _ hk => trivial), qj HB.out HI106.out⟩

def laws_FnNetBack.T5 : Bool × List (List Nat × List Nat) := (true, [([], []), ([], []), ([1], [1]), ([0, 2], [0, 2]), ([3, 2], [3]), ([4], [4]), ([5, 4, 4], [4, 5]), ([4], [4]), ([7, 6, 4], [4, 7]), ([6, 8, 4], [4, 6, 8]), ([4, 9], [4, 9]), ([10, 8], [10]), ([11], [11]), ([12, 11], [11, 12]), ([11, 13], [11, 13])])
def laws_FnNetBack.B5 : List Nat := [0, 0, 2, 7, 15, 31, 63, 31, 255, 511, 1023, 2047, 4095, 8191, 16383]
theorem laws_FnNetBack.tab5 : rtab .any (opsOf Tryd.f4 5) = laws_FnNetBack.T5 := by kernel_rfl
theorem laws_FnNetBack.bits5 : waitsOk laws_FnNetBack.T5.2 laws_FnNetBack.B5 = true := by kernel_rfl
def laws_FnNetBack.T6 : Bool × List (List Nat × List Nat) := (true, [([], []), ([], []), ([1], [1]), ([0, 2], [0, 2]), ([3, 2], [3]), ([4], [4]), ([5, 4, 4], [4, 5]), ([4], [4]), ([7, 6, 4], [4, 7]), ([6, 8, 4], [4, 6, 8]), ([4, 9], [4, 9]), ([10, 8, 0, 1, 2, 3, 4, 5, 6, 7, 8, 9, 10], [10])])
def laws_FnNetBack.B6 : List Nat := [0, 0, 2, 7, 15, 31, 63, 31, 255, 511, 1023, 2047]
theorem laws_FnNetBack.tab6 : rtab .any (opsOf Tryd.f4 6) = laws_FnNetBack.T6 := by kernel_rfl
theorem laws_FnNetBack.bits6 : waitsOk laws_FnNetBack.T6.2 laws_FnNetBack.B6 = true := by kernel_rfl
set_option maxHeartbeats 8000000 in
set_option maxRecDepth 100000 in
theorem laws_FnNetBack.calls (k : Nat) (A0 : Option Addr) (c0 : Nat) (l0 : List Int) (r : Bool) (w : World) (hG_ : Gl w) (hr0 : Kd.C (Kd.int .u8) w A0 l0.length l0) (hc0 : l0.length ≤ c0) (h : laws_FnNetBack.f k l0 = some r) :
    Calls Tryd.prog 4 #[.slice A0 l0.length c0] w fun e w' => e = .returned (.bool r) ∧ Below w.heap.size w w' := by
 have hu24 := Tryd.underlying24
 have HR0 := q0 hr0
 have HC0 := q0 hc0
 clear hr0 hc0
 have HG_ := q0 hG_
 clear hG_
 have HB := q0 (Below.refl w.heap.size w)
 have H : (if (l0.length : Int) > 1048576 then (some true) else ((spec_DrawNetWrite.f k l0).bind fun bt106 => ((impl_NetWrite.f k bt106.1 bt106.2).bind fun t100 => ((spec_NetWrite.f k bt106.1 bt106.2).bind fun t107 => (if t100.toList = t107.toList then ((impl_NetOk.f k bt106.1 bt106.2).bind fun t108 => ((spec_NetOk.f k bt106.1 bt106.2).bind fun t109 => (if (t108 != t109) = true then (laws_FnNetBack.j0 k t100 true bt106.1 bt106.2) else (laws_FnNetBack.j0 k t100 (t100.toList == ([] : List UInt8)) bt106.1 bt106.2)))) else (laws_FnNetBack.j0 k t100 true bt106.1 bt106.2)))))) = some r := h
 clear h
 by_cases c2 : (l0.length : Int) > 1048576
 · rw [if_pos c2] at H
   have c2b0 := decide_eq_true c2
   have c2b1 : decide (1048576 < l0.length) = true := decide_eq_true (by omega)
   clear c2
   obtain rfl := Option.some.inj H
   go_enter Tryd.func4, Tryd.ntmps4
   go_wp2
   go_ret
   exact ⟨qe, qb HB.out⟩
 rw [if_neg c2] at H
 have c2b0 := decide_eq_false c2
 have c2b1 : decide (1048576 < l0.length) = false := decide_eq_false (by omega)
 clear c2
 obtain ⟨⟨t106, t110⟩, A3, H⟩ := ob H
 obtain ⟨t100, A4, H⟩ := ob H
 have HC5 := q0 H
 clear H
 go_enter Tryd.func4, Tryd.ntmps4
 go_upto_region 5 with (first | ((with_reducible refine gf 13 ?_); refine gl 11 Tryd.func13 #[.slice A0 l0.length c0] ?_; (with_reducible refine (spec_DrawNetWrite.calls k _ _ l0 t106 t110 _ ?side1 ?side2 A3.out).mono ?_); (case side1 => repeat (first | exact HR0.out | (with_reducible refine Kd.C_alloc ?_ _) | (with_reducible refine Kd.C_drewN ?_ _) | (with_reducible refine Kd.C_drew ?_))); (case side2 => exact HC0.out); rintro e w6 ⟨v111, rfl, ho0, hb⟩; refine ⟨_, rfl, ?_⟩; have HO112 := q0 (Kd.R_lower ho0 (below_size (qb HB.out))); replace HB := bp HB hb; (try clear hb); (try clear hb2); (try clear hk); (try clear hi); (try clear ho0)) | ((with_reducible refine gd 3 ?_); refine be 3 #[.int .i64 0, .slice none 0 0] 24 ?_; intro gb113 hg w7 hbox hb; replace HO112 := q0 (Kd.R_below (qr HO112.out) hb); have BK113 := q0 (hbox); have GW113 := gw HB hg; have GE113 := gw HB hg; replace HB := bp HB hb; clear hb hbox hg; obtain ⟨hcz8_0, hcz8_1, hfz8_0, hfz8_1⟩ := b2 BK113; obtain ⟨Ao9, co9, eo9⟩ := Kd.R_slice HO112.out; subst eo9) | ((with_reducible refine gf 14 ?_); refine gl 13 Tryd.func14 #[.agg #[.int .i64 t106, .slice Ao9 t110.length co9]] ?_; (with_reducible refine (impl_NetWrite.calls k t106 _ _ t110 t100 _ ?side1 ?side2 A4.out).mono ?_); (case side1 => refine (Kd.R_reads' (e := 47) (base := w.heap.size) (ok := fun k_ => True) (n := t110.length) (c := co9) ?_).2.2; exact (by (with_reducible repeat (first | apply Kd.R_alloc | apply Kd.R_drewN | apply Kd.R_drew)); exact (rf2 HO112.out BK113.out (fun _ h_ => h_.1)))); (case side2 => exact (Kd.R_reads' HO112.out).2.1); rintro e w10 ⟨rfl, hb⟩; refine ⟨_, rfl, ?_⟩; replace HO112 := q0 (Kd.R_below (by (with_reducible repeat (first | apply Kd.R_alloc | apply Kd.R_drewN | apply Kd.R_drew)); exact (rf2 HO112.out BK113.out (fun _ h_ => h_.1))) hb); replace BK113 := q0 (blk_below (g := gb113) (o := .cells #[.int .i64 t106, .slice Ao9 t110.length co9] 24 (0, 0)) (by (with_reducible repeat (first | refine blk_drewN ?_ _ | refine blk_drew ?_ | refine blk_alloc ?_ _)); refine blk_put (cs := #[.int .i64 t106, .slice none 0 0]) ?_ 1 _ rfl; (with_reducible repeat (first | refine blk_drewN ?_ _ | refine blk_drew ?_ | refine blk_alloc ?_ _)); refine blk_put (cs := #[.int .i64 0, .slice none 0 0]) ?_ 0 _ rfl; (with_reducible repeat (first | refine blk_drewN ?_ _ | refine blk_drew ?_ | refine blk_alloc ?_ _)); exact BK113.out) hb); replace HB := bp HB hb; (try clear hb); (try clear hb2); (try clear hk); (try clear hi)))
 (try simp only [Act.put, List.setIfInBounds_toArray, List.set_cons_zero, List.set_cons_succ])
 go_cut [28] (fun v28 wc => ∃ (kq : Nat) (x28_4 : Bool), v28 = .bool x28_4 ∧ Aside0 (laws_FnNetBack.j0 kq t100 x28_4 t106 t110 = some r) ∧ Aside0 (kq ≤ k) ∧ Aside0 (Kd.R kTie 47 wc w.heap.size (fun _ => True) (.slice Ao9 t110.length co9) t110) ∧ Aside0 (wc.heap[gb113]? = some (.cells #[.int .i64 t106, (.slice Ao9 t110.length co9)] 24 (0, 0))) ∧ Aside0 (Below w.heap.size w wc))
 case first =>
   have H := HC5.out
   clear HC5
   obtain ⟨t107, A11, H⟩ := ob H
   by_cases c12 : t100.toList = t107.toList
   rotate_left
   · rw [if_neg c12] at H
     have c12b0 : (t100.toList == t107.toList) = false := beq_eq_false_iff_ne.mpr c12
     have c12b1 : (t100.toList != t107.toList) = true := bne_iff_ne.mpr c12
     (first | rw [c12b0] | (simp only [i64_w, i32_w]; rw [c12b0]) | skip)
     have H' := q0 H
     clear H
     try go_wp2
     replace HO112 := q0 (Kd.R_drew HO112.out)
     replace BK113 := q0 (blk_drew BK113.out)
     replace HB := q0 (below_drew1 HB.out)
     refine start_ (n := 15) (S := fun w' => w'.cell? ⟨gb113, 0, none⟩ = some (.int .i64 t106) ∧ w'.cell? ⟨gb113, 1, none⟩ = some (.slice Ao9 t110.length co9)) (ds := []) (ba 15 0) (by kernel_rfl) rfl (by kernel_rfl) ⟨bca BK113, bcb BK113⟩ (fun hHeld => ?_); refine with_tabW laws_FnNetBack.tab5 laws_FnNetBack.bits5 (fun HT_ HW_ => ?_)
     generalize w10.drew = w24 at HO112 BK113 HB hHeld ⊢
     refine pU 0 14 15 1 HT_ ?_
     refine tU 1 15 15 3 HT_ HW_ hHeld ?_
     refine one_ (i := 2) (N := some 16) (ba 15 7) rfl rfl (one_of HT_.out (by kernel_rfl)) (by decide) (fun K hK => ?_)
     refine goes_ Tryd.func15 (by kernel_rfl) rfl #[.agg #[.int .i64 t106, .slice Ao9 t110.length co9]] (by rfl) rfl rfl qm ?_
     with_reducible refine (spec_NetWrite.calls k t106 _ _ t110 t107 _ ?side1 ?side2 A11.out).mono ?_
     (case side1 => exact qc (Kd.R_reads' HO112.out).2.2)
     (case side2 => exact (Kd.R_reads' HO112.out).2.1)
     rintro e w25 ⟨rfl, hb⟩
     refine ⟨_, rfl, ?_⟩
     replace HO112 := q0 (Kd.R_below (qr HO112.out) hb)
     replace BK113 := kd BK113 hb
     replace HB := bp HB hb
     (try clear hb)
     (try clear hb2)
     (try clear hk)
     (try clear hi)
     refine hK.out _ _ ⟨bca BK113, bcb BK113⟩ (fun hHeld => ?_)
     clear hK K
     refine nu 16 ?_
     refine pU 3 17 15 15 HT_ ?_
     refine pU 4 18 15 31 HT_ ?_
     refine pV 5 19 15 63 HT_ ?_
     refine pV 6 20 15 127 HT_ ?_
     refine pV 7 21 15 255 HT_ ?_
     refine pV 8 22 15 511 HT_ ?_
     refine pV 9 23 15 1023 HT_ ?_
     refine pU 10 24 15 2047 HT_ ?_
     refine pU 11 25 15 4095 HT_ ?_
     refine pV 12 26 15 8191 HT_ ?_
     refine pV 13 27 15 16383 HT_ ?_
     refine pU 14 28 15 32767 HT_ ?_
     refine done_ (done_of HT_.out (by kernel_rfl)) ?_
     try go_wp2
     go_meet
     case rel => exact ⟨_, (true), qs, H', ⟨by first | omega | exact Nat.le_refl _⟩, ⟨qr HO112.out⟩, ⟨qk BK113.out⟩, ⟨qb HB.out⟩⟩
   rw [if_pos c12] at H
   have c12b0 : (t100.toList == t107.toList) = true := beq_iff_eq.mpr c12
   have c12b1 : (t100.toList != t107.toList) = false := bne_eq_false_iff_eq.mpr c12
   clear c12
   (first | rw [c12b0] | (simp only [i64_w, i32_w]; rw [c12b0]) | skip)
   obtain ⟨t108, A13, H⟩ := ob H
   obtain ⟨t109, A14, H⟩ := ob H
   by_cases c15 : (t108 != t109) = true
   · rw [if_pos c15] at H
     have c15b0 : (t108 != t109) = true := c15
     (try (have c15b1 : decide (t108 = t109) = false := by simpa using c15))
     (try (have c15b2 : (t108 == t109) = false := by simpa using c15))
     (try (have c15b3 : ¬ (t108 = t109) := by simpa using c15))
     clear c15
     have H' := q0 H
     clear H
     try go_wp2
     replace HO112 := q0 (Kd.R_drew HO112.out)
     replace BK113 := q0 (blk_drew BK113.out)
     replace HB := q0 (below_drew1 HB.out)
     refine start_ (n := 15) (S := fun w' => w'.cell? ⟨gb113, 0, none⟩ = some (.int .i64 t106) ∧ w'.cell? ⟨gb113, 1, none⟩ = some (.slice Ao9 t110.length co9)) (ds := []) (ba 15 0) (by kernel_rfl) rfl (by kernel_rfl) ⟨bca BK113, bcb BK113⟩ (fun hHeld => ?_); refine with_tabW laws_FnNetBack.tab5 laws_FnNetBack.bits5 (fun HT_ HW_ => ?_)
     generalize w10.drew = w16 at HO112 BK113 HB hHeld ⊢
     refine pU 0 14 15 1 HT_ ?_
     refine tU 1 15 15 3 HT_ HW_ hHeld ?_
     refine one_ (i := 2) (N := some 16) (ba 15 7) rfl rfl (one_of HT_.out (by kernel_rfl)) (by decide) (fun K hK => ?_)
     refine goes_ Tryd.func15 (by kernel_rfl) rfl #[.agg #[.int .i64 t106, .slice Ao9 t110.length co9]] (by rfl) rfl rfl qm ?_
     with_reducible refine (spec_NetWrite.calls k t106 _ _ t110 t107 _ ?side1 ?side2 A11.out).mono ?_
     (case side1 => exact qc (Kd.R_reads' HO112.out).2.2)
     (case side2 => exact (Kd.R_reads' HO112.out).2.1)
     rintro e w17 ⟨rfl, hb⟩
     refine ⟨_, rfl, ?_⟩
     replace HO112 := q0 (Kd.R_below (qr HO112.out) hb)
     replace BK113 := kd BK113 hb
     replace HB := bp HB hb
     (try clear hb)
     (try clear hb2)
     (try clear hk)
     (try clear hi)
     refine hK.out _ _ ⟨bca BK113, bcb BK113⟩ (fun hHeld => ?_)
     clear hK K
     refine nu 16 ?_
     refine pU 3 17 15 15 HT_ ?_
     refine pU 4 18 15 31 HT_ ?_
     refine tU 5 19 15 63 HT_ HW_ hHeld ?_
     refine tU 7 21 15 191 HT_ HW_ hHeld ?_
     refine one_ (i := 6) (N := some 20) (ba 15 255) rfl rfl (one_of HT_.out (by kernel_rfl)) (by decide) (fun K hK => ?_)
     refine goes_ Tryd.func16 (by kernel_rfl) rfl #[.agg #[.int .i64 t106, .slice Ao9 t110.length co9]] (by rfl) rfl rfl qm ?_
     with_reducible refine (impl_NetOk.calls k t106 _ _ t110 t108 _ ?side1 ?side2 A13.out).mono ?_
     (case side1 => exact qc (Kd.R_reads' HO112.out).2.2)
     (case side2 => exact (Kd.R_reads' HO112.out).2.1)
     rintro e w18 ⟨rfl, hb⟩
     refine ⟨_, rfl, ?_⟩
     replace HO112 := q0 (Kd.R_below (qr HO112.out) hb)
     replace BK113 := kd BK113 hb
     replace HB := bp HB hb
     (try clear hb)
     (try clear hb2)
     (try clear hk)
     (try clear hi)
     refine hK.out _ _ ⟨bca BK113, bcb BK113⟩ (fun hHeld => ?_)
     clear hK K
     refine nu 20 ?_
     refine one_ (i := 8) (N := some 22) (ba 15 511) rfl rfl (one_of HT_.out (by kernel_rfl)) (by decide) (fun K hK => ?_)
     refine goes_ Tryd.func17 (by kernel_rfl) rfl #[.agg #[.int .i64 t106, .slice Ao9 t110.length co9]] (by rfl) rfl rfl qm ?_
     with_reducible refine (spec_NetOk.calls k t106 _ _ t110 t109 _ ?side1 ?side2 A14.out).mono ?_
     (case side1 => exact qc (Kd.R_reads' HO112.out).2.2)
     (case side2 => exact (Kd.R_reads' HO112.out).2.1)
     rintro e w19 ⟨rfl, hb⟩
     refine ⟨_, rfl, ?_⟩
     replace HO112 := q0 (Kd.R_below (qr HO112.out) hb)
     replace BK113 := kd BK113 hb
     replace HB := bp HB hb
     (try clear hb)
     (try clear hb2)
     (try clear hk)
     (try clear hi)
     refine hK.out _ _ ⟨bca BK113, bcb BK113⟩ (fun hHeld => ?_)
     clear hK K
     refine nu 22 ?_
     refine pU 9 23 15 1023 HT_ ?_
     refine pU 10 24 15 2047 HT_ ?_
     refine pU 11 25 15 4095 HT_ ?_
     refine pV 12 26 15 8191 HT_ ?_
     refine pV 13 27 15 16383 HT_ ?_
     refine pU 14 28 15 32767 HT_ ?_
     refine done_ (done_of HT_.out (by kernel_rfl)) ?_
     try go_wp2
     go_meet
     case rel => exact ⟨_, (true), qs, H', ⟨by first | omega | exact Nat.le_refl _⟩, ⟨qr HO112.out⟩, ⟨qk BK113.out⟩, ⟨qb HB.out⟩⟩
   rw [if_neg c15] at H
   have c15b0 : (t108 != t109) = false := by simpa using c15
   (try (have c15b1 : decide (t108 = t109) = true := by simpa using c15))
   (try (have c15b2 : (t108 == t109) = true := by simpa using c15))
   clear c15
   have H' := q0 H
   clear H
   try go_wp2
   replace HO112 := q0 (Kd.R_drew HO112.out)
   replace BK113 := q0 (blk_drew BK113.out)
   replace HB := q0 (below_drew1 HB.out)
   refine start_ (n := 15) (S := fun w' => w'.cell? ⟨gb113, 0, none⟩ = some (.int .i64 t106) ∧ w'.cell? ⟨gb113, 1, none⟩ = some (.slice Ao9 t110.length co9)) (ds := []) (ba 15 0) (by kernel_rfl) rfl (by kernel_rfl) ⟨bca BK113, bcb BK113⟩ (fun hHeld => ?_); refine with_tabW laws_FnNetBack.tab5 laws_FnNetBack.bits5 (fun HT_ HW_ => ?_)
   generalize w10.drew = w20 at HO112 BK113 HB hHeld ⊢
   refine pU 0 14 15 1 HT_ ?_
   refine tU 1 15 15 3 HT_ HW_ hHeld ?_
   refine one_ (i := 2) (N := some 16) (ba 15 7) rfl rfl (one_of HT_.out (by kernel_rfl)) (by decide) (fun K hK => ?_)
   refine goes_ Tryd.func15 (by kernel_rfl) rfl #[.agg #[.int .i64 t106, .slice Ao9 t110.length co9]] (by rfl) rfl rfl qm ?_
   with_reducible refine (spec_NetWrite.calls k t106 _ _ t110 t107 _ ?side1 ?side2 A11.out).mono ?_
   (case side1 => exact qc (Kd.R_reads' HO112.out).2.2)
   (case side2 => exact (Kd.R_reads' HO112.out).2.1)
   rintro e w21 ⟨rfl, hb⟩
   refine ⟨_, rfl, ?_⟩
   replace HO112 := q0 (Kd.R_below (qr HO112.out) hb)
   replace BK113 := kd BK113 hb
   replace HB := bp HB hb
   (try clear hb)
   (try clear hb2)
   (try clear hk)
   (try clear hi)
   refine hK.out _ _ ⟨bca BK113, bcb BK113⟩ (fun hHeld => ?_)
   clear hK K
   refine nu 16 ?_
   refine pU 3 17 15 15 HT_ ?_
   refine pU 4 18 15 31 HT_ ?_
   refine tU 5 19 15 63 HT_ HW_ hHeld ?_
   refine tU 7 21 15 191 HT_ HW_ hHeld ?_
   refine one_ (i := 6) (N := some 20) (ba 15 255) rfl rfl (one_of HT_.out (by kernel_rfl)) (by decide) (fun K hK => ?_)
   refine goes_ Tryd.func16 (by kernel_rfl) rfl #[.agg #[.int .i64 t106, .slice Ao9 t110.length co9]] (by rfl) rfl rfl qm ?_
   with_reducible refine (impl_NetOk.calls k t106 _ _ t110 t108 _ ?side1 ?side2 A13.out).mono ?_
   (case side1 => exact qc (Kd.R_reads' HO112.out).2.2)
   (case side2 => exact (Kd.R_reads' HO112.out).2.1)
   rintro e w22 ⟨rfl, hb⟩
   refine ⟨_, rfl, ?_⟩
   replace HO112 := q0 (Kd.R_below (qr HO112.out) hb)
   replace BK113 := kd BK113 hb
   replace HB := bp HB hb
   (try clear hb)
   (try clear hb2)
   (try clear hk)
   (try clear hi)
   refine hK.out _ _ ⟨bca BK113, bcb BK113⟩ (fun hHeld => ?_)
   clear hK K
   refine nu 20 ?_
   refine one_ (i := 8) (N := some 22) (ba 15 511) rfl rfl (one_of HT_.out (by kernel_rfl)) (by decide) (fun K hK => ?_)
   refine goes_ Tryd.func17 (by kernel_rfl) rfl #[.agg #[.int .i64 t106, .slice Ao9 t110.length co9]] (by rfl) rfl rfl qm ?_
   with_reducible refine (spec_NetOk.calls k t106 _ _ t110 t109 _ ?side1 ?side2 A14.out).mono ?_
   (case side1 => exact qc (Kd.R_reads' HO112.out).2.2)
   (case side2 => exact (Kd.R_reads' HO112.out).2.1)
   rintro e w23 ⟨rfl, hb⟩
   refine ⟨_, rfl, ?_⟩
   replace HO112 := q0 (Kd.R_below (qr HO112.out) hb)
   replace BK113 := kd BK113 hb
   replace HB := bp HB hb
   (try clear hb)
   (try clear hb2)
   (try clear hk)
   (try clear hi)
   refine hK.out _ _ ⟨bca BK113, bcb BK113⟩ (fun hHeld => ?_)
   clear hK K
   refine nu 22 ?_
   refine pU 9 23 15 1023 HT_ ?_
   refine pU 10 24 15 2047 HT_ ?_
   refine pU 11 25 15 4095 HT_ ?_
   refine pU 12 26 15 8191 HT_ ?_
   refine pU 13 27 15 16383 HT_ ?_
   refine pU 14 28 15 32767 HT_ ?_
   refine done_ (done_of HT_.out (by kernel_rfl)) ?_
   try go_wp2
   go_meet
   case rel => exact ⟨_, ((t100.toList == ([] : List UInt8))), qs, H', ⟨by first | omega | exact Nat.le_refl _⟩, ⟨qr HO112.out⟩, ⟨qk BK113.out⟩, ⟨qb HB.out⟩⟩
 clear HC5
 try clear c1
 try clear c2
 try clear c2b0
 try clear c2b1
 try clear p2
 try clear c4
 try clear c12
 try clear c12b0
 try clear c12b1
 try clear c13
 try clear c14
 try clear c15
 try clear c15b0
 try clear c15b1
 try clear c15b2
 try clear c16
 try clear c17
 try clear hcz8_0
 try clear hcz8_1
 try clear hfz8_0
 try clear hfz8_1
 obtain ⟨kq, x28_4, rfl, HA, HJ4, HO_100001, BK113, HB⟩ := hcut
 rcases kq with _ | kj4
 · exact absurd HA.out (by simp [laws_FnNetBack.j0])
 have H := HA.out
 clear HA
 simp only [laws_FnNetBack.j0] at H
 by_cases c26 : x28_4 = true
 rotate_left
 · replace c26 := Bool.eq_false_iff.mpr c26
   subst c26
   rw [if_neg nf] at H
   obtain ⟨⟨t104, t120, t121⟩, A37, H⟩ := ob H
   by_cases c38 : t121 = true
   rotate_left
   · replace c38 := Bool.eq_false_iff.mpr c38
     subst c38
     rw [if_neg nf] at H
     obtain rfl := Option.some.inj H
     go_wp2_with (first | ((with_reducible refine gf 9 ?_); refine gl 42 Tryd.func9 #[.string t100] ?_; (with_reducible refine (impl_NetRead.calls kj4 t100 t104 t120 false _ ?sideG A37.out).mono ?_); (case sideG => exact HG_.out.below (qb HB.out)); rintro e w47 ⟨v124, rfl, ho0, hb⟩; refine ⟨_, rfl, ?_⟩; have HO125 := q0 (Kd.R_lower (Kd.R_new' ho0 (Kd.R_lt (qr HO_100001.out))) (below_size (qb HB.out))); replace HO_100001 := q0 (Kd.R_elder' (qr HO_100001.out) (Kd.R_base ho0) hb); replace BK113 := kd BK113 hb; replace HB := bp HB hb; (try clear hb); (try clear hb2); (try clear hk); (try clear hi); (try clear ho0)) | ((with_reducible refine gd 5 ?_); refine be 5 #[.int .i64 0, .slice none 0 0] 24 ?_; intro gb126 hg w48 hbox hb; replace HO_100001 := q0 (Kd.R_below (qr HO_100001.out) hb); replace HO125 := q0 (Kd.R_below (qr HO125.out) hb); have BK126 := q0 (hbox); have GW126 := gw HB hg; have GE126 := gw HB hg; replace HB := bp HB hb; have NB113_126 := nl BK113 hg; have NB126_113 := ng BK113 hg; replace BK113 := kd BK113 hb; clear hb hbox hg; have hnb49 := NB126_113.out; have hnc49 := NB113_126.out; obtain ⟨hcz50_0, hcz50_1, hfz50_0, hfz50_1⟩ := b2 BK126; obtain ⟨Ao51, co51, eo51⟩ := Kd.R_slice HO125.out; subst eo51))
     go_ret
     exact ⟨qe, qb HB.out⟩
   subst c38
   rw [if_pos rfl] at H
   obtain ⟨t105, A39, H⟩ := ob H
   obtain rfl := Option.some.inj H
   go_wp2_with (first | ((with_reducible refine gf 9 ?_); refine gl 42 Tryd.func9 #[.string t100] ?_; (with_reducible refine (impl_NetRead.calls kj4 t100 t104 t120 true _ ?sideG A37.out).mono ?_); (case sideG => exact HG_.out.below (qb HB.out)); rintro e w40 ⟨v124, rfl, ho0, hb⟩; refine ⟨_, rfl, ?_⟩; have HO125 := q0 (Kd.R_lower (Kd.R_new' ho0 (Kd.R_lt (qr HO_100001.out))) (below_size (qb HB.out))); replace HO_100001 := q0 (Kd.R_elder' (qr HO_100001.out) (Kd.R_base ho0) hb); replace BK113 := kd BK113 hb; replace HB := bp HB hb; (try clear hb); (try clear hb2); (try clear hk); (try clear hi); (try clear ho0)) | ((with_reducible refine gd 5 ?_); refine be 5 #[.int .i64 0, .slice none 0 0] 24 ?_; intro gb126 hg w41 hbox hb; replace HO_100001 := q0 (Kd.R_below (qr HO_100001.out) hb); replace HO125 := q0 (Kd.R_below (qr HO125.out) hb); have BK126 := q0 (hbox); have GW126 := gw HB hg; have GE126 := gw HB hg; replace HB := bp HB hb; have NB113_126 := nl BK113 hg; have NB126_113 := ng BK113 hg; replace BK113 := kd BK113 hb; clear hb hbox hg; have hnb42 := NB126_113.out; have hnc42 := NB113_126.out; obtain ⟨hcz43_0, hcz43_1, hfz43_0, hfz43_1⟩ := b2 BK126; obtain ⟨Ao44, co44, eo44⟩ := Kd.R_slice HO125.out; subst eo44; obtain ⟨hcz45_0, hcz45_1, hfz45_0, hfz45_1⟩ := b2 BK113) | (go_at_call 18; (with_reducible refine (laws_loNet.calls kj4 t104 _ _ t120 t106 _ _ t110 t105 _ ?side1 ?side2 ?side3 ?side4 A39.out).mono ?_); (case side1 => refine (Kd.R_reads' (e := 47) (base := w.heap.size) (ok := fun k_ => (True ∧ some k_ ≠ (.slice Ao9 t110.length co9 : Value).ownBlock)) (n := t120.length) (c := co44) ?_).2.2; exact (by (with_reducible repeat (first | apply Kd.R_alloc | apply Kd.R_drewN | apply Kd.R_drew)); exact (rf2 HO125.out BK126.out (fun _ h_ => h_.1)))); (case side2 => exact (Kd.R_reads' HO125.out).2.1); (case side3 => refine (Kd.R_reads' (e := 47) (base := w.heap.size) (ok := fun k_ => (True ∧ some k_ ≠ (.slice Ao44 t120.length co44 : Value).ownBlock)) (n := t110.length) (c := co9) ?_).2.2; exact (by (with_reducible repeat (first | apply Kd.R_alloc | apply Kd.R_drewN | apply Kd.R_drew)); exact (rf2 HO_100001.out BK126.out (fun _ h_ => h_.1)))); (case side4 => exact (Kd.R_reads' HO_100001.out).2.1); rintro e w46 ⟨rfl, hb⟩; replace HO_100001 := q0 (Kd.R_below (by (with_reducible repeat (first | apply Kd.R_alloc | apply Kd.R_drewN | apply Kd.R_drew)); exact (rf2 HO_100001.out BK126.out (fun _ h_ => h_.1))) hb); replace HO125 := q0 (Kd.R_below (by (with_reducible repeat (first | apply Kd.R_alloc | apply Kd.R_drewN | apply Kd.R_drew)); exact (rf2 HO125.out BK126.out (fun _ h_ => h_.1))) hb); replace BK113 := q0 (kf BK113.out hb); replace BK126 := q0 (blk_below (g := gb126) (o := .cells #[.int .i64 t104, .slice Ao44 t120.length co44] 24 (0, 0)) (by (with_reducible repeat (first | refine blk_drewN ?_ _ | refine blk_drew ?_ | refine blk_alloc ?_ _)); refine blk_put (cs := #[.int .i64 t104, .slice none 0 0]) ?_ 1 _ rfl; (with_reducible repeat (first | refine blk_drewN ?_ _ | refine blk_drew ?_ | refine blk_alloc ?_ _)); refine blk_put (cs := #[.int .i64 0, .slice none 0 0]) ?_ 0 _ rfl; (with_reducible repeat (first | refine blk_drewN ?_ _ | refine blk_drew ?_ | refine blk_alloc ?_ _)); exact BK126.out) hb); replace HB := bp HB hb; (try clear hb); (try clear hb2); (try clear hk); (try clear hi)))
   go_ret
   exact ⟨qe, qb HB.out⟩
 subst c26
 rw [if_pos rfl] at H
 obtain ⟨t101, A27, H⟩ := ob H
 by_cases c28 : t100.toList = t101.toList
 rotate_left
 · rw [if_neg c28] at H
   have c28b0 : (t100.toList == t101.toList) = false := beq_eq_false_iff_ne.mpr c28
   have c28b1 : (t100.toList != t101.toList) = true := bne_iff_ne.mpr c28
   obtain rfl := Option.some.inj H
   try go_wp2
   replace HO_100001 := q0 (Kd.R_drew HO_100001.out)
   replace BK113 := q0 (blk_drew BK113.out)
   replace HB := q0 (below_drew1 HB.out)
   refine start_ (n := 12) (S := fun w' => w'.cell? ⟨gb113, 0, none⟩ = some (.int .i64 t106) ∧ w'.cell? ⟨gb113, 1, none⟩ = some (.slice Ao9 t110.length co9)) (ds := []) (ba 12 0) (by kernel_rfl) rfl (by kernel_rfl) ⟨bca BK113, bcb BK113⟩ (fun hHeld => ?_); refine with_tabW laws_FnNetBack.tab6 laws_FnNetBack.bits6 (fun HT_ HW_ => ?_)
   generalize wc.drew = w35 at HO_100001 BK113 HB hHeld ⊢
   refine pU 0 29 12 1 HT_ ?_
   refine tU 1 30 12 3 HT_ HW_ hHeld ?_
   refine one_ (i := 2) (N := some 31) (ba 12 7) rfl rfl (one_of HT_.out (by kernel_rfl)) (by decide) (fun K hK => ?_)
   refine goes_ Tryd.func15 (by kernel_rfl) rfl #[.agg #[.int .i64 t106, .slice Ao9 t110.length co9]] (by rfl) rfl rfl qm ?_
   with_reducible refine (spec_NetWrite.calls kj4 t106 _ _ t110 t101 _ ?side1 ?side2 A27.out).mono ?_
   (case side1 => exact qc (Kd.R_reads' HO_100001.out).2.2)
   (case side2 => exact (Kd.R_reads' HO_100001.out).2.1)
   rintro e w36 ⟨rfl, hb⟩
   refine ⟨_, rfl, ?_⟩
   replace HO_100001 := q0 (Kd.R_below (qr HO_100001.out) hb)
   replace BK113 := kd BK113 hb
   replace HB := bp HB hb
   (try clear hb)
   (try clear hb2)
   (try clear hk)
   (try clear hi)
   refine hK.out _ _ ⟨bca BK113, bcb BK113⟩ (fun hHeld => ?_)
   clear hK K
   refine nu 31 ?_
   refine pU 3 32 12 15 HT_ ?_
   refine pU 4 33 12 31 HT_ ?_
   refine pV 5 34 12 63 HT_ ?_
   refine pV 6 35 12 127 HT_ ?_
   refine pV 7 36 12 255 HT_ ?_
   refine pV 8 37 12 511 HT_ ?_
   refine pV 9 38 12 1023 HT_ ?_
   refine pU 10 39 12 2047 HT_ ?_
   refine pU 11 2 12 4095 HT_ ?_
   refine done_ (done_of HT_.out (by kernel_rfl)) ?_
   try go_wp2
   go_ret
   exact ⟨qe, qb HB.out⟩
 rw [if_pos c28] at H
 have c28b0 : (t100.toList == t101.toList) = true := beq_iff_eq.mpr c28
 have c28b1 : (t100.toList != t101.toList) = false := bne_eq_false_iff_eq.mpr c28
 clear c28
 obtain ⟨t102, A29, H⟩ := ob H
 obtain ⟨t103, A30, H⟩ := ob H
 obtain rfl := Option.some.inj H
 try go_wp2
 replace HO_100001 := q0 (Kd.R_drew HO_100001.out)
 replace BK113 := q0 (blk_drew BK113.out)
 replace HB := q0 (below_drew1 HB.out)
 refine start_ (n := 12) (S := fun w' => w'.cell? ⟨gb113, 0, none⟩ = some (.int .i64 t106) ∧ w'.cell? ⟨gb113, 1, none⟩ = some (.slice Ao9 t110.length co9)) (ds := []) (ba 12 0) (by kernel_rfl) rfl (by kernel_rfl) ⟨bca BK113, bcb BK113⟩ (fun hHeld => ?_); refine with_tabW laws_FnNetBack.tab6 laws_FnNetBack.bits6 (fun HT_ HW_ => ?_)
 generalize wc.drew = w31 at HO_100001 BK113 HB hHeld ⊢
 refine pU 0 29 12 1 HT_ ?_
 refine tU 1 30 12 3 HT_ HW_ hHeld ?_
 refine one_ (i := 2) (N := some 31) (ba 12 7) rfl rfl (one_of HT_.out (by kernel_rfl)) (by decide) (fun K hK => ?_)
 refine goes_ Tryd.func15 (by kernel_rfl) rfl #[.agg #[.int .i64 t106, .slice Ao9 t110.length co9]] (by rfl) rfl rfl qm ?_
 with_reducible refine (spec_NetWrite.calls kj4 t106 _ _ t110 t101 _ ?side1 ?side2 A27.out).mono ?_
 (case side1 => exact qc (Kd.R_reads' HO_100001.out).2.2)
 (case side2 => exact (Kd.R_reads' HO_100001.out).2.1)
 rintro e w32 ⟨rfl, hb⟩
 refine ⟨_, rfl, ?_⟩
 replace HO_100001 := q0 (Kd.R_below (qr HO_100001.out) hb)
 replace BK113 := kd BK113 hb
 replace HB := bp HB hb
 (try clear hb)
 (try clear hb2)
 (try clear hk)
 (try clear hi)
 refine hK.out _ _ ⟨bca BK113, bcb BK113⟩ (fun hHeld => ?_)
 clear hK K
 refine nu 31 ?_
 refine pU 3 32 12 15 HT_ ?_
 refine pU 4 33 12 31 HT_ ?_
 refine tU 5 34 12 63 HT_ HW_ hHeld ?_
 refine tU 7 36 12 191 HT_ HW_ hHeld ?_
 refine one_ (i := 6) (N := some 35) (ba 12 255) rfl rfl (one_of HT_.out (by kernel_rfl)) (by decide) (fun K hK => ?_)
 refine goes_ Tryd.func16 (by kernel_rfl) rfl #[.agg #[.int .i64 t106, .slice Ao9 t110.length co9]] (by rfl) rfl rfl qm ?_
 with_reducible refine (impl_NetOk.calls kj4 t106 _ _ t110 t102 _ ?side1 ?side2 A29.out).mono ?_
 (case side1 => exact qc (Kd.R_reads' HO_100001.out).2.2)
 (case side2 => exact (Kd.R_reads' HO_100001.out).2.1)
 rintro e w33 ⟨rfl, hb⟩
 refine ⟨_, rfl, ?_⟩
 replace HO_100001 := q0 (Kd.R_below (qr HO_100001.out) hb)
 replace BK113 := kd BK113 hb
 replace HB := bp HB hb
 (try clear hb)
 (try clear hb2)
 (try clear hk)
 (try clear hi)
 refine hK.out _ _ ⟨bca BK113, bcb BK113⟩ (fun hHeld => ?_)
 clear hK K
 refine nu 35 ?_
 refine one_ (i := 8) (N := some 37) (ba 12 511) rfl rfl (one_of HT_.out (by kernel_rfl)) (by decide) (fun K hK => ?_)
 refine goes_ Tryd.func17 (by kernel_rfl) rfl #[.agg #[.int .i64 t106, .slice Ao9 t110.length co9]] (by rfl) rfl rfl qm ?_
 with_reducible refine (spec_NetOk.calls kj4 t106 _ _ t110 t103 _ ?side1 ?side2 A30.out).mono ?_
 (case side1 => exact qc (Kd.R_reads' HO_100001.out).2.2)
 (case side2 => exact (Kd.R_reads' HO_100001.out).2.1)
 rintro e w34 ⟨rfl, hb⟩
 refine ⟨_, rfl, ?_⟩
 replace HO_100001 := q0 (Kd.R_below (qr HO_100001.out) hb)
 replace BK113 := kd BK113 hb
 replace HB := bp HB hb
 (try clear hb)
 (try clear hb2)
 (try clear hk)
 (try clear hi)
 refine hK.out _ _ ⟨bca BK113, bcb BK113⟩ (fun hHeld => ?_)
 clear hK K
 refine nu 37 ?_
 refine pU 9 38 12 1023 HT_ ?_
 refine pU 10 39 12 2047 HT_ ?_
 refine pU 11 2 12 4095 HT_ ?_
 refine done_ (done_of HT_.out (by kernel_rfl)) ?_
 try go_wp2
 go_ret
 exact ⟨qe, qb HB.out⟩

end Go.Proofs.YtloonheabfdgbaaDoor.P
