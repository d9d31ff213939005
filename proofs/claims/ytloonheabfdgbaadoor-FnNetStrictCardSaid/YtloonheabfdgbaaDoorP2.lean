import Derived.Test.YtloonheabfdgbaaDoorP0
import Derived.Test.YtloonheabfdgbaaDoorP1
namespace Go.Proofs.YtloonheabfdgbaaDoor.P
open Go.RowKit Go.Proofs.YtloonheabfdgbaaDoorW.PrintWords Go.Proofs.YtloonheabfdgbaaDoorW.PrintLast Go.Proofs.YtloonheabfdgbaaDoorW.PrintMore
attribute [local go_sem] max2_int min2_int max_two min_two max_three min_three max_four min_four
set_option linter.unusedVariables false
set_option linter.unusedSimpArgs false
attribute [local go_sem high] eqATie
set_option maxHeartbeats 8000000 in
set_option maxRecDepth 100000 in
theorem spec_l1Split.calls (k : Nat) (a0 : ByteArray) (a1 : Int) (r : List ByteArray) (w : World) (h : spec_l1Split.f k a0 a1 = some r) :
    Calls Tryd.prog 22 #[.string a0, .int .u8 a1] w fun e w' => ∃ v0_ : Value, e = .returned (v0_) ∧ Kd.R Kd.string 9 w' w.heap.size (fun _ => True) v0_ r ∧ Below w.heap.size w w' := by
 have HB := q0 (Below.refl w.heap.size w)
 have H : (spec_l1Split.l0 k a0 a1 (([] : List ByteArray)) 0 0) = some r := h
 clear h
 obtain ⟨y100, hy100⟩ : ∃ y_ : List ByteArray, y_ = (([] : List ByteArray)) := ⟨_, rfl⟩
 replace H : (spec_l1Split.l0 k a0 a1 y100 0 0) = some r := qy H hy100
 have Ny100 := q0 hy100
 clear hy100
 have H' := q0 H
 clear H
 go_enter Tryd.func22, Tryd.ntmps22
 go_wp2_with (first | ((with_reducible refine gd 8 ?_); refine Kd.R_lit Kd.string _ 9 ?hg (N := 8) ?hd (xs := ([] : List ByteArray)) (inner := []) (ok := fun _ => True) (okp := fun _ => True) ?hr ?hp (fun _ hk => hk) trivial (Below.refl _ _) (Nat.le_refl _) (by simp) ?_; (case hd => rfl); (case hg => rfl); (case hr => first | (go_simp; done) | (go_simp; rfl)); (case hp => exact (Reps.none _ _)); intro v101 w3 ho4 hb hg_ hnew_; clear hg_ hnew_; (first | rw [← Ny100.out] at ho4 | (simp only [Int.reduceToNat] at ho4; rw [← Ny100.out] at ho4)); have HO102 := q0 (Kd.R_lower ho4 (below_size (qb HB.out))); replace HB := bp HB hb; clear hb ho4))
 go_loopg [5, 6, 7] k (fun kq v5 v6 v7 w' => ∃ (x5_1 : List ByteArray) (x6_1 : Int) (x7_1 : Int), v6 = .int .i64 x6_1 ∧ v7 = .int .i64 x7_1 ∧ Aside0 (spec_l1Split.l0 kq a0 a1 x5_1 x6_1 x7_1 = some r) ∧ Aside0 (kq ≤ k) ∧ Aside0 (Kd.R Kd.string 9 w' w.heap.size (fun _ => True) v5 x5_1) ∧ Aside0 (Below w.heap.size w w'))
 case atStart => exact ⟨(y100), (0), (0), qs, qs, H', ⟨Nat.le_refl _⟩, ⟨qr HO102.out⟩, ⟨qb HB.out⟩⟩
 clear H'
 try clear c2
 try clear p2
 obtain ⟨x5_1, x6_1, x7_1, rfl, rfl, HA, HK1, HO_5, HB⟩ := hrel
 rcases gk with _ | k1
 · exact absurd HA.out (by simp [spec_l1Split.l0])
 have H := HA.out
 clear HA
 simp only [spec_l1Split.l0] at H
 by_cases c5 : x7_1 < (a0.size : Int)
 rotate_left
 · rw [if_neg c5] at H
   have c5b0 := decide_eq_false c5
   clear c5
   obtain ⟨c14, H⟩ : (0 ≤ x6_1) ∧ _ := og H
   have c14b0 := eq_true c14
   have c14b1 := decide_eq_true c14
   clear c14
   obtain ⟨c15, H⟩ : (x6_1 ≤ (a0.size : Int)) ∧ _ := og H
   have c15b0 := eq_true c15
   have c15b1 := decide_eq_true c15
   clear c15
   obtain ⟨c16, H⟩ : (x5_1.length < 8796093022208) ∧ _ := og H
   have LMc16 := q0 c16
   clear c16
   obtain ⟨y106, hy106⟩ : ∃ y_ : List ByteArray, y_ = (x5_1 ++ [a0.extract (x6_1 : Int).toNat a0.size]) := ⟨_, rfl⟩
   replace H : (some y106) = some r := qy H hy106
   have Ny106 := q0 hy106
   clear hy106
   obtain rfl := Option.some.inj H
   go_wp2_with (first | ((with_reducible refine gate_builtin (b := .append) (xs := #[.tmp 29, .tmp 33]) rfl ?_); at_builtin; refine Kd.R_append Kd.string (w0 := w) w.heap.size rfl (.tmp 29) (.tmp 33) 43 9 (.string ⟨#[]⟩) 16 rfl Tryd.underlying43 info9 rfl (by decide) (by omega) u5 x5_1 (a0.extract (x6_1 : Int).toNat a0.size) [.string (a0.extract (x6_1 : Int).toNat a0.size)] (fun _ => True) (fun _ => False) rfl rfl ?aP (fun _ hk => hk.elim) ?aF ?aO ?aB ?aS ?aL ?_; (case aP => exact rfl); (case aB => exact (qb HB.out)); (case aF => exact (fun _ _ => trivial)); (case aO => exact (qr HO_5.out)); (case aS => exact (below_size (qb HB.out))); (case aL => have := LMc16.out; omega); intro v107 w17 ho hb hg hat; rw [← Ny106.out] at ho; replace HB := q0 (hb); have HO108 := q0 (ho); clear HO_5; clear ho hb hg hat))
   go_ret
   exact ⟨_, qe, qr HO108.out, qb HB.out⟩
 rw [if_pos c5] at H
 have c5b0 := decide_eq_true c5
 clear c5
 obtain ⟨c6, H⟩ : (0 ≤ x7_1) ∧ _ := og H
 have c6b0 := decide_eq_true c6
 clear c6
 by_cases c8 : (bt a0 x7_1) = a1
 rotate_left
 · rw [if_neg c8] at H
   have c8b0 : ((bt a0 x7_1) == a1) = false := beq_eq_false_iff_ne.mpr c8
   have c8b1 : ((bt a0 x7_1) != a1) = true := bne_iff_ne.mpr c8
   have H' := q0 H
   clear H
   have p7 : 0 ≤ (x7_1 : Int) := of_decide_eq_true qa
   have q7 : x7_1 < (a0.size : Int) := of_decide_eq_true qa
   have hx7 := bt_at a0 x7_1
   replace p7 := eq_true p7
   replace q7 := eq_true q7
   go_wp2
   go_roundg k1
   case measure => have := HK1.out; omega
   case rel => exact ⟨(x5_1), (x6_1), (wrap64 (x7_1 + 1)), qs, qs, H', ⟨by have := HK1.out; omega⟩, ⟨qr HO_5.out⟩, ⟨qb HB.out⟩⟩
 rw [if_pos c8] at H
 have c8b0 : ((bt a0 x7_1) == a1) = true := beq_iff_eq.mpr c8
 have c8b1 : ((bt a0 x7_1) != a1) = false := bne_eq_false_iff_eq.mpr c8
 clear c8
 obtain ⟨c9, H⟩ : (0 ≤ x6_1) ∧ _ := og H
 have c9b0 := eq_true c9
 have c9b1 := decide_eq_true c9
 clear c9
 obtain ⟨c10, H⟩ : (x6_1 ≤ x7_1) ∧ _ := og H
 have c10b0 := eq_true c10
 have c10b1 := decide_eq_true c10
 clear c10
 obtain ⟨c11, H⟩ : (x7_1 ≤ (a0.size : Int)) ∧ _ := og H
 have c11b0 := eq_true c11
 have c11b1 := decide_eq_true c11
 clear c11
 obtain ⟨c12, H⟩ : (x5_1.length < 8796093022208) ∧ _ := og H
 have LMc12 := q0 c12
 clear c12
 obtain ⟨y103, hy103⟩ : ∃ y_ : List ByteArray, y_ = (x5_1 ++ [a0.extract (x6_1 : Int).toNat (x7_1 : Int).toNat]) := ⟨_, rfl⟩
 replace H : (spec_l1Split.l0 k1 a0 a1 y103 (wrap64 (x7_1 + 1)) (wrap64 (x7_1 + 1))) = some r := qy H hy103
 have Ny103 := q0 hy103
 clear hy103
 have H' := q0 H
 clear H
 have p7 : 0 ≤ (x7_1 : Int) := of_decide_eq_true qa
 have q7 : x7_1 < (a0.size : Int) := of_decide_eq_true qa
 have hx7 := bt_at a0 x7_1
 replace p7 := eq_true p7
 replace q7 := eq_true q7
 go_wp2_with (first | ((with_reducible refine gate_builtin (b := .append) (xs := #[.tmp 20, .tmp 25]) rfl ?_); at_builtin; refine Kd.R_append Kd.string (w0 := w) w.heap.size rfl (.tmp 20) (.tmp 25) 43 9 (.string ⟨#[]⟩) 16 rfl Tryd.underlying43 info9 rfl (by decide) (by omega) u5 x5_1 (a0.extract (x6_1 : Int).toNat (x7_1 : Int).toNat) [.string (a0.extract (x6_1 : Int).toNat (x7_1 : Int).toNat)] (fun _ => True) (fun _ => False) rfl rfl ?aP (fun _ hk => hk.elim) ?aF ?aO ?aB ?aS ?aL ?_; (case aP => exact rfl); (case aB => exact (qb HB.out)); (case aF => exact (fun _ _ => trivial)); (case aO => exact (qr HO_5.out)); (case aS => exact (below_size (qb HB.out))); (case aL => have := LMc12.out; omega); intro v104 w13 ho hb hg hat; rw [← Ny103.out] at ho; replace HB := q0 (hb); have HO105 := q0 (ho); clear HO_5; clear ho hb hg hat))
 go_roundg k1
 case measure => have := HK1.out; omega
 case rel => exact ⟨(y103), (wrap64 (x7_1 + 1)), (wrap64 (x7_1 + 1)), qs, qs, H', ⟨by have := HK1.out; omega⟩, ⟨qr HO105.out⟩, ⟨qb HB.out⟩⟩

set_option maxHeartbeats 8000000 in
set_option maxRecDepth 100000 in
theorem spec_l1Dec.calls (a0 : ByteArray) (r : Int) (w : World) (h : spec_l1Dec.f a0 = some r) :
    Calls Tryd.prog 23 #[.string a0] w fun e w' => e = .returned (.int .i64 r) ∧ Drawn0 w w' := by
 have H : (if (a0.size : Int) = 1 then (if 0 < (a0.size : Int) then (if (bt a0 0) < 48 then (some (-1)) else (if (bt a0 0) > 57 then (some (-1)) else (some (((bt a0 0) - 48) % 256)))) else (none)) else (some (-1))) = some r := h
 clear h
 by_cases c2 : (a0.size : Int) = 1
 rotate_left
 · rw [if_neg c2] at H
   have c2b0 : ((a0.size : Int) == 1) = false := beq_eq_false_iff_ne.mpr c2
   have c2b1 : ((a0.size : Int) != 1) = true := bne_iff_ne.mpr c2
   obtain rfl := Option.some.inj H
   go_enter Tryd.func23, Tryd.ntmps23
   go_wp2
   go_ret
   exact ⟨by first | rfl | (simp; done) | (simp [*]; done), by repeat (first | exact Drawn0.refl _ | apply Drawn0.step)⟩
 rw [if_pos c2] at H
 have c2b0 : ((a0.size : Int) == 1) = true := beq_iff_eq.mpr c2
 have c2b1 : ((a0.size : Int) != 1) = false := bne_eq_false_iff_eq.mpr c2
 clear c2
 obtain ⟨c3, H⟩ : (0 < (a0.size : Int)) ∧ _ := og H
 have c3b0 := decide_eq_true c3
 have c3b1 : decide (0 < a0.size) = true := decide_eq_true (by omega)
 clear c3
 by_cases c5 : (bt a0 0) < 48
 · rw [if_pos c5] at H
   have c5b0 := decide_eq_true c5
   clear c5
   obtain rfl := Option.some.inj H
   have p4 : 0 ≤ (0 : Int) := (by omega)
   have q4 : 0 < a0.size := (by have : (0 : Int) < (a0.size : Int) := of_decide_eq_true qa; omega)
   have hx4 : ∀ h : 0 < a0.size, ((a0[0]'h).toNat : Int) = bt a0 0 := bt_at a0 0
   clear p4
   have qi4 : (0 < (a0.size : Int)) = True := eq_true (of_decide_eq_true qa)
   replace q4 := eq_true q4
   go_enter Tryd.func23, Tryd.ntmps23
   go_wp2
   go_ret
   exact ⟨by first | rfl | (simp; done) | (simp [*]; done), by repeat (first | exact Drawn0.refl _ | apply Drawn0.step)⟩
 rw [if_neg c5] at H
 have c5b0 := decide_eq_false c5
 clear c5
 by_cases c7 : (bt a0 0) > 57
 · rw [if_pos c7] at H
   have c7b0 := decide_eq_true c7
   clear c7
   obtain rfl := Option.some.inj H
   have p4 : 0 ≤ (0 : Int) := (by omega)
   have q4 : 0 < a0.size := (by have : (0 : Int) < (a0.size : Int) := of_decide_eq_true qa; omega)
   have hx4 : ∀ h : 0 < a0.size, ((a0[0]'h).toNat : Int) = bt a0 0 := bt_at a0 0
   clear p4
   have qi4 : (0 < (a0.size : Int)) = True := eq_true (of_decide_eq_true qa)
   replace q4 := eq_true q4
   have p6 : 0 ≤ (0 : Int) := (by omega)
   have q6 : 0 < a0.size := (by have : (0 : Int) < (a0.size : Int) := of_decide_eq_true qa; omega)
   have hx6 : ∀ h : 0 < a0.size, ((a0[0]'h).toNat : Int) = bt a0 0 := bt_at a0 0
   clear p6
   have qi6 : (0 < (a0.size : Int)) = True := eq_true (of_decide_eq_true qa)
   replace q6 := eq_true q6
   go_enter Tryd.func23, Tryd.ntmps23
   go_wp2
   go_ret
   exact ⟨by first | rfl | (simp; done) | (simp [*]; done), by repeat (first | exact Drawn0.refl _ | apply Drawn0.step)⟩
 rw [if_neg c7] at H
 have c7b0 := decide_eq_false c7
 clear c7
 obtain rfl := Option.some.inj H
 have p4 : 0 ≤ (0 : Int) := (by omega)
 have q4 : 0 < a0.size := (by have : (0 : Int) < (a0.size : Int) := of_decide_eq_true qa; omega)
 have hx4 : ∀ h : 0 < a0.size, ((a0[0]'h).toNat : Int) = bt a0 0 := bt_at a0 0
 clear p4
 have qi4 : (0 < (a0.size : Int)) = True := eq_true (of_decide_eq_true qa)
 replace q4 := eq_true q4
 have p6 : 0 ≤ (0 : Int) := (by omega)
 have q6 : 0 < a0.size := (by have : (0 : Int) < (a0.size : Int) := of_decide_eq_true qa; omega)
 have hx6 : ∀ h : 0 < a0.size, ((a0[0]'h).toNat : Int) = bt a0 0 := bt_at a0 0
 clear p6
 have qi6 : (0 < (a0.size : Int)) = True := eq_true (of_decide_eq_true qa)
 replace q6 := eq_true q6
 have p8 : 0 ≤ (0 : Int) := (by omega)
 have q8 : 0 < a0.size := (by have : (0 : Int) < (a0.size : Int) := of_decide_eq_true qa; omega)
 have hx8 : ∀ h : 0 < a0.size, ((a0[0]'h).toNat : Int) = bt a0 0 := bt_at a0 0
 clear p8
 have qi8 : (0 < (a0.size : Int)) = True := eq_true (of_decide_eq_true qa)
 replace q8 := eq_true q8
 go_enter Tryd.func23, Tryd.ntmps23
 go_wp2
 go_ret
 exact ⟨by first | rfl | (simp; done) | (simp [*]; done), by repeat (first | exact Drawn0.refl _ | apply Drawn0.step)⟩

def spec_NetRead.T12 : Bool × List (List Nat × List Nat) := (true, [([], []), ([0], [0]), ([], []), ([2], [2]), ([3], [3]), ([4], [4]), ([], []), ([6], [6]), ([7], [7]), ([8, 5], [8]), ([5, 9], [5, 9]), ([10], [10]), ([1, 11, 9], [1, 11]), ([0, 1, 2, 3, 4, 5, 6, 7, 8, 9, 10, 11, 12], []), ([13, 12, 12, 0, 1, 2, 3, 4, 5, 6, 7, 8, 9, 10, 11, 12], [12, 13])])
def spec_NetRead.B12 : List Nat := [0, 1, 0, 4, 12, 28, 0, 64, 192, 508, 1020, 2044, 4095, 8191, 16383]
theorem spec_NetRead.tab12 : rtab .any (opsOf Tryd.f8 12) = spec_NetRead.T12 := by kernel_rfl
theorem spec_NetRead.bits12 : waitsOk spec_NetRead.T12.2 spec_NetRead.B12 = true := by kernel_rfl
set_option maxHeartbeats 8000000 in
set_option maxRecDepth 100000 in
theorem spec_NetRead.calls (k : Nat) (a0 : ByteArray) (r1 : Int) (r2 : List (STie)) (r3 : Bool) (w : World) (h : spec_NetRead.f k a0 = some (r1, r2, r3)) :
    Calls Tryd.prog 8 #[.string a0] w fun e w' => ∃ v1_ : Value, e = .returned (.tuple #[.agg #[.int .i64 r1, v1_], .bool r3]) ∧ Kd.R kTie 47 w' w.heap.size (fun _ => True) v1_ r2 ∧ Below w.heap.size w w' := by
 have hu24 := Tryd.underlying24
 have hu47 := Tryd.underlying47
 have HB := q0 (Below.refl w.heap.size w)
 have H : (if (a0.size : Int) > 600 then (some (0, ([] : List (STie)), false)) else ((spec_l1Split.f k a0 10).bind fun t100 => (spec_NetRead.l0 k a0 t100 0 (-1) ([] : List (STie))))) = some (r1, r2, r3) := h
 clear h
 by_cases c2 : (a0.size : Int) > 600
 · rw [if_pos c2] at H
   have c2b0 := decide_eq_true c2
   have c2b1 : decide (600 < a0.size) = true := decide_eq_true (by omega)
   clear c2
   simp only [Option.some.injEq, Prod.mk.injEq] at H
   obtain ⟨rfl, rfl, rfl⟩ := H
   go_enter Tryd.func8, Tryd.ntmps8
   go_wp2_with (first | ((with_reducible refine gd 2 ?_); (try (refine gate_guard (by rfl) ?_; dsimp only)); refine be 2 #[.int .i64 0, .slice none 0 0] 24 ?_; intro gb106 hg w3 hbox hb; have BK106 := q0 (hbox); have GW106 := gw HB hg; have GE106 := gw HB hg; replace HB := bp HB hb; clear hb hbox hg; obtain ⟨hcz4_0, hcz4_1, hfz4_0, hfz4_1⟩ := b2 BK106))
   refine bodyPost_ret (results_ct rfl _ _ gb106 24 #[.int .i64 0, .slice none 0 0] (0, 0) _ rfl (by (with_reducible repeat (first | refine blk_drewN ?_ _ | refine blk_drew ?_ | refine blk_alloc ?_ _)); refine blk_put (cs := #[.int .i64 0, .slice none 0 0]) ?_ 1 _ rfl; (with_reducible repeat (first | refine blk_drewN ?_ _ | refine blk_drew ?_ | refine blk_alloc ?_ _)); refine blk_put (cs := #[.int .i64 0, .slice none 0 0]) ?_ 0 _ rfl; (with_reducible repeat (first | refine blk_drewN ?_ _ | refine blk_drew ?_ | refine blk_alloc ?_ _)); exact BK106.out) Tryd.underlying24 rfl (by kernel_rfl)) rfl ?_
   exact ⟨_, qe, by first | exact Kd.R_nil _ _ _ _ _ | exact Kd.N_nil _ _ _ _ _ | exact Kd.V_nil _ _ _ _ _ | exact Kd.Q_nil _ _ _ _ _ | exact Kd.S_nil _ _ _ _ _, qb HB.out⟩
 rw [if_neg c2] at H
 have c2b0 := decide_eq_false c2
 have c2b1 : decide (600 < a0.size) = false := decide_eq_false (by omega)
 clear c2
 obtain ⟨t100, A5, H⟩ := ob H
 have H' := q0 H
 clear H
 go_enter Tryd.func8, Tryd.ntmps8
 go_wp2_with (first | ((with_reducible refine gd 2 ?_); (try (refine gate_guard (by rfl) ?_; dsimp only)); refine be 2 #[.int .i64 0, .slice none 0 0] 24 ?_; intro gb106 hg w6 hbox hb; have BK106 := q0 (hbox); have GW106 := gw HB hg; have GE106 := gw HB hg; replace HB := bp HB hb; clear hb hbox hg) | ((with_reducible refine gd 4 ?_); (try (refine gate_guard (by rfl) ?_; dsimp only)); refine be 4 #[.int .i64 0, .slice none 0 0] 24 ?_; intro gb107 hg w7 hbox hb; have BK107 := q0 (hbox); have GW107 := gw HB hg; have GE107 := gw HB hg; replace HB := bp HB hb; have NB106_107 := nl BK106 hg; have NB107_106 := ng BK106 hg; replace BK106 := kd BK106 hb; clear hb hbox hg; have hnb8 := NB107_106.out; have hnc8 := NB106_107.out; obtain ⟨hcz9_0, hcz9_1, hfz9_0, hfz9_1⟩ := b2 BK107) | ((with_reducible refine gf 22 ?_); refine gl 14 Tryd.func22 #[.string a0, .int .u8 10] ?_; (with_reducible refine (spec_l1Split.calls k a0 10 t100 _ A5.out).mono ?_); rintro e w10 ⟨v108, rfl, ho0, hb⟩; refine ⟨_, rfl, ?_⟩; have HO109 := q0 (Kd.R_lower ho0 (below_size (qb HB.out))); replace BK106 := q0 (kf BK106.out hb); replace BK107 := q0 (blk_below (g := gb107) (o := .cells #[.int .i64 (-1), .slice none 0 0] 24 (0, 0)) (by (with_reducible repeat (first | refine blk_drewN ?_ _ | refine blk_drew ?_ | refine blk_alloc ?_ _)); refine blk_put (cs := #[.int .i64 (-1), .slice none 0 0]) ?_ 1 _ rfl; (with_reducible repeat (first | refine blk_drewN ?_ _ | refine blk_drew ?_ | refine blk_alloc ?_ _)); refine blk_put (cs := #[.int .i64 0, .slice none 0 0]) ?_ 0 _ rfl; (with_reducible repeat (first | refine blk_drewN ?_ _ | refine blk_drew ?_ | refine blk_alloc ?_ _)); exact BK107.out) hb); replace HB := bp HB hb; (try clear hb); (try clear hb2); (try clear hk); (try clear hi); (try clear ho0)))
 go_loopg [6] k (fun kq v6 w' => ∃ (x6_1 : Int) (x100000_1 : Int) (x100001_1 : List (STie)) (u100001 : Value), v6 = .int .i64 x6_1 ∧ Aside0 (spec_NetRead.l0 kq a0 t100 x6_1 x100000_1 x100001_1 = some (r1, r2, r3)) ∧ Aside0 (kq ≤ k) ∧ Aside0 (Kd.R Kd.string 9 w' w.heap.size (fun _ => True) v108 t100) ∧ Aside0 (Kd.R kTie 47 w' w.heap.size (fun _ => True) u100001 x100001_1) ∧ Aside0 (w'.heap[gb106]? = some (.cells #[.int .i64 0, (.slice none 0 0)] 24 (0, 0))) ∧ Aside0 (w'.heap[gb107]? = some (.cells #[.int .i64 x100000_1, u100001] 24 (0, 0))) ∧ Aside0 (Below w.heap.size w w'))
 case atStart => exact ⟨(0), ((-1)), (([] : List (STie))), (.slice none 0 0), qs, H', ⟨Nat.le_refl _⟩, ⟨qr HO109.out⟩, ⟨by first | exact Kd.R_nil _ _ _ _ _ | exact Kd.N_nil _ _ _ _ _ | exact Kd.V_nil _ _ _ _ _ | exact Kd.Q_nil _ _ _ _ _ | exact Kd.S_nil _ _ _ _ _⟩, ⟨qk BK106.out⟩, ⟨qk BK107.out⟩, ⟨qb HB.out⟩⟩
 clear H'
 try clear c2
 try clear c2b0
 try clear c2b1
 try clear p2
 try clear c8
 try clear hcz4_0
 try clear hcz4_1
 try clear hcz9_0
 try clear hcz9_1
 try clear hfz4_0
 try clear hfz4_1
 try clear hfz9_0
 try clear hfz9_1
 obtain ⟨x6_1, x100000_1, x100001_1, u100001, rfl, HA, HK1, HO_5, HO_100001, BK106, BK107, HB⟩ := hrel
 rcases gk with _ | k1
 · exact absurd HA.out (by simp [spec_NetRead.l0])
 have H := HA.out
 clear HA
 simp only [spec_NetRead.l0] at H
 by_cases c11 : x6_1 < (t100.length : Int)
 rotate_left
 · rw [if_neg c11] at H
   have c11b0 := decide_eq_false c11
   clear c11
   by_cases c43 : a0.toList = ([] : List UInt8)
   · rw [if_pos c43] at H
     have c43b0 : (a0.toList == ([] : List UInt8)) = true := beq_iff_eq.mpr c43
     have c43b1 : (a0.toList != ([] : List UInt8)) = false := bne_eq_false_iff_eq.mpr c43
     clear c43
     simp only [Option.some.injEq, Prod.mk.injEq] at H
     obtain ⟨rfl, rfl, rfl⟩ := H
     obtain ⟨Ao44, co44, eo44⟩ := Kd.R_slice HO_5.out
     subst eo44
     have hnb45 := NB106_107.out
     have hnc45 := NB107_106.out
     obtain ⟨hcz46_0, hcz46_1, hfz46_0, hfz46_1⟩ := b2 BK106
     go_wp2
     refine bodyPost_ret (results_ct rfl _ _ gb106 24 #[.int .i64 0, .slice none 0 0] (0, 0) _ rfl (by (with_reducible repeat (first | refine blk_drewN ?_ _ | refine blk_drew ?_ | refine blk_alloc ?_ _)); refine blk_put (cs := #[.int .i64 0, .slice none 0 0]) ?_ 1 _ rfl; (with_reducible repeat (first | refine blk_drewN ?_ _ | refine blk_drew ?_ | refine blk_alloc ?_ _)); refine blk_put (cs := #[.int .i64 0, .slice none 0 0]) ?_ 0 _ rfl; (with_reducible repeat (first | refine blk_drewN ?_ _ | refine blk_drew ?_ | refine blk_alloc ?_ _)); exact BK106.out) Tryd.underlying24 rfl (by kernel_rfl)) rfl ?_
     exact ⟨_, qe, by first | exact Kd.R_nil _ _ _ _ _ | exact Kd.N_nil _ _ _ _ _ | exact Kd.V_nil _ _ _ _ _ | exact Kd.Q_nil _ _ _ _ _ | exact Kd.S_nil _ _ _ _ _, qb HB.out⟩
   rw [if_neg c43] at H
   have c43b0 : (a0.toList == ([] : List UInt8)) = false := beq_eq_false_iff_ne.mpr c43
   have c43b1 : (a0.toList != ([] : List UInt8)) = true := bne_iff_ne.mpr c43
   obtain ⟨t102, A47, H⟩ := ob H
   by_cases c48 : t102.toList = a0.toList
   rotate_left
   · rw [if_neg c48] at H
     have c48b0 : (t102.toList == a0.toList) = false := beq_eq_false_iff_ne.mpr c48
     have c48b1 : (t102.toList != a0.toList) = true := bne_iff_ne.mpr c48
     simp only [Option.some.injEq, Prod.mk.injEq] at H
     obtain ⟨rfl, rfl, rfl⟩ := H
     obtain ⟨Ao56, co56, eo56⟩ := Kd.R_slice HO_5.out
     subst eo56
     have hnb57 := NB107_106.out
     have hnc57 := NB106_107.out
     obtain ⟨hcz58_0, hcz58_1, hfz58_0, hfz58_1⟩ := b2 BK107
     obtain ⟨Ao59, co59, eo59⟩ := Kd.R_slice HO_100001.out
     subst eo59
     go_wp2_with (first | (go_at_call 15; (with_reducible refine (spec_NetWrite.calls k1 x100000_1 _ _ x100001_1 t102 _ ?side1 ?side2 A47.out).mono ?_); (case side1 => exact qc (Kd.R_reads' HO_100001.out).2.2); (case side2 => exact (Kd.R_reads' HO_100001.out).2.1); rintro e w60 ⟨rfl, hb⟩; replace HO_5 := q0 (Kd.R_below (qr HO_5.out) hb); replace HO_100001 := q0 (Kd.R_below (qr HO_100001.out) hb); replace BK106 := kd BK106 hb; replace BK107 := kd BK107 hb; replace HB := bp HB hb; (try clear hb); (try clear hb2); (try clear hk); (try clear hi); obtain ⟨hcz61_0, hcz61_1, hfz61_0, hfz61_1⟩ := b2 BK106))
     refine bodyPost_ret (results_ct rfl _ _ gb106 24 #[.int .i64 0, .slice none 0 0] (0, 0) _ rfl (by (with_reducible repeat (first | refine blk_drewN ?_ _ | refine blk_drew ?_ | refine blk_alloc ?_ _)); refine blk_put (cs := #[.int .i64 0, .slice none 0 0]) ?_ 1 _ rfl; (with_reducible repeat (first | refine blk_drewN ?_ _ | refine blk_drew ?_ | refine blk_alloc ?_ _)); refine blk_put (cs := #[.int .i64 0, .slice none 0 0]) ?_ 0 _ rfl; (with_reducible repeat (first | refine blk_drewN ?_ _ | refine blk_drew ?_ | refine blk_alloc ?_ _)); exact BK106.out) Tryd.underlying24 rfl (by kernel_rfl)) rfl ?_
     exact ⟨_, qe, by first | exact Kd.R_nil _ _ _ _ _ | exact Kd.N_nil _ _ _ _ _ | exact Kd.V_nil _ _ _ _ _ | exact Kd.Q_nil _ _ _ _ _ | exact Kd.S_nil _ _ _ _ _, qb HB.out⟩
   rw [if_pos c48] at H
   have c48b0 : (t102.toList == a0.toList) = true := beq_iff_eq.mpr c48
   have c48b1 : (t102.toList != a0.toList) = false := bne_eq_false_iff_eq.mpr c48
   clear c48
   simp only [Option.some.injEq, Prod.mk.injEq] at H
   obtain ⟨rfl, rfl, rfl⟩ := H
   obtain ⟨Ao49, co49, eo49⟩ := Kd.R_slice HO_5.out
   subst eo49
   have hnb50 := NB107_106.out
   have hnc50 := NB106_107.out
   obtain ⟨hcz51_0, hcz51_1, hfz51_0, hfz51_1⟩ := b2 BK107
   obtain ⟨Ao52, co52, eo52⟩ := Kd.R_slice HO_100001.out
   subst eo52
   go_wp2_with (first | (go_at_call 15; (with_reducible refine (spec_NetWrite.calls k1 x100000_1 _ _ x100001_1 t102 _ ?side1 ?side2 A47.out).mono ?_); (case side1 => exact qc (Kd.R_reads' HO_100001.out).2.2); (case side2 => exact (Kd.R_reads' HO_100001.out).2.1); rintro e w53 ⟨rfl, hb⟩; replace HO_5 := q0 (Kd.R_below (qr HO_5.out) hb); replace HO_100001 := q0 (Kd.R_below (qr HO_100001.out) hb); replace BK106 := kd BK106 hb; replace BK107 := kd BK107 hb; replace HB := bp HB hb; (try clear hb); (try clear hb2); (try clear hk); (try clear hi); obtain ⟨hcz54_0, hcz54_1, hfz54_0, hfz54_1⟩ := b2 BK107; obtain ⟨hcz55_0, hcz55_1, hfz55_0, hfz55_1⟩ := b2 BK106))
   refine bodyPost_ret (results_ct rfl _ _ gb106 24 #[.int .i64 x100000_1, .slice Ao52 x100001_1.length co52] (0, 0) _ rfl (by (with_reducible repeat (first | refine blk_drewN ?_ _ | refine blk_drew ?_ | refine blk_alloc ?_ _)); refine blk_put (cs := #[.int .i64 x100000_1, .slice none 0 0]) ?_ 1 _ rfl; (with_reducible repeat (first | refine blk_drewN ?_ _ | refine blk_drew ?_ | refine blk_alloc ?_ _)); refine blk_put (cs := #[.int .i64 0, .slice none 0 0]) ?_ 0 _ rfl; (with_reducible repeat (first | refine blk_drewN ?_ _ | refine blk_drew ?_ | refine blk_alloc ?_ _)); exact BK106.out) Tryd.underlying24 rfl (by kernel_rfl)) rfl ?_
   exact ⟨_, qe, by (with_reducible repeat (first | apply Kd.R_alloc | apply Kd.R_drewN | apply Kd.R_drew)); exact rf2 HO_100001.out BK106.out (fun _ hk => trivial), qb HB.out⟩
 rw [if_pos c11] at H
 have c11b0 := decide_eq_true c11
 clear c11
 obtain ⟨c12, H⟩ : (0 ≤ x6_1) ∧ _ := og H
 have c12b0 := decide_eq_true c12
 clear c12
 obtain ⟨t101, A13, H⟩ := ob H
 have HC14 := q0 H
 clear H
 obtain ⟨Ao15, co15, eo15⟩ := Kd.R_slice HO_5.out
 subst eo15
 have p111 : 0 ≤ (x6_1 : Int) := of_decide_eq_true qa
 have q111 : x6_1 < (t100.length : Int) := of_decide_eq_true qa
 obtain ⟨ad111, e111, hx111_0⟩ := Kd.at_string (Kd.R_reads' HO_5.out).2.2 x6_1 p111 q111
 cases e111
 replace p111 := eq_true p111
 replace q111 := eq_true q111
 go_upto_region 9 with (first | ((with_reducible refine gf 22 ?_); refine gl 25 Tryd.func22 #[.string (rdOf ByteArray.empty t100 x6_1), .int .u8 32] ?_; (with_reducible refine (spec_l1Split.calls k1 (rdOf ByteArray.empty t100 x6_1) 32 t101 _ A13.out).mono ?_); rintro e w16 ⟨v112, rfl, ho0, hb⟩; refine ⟨_, rfl, ?_⟩; replace HO_100001 := q0 (Kd.R_below (qr HO_100001.out) hb); have HO113 := q0 (Kd.R_lower (Kd.R_new' ho0 (Kd.R_lt (qr HO_5.out))) (below_size (qb HB.out))); replace HO_5 := q0 (Kd.R_elder' (qr HO_5.out) (Kd.R_base ho0) hb); replace BK106 := kd BK106 hb; replace BK107 := kd BK107 hb; replace HB := bp HB hb; (try clear hb); (try clear hb2); (try clear hk); (try clear hi); (try clear ho0)))
 (try simp only [Act.put, List.setIfInBounds_toArray, List.set_cons_zero, List.set_cons_succ])
 go_cut [26] (fun v26 wc => ∃ (kq : Nat) (x26_13 : Bool), v26 = .bool x26_13 ∧ Aside0 (spec_NetRead.j1 kq a0 t100 x6_1 t101 x26_13 x100000_1 x100001_1 = some (r1, r2, r3)) ∧ Aside0 (kq ≤ k1) ∧ Aside0 (Kd.R Kd.string 9 wc w.heap.size (fun k_ => some k_ ≠ (v112 : Value).ownBlock) (.slice (some ad111) t100.length co15) t100) ∧ Aside0 (Kd.R Kd.string 9 wc w.heap.size (fun k_ => some k_ ≠ ((.slice (some ad111) t100.length co15) : Value).ownBlock) v112 t101) ∧ Aside0 (Kd.R kTie 47 wc w.heap.size (fun _ => True) u100001 x100001_1) ∧ Aside0 (wc.heap[gb106]? = some (.cells #[.int .i64 0, (.slice none 0 0)] 24 (0, 0))) ∧ Aside0 (wc.heap[gb107]? = some (.cells #[.int .i64 x100000_1, u100001] 24 (0, 0))) ∧ Aside0 (Below w.heap.size w wc))
 case first =>
   have H := HC14.out
   clear HC14
   obtain ⟨c17, H⟩ : (0 < (t101.length : Int)) ∧ _ := og H
   have c17b0 := decide_eq_true c17
   have c17b1 : decide (0 < t101.length) = true := decide_eq_true (by omega)
   clear c17
   (first | rw [c17b0] | (simp only [i64_w, i32_w]; rw [c17b0]) | skip)
   by_cases c18 : (rdOf ByteArray.empty t101 0).toList = ([107, 110, 111, 116, 115] : List UInt8)
   rotate_left
   · rw [if_neg c18] at H
     have c18b0 : ((rdOf ByteArray.empty t101 0).toList == ([107, 110, 111, 116, 115] : List UInt8)) = false := beq_eq_false_iff_ne.mpr c18
     have c18b1 : ((rdOf ByteArray.empty t101 0).toList != ([107, 110, 111, 116, 115] : List UInt8)) = true := bne_iff_ne.mpr c18
     have H' := q0 H
     clear H
     obtain ⟨Ao20, co20, eo20⟩ := Kd.R_slice HO113.out
     subst eo20
     have p114 : 0 ≤ (0 : Int) := (by omega)
     have q114 : 0 < (t101.length : Int) := of_decide_eq_true qa
     obtain ⟨ad114, e114, hx114_0⟩ := Kd.at_string (Kd.R_reads' HO113.out).2.2 0 p114 q114
     cases e114
     have qi114 : (0 < t101.length) = True := eq_true (by omega)
     (try rw [show ((0 : Int)).toNat = 0 from rfl] at hx114_0)
     (try rw [Addr.add_zero'] at hx114_0)
     replace p114 := eq_true p114
     replace q114 := eq_true q114
     go_wp2
     go_meet
     case rel => exact ⟨_, (false), qs, H', ⟨by have := HK1.out; first | omega | exact Nat.le_refl _⟩, ⟨by (with_reducible repeat (first | apply Kd.R_alloc | apply Kd.R_drewN | apply Kd.R_drew)); exact Kd.R_mono HO_5.out (fun _ hk => hk.2)⟩, ⟨by (with_reducible repeat (first | apply Kd.R_alloc | apply Kd.R_drewN | apply Kd.R_drew)); exact Kd.R_mono HO113.out (fun _ hk => hk.2)⟩, ⟨qr HO_100001.out⟩, ⟨qk BK106.out⟩, ⟨qk BK107.out⟩, ⟨qb HB.out⟩⟩
   rw [if_pos c18] at H
   have c18b0 : ((rdOf ByteArray.empty t101 0).toList == ([107, 110, 111, 116, 115] : List UInt8)) = true := beq_iff_eq.mpr c18
   have c18b1 : ((rdOf ByteArray.empty t101 0).toList != ([107, 110, 111, 116, 115] : List UInt8)) = false := bne_eq_false_iff_eq.mpr c18
   clear c18
   have H' := q0 H
   clear H
   obtain ⟨Ao19, co19, eo19⟩ := Kd.R_slice HO113.out
   subst eo19
   have p114 : 0 ≤ (0 : Int) := (by omega)
   have q114 : 0 < (t101.length : Int) := of_decide_eq_true qa
   obtain ⟨ad114, e114, hx114_0⟩ := Kd.at_string (Kd.R_reads' HO113.out).2.2 0 p114 q114
   cases e114
   have qi114 : (0 < t101.length) = True := eq_true (by omega)
   (try rw [show ((0 : Int)).toNat = 0 from rfl] at hx114_0)
   (try rw [Addr.add_zero'] at hx114_0)
   replace p114 := eq_true p114
   replace q114 := eq_true q114
   go_wp2
   go_meet
   case rel => exact ⟨_, (((t101.length : Int) == 2)), qs, H', ⟨by have := HK1.out; first | omega | exact Nat.le_refl _⟩, ⟨by (with_reducible repeat (first | apply Kd.R_alloc | apply Kd.R_drewN | apply Kd.R_drew)); exact Kd.R_mono HO_5.out (fun _ hk => hk.2)⟩, ⟨by (with_reducible repeat (first | apply Kd.R_alloc | apply Kd.R_drewN | apply Kd.R_drew)); exact Kd.R_mono HO113.out (fun _ hk => hk.2)⟩, ⟨qr HO_100001.out⟩, ⟨qk BK106.out⟩, ⟨qk BK107.out⟩, ⟨qb HB.out⟩⟩
 clear HC14
 try clear c1
 try clear p1
 try clear q1
 try clear hx1
 try clear qi1
 try clear c2
 try clear c2b0
 try clear c2b1
 try clear p2
 try clear c8
 try clear c11
 try clear c11b0
 try clear c12
 try clear c12b0
 try clear p14
 try clear q14
 try clear hx14
 try clear qi14
 try clear c17
 try clear c17b0
 try clear c17b1
 try clear c18
 try clear c18b0
 try clear c18b1
 try clear hcz4_0
 try clear hcz4_1
 try clear hcz9_0
 try clear hcz9_1
 try clear hfz4_0
 try clear hfz4_1
 try clear hfz9_0
 try clear hfz9_1
 try clear hx111_0
 try clear hx114_0
 try clear p111
 try clear p114
 try clear p2
 try clear q111
 try clear q114
 obtain ⟨kq, x26_13, rfl, HA, HJ13, HO_5, HO_7, HO_100001, BK106, BK107, HB⟩ := hcut
 rcases kq with _ | kj13
 · exact absurd HA.out (by simp [spec_NetRead.j1])
 have H := HA.out
 clear HA
 simp only [spec_NetRead.j1] at H
 by_cases c21 : x26_13 = true
 · subst c21
   rw [if_pos rfl] at H
   obtain ⟨c22, H⟩ : (1 < (t101.length : Int)) ∧ _ := og H
   have c22b0 := decide_eq_true c22
   have c22b1 : decide (1 < t101.length) = true := decide_eq_true (by omega)
   clear c22
   obtain ⟨t103, A23, H⟩ := ob H
   have H' := q0 H
   clear H
   obtain ⟨Ao24, co24, eo24⟩ := Kd.R_slice HO_7.out
   subst eo24
   have p116 : 0 ≤ (1 : Int) := (by omega)
   have q116 : 1 < (t101.length : Int) := of_decide_eq_true qa
   obtain ⟨ad116, e116, hx116_0⟩ := Kd.at_string (Kd.R_reads' HO_7.out).2.2 1 p116 q116
   cases e116
   (try simp only [show (1 : Int).toNat = 1 from rfl, Nat.reduceMul, Nat.reduceEqDiff, Go.Addr.add, ↓reduceIte] at hx116_0)
   have qi116 : (1 < t101.length) = True := eq_true (by omega)
   (try rw [show ((1 : Int)).toNat = 1 from rfl] at hx116_0)
   replace p116 := eq_true p116
   replace q116 := eq_true q116
   go_wp2_with (first | ((with_reducible refine gf 23 ?_); refine gl 39 Tryd.func23 #[.string (rdOf ByteArray.empty t101 1)] ?_; (with_reducible refine (spec_l1Dec.calls (rdOf ByteArray.empty t101 1) t103 _ A23.out).mono ?_); rintro e w' ⟨rfl, ⟨nd, rfl⟩⟩; refine ⟨_, rfl, ?_⟩; (try (rw [drewN_self wc]; generalize hq_ : World.drewN wc _ = wc; have n0_ : Aside0 (Kd.R kTie 47 wc w.heap.size (fun _ => True) u100001 x100001_1) := ⟨by rw [← hq_]; exact (qr HO_100001.out)⟩; have n1_ : Aside0 (Kd.R Kd.string 9 wc w.heap.size (fun k_ => some k_ ≠ (.slice (some ad116) t101.length co24 : Value).ownBlock) (.slice (some ad111) t100.length co15) t100) := ⟨by rw [← hq_]; exact (qr HO_5.out)⟩; have n2_ : Aside0 (Kd.R Kd.string 9 wc w.heap.size (fun k_ => some k_ ≠ (.slice (some ad111) t100.length co15 : Value).ownBlock) (.slice (some ad116) t101.length co24) t101) := ⟨by rw [← hq_]; exact (qr HO_7.out)⟩; have n3_ : Aside0 (wc.heap[gb106]? = some (.cells #[.int .i64 0, .slice none 0 0] 24 (0, 0))) := ⟨by rw [← hq_]; exact (qk BK106.out)⟩; have n4_ : Aside0 (wc.heap[gb107]? = some (.cells #[.int .i64 x100000_1, u100001] 24 (0, 0))) := ⟨by rw [← hq_]; exact (qk BK107.out)⟩; have n5_ : Aside0 (Below w.heap.size w wc) := ⟨by rw [← hq_]; exact (qb HB.out)⟩; clear HO_100001 HO_5 HO_7 BK106 BK107 HB hq_; have HO_100001 := n0_; have HO_5 := n1_; have HO_7 := n2_; have BK106 := n3_; have BK107 := n4_; have HB := n5_; clear n0_ n1_ n2_ n3_ n4_ n5_)); have hnb25 := NB107_106.out; have hnc25 := NB106_107.out; obtain ⟨hcz26_0, hcz26_1, hfz26_0, hfz26_1⟩ := b2 BK107))
   go_roundg kj13
   case measure => have := HK1.out; have := HJ13.out; omega
   case rel => exact ⟨(wrap64 (x6_1 + 1)), (t103), (x100001_1), (u100001), qs, H', ⟨by have := HK1.out; have := HJ13.out; omega⟩, ⟨by (with_reducible repeat (first | apply Kd.R_alloc | apply Kd.R_drewN | apply Kd.R_drew)); exact Kd.R_mono (Kd.R_far (p := ⟨gb107, 0, none⟩) (Kd.R_types HO_5.out BK107.out (by decide)) (fun _ hk => hk.2) (.int .i64 t103)) (fun _ hk => trivial)⟩, ⟨by (with_reducible repeat (first | apply Kd.R_alloc | apply Kd.R_drewN | apply Kd.R_drew)); exact Kd.R_mono (Kd.R_far (p := ⟨gb107, 0, none⟩) (Kd.R_types HO_100001.out BK107.out (by decide)) (fun _ hk => hk.2) (.int .i64 t103)) (fun _ hk => trivial)⟩, ⟨qf BK106.out⟩, ⟨by (with_reducible repeat (first | refine blk_drewN ?_ _ | refine blk_drew ?_ | refine blk_alloc ?_ _)); refine blk_put (cs := #[.int .i64 x100000_1, u100001]) ?_ 0 _ rfl; (with_reducible repeat (first | refine blk_drewN ?_ _ | refine blk_drew ?_ | refine blk_alloc ?_ _)); exact BK107.out⟩, ⟨qb HB.out⟩⟩
 replace c21 := Bool.eq_false_iff.mpr c21
 subst c21
 rw [if_neg nf] at H
 have HC27 := q0 H
 clear H
 go_upto_region 11 with (fail)
 go_cut [41] (fun v41 wc => ∃ (kq : Nat) (x41_26 : Bool), v41 = .bool x41_26 ∧ Aside0 (spec_NetRead.j2 kq a0 t100 x6_1 t101 x41_26 x100000_1 x100001_1 = some (r1, r2, r3)) ∧ Aside0 (kq ≤ kj13) ∧ Aside0 (Kd.R Kd.string 9 wc w.heap.size (fun k_ => some k_ ≠ (v112 : Value).ownBlock) (.slice (some ad111) t100.length co15) t100) ∧ Aside0 (Kd.R Kd.string 9 wc w.heap.size (fun k_ => some k_ ≠ ((.slice (some ad111) t100.length co15) : Value).ownBlock) v112 t101) ∧ Aside0 (Kd.R kTie 47 wc w.heap.size (fun _ => True) u100001 x100001_1) ∧ Aside0 (wc.heap[gb106]? = some (.cells #[.int .i64 0, (.slice none 0 0)] 24 (0, 0))) ∧ Aside0 (wc.heap[gb107]? = some (.cells #[.int .i64 x100000_1, u100001] 24 (0, 0))) ∧ Aside0 (Below w.heap.size w wc))
 case first =>
   have H := HC27.out
   clear HC27
   obtain ⟨c28, H⟩ : (0 < (t101.length : Int)) ∧ _ := og H
   have c28b0 := decide_eq_true c28
   have c28b1 : decide (0 < t101.length) = true := decide_eq_true (by omega)
   clear c28
   (first | rw [c28b0] | (simp only [i64_w, i32_w]; rw [c28b0]) | skip)
   by_cases c29 : (rdOf ByteArray.empty t101 0).toList = ([116, 105, 101] : List UInt8)
   rotate_left
   · rw [if_neg c29] at H
     have c29b0 : ((rdOf ByteArray.empty t101 0).toList == ([116, 105, 101] : List UInt8)) = false := beq_eq_false_iff_ne.mpr c29
     have c29b1 : ((rdOf ByteArray.empty t101 0).toList != ([116, 105, 101] : List UInt8)) = true := bne_iff_ne.mpr c29
     have H' := q0 H
     clear H
     obtain ⟨Ao31, co31, eo31⟩ := Kd.R_slice HO_7.out
     subst eo31
     have p117 : 0 ≤ (0 : Int) := (by omega)
     have q117 : 0 < (t101.length : Int) := of_decide_eq_true qa
     obtain ⟨ad117, e117, hx117_0⟩ := Kd.at_string (Kd.R_reads' HO_7.out).2.2 0 p117 q117
     cases e117
     have qi117 : (0 < t101.length) = True := eq_true (by omega)
     (try rw [show ((0 : Int)).toNat = 0 from rfl] at hx117_0)
     (try rw [Addr.add_zero'] at hx117_0)
     replace p117 := eq_true p117
     replace q117 := eq_true q117
     go_wp2
     go_meet
     case rel => exact ⟨_, (false), qs, H', ⟨by have := HK1.out; have := HJ13.out; first | omega | exact Nat.le_refl _⟩, ⟨qr HO_5.out⟩, ⟨qr HO_7.out⟩, ⟨qr HO_100001.out⟩, ⟨qk BK106.out⟩, ⟨qk BK107.out⟩, ⟨qb HB.out⟩⟩
   rw [if_pos c29] at H
   have c29b0 : ((rdOf ByteArray.empty t101 0).toList == ([116, 105, 101] : List UInt8)) = true := beq_iff_eq.mpr c29
   have c29b1 : ((rdOf ByteArray.empty t101 0).toList != ([116, 105, 101] : List UInt8)) = false := bne_eq_false_iff_eq.mpr c29
   clear c29
   have H' := q0 H
   clear H
   obtain ⟨Ao30, co30, eo30⟩ := Kd.R_slice HO_7.out
   subst eo30
   have p117 : 0 ≤ (0 : Int) := (by omega)
   have q117 : 0 < (t101.length : Int) := of_decide_eq_true qa
   obtain ⟨ad117, e117, hx117_0⟩ := Kd.at_string (Kd.R_reads' HO_7.out).2.2 0 p117 q117
   cases e117
   have qi117 : (0 < t101.length) = True := eq_true (by omega)
   (try rw [show ((0 : Int)).toNat = 0 from rfl] at hx117_0)
   (try rw [Addr.add_zero'] at hx117_0)
   replace p117 := eq_true p117
   replace q117 := eq_true q117
   go_wp2
   go_meet
   case rel => exact ⟨_, (((t101.length : Int) == 3)), qs, H', ⟨by have := HK1.out; have := HJ13.out; first | omega | exact Nat.le_refl _⟩, ⟨qr HO_5.out⟩, ⟨qr HO_7.out⟩, ⟨qr HO_100001.out⟩, ⟨qk BK106.out⟩, ⟨qk BK107.out⟩, ⟨qb HB.out⟩⟩
 clear HC27
 try clear c1
 try clear p1
 try clear q1
 try clear hx1
 try clear qi1
 try clear c2
 try clear c2b0
 try clear c2b1
 try clear p2
 try clear p6
 try clear c8
 try clear c11
 try clear c11b0
 try clear c12
 try clear c12b0
 try clear p14
 try clear q14
 try clear hx14
 try clear qi14
 try clear c17
 try clear c17b0
 try clear c17b1
 try clear c18
 try clear c18b0
 try clear c18b1
 try clear c21
 try clear c22
 try clear c22b0
 try clear c22b1
 try clear c23
 try clear c25
 try clear c28
 try clear c28b0
 try clear c28b1
 try clear c29
 try clear c29b0
 try clear c29b1
 try clear hcz26_0
 try clear hcz26_1
 try clear hcz4_0
 try clear hcz4_1
 try clear hcz9_0
 try clear hcz9_1
 try clear hfz26_0
 try clear hfz26_1
 try clear hfz4_0
 try clear hfz4_1
 try clear hfz9_0
 try clear hfz9_1
 try clear hx111_0
 try clear hx114_0
 try clear hx116_0
 try clear hx117_0
 try clear p1
 try clear p14
 try clear p111
 try clear p114
 try clear p116
 try clear p117
 try clear p2
 try clear q1
 try clear q14
 try clear q111
 try clear q114
 try clear q116
 try clear q117
 obtain ⟨kq, x41_26, rfl, HA, HJ26, HO_5, HO_7, HO_100001, BK106, BK107, HB⟩ := hcut
 rcases kq with _ | kj26
 · exact absurd HA.out (by simp [spec_NetRead.j2])
 have H := HA.out
 clear HA
 simp only [spec_NetRead.j2] at H
 by_cases c32 : x41_26 = true
 rotate_left
 · replace c32 := Bool.eq_false_iff.mpr c32
   subst c32
   rw [if_neg nf] at H
   have H' := q0 H
   clear H
   go_wp2
   go_roundg kj26
   case measure => have := HK1.out; have := HJ13.out; have := HJ26.out; omega
   case rel => exact ⟨(wrap64 (x6_1 + 1)), (x100000_1), (x100001_1), (u100001), qs, H', ⟨by have := HK1.out; have := HJ13.out; have := HJ26.out; omega⟩, ⟨by (with_reducible repeat (first | apply Kd.R_alloc | apply Kd.R_drewN | apply Kd.R_drew)); exact Kd.R_mono HO_5.out (fun _ hk => trivial)⟩, ⟨qr HO_100001.out⟩, ⟨qk BK106.out⟩, ⟨qk BK107.out⟩, ⟨qb HB.out⟩⟩
 subst c32
 rw [if_pos rfl] at H
 obtain ⟨c33, H⟩ : (1 < (t101.length : Int)) ∧ _ := og H
 have c33b0 := decide_eq_true c33
 have c33b1 : decide (1 < t101.length) = true := decide_eq_true (by omega)
 clear c33
 obtain ⟨t104, A34, H⟩ := ob H
 obtain ⟨c35, H⟩ : (2 < (t101.length : Int)) ∧ _ := og H
 have c35b0 := decide_eq_true c35
 have c35b1 : decide (2 < t101.length) = true := decide_eq_true (by omega)
 clear c35
 obtain ⟨t105, A36, H⟩ := ob H
 obtain ⟨c37, H⟩ : (x100001_1.length < 8796093022208) ∧ _ := og H
 have LMc37 := q0 c37
 clear c37
 obtain ⟨y120, hy120⟩ : ∃ y_ : List (STie), y_ = (x100001_1 ++ [(⟨t104, t105⟩ : STie)]) := ⟨_, rfl⟩
 replace H : (spec_NetRead.l0 kj26 a0 t100 (wrap64 (x6_1 + 1)) x100000_1 y120) = some (r1, r2, r3) := qy H hy120
 have Ny120 := q0 hy120
 clear hy120
 have H' := q0 H
 clear H
 try go_wp2
 replace HO_5 := q0 (Kd.R_drew HO_5.out)
 replace HO_7 := q0 (Kd.R_drew HO_7.out)
 replace HO_100001 := q0 (Kd.R_drew HO_100001.out)
 replace BK106 := q0 (blk_drew BK106.out)
 replace BK107 := q0 (blk_drew BK107.out)
 replace HB := q0 (below_drew1 HB.out)
 obtain ⟨Ao39, co39, eo39⟩ := Kd.R_slice HO_7.out
 (first | subst eo39 | (injection eo39 with f1_ f2_ f3_; have f4_ := f1_.symm; have f5_ := f3_.symm; clear f1_ f2_ f3_; subst f4_; subst f5_))
 have p121 : 0 ≤ (1 : Int) := (by omega)
 have q121 : 1 < (t101.length : Int) := of_decide_eq_true qa
 obtain ⟨ad121, e121, hx121_0⟩ := Kd.at_string (Kd.R_reads' HO_7.out).2.2 1 p121 q121
 cases e121
 (try simp only [show (1 : Int).toNat = 1 from rfl, Nat.reduceMul, Nat.reduceEqDiff, Go.Addr.add, ↓reduceIte] at hx121_0)
 have qi121 : (1 < t101.length) = True := eq_true (by omega)
 (try rw [show ((1 : Int)).toNat = 1 from rfl] at hx121_0)
 replace p121 := eq_true p121
 replace q121 := eq_true q121
 have p122 : 0 ≤ (2 : Int) := (by omega)
 have q122 : 2 < (t101.length : Int) := of_decide_eq_true qa
 obtain ⟨ad122, e122, hx122_0⟩ := Kd.at_string (Kd.R_reads' HO_7.out).2.2 2 p122 q122
 obtain rfl : ad121 = ad122 := (by injection e122)
 (try simp only [show (2 : Int).toNat = 2 from rfl, Nat.reduceMul, Nat.reduceEqDiff, Go.Addr.add, ↓reduceIte] at hx122_0)
 have qi122 : (2 < t101.length) = True := eq_true (by omega)
 (try rw [show ((2 : Int)).toNat = 2 from rfl] at hx122_0)
 replace p122 := eq_true p122
 replace q122 := eq_true q122
 refine start_ (n := 15) (S := fun w' => w'.cell? ⟨gb107, 0, none⟩ = some (.int .i64 x100000_1) ∧ w'.cell? ⟨gb107, 1, none⟩ = some (u100001) ∧ w'.cell? ⟨ad121.block, ad121.off + 1, none⟩ = some (.string (rdOf ByteArray.empty t101 1)) ∧ w'.cell? ⟨ad121.block, ad121.off + 2, none⟩ = some (.string (rdOf ByteArray.empty t101 2))) (ds := [12, 14]) (ba 15 0) (by kernel_rfl) rfl (by kernel_rfl) ⟨bca BK107, bcb BK107, hx121_0, hx122_0⟩ (fun hHeld => ?_); refine with_tabW spec_NetRead.tab12 spec_NetRead.bits12 (fun HT_ HW_ => ?_)
 generalize wc.drew = w38 at HO_5 HO_7 HO_100001 BK106 BK107 HB hx121_0 hx122_0 hHeld ⊢
 refine pU 0 51 15 1 HT_ ?_
 refine pU 2 53 15 5 HT_ ?_
 refine pU 3 54 15 13 HT_ ?_
 refine pU 6 57 15 77 HT_ ?_
 refine pU 7 58 15 205 HT_ ?_
 refine tU 1 52 15 207 HT_ HW_ hHeld ?_
 refine tU 4 55 15 223 HT_ HW_ hHeld ?_
 refine tU 8 59 15 479 HT_ HW_ hHeld ?_
 refine one_ (i := 5) (N := some 56) (ba 15 511) rfl rfl (one_of HT_.out (by kernel_rfl)) (by decide) (fun K hK => ?_)
 refine goes_ Tryd.func23 (by kernel_rfl) rfl #[.string (rdOf ByteArray.empty t101 1)] (by rfl) rfl rfl qm ?_
 with_reducible refine (spec_l1Dec.calls (rdOf ByteArray.empty t101 1) t104 _ A34.out).mono ?_
 rintro e w' ⟨rfl, ⟨nd, rfl⟩⟩
 refine ⟨_, rfl, ?_⟩
 refine hK.out _ _ ⟨bca BK107, bcb BK107, hHeld.2.2.1, hHeld.2.2.2⟩ (fun hHeld => ?_)
 clear hK K
 refine nu 56 ?_
 refine one_ (i := 9) (N := some 60) (ba 15 1023) rfl rfl (one_of HT_.out (by kernel_rfl)) (by decide) (fun K hK => ?_)
 refine goes_ Tryd.func23 (by kernel_rfl) rfl #[.string (rdOf ByteArray.empty t101 2)] (by rfl) rfl rfl qm ?_
 with_reducible refine (spec_l1Dec.calls (rdOf ByteArray.empty t101 2) t105 _ A36.out).mono ?_
 rintro e w' ⟨rfl, ⟨nd, rfl⟩⟩
 refine ⟨_, rfl, ?_⟩
 refine hK.out _ _ ⟨bca BK107, bcb BK107, hHeld.2.2.1, hHeld.2.2.2⟩ (fun hHeld => ?_)
 clear hK K
 refine nu 60 ?_
 refine pU 10 61 15 2047 HT_ ?_
 refine one_ (i := 11) (N := some 62) (ba 15 4095) rfl rfl (one_of HT_.out (by kernel_rfl)) (by decide) (fun K hK => ?_)
 refine value_ (w1 := ?_) (v := ?_) (by rfl) rfl ?_ ?_
 rotate_left 2
 · go_simp
   constructor
   · rfl
   · rfl
 refine hK.out _ _ ⟨(blk_cell (blk_alloc BK107.out _) 0).trans rfl, (blk_cell (blk_alloc BK107.out _) 1).trans rfl, (World.cell?_alloc_lt _ _ _ (World.block_lt_of_cell? _ _ (hHeld.2.2.1))).trans (hHeld.2.2.1), (World.cell?_alloc_lt _ _ _ (World.block_lt_of_cell? _ _ (hHeld.2.2.2))).trans (hHeld.2.2.2)⟩ (fun hHeld => ?_)
 clear hK K
 refine nu 62 ?_
 refine last_ (i := 12) (N := some 63) (ba 15 8191) rfl rfl (one_of HT_.out (by kernel_rfl)) (by decide) (fun K hK => ?_)
 refine Kd.R_append_step kTie (w0 := w) w.heap.size (by rfl) (.tmp 52) (.tmp 62) 22 47 (.agg #[(.int .i64 0), (.int .i64 0)]) 16 rfl Tryd.underlying22 info47 rfl (by decide) (by omega) u100001 x100001_1 (⟨t104, t105⟩ : STie) [.int .i64 t104, .int .i64 t105] (fun _ => True) (fun _ => False) rfl rfl ?aP (fun _ hk => hk.elim) ?aF ?aO ?aB ?aS ?aL ?_
 (case aP => exact kTie_mkM _ _ _ (⟨t104, t105⟩ : STie))
 (case aB => exact (qb HB.out))
 (case aF => exact (fun _ _ => trivial))
 (case aO => exact (qr HO_100001.out))
 (case aS => exact (below_size (qb HB.out)))
 (case aL => have := LMc37.out; omega)
 intro v123 w40 ho hb hg hat
 rw [← Ny120.out] at ho
 replace HO_5 := q0 (Kd.R_over' (qr HO_5.out) (Kd.R_typed (qr HO_100001.out)) (by decide) hg)
 replace HO_7 := q0 (Kd.R_over' (qr HO_7.out) (Kd.R_typed (qr HO_100001.out)) (by decide) hg)
 replace BK106 := q0 (blk_grown (g := gb106) (o := .cells #[.int .i64 0, .slice none 0 0] 24 (0, 0)) (qk BK106.out) hg (Kd.R_ne HO_100001.out BK106.out (by decide)))
 replace BK107 := q0 (blk_grown (g := gb107) (o := .cells #[.int .i64 x100000_1, u100001] 24 (0, 0)) (qk BK107.out) hg (Kd.R_ne HO_100001.out BK107.out (by decide)))
 replace HB := q0 (hb)
 have HO124 := q0 (ho)
 clear HO_100001
 clear ho hb hg hat
 obtain ⟨Ao41, co41, eo41⟩ := Kd.R_slice HO124.out
 (first | subst eo41 | (injection eo41 with f1_ f2_ f3_; have f4_ := f1_.symm; have f5_ := f3_.symm; clear f1_ f2_ f3_; subst f4_; subst f5_))
 refine hK.out _ _ ?_
 clear hK K
 refine nu 63 ?_
 refine pU 13 64 15 16383 HT_ ?_
 refine last_ (i := 14) (N := none) (ba 15 32767) rfl rfl (one_of HT_.out (by kernel_rfl)) (by decide) (fun K hK => ?_)
 have hs42 : w40.cell? ⟨gb107, 1, none⟩ = some (u100001) := (blk_cell BK107.out 1).trans rfl
 have hfs42 := blk_frozen BK107.out 1
 have hns42_0 := NB106_107.out
 have hms42_0 := NB107_106.out
 refine skip_ (w1 := ?_) (by rfl) rfl ?_ ?_
 rotate_left
 · go_simp
   rfl
 refine hK.out _ _ ?_
 clear hK K
 refine done_ (done_of HT_.out (by kernel_rfl)) ?_
 try go_wp2
 go_roundg kj26
 case measure => have := HK1.out; have := HJ13.out; have := HJ26.out; omega
 case rel => exact ⟨(wrap64 (x6_1 + 1)), (x100000_1), (y120), (.slice Ao41 y120.length co41), qs, H', ⟨by have := HK1.out; have := HJ13.out; have := HJ26.out; omega⟩, ⟨by (with_reducible repeat (first | apply Kd.R_alloc | apply Kd.R_drewN | apply Kd.R_drew)); exact Kd.R_mono (Kd.R_far (p := ⟨gb107, 1, none⟩) (Kd.R_types HO_5.out BK107.out (by decide)) (fun _ hk => hk.2) (.slice Ao41 y120.length co41)) (fun _ hk => trivial)⟩, ⟨by (with_reducible repeat (first | apply Kd.R_alloc | apply Kd.R_drewN | apply Kd.R_drew)); exact Kd.R_mono (Kd.R_far (p := ⟨gb107, 1, none⟩) (Kd.R_types HO124.out BK107.out (by decide)) (fun _ hk => hk.2) (.slice Ao41 y120.length co41)) (fun _ hk => trivial)⟩, ⟨qf BK106.out⟩, ⟨by (with_reducible repeat (first | refine blk_drewN ?_ _ | refine blk_drew ?_ | refine blk_alloc ?_ _)); refine blk_put (cs := #[.int .i64 x100000_1, u100001]) ?_ 1 _ rfl; (with_reducible repeat (first | refine blk_drewN ?_ _ | refine blk_drew ?_ | refine blk_alloc ?_ _)); exact BK107.out⟩, ⟨qb HB.out⟩⟩

end Go.Proofs.YtloonheabfdgbaaDoor.P
