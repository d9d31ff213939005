import Derived.Test.YtmfmeenfhdohcaaP0
import Derived.Test.YtmfmeenfhdohcaaP2
import Derived.Test.YtmfmeenfhdohcaaP4
import Derived.Test.YtmfmeenfhdohcaaP6
import Derived.Test.YtmfmeenfhdohcaaP8
import Derived.Test.YtmfmeenfhdohcaaP9
import Derived.Test.YtmfmeenfhdohcaaP10
import Derived.Test.YtmfmeenfhdohcaaP23
namespace Go.Proofs.Ytmfmeenfhdohcaa.P
open Go.RowKit Go.Proofs.YtmfmeenfhdohcaaW.PrintWords Go.Proofs.YtmfmeenfhdohcaaW.PrintLast Go.Proofs.YtmfmeenfhdohcaaW.PrintMore
attribute [local go_sem] max2_int min2_int max_two min_two max_three min_three max_four min_four
set_option linter.unusedVariables false
set_option linter.unusedSimpArgs false
attribute [local go_sem high] eqATie
def laws_FnWayAll.T11 : Bool × List (List Nat × List Nat) := (true, [([], []), ([], []), ([], []), ([1, 2], [1, 2]), ([3], [3]), ([0, 4], [0, 4]), ([5], [5]), ([6, 5], [6]), ([7], [7]), ([7], [7]), ([8, 9, 7], [7, 8, 9]), ([10, 7], [7, 10]), ([11, 7], [7, 11]), ([12, 7], [7, 12]), ([7], [7]), ([13, 14, 7], [7, 13, 14]), ([7, 15], [7, 15]), ([16, 7], [16]), ([17], [17]), ([17], [17]), ([18, 19, 17], [17, 18, 19]), ([20, 17], [17, 20]), ([17], [17]), ([17], [17]), ([22, 23, 17], [17, 22, 23]), ([24, 17], [17, 24]), ([25, 17], [17, 25]), ([26, 17], [17, 26]), ([21, 27, 17], [17, 21, 27]), ([28, 17], [17, 28]), ([17], [17]), ([29, 30, 17], [17, 29, 30]), ([17, 31], [17, 31]), ([32, 17], [32]), ([33], [33]), ([34, 33], [33, 34]), ([35, 33, 33], [33, 35]), ([36], [36]), ([36], [36]), ([38, 36], [36, 38]), ([37, 39, 36], [36, 37, 39]), ([40, 36], [36, 40]), ([36], [36]), ([36], [36]), ([42, 43, 36], [36, 42, 43]), ([44, 36], [36, 44]), ([41, 45, 36, 36], [36, 41, 45]), ([46, 36], [36, 46]), ([36, 47, 33], [33, 36, 47]), ([33, 48], [33, 48])])
def laws_FnWayAll.B11 : List Nat := [0, 0, 0, 6, 14, 31, 63, 127, 255, 255, 1023, 2047, 4095, 8191, 255, 32767, 65535, 131071, 262143, 262143, 1048575, 2097151, 262143, 262143, 12845055, 29622271, 63176703, 130285567, 268435455, 536870911, 262143, 2147483647, 4294967295, 8589934591, 17179869183, 34359738367, 68719476735, 137438953471, 137438953471, 412316860415, 1099511627775, 2199023255551, 137438953471, 137438953471, 13331578486783, 30923764531199, 70368744177663, 140737488355327, 281474976710655, 562949953421311]
theorem laws_FnWayAll.tab11 : rtab .any (opsOf Try.f10 11) = laws_FnWayAll.T11 := by kernel_rfl
theorem laws_FnWayAll.bits11 : waitsOk laws_FnWayAll.T11.2 laws_FnWayAll.B11 = true := by kernel_rfl
set_option maxHeartbeats 8000000 in
set_option maxRecDepth 100000 in
theorem laws_FnWayAll.calls (k : Nat) (A0 : Option Addr) (c0 : Nat) (l0 : List Int) (r : Bool) (w : World) (hr0 : Kd.C (Kd.int .u8) w A0 l0.length l0) (hc0 : l0.length ≤ c0) (h : laws_FnWayAll.f k l0 = some r) :
    Calls Try.prog 10 #[.slice A0 l0.length c0] w fun e w' => e = .returned (.bool r) ∧ Below w.heap.size w w' := by
 have hu31 := Try.underlying31
 have HR0 := Aside0.mk hr0
 have HC0 := Aside0.mk hc0
 clear hr0 hc0
 have HB := q0 (Below.refl w.heap.size w)
 have H : (if (l0.length : Int) > 1048576 then (some true) else ((spec_DrawWayAll.f k l0).bind fun bt103 => ((spec_WayAll.f k bt103.1 bt103.2.1 bt103.2.2.1 bt103.2.2.2).bind fun t100 => ((impl_WayAll.f k bt103.1 bt103.2.1 bt103.2.2.1 bt103.2.2.2).bind fun t104 => ((laws_loRows.f k t104 t100).bind fun t105 => (if t105 = true then (laws_FnWayAll.l0 k bt103.2.2.1 bt103.2.2.2 t104 0 bt103.1 bt103.2.1) else (some false))))))) = some r := h
 clear h
 by_cases c2 : (l0.length : Int) > 1048576
 · rw [if_pos c2] at H
   have c2b0 : decide (1048576 < (l0.length : Int)) = true := decide_eq_true c2
   have c2b1 : decide (1048576 < l0.length) = true := decide_eq_true (by omega)
   clear c2
   obtain rfl := Option.some.inj H
   go_enter Try.func10, Try.ntmps10
   go_wp2
   go_ret
   exact ⟨qe, qb HB.out⟩
 rw [if_neg c2] at H
 have c2b0 : decide (1048576 < (l0.length : Int)) = false := decide_eq_false c2
 have c2b1 : decide (1048576 < l0.length) = false := decide_eq_false (by omega)
 clear c2
 replace H := Option.bind_eq_some_iff.mp H
 obtain ⟨⟨t103, t106, t107, t108⟩, A30, H⟩ := H
 have A3 := Aside0.mk A30
 clear A30
 replace H := Option.bind_eq_some_iff.mp H
 obtain ⟨t100, A40, H⟩ := H
 have A4 := Aside0.mk A40
 clear A40
 replace H := Option.bind_eq_some_iff.mp H
 obtain ⟨t104, A50, H⟩ := H
 have A5 := Aside0.mk A50
 clear A50
 replace H := Option.bind_eq_some_iff.mp H
 obtain ⟨t105, A60, H⟩ := H
 have A6 := Aside0.mk A60
 clear A60
 by_cases c7 : t105 = true
 rotate_left
 · replace c7 := Bool.eq_false_iff.mpr c7
   subst c7
   rw [if_neg nf] at H
   obtain rfl := Option.some.inj H
   go_enter Try.func10, Try.ntmps10
   go_wp2_with (first | ((with_reducible refine gate_callee (f := 34) rfl ?_); refine gl 14 Try.func34 #[.slice A0 l0.length c0] ?_; (with_reducible refine (spec_DrawWayAll.calls k _ _ l0 t103 t106 t107 t108 _ ?side1 ?side2 A3.out).mono ?_); (case side1 => repeat (first | exact HR0.out | (with_reducible refine Kd.C_alloc ?_ _) | (with_reducible refine Kd.C_drewN ?_ _) | (with_reducible refine Kd.C_drew ?_))); (case side2 => exact HC0.out); rintro e w45 ⟨v109, rfl, ho0, hb⟩; refine ⟨_, rfl, ?_⟩; have HO110 := q0 (Kd.R_lower ho0 (below_size (qb HB.out))); replace HB := q0 (below_step (qb HB.out) hb); (try clear hb); (try clear hb2); (try clear hk); (try clear hi); (try clear ho0)) | ((with_reducible refine gate_dst (N := 3) rfl ?_); (try (refine gate_guard (by rfl) ?_; dsimp only)); refine be 3 #[.int .i64 0, .slice none 0 0] 31 ?_; intro gb111 hg w46 hbox hb; replace HO110 := q0 (Kd.R_below (qr HO110.out) hb); have BK111 := q0 (hbox); have GW111 := q0 ((bs HB.out hg : w.heap.size ≤ gb111)); have GE111 := q0 ((bs HB.out hg : w.heap.size ≤ gb111)); replace HB := q0 (below_step (qb HB.out) hb); clear hb hbox hg; have hcz47_0 : w46.cell? ⟨gb111, 0, none⟩ = some (.int .i64 0) := (blk_cell BK111.out 0).trans rfl; have hcz47_1 : w46.cell? ⟨gb111, 1, none⟩ = some (.slice none 0 0) := (blk_cell BK111.out 1).trans rfl; have hfz47_0 := blk_frozen BK111.out 0; have hfz47_1 := blk_frozen BK111.out 1; obtain ⟨Ao48, co48, eo48⟩ := Kd.R_slice HO110.out; subst eo48) | ((with_reducible refine gate_callee (f := 22) rfl ?_); refine gl 21 Try.func22 #[.agg #[.int .i64 t103, .slice Ao48 t106.length co48], .int .i64 t107, .int .i64 t108] ?_; (with_reducible refine (spec_WayAll.calls k t103 _ _ t106 t107 t108 t100 _ ?side1 ?side2 A4.out).mono ?_); (case side1 => refine (Kd.R_reads' (e := 74) (base := w.heap.size) (ok := fun k_ => True) (n := t106.length) (c := co48) ?_).2.2; exact (by (with_reducible repeat (first | apply Kd.R_alloc | apply Kd.R_drewN | apply Kd.R_drew)); exact (rf2 HO110.out BK111.out (fun _ h_ => h_.1)))); (case side2 => exact (Kd.R_reads' HO110.out).2.1); rintro e w49 ⟨v112, rfl, ho0, hb⟩; refine ⟨_, rfl, ?_⟩; replace HO110 := q0 (Kd.R_below (by (with_reducible repeat (first | apply Kd.R_alloc | apply Kd.R_drewN | apply Kd.R_drew)); exact (rf2 HO110.out BK111.out (fun _ h_ => h_.1))) hb); have HO113 := q0 (Kd.S_lower ho0 (below_size (qb HB.out))); replace BK111 := q0 (blk_below (g := gb111) (o := .cells #[.int .i64 t103, .slice Ao48 t106.length co48] 31 (0, 0)) (by (with_reducible repeat (first | refine blk_drewN ?_ _ | refine blk_drew ?_ | refine blk_alloc ?_ _)); refine blk_put (cs := #[.int .i64 t103, .slice none 0 0]) ?_ 1 _ rfl; (with_reducible repeat (first | refine blk_drewN ?_ _ | refine blk_drew ?_ | refine blk_alloc ?_ _)); refine blk_put (cs := #[.int .i64 0, .slice none 0 0]) ?_ 0 _ rfl; (with_reducible repeat (first | refine blk_drewN ?_ _ | refine blk_drew ?_ | refine blk_alloc ?_ _)); exact BK111.out) hb); replace HB := q0 (below_step (qb HB.out) hb); (try clear hb); (try clear hb2); (try clear hk); (try clear hi); (try clear ho0); have hcz50_0 : w49.cell? ⟨gb111, 0, none⟩ = some (.int .i64 t103) := (blk_cell BK111.out 0).trans rfl; have hcz50_1 : w49.cell? ⟨gb111, 1, none⟩ = some (.slice Ao48 t106.length co48) := (blk_cell BK111.out 1).trans rfl; have hfz50_0 := blk_frozen BK111.out 0; have hfz50_1 := blk_frozen BK111.out 1) | ((with_reducible refine gate_callee (f := 23) rfl ?_); refine gl 25 Try.func23 #[.agg #[.int .i64 t103, .slice Ao48 t106.length co48], .int .i64 t107, .int .i64 t108] ?_; (with_reducible refine (impl_WayAll.calls k t103 _ _ t106 t107 t108 t104 _ ?side1 ?side2 A5.out).mono ?_); (case side1 => exact qc (Kd.R_reads' HO110.out).2.2); (case side2 => exact (Kd.R_reads' HO110.out).2.1); rintro e w51 ⟨v114, rfl, ho0, hb⟩; refine ⟨_, rfl, ?_⟩; replace HO110 := q0 (Kd.R_below (qr HO110.out) hb); have HO115 := q0 (Kd.S_lower (Kd.S_new' ho0 (Kd.S_lt (qv HO113.out))) (below_size (qb HB.out))); replace HO113 := q0 (Kd.S_elder' (qv HO113.out) (Kd.S_base ho0) hb); replace BK111 := q0 (kb BK111.out hb); replace HB := q0 (below_step (qb HB.out) hb); (try clear hb); (try clear hb2); (try clear hk); (try clear hi); (try clear ho0); obtain ⟨Ao52, co52, eo52⟩ := Kd.S_slice HO115.out; subst eo52; obtain ⟨Ao53, co53, eo53⟩ := Kd.S_slice HO113.out; subst eo53) | ((with_reducible refine gate_callee (f := 35) rfl ?_); refine gl 28 Try.func35 #[.slice Ao52 t104.length co52, .slice Ao53 t100.length co53] ?_; (with_reducible refine (laws_loRows.calls k _ _ t104 _ _ t100 false _ ?side1 ?side2 ?side3 ?side4 A6.out).mono ?_); (case side1 => exact qc (Kd.S_reads' HO115.out).2.2); (case side2 => exact (Kd.S_reads' HO115.out).2.1); (case side3 => exact qc (Kd.S_reads' HO113.out).2.2); (case side4 => exact (Kd.S_reads' HO113.out).2.1); rintro e w' ⟨rfl, ⟨nd, rfl⟩⟩; refine ⟨_, rfl, ?_⟩))
   go_ret
   exact ⟨qe, qb HB.out⟩
 subst c7
 rw [if_pos rfl] at H
 have H' := Aside0.mk H
 clear H
 go_enter Try.func10, Try.ntmps10
 go_wp2_with (first | ((with_reducible refine gate_callee (f := 34) rfl ?_); refine gl 14 Try.func34 #[.slice A0 l0.length c0] ?_; (with_reducible refine (spec_DrawWayAll.calls k _ _ l0 t103 t106 t107 t108 _ ?side1 ?side2 A3.out).mono ?_); (case side1 => repeat (first | exact HR0.out | (with_reducible refine Kd.C_alloc ?_ _) | (with_reducible refine Kd.C_drewN ?_ _) | (with_reducible refine Kd.C_drew ?_))); (case side2 => exact HC0.out); rintro e w8 ⟨v109, rfl, ho0, hb⟩; refine ⟨_, rfl, ?_⟩; have HO110 := q0 (Kd.R_lower ho0 (below_size (qb HB.out))); replace HB := q0 (below_step (qb HB.out) hb); (try clear hb); (try clear hb2); (try clear hk); (try clear hi); (try clear ho0)) | ((with_reducible refine gate_dst (N := 3) rfl ?_); (try (refine gate_guard (by rfl) ?_; dsimp only)); refine be 3 #[.int .i64 0, .slice none 0 0] 31 ?_; intro gb111 hg w9 hbox hb; replace HO110 := q0 (Kd.R_below (qr HO110.out) hb); have BK111 := q0 (hbox); have GW111 := q0 ((bs HB.out hg : w.heap.size ≤ gb111)); have GE111 := q0 ((bs HB.out hg : w.heap.size ≤ gb111)); replace HB := q0 (below_step (qb HB.out) hb); clear hb hbox hg; have hcz10_0 : w9.cell? ⟨gb111, 0, none⟩ = some (.int .i64 0) := (blk_cell BK111.out 0).trans rfl; have hcz10_1 : w9.cell? ⟨gb111, 1, none⟩ = some (.slice none 0 0) := (blk_cell BK111.out 1).trans rfl; have hfz10_0 := blk_frozen BK111.out 0; have hfz10_1 := blk_frozen BK111.out 1; obtain ⟨Ao11, co11, eo11⟩ := Kd.R_slice HO110.out; subst eo11) | ((with_reducible refine gate_callee (f := 22) rfl ?_); refine gl 21 Try.func22 #[.agg #[.int .i64 t103, .slice Ao11 t106.length co11], .int .i64 t107, .int .i64 t108] ?_; (with_reducible refine (spec_WayAll.calls k t103 _ _ t106 t107 t108 t100 _ ?side1 ?side2 A4.out).mono ?_); (case side1 => refine (Kd.R_reads' (e := 74) (base := w.heap.size) (ok := fun k_ => True) (n := t106.length) (c := co11) ?_).2.2; exact (by (with_reducible repeat (first | apply Kd.R_alloc | apply Kd.R_drewN | apply Kd.R_drew)); exact (rf2 HO110.out BK111.out (fun _ h_ => h_.1)))); (case side2 => exact (Kd.R_reads' HO110.out).2.1); rintro e w12 ⟨v112, rfl, ho0, hb⟩; refine ⟨_, rfl, ?_⟩; replace HO110 := q0 (Kd.R_below (by (with_reducible repeat (first | apply Kd.R_alloc | apply Kd.R_drewN | apply Kd.R_drew)); exact (rf2 HO110.out BK111.out (fun _ h_ => h_.1))) hb); have HO113 := q0 (Kd.S_lower ho0 (below_size (qb HB.out))); replace BK111 := q0 (blk_below (g := gb111) (o := .cells #[.int .i64 t103, .slice Ao11 t106.length co11] 31 (0, 0)) (by (with_reducible repeat (first | refine blk_drewN ?_ _ | refine blk_drew ?_ | refine blk_alloc ?_ _)); refine blk_put (cs := #[.int .i64 t103, .slice none 0 0]) ?_ 1 _ rfl; (with_reducible repeat (first | refine blk_drewN ?_ _ | refine blk_drew ?_ | refine blk_alloc ?_ _)); refine blk_put (cs := #[.int .i64 0, .slice none 0 0]) ?_ 0 _ rfl; (with_reducible repeat (first | refine blk_drewN ?_ _ | refine blk_drew ?_ | refine blk_alloc ?_ _)); exact BK111.out) hb); replace HB := q0 (below_step (qb HB.out) hb); (try clear hb); (try clear hb2); (try clear hk); (try clear hi); (try clear ho0); have hcz13_0 : w12.cell? ⟨gb111, 0, none⟩ = some (.int .i64 t103) := (blk_cell BK111.out 0).trans rfl; have hcz13_1 : w12.cell? ⟨gb111, 1, none⟩ = some (.slice Ao11 t106.length co11) := (blk_cell BK111.out 1).trans rfl; have hfz13_0 := blk_frozen BK111.out 0; have hfz13_1 := blk_frozen BK111.out 1) | ((with_reducible refine gate_callee (f := 23) rfl ?_); refine gl 25 Try.func23 #[.agg #[.int .i64 t103, .slice Ao11 t106.length co11], .int .i64 t107, .int .i64 t108] ?_; (with_reducible refine (impl_WayAll.calls k t103 _ _ t106 t107 t108 t104 _ ?side1 ?side2 A5.out).mono ?_); (case side1 => exact qc (Kd.R_reads' HO110.out).2.2); (case side2 => exact (Kd.R_reads' HO110.out).2.1); rintro e w14 ⟨v114, rfl, ho0, hb⟩; refine ⟨_, rfl, ?_⟩; replace HO110 := q0 (Kd.R_below (qr HO110.out) hb); have HO115 := q0 (Kd.S_lower (Kd.S_new' ho0 (Kd.S_lt (qv HO113.out))) (below_size (qb HB.out))); replace HO113 := q0 (Kd.S_elder' (qv HO113.out) (Kd.S_base ho0) hb); replace BK111 := q0 (kb BK111.out hb); replace HB := q0 (below_step (qb HB.out) hb); (try clear hb); (try clear hb2); (try clear hk); (try clear hi); (try clear ho0); obtain ⟨Ao15, co15, eo15⟩ := Kd.S_slice HO115.out; subst eo15; obtain ⟨Ao16, co16, eo16⟩ := Kd.S_slice HO113.out; subst eo16) | ((with_reducible refine gate_callee (f := 35) rfl ?_); refine gl 28 Try.func35 #[.slice Ao15 t104.length co15, .slice Ao16 t100.length co16] ?_; (with_reducible refine (laws_loRows.calls k _ _ t104 _ _ t100 true _ ?side1 ?side2 ?side3 ?side4 A6.out).mono ?_); (case side1 => exact qc (Kd.S_reads' HO115.out).2.2); (case side2 => exact (Kd.S_reads' HO115.out).2.1); (case side3 => exact qc (Kd.S_reads' HO113.out).2.2); (case side4 => exact (Kd.S_reads' HO113.out).2.1); rintro e w' ⟨rfl, ⟨nd, rfl⟩⟩; refine ⟨_, rfl, ?_⟩))
 go_loopg [8] k (fun kq v8 w' => ∃ (x8_1 : Int), v8 = .int .i64 x8_1 ∧ Aside0 (laws_FnWayAll.l0 kq t107 t108 t104 x8_1 t103 t106 = some r) ∧ Aside0 (kq ≤ k) ∧ Aside0 (Kd.S (Kd.slice 3 (Kd.int .i64)) 26 w' w.heap.size (fun _ => True) (.slice Ao15 t104.length co15) t104) ∧ Aside0 (Kd.R kTie 74 w' w.heap.size (fun _ => True) (.slice Ao11 t106.length co11) t106) ∧ Aside0 (w'.heap[gb111]? = some (.cells #[.int .i64 t103, (.slice Ao11 t106.length co11)] 31 (0, 0))) ∧ Aside0 (Below w.heap.size w w'))
 case atStart => exact ⟨(0), qs, H', ⟨Nat.le_refl _⟩, ⟨by (with_reducible repeat (first | apply Kd.S_alloc | apply Kd.S_drewN | apply Kd.S_drew)); exact Kd.S_mono HO115.out (fun _ hk => trivial)⟩, ⟨qr HO110.out⟩, ⟨qk BK111.out⟩, ⟨qb HB.out⟩⟩
 clear H'
 try clear c1
 try clear c2
 try clear c2b0
 try clear c2b1
 try clear p2
 try clear c3
 try clear c7
 try clear c10
 try clear hcz10_0
 try clear hcz10_1
 try clear hcz13_0
 try clear hcz13_1
 try clear hfz10_0
 try clear hfz10_1
 try clear hfz13_0
 try clear hfz13_1
 obtain ⟨x8_1, rfl, HA, HK1, HO_7, HO_100001, BK111, HB⟩ := hrel
 rcases gk with _ | k1
 · exact absurd HA.out (by simp [laws_FnWayAll.l0])
 have H := HA.out
 clear HA
 simp only [laws_FnWayAll.l0] at H
 by_cases c17 : x8_1 < (t104.length : Int)
 rotate_left
 · rw [if_neg c17] at H
   have c17b0 : decide (x8_1 < (t104.length : Int)) = false := decide_eq_false c17
   clear c17
   obtain rfl := Option.some.inj H
   go_wp2
   go_ret
   exact ⟨qe, qb HB.out⟩
 rw [if_pos c17] at H
 have c17b0 : decide (x8_1 < (t104.length : Int)) = true := decide_eq_true c17
 clear c17
 by_cases c18 : 0 ≤ x8_1
 rotate_left
 · rw [if_neg c18] at H
   exact absurd H (by simp)
 rw [if_pos c18] at H
 have c18b0 : decide (0 ≤ x8_1) = true := decide_eq_true c18
 clear c18
 replace H := Option.bind_eq_some_iff.mp H
 obtain ⟨t101, A116, H⟩ := H
 have A19 := Aside0.mk A116
 clear A116
 by_cases c20 : t101 = true
 rotate_left
 · replace c20 := Bool.eq_false_iff.mpr c20
   subst c20
   rw [if_neg nf] at H
   obtain rfl := Option.some.inj H
   try go_wp2
   replace HO_7 := q0 (Kd.S_drew HO_7.out)
   replace HO_100001 := q0 (Kd.R_drew HO_100001.out)
   replace BK111 := q0 (blk_drew BK111.out)
   replace HB := q0 (below_drew1 HB.out)
   have p118 : 0 ≤ (x8_1 : Int) := of_decide_eq_true qa
   have q118 : x8_1 < (t104.length : Int) := of_decide_eq_true qa
   obtain ⟨ad118, A118_0, c118_0, e118, hx118_0, hl118_0, hi118_0⟩ := at_LI (Kd.S_reads' HO_7.out).2.2 x8_1 p118 q118
   cases e118
   obtain ⟨ce118, hce118, hMe118, hcc118⟩ := Kd.S_get HO_7.out [] x8_1 p118 (by first | exact q118 | exact of_decide_eq_true qa | (have e_ := (Kd.S_reads' HO_7.out).1; omega))
   obtain ⟨ve118_0, rfl, ge118_0⟩ := hMe118
   have hv118_0 := hcc118 0 _ rfl
   rw [Nat.add_zero, show ((Kd.slice 3 (Kd.int .i64))).sz = 1 from rfl, Nat.mul_one] at hv118_0
   replace hv118_0 := Option.some.inj (hv118_0.symm.trans hx118_0)
   rw [hv118_0] at ge118_0
   have HL118_0 := q0 (show Kd.R (Kd.int .i64) 3 _ _ _ _ (rd_LI t104 x8_1) from ge118_0)
   clear hv118_0 ge118_0
   clear hcc118 hce118
   have HR118_0 := Aside0.mk hi118_0
   have HC118_0 := Aside0.mk hl118_0
   clear hi118_0 hl118_0
   replace p118 := eq_true p118
   replace q118 := eq_true q118
   refine start_ (n := 50) (S := fun w' => w'.cell? ⟨gb111, 0, none⟩ = some (.int .i64 t103) ∧ w'.cell? ⟨gb111, 1, none⟩ = some (.slice Ao11 t106.length co11) ∧ w'.cell? (ad118.add (x8_1).toNat) = some (.slice A118_0 (rd_LI t104 x8_1).length c118_0)) (ds := []) (ba 50 0) (by kernel_rfl) rfl (by kernel_rfl) ⟨(blk_cell BK111.out 0).trans rfl, (blk_cell BK111.out 1).trans rfl, hx118_0⟩ (fun hHeld => ?_); refine with_tabW laws_FnWayAll.tab11 laws_FnWayAll.bits11 (fun HT_ HW_ => ?_)
   generalize wr.drew = w43 at HO_7 HO_100001 BK111 HB HL118_0 HR118_0 hx118_0 hHeld ⊢
   refine pu 1 (some 37) (ba 50 2) HT_.out ?_
   refine pu 2 (some 38) (ba 50 6) HT_.out ?_
   refine pu 3 (some 39) (ba 50 14) HT_.out ?_
   refine tu 0 (some 36) (ba 50 15) HT_.out HW_.out hHeld ?_
   refine tu 4 (some 40) (ba 50 31) HT_.out HW_.out hHeld ?_
   refine one_ (i := 5) (N := some 41) (ba 50 63) rfl rfl (one_of HT_.out (by kernel_rfl)) (by decide) (fun K hK => ?_)
   refine goes_ Try.func31 (by kernel_rfl) rfl #[.agg #[.int .i64 t103, .slice Ao11 t106.length co11], .slice A118_0 (rd_LI t104 x8_1).length c118_0] (by rfl) rfl rfl qm ?_
   with_reducible refine (impl_WayOk.calls k1 t103 _ _ t106 _ _ (rd_LI t104 x8_1) false _ ?side1 ?side2 ?side3 ?side4 A19.out).mono ?_
   (case side1 => exact qc (Kd.R_reads' HO_100001.out).2.2)
   (case side2 => exact (Kd.R_reads' HO_100001.out).2.1)
   (case side3 => repeat (first | exact (by repeat (first | (with_reducible exact HR118_0.out) | (with_reducible refine Kd.C_alloc ?_ _) | (with_reducible refine Kd.C_drewN ?_ _) | (with_reducible refine Kd.C_drew ?_) | exact HR118_0.out)) | (with_reducible refine Kd.C_alloc ?_ _) | (with_reducible refine Kd.C_drewN ?_ _) | (with_reducible refine Kd.C_drew ?_)))
   (case side4 => exact HC118_0.out)
   rintro e w44 ⟨rfl, hb⟩
   have HS2_ := (hb.cell (World.block_lt_of_cell? _ _ (hHeld.2.2))).trans (hHeld.2.2)
   refine ⟨_, rfl, ?_⟩
   replace HO_7 := q0 (Kd.S_below (qv HO_7.out) hb)
   replace HO_100001 := q0 (Kd.R_below (qr HO_100001.out) hb)
   replace HL118_0 := q0 (Kd.R_below (by (with_reducible repeat (first | apply Kd.R_alloc | apply Kd.R_drewN | apply Kd.R_drew)); exact HL118_0.out) hb)
   replace BK111 := q0 (kb BK111.out hb)
   replace HR118_0 := q0 (Kd.C_below (by repeat (first | (with_reducible exact HR118_0.out) | (with_reducible refine Kd.C_alloc ?_ _) | (with_reducible refine Kd.C_drewN ?_ _) | (with_reducible refine Kd.C_drew ?_) | exact HR118_0.out)) hb)
   replace HB := q0 (below_step (qb HB.out) hb)
   (try clear hb)
   (try clear hb2)
   (try clear hk)
   (try clear hi)
   refine hK.out _ _ ⟨(blk_cell BK111.out 0).trans rfl, (blk_cell BK111.out 1).trans rfl, HS2_⟩ (fun hHeld => ?_)
   clear hK K
   refine nu 41 ?_
   refine pu 6 (some 42) (ba 50 127) HT_.out ?_
   refine pu 7 (some 43) (ba 50 255) HT_.out ?_
   refine pv 8 (some 44) (ba 50 511) HT_.out ?_
   refine pv 9 (some 45) (ba 50 1023) HT_.out ?_
   refine pv 10 (some 46) (ba 50 2047) HT_.out ?_
   refine pv 11 (some 47) (ba 50 4095) HT_.out ?_
   refine pv 12 (some 48) (ba 50 8191) HT_.out ?_
   refine pv 13 (some 49) (ba 50 16383) HT_.out ?_
   refine pv 14 (some 50) (ba 50 32767) HT_.out ?_
   refine pv 15 (some 51) (ba 50 65535) HT_.out ?_
   refine pu 16 (some 52) (ba 50 131071) HT_.out ?_
   refine pu 17 (some 53) (ba 50 262143) HT_.out ?_
   refine pv 18 (some 54) (ba 50 524287) HT_.out ?_
   refine pv 19 (some 55) (ba 50 1048575) HT_.out ?_
   refine pv 20 (some 56) (ba 50 2097151) HT_.out ?_
   refine pv 21 (some 57) (ba 50 4194303) HT_.out ?_
   refine pv 22 (some 58) (ba 50 8388607) HT_.out ?_
   refine pv 23 (some 59) (ba 50 16777215) HT_.out ?_
   refine pv 24 (some 60) (ba 50 33554431) HT_.out ?_
   refine pv 25 (some 61) (ba 50 67108863) HT_.out ?_
   refine pv 26 (some 62) (ba 50 134217727) HT_.out ?_
   refine pv 27 (some 63) (ba 50 268435455) HT_.out ?_
   refine pv 28 (some 64) (ba 50 536870911) HT_.out ?_
   refine pv 29 (some 65) (ba 50 1073741823) HT_.out ?_
   refine pv 30 (some 66) (ba 50 2147483647) HT_.out ?_
   refine pv 31 (some 67) (ba 50 4294967295) HT_.out ?_
   refine pu 32 (some 68) (ba 50 8589934591) HT_.out ?_
   refine pu 33 (some 69) (ba 50 17179869183) HT_.out ?_
   refine pv 34 (some 70) (ba 50 34359738367) HT_.out ?_
   refine pv 35 (some 71) (ba 50 68719476735) HT_.out ?_
   refine pv 36 (some 72) (ba 50 137438953471) HT_.out ?_
   refine pv 37 (some 73) (ba 50 274877906943) HT_.out ?_
   refine pv 38 (some 74) (ba 50 549755813887) HT_.out ?_
   refine pv 39 (some 75) (ba 50 1099511627775) HT_.out ?_
   refine pv 40 (some 76) (ba 50 2199023255551) HT_.out ?_
   refine pv 41 (some 77) (ba 50 4398046511103) HT_.out ?_
   refine pv 42 (some 78) (ba 50 8796093022207) HT_.out ?_
   refine pv 43 (some 79) (ba 50 17592186044415) HT_.out ?_
   refine pv 44 (some 80) (ba 50 35184372088831) HT_.out ?_
   refine pv 45 (some 81) (ba 50 70368744177663) HT_.out ?_
   refine pv 46 (some 82) (ba 50 140737488355327) HT_.out ?_
   refine pv 47 (some 83) (ba 50 281474976710655) HT_.out ?_
   refine pv 48 (some 84) (ba 50 562949953421311) HT_.out ?_
   refine pu 49 (some 85) (ba 50 1125899906842623) HT_.out ?_
   refine done_ (done_of HT_.out (by kernel_rfl)) ?_
   try go_wp2
   go_ret
   exact ⟨qe, qb HB.out⟩
 subst c20
 rw [if_pos rfl] at H
 by_cases c21 : 0 < ((rd_LI t104 x8_1).length : Int)
 rotate_left
 · rw [if_neg c21] at H
   exact absurd H (by simp)
 rw [if_pos c21] at H
 have c21b0 : decide (0 < ((rd_LI t104 x8_1).length : Int)) = true := decide_eq_true c21
 have c21b1 : decide (0 < (rd_LI t104 x8_1).length) = true := decide_eq_true (by omega)
 clear c21
 by_cases c22 : (rd (rd_LI t104 x8_1) 0) = t107
 rotate_left
 · rw [if_neg c22] at H
   have c22b0 : ((rd (rd_LI t104 x8_1) 0) == t107) = false := beq_eq_false_iff_ne.mpr c22
   have c22b1 : ((rd (rd_LI t104 x8_1) 0) != t107) = true := bne_iff_ne.mpr c22
   obtain rfl := Option.some.inj H
   try go_wp2
   replace HO_7 := q0 (Kd.S_drew HO_7.out)
   replace HO_100001 := q0 (Kd.R_drew HO_100001.out)
   replace BK111 := q0 (blk_drew BK111.out)
   replace HB := q0 (below_drew1 HB.out)
   have p118 : 0 ≤ (x8_1 : Int) := of_decide_eq_true qa
   have q118 : x8_1 < (t104.length : Int) := of_decide_eq_true qa
   obtain ⟨ad118, A118_0, c118_0, e118, hx118_0, hl118_0, hi118_0⟩ := at_LI (Kd.S_reads' HO_7.out).2.2 x8_1 p118 q118
   cases e118
   obtain ⟨ce118, hce118, hMe118, hcc118⟩ := Kd.S_get HO_7.out [] x8_1 p118 (by first | exact q118 | exact of_decide_eq_true qa | (have e_ := (Kd.S_reads' HO_7.out).1; omega))
   obtain ⟨ve118_0, rfl, ge118_0⟩ := hMe118
   have hv118_0 := hcc118 0 _ rfl
   rw [Nat.add_zero, show ((Kd.slice 3 (Kd.int .i64))).sz = 1 from rfl, Nat.mul_one] at hv118_0
   replace hv118_0 := Option.some.inj (hv118_0.symm.trans hx118_0)
   rw [hv118_0] at ge118_0
   have HL118_0 := q0 (show Kd.R (Kd.int .i64) 3 _ _ _ _ (rd_LI t104 x8_1) from ge118_0)
   clear hv118_0 ge118_0
   clear hcc118 hce118
   have HR118_0 := Aside0.mk hi118_0
   have HC118_0 := Aside0.mk hl118_0
   clear hi118_0 hl118_0
   replace p118 := eq_true p118
   replace q118 := eq_true q118
   have p119 : 0 ≤ (x8_1 : Int) := of_decide_eq_true qa
   have q119 : x8_1 < (t104.length : Int) := of_decide_eq_true qa
   obtain ⟨ad119, A119_0, c119_0, e119, hx119_0, hl119_0, hi119_0⟩ := at_LI (Kd.S_reads' HO_7.out).2.2 x8_1 p119 q119
   obtain rfl : ad118 = ad119 := (by injection e119)
   have ee_ := Option.some.inj (hx118_0.symm.trans hx119_0)
   injection ee_ with ea_ en_ ec_
   subst ea_
   subst ec_
   clear en_
   obtain ⟨ce119, hce119, hMe119, hcc119⟩ := Kd.S_get HO_7.out [] x8_1 p119 (by first | exact q119 | exact of_decide_eq_true qa | (have e_ := (Kd.S_reads' HO_7.out).1; omega))
   obtain ⟨ve119_0, rfl, ge119_0⟩ := hMe119
   have hv119_0 := hcc119 0 _ rfl
   rw [Nat.add_zero, show ((Kd.slice 3 (Kd.int .i64))).sz = 1 from rfl, Nat.mul_one] at hv119_0
   replace hv119_0 := Option.some.inj (hv119_0.symm.trans hx119_0)
   rw [hv119_0] at ge119_0
   have HL119_0 := q0 (show Kd.R (Kd.int .i64) 3 _ _ _ _ (rd_LI t104 x8_1) from ge119_0)
   clear hv119_0 ge119_0
   clear hcc119 hce119
   have HR119_0 := Aside0.mk hi119_0
   have HC119_0 := Aside0.mk hl119_0
   clear hi119_0 hl119_0
   replace p119 := eq_true p119
   replace q119 := eq_true q119
   have p124 : 0 ≤ (0 : Int) := (by omega)
   have q124 : 0 < ((rd_LI t104 x8_1).length : Int) := of_decide_eq_true qa
   obtain ⟨ad124, e124, hx124_0⟩ := Kd.at_int (by repeat (first | (with_reducible exact HR119_0.out) | (with_reducible refine Kd.C_alloc ?_ _) | (with_reducible refine Kd.C_drewN ?_ _) | (with_reducible refine Kd.C_drew ?_) | exact HR119_0.out)) 0 p124 q124
   cases e124
   have qi124 : (0 < (rd_LI t104 x8_1).length) = True := eq_true (by omega)
   (try rw [show ((0 : Int)).toNat = 0 from rfl] at hx124_0)
   (try rw [Addr.add_zero'] at hx124_0)
   replace p124 := eq_true p124
   replace q124 := eq_true q124
   refine start_ (n := 50) (S := fun w' => w'.cell? ⟨gb111, 0, none⟩ = some (.int .i64 t103) ∧ w'.cell? ⟨gb111, 1, none⟩ = some (.slice Ao11 t106.length co11) ∧ w'.cell? (ad118.add (x8_1).toNat) = some (.slice (some ad124) (rd_LI t104 x8_1).length c118_0) ∧ w'.cell? (ad118.add (x8_1).toNat) = some (.slice (some ad124) (rd_LI t104 x8_1).length c118_0) ∧ w'.cell? ad124 = some (.int .i64 (rd (rd_LI t104 x8_1) 0))) (ds := []) (ba 50 0) (by kernel_rfl) rfl (by kernel_rfl) ⟨(blk_cell BK111.out 0).trans rfl, (blk_cell BK111.out 1).trans rfl, hx118_0, hx119_0, hx124_0⟩ (fun hHeld => ?_); refine with_tabW laws_FnWayAll.tab11 laws_FnWayAll.bits11 (fun HT_ HW_ => ?_)
   generalize wr.drew = w41 at HO_7 HO_100001 BK111 HB HL118_0 HL119_0 HR118_0 HR119_0 hx118_0 hx119_0 hx124_0 hHeld ⊢
   refine pu 1 (some 37) (ba 50 2) HT_.out ?_
   refine pu 2 (some 38) (ba 50 6) HT_.out ?_
   refine pu 3 (some 39) (ba 50 14) HT_.out ?_
   refine tu 0 (some 36) (ba 50 15) HT_.out HW_.out hHeld ?_
   refine tu 4 (some 40) (ba 50 31) HT_.out HW_.out hHeld ?_
   refine one_ (i := 5) (N := some 41) (ba 50 63) rfl rfl (one_of HT_.out (by kernel_rfl)) (by decide) (fun K hK => ?_)
   refine goes_ Try.func31 (by kernel_rfl) rfl #[.agg #[.int .i64 t103, .slice Ao11 t106.length co11], .slice (some ad124) (rd_LI t104 x8_1).length c118_0] (by rfl) rfl rfl qm ?_
   with_reducible refine (impl_WayOk.calls k1 t103 _ _ t106 _ _ (rd_LI t104 x8_1) true _ ?side1 ?side2 ?side3 ?side4 A19.out).mono ?_
   (case side1 => exact qc (Kd.R_reads' HO_100001.out).2.2)
   (case side2 => exact (Kd.R_reads' HO_100001.out).2.1)
   (case side3 => repeat (first | exact (by repeat (first | (with_reducible exact HR118_0.out) | (with_reducible refine Kd.C_alloc ?_ _) | (with_reducible refine Kd.C_drewN ?_ _) | (with_reducible refine Kd.C_drew ?_) | exact HR118_0.out)) | (with_reducible refine Kd.C_alloc ?_ _) | (with_reducible refine Kd.C_drewN ?_ _) | (with_reducible refine Kd.C_drew ?_)))
   (case side4 => exact HC118_0.out)
   rintro e w42 ⟨rfl, hb⟩
   have HS2_ := (hb.cell (World.block_lt_of_cell? _ _ (hHeld.2.2.1))).trans (hHeld.2.2.1)
   have HS3_ := (hb.cell (World.block_lt_of_cell? _ _ (hHeld.2.2.2.1))).trans (hHeld.2.2.2.1)
   have HS4_ := (hb.cell (World.block_lt_of_cell? _ _ (hHeld.2.2.2.2))).trans (hHeld.2.2.2.2)
   refine ⟨_, rfl, ?_⟩
   replace HO_7 := q0 (Kd.S_below (qv HO_7.out) hb)
   replace HO_100001 := q0 (Kd.R_below (qr HO_100001.out) hb)
   replace HL118_0 := q0 (Kd.R_below (by (with_reducible repeat (first | apply Kd.R_alloc | apply Kd.R_drewN | apply Kd.R_drew)); exact HL118_0.out) hb)
   replace BK111 := q0 (kb BK111.out hb)
   replace HR118_0 := q0 (Kd.C_below (by repeat (first | (with_reducible exact HR118_0.out) | (with_reducible refine Kd.C_alloc ?_ _) | (with_reducible refine Kd.C_drewN ?_ _) | (with_reducible refine Kd.C_drew ?_) | exact HR118_0.out)) hb)
   replace HB := q0 (below_step (qb HB.out) hb)
   (try clear hb)
   (try clear hb2)
   (try clear hk)
   (try clear hi)
   refine hK.out _ _ ⟨(blk_cell BK111.out 0).trans rfl, (blk_cell BK111.out 1).trans rfl, HS2_, HS3_, HS4_⟩ (fun hHeld => ?_)
   clear hK K
   refine nu 41 ?_
   refine pu 6 (some 42) (ba 50 127) HT_.out ?_
   refine pu 7 (some 43) (ba 50 255) HT_.out ?_
   refine pu 8 (some 44) (ba 50 511) HT_.out ?_
   refine pu 9 (some 45) (ba 50 1023) HT_.out ?_
   refine pu 10 (some 46) (ba 50 2047) HT_.out ?_
   refine pu 14 (some 50) (ba 50 18431) HT_.out ?_
   refine tu 11 (some 47) (ba 50 20479) HT_.out HW_.out hHeld ?_
   refine pu 12 (some 48) (ba 50 24575) HT_.out ?_
   refine tu 13 (some 49) (ba 50 32767) HT_.out HW_.out hHeld ?_
   refine pu 15 (some 51) (ba 50 65535) HT_.out ?_
   refine pu 16 (some 52) (ba 50 131071) HT_.out ?_
   refine pu 17 (some 53) (ba 50 262143) HT_.out ?_
   refine pv 18 (some 54) (ba 50 524287) HT_.out ?_
   refine pv 19 (some 55) (ba 50 1048575) HT_.out ?_
   refine pv 20 (some 56) (ba 50 2097151) HT_.out ?_
   refine pv 21 (some 57) (ba 50 4194303) HT_.out ?_
   refine pv 22 (some 58) (ba 50 8388607) HT_.out ?_
   refine pv 23 (some 59) (ba 50 16777215) HT_.out ?_
   refine pv 24 (some 60) (ba 50 33554431) HT_.out ?_
   refine pv 25 (some 61) (ba 50 67108863) HT_.out ?_
   refine pv 26 (some 62) (ba 50 134217727) HT_.out ?_
   refine pv 27 (some 63) (ba 50 268435455) HT_.out ?_
   refine pv 28 (some 64) (ba 50 536870911) HT_.out ?_
   refine pv 29 (some 65) (ba 50 1073741823) HT_.out ?_
   refine pv 30 (some 66) (ba 50 2147483647) HT_.out ?_
   refine pv 31 (some 67) (ba 50 4294967295) HT_.out ?_
   refine pu 32 (some 68) (ba 50 8589934591) HT_.out ?_
   refine pu 33 (some 69) (ba 50 17179869183) HT_.out ?_
   refine pv 34 (some 70) (ba 50 34359738367) HT_.out ?_
   refine pv 35 (some 71) (ba 50 68719476735) HT_.out ?_
   refine pv 36 (some 72) (ba 50 137438953471) HT_.out ?_
   refine pv 37 (some 73) (ba 50 274877906943) HT_.out ?_
   refine pv 38 (some 74) (ba 50 549755813887) HT_.out ?_
   refine pv 39 (some 75) (ba 50 1099511627775) HT_.out ?_
   refine pv 40 (some 76) (ba 50 2199023255551) HT_.out ?_
   refine pv 41 (some 77) (ba 50 4398046511103) HT_.out ?_
   refine pv 42 (some 78) (ba 50 8796093022207) HT_.out ?_
   refine pv 43 (some 79) (ba 50 17592186044415) HT_.out ?_
   refine pv 44 (some 80) (ba 50 35184372088831) HT_.out ?_
   refine pv 45 (some 81) (ba 50 70368744177663) HT_.out ?_
   refine pv 46 (some 82) (ba 50 140737488355327) HT_.out ?_
   refine pv 47 (some 83) (ba 50 281474976710655) HT_.out ?_
   refine pv 48 (some 84) (ba 50 562949953421311) HT_.out ?_
   refine pu 49 (some 85) (ba 50 1125899906842623) HT_.out ?_
   refine done_ (done_of HT_.out (by kernel_rfl)) ?_
   try go_wp2
   go_ret
   exact ⟨qe, qb HB.out⟩
 rw [if_pos c22] at H
 have c22b0 : ((rd (rd_LI t104 x8_1) 0) == t107) = true := beq_iff_eq.mpr c22
 have c22b1 : ((rd (rd_LI t104 x8_1) 0) != t107) = false := bne_eq_false_iff_eq.mpr c22
 clear c22
 obtain ⟨ji23, hji23⟩ : ∃ j_ : Int, (wrap64 (((rd_LI t104 x8_1).length : Int) - 1)) = j_ := ⟨_, rfl⟩
 replace H : (if 0 ≤ (ji23) then (if (ji23) < ((rd_LI t104 x8_1).length : Int) then (if (rd (rd_LI t104 x8_1) (ji23)) = t108 then (if x8_1 > 0 then (if 0 ≤ (wrap64 (x8_1 - 1)) then (if (wrap64 (x8_1 - 1)) < (t104.length : Int) then ((laws_loAhead.f k1 (rd_LI t104 (wrap64 (x8_1 - 1))) (rd_LI t104 x8_1)).bind fun t102 => (if t102 = true then (laws_FnWayAll.l0 k1 t107 t108 t104 (wrap64 (x8_1 + 1)) t103 t106) else (some false))) else (none)) else (none)) else (laws_FnWayAll.l0 k1 t107 t108 t104 (wrap64 (x8_1 + 1)) t103 t106)) else (some false)) else (none)) else (none)) = some r := by first | (rw [hji23] at H; exact H) | (simp only [hji23] at H ⊢; exact H)
 (try rw [hji23] at A19)
 have hji23w : (IntKind.i64.wrap (((rd_LI t104 x8_1).length : Int) - 1)) = ji23 := (i64_w _).trans hji23
 by_cases c24 : 0 ≤ (ji23)
 rotate_left
 · rw [if_neg c24] at H
   exact absurd H (by simp)
 rw [if_pos c24] at H
 have c24b0 : decide (0 ≤ (ji23)) = true := decide_eq_true c24
 clear c24
 by_cases c25 : (ji23) < ((rd_LI t104 x8_1).length : Int)
 rotate_left
 · rw [if_neg c25] at H
   exact absurd H (by simp)
 rw [if_pos c25] at H
 have c25b0 : decide ((ji23) < ((rd_LI t104 x8_1).length : Int)) = true := decide_eq_true c25
 clear c25
 by_cases c26 : (rd (rd_LI t104 x8_1) (ji23)) = t108
 rotate_left
 · rw [if_neg c26] at H
   have c26b0 : ((rd (rd_LI t104 x8_1) (ji23)) == t108) = false := beq_eq_false_iff_ne.mpr c26
   have c26b1 : ((rd (rd_LI t104 x8_1) (ji23)) != t108) = true := bne_iff_ne.mpr c26
   obtain rfl := Option.some.inj H
   try go_wp2
   replace HO_7 := q0 (Kd.S_drew HO_7.out)
   replace HO_100001 := q0 (Kd.R_drew HO_100001.out)
   replace BK111 := q0 (blk_drew BK111.out)
   replace HB := q0 (below_drew1 HB.out)
   have p118 : 0 ≤ (x8_1 : Int) := of_decide_eq_true qa
   have q118 : x8_1 < (t104.length : Int) := of_decide_eq_true qa
   obtain ⟨ad118, A118_0, c118_0, e118, hx118_0, hl118_0, hi118_0⟩ := at_LI (Kd.S_reads' HO_7.out).2.2 x8_1 p118 q118
   cases e118
   obtain ⟨ce118, hce118, hMe118, hcc118⟩ := Kd.S_get HO_7.out [] x8_1 p118 (by first | exact q118 | exact of_decide_eq_true qa | (have e_ := (Kd.S_reads' HO_7.out).1; omega))
   obtain ⟨ve118_0, rfl, ge118_0⟩ := hMe118
   have hv118_0 := hcc118 0 _ rfl
   rw [Nat.add_zero, show ((Kd.slice 3 (Kd.int .i64))).sz = 1 from rfl, Nat.mul_one] at hv118_0
   replace hv118_0 := Option.some.inj (hv118_0.symm.trans hx118_0)
   rw [hv118_0] at ge118_0
   have HL118_0 := q0 (show Kd.R (Kd.int .i64) 3 _ _ _ _ (rd_LI t104 x8_1) from ge118_0)
   clear hv118_0 ge118_0
   clear hcc118 hce118
   have HR118_0 := Aside0.mk hi118_0
   have HC118_0 := Aside0.mk hl118_0
   clear hi118_0 hl118_0
   replace p118 := eq_true p118
   replace q118 := eq_true q118
   have p119 : 0 ≤ (x8_1 : Int) := of_decide_eq_true qa
   have q119 : x8_1 < (t104.length : Int) := of_decide_eq_true qa
   obtain ⟨ad119, A119_0, c119_0, e119, hx119_0, hl119_0, hi119_0⟩ := at_LI (Kd.S_reads' HO_7.out).2.2 x8_1 p119 q119
   obtain rfl : ad118 = ad119 := (by injection e119)
   have ee_ := Option.some.inj (hx118_0.symm.trans hx119_0)
   injection ee_ with ea_ en_ ec_
   subst ea_
   subst ec_
   clear en_
   obtain ⟨ce119, hce119, hMe119, hcc119⟩ := Kd.S_get HO_7.out [] x8_1 p119 (by first | exact q119 | exact of_decide_eq_true qa | (have e_ := (Kd.S_reads' HO_7.out).1; omega))
   obtain ⟨ve119_0, rfl, ge119_0⟩ := hMe119
   have hv119_0 := hcc119 0 _ rfl
   rw [Nat.add_zero, show ((Kd.slice 3 (Kd.int .i64))).sz = 1 from rfl, Nat.mul_one] at hv119_0
   replace hv119_0 := Option.some.inj (hv119_0.symm.trans hx119_0)
   rw [hv119_0] at ge119_0
   have HL119_0 := q0 (show Kd.R (Kd.int .i64) 3 _ _ _ _ (rd_LI t104 x8_1) from ge119_0)
   clear hv119_0 ge119_0
   clear hcc119 hce119
   have HR119_0 := Aside0.mk hi119_0
   have HC119_0 := Aside0.mk hl119_0
   clear hi119_0 hl119_0
   replace p119 := eq_true p119
   replace q119 := eq_true q119
   have p120 : 0 ≤ (x8_1 : Int) := of_decide_eq_true qa
   have q120 : x8_1 < (t104.length : Int) := of_decide_eq_true qa
   obtain ⟨ad120, A120_0, c120_0, e120, hx120_0, hl120_0, hi120_0⟩ := at_LI (Kd.S_reads' HO_7.out).2.2 x8_1 p120 q120
   obtain rfl : ad118 = ad120 := (by injection e120)
   have ee_ := Option.some.inj (hx118_0.symm.trans hx120_0)
   injection ee_ with ea_ en_ ec_
   subst ea_
   subst ec_
   clear en_
   obtain ⟨ce120, hce120, hMe120, hcc120⟩ := Kd.S_get HO_7.out [] x8_1 p120 (by first | exact q120 | exact of_decide_eq_true qa | (have e_ := (Kd.S_reads' HO_7.out).1; omega))
   obtain ⟨ve120_0, rfl, ge120_0⟩ := hMe120
   have hv120_0 := hcc120 0 _ rfl
   rw [Nat.add_zero, show ((Kd.slice 3 (Kd.int .i64))).sz = 1 from rfl, Nat.mul_one] at hv120_0
   replace hv120_0 := Option.some.inj (hv120_0.symm.trans hx120_0)
   rw [hv120_0] at ge120_0
   have HL120_0 := q0 (show Kd.R (Kd.int .i64) 3 _ _ _ _ (rd_LI t104 x8_1) from ge120_0)
   clear hv120_0 ge120_0
   clear hcc120 hce120
   have HR120_0 := Aside0.mk hi120_0
   have HC120_0 := Aside0.mk hl120_0
   clear hi120_0 hl120_0
   replace p120 := eq_true p120
   replace q120 := eq_true q120
   have p121 : 0 ≤ (x8_1 : Int) := of_decide_eq_true qa
   have q121 : x8_1 < (t104.length : Int) := of_decide_eq_true qa
   obtain ⟨ad121, A121_0, c121_0, e121, hx121_0, hl121_0, hi121_0⟩ := at_LI (Kd.S_reads' HO_7.out).2.2 x8_1 p121 q121
   obtain rfl : ad118 = ad121 := (by injection e121)
   have ee_ := Option.some.inj (hx118_0.symm.trans hx121_0)
   injection ee_ with ea_ en_ ec_
   subst ea_
   subst ec_
   clear en_
   obtain ⟨ce121, hce121, hMe121, hcc121⟩ := Kd.S_get HO_7.out [] x8_1 p121 (by first | exact q121 | exact of_decide_eq_true qa | (have e_ := (Kd.S_reads' HO_7.out).1; omega))
   obtain ⟨ve121_0, rfl, ge121_0⟩ := hMe121
   have hv121_0 := hcc121 0 _ rfl
   rw [Nat.add_zero, show ((Kd.slice 3 (Kd.int .i64))).sz = 1 from rfl, Nat.mul_one] at hv121_0
   replace hv121_0 := Option.some.inj (hv121_0.symm.trans hx121_0)
   rw [hv121_0] at ge121_0
   have HL121_0 := q0 (show Kd.R (Kd.int .i64) 3 _ _ _ _ (rd_LI t104 x8_1) from ge121_0)
   clear hv121_0 ge121_0
   clear hcc121 hce121
   have HR121_0 := Aside0.mk hi121_0
   have HC121_0 := Aside0.mk hl121_0
   clear hi121_0 hl121_0
   replace p121 := eq_true p121
   replace q121 := eq_true q121
   have p124 : 0 ≤ (0 : Int) := (by omega)
   have q124 : 0 < ((rd_LI t104 x8_1).length : Int) := of_decide_eq_true qa
   obtain ⟨ad124, e124, hx124_0⟩ := Kd.at_int (by repeat (first | (with_reducible exact HR119_0.out) | (with_reducible refine Kd.C_alloc ?_ _) | (with_reducible refine Kd.C_drewN ?_ _) | (with_reducible refine Kd.C_drew ?_) | exact HR119_0.out)) 0 p124 q124
   cases e124
   have qi124 : (0 < (rd_LI t104 x8_1).length) = True := eq_true (by omega)
   (try rw [show ((0 : Int)).toNat = 0 from rfl] at hx124_0)
   (try rw [Addr.add_zero'] at hx124_0)
   replace p124 := eq_true p124
   replace q124 := eq_true q124
   have p125 : 0 ≤ ((ji23) : Int) := of_decide_eq_true qa
   have q125 : (ji23) < ((rd_LI t104 x8_1).length : Int) := of_decide_eq_true qa
   obtain ⟨ad125, e125, hx125_0⟩ := Kd.at_int (by repeat (first | (with_reducible exact HR120_0.out) | (with_reducible refine Kd.C_alloc ?_ _) | (with_reducible refine Kd.C_drewN ?_ _) | (with_reducible refine Kd.C_drew ?_) | exact HR120_0.out)) (ji23) p125 q125
   obtain rfl : ad124 = ad125 := (by injection e125)
   replace p125 := eq_true p125
   replace q125 := eq_true q125
   refine start_ (n := 50) (S := fun w' => w'.cell? ⟨gb111, 0, none⟩ = some (.int .i64 t103) ∧ w'.cell? ⟨gb111, 1, none⟩ = some (.slice Ao11 t106.length co11) ∧ w'.cell? (ad118.add (x8_1).toNat) = some (.slice (some ad124) (rd_LI t104 x8_1).length c118_0) ∧ w'.cell? (ad118.add (x8_1).toNat) = some (.slice (some ad124) (rd_LI t104 x8_1).length c118_0) ∧ w'.cell? ad124 = some (.int .i64 (rd (rd_LI t104 x8_1) 0)) ∧ w'.cell? (ad118.add (x8_1).toNat) = some (.slice (some ad124) (rd_LI t104 x8_1).length c118_0) ∧ w'.cell? (ad118.add (x8_1).toNat) = some (.slice (some ad124) (rd_LI t104 x8_1).length c118_0) ∧ w'.cell? (ad124.add ((ji23)).toNat) = some (.int .i64 (rd (rd_LI t104 x8_1) (ji23)))) (ds := []) (ba 50 0) (by kernel_rfl) rfl (by kernel_rfl) ⟨(blk_cell BK111.out 0).trans rfl, (blk_cell BK111.out 1).trans rfl, hx118_0, hx119_0, hx124_0, hx120_0, hx121_0, hx125_0⟩ (fun hHeld => ?_); refine with_tabW laws_FnWayAll.tab11 laws_FnWayAll.bits11 (fun HT_ HW_ => ?_)
   generalize wr.drew = w39 at HO_7 HO_100001 BK111 HB HL118_0 HL119_0 HL120_0 HL121_0 HR118_0 HR119_0 HR120_0 HR121_0 hx118_0 hx119_0 hx120_0 hx121_0 hx124_0 hx125_0 hHeld ⊢
   refine pu 1 (some 37) (ba 50 2) HT_.out ?_
   refine pu 2 (some 38) (ba 50 6) HT_.out ?_
   refine pu 3 (some 39) (ba 50 14) HT_.out ?_
   refine tu 0 (some 36) (ba 50 15) HT_.out HW_.out hHeld ?_
   refine tu 4 (some 40) (ba 50 31) HT_.out HW_.out hHeld ?_
   refine one_ (i := 5) (N := some 41) (ba 50 63) rfl rfl (one_of HT_.out (by kernel_rfl)) (by decide) (fun K hK => ?_)
   refine goes_ Try.func31 (by kernel_rfl) rfl #[.agg #[.int .i64 t103, .slice Ao11 t106.length co11], .slice (some ad124) (rd_LI t104 x8_1).length c118_0] (by rfl) rfl rfl qm ?_
   with_reducible refine (impl_WayOk.calls k1 t103 _ _ t106 _ _ (rd_LI t104 x8_1) true _ ?side1 ?side2 ?side3 ?side4 A19.out).mono ?_
   (case side1 => exact qc (Kd.R_reads' HO_100001.out).2.2)
   (case side2 => exact (Kd.R_reads' HO_100001.out).2.1)
   (case side3 => repeat (first | exact (by repeat (first | (with_reducible exact HR118_0.out) | (with_reducible refine Kd.C_alloc ?_ _) | (with_reducible refine Kd.C_drewN ?_ _) | (with_reducible refine Kd.C_drew ?_) | exact HR118_0.out)) | (with_reducible refine Kd.C_alloc ?_ _) | (with_reducible refine Kd.C_drewN ?_ _) | (with_reducible refine Kd.C_drew ?_)))
   (case side4 => exact HC118_0.out)
   rintro e w40 ⟨rfl, hb⟩
   have HS2_ := (hb.cell (World.block_lt_of_cell? _ _ (hHeld.2.2.1))).trans (hHeld.2.2.1)
   have HS3_ := (hb.cell (World.block_lt_of_cell? _ _ (hHeld.2.2.2.1))).trans (hHeld.2.2.2.1)
   have HS4_ := (hb.cell (World.block_lt_of_cell? _ _ (hHeld.2.2.2.2.1))).trans (hHeld.2.2.2.2.1)
   have HS5_ := (hb.cell (World.block_lt_of_cell? _ _ (hHeld.2.2.2.2.2.1))).trans (hHeld.2.2.2.2.2.1)
   have HS6_ := (hb.cell (World.block_lt_of_cell? _ _ (hHeld.2.2.2.2.2.2.1))).trans (hHeld.2.2.2.2.2.2.1)
   have HS7_ := (hb.cell (World.block_lt_of_cell? _ _ (hHeld.2.2.2.2.2.2.2))).trans (hHeld.2.2.2.2.2.2.2)
   refine ⟨_, rfl, ?_⟩
   replace HO_7 := q0 (Kd.S_below (qv HO_7.out) hb)
   replace HO_100001 := q0 (Kd.R_below (qr HO_100001.out) hb)
   replace HL118_0 := q0 (Kd.R_below (by (with_reducible repeat (first | apply Kd.R_alloc | apply Kd.R_drewN | apply Kd.R_drew)); exact HL118_0.out) hb)
   replace BK111 := q0 (kb BK111.out hb)
   replace HR118_0 := q0 (Kd.C_below (by repeat (first | (with_reducible exact HR118_0.out) | (with_reducible refine Kd.C_alloc ?_ _) | (with_reducible refine Kd.C_drewN ?_ _) | (with_reducible refine Kd.C_drew ?_) | exact HR118_0.out)) hb)
   replace HB := q0 (below_step (qb HB.out) hb)
   (try clear hb)
   (try clear hb2)
   (try clear hk)
   (try clear hi)
   refine hK.out _ _ ⟨(blk_cell BK111.out 0).trans rfl, (blk_cell BK111.out 1).trans rfl, HS2_, HS3_, HS4_, HS5_, HS6_, HS7_⟩ (fun hHeld => ?_)
   clear hK K
   refine nu 41 ?_
   refine pu 6 (some 42) (ba 50 127) HT_.out ?_
   refine pu 7 (some 43) (ba 50 255) HT_.out ?_
   refine pu 8 (some 44) (ba 50 511) HT_.out ?_
   refine pu 9 (some 45) (ba 50 1023) HT_.out ?_
   refine pu 10 (some 46) (ba 50 2047) HT_.out ?_
   refine pu 14 (some 50) (ba 50 18431) HT_.out ?_
   refine tu 11 (some 47) (ba 50 20479) HT_.out HW_.out hHeld ?_
   refine pu 12 (some 48) (ba 50 24575) HT_.out ?_
   refine tu 13 (some 49) (ba 50 32767) HT_.out HW_.out hHeld ?_
   refine pu 15 (some 51) (ba 50 65535) HT_.out ?_
   refine pu 16 (some 52) (ba 50 131071) HT_.out ?_
   refine pu 17 (some 53) (ba 50 262143) HT_.out ?_
   refine pu 18 (some 54) (ba 50 524287) HT_.out ?_
   refine pu 19 (some 55) (ba 50 1048575) HT_.out ?_
   refine pu 20 (some 56) (ba 50 2097151) HT_.out ?_
   refine pu 22 (some 58) (ba 50 6291455) HT_.out ?_
   refine pu 23 (some 59) (ba 50 14680063) HT_.out ?_
   refine pu 24 (some 60) (ba 50 31457279) HT_.out ?_
   refine pu 30 (some 66) (ba 50 1105199103) HT_.out ?_
   refine tu 21 (some 57) (ba 50 1107296255) HT_.out HW_.out hHeld ?_
   refine tu 25 (some 61) (ba 50 1140850687) HT_.out HW_.out hHeld ?_
   refine pu 26 (some 62) (ba 50 1207959551) HT_.out ?_
   refine pu 27 (some 63) (ba 50 1342177279) HT_.out ?_
   refine pu 28 (some 64) (ba 50 1610612735) HT_.out ?_
   refine tu 29 (some 65) (ba 50 2147483647) HT_.out HW_.out hHeld ?_
   refine pu 31 (some 67) (ba 50 4294967295) HT_.out ?_
   refine pu 32 (some 68) (ba 50 8589934591) HT_.out ?_
   refine pu 33 (some 69) (ba 50 17179869183) HT_.out ?_
   refine pv 34 (some 70) (ba 50 34359738367) HT_.out ?_
   refine pv 35 (some 71) (ba 50 68719476735) HT_.out ?_
   refine pv 36 (some 72) (ba 50 137438953471) HT_.out ?_
   refine pv 37 (some 73) (ba 50 274877906943) HT_.out ?_
   refine pv 38 (some 74) (ba 50 549755813887) HT_.out ?_
   refine pv 39 (some 75) (ba 50 1099511627775) HT_.out ?_
   refine pv 40 (some 76) (ba 50 2199023255551) HT_.out ?_
   refine pv 41 (some 77) (ba 50 4398046511103) HT_.out ?_
   refine pv 42 (some 78) (ba 50 8796093022207) HT_.out ?_
   refine pv 43 (some 79) (ba 50 17592186044415) HT_.out ?_
   refine pv 44 (some 80) (ba 50 35184372088831) HT_.out ?_
   refine pv 45 (some 81) (ba 50 70368744177663) HT_.out ?_
   refine pv 46 (some 82) (ba 50 140737488355327) HT_.out ?_
   refine pv 47 (some 83) (ba 50 281474976710655) HT_.out ?_
   refine pv 48 (some 84) (ba 50 562949953421311) HT_.out ?_
   refine pu 49 (some 85) (ba 50 1125899906842623) HT_.out ?_
   refine done_ (done_of HT_.out (by kernel_rfl)) ?_
   try go_wp2
   go_ret
   exact ⟨by first | rfl | (simp [errW_none, errW_some] <;> rfl) | (simp only [← hji23]; first | rfl | (simp [errW_none, errW_some] <;> rfl)) | (simp [*, errW_none, errW_some] <;> rfl), qb HB.out⟩
 rw [if_pos c26] at H
 have c26b0 : ((rd (rd_LI t104 x8_1) (ji23)) == t108) = true := beq_iff_eq.mpr c26
 have c26b1 : ((rd (rd_LI t104 x8_1) (ji23)) != t108) = false := bne_eq_false_iff_eq.mpr c26
 clear c26
 by_cases c27 : x8_1 > 0
 rotate_left
 · rw [if_neg c27] at H
   have c27b0 : decide (0 < x8_1) = false := decide_eq_false c27
   clear c27
   have H' := Aside0.mk H
   clear H
   try go_wp2
   replace HO_7 := q0 (Kd.S_drew HO_7.out)
   replace HO_100001 := q0 (Kd.R_drew HO_100001.out)
   replace BK111 := q0 (blk_drew BK111.out)
   replace HB := q0 (below_drew1 HB.out)
   have p118 : 0 ≤ (x8_1 : Int) := of_decide_eq_true qa
   have q118 : x8_1 < (t104.length : Int) := of_decide_eq_true qa
   obtain ⟨ad118, A118_0, c118_0, e118, hx118_0, hl118_0, hi118_0⟩ := at_LI (Kd.S_reads' HO_7.out).2.2 x8_1 p118 q118
   cases e118
   obtain ⟨ce118, hce118, hMe118, hcc118⟩ := Kd.S_get HO_7.out [] x8_1 p118 (by first | exact q118 | exact of_decide_eq_true qa | (have e_ := (Kd.S_reads' HO_7.out).1; omega))
   obtain ⟨ve118_0, rfl, ge118_0⟩ := hMe118
   have hv118_0 := hcc118 0 _ rfl
   rw [Nat.add_zero, show ((Kd.slice 3 (Kd.int .i64))).sz = 1 from rfl, Nat.mul_one] at hv118_0
   replace hv118_0 := Option.some.inj (hv118_0.symm.trans hx118_0)
   rw [hv118_0] at ge118_0
   have HL118_0 := q0 (show Kd.R (Kd.int .i64) 3 _ _ _ _ (rd_LI t104 x8_1) from ge118_0)
   clear hv118_0 ge118_0
   clear hcc118 hce118
   have HR118_0 := Aside0.mk hi118_0
   have HC118_0 := Aside0.mk hl118_0
   clear hi118_0 hl118_0
   replace p118 := eq_true p118
   replace q118 := eq_true q118
   have p119 : 0 ≤ (x8_1 : Int) := of_decide_eq_true qa
   have q119 : x8_1 < (t104.length : Int) := of_decide_eq_true qa
   obtain ⟨ad119, A119_0, c119_0, e119, hx119_0, hl119_0, hi119_0⟩ := at_LI (Kd.S_reads' HO_7.out).2.2 x8_1 p119 q119
   obtain rfl : ad118 = ad119 := (by injection e119)
   have ee_ := Option.some.inj (hx118_0.symm.trans hx119_0)
   injection ee_ with ea_ en_ ec_
   subst ea_
   subst ec_
   clear en_
   obtain ⟨ce119, hce119, hMe119, hcc119⟩ := Kd.S_get HO_7.out [] x8_1 p119 (by first | exact q119 | exact of_decide_eq_true qa | (have e_ := (Kd.S_reads' HO_7.out).1; omega))
   obtain ⟨ve119_0, rfl, ge119_0⟩ := hMe119
   have hv119_0 := hcc119 0 _ rfl
   rw [Nat.add_zero, show ((Kd.slice 3 (Kd.int .i64))).sz = 1 from rfl, Nat.mul_one] at hv119_0
   replace hv119_0 := Option.some.inj (hv119_0.symm.trans hx119_0)
   rw [hv119_0] at ge119_0
   have HL119_0 := q0 (show Kd.R (Kd.int .i64) 3 _ _ _ _ (rd_LI t104 x8_1) from ge119_0)
   clear hv119_0 ge119_0
   clear hcc119 hce119
   have HR119_0 := Aside0.mk hi119_0
   have HC119_0 := Aside0.mk hl119_0
   clear hi119_0 hl119_0
   replace p119 := eq_true p119
   replace q119 := eq_true q119
   have p120 : 0 ≤ (x8_1 : Int) := of_decide_eq_true qa
   have q120 : x8_1 < (t104.length : Int) := of_decide_eq_true qa
   obtain ⟨ad120, A120_0, c120_0, e120, hx120_0, hl120_0, hi120_0⟩ := at_LI (Kd.S_reads' HO_7.out).2.2 x8_1 p120 q120
   obtain rfl : ad118 = ad120 := (by injection e120)
   have ee_ := Option.some.inj (hx118_0.symm.trans hx120_0)
   injection ee_ with ea_ en_ ec_
   subst ea_
   subst ec_
   clear en_
   obtain ⟨ce120, hce120, hMe120, hcc120⟩ := Kd.S_get HO_7.out [] x8_1 p120 (by first | exact q120 | exact of_decide_eq_true qa | (have e_ := (Kd.S_reads' HO_7.out).1; omega))
   obtain ⟨ve120_0, rfl, ge120_0⟩ := hMe120
   have hv120_0 := hcc120 0 _ rfl
   rw [Nat.add_zero, show ((Kd.slice 3 (Kd.int .i64))).sz = 1 from rfl, Nat.mul_one] at hv120_0
   replace hv120_0 := Option.some.inj (hv120_0.symm.trans hx120_0)
   rw [hv120_0] at ge120_0
   have HL120_0 := q0 (show Kd.R (Kd.int .i64) 3 _ _ _ _ (rd_LI t104 x8_1) from ge120_0)
   clear hv120_0 ge120_0
   clear hcc120 hce120
   have HR120_0 := Aside0.mk hi120_0
   have HC120_0 := Aside0.mk hl120_0
   clear hi120_0 hl120_0
   replace p120 := eq_true p120
   replace q120 := eq_true q120
   have p121 : 0 ≤ (x8_1 : Int) := of_decide_eq_true qa
   have q121 : x8_1 < (t104.length : Int) := of_decide_eq_true qa
   obtain ⟨ad121, A121_0, c121_0, e121, hx121_0, hl121_0, hi121_0⟩ := at_LI (Kd.S_reads' HO_7.out).2.2 x8_1 p121 q121
   obtain rfl : ad118 = ad121 := (by injection e121)
   have ee_ := Option.some.inj (hx118_0.symm.trans hx121_0)
   injection ee_ with ea_ en_ ec_
   subst ea_
   subst ec_
   clear en_
   obtain ⟨ce121, hce121, hMe121, hcc121⟩ := Kd.S_get HO_7.out [] x8_1 p121 (by first | exact q121 | exact of_decide_eq_true qa | (have e_ := (Kd.S_reads' HO_7.out).1; omega))
   obtain ⟨ve121_0, rfl, ge121_0⟩ := hMe121
   have hv121_0 := hcc121 0 _ rfl
   rw [Nat.add_zero, show ((Kd.slice 3 (Kd.int .i64))).sz = 1 from rfl, Nat.mul_one] at hv121_0
   replace hv121_0 := Option.some.inj (hv121_0.symm.trans hx121_0)
   rw [hv121_0] at ge121_0
   have HL121_0 := q0 (show Kd.R (Kd.int .i64) 3 _ _ _ _ (rd_LI t104 x8_1) from ge121_0)
   clear hv121_0 ge121_0
   clear hcc121 hce121
   have HR121_0 := Aside0.mk hi121_0
   have HC121_0 := Aside0.mk hl121_0
   clear hi121_0 hl121_0
   replace p121 := eq_true p121
   replace q121 := eq_true q121
   have p124 : 0 ≤ (0 : Int) := (by omega)
   have q124 : 0 < ((rd_LI t104 x8_1).length : Int) := of_decide_eq_true qa
   obtain ⟨ad124, e124, hx124_0⟩ := Kd.at_int (by repeat (first | (with_reducible exact HR119_0.out) | (with_reducible refine Kd.C_alloc ?_ _) | (with_reducible refine Kd.C_drewN ?_ _) | (with_reducible refine Kd.C_drew ?_) | exact HR119_0.out)) 0 p124 q124
   cases e124
   have qi124 : (0 < (rd_LI t104 x8_1).length) = True := eq_true (by omega)
   (try rw [show ((0 : Int)).toNat = 0 from rfl] at hx124_0)
   (try rw [Addr.add_zero'] at hx124_0)
   replace p124 := eq_true p124
   replace q124 := eq_true q124
   have p125 : 0 ≤ ((ji23) : Int) := of_decide_eq_true qa
   have q125 : (ji23) < ((rd_LI t104 x8_1).length : Int) := of_decide_eq_true qa
   obtain ⟨ad125, e125, hx125_0⟩ := Kd.at_int (by repeat (first | (with_reducible exact HR120_0.out) | (with_reducible refine Kd.C_alloc ?_ _) | (with_reducible refine Kd.C_drewN ?_ _) | (with_reducible refine Kd.C_drew ?_) | exact HR120_0.out)) (ji23) p125 q125
   obtain rfl : ad124 = ad125 := (by injection e125)
   replace p125 := eq_true p125
   replace q125 := eq_true q125
   refine start_ (n := 50) (S := fun w' => w'.cell? ⟨gb111, 0, none⟩ = some (.int .i64 t103) ∧ w'.cell? ⟨gb111, 1, none⟩ = some (.slice Ao11 t106.length co11) ∧ w'.cell? (ad118.add (x8_1).toNat) = some (.slice (some ad124) (rd_LI t104 x8_1).length c118_0) ∧ w'.cell? (ad118.add (x8_1).toNat) = some (.slice (some ad124) (rd_LI t104 x8_1).length c118_0) ∧ w'.cell? ad124 = some (.int .i64 (rd (rd_LI t104 x8_1) 0)) ∧ w'.cell? (ad118.add (x8_1).toNat) = some (.slice (some ad124) (rd_LI t104 x8_1).length c118_0) ∧ w'.cell? (ad118.add (x8_1).toNat) = some (.slice (some ad124) (rd_LI t104 x8_1).length c118_0) ∧ w'.cell? (ad124.add ((ji23)).toNat) = some (.int .i64 (rd (rd_LI t104 x8_1) (ji23)))) (ds := []) (ba 50 0) (by kernel_rfl) rfl (by kernel_rfl) ⟨(blk_cell BK111.out 0).trans rfl, (blk_cell BK111.out 1).trans rfl, hx118_0, hx119_0, hx124_0, hx120_0, hx121_0, hx125_0⟩ (fun hHeld => ?_); refine with_tabW laws_FnWayAll.tab11 laws_FnWayAll.bits11 (fun HT_ HW_ => ?_)
   generalize wr.drew = w37 at HO_7 HO_100001 BK111 HB HL118_0 HL119_0 HL120_0 HL121_0 HR118_0 HR119_0 HR120_0 HR121_0 hx118_0 hx119_0 hx120_0 hx121_0 hx124_0 hx125_0 hHeld ⊢
   refine pu 1 (some 37) (ba 50 2) HT_.out ?_
   refine pu 2 (some 38) (ba 50 6) HT_.out ?_
   refine pu 3 (some 39) (ba 50 14) HT_.out ?_
   refine tu 0 (some 36) (ba 50 15) HT_.out HW_.out hHeld ?_
   refine tu 4 (some 40) (ba 50 31) HT_.out HW_.out hHeld ?_
   refine one_ (i := 5) (N := some 41) (ba 50 63) rfl rfl (one_of HT_.out (by kernel_rfl)) (by decide) (fun K hK => ?_)
   refine goes_ Try.func31 (by kernel_rfl) rfl #[.agg #[.int .i64 t103, .slice Ao11 t106.length co11], .slice (some ad124) (rd_LI t104 x8_1).length c118_0] (by rfl) rfl rfl qm ?_
   with_reducible refine (impl_WayOk.calls k1 t103 _ _ t106 _ _ (rd_LI t104 x8_1) true _ ?side1 ?side2 ?side3 ?side4 A19.out).mono ?_
   (case side1 => exact qc (Kd.R_reads' HO_100001.out).2.2)
   (case side2 => exact (Kd.R_reads' HO_100001.out).2.1)
   (case side3 => repeat (first | exact (by repeat (first | (with_reducible exact HR118_0.out) | (with_reducible refine Kd.C_alloc ?_ _) | (with_reducible refine Kd.C_drewN ?_ _) | (with_reducible refine Kd.C_drew ?_) | exact HR118_0.out)) | (with_reducible refine Kd.C_alloc ?_ _) | (with_reducible refine Kd.C_drewN ?_ _) | (with_reducible refine Kd.C_drew ?_)))
   (case side4 => exact HC118_0.out)
   rintro e w38 ⟨rfl, hb⟩
   have HS2_ := (hb.cell (World.block_lt_of_cell? _ _ (hHeld.2.2.1))).trans (hHeld.2.2.1)
   have HS3_ := (hb.cell (World.block_lt_of_cell? _ _ (hHeld.2.2.2.1))).trans (hHeld.2.2.2.1)
   have HS4_ := (hb.cell (World.block_lt_of_cell? _ _ (hHeld.2.2.2.2.1))).trans (hHeld.2.2.2.2.1)
   have HS5_ := (hb.cell (World.block_lt_of_cell? _ _ (hHeld.2.2.2.2.2.1))).trans (hHeld.2.2.2.2.2.1)
   have HS6_ := (hb.cell (World.block_lt_of_cell? _ _ (hHeld.2.2.2.2.2.2.1))).trans (hHeld.2.2.2.2.2.2.1)
   have HS7_ := (hb.cell (World.block_lt_of_cell? _ _ (hHeld.2.2.2.2.2.2.2))).trans (hHeld.2.2.2.2.2.2.2)
   refine ⟨_, rfl, ?_⟩
   replace HO_7 := q0 (Kd.S_below (qv HO_7.out) hb)
   replace HO_100001 := q0 (Kd.R_below (qr HO_100001.out) hb)
   replace HL118_0 := q0 (Kd.R_below (by (with_reducible repeat (first | apply Kd.R_alloc | apply Kd.R_drewN | apply Kd.R_drew)); exact HL118_0.out) hb)
   replace BK111 := q0 (kb BK111.out hb)
   replace HR118_0 := q0 (Kd.C_below (by repeat (first | (with_reducible exact HR118_0.out) | (with_reducible refine Kd.C_alloc ?_ _) | (with_reducible refine Kd.C_drewN ?_ _) | (with_reducible refine Kd.C_drew ?_) | exact HR118_0.out)) hb)
   replace HB := q0 (below_step (qb HB.out) hb)
   (try clear hb)
   (try clear hb2)
   (try clear hk)
   (try clear hi)
   refine hK.out _ _ ⟨(blk_cell BK111.out 0).trans rfl, (blk_cell BK111.out 1).trans rfl, HS2_, HS3_, HS4_, HS5_, HS6_, HS7_⟩ (fun hHeld => ?_)
   clear hK K
   refine nu 41 ?_
   refine pu 6 (some 42) (ba 50 127) HT_.out ?_
   refine pu 7 (some 43) (ba 50 255) HT_.out ?_
   refine pu 8 (some 44) (ba 50 511) HT_.out ?_
   refine pu 9 (some 45) (ba 50 1023) HT_.out ?_
   refine pu 10 (some 46) (ba 50 2047) HT_.out ?_
   refine pu 14 (some 50) (ba 50 18431) HT_.out ?_
   refine tu 11 (some 47) (ba 50 20479) HT_.out HW_.out hHeld ?_
   refine pu 12 (some 48) (ba 50 24575) HT_.out ?_
   refine tu 13 (some 49) (ba 50 32767) HT_.out HW_.out hHeld ?_
   refine pu 15 (some 51) (ba 50 65535) HT_.out ?_
   refine pu 16 (some 52) (ba 50 131071) HT_.out ?_
   refine pu 17 (some 53) (ba 50 262143) HT_.out ?_
   refine pu 18 (some 54) (ba 50 524287) HT_.out ?_
   refine pu 19 (some 55) (ba 50 1048575) HT_.out ?_
   refine pu 20 (some 56) (ba 50 2097151) HT_.out ?_
   refine pu 22 (some 58) (ba 50 6291455) HT_.out ?_
   refine pu 23 (some 59) (ba 50 14680063) HT_.out ?_
   refine pu 24 (some 60) (ba 50 31457279) HT_.out ?_
   refine pu 30 (some 66) (ba 50 1105199103) HT_.out ?_
   refine tu 21 (some 57) (ba 50 1107296255) HT_.out HW_.out hHeld ?_
   refine tu 25 (some 61) (ba 50 1140850687) HT_.out HW_.out hHeld ?_
   refine pu 26 (some 62) (ba 50 1207959551) HT_.out ?_
   refine pu 27 (some 63) (ba 50 1342177279) HT_.out ?_
   refine pu 28 (some 64) (ba 50 1610612735) HT_.out ?_
   refine tu 29 (some 65) (ba 50 2147483647) HT_.out HW_.out hHeld ?_
   refine pu 31 (some 67) (ba 50 4294967295) HT_.out ?_
   refine pu 32 (some 68) (ba 50 8589934591) HT_.out ?_
   refine pu 33 (some 69) (ba 50 17179869183) HT_.out ?_
   refine pu 34 (some 70) (ba 50 34359738367) HT_.out ?_
   refine pu 35 (some 71) (ba 50 68719476735) HT_.out ?_
   refine pu 36 (some 72) (ba 50 137438953471) HT_.out ?_
   refine pv 37 (some 73) (ba 50 274877906943) HT_.out ?_
   refine pv 38 (some 74) (ba 50 549755813887) HT_.out ?_
   refine pv 39 (some 75) (ba 50 1099511627775) HT_.out ?_
   refine pv 40 (some 76) (ba 50 2199023255551) HT_.out ?_
   refine pv 41 (some 77) (ba 50 4398046511103) HT_.out ?_
   refine pv 42 (some 78) (ba 50 8796093022207) HT_.out ?_
   refine pv 43 (some 79) (ba 50 17592186044415) HT_.out ?_
   refine pv 44 (some 80) (ba 50 35184372088831) HT_.out ?_
   refine pv 45 (some 81) (ba 50 70368744177663) HT_.out ?_
   refine pv 46 (some 82) (ba 50 140737488355327) HT_.out ?_
   refine pv 47 (some 83) (ba 50 281474976710655) HT_.out ?_
   refine pu 48 (some 84) (ba 50 562949953421311) HT_.out ?_
   refine pu 49 (some 85) (ba 50 1125899906842623) HT_.out ?_
   refine done_ (done_of HT_.out (by kernel_rfl)) ?_
   try go_wp2
   go_roundg k1
   case measure => have := HK1.out; omega
   case rel => exact ⟨(wrap64 (x8_1 + 1)), qs, H', ⟨by have := HK1.out; omega⟩, ⟨qv HO_7.out⟩, ⟨qr HO_100001.out⟩, ⟨qk BK111.out⟩, ⟨qb HB.out⟩⟩
 rw [if_pos c27] at H
 have c27b0 : decide (0 < x8_1) = true := decide_eq_true c27
 clear c27
 obtain ⟨ji28, hji28⟩ : ∃ j_ : Int, (wrap64 (x8_1 - 1)) = j_ := ⟨_, rfl⟩
 replace H : (if 0 ≤ (ji28) then (if (ji28) < (t104.length : Int) then ((laws_loAhead.f k1 (rd_LI t104 (ji28)) (rd_LI t104 x8_1)).bind fun t102 => (if t102 = true then (laws_FnWayAll.l0 k1 t107 t108 t104 (wrap64 (x8_1 + 1)) t103 t106) else (some false))) else (none)) else (none)) = some r := by first | (rw [hji28] at H; exact H) | (simp only [hji28] at H ⊢; exact H)
 (try rw [hji28] at A19)
 have hji28w : (IntKind.i64.wrap (x8_1 - 1)) = ji28 := (i64_w _).trans hji28
 by_cases c29 : 0 ≤ (ji28)
 rotate_left
 · rw [if_neg c29] at H
   exact absurd H (by simp)
 rw [if_pos c29] at H
 have c29b0 : decide (0 ≤ (ji28)) = true := decide_eq_true c29
 clear c29
 by_cases c30 : (ji28) < (t104.length : Int)
 rotate_left
 · rw [if_neg c30] at H
   exact absurd H (by simp)
 rw [if_pos c30] at H
 have c30b0 : decide ((ji28) < (t104.length : Int)) = true := decide_eq_true c30
 clear c30
 replace H := Option.bind_eq_some_iff.mp H
 obtain ⟨t102, A117, H⟩ := H
 have A31 := Aside0.mk A117
 clear A117
 by_cases c32 : t102 = true
 rotate_left
 · replace c32 := Bool.eq_false_iff.mpr c32
   subst c32
   rw [if_neg nf] at H
   obtain rfl := Option.some.inj H
   try go_wp2
   replace HO_7 := q0 (Kd.S_drew HO_7.out)
   replace HO_100001 := q0 (Kd.R_drew HO_100001.out)
   replace BK111 := q0 (blk_drew BK111.out)
   replace HB := q0 (below_drew1 HB.out)
   have p118 : 0 ≤ (x8_1 : Int) := of_decide_eq_true qa
   have q118 : x8_1 < (t104.length : Int) := of_decide_eq_true qa
   obtain ⟨ad118, A118_0, c118_0, e118, hx118_0, hl118_0, hi118_0⟩ := at_LI (Kd.S_reads' HO_7.out).2.2 x8_1 p118 q118
   cases e118
   obtain ⟨ce118, hce118, hMe118, hcc118⟩ := Kd.S_get HO_7.out [] x8_1 p118 (by first | exact q118 | exact of_decide_eq_true qa | (have e_ := (Kd.S_reads' HO_7.out).1; omega))
   obtain ⟨ve118_0, rfl, ge118_0⟩ := hMe118
   have hv118_0 := hcc118 0 _ rfl
   rw [Nat.add_zero, show ((Kd.slice 3 (Kd.int .i64))).sz = 1 from rfl, Nat.mul_one] at hv118_0
   replace hv118_0 := Option.some.inj (hv118_0.symm.trans hx118_0)
   rw [hv118_0] at ge118_0
   have HL118_0 := q0 (show Kd.R (Kd.int .i64) 3 _ _ _ _ (rd_LI t104 x8_1) from ge118_0)
   clear hv118_0 ge118_0
   clear hcc118 hce118
   have HR118_0 := Aside0.mk hi118_0
   have HC118_0 := Aside0.mk hl118_0
   clear hi118_0 hl118_0
   replace p118 := eq_true p118
   replace q118 := eq_true q118
   have p119 : 0 ≤ (x8_1 : Int) := of_decide_eq_true qa
   have q119 : x8_1 < (t104.length : Int) := of_decide_eq_true qa
   obtain ⟨ad119, A119_0, c119_0, e119, hx119_0, hl119_0, hi119_0⟩ := at_LI (Kd.S_reads' HO_7.out).2.2 x8_1 p119 q119
   obtain rfl : ad118 = ad119 := (by injection e119)
   have ee_ := Option.some.inj (hx118_0.symm.trans hx119_0)
   injection ee_ with ea_ en_ ec_
   subst ea_
   subst ec_
   clear en_
   obtain ⟨ce119, hce119, hMe119, hcc119⟩ := Kd.S_get HO_7.out [] x8_1 p119 (by first | exact q119 | exact of_decide_eq_true qa | (have e_ := (Kd.S_reads' HO_7.out).1; omega))
   obtain ⟨ve119_0, rfl, ge119_0⟩ := hMe119
   have hv119_0 := hcc119 0 _ rfl
   rw [Nat.add_zero, show ((Kd.slice 3 (Kd.int .i64))).sz = 1 from rfl, Nat.mul_one] at hv119_0
   replace hv119_0 := Option.some.inj (hv119_0.symm.trans hx119_0)
   rw [hv119_0] at ge119_0
   have HL119_0 := q0 (show Kd.R (Kd.int .i64) 3 _ _ _ _ (rd_LI t104 x8_1) from ge119_0)
   clear hv119_0 ge119_0
   clear hcc119 hce119
   have HR119_0 := Aside0.mk hi119_0
   have HC119_0 := Aside0.mk hl119_0
   clear hi119_0 hl119_0
   replace p119 := eq_true p119
   replace q119 := eq_true q119
   have p120 : 0 ≤ (x8_1 : Int) := of_decide_eq_true qa
   have q120 : x8_1 < (t104.length : Int) := of_decide_eq_true qa
   obtain ⟨ad120, A120_0, c120_0, e120, hx120_0, hl120_0, hi120_0⟩ := at_LI (Kd.S_reads' HO_7.out).2.2 x8_1 p120 q120
   obtain rfl : ad118 = ad120 := (by injection e120)
   have ee_ := Option.some.inj (hx118_0.symm.trans hx120_0)
   injection ee_ with ea_ en_ ec_
   subst ea_
   subst ec_
   clear en_
   obtain ⟨ce120, hce120, hMe120, hcc120⟩ := Kd.S_get HO_7.out [] x8_1 p120 (by first | exact q120 | exact of_decide_eq_true qa | (have e_ := (Kd.S_reads' HO_7.out).1; omega))
   obtain ⟨ve120_0, rfl, ge120_0⟩ := hMe120
   have hv120_0 := hcc120 0 _ rfl
   rw [Nat.add_zero, show ((Kd.slice 3 (Kd.int .i64))).sz = 1 from rfl, Nat.mul_one] at hv120_0
   replace hv120_0 := Option.some.inj (hv120_0.symm.trans hx120_0)
   rw [hv120_0] at ge120_0
   have HL120_0 := q0 (show Kd.R (Kd.int .i64) 3 _ _ _ _ (rd_LI t104 x8_1) from ge120_0)
   clear hv120_0 ge120_0
   clear hcc120 hce120
   have HR120_0 := Aside0.mk hi120_0
   have HC120_0 := Aside0.mk hl120_0
   clear hi120_0 hl120_0
   replace p120 := eq_true p120
   replace q120 := eq_true q120
   have p121 : 0 ≤ (x8_1 : Int) := of_decide_eq_true qa
   have q121 : x8_1 < (t104.length : Int) := of_decide_eq_true qa
   obtain ⟨ad121, A121_0, c121_0, e121, hx121_0, hl121_0, hi121_0⟩ := at_LI (Kd.S_reads' HO_7.out).2.2 x8_1 p121 q121
   obtain rfl : ad118 = ad121 := (by injection e121)
   have ee_ := Option.some.inj (hx118_0.symm.trans hx121_0)
   injection ee_ with ea_ en_ ec_
   subst ea_
   subst ec_
   clear en_
   obtain ⟨ce121, hce121, hMe121, hcc121⟩ := Kd.S_get HO_7.out [] x8_1 p121 (by first | exact q121 | exact of_decide_eq_true qa | (have e_ := (Kd.S_reads' HO_7.out).1; omega))
   obtain ⟨ve121_0, rfl, ge121_0⟩ := hMe121
   have hv121_0 := hcc121 0 _ rfl
   rw [Nat.add_zero, show ((Kd.slice 3 (Kd.int .i64))).sz = 1 from rfl, Nat.mul_one] at hv121_0
   replace hv121_0 := Option.some.inj (hv121_0.symm.trans hx121_0)
   rw [hv121_0] at ge121_0
   have HL121_0 := q0 (show Kd.R (Kd.int .i64) 3 _ _ _ _ (rd_LI t104 x8_1) from ge121_0)
   clear hv121_0 ge121_0
   clear hcc121 hce121
   have HR121_0 := Aside0.mk hi121_0
   have HC121_0 := Aside0.mk hl121_0
   clear hi121_0 hl121_0
   replace p121 := eq_true p121
   replace q121 := eq_true q121
   have p122 : 0 ≤ ((ji28) : Int) := of_decide_eq_true qa
   have q122 : (ji28) < (t104.length : Int) := of_decide_eq_true qa
   obtain ⟨ad122, A122_0, c122_0, e122, hx122_0, hl122_0, hi122_0⟩ := at_LI (Kd.S_reads' HO_7.out).2.2 (ji28) p122 q122
   obtain rfl : ad118 = ad122 := (by injection e122)
   obtain ⟨ce122, hce122, hMe122, hcc122⟩ := Kd.S_get HO_7.out [] (ji28) p122 (by first | exact q122 | exact of_decide_eq_true qa | (have e_ := (Kd.S_reads' HO_7.out).1; omega))
   obtain ⟨ve122_0, rfl, ge122_0⟩ := hMe122
   have hv122_0 := hcc122 0 _ rfl
   rw [Nat.add_zero, show ((Kd.slice 3 (Kd.int .i64))).sz = 1 from rfl, Nat.mul_one] at hv122_0
   replace hv122_0 := Option.some.inj (hv122_0.symm.trans hx122_0)
   rw [hv122_0] at ge122_0
   have HL122_0 := q0 (show Kd.R (Kd.int .i64) 3 _ _ _ _ (rd_LI t104 (ji28)) from ge122_0)
   clear hv122_0 ge122_0
   clear hcc122 hce122
   have HR122_0 := Aside0.mk hi122_0
   have HC122_0 := Aside0.mk hl122_0
   clear hi122_0 hl122_0
   replace p122 := eq_true p122
   replace q122 := eq_true q122
   have p123 : 0 ≤ (x8_1 : Int) := of_decide_eq_true qa
   have q123 : x8_1 < (t104.length : Int) := of_decide_eq_true qa
   obtain ⟨ad123, A123_0, c123_0, e123, hx123_0, hl123_0, hi123_0⟩ := at_LI (Kd.S_reads' HO_7.out).2.2 x8_1 p123 q123
   obtain rfl : ad118 = ad123 := (by injection e123)
   have ee_ := Option.some.inj (hx118_0.symm.trans hx123_0)
   injection ee_ with ea_ en_ ec_
   subst ea_
   subst ec_
   clear en_
   obtain ⟨ce123, hce123, hMe123, hcc123⟩ := Kd.S_get HO_7.out [] x8_1 p123 (by first | exact q123 | exact of_decide_eq_true qa | (have e_ := (Kd.S_reads' HO_7.out).1; omega))
   obtain ⟨ve123_0, rfl, ge123_0⟩ := hMe123
   have hv123_0 := hcc123 0 _ rfl
   rw [Nat.add_zero, show ((Kd.slice 3 (Kd.int .i64))).sz = 1 from rfl, Nat.mul_one] at hv123_0
   replace hv123_0 := Option.some.inj (hv123_0.symm.trans hx123_0)
   rw [hv123_0] at ge123_0
   have HL123_0 := q0 (show Kd.R (Kd.int .i64) 3 _ _ _ _ (rd_LI t104 x8_1) from ge123_0)
   clear hv123_0 ge123_0
   clear hcc123 hce123
   have HR123_0 := Aside0.mk hi123_0
   have HC123_0 := Aside0.mk hl123_0
   clear hi123_0 hl123_0
   replace p123 := eq_true p123
   replace q123 := eq_true q123
   have p124 : 0 ≤ (0 : Int) := (by omega)
   have q124 : 0 < ((rd_LI t104 x8_1).length : Int) := of_decide_eq_true qa
   obtain ⟨ad124, e124, hx124_0⟩ := Kd.at_int (by repeat (first | (with_reducible exact HR119_0.out) | (with_reducible refine Kd.C_alloc ?_ _) | (with_reducible refine Kd.C_drewN ?_ _) | (with_reducible refine Kd.C_drew ?_) | exact HR119_0.out)) 0 p124 q124
   cases e124
   have qi124 : (0 < (rd_LI t104 x8_1).length) = True := eq_true (by omega)
   (try rw [show ((0 : Int)).toNat = 0 from rfl] at hx124_0)
   (try rw [Addr.add_zero'] at hx124_0)
   replace p124 := eq_true p124
   replace q124 := eq_true q124
   have p125 : 0 ≤ ((ji23) : Int) := of_decide_eq_true qa
   have q125 : (ji23) < ((rd_LI t104 x8_1).length : Int) := of_decide_eq_true qa
   obtain ⟨ad125, e125, hx125_0⟩ := Kd.at_int (by repeat (first | (with_reducible exact HR120_0.out) | (with_reducible refine Kd.C_alloc ?_ _) | (with_reducible refine Kd.C_drewN ?_ _) | (with_reducible refine Kd.C_drew ?_) | exact HR120_0.out)) (ji23) p125 q125
   obtain rfl : ad124 = ad125 := (by injection e125)
   replace p125 := eq_true p125
   replace q125 := eq_true q125
   refine start_ (n := 50) (S := fun w' => w'.cell? ⟨gb111, 0, none⟩ = some (.int .i64 t103) ∧ w'.cell? ⟨gb111, 1, none⟩ = some (.slice Ao11 t106.length co11) ∧ w'.cell? (ad118.add (x8_1).toNat) = some (.slice (some ad124) (rd_LI t104 x8_1).length c118_0) ∧ w'.cell? (ad118.add (x8_1).toNat) = some (.slice (some ad124) (rd_LI t104 x8_1).length c118_0) ∧ w'.cell? ad124 = some (.int .i64 (rd (rd_LI t104 x8_1) 0)) ∧ w'.cell? (ad118.add (x8_1).toNat) = some (.slice (some ad124) (rd_LI t104 x8_1).length c118_0) ∧ w'.cell? (ad118.add (x8_1).toNat) = some (.slice (some ad124) (rd_LI t104 x8_1).length c118_0) ∧ w'.cell? (ad124.add ((ji23)).toNat) = some (.int .i64 (rd (rd_LI t104 x8_1) (ji23))) ∧ w'.cell? (ad118.add ((ji28)).toNat) = some (.slice A122_0 (rd_LI t104 (ji28)).length c122_0) ∧ w'.cell? (ad118.add (x8_1).toNat) = some (.slice (some ad124) (rd_LI t104 x8_1).length c118_0)) (ds := []) (ba 50 0) (by kernel_rfl) rfl (by kernel_rfl) ⟨(blk_cell BK111.out 0).trans rfl, (blk_cell BK111.out 1).trans rfl, hx118_0, hx119_0, hx124_0, hx120_0, hx121_0, hx125_0, hx122_0, hx123_0⟩ (fun hHeld => ?_); refine with_tabW laws_FnWayAll.tab11 laws_FnWayAll.bits11 (fun HT_ HW_ => ?_)
   generalize wr.drew = w35 at HO_7 HO_100001 BK111 HB HL118_0 HL119_0 HL120_0 HL121_0 HL122_0 HL123_0 HR118_0 HR119_0 HR120_0 HR121_0 HR122_0 HR123_0 hx118_0 hx119_0 hx120_0 hx121_0 hx122_0 hx123_0 hx124_0 hx125_0 hHeld ⊢
   refine pu 1 (some 37) (ba 50 2) HT_.out ?_
   refine pu 2 (some 38) (ba 50 6) HT_.out ?_
   refine pu 3 (some 39) (ba 50 14) HT_.out ?_
   refine tu 0 (some 36) (ba 50 15) HT_.out HW_.out hHeld ?_
   refine tu 4 (some 40) (ba 50 31) HT_.out HW_.out hHeld ?_
   refine one_ (i := 5) (N := some 41) (ba 50 63) rfl rfl (one_of HT_.out (by kernel_rfl)) (by decide) (fun K hK => ?_)
   refine goes_ Try.func31 (by kernel_rfl) rfl #[.agg #[.int .i64 t103, .slice Ao11 t106.length co11], .slice (some ad124) (rd_LI t104 x8_1).length c118_0] (by rfl) rfl rfl qm ?_
   with_reducible refine (impl_WayOk.calls k1 t103 _ _ t106 _ _ (rd_LI t104 x8_1) true _ ?side1 ?side2 ?side3 ?side4 A19.out).mono ?_
   (case side1 => exact qc (Kd.R_reads' HO_100001.out).2.2)
   (case side2 => exact (Kd.R_reads' HO_100001.out).2.1)
   (case side3 => repeat (first | exact (by repeat (first | (with_reducible exact HR118_0.out) | (with_reducible refine Kd.C_alloc ?_ _) | (with_reducible refine Kd.C_drewN ?_ _) | (with_reducible refine Kd.C_drew ?_) | exact HR118_0.out)) | (with_reducible refine Kd.C_alloc ?_ _) | (with_reducible refine Kd.C_drewN ?_ _) | (with_reducible refine Kd.C_drew ?_)))
   (case side4 => exact HC118_0.out)
   rintro e w36 ⟨rfl, hb⟩
   have HS2_ := (hb.cell (World.block_lt_of_cell? _ _ (hHeld.2.2.1))).trans (hHeld.2.2.1)
   have HS3_ := (hb.cell (World.block_lt_of_cell? _ _ (hHeld.2.2.2.1))).trans (hHeld.2.2.2.1)
   have HS4_ := (hb.cell (World.block_lt_of_cell? _ _ (hHeld.2.2.2.2.1))).trans (hHeld.2.2.2.2.1)
   have HS5_ := (hb.cell (World.block_lt_of_cell? _ _ (hHeld.2.2.2.2.2.1))).trans (hHeld.2.2.2.2.2.1)
   have HS6_ := (hb.cell (World.block_lt_of_cell? _ _ (hHeld.2.2.2.2.2.2.1))).trans (hHeld.2.2.2.2.2.2.1)
   have HS7_ := (hb.cell (World.block_lt_of_cell? _ _ (hHeld.2.2.2.2.2.2.2.1))).trans (hHeld.2.2.2.2.2.2.2.1)
   have HS8_ := (hb.cell (World.block_lt_of_cell? _ _ (hHeld.2.2.2.2.2.2.2.2.1))).trans (hHeld.2.2.2.2.2.2.2.2.1)
   have HS9_ := (hb.cell (World.block_lt_of_cell? _ _ (hHeld.2.2.2.2.2.2.2.2.2))).trans (hHeld.2.2.2.2.2.2.2.2.2)
   refine ⟨_, rfl, ?_⟩
   replace HO_7 := q0 (Kd.S_below (qv HO_7.out) hb)
   replace HO_100001 := q0 (Kd.R_below (qr HO_100001.out) hb)
   replace HL118_0 := q0 (Kd.R_below (by (with_reducible repeat (first | apply Kd.R_alloc | apply Kd.R_drewN | apply Kd.R_drew)); exact HL118_0.out) hb)
   replace BK111 := q0 (kb BK111.out hb)
   replace HR118_0 := q0 (Kd.C_below (by repeat (first | (with_reducible exact HR118_0.out) | (with_reducible refine Kd.C_alloc ?_ _) | (with_reducible refine Kd.C_drewN ?_ _) | (with_reducible refine Kd.C_drew ?_) | exact HR118_0.out)) hb)
   replace HR122_0 := q0 (Kd.C_below (by repeat (first | (with_reducible exact HR122_0.out) | (with_reducible refine Kd.C_alloc ?_ _) | (with_reducible refine Kd.C_drewN ?_ _) | (with_reducible refine Kd.C_drew ?_) | exact HR122_0.out)) hb)
   replace HR123_0 := q0 (Kd.C_below (by repeat (first | (with_reducible exact HR123_0.out) | (with_reducible refine Kd.C_alloc ?_ _) | (with_reducible refine Kd.C_drewN ?_ _) | (with_reducible refine Kd.C_drew ?_) | exact HR123_0.out)) hb)
   replace HB := q0 (below_step (qb HB.out) hb)
   (try clear hb)
   (try clear hb2)
   (try clear hk)
   (try clear hi)
   refine hK.out _ _ ⟨(blk_cell BK111.out 0).trans rfl, (blk_cell BK111.out 1).trans rfl, HS2_, HS3_, HS4_, HS5_, HS6_, HS7_, HS8_, HS9_⟩ (fun hHeld => ?_)
   clear hK K
   refine nu 41 ?_
   refine pu 6 (some 42) (ba 50 127) HT_.out ?_
   refine pu 7 (some 43) (ba 50 255) HT_.out ?_
   refine pu 8 (some 44) (ba 50 511) HT_.out ?_
   refine pu 9 (some 45) (ba 50 1023) HT_.out ?_
   refine pu 10 (some 46) (ba 50 2047) HT_.out ?_
   refine pu 14 (some 50) (ba 50 18431) HT_.out ?_
   refine tu 11 (some 47) (ba 50 20479) HT_.out HW_.out hHeld ?_
   refine pu 12 (some 48) (ba 50 24575) HT_.out ?_
   refine tu 13 (some 49) (ba 50 32767) HT_.out HW_.out hHeld ?_
   refine pu 15 (some 51) (ba 50 65535) HT_.out ?_
   refine pu 16 (some 52) (ba 50 131071) HT_.out ?_
   refine pu 17 (some 53) (ba 50 262143) HT_.out ?_
   refine pu 18 (some 54) (ba 50 524287) HT_.out ?_
   refine pu 19 (some 55) (ba 50 1048575) HT_.out ?_
   refine pu 20 (some 56) (ba 50 2097151) HT_.out ?_
   refine pu 22 (some 58) (ba 50 6291455) HT_.out ?_
   refine pu 23 (some 59) (ba 50 14680063) HT_.out ?_
   refine pu 24 (some 60) (ba 50 31457279) HT_.out ?_
   refine pu 30 (some 66) (ba 50 1105199103) HT_.out ?_
   refine tu 21 (some 57) (ba 50 1107296255) HT_.out HW_.out hHeld ?_
   refine tu 25 (some 61) (ba 50 1140850687) HT_.out HW_.out hHeld ?_
   refine pu 26 (some 62) (ba 50 1207959551) HT_.out ?_
   refine pu 27 (some 63) (ba 50 1342177279) HT_.out ?_
   refine pu 28 (some 64) (ba 50 1610612735) HT_.out ?_
   refine tu 29 (some 65) (ba 50 2147483647) HT_.out HW_.out hHeld ?_
   refine pu 31 (some 67) (ba 50 4294967295) HT_.out ?_
   refine pu 32 (some 68) (ba 50 8589934591) HT_.out ?_
   refine pu 33 (some 69) (ba 50 17179869183) HT_.out ?_
   refine pu 34 (some 70) (ba 50 34359738367) HT_.out ?_
   refine pu 35 (some 71) (ba 50 68719476735) HT_.out ?_
   refine pu 36 (some 72) (ba 50 137438953471) HT_.out ?_
   refine pu 37 (some 73) (ba 50 274877906943) HT_.out ?_
   refine pu 38 (some 74) (ba 50 549755813887) HT_.out ?_
   refine pu 39 (some 75) (ba 50 1099511627775) HT_.out ?_
   refine pu 40 (some 76) (ba 50 2199023255551) HT_.out ?_
   refine pu 42 (some 78) (ba 50 6597069766655) HT_.out ?_
   refine pu 43 (some 79) (ba 50 15393162788863) HT_.out ?_
   refine pu 44 (some 80) (ba 50 32985348833279) HT_.out ?_
   refine tu 41 (some 77) (ba 50 35184372088831) HT_.out HW_.out hHeld ?_
   refine tu 45 (some 81) (ba 50 70368744177663) HT_.out HW_.out hHeld ?_
   refine one_ (i := 46) (N := some 82) (ba 50 140737488355327) rfl rfl (one_of HT_.out (by kernel_rfl)) (by decide) (fun K hK => ?_)
   refine goes_ Try.func33 (by kernel_rfl) rfl #[.slice A122_0 (rd_LI t104 (ji28)).length c122_0, .slice (some ad124) (rd_LI t104 x8_1).length c118_0] (by rfl) rfl rfl (by (try simp only [List.map_toArray, List.map_cons, List.map_nil]); first | done | (simp only [hji28]; rfl) | rfl | (simp only [List.length_drop, List.length_take]; rfl)) ?_
   with_reducible refine (laws_loAhead.calls k1 _ _ (rd_LI t104 (ji28)) _ _ (rd_LI t104 x8_1) false _ ?side1 ?side2 ?side3 ?side4 A31.out).mono ?_
   (case side1 => repeat (first | exact (by repeat (first | (with_reducible exact HR122_0.out) | (with_reducible refine Kd.C_alloc ?_ _) | (with_reducible refine Kd.C_drewN ?_ _) | (with_reducible refine Kd.C_drew ?_) | exact HR122_0.out)) | (with_reducible refine Kd.C_alloc ?_ _) | (with_reducible refine Kd.C_drewN ?_ _) | (with_reducible refine Kd.C_drew ?_)))
   (case side2 => exact HC122_0.out)
   (case side3 => repeat (first | exact (by repeat (first | (with_reducible exact HR123_0.out) | (with_reducible refine Kd.C_alloc ?_ _) | (with_reducible refine Kd.C_drewN ?_ _) | (with_reducible refine Kd.C_drew ?_) | exact HR123_0.out)) | (with_reducible refine Kd.C_alloc ?_ _) | (with_reducible refine Kd.C_drewN ?_ _) | (with_reducible refine Kd.C_drew ?_)))
   (case side4 => exact HC123_0.out)
   rintro e w' ⟨rfl, ⟨nd, rfl⟩⟩
   refine ⟨_, rfl, ?_⟩
   refine hK.out _ _ ⟨(blk_cell BK111.out 0).trans rfl, (blk_cell BK111.out 1).trans rfl, hHeld.2.2.1, hHeld.2.2.2.1, hHeld.2.2.2.2.1, hHeld.2.2.2.2.2.1, hHeld.2.2.2.2.2.2.1, hHeld.2.2.2.2.2.2.2.1, hHeld.2.2.2.2.2.2.2.2.1, hHeld.2.2.2.2.2.2.2.2.2⟩ (fun hHeld => ?_)
   clear hK K
   refine nu 82 ?_
   refine pu 47 (some 83) (ba 50 281474976710655) HT_.out ?_
   refine pu 48 (some 84) (ba 50 562949953421311) HT_.out ?_
   refine pu 49 (some 85) (ba 50 1125899906842623) HT_.out ?_
   refine done_ (done_of HT_.out (by kernel_rfl)) ?_
   try go_wp2
   go_ret
   exact ⟨by first | rfl | (simp [errW_none, errW_some] <;> rfl) | (simp only [← hji23, ← hji28]; first | rfl | (simp [errW_none, errW_some] <;> rfl)) | (simp [*, errW_none, errW_some] <;> rfl), qb HB.out⟩
 subst c32
 rw [if_pos rfl] at H
 have H' := Aside0.mk H
 clear H
 try go_wp2
 replace HO_7 := q0 (Kd.S_drew HO_7.out)
 replace HO_100001 := q0 (Kd.R_drew HO_100001.out)
 replace BK111 := q0 (blk_drew BK111.out)
 replace HB := q0 (below_drew1 HB.out)
 have p118 : 0 ≤ (x8_1 : Int) := of_decide_eq_true qa
 have q118 : x8_1 < (t104.length : Int) := of_decide_eq_true qa
 obtain ⟨ad118, A118_0, c118_0, e118, hx118_0, hl118_0, hi118_0⟩ := at_LI (Kd.S_reads' HO_7.out).2.2 x8_1 p118 q118
 cases e118
 obtain ⟨ce118, hce118, hMe118, hcc118⟩ := Kd.S_get HO_7.out [] x8_1 p118 (by first | exact q118 | exact of_decide_eq_true qa | (have e_ := (Kd.S_reads' HO_7.out).1; omega))
 obtain ⟨ve118_0, rfl, ge118_0⟩ := hMe118
 have hv118_0 := hcc118 0 _ rfl
 rw [Nat.add_zero, show ((Kd.slice 3 (Kd.int .i64))).sz = 1 from rfl, Nat.mul_one] at hv118_0
 replace hv118_0 := Option.some.inj (hv118_0.symm.trans hx118_0)
 rw [hv118_0] at ge118_0
 have HL118_0 := q0 (show Kd.R (Kd.int .i64) 3 _ _ _ _ (rd_LI t104 x8_1) from ge118_0)
 clear hv118_0 ge118_0
 clear hcc118 hce118
 have HR118_0 := Aside0.mk hi118_0
 have HC118_0 := Aside0.mk hl118_0
 clear hi118_0 hl118_0
 replace p118 := eq_true p118
 replace q118 := eq_true q118
 have p119 : 0 ≤ (x8_1 : Int) := of_decide_eq_true qa
 have q119 : x8_1 < (t104.length : Int) := of_decide_eq_true qa
 obtain ⟨ad119, A119_0, c119_0, e119, hx119_0, hl119_0, hi119_0⟩ := at_LI (Kd.S_reads' HO_7.out).2.2 x8_1 p119 q119
 obtain rfl : ad118 = ad119 := (by injection e119)
 have ee_ := Option.some.inj (hx118_0.symm.trans hx119_0)
 injection ee_ with ea_ en_ ec_
 subst ea_
 subst ec_
 clear en_
 obtain ⟨ce119, hce119, hMe119, hcc119⟩ := Kd.S_get HO_7.out [] x8_1 p119 (by first | exact q119 | exact of_decide_eq_true qa | (have e_ := (Kd.S_reads' HO_7.out).1; omega))
 obtain ⟨ve119_0, rfl, ge119_0⟩ := hMe119
 have hv119_0 := hcc119 0 _ rfl
 rw [Nat.add_zero, show ((Kd.slice 3 (Kd.int .i64))).sz = 1 from rfl, Nat.mul_one] at hv119_0
 replace hv119_0 := Option.some.inj (hv119_0.symm.trans hx119_0)
 rw [hv119_0] at ge119_0
 have HL119_0 := q0 (show Kd.R (Kd.int .i64) 3 _ _ _ _ (rd_LI t104 x8_1) from ge119_0)
 clear hv119_0 ge119_0
 clear hcc119 hce119
 have HR119_0 := Aside0.mk hi119_0
 have HC119_0 := Aside0.mk hl119_0
 clear hi119_0 hl119_0
 replace p119 := eq_true p119
 replace q119 := eq_true q119
 have p120 : 0 ≤ (x8_1 : Int) := of_decide_eq_true qa
 have q120 : x8_1 < (t104.length : Int) := of_decide_eq_true qa
 obtain ⟨ad120, A120_0, c120_0, e120, hx120_0, hl120_0, hi120_0⟩ := at_LI (Kd.S_reads' HO_7.out).2.2 x8_1 p120 q120
 obtain rfl : ad118 = ad120 := (by injection e120)
 have ee_ := Option.some.inj (hx118_0.symm.trans hx120_0)
 injection ee_ with ea_ en_ ec_
 subst ea_
 subst ec_
 clear en_
 obtain ⟨ce120, hce120, hMe120, hcc120⟩ := Kd.S_get HO_7.out [] x8_1 p120 (by first | exact q120 | exact of_decide_eq_true qa | (have e_ := (Kd.S_reads' HO_7.out).1; omega))
 obtain ⟨ve120_0, rfl, ge120_0⟩ := hMe120
 have hv120_0 := hcc120 0 _ rfl
 rw [Nat.add_zero, show ((Kd.slice 3 (Kd.int .i64))).sz = 1 from rfl, Nat.mul_one] at hv120_0
 replace hv120_0 := Option.some.inj (hv120_0.symm.trans hx120_0)
 rw [hv120_0] at ge120_0
 have HL120_0 := q0 (show Kd.R (Kd.int .i64) 3 _ _ _ _ (rd_LI t104 x8_1) from ge120_0)
 clear hv120_0 ge120_0
 clear hcc120 hce120
 have HR120_0 := Aside0.mk hi120_0
 have HC120_0 := Aside0.mk hl120_0
 clear hi120_0 hl120_0
 replace p120 := eq_true p120
 replace q120 := eq_true q120
 have p121 : 0 ≤ (x8_1 : Int) := of_decide_eq_true qa
 have q121 : x8_1 < (t104.length : Int) := of_decide_eq_true qa
 obtain ⟨ad121, A121_0, c121_0, e121, hx121_0, hl121_0, hi121_0⟩ := at_LI (Kd.S_reads' HO_7.out).2.2 x8_1 p121 q121
 obtain rfl : ad118 = ad121 := (by injection e121)
 have ee_ := Option.some.inj (hx118_0.symm.trans hx121_0)
 injection ee_ with ea_ en_ ec_
 subst ea_
 subst ec_
 clear en_
 obtain ⟨ce121, hce121, hMe121, hcc121⟩ := Kd.S_get HO_7.out [] x8_1 p121 (by first | exact q121 | exact of_decide_eq_true qa | (have e_ := (Kd.S_reads' HO_7.out).1; omega))
 obtain ⟨ve121_0, rfl, ge121_0⟩ := hMe121
 have hv121_0 := hcc121 0 _ rfl
 rw [Nat.add_zero, show ((Kd.slice 3 (Kd.int .i64))).sz = 1 from rfl, Nat.mul_one] at hv121_0
 replace hv121_0 := Option.some.inj (hv121_0.symm.trans hx121_0)
 rw [hv121_0] at ge121_0
 have HL121_0 := q0 (show Kd.R (Kd.int .i64) 3 _ _ _ _ (rd_LI t104 x8_1) from ge121_0)
 clear hv121_0 ge121_0
 clear hcc121 hce121
 have HR121_0 := Aside0.mk hi121_0
 have HC121_0 := Aside0.mk hl121_0
 clear hi121_0 hl121_0
 replace p121 := eq_true p121
 replace q121 := eq_true q121
 have p122 : 0 ≤ ((ji28) : Int) := of_decide_eq_true qa
 have q122 : (ji28) < (t104.length : Int) := of_decide_eq_true qa
 obtain ⟨ad122, A122_0, c122_0, e122, hx122_0, hl122_0, hi122_0⟩ := at_LI (Kd.S_reads' HO_7.out).2.2 (ji28) p122 q122
 obtain rfl : ad118 = ad122 := (by injection e122)
 obtain ⟨ce122, hce122, hMe122, hcc122⟩ := Kd.S_get HO_7.out [] (ji28) p122 (by first | exact q122 | exact of_decide_eq_true qa | (have e_ := (Kd.S_reads' HO_7.out).1; omega))
 obtain ⟨ve122_0, rfl, ge122_0⟩ := hMe122
 have hv122_0 := hcc122 0 _ rfl
 rw [Nat.add_zero, show ((Kd.slice 3 (Kd.int .i64))).sz = 1 from rfl, Nat.mul_one] at hv122_0
 replace hv122_0 := Option.some.inj (hv122_0.symm.trans hx122_0)
 rw [hv122_0] at ge122_0
 have HL122_0 := q0 (show Kd.R (Kd.int .i64) 3 _ _ _ _ (rd_LI t104 (ji28)) from ge122_0)
 clear hv122_0 ge122_0
 clear hcc122 hce122
 have HR122_0 := Aside0.mk hi122_0
 have HC122_0 := Aside0.mk hl122_0
 clear hi122_0 hl122_0
 replace p122 := eq_true p122
 replace q122 := eq_true q122
 have p123 : 0 ≤ (x8_1 : Int) := of_decide_eq_true qa
 have q123 : x8_1 < (t104.length : Int) := of_decide_eq_true qa
 obtain ⟨ad123, A123_0, c123_0, e123, hx123_0, hl123_0, hi123_0⟩ := at_LI (Kd.S_reads' HO_7.out).2.2 x8_1 p123 q123
 obtain rfl : ad118 = ad123 := (by injection e123)
 have ee_ := Option.some.inj (hx118_0.symm.trans hx123_0)
 injection ee_ with ea_ en_ ec_
 subst ea_
 subst ec_
 clear en_
 obtain ⟨ce123, hce123, hMe123, hcc123⟩ := Kd.S_get HO_7.out [] x8_1 p123 (by first | exact q123 | exact of_decide_eq_true qa | (have e_ := (Kd.S_reads' HO_7.out).1; omega))
 obtain ⟨ve123_0, rfl, ge123_0⟩ := hMe123
 have hv123_0 := hcc123 0 _ rfl
 rw [Nat.add_zero, show ((Kd.slice 3 (Kd.int .i64))).sz = 1 from rfl, Nat.mul_one] at hv123_0
 replace hv123_0 := Option.some.inj (hv123_0.symm.trans hx123_0)
 rw [hv123_0] at ge123_0
 have HL123_0 := q0 (show Kd.R (Kd.int .i64) 3 _ _ _ _ (rd_LI t104 x8_1) from ge123_0)
 clear hv123_0 ge123_0
 clear hcc123 hce123
 have HR123_0 := Aside0.mk hi123_0
 have HC123_0 := Aside0.mk hl123_0
 clear hi123_0 hl123_0
 replace p123 := eq_true p123
 replace q123 := eq_true q123
 have p124 : 0 ≤ (0 : Int) := (by omega)
 have q124 : 0 < ((rd_LI t104 x8_1).length : Int) := of_decide_eq_true qa
 obtain ⟨ad124, e124, hx124_0⟩ := Kd.at_int (by repeat (first | (with_reducible exact HR119_0.out) | (with_reducible refine Kd.C_alloc ?_ _) | (with_reducible refine Kd.C_drewN ?_ _) | (with_reducible refine Kd.C_drew ?_) | exact HR119_0.out)) 0 p124 q124
 cases e124
 have qi124 : (0 < (rd_LI t104 x8_1).length) = True := eq_true (by omega)
 (try rw [show ((0 : Int)).toNat = 0 from rfl] at hx124_0)
 (try rw [Addr.add_zero'] at hx124_0)
 replace p124 := eq_true p124
 replace q124 := eq_true q124
 have p125 : 0 ≤ ((ji23) : Int) := of_decide_eq_true qa
 have q125 : (ji23) < ((rd_LI t104 x8_1).length : Int) := of_decide_eq_true qa
 obtain ⟨ad125, e125, hx125_0⟩ := Kd.at_int (by repeat (first | (with_reducible exact HR120_0.out) | (with_reducible refine Kd.C_alloc ?_ _) | (with_reducible refine Kd.C_drewN ?_ _) | (with_reducible refine Kd.C_drew ?_) | exact HR120_0.out)) (ji23) p125 q125
 obtain rfl : ad124 = ad125 := (by injection e125)
 replace p125 := eq_true p125
 replace q125 := eq_true q125
 refine start_ (n := 50) (S := fun w' => w'.cell? ⟨gb111, 0, none⟩ = some (.int .i64 t103) ∧ w'.cell? ⟨gb111, 1, none⟩ = some (.slice Ao11 t106.length co11) ∧ w'.cell? (ad118.add (x8_1).toNat) = some (.slice (some ad124) (rd_LI t104 x8_1).length c118_0) ∧ w'.cell? (ad118.add (x8_1).toNat) = some (.slice (some ad124) (rd_LI t104 x8_1).length c118_0) ∧ w'.cell? ad124 = some (.int .i64 (rd (rd_LI t104 x8_1) 0)) ∧ w'.cell? (ad118.add (x8_1).toNat) = some (.slice (some ad124) (rd_LI t104 x8_1).length c118_0) ∧ w'.cell? (ad118.add (x8_1).toNat) = some (.slice (some ad124) (rd_LI t104 x8_1).length c118_0) ∧ w'.cell? (ad124.add ((ji23)).toNat) = some (.int .i64 (rd (rd_LI t104 x8_1) (ji23))) ∧ w'.cell? (ad118.add ((ji28)).toNat) = some (.slice A122_0 (rd_LI t104 (ji28)).length c122_0) ∧ w'.cell? (ad118.add (x8_1).toNat) = some (.slice (some ad124) (rd_LI t104 x8_1).length c118_0)) (ds := []) (ba 50 0) (by kernel_rfl) rfl (by kernel_rfl) ⟨(blk_cell BK111.out 0).trans rfl, (blk_cell BK111.out 1).trans rfl, hx118_0, hx119_0, hx124_0, hx120_0, hx121_0, hx125_0, hx122_0, hx123_0⟩ (fun hHeld => ?_); refine with_tabW laws_FnWayAll.tab11 laws_FnWayAll.bits11 (fun HT_ HW_ => ?_)
 generalize wr.drew = w33 at HO_7 HO_100001 BK111 HB HL118_0 HL119_0 HL120_0 HL121_0 HL122_0 HL123_0 HR118_0 HR119_0 HR120_0 HR121_0 HR122_0 HR123_0 hx118_0 hx119_0 hx120_0 hx121_0 hx122_0 hx123_0 hx124_0 hx125_0 hHeld ⊢
 refine pu 1 (some 37) (ba 50 2) HT_.out ?_
 refine pu 2 (some 38) (ba 50 6) HT_.out ?_
 refine pu 3 (some 39) (ba 50 14) HT_.out ?_
 refine tu 0 (some 36) (ba 50 15) HT_.out HW_.out hHeld ?_
 refine tu 4 (some 40) (ba 50 31) HT_.out HW_.out hHeld ?_
 refine one_ (i := 5) (N := some 41) (ba 50 63) rfl rfl (one_of HT_.out (by kernel_rfl)) (by decide) (fun K hK => ?_)
 refine goes_ Try.func31 (by kernel_rfl) rfl #[.agg #[.int .i64 t103, .slice Ao11 t106.length co11], .slice (some ad124) (rd_LI t104 x8_1).length c118_0] (by rfl) rfl rfl qm ?_
 with_reducible refine (impl_WayOk.calls k1 t103 _ _ t106 _ _ (rd_LI t104 x8_1) true _ ?side1 ?side2 ?side3 ?side4 A19.out).mono ?_
 (case side1 => exact qc (Kd.R_reads' HO_100001.out).2.2)
 (case side2 => exact (Kd.R_reads' HO_100001.out).2.1)
 (case side3 => repeat (first | exact (by repeat (first | (with_reducible exact HR118_0.out) | (with_reducible refine Kd.C_alloc ?_ _) | (with_reducible refine Kd.C_drewN ?_ _) | (with_reducible refine Kd.C_drew ?_) | exact HR118_0.out)) | (with_reducible refine Kd.C_alloc ?_ _) | (with_reducible refine Kd.C_drewN ?_ _) | (with_reducible refine Kd.C_drew ?_)))
 (case side4 => exact HC118_0.out)
 rintro e w34 ⟨rfl, hb⟩
 have HS2_ := (hb.cell (World.block_lt_of_cell? _ _ (hHeld.2.2.1))).trans (hHeld.2.2.1)
 have HS3_ := (hb.cell (World.block_lt_of_cell? _ _ (hHeld.2.2.2.1))).trans (hHeld.2.2.2.1)
 have HS4_ := (hb.cell (World.block_lt_of_cell? _ _ (hHeld.2.2.2.2.1))).trans (hHeld.2.2.2.2.1)
 have HS5_ := (hb.cell (World.block_lt_of_cell? _ _ (hHeld.2.2.2.2.2.1))).trans (hHeld.2.2.2.2.2.1)
 have HS6_ := (hb.cell (World.block_lt_of_cell? _ _ (hHeld.2.2.2.2.2.2.1))).trans (hHeld.2.2.2.2.2.2.1)
 have HS7_ := (hb.cell (World.block_lt_of_cell? _ _ (hHeld.2.2.2.2.2.2.2.1))).trans (hHeld.2.2.2.2.2.2.2.1)
 have HS8_ := (hb.cell (World.block_lt_of_cell? _ _ (hHeld.2.2.2.2.2.2.2.2.1))).trans (hHeld.2.2.2.2.2.2.2.2.1)
 have HS9_ := (hb.cell (World.block_lt_of_cell? _ _ (hHeld.2.2.2.2.2.2.2.2.2))).trans (hHeld.2.2.2.2.2.2.2.2.2)
 refine ⟨_, rfl, ?_⟩
 replace HO_7 := q0 (Kd.S_below (qv HO_7.out) hb)
 replace HO_100001 := q0 (Kd.R_below (qr HO_100001.out) hb)
 replace HL118_0 := q0 (Kd.R_below (by (with_reducible repeat (first | apply Kd.R_alloc | apply Kd.R_drewN | apply Kd.R_drew)); exact HL118_0.out) hb)
 replace BK111 := q0 (kb BK111.out hb)
 replace HR118_0 := q0 (Kd.C_below (by repeat (first | (with_reducible exact HR118_0.out) | (with_reducible refine Kd.C_alloc ?_ _) | (with_reducible refine Kd.C_drewN ?_ _) | (with_reducible refine Kd.C_drew ?_) | exact HR118_0.out)) hb)
 replace HR122_0 := q0 (Kd.C_below (by repeat (first | (with_reducible exact HR122_0.out) | (with_reducible refine Kd.C_alloc ?_ _) | (with_reducible refine Kd.C_drewN ?_ _) | (with_reducible refine Kd.C_drew ?_) | exact HR122_0.out)) hb)
 replace HR123_0 := q0 (Kd.C_below (by repeat (first | (with_reducible exact HR123_0.out) | (with_reducible refine Kd.C_alloc ?_ _) | (with_reducible refine Kd.C_drewN ?_ _) | (with_reducible refine Kd.C_drew ?_) | exact HR123_0.out)) hb)
 replace HB := q0 (below_step (qb HB.out) hb)
 (try clear hb)
 (try clear hb2)
 (try clear hk)
 (try clear hi)
 refine hK.out _ _ ⟨(blk_cell BK111.out 0).trans rfl, (blk_cell BK111.out 1).trans rfl, HS2_, HS3_, HS4_, HS5_, HS6_, HS7_, HS8_, HS9_⟩ (fun hHeld => ?_)
 clear hK K
 refine nu 41 ?_
 refine pu 6 (some 42) (ba 50 127) HT_.out ?_
 refine pu 7 (some 43) (ba 50 255) HT_.out ?_
 refine pu 8 (some 44) (ba 50 511) HT_.out ?_
 refine pu 9 (some 45) (ba 50 1023) HT_.out ?_
 refine pu 10 (some 46) (ba 50 2047) HT_.out ?_
 refine pu 14 (some 50) (ba 50 18431) HT_.out ?_
 refine tu 11 (some 47) (ba 50 20479) HT_.out HW_.out hHeld ?_
 refine pu 12 (some 48) (ba 50 24575) HT_.out ?_
 refine tu 13 (some 49) (ba 50 32767) HT_.out HW_.out hHeld ?_
 refine pu 15 (some 51) (ba 50 65535) HT_.out ?_
 refine pu 16 (some 52) (ba 50 131071) HT_.out ?_
 refine pu 17 (some 53) (ba 50 262143) HT_.out ?_
 refine pu 18 (some 54) (ba 50 524287) HT_.out ?_
 refine pu 19 (some 55) (ba 50 1048575) HT_.out ?_
 refine pu 20 (some 56) (ba 50 2097151) HT_.out ?_
 refine pu 22 (some 58) (ba 50 6291455) HT_.out ?_
 refine pu 23 (some 59) (ba 50 14680063) HT_.out ?_
 refine pu 24 (some 60) (ba 50 31457279) HT_.out ?_
 refine pu 30 (some 66) (ba 50 1105199103) HT_.out ?_
 refine tu 21 (some 57) (ba 50 1107296255) HT_.out HW_.out hHeld ?_
 refine tu 25 (some 61) (ba 50 1140850687) HT_.out HW_.out hHeld ?_
 refine pu 26 (some 62) (ba 50 1207959551) HT_.out ?_
 refine pu 27 (some 63) (ba 50 1342177279) HT_.out ?_
 refine pu 28 (some 64) (ba 50 1610612735) HT_.out ?_
 refine tu 29 (some 65) (ba 50 2147483647) HT_.out HW_.out hHeld ?_
 refine pu 31 (some 67) (ba 50 4294967295) HT_.out ?_
 refine pu 32 (some 68) (ba 50 8589934591) HT_.out ?_
 refine pu 33 (some 69) (ba 50 17179869183) HT_.out ?_
 refine pu 34 (some 70) (ba 50 34359738367) HT_.out ?_
 refine pu 35 (some 71) (ba 50 68719476735) HT_.out ?_
 refine pu 36 (some 72) (ba 50 137438953471) HT_.out ?_
 refine pu 37 (some 73) (ba 50 274877906943) HT_.out ?_
 refine pu 38 (some 74) (ba 50 549755813887) HT_.out ?_
 refine pu 39 (some 75) (ba 50 1099511627775) HT_.out ?_
 refine pu 40 (some 76) (ba 50 2199023255551) HT_.out ?_
 refine pu 42 (some 78) (ba 50 6597069766655) HT_.out ?_
 refine pu 43 (some 79) (ba 50 15393162788863) HT_.out ?_
 refine pu 44 (some 80) (ba 50 32985348833279) HT_.out ?_
 refine tu 41 (some 77) (ba 50 35184372088831) HT_.out HW_.out hHeld ?_
 refine tu 45 (some 81) (ba 50 70368744177663) HT_.out HW_.out hHeld ?_
 refine one_ (i := 46) (N := some 82) (ba 50 140737488355327) rfl rfl (one_of HT_.out (by kernel_rfl)) (by decide) (fun K hK => ?_)
 refine goes_ Try.func33 (by kernel_rfl) rfl #[.slice A122_0 (rd_LI t104 (ji28)).length c122_0, .slice (some ad124) (rd_LI t104 x8_1).length c118_0] (by rfl) rfl rfl (by (try simp only [List.map_toArray, List.map_cons, List.map_nil]); first | done | (simp only [hji28]; rfl) | rfl | (simp only [List.length_drop, List.length_take]; rfl)) ?_
 with_reducible refine (laws_loAhead.calls k1 _ _ (rd_LI t104 (ji28)) _ _ (rd_LI t104 x8_1) true _ ?side1 ?side2 ?side3 ?side4 A31.out).mono ?_
 (case side1 => repeat (first | exact (by repeat (first | (with_reducible exact HR122_0.out) | (with_reducible refine Kd.C_alloc ?_ _) | (with_reducible refine Kd.C_drewN ?_ _) | (with_reducible refine Kd.C_drew ?_) | exact HR122_0.out)) | (with_reducible refine Kd.C_alloc ?_ _) | (with_reducible refine Kd.C_drewN ?_ _) | (with_reducible refine Kd.C_drew ?_)))
 (case side2 => exact HC122_0.out)
 (case side3 => repeat (first | exact (by repeat (first | (with_reducible exact HR123_0.out) | (with_reducible refine Kd.C_alloc ?_ _) | (with_reducible refine Kd.C_drewN ?_ _) | (with_reducible refine Kd.C_drew ?_) | exact HR123_0.out)) | (with_reducible refine Kd.C_alloc ?_ _) | (with_reducible refine Kd.C_drewN ?_ _) | (with_reducible refine Kd.C_drew ?_)))
 (case side4 => exact HC123_0.out)
 rintro e w' ⟨rfl, ⟨nd, rfl⟩⟩
 refine ⟨_, rfl, ?_⟩
 refine hK.out _ _ ⟨(blk_cell BK111.out 0).trans rfl, (blk_cell BK111.out 1).trans rfl, hHeld.2.2.1, hHeld.2.2.2.1, hHeld.2.2.2.2.1, hHeld.2.2.2.2.2.1, hHeld.2.2.2.2.2.2.1, hHeld.2.2.2.2.2.2.2.1, hHeld.2.2.2.2.2.2.2.2.1, hHeld.2.2.2.2.2.2.2.2.2⟩ (fun hHeld => ?_)
 clear hK K
 refine nu 82 ?_
 refine pu 47 (some 83) (ba 50 281474976710655) HT_.out ?_
 refine pu 48 (some 84) (ba 50 562949953421311) HT_.out ?_
 refine pu 49 (some 85) (ba 50 1125899906842623) HT_.out ?_
 refine done_ (done_of HT_.out (by kernel_rfl)) ?_
 try go_wp2
 go_roundg k1
 case measure => have := HK1.out; omega
 case rel => exact ⟨(wrap64 (x8_1 + 1)), qs, H', ⟨by have := HK1.out; omega⟩, ⟨qv HO_7.out⟩, ⟨qr HO_100001.out⟩, ⟨qk BK111.out⟩, ⟨qb HB.out⟩⟩

theorem laws_FnWayAll.walk (P : laws_FnWayAll.Pure) (a0 : Option Addr) (len0 cap0 : Nat) (z0 : List Int) (w : World) (w0 : (a0 = none ∧ len0 = 0 ∧ cap0 = 0 ∧ z0 = []) ∨ ∃ x, a0 = some x ∧ len0 ≤ cap0 ∧ cap0 ≤ maxLen ∧ z0.length = cap0 ∧ (∀ i, i < z0.length → w.cell? (x.add i) = some (.int .u8 (z0.getD i 0))) ∧ ∀ n ∈ z0, (Lit.int .u8 n).wf = true) (y0 : len0 * 1 ≤ 140737488351232) :
    Calls Try.prog 10 #[.slice a0 len0 cap0] w fun e w' => e = .returned (.bool true) ∧ Below w.heap.size w w' := by
  obtain ⟨l0, rfl, hr0, hm0, hw0, hc0⟩ := ReadsInt.ofRowC w0
  obtain ⟨k, h⟩ := P l0 hm0 y0 hw0
  refine (laws_FnWayAll.calls k _ _ l0 true w (Kd.C_of_reads (d := (0 : Int)) (h1 := fun _ => rfl) hr0) hc0 h).mono ?_
  rintro e w' ⟨rfl, hd⟩
  exact ⟨rfl, hd⟩
end Go.Proofs.Ytmfmeenfhdohcaa.P
