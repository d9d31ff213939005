import Derived.Test.YtloonheabfdgbaaDoorP0
import Derived.Test.YtloonheabfdgbaaDoorP1
import Derived.Test.YtloonheabfdgbaaDoorP2
import Derived.Test.YtloonheabfdgbaaDoorP3
namespace Go.Proofs.YtloonheabfdgbaaDoor.P
open Go.RowKit Go.Proofs.YtloonheabfdgbaaDoorW.PrintWords Go.Proofs.YtloonheabfdgbaaDoorW.PrintLast Go.Proofs.YtloonheabfdgbaaDoorW.PrintMore
attribute [local go_sem] max2_int min2_int max_two min_two max_three min_three max_four min_four
set_option linter.unusedVariables false
set_option linter.unusedSimpArgs false
attribute [local go_sem high] eqATie
set_option maxHeartbeats 8000000 in
set_option maxRecDepth 100000 in
theorem spec_l6Rd_of.calls (k : Nat) (g : Nat) (s0_0 : List Int) (s0_1 : Int) (A1 : Option Addr) (c1 : Nat) (l1 : List ByteArray) (r1 : ByteArray) (r2 : Int) (w0 w : World) (hI : IsSRd w0 w g s0_0 s0_1) (hB : Below w0.heap.size w0 w) (hr1 : Kd.C Kd.string w A1 l1.length l1) (hc1 : l1.length ≤ c1) (hf1 : ∀ ad, A1 = some ad → 0 < l1.length → ad.block ≠ g) (h : spec_l6Rd_of.f k s0_0 s0_1 l1 = some (r1, r2)) :
    Calls Tryd.prog 39 #[.pointer (some ⟨g, 0, none⟩), .slice A1 l1.length c1] w fun e w' => e = .returned (.string r1) ∧ IsSRd w0 w' g s0_0 r2 ∧ Below w0.heap.size w0 w' ∧ KeepBut w w' g none := by
 have HR1 := q0 hr1
 have HC1 := q0 hc1
 clear hr1 hc1
 have HI0 := q0 hI
 have HK := q0 (KeepBut.refl w g none)
 have HL := q0 hB.size
 clear hI
 have HW0 := q0 hB.size
 have HB := q0 hB
 clear hB
 have H : ((spec_l6Rd_pick.f k s0_0 s0_1 (l1.length : Int)).bind fun bt100 => (if 0 ≤ bt100.1 then (if bt100.1 < (l1.length : Int) then (some (rdOf ByteArray.empty l1 bt100.1, bt100.2)) else (none)) else (none))) = some (r1, r2) := h
 clear h
 obtain ⟨⟨t100, t101⟩, A3, H⟩ := ob H
 obtain ⟨c4, H⟩ : (0 ≤ t100) ∧ _ := og H
 have c4b0 := decide_eq_true c4
 clear c4
 obtain ⟨c5, H⟩ : (t100 < (l1.length : Int)) ∧ _ := og H
 have c5b0 := decide_eq_true c5
 clear c5
 simp only [Option.some.injEq, Prod.mk.injEq] at H
 obtain ⟨rfl, rfl⟩ := H
 go_enter Tryd.func39, Tryd.ntmps39
 go_wp2_with (first | ((with_reducible refine gf 38 ?_); refine gl 9 Tryd.func38 #[.pointer (some ⟨g, 0, none⟩), .int .i64 (l1.length : Int)] ?_; (with_reducible refine (spec_l6Rd_pick.calls k g s0_0 s0_1 (l1.length : Int) t100 t101 w0 _ ?side1 ?side2 A3.out).mono ?_); (case side1 => exact qi HI0.out); (case side2 => exact qj HB.out HI0.out); rintro e w6 ⟨rfl, hi, hb, hk⟩; refine ⟨_, rfl, ?_⟩; replace HK := q0 (KeepBut.trans (qh HK.out) hk (.inl rfl)); replace HB := q0 (hb); replace HI0 := q0 (hi); (try clear hb); (try clear hb2); (try clear hk); (try clear hi); have p102 : 0 ≤ (t100 : Int) := of_decide_eq_true qa; have q102 : t100 < (l1.length : Int) := of_decide_eq_true qa; obtain ⟨ad102, e102, hx102_0⟩ := Kd.at_string HR1.out t100 p102 q102; cases e102; replace hx102_0 := keep_cell HK.out hx102_0 (by first | (rw [add_block]; exact hf1 _ rfl (by omega)) | exact hf1 _ rfl (by omega) | exact hf1 ad102 rfl (by omega)); replace p102 := eq_true p102; replace q102 := eq_true q102))
 go_ret
 exact ⟨qe, qi HI0.out, qj HB.out HI0.out, by repeat (first | (with_reducible first | exact HK.out | apply KeepBut.set_ | apply keep_drewN | apply keep_drew | apply keep_alloc) | exact HK.out)⟩

set_option maxHeartbeats 8000000 in
set_option maxRecDepth 100000 in
theorem spec_l6Many.calls (k : Nat) (a0 : ByteArray) (a1 : Int) (r : ByteArray) (w : World) (h : spec_l6Many.f k a0 a1 = some r) :
    Calls Tryd.prog 40 #[.string a0, .int .i64 a1] w fun e w' => e = .returned (.string r) ∧ Drawn0 w w' := by
 have H : (spec_l6Many.l0 k a0 a1 (⟨#[]⟩ : ByteArray)) = some r := h
 clear h
 have H' := q0 H
 clear H
 go_enter Tryd.func40, Tryd.ntmps40
 go_wp2
 go_loopg [0, 1, 5] k (fun kq v0 v1 v5 w' => ∃ (x0_1 : ByteArray) (x1_1 : Int) (x5_1 : ByteArray), v0 = .string x0_1 ∧ v1 = .int .i64 x1_1 ∧ v5 = .string x5_1 ∧ Aside0 (spec_l6Many.l0 kq x0_1 x1_1 x5_1 = some r) ∧ Aside0 (kq ≤ k) ∧ Drawn0 w w')
 case atStart => exact ⟨(a0), (a1), ((⟨#[]⟩ : ByteArray)), qs, qs, qs, H', ⟨Nat.le_refl _⟩, by repeat (first | exact Drawn0.refl _ | apply Drawn0.step)⟩
 clear H'
 try clear p2
 obtain ⟨x0_1, x1_1, x5_1, rfl, rfl, rfl, HA, HK1, ⟨m1, rfl⟩⟩ := hrel
 rcases gk with _ | k1
 · exact absurd HA.out (by simp [spec_l6Many.l0])
 have H := HA.out
 clear HA
 simp only [spec_l6Many.l0] at H
 by_cases c3 : x1_1 > 0
 rotate_left
 · rw [if_neg c3] at H
   have c3b0 := decide_eq_false c3
   clear c3
   obtain rfl := Option.some.inj H
   go_wp2
   go_ret
   exact ⟨by first | rfl | (simp; done) | (simp [*]; done), by repeat (first | exact Drawn0.refl _ | apply Drawn0.step)⟩
 rw [if_pos c3] at H
 have c3b0 := decide_eq_true c3
 clear c3
 by_cases c4 : (Int.tmod x1_1 2) = 1
 rotate_left
 · rw [if_neg c4] at H
   have c4b0 : ((Int.tmod x1_1 2) == 1) = false := beq_eq_false_iff_ne.mpr c4
   have c4b1 : ((Int.tmod x1_1 2) != 1) = true := bne_iff_ne.mpr c4
   obtain ⟨c7, H⟩ : (x0_1.size + x0_1.size ≤ 9223372036854775807) ∧ _ := og H
   have c7b0 := eq_true c7
   have c7b1 := decide_eq_true c7
   try have c7b2 : (9223372036854775807 < x0_1.size + x0_1.size) = False := eq_false (Nat.not_lt.2 c7)
   have H' := q0 H
   clear H
   go_wp2
   go_roundg k1
   case measure => have := HK1.out; omega
   case rel => exact ⟨(x0_1 ++ x0_1), (wrap64 (Int.tdiv x1_1 2)), (x5_1), qs, qs, qs, H', ⟨by have := HK1.out; omega⟩, by repeat (first | exact Drawn0.refl _ | apply Drawn0.step)⟩
 rw [if_pos c4] at H
 have c4b0 : ((Int.tmod x1_1 2) == 1) = true := beq_iff_eq.mpr c4
 have c4b1 : ((Int.tmod x1_1 2) != 1) = false := bne_eq_false_iff_eq.mpr c4
 clear c4
 obtain ⟨c5, H⟩ : (x5_1.size + x0_1.size ≤ 9223372036854775807) ∧ _ := og H
 have c5b0 := eq_true c5
 have c5b1 := decide_eq_true c5
 try have c5b2 : (9223372036854775807 < x5_1.size + x0_1.size) = False := eq_false (Nat.not_lt.2 c5)
 obtain ⟨c6, H⟩ : (x0_1.size + x0_1.size ≤ 9223372036854775807) ∧ _ := og H
 have c6b0 := eq_true c6
 have c6b1 := decide_eq_true c6
 try have c6b2 : (9223372036854775807 < x0_1.size + x0_1.size) = False := eq_false (Nat.not_lt.2 c6)
 have H' := q0 H
 clear H
 go_wp2
 go_roundg k1
 case measure => have := HK1.out; omega
 case rel => exact ⟨(x0_1 ++ x0_1), (wrap64 (Int.tdiv x1_1 2)), (x5_1 ++ x0_1), qs, qs, qs, H', ⟨by have := HK1.out; omega⟩, by repeat (first | exact Drawn0.refl _ | apply Drawn0.step)⟩

def spec_DrawNetRead.T8 : Bool × List (List Nat × List Nat) := (true, [([], []), ([], []), ([0, 1], [0, 1]), ([], []), ([], []), ([4], [4]), ([3, 5], [3, 5]), ([2, 6], [2, 6]), ([7, 0, 1, 2, 3, 4, 5, 6, 7], [7])])
def spec_DrawNetRead.B8 : List Nat := [0, 0, 3, 0, 0, 16, 56, 127, 255]
theorem spec_DrawNetRead.tab8 : rtab .any (opsOf Tryd.f19 8) = spec_DrawNetRead.T8 := by kernel_rfl
theorem spec_DrawNetRead.bits8 : waitsOk spec_DrawNetRead.T8.2 spec_DrawNetRead.B8 = true := by kernel_rfl
def spec_DrawNetRead.T10 : Bool × List (List Nat × List Nat) := (true, [([], []), ([], []), ([0, 1], [0, 1]), ([], []), ([], []), ([3, 4], [3, 4]), ([2, 5], [2, 5]), ([], []), ([], []), ([7, 8], [7, 8]), ([6, 9], [6, 9]), ([10, 5, 0, 1, 2, 3, 4, 5, 6, 7, 8, 9, 10], [10])])
def spec_DrawNetRead.B10 : List Nat := [0, 0, 3, 0, 0, 24, 63, 0, 0, 384, 1023, 2047]
theorem spec_DrawNetRead.tab10 : rtab .any (opsOf Tryd.f19 10) = spec_DrawNetRead.T10 := by kernel_rfl
theorem spec_DrawNetRead.bits10 : waitsOk spec_DrawNetRead.T10.2 spec_DrawNetRead.B10 = true := by kernel_rfl
set_option maxHeartbeats 8000000 in
set_option maxRecDepth 100000 in
theorem spec_DrawNetRead.calls (k : Nat) (A0 : Option Addr) (c0 : Nat) (l0 : List Int) (r : ByteArray) (w : World) (hr0 : Kd.C (Kd.int .u8) w A0 l0.length l0) (hc0 : l0.length ≤ c0) (h : spec_DrawNetRead.f k l0 = some r) :
    Calls Tryd.prog 19 #[.slice A0 l0.length c0] w fun e w' => e = .returned (.string r) ∧ Below w.heap.size w w' := by
 have HR0 := q0 hr0
 have HC0 := q0 hc0
 clear hr0 hc0
 have HB := q0 (Below.refl w.heap.size w)
 have H : ((spec_l6Open.f l0).bind fun bt100 => ((spec_l71Net.f k bt100.1 bt100.2).bind fun bt101 => ((spec_NetWrite.f k bt101.1 bt101.2.1).bind fun t102 => ((spec_l6Rd_pick.f k bt100.1 bt101.2.2 2).bind fun bt103 => (if bt103.1 = 0 then (some t102) else ((spec_l6Rd_pick.f k bt100.1 bt103.2 (t102.size : Int)).bind fun bt104 => ((spec_l6Rd_pick.f k bt100.1 bt104.2 6).bind fun bt105 => (if bt105.1 = 0 then (if 0 ≤ bt104.1 then (if bt104.1 ≤ (t102.size : Int) then (if 0 ≤ (wrap64 (bt104.1 + 1)) then (if (wrap64 (bt104.1 + 1)) ≤ (t102.size : Int) then (if (t102.extract 0 (bt104.1 : Int).toNat).size + (t102.extract ((wrap64 (bt104.1 + 1)) : Int).toNat t102.size).size ≤ 9223372036854775807 then (some ((t102.extract 0 (bt104.1 : Int).toNat) ++ (t102.extract ((wrap64 (bt104.1 + 1)) : Int).toNat t102.size))) else (none)) else (none)) else (none)) else (none)) else (none)) else (if bt105.1 = 1 then (if 0 ≤ bt104.1 then (if bt104.1 ≤ (t102.size : Int) then ((spec_l6Rd_of.f k bt100.1 bt105.2 (([(⟨#[32]⟩ : ByteArray), (⟨#[10]⟩ : ByteArray), (⟨#[48]⟩ : ByteArray), (⟨#[116, 105, 101, 32, 48, 32, 49, 10]⟩ : ByteArray), (⟨#[57]⟩ : ByteArray)] : List ByteArray))).bind fun bt106 => (if (t102.extract 0 (bt104.1 : Int).toNat).size + bt106.1.size ≤ 9223372036854775807 then (if ((t102.extract 0 (bt104.1 : Int).toNat) ++ bt106.1).size + (t102.extract (bt104.1 : Int).toNat t102.size).size ≤ 9223372036854775807 then (some (((t102.extract 0 (bt104.1 : Int).toNat) ++ bt106.1) ++ (t102.extract (bt104.1 : Int).toNat t102.size))) else (none)) else (none))) else (none)) else (none)) else (if bt105.1 = 2 then (if t102.size + t102.size ≤ 9223372036854775807 then (some (t102 ++ t102)) else (none)) else (if bt105.1 = 3 then (if 0 ≤ bt104.1 then (if bt104.1 ≤ (t102.size : Int) then (some (t102.extract 0 (bt104.1 : Int).toNat)) else (none)) else (none)) else (if bt105.1 = 4 then ((spec_l6Rd_of.f k bt100.1 bt105.2 (([(⟨#[116, 105, 101, 32, 48, 32, 48, 10]⟩ : ByteArray), (⟨#[116, 105, 101, 32, 49, 32, 48, 10]⟩ : ByteArray), (⟨#[116, 105, 101, 32, 48, 32, 57, 10]⟩ : ByteArray), (⟨#[116, 105, 101, 32, 54, 32, 55, 10]⟩ : ByteArray), (⟨#[107, 110, 111, 116, 115, 32, 51, 10]⟩ : ByteArray)] : List ByteArray))).bind fun bt107 => (if t102.size + bt107.1.size ≤ 9223372036854775807 then (some (t102 ++ bt107.1)) else (none))) else ((spec_l6Many.f k (⟨#[32]⟩ : ByteArray) 601).bind fun t108 => ((spec_l6Rd_of.f k bt100.1 bt105.2 (([(⟨#[]⟩ : ByteArray), (⟨#[107, 110, 111, 116, 115, 32, 48, 10]⟩ : ByteArray), (⟨#[107, 110, 111, 116, 115, 32, 56, 10]⟩ : ByteArray), (⟨#[107, 110, 111, 116, 115, 32, 57, 10]⟩ : ByteArray), (⟨#[107, 110, 111, 116, 115, 32, 48, 51, 10]⟩ : ByteArray), (⟨#[116, 105, 101, 32, 48, 32, 49, 10]⟩ : ByteArray), (⟨#[107, 110, 111, 116, 115, 32, 50, 10, 116, 105, 101, 32, 48, 32, 49]⟩ : ByteArray), t108] : List ByteArray))).bind fun bt109 => (some bt109.1))))))))))))))) = some r := h
 clear h
 obtain ⟨⟨t100, t110⟩, A2, H⟩ := ob H
 obtain ⟨⟨t101, t111, t112⟩, A3, H⟩ := ob H
 obtain ⟨t102, A4, H⟩ := ob H
 obtain ⟨⟨t103, t113⟩, A5, H⟩ := ob H
 by_cases c6 : t103 = 0
 · rw [if_pos c6] at H
   have c6b0 : (t103 == 0) = true := beq_iff_eq.mpr c6
   have c6b1 : (t103 != 0) = false := bne_eq_false_iff_eq.mpr c6
   clear c6
   obtain rfl := Option.some.inj H
   go_enter Tryd.func19, Tryd.ntmps19
   go_wp2_with (first | ((with_reducible refine gf 30 ?_); refine gl 7 Tryd.func30 #[.slice A0 l0.length c0] ?_; (with_reducible refine (spec_l6Open.calls _ _ l0 t100 t110 w _ ?side1 ?side2 ?side3 A2.out).mono ?_); (case side1 => exact qb HB.out); (case side2 => exact HR0.out); (case side3 => exact HC0.out); rintro e w7 ⟨g114, rfl, hi, hb, hb2⟩; refine ⟨_, rfl, ?_⟩; replace HB := q0 (hb); have HI114 := q0 (hi); (try clear hb); (try clear hb2); (try clear hk); (try clear hi)) | ((with_reducible refine gf 37 ?_); refine gl 9 Tryd.func37 #[.pointer (some ⟨g114, 0, none⟩)] ?_; (with_reducible refine (spec_l71Net.calls k g114 t100 t110 t101 t111 t112 w _ ?side1 ?side2 A3.out).mono ?_); (case side1 => exact qi HI114.out); (case side2 => exact qj HB.out HI114.out); rintro e w8 ⟨v115, rfl, ho0, hi, hb, hk⟩; refine ⟨_, rfl, ?_⟩; have HO116 := q0 (Kd.R_lower ho0 (below_size (qj HB.out HI114.out))); replace HB := q0 (hb); replace HI114 := q0 (hi); (try clear hb); (try clear hb2); (try clear hk); (try clear hi); (try clear ho0); obtain ⟨Ao9, co9, eo9⟩ := Kd.R_slice HO116.out; subst eo9) | ((with_reducible refine gf 15 ?_); refine gl 10 Tryd.func15 #[.agg #[.int .i64 t101, .slice Ao9 t111.length co9]] ?_; (with_reducible refine (spec_NetWrite.calls k t101 _ _ t111 t102 _ ?side1 ?side2 A4.out).mono ?_); (case side1 => exact qc (Kd.R_reads' HO116.out).2.2); (case side2 => exact (Kd.R_reads' HO116.out).2.1); rintro e w10 ⟨rfl, hb⟩; refine ⟨_, rfl, ?_⟩; replace HO116 := q0 (Kd.R_below (qr HO116.out) hb); replace HB := q0 (below_step (qj HB.out HI114.out) hb); replace HI114 := q0 (IsSRd.below (qi HI114.out) hb); (try clear hb); (try clear hb2); (try clear hk); (try clear hi)) | ((with_reducible refine gf 38 ?_); refine gl 12 Tryd.func38 #[.pointer (some ⟨g114, 0, none⟩), .int .i64 2] ?_; (with_reducible refine (spec_l6Rd_pick.calls k g114 t100 t112 2 t103 t113 w _ ?side1 ?side2 A5.out).mono ?_); (case side1 => exact qi HI114.out); (case side2 => exact qj HB.out HI114.out); rintro e w11 ⟨rfl, hi, hb, hk⟩; refine ⟨_, rfl, ?_⟩; replace HO116 := q0 (Kd.R_mono (Kd.R_keep (IsSRd.apart (show IsSRd w _ g114 t100 t112 from qi HI114.out) (qr HO116.out) (by decide)) hk (fun _ h => h.2)) (fun _ h => h.1)); replace HB := q0 (hb); replace HI114 := q0 (hi); (try clear hb); (try clear hb2); (try clear hk); (try clear hi)))
   go_ret
   exact ⟨qe, qj HB.out HI114.out⟩
 rw [if_neg c6] at H
 have c6b0 : (t103 == 0) = false := beq_eq_false_iff_ne.mpr c6
 have c6b1 : (t103 != 0) = true := bne_iff_ne.mpr c6
 obtain ⟨⟨t104, t117⟩, A12, H⟩ := ob H
 obtain ⟨⟨t105, t119⟩, A13, H⟩ := ob H
 by_cases c14 : t105 = 0
 · rw [if_pos c14] at H
   have c14b0 : (t105 == 0) = true := beq_iff_eq.mpr c14
   have c14b1 : (t105 != 0) = false := bne_eq_false_iff_eq.mpr c14
   clear c14
   obtain ⟨c15, H⟩ : (0 ≤ t104) ∧ _ := og H
   have c15b0 := eq_true c15
   have c15b1 := decide_eq_true c15
   clear c15
   obtain ⟨c16, H⟩ : (t104 ≤ (t102.size : Int)) ∧ _ := og H
   have c16b0 := eq_true c16
   have c16b1 := decide_eq_true c16
   clear c16
   obtain ⟨ji17, hji17⟩ : ∃ j_ : Int, (wrap64 (t104 + 1)) = j_ := ⟨_, rfl⟩
   replace H : (if 0 ≤ (ji17) then (if (ji17) ≤ (t102.size : Int) then (if (t102.extract 0 (t104 : Int).toNat).size + (t102.extract ((ji17) : Int).toNat t102.size).size ≤ 9223372036854775807 then (some ((t102.extract 0 (t104 : Int).toNat) ++ (t102.extract ((ji17) : Int).toNat t102.size))) else (none)) else (none)) else (none)) = some r := by first | (rw [hji17] at H; exact H) | (simp only [hji17] at H ⊢; exact H)
   (try rw [hji17] at A2)
   (try rw [hji17] at A3)
   (try rw [hji17] at A4)
   (try rw [hji17] at A5)
   (try rw [hji17] at A12)
   (try rw [hji17] at A13)
   have hji17w : (IntKind.i64.wrap (t104 + 1)) = ji17 := (i64_w _).trans hji17
   obtain ⟨c18, H⟩ : (0 ≤ (ji17)) ∧ _ := og H
   have c18b0 := eq_true c18
   have c18b1 := decide_eq_true c18
   clear c18
   obtain ⟨c19, H⟩ : ((ji17) ≤ (t102.size : Int)) ∧ _ := og H
   have c19b0 := eq_true c19
   have c19b1 := decide_eq_true c19
   clear c19
   obtain ⟨c20, H⟩ : ((t102.extract 0 (t104 : Int).toNat).size + (t102.extract ((ji17) : Int).toNat t102.size).size ≤ 9223372036854775807) ∧ _ := og H
   have c20b0 := eq_true c20
   have c20b1 := decide_eq_true c20
   try have c20b2 : (9223372036854775807 < (t102.extract 0 (t104 : Int).toNat).size + (t102.extract ((ji17) : Int).toNat t102.size).size) = False := eq_false (Nat.not_lt.2 c20)
   try have c20b9 : (9223372036854775807 < t104.toNat + (t102.size - ji17.toNat)) = False := eq_false (by have h_ := c20; have g0_ : ji17 ≤ (t102.size : Int) := of_decide_eq_true qa; have g1_ : t104 ≤ (t102.size : Int) := of_decide_eq_true qa; simp only [ByteArray.size_append, ByteArray.size_extract] at h_; omega)
   obtain rfl := Option.some.inj H
   go_enter Tryd.func19, Tryd.ntmps19
   try go_wp2_with (first | ((with_reducible refine gf 30 ?_); refine gl 7 Tryd.func30 #[.slice A0 l0.length c0] ?_; (with_reducible refine (spec_l6Open.calls _ _ l0 t100 t110 w _ ?side1 ?side2 ?side3 A2.out).mono ?_); (case side1 => exact qb HB.out); (case side2 => exact HR0.out); (case side3 => exact HC0.out); rintro e w21 ⟨g114, rfl, hi, hb, hb2⟩; refine ⟨_, rfl, ?_⟩; replace HB := q0 (hb); have HI114 := q0 (hi); (try clear hb); (try clear hb2); (try clear hk); (try clear hi)) | ((with_reducible refine gf 37 ?_); refine gl 9 Tryd.func37 #[.pointer (some ⟨g114, 0, none⟩)] ?_; (with_reducible refine (spec_l71Net.calls k g114 t100 t110 t101 t111 t112 w _ ?side1 ?side2 A3.out).mono ?_); (case side1 => exact qi HI114.out); (case side2 => exact qj HB.out HI114.out); rintro e w22 ⟨v115, rfl, ho0, hi, hb, hk⟩; refine ⟨_, rfl, ?_⟩; have HO116 := q0 (Kd.R_lower ho0 (below_size (qj HB.out HI114.out))); replace HB := q0 (hb); replace HI114 := q0 (hi); (try clear hb); (try clear hb2); (try clear hk); (try clear hi); (try clear ho0); obtain ⟨Ao23, co23, eo23⟩ := Kd.R_slice HO116.out; subst eo23) | ((with_reducible refine gf 15 ?_); refine gl 10 Tryd.func15 #[.agg #[.int .i64 t101, .slice Ao23 t111.length co23]] ?_; (with_reducible refine (spec_NetWrite.calls k t101 _ _ t111 t102 _ ?side1 ?side2 A4.out).mono ?_); (case side1 => exact qc (Kd.R_reads' HO116.out).2.2); (case side2 => exact (Kd.R_reads' HO116.out).2.1); rintro e w24 ⟨rfl, hb⟩; refine ⟨_, rfl, ?_⟩; replace HO116 := q0 (Kd.R_below (qr HO116.out) hb); replace HB := q0 (below_step (qj HB.out HI114.out) hb); replace HI114 := q0 (IsSRd.below (qi HI114.out) hb); (try clear hb); (try clear hb2); (try clear hk); (try clear hi)) | ((with_reducible refine gf 38 ?_); refine gl 12 Tryd.func38 #[.pointer (some ⟨g114, 0, none⟩), .int .i64 2] ?_; (with_reducible refine (spec_l6Rd_pick.calls k g114 t100 t112 2 t103 t113 w _ ?side1 ?side2 A5.out).mono ?_); (case side1 => exact qi HI114.out); (case side2 => exact qj HB.out HI114.out); rintro e w25 ⟨rfl, hi, hb, hk⟩; refine ⟨_, rfl, ?_⟩; replace HO116 := q0 (Kd.R_mono (Kd.R_keep (IsSRd.apart (show IsSRd w _ g114 t100 t112 from qi HI114.out) (qr HO116.out) (by decide)) hk (fun _ h => h.2)) (fun _ h => h.1)); replace HB := q0 (hb); replace HI114 := q0 (hi); (try clear hb); (try clear hb2); (try clear hk); (try clear hi)) | ((with_reducible refine gf 38 ?_); refine gl 18 Tryd.func38 #[.pointer (some ⟨g114, 0, none⟩), .int .i64 (t102.size : Int)] ?_; (with_reducible refine (spec_l6Rd_pick.calls k g114 t100 t113 (t102.size : Int) t104 t117 w _ ?side1 ?side2 A12.out).mono ?_); (case side1 => exact qi HI114.out); (case side2 => exact qj HB.out HI114.out); rintro e w26 ⟨rfl, hi, hb, hk⟩; refine ⟨_, rfl, ?_⟩; replace HO116 := q0 (Kd.R_mono (Kd.R_keep (IsSRd.apart (show IsSRd w _ g114 t100 t113 from qi HI114.out) (qr HO116.out) (by decide)) hk (fun _ h => h.2)) (fun _ h => h.1)); replace HB := q0 (hb); replace HI114 := q0 (hi); (try clear hb); (try clear hb2); (try clear hk); (try clear hi)) | ((with_reducible refine gf 38 ?_); refine gl 20 Tryd.func38 #[.pointer (some ⟨g114, 0, none⟩), .int .i64 6] ?_; (with_reducible refine (spec_l6Rd_pick.calls k g114 t100 t117 6 t105 t119 w _ ?side1 ?side2 A13.out).mono ?_); (case side1 => exact qi HI114.out); (case side2 => exact qj HB.out HI114.out); rintro e w27 ⟨rfl, hi, hb, hk⟩; refine ⟨_, rfl, ?_⟩; replace HO116 := q0 (Kd.R_mono (Kd.R_keep (IsSRd.apart (show IsSRd w _ g114 t100 t117 from qi HI114.out) (qr HO116.out) (by decide)) hk (fun _ h => h.2)) (fun _ h => h.1)); replace HB := q0 (hb); replace HI114 := q0 (hi); (try clear hb); (try clear hb2); (try clear hk); (try clear hi)))
   replace HO116 := q0 (Kd.R_drew HO116.out)
   replace HI114 := q0 (IsSRd.drew HI114.out)
   replace HB := q0 (below_drew1 HB.out)
   refine start_ (n := 9) (S := fun w' => True) (ds := []) (ba 9 0) (by kernel_rfl) rfl (by kernel_rfl) trivial (fun hHeld => ?_); refine with_tabW spec_DrawNetRead.tab8 spec_DrawNetRead.bits8 (fun HT_ HW_ => ?_)
   generalize w27.drew = w28 at HO116 HI114 HB hHeld ⊢
   refine pU 0 23 9 1 HT_ ?_
   refine pU 1 24 9 3 HT_ ?_
   refine pU 2 25 9 7 HT_ ?_
   refine pU 3 26 9 15 HT_ ?_
   refine pU 4 27 9 31 HT_ ?_
   refine pU 5 28 9 63 HT_ ?_
   refine pU 6 29 9 127 HT_ ?_
   refine pU 7 30 9 255 HT_ ?_
   refine pU 8 2 9 511 HT_ ?_
   refine done_ (done_of HT_.out (by kernel_rfl)) ?_
   try go_wp2
   go_ret
   exact ⟨by first | rfl | (simp [errW_none, errW_some] <;> rfl) | (simp only [← hji17]; first | rfl | (simp [errW_none, errW_some] <;> rfl)) | (simp [*, errW_none, errW_some] <;> rfl), qj HB.out HI114.out⟩
 rw [if_neg c14] at H
 have c14b0 : (t105 == 0) = false := beq_eq_false_iff_ne.mpr c14
 have c14b1 : (t105 != 0) = true := bne_iff_ne.mpr c14
 by_cases c29 : t105 = 1
 rotate_left
 · rw [if_neg c29] at H
   have c29b0 : (t105 == 1) = false := beq_eq_false_iff_ne.mpr c29
   have c29b1 : (t105 != 1) = true := bne_iff_ne.mpr c29
   by_cases c49 : t105 = 2
   · rw [if_pos c49] at H
     have c49b0 : (t105 == 2) = true := beq_iff_eq.mpr c49
     have c49b1 : (t105 != 2) = false := bne_eq_false_iff_eq.mpr c49
     clear c49
     obtain ⟨c50, H⟩ : (t102.size + t102.size ≤ 9223372036854775807) ∧ _ := og H
     have c50b0 := eq_true c50
     have c50b1 := decide_eq_true c50
     try have c50b2 : (9223372036854775807 < t102.size + t102.size) = False := eq_false (Nat.not_lt.2 c50)
     obtain rfl := Option.some.inj H
     go_enter Tryd.func19, Tryd.ntmps19
     go_wp2_with (first | ((with_reducible refine gf 30 ?_); refine gl 7 Tryd.func30 #[.slice A0 l0.length c0] ?_; (with_reducible refine (spec_l6Open.calls _ _ l0 t100 t110 w _ ?side1 ?side2 ?side3 A2.out).mono ?_); (case side1 => exact qb HB.out); (case side2 => exact HR0.out); (case side3 => exact HC0.out); rintro e w51 ⟨g114, rfl, hi, hb, hb2⟩; refine ⟨_, rfl, ?_⟩; replace HB := q0 (hb); have HI114 := q0 (hi); (try clear hb); (try clear hb2); (try clear hk); (try clear hi)) | ((with_reducible refine gf 37 ?_); refine gl 9 Tryd.func37 #[.pointer (some ⟨g114, 0, none⟩)] ?_; (with_reducible refine (spec_l71Net.calls k g114 t100 t110 t101 t111 t112 w _ ?side1 ?side2 A3.out).mono ?_); (case side1 => exact qi HI114.out); (case side2 => exact qj HB.out HI114.out); rintro e w52 ⟨v115, rfl, ho0, hi, hb, hk⟩; refine ⟨_, rfl, ?_⟩; have HO116 := q0 (Kd.R_lower ho0 (below_size (qj HB.out HI114.out))); replace HB := q0 (hb); replace HI114 := q0 (hi); (try clear hb); (try clear hb2); (try clear hk); (try clear hi); (try clear ho0); obtain ⟨Ao53, co53, eo53⟩ := Kd.R_slice HO116.out; subst eo53) | ((with_reducible refine gf 15 ?_); refine gl 10 Tryd.func15 #[.agg #[.int .i64 t101, .slice Ao53 t111.length co53]] ?_; (with_reducible refine (spec_NetWrite.calls k t101 _ _ t111 t102 _ ?side1 ?side2 A4.out).mono ?_); (case side1 => exact qc (Kd.R_reads' HO116.out).2.2); (case side2 => exact (Kd.R_reads' HO116.out).2.1); rintro e w54 ⟨rfl, hb⟩; refine ⟨_, rfl, ?_⟩; replace HO116 := q0 (Kd.R_below (qr HO116.out) hb); replace HB := q0 (below_step (qj HB.out HI114.out) hb); replace HI114 := q0 (IsSRd.below (qi HI114.out) hb); (try clear hb); (try clear hb2); (try clear hk); (try clear hi)) | ((with_reducible refine gf 38 ?_); refine gl 12 Tryd.func38 #[.pointer (some ⟨g114, 0, none⟩), .int .i64 2] ?_; (with_reducible refine (spec_l6Rd_pick.calls k g114 t100 t112 2 t103 t113 w _ ?side1 ?side2 A5.out).mono ?_); (case side1 => exact qi HI114.out); (case side2 => exact qj HB.out HI114.out); rintro e w55 ⟨rfl, hi, hb, hk⟩; refine ⟨_, rfl, ?_⟩; replace HO116 := q0 (Kd.R_mono (Kd.R_keep (IsSRd.apart (show IsSRd w _ g114 t100 t112 from qi HI114.out) (qr HO116.out) (by decide)) hk (fun _ h => h.2)) (fun _ h => h.1)); replace HB := q0 (hb); replace HI114 := q0 (hi); (try clear hb); (try clear hb2); (try clear hk); (try clear hi)) | ((with_reducible refine gf 38 ?_); refine gl 18 Tryd.func38 #[.pointer (some ⟨g114, 0, none⟩), .int .i64 (t102.size : Int)] ?_; (with_reducible refine (spec_l6Rd_pick.calls k g114 t100 t113 (t102.size : Int) t104 t117 w _ ?side1 ?side2 A12.out).mono ?_); (case side1 => exact qi HI114.out); (case side2 => exact qj HB.out HI114.out); rintro e w56 ⟨rfl, hi, hb, hk⟩; refine ⟨_, rfl, ?_⟩; replace HO116 := q0 (Kd.R_mono (Kd.R_keep (IsSRd.apart (show IsSRd w _ g114 t100 t113 from qi HI114.out) (qr HO116.out) (by decide)) hk (fun _ h => h.2)) (fun _ h => h.1)); replace HB := q0 (hb); replace HI114 := q0 (hi); (try clear hb); (try clear hb2); (try clear hk); (try clear hi)) | ((with_reducible refine gf 38 ?_); refine gl 20 Tryd.func38 #[.pointer (some ⟨g114, 0, none⟩), .int .i64 6] ?_; (with_reducible refine (spec_l6Rd_pick.calls k g114 t100 t117 6 t105 t119 w _ ?side1 ?side2 A13.out).mono ?_); (case side1 => exact qi HI114.out); (case side2 => exact qj HB.out HI114.out); rintro e w57 ⟨rfl, hi, hb, hk⟩; refine ⟨_, rfl, ?_⟩; replace HO116 := q0 (Kd.R_mono (Kd.R_keep (IsSRd.apart (show IsSRd w _ g114 t100 t117 from qi HI114.out) (qr HO116.out) (by decide)) hk (fun _ h => h.2)) (fun _ h => h.1)); replace HB := q0 (hb); replace HI114 := q0 (hi); (try clear hb); (try clear hb2); (try clear hk); (try clear hi)))
     go_ret
     exact ⟨qe, qj HB.out HI114.out⟩
   rw [if_neg c49] at H
   have c49b0 : (t105 == 2) = false := beq_eq_false_iff_ne.mpr c49
   have c49b1 : (t105 != 2) = true := bne_iff_ne.mpr c49
   by_cases c58 : t105 = 3
   · rw [if_pos c58] at H
     have c58b0 : (t105 == 3) = true := beq_iff_eq.mpr c58
     have c58b1 : (t105 != 3) = false := bne_eq_false_iff_eq.mpr c58
     clear c58
     obtain ⟨c59, H⟩ : (0 ≤ t104) ∧ _ := og H
     have c59b0 := eq_true c59
     have c59b1 := decide_eq_true c59
     clear c59
     obtain ⟨c60, H⟩ : (t104 ≤ (t102.size : Int)) ∧ _ := og H
     have c60b0 := eq_true c60
     have c60b1 := decide_eq_true c60
     clear c60
     obtain rfl := Option.some.inj H
     go_enter Tryd.func19, Tryd.ntmps19
     go_wp2_with (first | ((with_reducible refine gf 30 ?_); refine gl 7 Tryd.func30 #[.slice A0 l0.length c0] ?_; (with_reducible refine (spec_l6Open.calls _ _ l0 t100 t110 w _ ?side1 ?side2 ?side3 A2.out).mono ?_); (case side1 => exact qb HB.out); (case side2 => exact HR0.out); (case side3 => exact HC0.out); rintro e w61 ⟨g114, rfl, hi, hb, hb2⟩; refine ⟨_, rfl, ?_⟩; replace HB := q0 (hb); have HI114 := q0 (hi); (try clear hb); (try clear hb2); (try clear hk); (try clear hi)) | ((with_reducible refine gf 37 ?_); refine gl 9 Tryd.func37 #[.pointer (some ⟨g114, 0, none⟩)] ?_; (with_reducible refine (spec_l71Net.calls k g114 t100 t110 t101 t111 t112 w _ ?side1 ?side2 A3.out).mono ?_); (case side1 => exact qi HI114.out); (case side2 => exact qj HB.out HI114.out); rintro e w62 ⟨v115, rfl, ho0, hi, hb, hk⟩; refine ⟨_, rfl, ?_⟩; have HO116 := q0 (Kd.R_lower ho0 (below_size (qj HB.out HI114.out))); replace HB := q0 (hb); replace HI114 := q0 (hi); (try clear hb); (try clear hb2); (try clear hk); (try clear hi); (try clear ho0); obtain ⟨Ao63, co63, eo63⟩ := Kd.R_slice HO116.out; subst eo63) | ((with_reducible refine gf 15 ?_); refine gl 10 Tryd.func15 #[.agg #[.int .i64 t101, .slice Ao63 t111.length co63]] ?_; (with_reducible refine (spec_NetWrite.calls k t101 _ _ t111 t102 _ ?side1 ?side2 A4.out).mono ?_); (case side1 => exact qc (Kd.R_reads' HO116.out).2.2); (case side2 => exact (Kd.R_reads' HO116.out).2.1); rintro e w64 ⟨rfl, hb⟩; refine ⟨_, rfl, ?_⟩; replace HO116 := q0 (Kd.R_below (qr HO116.out) hb); replace HB := q0 (below_step (qj HB.out HI114.out) hb); replace HI114 := q0 (IsSRd.below (qi HI114.out) hb); (try clear hb); (try clear hb2); (try clear hk); (try clear hi)) | ((with_reducible refine gf 38 ?_); refine gl 12 Tryd.func38 #[.pointer (some ⟨g114, 0, none⟩), .int .i64 2] ?_; (with_reducible refine (spec_l6Rd_pick.calls k g114 t100 t112 2 t103 t113 w _ ?side1 ?side2 A5.out).mono ?_); (case side1 => exact qi HI114.out); (case side2 => exact qj HB.out HI114.out); rintro e w65 ⟨rfl, hi, hb, hk⟩; refine ⟨_, rfl, ?_⟩; replace HO116 := q0 (Kd.R_mono (Kd.R_keep (IsSRd.apart (show IsSRd w _ g114 t100 t112 from qi HI114.out) (qr HO116.out) (by decide)) hk (fun _ h => h.2)) (fun _ h => h.1)); replace HB := q0 (hb); replace HI114 := q0 (hi); (try clear hb); (try clear hb2); (try clear hk); (try clear hi)) | ((with_reducible refine gf 38 ?_); refine gl 18 Tryd.func38 #[.pointer (some ⟨g114, 0, none⟩), .int .i64 (t102.size : Int)] ?_; (with_reducible refine (spec_l6Rd_pick.calls k g114 t100 t113 (t102.size : Int) t104 t117 w _ ?side1 ?side2 A12.out).mono ?_); (case side1 => exact qi HI114.out); (case side2 => exact qj HB.out HI114.out); rintro e w66 ⟨rfl, hi, hb, hk⟩; refine ⟨_, rfl, ?_⟩; replace HO116 := q0 (Kd.R_mono (Kd.R_keep (IsSRd.apart (show IsSRd w _ g114 t100 t113 from qi HI114.out) (qr HO116.out) (by decide)) hk (fun _ h => h.2)) (fun _ h => h.1)); replace HB := q0 (hb); replace HI114 := q0 (hi); (try clear hb); (try clear hb2); (try clear hk); (try clear hi)) | ((with_reducible refine gf 38 ?_); refine gl 20 Tryd.func38 #[.pointer (some ⟨g114, 0, none⟩), .int .i64 6] ?_; (with_reducible refine (spec_l6Rd_pick.calls k g114 t100 t117 6 t105 t119 w _ ?side1 ?side2 A13.out).mono ?_); (case side1 => exact qi HI114.out); (case side2 => exact qj HB.out HI114.out); rintro e w67 ⟨rfl, hi, hb, hk⟩; refine ⟨_, rfl, ?_⟩; replace HO116 := q0 (Kd.R_mono (Kd.R_keep (IsSRd.apart (show IsSRd w _ g114 t100 t117 from qi HI114.out) (qr HO116.out) (by decide)) hk (fun _ h => h.2)) (fun _ h => h.1)); replace HB := q0 (hb); replace HI114 := q0 (hi); (try clear hb); (try clear hb2); (try clear hk); (try clear hi)))
     go_ret
     exact ⟨qe, qj HB.out HI114.out⟩
   rw [if_neg c58] at H
   have c58b0 : (t105 == 3) = false := beq_eq_false_iff_ne.mpr c58
   have c58b1 : (t105 != 3) = true := bne_iff_ne.mpr c58
   by_cases c68 : t105 = 4
   rotate_left
   · rw [if_neg c68] at H
     have c68b0 : (t105 == 4) = false := beq_eq_false_iff_ne.mpr c68
     have c68b1 : (t105 != 4) = true := bne_iff_ne.mpr c68
     obtain ⟨t108, A82, H⟩ := ob H
     obtain ⟨y132, hy132⟩ : ∃ y_ : List ByteArray, y_ = (([(⟨#[]⟩ : ByteArray), (⟨#[107, 110, 111, 116, 115, 32, 48, 10]⟩ : ByteArray), (⟨#[107, 110, 111, 116, 115, 32, 56, 10]⟩ : ByteArray), (⟨#[107, 110, 111, 116, 115, 32, 57, 10]⟩ : ByteArray), (⟨#[107, 110, 111, 116, 115, 32, 48, 51, 10]⟩ : ByteArray), (⟨#[116, 105, 101, 32, 48, 32, 49, 10]⟩ : ByteArray), (⟨#[107, 110, 111, 116, 115, 32, 50, 10, 116, 105, 101, 32, 48, 32, 49]⟩ : ByteArray), t108] : List ByteArray)) := ⟨_, rfl⟩
     replace H : ((spec_l6Rd_of.f k t100 t119 y132).bind fun bt109 => (some bt109.1)) = some r := qy H hy132
     have Ny132 := q0 hy132
     clear hy132
     obtain ⟨⟨t109, t133⟩, A83, H⟩ := ob H
     obtain rfl := Option.some.inj H
     go_enter Tryd.func19, Tryd.ntmps19
     go_wp2_with (first | ((with_reducible refine gf 30 ?_); refine gl 7 Tryd.func30 #[.slice A0 l0.length c0] ?_; (with_reducible refine (spec_l6Open.calls _ _ l0 t100 t110 w _ ?side1 ?side2 ?side3 A2.out).mono ?_); (case side1 => exact qb HB.out); (case side2 => exact HR0.out); (case side3 => exact HC0.out); rintro e w84 ⟨g114, rfl, hi, hb, hb2⟩; refine ⟨_, rfl, ?_⟩; replace HB := q0 (hb); have HI114 := q0 (hi); (try clear hb); (try clear hb2); (try clear hk); (try clear hi)) | ((with_reducible refine gf 37 ?_); refine gl 9 Tryd.func37 #[.pointer (some ⟨g114, 0, none⟩)] ?_; (with_reducible refine (spec_l71Net.calls k g114 t100 t110 t101 t111 t112 w _ ?side1 ?side2 A3.out).mono ?_); (case side1 => exact qi HI114.out); (case side2 => exact qj HB.out HI114.out); rintro e w85 ⟨v115, rfl, ho0, hi, hb, hk⟩; refine ⟨_, rfl, ?_⟩; have HO116 := q0 (Kd.R_lower ho0 (below_size (qj HB.out HI114.out))); replace HB := q0 (hb); replace HI114 := q0 (hi); (try clear hb); (try clear hb2); (try clear hk); (try clear hi); (try clear ho0); obtain ⟨Ao86, co86, eo86⟩ := Kd.R_slice HO116.out; subst eo86) | ((with_reducible refine gf 15 ?_); refine gl 10 Tryd.func15 #[.agg #[.int .i64 t101, .slice Ao86 t111.length co86]] ?_; (with_reducible refine (spec_NetWrite.calls k t101 _ _ t111 t102 _ ?side1 ?side2 A4.out).mono ?_); (case side1 => exact qc (Kd.R_reads' HO116.out).2.2); (case side2 => exact (Kd.R_reads' HO116.out).2.1); rintro e w87 ⟨rfl, hb⟩; refine ⟨_, rfl, ?_⟩; replace HO116 := q0 (Kd.R_below (qr HO116.out) hb); replace HB := q0 (below_step (qj HB.out HI114.out) hb); replace HI114 := q0 (IsSRd.below (qi HI114.out) hb); (try clear hb); (try clear hb2); (try clear hk); (try clear hi)) | ((with_reducible refine gf 38 ?_); refine gl 12 Tryd.func38 #[.pointer (some ⟨g114, 0, none⟩), .int .i64 2] ?_; (with_reducible refine (spec_l6Rd_pick.calls k g114 t100 t112 2 t103 t113 w _ ?side1 ?side2 A5.out).mono ?_); (case side1 => exact qi HI114.out); (case side2 => exact qj HB.out HI114.out); rintro e w88 ⟨rfl, hi, hb, hk⟩; refine ⟨_, rfl, ?_⟩; replace HO116 := q0 (Kd.R_mono (Kd.R_keep (IsSRd.apart (show IsSRd w _ g114 t100 t112 from qi HI114.out) (qr HO116.out) (by decide)) hk (fun _ h => h.2)) (fun _ h => h.1)); replace HB := q0 (hb); replace HI114 := q0 (hi); (try clear hb); (try clear hb2); (try clear hk); (try clear hi)) | ((with_reducible refine gf 38 ?_); refine gl 18 Tryd.func38 #[.pointer (some ⟨g114, 0, none⟩), .int .i64 (t102.size : Int)] ?_; (with_reducible refine (spec_l6Rd_pick.calls k g114 t100 t113 (t102.size : Int) t104 t117 w _ ?side1 ?side2 A12.out).mono ?_); (case side1 => exact qi HI114.out); (case side2 => exact qj HB.out HI114.out); rintro e w89 ⟨rfl, hi, hb, hk⟩; refine ⟨_, rfl, ?_⟩; replace HO116 := q0 (Kd.R_mono (Kd.R_keep (IsSRd.apart (show IsSRd w _ g114 t100 t113 from qi HI114.out) (qr HO116.out) (by decide)) hk (fun _ h => h.2)) (fun _ h => h.1)); replace HB := q0 (hb); replace HI114 := q0 (hi); (try clear hb); (try clear hb2); (try clear hk); (try clear hi)) | ((with_reducible refine gf 38 ?_); refine gl 20 Tryd.func38 #[.pointer (some ⟨g114, 0, none⟩), .int .i64 6] ?_; (with_reducible refine (spec_l6Rd_pick.calls k g114 t100 t117 6 t105 t119 w _ ?side1 ?side2 A13.out).mono ?_); (case side1 => exact qi HI114.out); (case side2 => exact qj HB.out HI114.out); rintro e w90 ⟨rfl, hi, hb, hk⟩; refine ⟨_, rfl, ?_⟩; replace HO116 := q0 (Kd.R_mono (Kd.R_keep (IsSRd.apart (show IsSRd w _ g114 t100 t117 from qi HI114.out) (qr HO116.out) (by decide)) hk (fun _ h => h.2)) (fun _ h => h.1)); replace HB := q0 (hb); replace HI114 := q0 (hi); (try clear hb); (try clear hb2); (try clear hk); (try clear hi)) | ((with_reducible refine gf 40 ?_); refine gl 62 Tryd.func40 #[.string (⟨#[32]⟩ : ByteArray), .int .i64 601] ?_; (with_reducible refine (spec_l6Many.calls k (⟨#[32]⟩ : ByteArray) 601 t108 _ A82.out).mono ?_); rintro e w' ⟨rfl, ⟨nd, rfl⟩⟩; refine ⟨_, rfl, ?_⟩) | ((with_reducible refine gd 63 ?_); refine Kd.R_lit Kd.string _ 9 ?hg (N := 63) ?hd (xs := ([(⟨#[]⟩ : ByteArray), (⟨#[107, 110, 111, 116, 115, 32, 48, 10]⟩ : ByteArray), (⟨#[107, 110, 111, 116, 115, 32, 56, 10]⟩ : ByteArray), (⟨#[107, 110, 111, 116, 115, 32, 57, 10]⟩ : ByteArray), (⟨#[107, 110, 111, 116, 115, 32, 48, 51, 10]⟩ : ByteArray), (⟨#[116, 105, 101, 32, 48, 32, 49, 10]⟩ : ByteArray), (⟨#[107, 110, 111, 116, 115, 32, 50, 10, 116, 105, 101, 32, 48, 32, 49]⟩ : ByteArray), t108] : List ByteArray)) (inner := [.string (⟨#[]⟩ : ByteArray), .string (⟨#[107, 110, 111, 116, 115, 32, 48, 10]⟩ : ByteArray), .string (⟨#[107, 110, 111, 116, 115, 32, 56, 10]⟩ : ByteArray), .string (⟨#[107, 110, 111, 116, 115, 32, 57, 10]⟩ : ByteArray), .string (⟨#[107, 110, 111, 116, 115, 32, 48, 51, 10]⟩ : ByteArray), .string (⟨#[116, 105, 101, 32, 48, 32, 49, 10]⟩ : ByteArray), .string (⟨#[107, 110, 111, 116, 115, 32, 50, 10, 116, 105, 101, 32, 48, 32, 49]⟩ : ByteArray), .string t108]) (ok := fun _ => True) (okp := fun _ => True) ?hr ?hp (fun _ hk => hk) trivial (Below.refl _ _) (Nat.le_refl _) (by simp) ?_; (case hd => rfl); (case hg => rfl); (case hr => first | (go_simp; done) | (go_simp; rfl)); (case hp => exact (Reps.one (show Kd.M Kd.string _ _ _ (⟨#[]⟩ : ByteArray) [.string (⟨#[]⟩ : ByteArray)] from rfl) (Reps.one (show Kd.M Kd.string _ _ _ (⟨#[107, 110, 111, 116, 115, 32, 48, 10]⟩ : ByteArray) [.string (⟨#[107, 110, 111, 116, 115, 32, 48, 10]⟩ : ByteArray)] from rfl) (Reps.one (show Kd.M Kd.string _ _ _ (⟨#[107, 110, 111, 116, 115, 32, 56, 10]⟩ : ByteArray) [.string (⟨#[107, 110, 111, 116, 115, 32, 56, 10]⟩ : ByteArray)] from rfl) (Reps.one (show Kd.M Kd.string _ _ _ (⟨#[107, 110, 111, 116, 115, 32, 57, 10]⟩ : ByteArray) [.string (⟨#[107, 110, 111, 116, 115, 32, 57, 10]⟩ : ByteArray)] from rfl) (Reps.one (show Kd.M Kd.string _ _ _ (⟨#[107, 110, 111, 116, 115, 32, 48, 51, 10]⟩ : ByteArray) [.string (⟨#[107, 110, 111, 116, 115, 32, 48, 51, 10]⟩ : ByteArray)] from rfl) (Reps.one (show Kd.M Kd.string _ _ _ (⟨#[116, 105, 101, 32, 48, 32, 49, 10]⟩ : ByteArray) [.string (⟨#[116, 105, 101, 32, 48, 32, 49, 10]⟩ : ByteArray)] from rfl) (Reps.one (show Kd.M Kd.string _ _ _ (⟨#[107, 110, 111, 116, 115, 32, 50, 10, 116, 105, 101, 32, 48, 32, 49]⟩ : ByteArray) [.string (⟨#[107, 110, 111, 116, 115, 32, 50, 10, 116, 105, 101, 32, 48, 32, 49]⟩ : ByteArray)] from rfl) (Reps.one (show Kd.M Kd.string _ _ _ t108 [.string t108] from rfl) (Reps.none _ _)))))))))); intro v135 w91 ho92 hb hg_ hnew_; clear hg_ hnew_; (first | rw [← Ny132.out] at ho92 | (simp only [Int.reduceToNat] at ho92; rw [← Ny132.out] at ho92)); replace HO116 := q0 (Kd.R_below (qr HO116.out) hb); have HO136 := q0 (Kd.R_lower ho92 (below_size (qj HB.out HI114.out))); replace HB := q0 (below_step (qj HB.out HI114.out) hb); replace HI114 := q0 (IsSRd.below (qi HI114.out) hb); clear hb ho92; obtain ⟨Ao93, co93, eo93⟩ := Kd.R_slice HO136.out; subst eo93) | ((with_reducible refine gf 39 ?_); refine gl 64 Tryd.func39 #[.pointer (some ⟨g114, 0, none⟩), .slice Ao93 y132.length co93] ?_; (with_reducible refine (spec_l6Rd_of.calls k g114 t100 t119 _ _ y132 t109 t133 w _ ?side1 ?side2 ?side3 ?side4 ?side5 A83.out).mono ?_); (case side1 => exact qi HI114.out); (case side2 => exact qj HB.out HI114.out); (case side3 => exact qc (Kd.R_reads' HO136.out).2.2); (case side4 => exact (Kd.R_reads' HO136.out).2.1); (case side5 => exact far_slice (IsSRd.own_ne HI114.out HO136.out (by decide))); rintro e w94 ⟨rfl, hi, hb, hk⟩; refine ⟨_, rfl, ?_⟩; replace HO116 := q0 (Kd.R_mono (Kd.R_keep (IsSRd.apart (show IsSRd w _ g114 t100 t119 from qi HI114.out) (qr HO116.out) (by decide)) hk (fun _ h => h.2)) (fun _ h => h.1)); replace HO136 := q0 (Kd.R_mono (Kd.R_keep (IsSRd.apart (show IsSRd w _ g114 t100 t119 from qi HI114.out) (qr HO136.out) (by decide)) hk (fun _ h => h.2)) (fun _ h => h.1)); replace HB := q0 (hb); replace HI114 := q0 (hi); (try clear hb); (try clear hb2); (try clear hk); (try clear hi)))
     go_ret
     exact ⟨qe, qj HB.out HI114.out⟩
   rw [if_pos c68] at H
   have c68b0 : (t105 == 4) = true := beq_iff_eq.mpr c68
   have c68b1 : (t105 != 4) = false := bne_eq_false_iff_eq.mpr c68
   clear c68
   obtain ⟨y126, hy126⟩ : ∃ y_ : List ByteArray, y_ = (([(⟨#[116, 105, 101, 32, 48, 32, 48, 10]⟩ : ByteArray), (⟨#[116, 105, 101, 32, 49, 32, 48, 10]⟩ : ByteArray), (⟨#[116, 105, 101, 32, 48, 32, 57, 10]⟩ : ByteArray), (⟨#[116, 105, 101, 32, 54, 32, 55, 10]⟩ : ByteArray), (⟨#[107, 110, 111, 116, 115, 32, 51, 10]⟩ : ByteArray)] : List ByteArray)) := ⟨_, rfl⟩
   replace H : ((spec_l6Rd_of.f k t100 t119 y126).bind fun bt107 => (if t102.size + bt107.1.size ≤ 9223372036854775807 then (some (t102 ++ bt107.1)) else (none))) = some r := qy H hy126
   have Ny126 := q0 hy126
   clear hy126
   obtain ⟨⟨t107, t127⟩, A69, H⟩ := ob H
   obtain ⟨c70, H⟩ : (t102.size + t107.size ≤ 9223372036854775807) ∧ _ := og H
   have c70b0 := eq_true c70
   have c70b1 := decide_eq_true c70
   try have c70b2 : (9223372036854775807 < t102.size + t107.size) = False := eq_false (Nat.not_lt.2 c70)
   obtain rfl := Option.some.inj H
   go_enter Tryd.func19, Tryd.ntmps19
   go_wp2_with (first | ((with_reducible refine gf 30 ?_); refine gl 7 Tryd.func30 #[.slice A0 l0.length c0] ?_; (with_reducible refine (spec_l6Open.calls _ _ l0 t100 t110 w _ ?side1 ?side2 ?side3 A2.out).mono ?_); (case side1 => exact qb HB.out); (case side2 => exact HR0.out); (case side3 => exact HC0.out); rintro e w71 ⟨g114, rfl, hi, hb, hb2⟩; refine ⟨_, rfl, ?_⟩; replace HB := q0 (hb); have HI114 := q0 (hi); (try clear hb); (try clear hb2); (try clear hk); (try clear hi)) | ((with_reducible refine gf 37 ?_); refine gl 9 Tryd.func37 #[.pointer (some ⟨g114, 0, none⟩)] ?_; (with_reducible refine (spec_l71Net.calls k g114 t100 t110 t101 t111 t112 w _ ?side1 ?side2 A3.out).mono ?_); (case side1 => exact qi HI114.out); (case side2 => exact qj HB.out HI114.out); rintro e w72 ⟨v115, rfl, ho0, hi, hb, hk⟩; refine ⟨_, rfl, ?_⟩; have HO116 := q0 (Kd.R_lower ho0 (below_size (qj HB.out HI114.out))); replace HB := q0 (hb); replace HI114 := q0 (hi); (try clear hb); (try clear hb2); (try clear hk); (try clear hi); (try clear ho0); obtain ⟨Ao73, co73, eo73⟩ := Kd.R_slice HO116.out; subst eo73) | ((with_reducible refine gf 15 ?_); refine gl 10 Tryd.func15 #[.agg #[.int .i64 t101, .slice Ao73 t111.length co73]] ?_; (with_reducible refine (spec_NetWrite.calls k t101 _ _ t111 t102 _ ?side1 ?side2 A4.out).mono ?_); (case side1 => exact qc (Kd.R_reads' HO116.out).2.2); (case side2 => exact (Kd.R_reads' HO116.out).2.1); rintro e w74 ⟨rfl, hb⟩; refine ⟨_, rfl, ?_⟩; replace HO116 := q0 (Kd.R_below (qr HO116.out) hb); replace HB := q0 (below_step (qj HB.out HI114.out) hb); replace HI114 := q0 (IsSRd.below (qi HI114.out) hb); (try clear hb); (try clear hb2); (try clear hk); (try clear hi)) | ((with_reducible refine gf 38 ?_); refine gl 12 Tryd.func38 #[.pointer (some ⟨g114, 0, none⟩), .int .i64 2] ?_; (with_reducible refine (spec_l6Rd_pick.calls k g114 t100 t112 2 t103 t113 w _ ?side1 ?side2 A5.out).mono ?_); (case side1 => exact qi HI114.out); (case side2 => exact qj HB.out HI114.out); rintro e w75 ⟨rfl, hi, hb, hk⟩; refine ⟨_, rfl, ?_⟩; replace HO116 := q0 (Kd.R_mono (Kd.R_keep (IsSRd.apart (show IsSRd w _ g114 t100 t112 from qi HI114.out) (qr HO116.out) (by decide)) hk (fun _ h => h.2)) (fun _ h => h.1)); replace HB := q0 (hb); replace HI114 := q0 (hi); (try clear hb); (try clear hb2); (try clear hk); (try clear hi)) | ((with_reducible refine gf 38 ?_); refine gl 18 Tryd.func38 #[.pointer (some ⟨g114, 0, none⟩), .int .i64 (t102.size : Int)] ?_; (with_reducible refine (spec_l6Rd_pick.calls k g114 t100 t113 (t102.size : Int) t104 t117 w _ ?side1 ?side2 A12.out).mono ?_); (case side1 => exact qi HI114.out); (case side2 => exact qj HB.out HI114.out); rintro e w76 ⟨rfl, hi, hb, hk⟩; refine ⟨_, rfl, ?_⟩; replace HO116 := q0 (Kd.R_mono (Kd.R_keep (IsSRd.apart (show IsSRd w _ g114 t100 t113 from qi HI114.out) (qr HO116.out) (by decide)) hk (fun _ h => h.2)) (fun _ h => h.1)); replace HB := q0 (hb); replace HI114 := q0 (hi); (try clear hb); (try clear hb2); (try clear hk); (try clear hi)) | ((with_reducible refine gf 38 ?_); refine gl 20 Tryd.func38 #[.pointer (some ⟨g114, 0, none⟩), .int .i64 6] ?_; (with_reducible refine (spec_l6Rd_pick.calls k g114 t100 t117 6 t105 t119 w _ ?side1 ?side2 A13.out).mono ?_); (case side1 => exact qi HI114.out); (case side2 => exact qj HB.out HI114.out); rintro e w77 ⟨rfl, hi, hb, hk⟩; refine ⟨_, rfl, ?_⟩; replace HO116 := q0 (Kd.R_mono (Kd.R_keep (IsSRd.apart (show IsSRd w _ g114 t100 t117 from qi HI114.out) (qr HO116.out) (by decide)) hk (fun _ h => h.2)) (fun _ h => h.1)); replace HB := q0 (hb); replace HI114 := q0 (hi); (try clear hb); (try clear hb2); (try clear hk); (try clear hi)) | ((with_reducible refine gd 58 ?_); refine Kd.R_lit Kd.string _ 9 ?hg (N := 58) ?hd (xs := ([(⟨#[116, 105, 101, 32, 48, 32, 48, 10]⟩ : ByteArray), (⟨#[116, 105, 101, 32, 49, 32, 48, 10]⟩ : ByteArray), (⟨#[116, 105, 101, 32, 48, 32, 57, 10]⟩ : ByteArray), (⟨#[116, 105, 101, 32, 54, 32, 55, 10]⟩ : ByteArray), (⟨#[107, 110, 111, 116, 115, 32, 51, 10]⟩ : ByteArray)] : List ByteArray)) (inner := [.string (⟨#[116, 105, 101, 32, 48, 32, 48, 10]⟩ : ByteArray), .string (⟨#[116, 105, 101, 32, 49, 32, 48, 10]⟩ : ByteArray), .string (⟨#[116, 105, 101, 32, 48, 32, 57, 10]⟩ : ByteArray), .string (⟨#[116, 105, 101, 32, 54, 32, 55, 10]⟩ : ByteArray), .string (⟨#[107, 110, 111, 116, 115, 32, 51, 10]⟩ : ByteArray)]) (ok := fun _ => True) (okp := fun _ => True) ?hr ?hp (fun _ hk => hk) trivial (Below.refl _ _) (Nat.le_refl _) (by simp) ?_; (case hd => rfl); (case hg => rfl); (case hr => first | (go_simp; done) | (go_simp; rfl)); (case hp => exact (Reps.one (show Kd.M Kd.string _ _ _ (⟨#[116, 105, 101, 32, 48, 32, 48, 10]⟩ : ByteArray) [.string (⟨#[116, 105, 101, 32, 48, 32, 48, 10]⟩ : ByteArray)] from rfl) (Reps.one (show Kd.M Kd.string _ _ _ (⟨#[116, 105, 101, 32, 49, 32, 48, 10]⟩ : ByteArray) [.string (⟨#[116, 105, 101, 32, 49, 32, 48, 10]⟩ : ByteArray)] from rfl) (Reps.one (show Kd.M Kd.string _ _ _ (⟨#[116, 105, 101, 32, 48, 32, 57, 10]⟩ : ByteArray) [.string (⟨#[116, 105, 101, 32, 48, 32, 57, 10]⟩ : ByteArray)] from rfl) (Reps.one (show Kd.M Kd.string _ _ _ (⟨#[116, 105, 101, 32, 54, 32, 55, 10]⟩ : ByteArray) [.string (⟨#[116, 105, 101, 32, 54, 32, 55, 10]⟩ : ByteArray)] from rfl) (Reps.one (show Kd.M Kd.string _ _ _ (⟨#[107, 110, 111, 116, 115, 32, 51, 10]⟩ : ByteArray) [.string (⟨#[107, 110, 111, 116, 115, 32, 51, 10]⟩ : ByteArray)] from rfl) (Reps.none _ _))))))); intro v129 w78 ho79 hb hg_ hnew_; clear hg_ hnew_; (first | rw [← Ny126.out] at ho79 | (simp only [Int.reduceToNat] at ho79; rw [← Ny126.out] at ho79)); replace HO116 := q0 (Kd.R_below (qr HO116.out) hb); have HO130 := q0 (Kd.R_lower ho79 (below_size (qj HB.out HI114.out))); replace HB := q0 (below_step (qj HB.out HI114.out) hb); replace HI114 := q0 (IsSRd.below (qi HI114.out) hb); clear hb ho79; obtain ⟨Ao80, co80, eo80⟩ := Kd.R_slice HO130.out; subst eo80) | ((with_reducible refine gf 39 ?_); refine gl 59 Tryd.func39 #[.pointer (some ⟨g114, 0, none⟩), .slice Ao80 y126.length co80] ?_; (with_reducible refine (spec_l6Rd_of.calls k g114 t100 t119 _ _ y126 t107 t127 w _ ?side1 ?side2 ?side3 ?side4 ?side5 A69.out).mono ?_); (case side1 => exact qi HI114.out); (case side2 => exact qj HB.out HI114.out); (case side3 => exact qc (Kd.R_reads' HO130.out).2.2); (case side4 => exact (Kd.R_reads' HO130.out).2.1); (case side5 => exact far_slice (IsSRd.own_ne HI114.out HO130.out (by decide))); rintro e w81 ⟨rfl, hi, hb, hk⟩; refine ⟨_, rfl, ?_⟩; replace HO116 := q0 (Kd.R_mono (Kd.R_keep (IsSRd.apart (show IsSRd w _ g114 t100 t119 from qi HI114.out) (qr HO116.out) (by decide)) hk (fun _ h => h.2)) (fun _ h => h.1)); replace HO130 := q0 (Kd.R_mono (Kd.R_keep (IsSRd.apart (show IsSRd w _ g114 t100 t119 from qi HI114.out) (qr HO130.out) (by decide)) hk (fun _ h => h.2)) (fun _ h => h.1)); replace HB := q0 (hb); replace HI114 := q0 (hi); (try clear hb); (try clear hb2); (try clear hk); (try clear hi)))
   go_ret
   exact ⟨qe, qj HB.out HI114.out⟩
 rw [if_pos c29] at H
 have c29b0 : (t105 == 1) = true := beq_iff_eq.mpr c29
 have c29b1 : (t105 != 1) = false := bne_eq_false_iff_eq.mpr c29
 clear c29
 obtain ⟨c30, H⟩ : (0 ≤ t104) ∧ _ := og H
 have c30b0 := eq_true c30
 have c30b1 := decide_eq_true c30
 clear c30
 obtain ⟨c31, H⟩ : (t104 ≤ (t102.size : Int)) ∧ _ := og H
 have c31b0 := eq_true c31
 have c31b1 := decide_eq_true c31
 clear c31
 obtain ⟨y121, hy121⟩ : ∃ y_ : List ByteArray, y_ = (([(⟨#[32]⟩ : ByteArray), (⟨#[10]⟩ : ByteArray), (⟨#[48]⟩ : ByteArray), (⟨#[116, 105, 101, 32, 48, 32, 49, 10]⟩ : ByteArray), (⟨#[57]⟩ : ByteArray)] : List ByteArray)) := ⟨_, rfl⟩
 replace H : ((spec_l6Rd_of.f k t100 t119 y121).bind fun bt106 => (if (t102.extract 0 (t104 : Int).toNat).size + bt106.1.size ≤ 9223372036854775807 then (if ((t102.extract 0 (t104 : Int).toNat) ++ bt106.1).size + (t102.extract (t104 : Int).toNat t102.size).size ≤ 9223372036854775807 then (some (((t102.extract 0 (t104 : Int).toNat) ++ bt106.1) ++ (t102.extract (t104 : Int).toNat t102.size))) else (none)) else (none))) = some r := qy H hy121
 have Ny121 := q0 hy121
 clear hy121
 obtain ⟨⟨t106, t122⟩, A32, H⟩ := ob H
 obtain ⟨c33, H⟩ : ((t102.extract 0 (t104 : Int).toNat).size + t106.size ≤ 9223372036854775807) ∧ _ := og H
 have c33b0 := eq_true c33
 have c33b1 := decide_eq_true c33
 try have c33b2 : (9223372036854775807 < (t102.extract 0 (t104 : Int).toNat).size + t106.size) = False := eq_false (Nat.not_lt.2 c33)
 try have c33b9 : (9223372036854775807 < t104.toNat + t106.size) = False := eq_false (by have h_ := c33; have g0_ : t104 ≤ (t102.size : Int) := of_decide_eq_true qa; simp only [ByteArray.size_append, ByteArray.size_extract] at h_; omega)
 have c34b0 := eq_true (of_decide_eq_true qa : 0 ≤ t104)
 have c35b0 := eq_true (of_decide_eq_true qa : t104 ≤ (t102.size : Int))
 obtain ⟨c36, H⟩ : (((t102.extract 0 (t104 : Int).toNat) ++ t106).size + (t102.extract (t104 : Int).toNat t102.size).size ≤ 9223372036854775807) ∧ _ := og H
 have c36b0 := eq_true c36
 have c36b1 := decide_eq_true c36
 try have c36b2 : (9223372036854775807 < ((t102.extract 0 (t104 : Int).toNat) ++ t106).size + (t102.extract (t104 : Int).toNat t102.size).size) = False := eq_false (Nat.not_lt.2 c36)
 try have c36b7 : (9223372036854775807 < (t102.extract 0 (t104 : Int).toNat).size + t106.size + (t102.extract (t104 : Int).toNat t102.size).size) = False := by have h_ := c36; simp only [ByteArray.size_append] at h_; exact eq_false (Nat.not_lt.2 h_)
 try have c36b9 : (9223372036854775807 < t104.toNat + t106.size + (t102.size - t104.toNat)) = False := eq_false (by have h_ := c36; have g0_ : t104 ≤ (t102.size : Int) := of_decide_eq_true qa; simp only [ByteArray.size_append, ByteArray.size_extract] at h_; omega)
 obtain rfl := Option.some.inj H
 go_enter Tryd.func19, Tryd.ntmps19
 try go_wp2_with (first | ((with_reducible refine gf 30 ?_); refine gl 7 Tryd.func30 #[.slice A0 l0.length c0] ?_; (with_reducible refine (spec_l6Open.calls _ _ l0 t100 t110 w _ ?side1 ?side2 ?side3 A2.out).mono ?_); (case side1 => exact qb HB.out); (case side2 => exact HR0.out); (case side3 => exact HC0.out); rintro e w37 ⟨g114, rfl, hi, hb, hb2⟩; refine ⟨_, rfl, ?_⟩; replace HB := q0 (hb); have HI114 := q0 (hi); (try clear hb); (try clear hb2); (try clear hk); (try clear hi)) | ((with_reducible refine gf 37 ?_); refine gl 9 Tryd.func37 #[.pointer (some ⟨g114, 0, none⟩)] ?_; (with_reducible refine (spec_l71Net.calls k g114 t100 t110 t101 t111 t112 w _ ?side1 ?side2 A3.out).mono ?_); (case side1 => exact qi HI114.out); (case side2 => exact qj HB.out HI114.out); rintro e w38 ⟨v115, rfl, ho0, hi, hb, hk⟩; refine ⟨_, rfl, ?_⟩; have HO116 := q0 (Kd.R_lower ho0 (below_size (qj HB.out HI114.out))); replace HB := q0 (hb); replace HI114 := q0 (hi); (try clear hb); (try clear hb2); (try clear hk); (try clear hi); (try clear ho0); obtain ⟨Ao39, co39, eo39⟩ := Kd.R_slice HO116.out; subst eo39) | ((with_reducible refine gf 15 ?_); refine gl 10 Tryd.func15 #[.agg #[.int .i64 t101, .slice Ao39 t111.length co39]] ?_; (with_reducible refine (spec_NetWrite.calls k t101 _ _ t111 t102 _ ?side1 ?side2 A4.out).mono ?_); (case side1 => exact qc (Kd.R_reads' HO116.out).2.2); (case side2 => exact (Kd.R_reads' HO116.out).2.1); rintro e w40 ⟨rfl, hb⟩; refine ⟨_, rfl, ?_⟩; replace HO116 := q0 (Kd.R_below (qr HO116.out) hb); replace HB := q0 (below_step (qj HB.out HI114.out) hb); replace HI114 := q0 (IsSRd.below (qi HI114.out) hb); (try clear hb); (try clear hb2); (try clear hk); (try clear hi)) | ((with_reducible refine gf 38 ?_); refine gl 12 Tryd.func38 #[.pointer (some ⟨g114, 0, none⟩), .int .i64 2] ?_; (with_reducible refine (spec_l6Rd_pick.calls k g114 t100 t112 2 t103 t113 w _ ?side1 ?side2 A5.out).mono ?_); (case side1 => exact qi HI114.out); (case side2 => exact qj HB.out HI114.out); rintro e w41 ⟨rfl, hi, hb, hk⟩; refine ⟨_, rfl, ?_⟩; replace HO116 := q0 (Kd.R_mono (Kd.R_keep (IsSRd.apart (show IsSRd w _ g114 t100 t112 from qi HI114.out) (qr HO116.out) (by decide)) hk (fun _ h => h.2)) (fun _ h => h.1)); replace HB := q0 (hb); replace HI114 := q0 (hi); (try clear hb); (try clear hb2); (try clear hk); (try clear hi)) | ((with_reducible refine gf 38 ?_); refine gl 18 Tryd.func38 #[.pointer (some ⟨g114, 0, none⟩), .int .i64 (t102.size : Int)] ?_; (with_reducible refine (spec_l6Rd_pick.calls k g114 t100 t113 (t102.size : Int) t104 t117 w _ ?side1 ?side2 A12.out).mono ?_); (case side1 => exact qi HI114.out); (case side2 => exact qj HB.out HI114.out); rintro e w42 ⟨rfl, hi, hb, hk⟩; refine ⟨_, rfl, ?_⟩; replace HO116 := q0 (Kd.R_mono (Kd.R_keep (IsSRd.apart (show IsSRd w _ g114 t100 t113 from qi HI114.out) (qr HO116.out) (by decide)) hk (fun _ h => h.2)) (fun _ h => h.1)); replace HB := q0 (hb); replace HI114 := q0 (hi); (try clear hb); (try clear hb2); (try clear hk); (try clear hi)) | ((with_reducible refine gf 38 ?_); refine gl 20 Tryd.func38 #[.pointer (some ⟨g114, 0, none⟩), .int .i64 6] ?_; (with_reducible refine (spec_l6Rd_pick.calls k g114 t100 t117 6 t105 t119 w _ ?side1 ?side2 A13.out).mono ?_); (case side1 => exact qi HI114.out); (case side2 => exact qj HB.out HI114.out); rintro e w43 ⟨rfl, hi, hb, hk⟩; refine ⟨_, rfl, ?_⟩; replace HO116 := q0 (Kd.R_mono (Kd.R_keep (IsSRd.apart (show IsSRd w _ g114 t100 t117 from qi HI114.out) (qr HO116.out) (by decide)) hk (fun _ h => h.2)) (fun _ h => h.1)); replace HB := q0 (hb); replace HI114 := q0 (hi); (try clear hb); (try clear hb2); (try clear hk); (try clear hi)))
 replace HO116 := q0 (Kd.R_drew HO116.out)
 replace HI114 := q0 (IsSRd.drew HI114.out)
 replace HB := q0 (below_drew1 HB.out)
 refine start_ (n := 12) (S := fun w' => True) (ds := []) (ba 12 0) (by kernel_rfl) rfl (by kernel_rfl) trivial (fun hHeld => ?_); refine with_tabW spec_DrawNetRead.tab10 spec_DrawNetRead.bits10 (fun HT_ HW_ => ?_)
 generalize w43.drew = w44 at HO116 HI114 HB hHeld ⊢
 refine pU 0 33 12 1 HT_ ?_
 refine pU 1 34 12 3 HT_ ?_
 refine pU 2 35 12 7 HT_ ?_
 refine pU 3 36 12 15 HT_ ?_
 refine pU 7 40 12 143 HT_ ?_
 refine pU 8 41 12 399 HT_ ?_
 refine pU 9 42 12 911 HT_ ?_
 refine one_ (i := 4) (N := some 37) (ba 12 927) rfl rfl (one_of HT_.out (by kernel_rfl)) (by decide) (fun K hK => ?_)
 refine Kd.R_lit_step Kd.string _ 9 ?hg (N := 37) ?hd (xs := ([(⟨#[32]⟩ : ByteArray), (⟨#[10]⟩ : ByteArray), (⟨#[48]⟩ : ByteArray), (⟨#[116, 105, 101, 32, 48, 32, 49, 10]⟩ : ByteArray), (⟨#[57]⟩ : ByteArray)] : List ByteArray)) (inner := [.string (⟨#[32]⟩ : ByteArray), .string (⟨#[10]⟩ : ByteArray), .string (⟨#[48]⟩ : ByteArray), .string (⟨#[116, 105, 101, 32, 48, 32, 49, 10]⟩ : ByteArray), .string (⟨#[57]⟩ : ByteArray)]) (ok := fun _ => True) (okp := fun _ => True) ?hr ?hp (fun _ hk => hk) trivial (Below.refl _ _) (Nat.le_refl _) (by simp) ?_; (case hd => rfl); (case hg => rfl); (case hr => first | (go_simp; done) | (go_simp; rfl)); (case hp => exact (Reps.one (show Kd.M Kd.string _ _ _ (⟨#[32]⟩ : ByteArray) [.string (⟨#[32]⟩ : ByteArray)] from rfl) (Reps.one (show Kd.M Kd.string _ _ _ (⟨#[10]⟩ : ByteArray) [.string (⟨#[10]⟩ : ByteArray)] from rfl) (Reps.one (show Kd.M Kd.string _ _ _ (⟨#[48]⟩ : ByteArray) [.string (⟨#[48]⟩ : ByteArray)] from rfl) (Reps.one (show Kd.M Kd.string _ _ _ (⟨#[116, 105, 101, 32, 48, 32, 49, 10]⟩ : ByteArray) [.string (⟨#[116, 105, 101, 32, 48, 32, 49, 10]⟩ : ByteArray)] from rfl) (Reps.one (show Kd.M Kd.string _ _ _ (⟨#[57]⟩ : ByteArray) [.string (⟨#[57]⟩ : ByteArray)] from rfl) (Reps.none _ _)))))))
 intro v124 w45 ho46 hb hg_ hnew_
 clear hg_ hnew_
 (first | rw [← Ny121.out] at ho46 | (simp only [Int.reduceToNat] at ho46; rw [← Ny121.out] at ho46))
 replace HO116 := q0 (Kd.R_below (qr HO116.out) hb)
 have HO125 := q0 (Kd.R_lower ho46 (below_size (qj HB.out HI114.out)))
 replace HB := q0 (below_step (qj HB.out HI114.out) hb)
 replace HI114 := q0 (IsSRd.below (qi HI114.out) hb)
 clear hb ho46
 obtain ⟨Ao47, co47, eo47⟩ := Kd.R_slice HO125.out
 (first | subst eo47 | (injection eo47 with f1_ f2_ f3_; have f4_ := f1_.symm; have f5_ := f3_.symm; clear f1_ f2_ f3_; subst f4_; subst f5_))
 refine hK.out _ _ trivial (fun hHeld => ?_)
 clear hK K
 refine nu 37 ?_
 refine one_ (i := 5) (N := some 38) (ba 12 959) rfl rfl (one_of HT_.out (by kernel_rfl)) (by decide) (fun K hK => ?_)
 refine goes_ Tryd.func39 (by kernel_rfl) rfl #[.pointer (some ⟨g114, 0, none⟩), .slice Ao47 y121.length co47] (by rfl) rfl rfl qm ?_
 with_reducible refine (spec_l6Rd_of.calls k g114 t100 t119 _ _ y121 t106 t122 w _ ?side1 ?side2 ?side3 ?side4 ?side5 A32.out).mono ?_
 (case side1 => exact qi HI114.out)
 (case side2 => exact qj HB.out HI114.out)
 (case side3 => exact qc (Kd.R_reads' HO125.out).2.2)
 (case side4 => exact (Kd.R_reads' HO125.out).2.1)
 (case side5 => exact far_slice (IsSRd.own_ne HI114.out HO125.out (by decide)))
 rintro e w48 ⟨rfl, hi, hb, hk⟩
 refine ⟨_, rfl, ?_⟩
 replace HO116 := q0 (Kd.R_mono (Kd.R_keep (IsSRd.apart (show IsSRd w _ g114 t100 t119 from qi HI114.out) (qr HO116.out) (by decide)) hk (fun _ h => h.2)) (fun _ h => h.1))
 replace HO125 := q0 (Kd.R_mono (Kd.R_keep (IsSRd.apart (show IsSRd w _ g114 t100 t119 from qi HI114.out) (qr HO125.out) (by decide)) hk (fun _ h => h.2)) (fun _ h => h.1))
 replace HB := q0 (hb)
 replace HI114 := q0 (hi)
 (try clear hb)
 (try clear hb2)
 (try clear hk)
 (try clear hi)
 refine hK.out _ _ trivial (fun hHeld => ?_)
 clear hK K
 refine nu 38 ?_
 refine pU 6 39 12 1023 HT_ ?_
 refine pU 10 43 12 2047 HT_ ?_
 refine pU 11 2 12 4095 HT_ ?_
 refine done_ (done_of HT_.out (by kernel_rfl)) ?_
 try go_wp2
 go_ret
 exact ⟨qe, qj HB.out HI114.out⟩

set_option maxHeartbeats 8000000 in
set_option maxRecDepth 100000 in
theorem laws_FnNetStrict.calls (k : Nat) (A0 : Option Addr) (c0 : Nat) (l0 : List Int) (r : Bool) (w : World) (hG_ : Gl w) (hr0 : Kd.C (Kd.int .u8) w A0 l0.length l0) (hc0 : l0.length ≤ c0) (h : laws_FnNetStrict.f k l0 = some r) :
    Calls Tryd.prog 5 #[.slice A0 l0.length c0] w fun e w' => e = .returned (.bool r) ∧ Below w.heap.size w w' := by
 have hu24 := Tryd.underlying24
 have HR0 := q0 hr0
 have HC0 := q0 hc0
 clear hr0 hc0
 have HG_ := q0 hG_
 clear hG_
 have HB := q0 (Below.refl w.heap.size w)
 have H : (if (l0.length : Int) > 1048576 then (some true) else ((spec_DrawNetRead.f k l0).bind fun t103 => ((spec_NetRead.f k t103).bind fun bt104 => ((impl_NetRead.f k t103).bind fun bt105 => (if (bt105.2.2 != bt104.2.2) = true then (laws_FnNetStrict.j0 k t103 bt105.2.2 true bt105.1 bt105.2.1) else ((laws_loNet.f k bt105.1 bt105.2.1 bt104.1 bt104.2.1).bind fun t100 => (laws_FnNetStrict.j0 k t103 bt105.2.2 (!t100) bt105.1 bt105.2.1))))))) = some r := h
 clear h
 by_cases c2 : (l0.length : Int) > 1048576
 · rw [if_pos c2] at H
   have c2b0 := decide_eq_true c2
   have c2b1 : decide (1048576 < l0.length) = true := decide_eq_true (by omega)
   clear c2
   obtain rfl := Option.some.inj H
   go_enter Tryd.func5, Tryd.ntmps5
   go_wp2
   go_ret
   exact ⟨qe, qb HB.out⟩
 rw [if_neg c2] at H
 have c2b0 := decide_eq_false c2
 have c2b1 : decide (1048576 < l0.length) = false := decide_eq_false (by omega)
 clear c2
 obtain ⟨t103, A3, H⟩ := ob H
 obtain ⟨⟨t104, t106, t107⟩, A4, H⟩ := ob H
 obtain ⟨⟨t105, t108, t109⟩, A5, H⟩ := ob H
 have HC6 := q0 H
 clear H
 go_enter Tryd.func5, Tryd.ntmps5
 go_upto_region 6 with (first | ((with_reducible refine gf 19 ?_); refine gl 12 Tryd.func19 #[.slice A0 l0.length c0] ?_; (with_reducible refine (spec_DrawNetRead.calls k _ _ l0 t103 _ ?side1 ?side2 A3.out).mono ?_); (case side1 => repeat (first | exact HR0.out | (with_reducible refine Kd.C_alloc ?_ _) | (with_reducible refine Kd.C_drewN ?_ _) | (with_reducible refine Kd.C_drew ?_))); (case side2 => exact HC0.out); rintro e w7 ⟨rfl, hb⟩; refine ⟨_, rfl, ?_⟩; replace HB := bp HB hb; (try clear hb); (try clear hb2); (try clear hk); (try clear hi)) | ((with_reducible refine gf 8 ?_); refine gl 15 Tryd.func8 #[.string t103] ?_; (with_reducible refine (spec_NetRead.calls k t103 t104 t106 t107 _ A4.out).mono ?_); rintro e w8 ⟨v110, rfl, ho0, hb⟩; refine ⟨_, rfl, ?_⟩; have HO111 := q0 (Kd.R_lower ho0 (below_size (qb HB.out))); replace HB := bp HB hb; (try clear hb); (try clear hb2); (try clear hk); (try clear hi); (try clear ho0)) | ((with_reducible refine gd 4 ?_); (try (refine gate_guard (by rfl) ?_; dsimp only)); refine be 4 #[.int .i64 0, .slice none 0 0] 24 ?_; intro gb112 hg w9 hbox hb; replace HO111 := q0 (Kd.R_below (qr HO111.out) hb); have BK112 := q0 (hbox); have GW112 := gw HB hg; have GE112 := gw HB hg; replace HB := bp HB hb; clear hb hbox hg; obtain ⟨hcz10_0, hcz10_1, hfz10_0, hfz10_1⟩ := b2 BK112; obtain ⟨Ao11, co11, eo11⟩ := Kd.R_slice HO111.out; subst eo11) | ((with_reducible refine gf 9 ?_); refine gl 20 Tryd.func9 #[.string t103] ?_; (with_reducible refine (impl_NetRead.calls k t103 t105 t108 t109 _ ?sideG A5.out).mono ?_); (case sideG => exact HG_.out.below (qb HB.out)); rintro e w12 ⟨v113, rfl, ho0, hb⟩; refine ⟨_, rfl, ?_⟩; have HO114 := q0 (Kd.R_lower (Kd.R_new' ho0 (Kd.R_lt (by (with_reducible repeat (first | apply Kd.R_alloc | apply Kd.R_drewN | apply Kd.R_drew)); exact (rf2 HO111.out BK112.out (fun _ h_ => h_.1))))) (below_size (qb HB.out))); replace HO111 := q0 (Kd.R_elder' (by (with_reducible repeat (first | apply Kd.R_alloc | apply Kd.R_drewN | apply Kd.R_drew)); exact (rf2 HO111.out BK112.out (fun _ h_ => h_.1))) (Kd.R_base ho0) hb); replace BK112 := q0 (blk_below (g := gb112) (o := .cells #[.int .i64 t104, .slice Ao11 t106.length co11] 24 (0, 0)) (by (with_reducible repeat (first | refine blk_drewN ?_ _ | refine blk_drew ?_ | refine blk_alloc ?_ _)); refine blk_put (cs := #[.int .i64 t104, .slice none 0 0]) ?_ 1 _ rfl; (with_reducible repeat (first | refine blk_drewN ?_ _ | refine blk_drew ?_ | refine blk_alloc ?_ _)); refine blk_put (cs := #[.int .i64 0, .slice none 0 0]) ?_ 0 _ rfl; (with_reducible repeat (first | refine blk_drewN ?_ _ | refine blk_drew ?_ | refine blk_alloc ?_ _)); exact BK112.out) hb); replace HB := bp HB hb; (try clear hb); (try clear hb2); (try clear hk); (try clear hi); (try clear ho0)) | ((with_reducible refine gd 6 ?_); (try (refine gate_guard (by rfl) ?_; dsimp only)); refine be 6 #[.int .i64 0, .slice none 0 0] 24 ?_; intro gb115 hg w13 hbox hb; replace HO111 := q0 (Kd.R_below (qr HO111.out) hb); replace HO114 := q0 (Kd.R_below (qr HO114.out) hb); have BK115 := q0 (hbox); have GW115 := gw HB hg; have GE115 := gw HB hg; replace HB := bp HB hb; have NB112_115 := nl BK112 hg; have NB115_112 := ng BK112 hg; replace BK112 := kd BK112 hb; clear hb hbox hg; have hnb14 := NB115_112.out; have hnc14 := NB112_115.out; obtain ⟨hcz15_0, hcz15_1, hfz15_0, hfz15_1⟩ := b2 BK115; obtain ⟨Ao16, co16, eo16⟩ := Kd.R_slice HO114.out; subst eo16))
 (try simp only [Act.put, List.setIfInBounds_toArray, List.set_cons_zero, List.set_cons_succ])
 go_cut [31] (fun v31 wc => ∃ (kq : Nat) (x31_5 : Bool), v31 = .bool x31_5 ∧ Aside0 (laws_FnNetStrict.j0 kq t103 t109 x31_5 t105 t108 = some r) ∧ Aside0 (kq ≤ k) ∧ Aside0 (Kd.R kTie 47 wc w.heap.size (fun k_ => some k_ ≠ ((.slice Ao16 t108.length co16) : Value).ownBlock) (.slice Ao11 t106.length co11) t106) ∧ Aside0 (Kd.R kTie 47 wc w.heap.size (fun k_ => some k_ ≠ ((.slice Ao11 t106.length co11) : Value).ownBlock) (.slice Ao16 t108.length co16) t108) ∧ Aside0 (wc.heap[gb112]? = some (.cells #[.int .i64 t104, (.slice Ao11 t106.length co11)] 24 (0, 0))) ∧ Aside0 (wc.heap[gb115]? = some (.cells #[.int .i64 t105, (.slice Ao16 t108.length co16)] 24 (0, 0))) ∧ Aside0 (Below w.heap.size w wc))
 case first =>
   have H := HC6.out
   clear HC6
   by_cases c17 : (t109 != t107) = true
   · rw [if_pos c17] at H
     have c17b0 : (t109 != t107) = true := c17
     (try (have c17b1 : decide (t109 = t107) = false := by simpa using c17))
     (try (have c17b2 : (t109 == t107) = false := by simpa using c17))
     (try (have c17b3 : ¬ (t109 = t107) := by simpa using c17))
     clear c17
     (first | rw [c17b0] | (simp only [i64_w, i32_w]; rw [c17b0]) | skip)
     have H' := q0 H
     clear H
     go_wp2
     go_meet
     case rel => exact ⟨_, (true), qs, H', ⟨by first | omega | exact Nat.le_refl _⟩, ⟨by (with_reducible repeat (first | apply Kd.R_alloc | apply Kd.R_drewN | apply Kd.R_drew)); exact rf2 HO111.out BK115.out (fun _ hk => hk.1.2)⟩, ⟨by (with_reducible repeat (first | apply Kd.R_alloc | apply Kd.R_drewN | apply Kd.R_drew)); exact rf2 HO114.out BK115.out (fun _ hk => hk.1.2)⟩, ⟨qf BK112.out⟩, ⟨by (with_reducible repeat (first | refine blk_drewN ?_ _ | refine blk_drew ?_ | refine blk_alloc ?_ _)); refine blk_put (cs := #[.int .i64 t105, .slice none 0 0]) ?_ 1 _ rfl; (with_reducible repeat (first | refine blk_drewN ?_ _ | refine blk_drew ?_ | refine blk_alloc ?_ _)); refine blk_put (cs := #[.int .i64 0, .slice none 0 0]) ?_ 0 _ rfl; (with_reducible repeat (first | refine blk_drewN ?_ _ | refine blk_drew ?_ | refine blk_alloc ?_ _)); exact BK115.out⟩, ⟨qb HB.out⟩⟩
   rw [if_neg c17] at H
   have c17b0 : (t109 != t107) = false := by simpa using c17
   (try (have c17b1 : decide (t109 = t107) = true := by simpa using c17))
   (try (have c17b2 : (t109 == t107) = true := by simpa using c17))
   clear c17
   (first | rw [c17b0] | (simp only [i64_w, i32_w]; rw [c17b0]) | skip)
   obtain ⟨t100, A18, H⟩ := ob H
   have H' := q0 H
   clear H
   have hnb19 := NB115_112.out
   have hnc19 := NB112_115.out
   obtain ⟨hcz20_0, hcz20_1, hfz20_0, hfz20_1⟩ := b2 BK115
   obtain ⟨hcz21_0, hcz21_1, hfz21_0, hfz21_1⟩ := b2 BK112
   go_wp2_with (first | (go_at_call 18; (with_reducible refine (laws_loNet.calls k t105 _ _ t108 t104 _ _ t106 t100 _ ?side1 ?side2 ?side3 ?side4 A18.out).mono ?_); (case side1 => refine (Kd.R_reads' (e := 47) (base := w.heap.size) (ok := fun k_ => (True ∧ some k_ ≠ (.slice Ao11 t106.length co11 : Value).ownBlock)) (n := t108.length) (c := co16) ?_).2.2; exact (by (with_reducible repeat (first | apply Kd.R_alloc | apply Kd.R_drewN | apply Kd.R_drew)); exact (rf2 HO114.out BK115.out (fun _ h_ => h_.1)))); (case side2 => exact (Kd.R_reads' HO114.out).2.1); (case side3 => refine (Kd.R_reads' (e := 47) (base := w.heap.size) (ok := fun k_ => (True ∧ some k_ ≠ (.slice Ao16 t108.length co16 : Value).ownBlock)) (n := t106.length) (c := co11) ?_).2.2; exact (by (with_reducible repeat (first | apply Kd.R_alloc | apply Kd.R_drewN | apply Kd.R_drew)); exact (rf2 HO111.out BK115.out (fun _ h_ => h_.1)))); (case side4 => exact (Kd.R_reads' HO111.out).2.1); rintro e w22 ⟨rfl, hb⟩; replace HO111 := q0 (Kd.R_below (by (with_reducible repeat (first | apply Kd.R_alloc | apply Kd.R_drewN | apply Kd.R_drew)); exact (rf2 HO111.out BK115.out (fun _ h_ => h_.1))) hb); replace HO114 := q0 (Kd.R_below (by (with_reducible repeat (first | apply Kd.R_alloc | apply Kd.R_drewN | apply Kd.R_drew)); exact (rf2 HO114.out BK115.out (fun _ h_ => h_.1))) hb); replace BK112 := q0 (kf BK112.out hb); replace BK115 := q0 (blk_below (g := gb115) (o := .cells #[.int .i64 t105, .slice Ao16 t108.length co16] 24 (0, 0)) (by (with_reducible repeat (first | refine blk_drewN ?_ _ | refine blk_drew ?_ | refine blk_alloc ?_ _)); refine blk_put (cs := #[.int .i64 t105, .slice none 0 0]) ?_ 1 _ rfl; (with_reducible repeat (first | refine blk_drewN ?_ _ | refine blk_drew ?_ | refine blk_alloc ?_ _)); refine blk_put (cs := #[.int .i64 0, .slice none 0 0]) ?_ 0 _ rfl; (with_reducible repeat (first | refine blk_drewN ?_ _ | refine blk_drew ?_ | refine blk_alloc ?_ _)); exact BK115.out) hb); replace HB := bp HB hb; (try clear hb); (try clear hb2); (try clear hk); (try clear hi)))
   go_meet
   case rel => exact ⟨_, (!t100), qs, H', ⟨by first | omega | exact Nat.le_refl _⟩, ⟨by (with_reducible repeat (first | apply Kd.R_alloc | apply Kd.R_drewN | apply Kd.R_drew)); exact Kd.R_mono HO111.out (fun _ hk => hk.2)⟩, ⟨by (with_reducible repeat (first | apply Kd.R_alloc | apply Kd.R_drewN | apply Kd.R_drew)); exact Kd.R_mono HO114.out (fun _ hk => hk.2)⟩, ⟨qk BK112.out⟩, ⟨qk BK115.out⟩, ⟨qb HB.out⟩⟩
 clear HC6
 try clear c1
 try clear c2
 try clear c2b0
 try clear c2b1
 try clear p2
 try clear c5
 try clear c8
 try clear c9
 try clear c14
 try clear c17
 try clear c17b0
 try clear c17b1
 try clear c17b2
 try clear c19
 try clear hcz10_0
 try clear hcz10_1
 try clear hcz15_0
 try clear hcz15_1
 try clear hcz20_0
 try clear hcz20_1
 try clear hcz21_0
 try clear hcz21_1
 try clear hfz10_0
 try clear hfz10_1
 try clear hfz15_0
 try clear hfz15_1
 try clear hfz20_0
 try clear hfz20_1
 try clear hfz21_0
 try clear hfz21_1
 obtain ⟨kq, x31_5, rfl, HA, HJ5, HO_105001, HO_100001, BK112, BK115, HB⟩ := hcut
 rcases kq with _ | kj5
 · exact absurd HA.out (by simp [laws_FnNetStrict.j0])
 have H := HA.out
 clear HA
 simp only [laws_FnNetStrict.j0] at H
 by_cases c23 : x31_5 = true
 · subst c23
   rw [if_pos rfl] at H
   obtain rfl := Option.some.inj H
   go_wp2
   go_ret
   exact ⟨qe, qb HB.out⟩
 replace c23 := Bool.eq_false_iff.mpr c23
 subst c23
 rw [if_neg nf] at H
 by_cases c24 : t109 = true
 rotate_left
 · replace c24 := Bool.eq_false_iff.mpr c24
   subst c24
   rw [if_neg nf] at H
   by_cases c36 : (t108.length : Int) = 0
   · rw [if_pos c36] at H
     have c36b0 : ((t108.length : Int) == 0) = true := beq_iff_eq.mpr c36
     have c36b1 : ((t108.length : Int) != 0) = false := bne_eq_false_iff_eq.mpr c36
     clear c36
     obtain rfl := Option.some.inj H
     have hnb37 := NB115_112.out
     have hnc37 := NB112_115.out
     obtain ⟨hcz38_0, hcz38_1, hfz38_0, hfz38_1⟩ := b2 BK115
     go_wp2
     go_ret
     exact ⟨qe, qb HB.out⟩
   rw [if_neg c36] at H
   have c36b0 : ((t108.length : Int) == 0) = false := beq_eq_false_iff_ne.mpr c36
   have c36b1 : ((t108.length : Int) != 0) = true := bne_iff_ne.mpr c36
   have c36b2 : ¬ (t108 = []) := fun h_ => c36 (by rw [h_]; rfl)
   obtain rfl := Option.some.inj H
   have hnb39 := NB115_112.out
   have hnc39 := NB112_115.out
   obtain ⟨hcz40_0, hcz40_1, hfz40_0, hfz40_1⟩ := b2 BK115
   go_wp2
   go_ret
   exact ⟨qe, qb HB.out⟩
 subst c24
 rw [if_pos rfl] at H
 obtain ⟨t101, A25, H⟩ := ob H
 by_cases c26 : t101 = true
 rotate_left
 · replace c26 := Bool.eq_false_iff.mpr c26
   subst c26
   rw [if_neg nf] at H
   obtain rfl := Option.some.inj H
   have hnb33 := NB115_112.out
   have hnc33 := NB112_115.out
   obtain ⟨hcz34_0, hcz34_1, hfz34_0, hfz34_1⟩ := b2 BK115
   go_wp2_with (first | (go_at_call 16; (with_reducible refine (impl_NetOk.calls kj5 t105 _ _ t108 false _ ?side1 ?side2 A25.out).mono ?_); (case side1 => exact qc (Kd.R_reads' HO_100001.out).2.2); (case side2 => exact (Kd.R_reads' HO_100001.out).2.1); rintro e w35 ⟨rfl, hb⟩; replace HO_105001 := q0 (Kd.R_below (qr HO_105001.out) hb); replace HO_100001 := q0 (Kd.R_below (qr HO_100001.out) hb); replace BK112 := kd BK112 hb; replace BK115 := kd BK115 hb; replace HB := bp HB hb; (try clear hb); (try clear hb2); (try clear hk); (try clear hi)))
   go_ret
   exact ⟨qe, qb HB.out⟩
 subst c26
 rw [if_pos rfl] at H
 obtain ⟨t102, A27, H⟩ := ob H
 obtain rfl := Option.some.inj H
 have hnb28 := NB115_112.out
 have hnc28 := NB112_115.out
 obtain ⟨hcz29_0, hcz29_1, hfz29_0, hfz29_1⟩ := b2 BK115
 go_wp2_with (first | (go_at_call 16; (with_reducible refine (impl_NetOk.calls kj5 t105 _ _ t108 true _ ?side1 ?side2 A25.out).mono ?_); (case side1 => exact qc (Kd.R_reads' HO_100001.out).2.2); (case side2 => exact (Kd.R_reads' HO_100001.out).2.1); rintro e w30 ⟨rfl, hb⟩; replace HO_105001 := q0 (Kd.R_below (qr HO_105001.out) hb); replace HO_100001 := q0 (Kd.R_below (qr HO_100001.out) hb); replace BK112 := kd BK112 hb; replace BK115 := kd BK115 hb; replace HB := bp HB hb; (try clear hb); (try clear hb2); (try clear hk); (try clear hi); obtain ⟨hcz31_0, hcz31_1, hfz31_0, hfz31_1⟩ := b2 BK115) | (go_at_call 14; (with_reducible refine (impl_NetWrite.calls kj5 t105 _ _ t108 t102 _ ?side1 ?side2 A27.out).mono ?_); (case side1 => exact qc (Kd.R_reads' HO_100001.out).2.2); (case side2 => exact (Kd.R_reads' HO_100001.out).2.1); rintro e w32 ⟨rfl, hb⟩; replace HO_105001 := q0 (Kd.R_below (qr HO_105001.out) hb); replace HO_100001 := q0 (Kd.R_below (qr HO_100001.out) hb); replace BK112 := kd BK112 hb; replace BK115 := kd BK115 hb; replace HB := bp HB hb; (try clear hb); (try clear hb2); (try clear hk); (try clear hi)))
 go_ret
 exact ⟨qe, qb HB.out⟩

end Go.Proofs.YtloonheabfdgbaaDoor.P
