import Derived.Test.YtheoebelhgbejaaP0
import Derived.Test.YtheoebelhgbejaaP8
import Derived.Test.YtheoebelhgbejaaP14
import Derived.Test.YtheoebelhgbejaaP15
namespace Go.Proofs.Ytheoebelhgbejaa.P
open Go.RowKit Go.Proofs.YtheoebelhgbejaaW.PrintWords Go.Proofs.YtheoebelhgbejaaW.PrintLast Go.Proofs.YtheoebelhgbejaaW.PrintMore
attribute [local go_sem] max2_int min2_int max_two min_two max_three min_three max_four min_four
set_option linter.unusedVariables false
set_option linter.unusedSimpArgs false
attribute [local go_sem high] eqATie
set_option maxHeartbeats 8000000 in
set_option maxRecDepth 100000 in
theorem laws_eqIntS.calls (k : Nat) (A0 : Option Addr) (c0 : Nat) (l0 : List Int) (A1 : Option Addr) (c1 : Nat) (l1 : List Int) (r : Bool) (w : World) (hr0 : Kd.C (Kd.int .i64) w A0 l0.length l0) (hc0 : l0.length ≤ c0) (hr1 : Kd.C (Kd.int .i64) w A1 l1.length l1) (hc1 : l1.length ≤ c1) (h : laws_eqIntS.f k l0 l1 = some r) :
    Calls Try.prog 17 #[.slice A0 l0.length c0, .slice A1 l1.length c1] w fun e w' => e = .returned (.bool r) ∧ Drawn0 w w' := by
 have HR0 := Aside0.mk hr0
 have HC0 := Aside0.mk hc0
 clear hr0 hc0
 have HR1 := Aside0.mk hr1
 have HC1 := Aside0.mk hc1
 clear hr1 hc1
 have H : (if (l0.length : Int) = (l1.length : Int) then (laws_eqIntS.l0 k l0 l1 0) else (some false)) = some r := h
 clear h
 by_cases c3 : (l0.length : Int) = (l1.length : Int)
 rotate_left
 · rw [if_neg c3] at H
   have c3b0 : ((l0.length : Int) == (l1.length : Int)) = false := beq_eq_false_iff_ne.mpr c3
   have c3b1 : ((l0.length : Int) != (l1.length : Int)) = true := bne_iff_ne.mpr c3
   have c3b2 : (l0.length == l1.length) = false := by first | simpa using c3 | (simp at c3 ⊢; omega)
   obtain rfl := Option.some.inj H
   go_enter Try.func17, Try.ntmps17
   go_wp2
   repeat (go_quiet (fail); try go_wp2)
   go_ret
   exact ⟨by first | rfl | (simp; done) | (simp [*]; done), by repeat (first | exact Drawn0.refl _ | apply Drawn0.step)⟩
 rw [if_pos c3] at H
 have c3b0 : ((l0.length : Int) == (l1.length : Int)) = true := beq_iff_eq.mpr c3
 have c3b1 : ((l0.length : Int) != (l1.length : Int)) = false := bne_eq_false_iff_eq.mpr c3
 have c3b2 : (l0.length == l1.length) = true := by first | simpa using c3 | (simp at c3 ⊢; omega)
 clear c3
 have H' := Aside0.mk H
 clear H
 go_enter Try.func17, Try.ntmps17
 go_wp2
 repeat (go_quiet (fail); try go_wp2)
 go_loopg [5] k (fun kq v5 w' => ∃ (x5_1 : Int), v5 = .int .i64 x5_1 ∧ Aside0 (laws_eqIntS.l0 kq l0 l1 x5_1 = some r) ∧ Aside0 (kq ≤ k) ∧ Drawn0 w w')
 case atStart => exact ⟨(0), qs, H', ⟨Nat.le_refl _⟩, by repeat (first | exact Drawn0.refl _ | apply Drawn0.step)⟩
 clear H'
 try clear c1
 try clear p2
 try clear c3
 try clear c3b0
 try clear c3b1
 try clear c3b2
 obtain ⟨x5_1, rfl, HA, HK1, ⟨m1, rfl⟩⟩ := hrel
 rcases gk with _ | k1
 · exact absurd HA.out (by simp [laws_eqIntS.l0])
 have H := HA.out
 clear HA
 simp only [laws_eqIntS.l0] at H
 by_cases c4 : x5_1 < (l0.length : Int)
 rotate_left
 · rw [if_neg c4] at H
   have c4b0 : decide (x5_1 < (l0.length : Int)) = false := decide_eq_false c4
   clear c4
   obtain rfl := Option.some.inj H
   go_wp2
   repeat (go_quiet (fail); try go_wp2)
   go_ret
   exact ⟨by first | rfl | (simp; done) | (simp [*]; done), by repeat (first | exact Drawn0.refl _ | apply Drawn0.step)⟩
 rw [if_pos c4] at H
 have c4b0 : decide (x5_1 < (l0.length : Int)) = true := decide_eq_true c4
 clear c4
 by_cases c5 : 0 ≤ x5_1
 rotate_left
 · rw [if_neg c5] at H
   exact absurd H (by simp)
 rw [if_pos c5] at H
 have c5b0 : decide (0 ≤ x5_1) = true := decide_eq_true c5
 clear c5
 by_cases c6 : x5_1 < (l1.length : Int)
 rotate_left
 · rw [if_neg c6] at H
   exact absurd H (by simp)
 rw [if_pos c6] at H
 have c6b0 : decide (x5_1 < (l1.length : Int)) = true := decide_eq_true c6
 clear c6
 by_cases c7 : (rd l0 x5_1) = (rd l1 x5_1)
 rotate_left
 · rw [if_neg c7] at H
   have c7b0 : ((rd l0 x5_1) == (rd l1 x5_1)) = false := beq_eq_false_iff_ne.mpr c7
   have c7b1 : ((rd l0 x5_1) != (rd l1 x5_1)) = true := bne_iff_ne.mpr c7
   obtain rfl := Option.some.inj H
   have p100 : 0 ≤ (x5_1 : Int) := of_decide_eq_true qa
   have q100 : x5_1 < (l0.length : Int) := of_decide_eq_true qa
   obtain ⟨ad100, e100, hx100_0⟩ := Kd.at_int HR0.out x5_1 p100 q100
   cases e100
   replace p100 := eq_true p100
   replace q100 := eq_true q100
   have p101 : 0 ≤ (x5_1 : Int) := of_decide_eq_true qa
   have q101 : x5_1 < (l1.length : Int) := of_decide_eq_true qa
   obtain ⟨ad101, e101, hx101_0⟩ := Kd.at_int HR1.out x5_1 p101 q101
   cases e101
   replace p101 := eq_true p101
   replace q101 := eq_true q101
   go_wp2
   repeat (go_quiet (fail); try go_wp2)
   go_ret
   exact ⟨by first | rfl | (simp; done) | (simp [*]; done), by repeat (first | exact Drawn0.refl _ | apply Drawn0.step)⟩
 rw [if_pos c7] at H
 have c7b0 : ((rd l0 x5_1) == (rd l1 x5_1)) = true := beq_iff_eq.mpr c7
 have c7b1 : ((rd l0 x5_1) != (rd l1 x5_1)) = false := bne_eq_false_iff_eq.mpr c7
 clear c7
 have H' := Aside0.mk H
 clear H
 have p100 : 0 ≤ (x5_1 : Int) := of_decide_eq_true qa
 have q100 : x5_1 < (l0.length : Int) := of_decide_eq_true qa
 obtain ⟨ad100, e100, hx100_0⟩ := Kd.at_int HR0.out x5_1 p100 q100
 cases e100
 replace p100 := eq_true p100
 replace q100 := eq_true q100
 have p101 : 0 ≤ (x5_1 : Int) := of_decide_eq_true qa
 have q101 : x5_1 < (l1.length : Int) := of_decide_eq_true qa
 obtain ⟨ad101, e101, hx101_0⟩ := Kd.at_int HR1.out x5_1 p101 q101
 cases e101
 replace p101 := eq_true p101
 replace q101 := eq_true q101
 go_wp2
 repeat (go_quiet (fail); try go_wp2)
 go_roundg k1
 case measure => have := HK1.out; omega
 case rel => exact ⟨(wrap64 (x5_1 + 1)), qs, H', ⟨by have := HK1.out; omega⟩, by repeat (first | exact Drawn0.refl _ | apply Drawn0.step)⟩

set_option maxHeartbeats 8000000 in
set_option maxRecDepth 100000 in
theorem laws_markTieS.calls (k : Nat) (P0_ : Nat → Prop) (u101_ : Value) (l0 : List (STie)) (a1 : Int) (r1 : Int) (r2 : List (STie)) (w0 w : World) (hB : Below w0.heap.size w0 w) (ho0 : Kd.R kTie 44 w w0.heap.size P0_ u101_ l0) (h : laws_markTieS.f k l0 a1 = some (r1, r2)) :
    Calls Try.prog 51 #[u101_, .int .i64 a1] w fun e w' => e = .returned (.int .i64 r1) ∧ Kd.R kTie 44 w' w0.heap.size (fun k_ => (P0_ k_ ∨ w.heap.size ≤ k_)) u101_ r2 ∧ Below w0.heap.size w0 w' ∧ Kept w w' (fun k_ => P0_ k_) := by
 have HO0 := q0 (show Kd.R kTie 44 w w0.heap.size (fun k_ => (P0_ k_ ∨ w.heap.size ≤ k_)) u101_ l0 from Kd.R_mono ho0 (fun k_ hk => (.inl hk)))
 have HK := q0 (Kept.refl w (fun k_ => P0_ k_))
 have HW0 := Aside0.mk hB.size
 have HB := Aside0.mk hB
 clear hB
 have H : (laws_markTieS.l0 k l0 a1 0) = some (r1, r2) := h
 clear h
 have H' := Aside0.mk H
 clear H
 go_enter Try.func51, Try.ntmps51
 go_wp2
 go_loopg [1, 5] k (fun kq v1 v5 w' => ∃ (x0_1 : List (STie)) (x1_1 : Int) (x5_1 : Int), v1 = .int .i64 x1_1 ∧ v5 = .int .i64 x5_1 ∧ Aside0 (laws_markTieS.l0 kq x0_1 x1_1 x5_1 = some (r1, r2)) ∧ Aside0 (kq ≤ k) ∧ Aside0 (Kd.R kTie 44 w' w0.heap.size (fun k_ => (P0_ k_ ∨ w.heap.size ≤ k_)) u101_ x0_1) ∧ Aside0 (Kept w w' (fun k_ => P0_ k_)) ∧ Aside0 (Below w0.heap.size w0 w'))
 case atStart => exact ⟨(l0), (a1), (0), qs, qs, H', ⟨Nat.le_refl _⟩, ⟨qr HO0.out⟩, ⟨by repeat (first | (with_reducible first | exact HK.out | apply Kept.alloc | apply Kept.drewN | apply Kept.drew) | exact HK.out)⟩, ⟨qb HB.out⟩⟩
 clear H'
 try clear p2
 obtain ⟨x0_1, x1_1, x5_1, rfl, rfl, HA, HK1, HO_0, HK, HB⟩ := hrel
 rcases gk with _ | k1
 · exact absurd HA.out (by simp [laws_markTieS.l0])
 have H := HA.out
 clear HA
 simp only [laws_markTieS.l0] at H
 by_cases c3 : x5_1 < (x0_1.length : Int)
 rotate_left
 · rw [if_neg c3] at H
   have c3b0 : decide (x5_1 < (x0_1.length : Int)) = false := decide_eq_false c3
   clear c3
   simp only [Option.some.injEq, Prod.mk.injEq] at H
   obtain ⟨rfl, rfl⟩ := H
   obtain ⟨Ao12, co12, eo12⟩ := Kd.R_slice HO_0.out
   subst eo12
   go_wp2
   go_ret
   exact ⟨qe, by (with_reducible repeat (first | apply Kd.R_alloc | apply Kd.R_drewN | apply Kd.R_drew)); exact HO_0.out, by repeat (first | (with_reducible first | exact HB.out | apply below_alloc | apply pw_below_drewN | apply below_drew1) | exact HB.out), by repeat (first | (with_reducible first | exact HK.out | apply Kept.alloc | apply Kept.drewN | apply Kept.drew) | exact HK.out)⟩
 rw [if_pos c3] at H
 have c3b0 : decide (x5_1 < (x0_1.length : Int)) = true := decide_eq_true c3
 clear c3
 by_cases c4 : 0 ≤ x5_1
 rotate_left
 · rw [if_neg c4] at H
   exact absurd H (by simp)
 rw [if_pos c4] at H
 have c4b0 : decide (0 ≤ x5_1) = true := decide_eq_true c4
 clear c4
 obtain ⟨y100, hy100⟩ : ∃ y_ : List (STie), y_ = (x0_1.set (x5_1 : Int).toNat (⟨x1_1, (rd_TTie x0_1 x5_1).f1⟩ : STie)) := ⟨_, rfl⟩
 replace H : (laws_markTieS.l0 k1 (y100.set (x5_1 : Int).toNat (⟨(rd_TTie y100 x5_1).f0, wrap64 (x1_1 + 1)⟩ : STie)) (wrap64 ((wrap64 (x1_1 + 1)) + 1)) (wrap64 (x5_1 + 1))) = some (r1, r2) := by first | (rw [hy100]; with_reducible exact H) | (have H2_ := (Option.bind_some _ _).symm.trans H; rw [hy100]; with_reducible exact H2_) | (have H2_ := (Option.bind_some _ _).symm.trans H; with_reducible exact H2_) | with_reducible exact H | (rw [hy100]; exact H) | exact H
 have Ny100 := Aside0.mk hy100
 clear hy100
 obtain ⟨y102, hy102⟩ : ∃ y_ : List (STie), y_ = (y100.set (x5_1 : Int).toNat (⟨(rd_TTie y100 x5_1).f0, wrap64 (x1_1 + 1)⟩ : STie)) := ⟨_, rfl⟩
 replace H : (laws_markTieS.l0 k1 y102 (wrap64 ((wrap64 (x1_1 + 1)) + 1)) (wrap64 (x5_1 + 1))) = some (r1, r2) := by first | (rw [hy102]; with_reducible exact H) | (have H2_ := (Option.bind_some _ _).symm.trans H; rw [hy102]; with_reducible exact H2_) | (have H2_ := (Option.bind_some _ _).symm.trans H; with_reducible exact H2_) | with_reducible exact H | (rw [hy102]; exact H) | exact H
 have Ny102 := Aside0.mk hy102
 clear hy102
 have H' := Aside0.mk H
 clear H
 obtain ⟨Ao7, co7, eo7⟩ := Kd.R_slice HO_0.out
 subst eo7
 have p5 : 0 ≤ (x5_1 : Int) := of_decide_eq_true qa
 have q5 : (x5_1 : Int) < ((x0_1.length : Int) : Int) := of_decide_eq_true qa
 obtain ⟨go5, co5, eo5, gb5, gl5, cl5, HG5⟩ := Kd.R_form HO_0.out (by omega)
 (first | cases eo5 | (injection eo5 with ea_ en_ ec_; (first | subst ea_ | (injection ea_ with ea_; subst ea_)); subst ec_; clear en_))
 have GB5 := Aside0.mk gb5
 have GG5 := Aside0.mk HG5
 clear gb5 gl5 HG5
 have HMgo5 := q0 (show (P0_ go5 ∨ w.heap.size ≤ go5) from (HO_0.out.1 _ rfl))
 obtain ⟨ce5, hcl5, hM5, hcc5, hfr5⟩ := Kd.R_elem HO_0.out zTie (x5_1 : Int) p5 q5
 obtain rfl := kTie_openM hM5
 have hx5_0 : wr.cell? ⟨go5, (x5_1 : Int).toNat * 2, none⟩ = some (.int .i64 ((rd_TTie x0_1 x5_1).f0)) := hcc5 0 _ rfl
 have hx5_1 : wr.cell? ⟨go5, (x5_1 : Int).toNat * 2 + 1, none⟩ = some (.int .i64 ((rd_TTie x0_1 x5_1).f1)) := hcc5 1 _ rfl
 have hf5_0 : wr.frozen? ⟨go5, (x5_1 : Int).toNat * 2, none⟩ = false := hfr5 0
 have hf5_1 : wr.frozen? ⟨go5, (x5_1 : Int).toNat * 2 + 1, none⟩ = false := hfr5 1
 clear hcl5 hcc5 hfr5 hM5
 replace p5 := eq_true p5
 replace q5 := eq_true q5
 have HX8 := q0 (show Kd.R kTie 44 wr w0.heap.size (fun k_ => (P0_ k_ ∨ w.heap.size ≤ k_)) (.slice (some ⟨go5, 0, none⟩) x0_1.length co7) x0_1 from (qr HO_0.out))
 obtain ⟨ce8, hcl8, hM8, hcc8, hfr8⟩ := Kd.R_elem HX8.out zTie (x5_1 : Int) (of_decide_eq_true qa) (by have h_ : (x5_1 : Int) < ((x0_1.length : Int) : Int) := of_decide_eq_true qa; first | exact h_ | (have e_ := (Kd.R_reads' HO_0.out).1; omega) | simpa using h_)
 obtain rfl := kTie_openM hM8
 have HP8 := Kd.R_seg HX8.out (x5_1 : Int) (of_decide_eq_true qa) (by have h_ : (x5_1 : Int) < ((x0_1.length : Int) : Int) := of_decide_eq_true qa; first | exact h_ | (have e_ := (Kd.R_reads' HO_0.out).1; omega) | simpa using h_) (seg := [.int .i64 x1_1]) (j := 0) hcl8 hcc8 (show 1 ≤ 2 from by decide) (x' := (⟨x1_1, (rd_TTie x0_1 x5_1).f1⟩ : STie)) (kTie_mkM _ _ _ (⟨x1_1, (rd_TTie x0_1 x5_1).f1⟩ : STie) ) (fun _ hk => hk)
 have hx8_0 := hcc8 0 _ rfl
 (try simp only [show (kTie).sz = 2 from rfl, Nat.mul_one, Nat.add_zero] at hx8_0)
 have hf8_0 := hfr8 0
 (try simp only [show (kTie).sz = 2 from rfl, Nat.mul_one, Nat.add_zero] at hf8_0)
 clear hcl8 hcc8 hfr8 hM8
 go_wp2_with (first | ((with_reducible refine gate_store (t := 3) (p := 16) rfl ?_); refine store_event (t := 3) (p := 16) (v := ?vo_w9) (w1 := (wr.setCell ⟨go5, (x5_1 : Int).toNat * 2, none⟩ (.int .i64 x1_1))) ?hg ?ho ?hn ?hr ?_; (case ho => rfl); (case hg => rfl); (case hn => rfl); (case hr => first | (go_simp; done) | (go_simp; rfl)); intro w9 hw; have hg : wr.grownBy w9 (some go5) := (by rw [hw]; exact HP8.2); have hp_ : Kd.R kTie 44 w9 w0.heap.size (fun k_ => (P0_ k_ ∨ w.heap.size ≤ k_)) (.slice (some ⟨go5, 0, none⟩) x0_1.length co7) y100 := (by rw [hw, Ny100.out]; exact HP8.1); clear HP8; have n0_ := q0 (hp_); have n1_ := q0 ((by rw [hw]; exact below_set (HB.out) GB5.out : Below w0.heap.size w0 w9)); have n2_ := q0 (Kept.of_grown (S := (fun k_ => P0_ k_)) hg (by repeat (first | (with_reducible first | exact HK.out | apply Kept.alloc | apply Kept.drewN | apply Kept.drew) | exact HK.out)) (fun k_ e_ => (HO_0.out.1 k_ e_))); clear HO_0 HB HK; have HO_0 := n0_; have HB := n1_; have HK := n2_; clear n0_ n1_ n2_ hg hw hp_; have p6 : 0 ≤ (x5_1 : Int) := of_decide_eq_true qa; have q6 : (x5_1 : Int) < ((x0_1.length : Int) : Int) := of_decide_eq_true qa; obtain ⟨ce6, hcl6, hM6, hcc6, hfr6⟩ := Kd.R_elem HO_0.out zTie (x5_1 : Int) p6 q6; obtain rfl := kTie_openM hM6; have hx6_0 : w9.cell? ⟨go5, (x5_1 : Int).toNat * 2, none⟩ = some (.int .i64 ((rd_TTie y100 x5_1).f0)) := hcc6 0 _ rfl; have hx6_1 : w9.cell? ⟨go5, (x5_1 : Int).toNat * 2 + 1, none⟩ = some (.int .i64 ((rd_TTie y100 x5_1).f1)) := hcc6 1 _ rfl; have hf6_0 : w9.frozen? ⟨go5, (x5_1 : Int).toNat * 2, none⟩ = false := hfr6 0; have hf6_1 : w9.frozen? ⟨go5, (x5_1 : Int).toNat * 2 + 1, none⟩ = false := hfr6 1; clear hcl6 hcc6 hfr6 hM6; replace p6 := eq_true p6; replace q6 := eq_true q6; have HX10 := q0 (show Kd.R kTie 44 w9 w0.heap.size (fun k_ => (P0_ k_ ∨ w.heap.size ≤ k_)) (.slice (some ⟨go5, 0, none⟩) x0_1.length co7) y100 from (qr HO_0.out)); obtain ⟨ce10, hcl10, hM10, hcc10, hfr10⟩ := Kd.R_elem HX10.out zTie (x5_1 : Int) (of_decide_eq_true qa) (by have h_ : (x5_1 : Int) < ((x0_1.length : Int) : Int) := of_decide_eq_true qa; first | exact h_ | (have e_ := (Kd.R_reads' HO_0.out).1; omega) | simpa using h_); obtain rfl := kTie_openM hM10; have HP10 := Kd.R_seg HX10.out (x5_1 : Int) (of_decide_eq_true qa) (by have h_ : (x5_1 : Int) < ((x0_1.length : Int) : Int) := of_decide_eq_true qa; first | exact h_ | (have e_ := (Kd.R_reads' HO_0.out).1; omega) | simpa using h_) (seg := [.int .i64 (wrap64 (x1_1 + 1))]) (j := 1) hcl10 hcc10 (show 2 ≤ 2 from by decide) (x' := (⟨(rd_TTie y100 x5_1).f0, wrap64 (x1_1 + 1)⟩ : STie)) (kTie_mkM _ _ _ (⟨(rd_TTie y100 x5_1).f0, wrap64 (x1_1 + 1)⟩ : STie) ) (fun _ hk => hk); have hx10_1 := hcc10 1 _ rfl; (try simp only [show (kTie).sz = 2 from rfl, Nat.mul_one, Nat.add_zero] at hx10_1); have hf10_1 := hfr10 1; (try simp only [show (kTie).sz = 2 from rfl, Nat.mul_one, Nat.add_zero] at hf10_1); clear hcl10 hcc10 hfr10 hM10) | ((with_reducible refine gate_store (t := 3) (p := 23) rfl ?_); refine store_event (t := 3) (p := 23) (v := ?vo_w11) (w1 := (w9.setCell ⟨go5, (x5_1 : Int).toNat * 2 + 1, none⟩ (.int .i64 (wrap64 (x1_1 + 1))))) ?hg ?ho ?hn ?hr ?_; (case ho => rfl); (case hg => rfl); (case hn => rfl); (case hr => first | (go_simp; done) | (go_simp; rfl)); intro w11 hw; have hg : w9.grownBy w11 (some go5) := (by rw [hw]; exact HP10.2); have hp_ : Kd.R kTie 44 w11 w0.heap.size (fun k_ => (P0_ k_ ∨ w.heap.size ≤ k_)) (.slice (some ⟨go5, 0, none⟩) x0_1.length co7) y102 := (by rw [hw, Ny102.out]; exact HP10.1); clear HP10; have n0_ := q0 (hp_); have n1_ := q0 ((by rw [hw]; exact below_set (HB.out) GB5.out : Below w0.heap.size w0 w11)); have n2_ := q0 (Kept.of_grown (S := (fun k_ => P0_ k_)) hg (by repeat (first | (with_reducible first | exact HK.out | apply Kept.alloc | apply Kept.drewN | apply Kept.drew) | exact HK.out)) (fun k_ e_ => (HO_0.out.1 k_ e_))); clear HO_0 HB HK; have HO_0 := n0_; have HB := n1_; have HK := n2_; clear n0_ n1_ n2_ hg hw hp_))
 go_roundg k1
 case measure => have := HK1.out; omega
 case rel => exact ⟨(y102), (wrap64 ((wrap64 (x1_1 + 1)) + 1)), (wrap64 (x5_1 + 1)), qs, qs, H', ⟨by have := HK1.out; omega⟩, ⟨qr HO_0.out⟩, ⟨by repeat (first | (with_reducible first | exact HK.out | apply Kept.alloc | apply Kept.drewN | apply Kept.drew) | exact HK.out)⟩, ⟨qb HB.out⟩⟩

set_option maxHeartbeats 8000000 in
set_option maxRecDepth 100000 in
theorem laws_markNet.calls (k : Nat) (a0_0 : Int) (P0_1_ : Nat → Prop) (u101_ : Value) (l0_1 : List (STie)) (a1 : Int) (r1 : Int) (r2 : List (STie)) (w0 w : World) (hB : Below w0.heap.size w0 w) (ho0_1 : Kd.R kTie 44 w w0.heap.size P0_1_ u101_ l0_1) (h : laws_markNet.f k a0_0 l0_1 a1 = some (r1, r2)) :
    Calls Try.prog 19 #[.agg #[.int .i64 a0_0, u101_], .int .i64 a1] w fun e w' => e = .returned (.int .i64 r1) ∧ Kd.R kTie 44 w' w0.heap.size (fun k_ => (P0_1_ k_ ∨ w.heap.size ≤ k_)) u101_ r2 ∧ Below w0.heap.size w0 w' ∧ Kept w w' (fun k_ => P0_1_ k_) := by
 have hu30 := Try.underlying30
 have HO0_1 := q0 (show Kd.R kTie 44 w w0.heap.size (fun k_ => (P0_1_ k_ ∨ w.heap.size ≤ k_)) u101_ l0_1 from Kd.R_mono ho0_1 (fun k_ hk => (.inl hk)))
 have HK := q0 (Kept.refl w (fun k_ => P0_1_ k_))
 have HW0 := Aside0.mk hB.size
 have HB := Aside0.mk hB
 clear hB
 have H : ((laws_markTieS.f k l0_1 a1).bind fun bt100 => (some (bt100.1, bt100.2))) = some (r1, r2) := h
 clear h
 replace H := Option.bind_eq_some_iff.mp H
 obtain ⟨⟨t100, t102⟩, A30, H⟩ := H
 replace H : (some (t100, t102)) = some (r1, r2) := H
 have A3 := Aside0.mk A30
 clear A30
 simp only [Option.some.injEq, Prod.mk.injEq] at H
 obtain ⟨rfl, rfl⟩ := H
 obtain ⟨Ao4, co4, eo4⟩ := Kd.R_slice HO0_1.out
 subst eo4
 go_enter Try.func19, Try.ntmps19
 go_wp2_with (first | ((with_reducible refine gate_dst (N := 2) rfl ?_); refine be 2 #[.int .i64 a0_0, .slice Ao4 l0_1.length co4] 30 ?_; intro gb103 hg w5 hbox hb; have n0_ := q0 (Kd.R_below (by (with_reducible repeat (first | apply Kd.R_alloc | apply Kd.R_drewN | apply Kd.R_drew)); exact HO0_1.out) hb); have n1_ := q0 (Kept.below (S := (fun k_ => P0_1_ k_)) (by repeat (first | (with_reducible first | exact HK.out | apply Kept.alloc | apply Kept.drewN | apply Kept.drew) | exact HK.out)) hb); have n2_ := q0 (below_step (qb HB.out) hb); have n3_ := q0 (hbox); have n4_ := q0 ((by rw [hg]; exact (by first | exact HK.out.1 | exact (show Kept w _ (fun k_ => P0_1_ k_) from by repeat (first | (with_reducible first | exact HK.out | apply Kept.alloc | apply Kept.drewN | apply Kept.drew) | exact HK.out)).1) : w.heap.size ≤ gb103)); have n5_ := q0 ((bs HB.out hg : w0.heap.size ≤ gb103)); clear HO0_1 HK HB; have HO0_1 := n0_; have HK := n1_; have HB := n2_; have BK103 := n3_; have GW103 := n4_; have GE103 := n5_; clear n0_ n1_ n2_ n3_ n4_ n5_ hb hbox hg; have hcz6_0 : w5.cell? ⟨gb103, 0, none⟩ = some (.int .i64 a0_0) := (blk_cell BK103.out 0).trans rfl; have hcz6_1 : w5.cell? ⟨gb103, 1, none⟩ = some (.slice Ao4 l0_1.length co4) := (blk_cell BK103.out 1).trans rfl; have hfz6_0 := blk_frozen BK103.out 0; have hfz6_1 := blk_frozen BK103.out 1) | ((with_reducible refine gate_callee (f := 51) rfl ?_); refine goesL_ (some 8) rfl rfl Try.func51 (by kernel_rfl) rfl #[.slice Ao4 l0_1.length co4, .int .i64 a1] rfl qm ?_; (with_reducible refine (laws_markTieS.calls k (fun k_ => some k_ = (.slice Ao4 l0_1.length co4 : Value).ownBlock) (.slice Ao4 l0_1.length co4) l0_1 a1 t100 t102 w0 _ ?side1 ?side2 A3.out).mono ?_); (case side1 => exact qb HB.out); (case side2 => exact Kd.R_tight rfl HO0_1.out); rintro e w7 ⟨rfl, hy0, hb, hkp⟩; refine ⟨_, rfl, ?_⟩; have n0_ := q0 (Kd.R_reok rfl hy0 (fun k_ e_ => HO0_1.out.1 k_ e_)); have n1_ := q0 (blk_kept (qk BK103.out) hkp (fun hs_ => (fun e_ => (Kd.R_ne HO0_1.out BK103.out (by decide)) e_) hs_)); have n2_ := q0 (Kept.then_ (S := (fun k_ => P0_1_ k_)) (by repeat (first | (with_reducible first | exact HK.out | apply Kept.alloc | apply Kept.drewN | apply Kept.drew | refine Kept.setCell ?_ (.inr GW103.out) _) | exact HK.out)) hkp (fun k_ hs_ => (fun e_ => (HO0_1.out.1 k_ e_.symm)) hs_)); have n3_ := q0 (hb); clear HO0_1 BK103 HK HB; have HO0_1 := n0_; have BK103 := n1_; have HK := n2_; have HB := n3_; clear n0_ n1_ n2_ n3_; (try clear hb); (try clear hkp); (try clear hy0)))
 go_ret
 exact ⟨qe, by (with_reducible repeat (first | apply Kd.R_alloc | apply Kd.R_drewN | apply Kd.R_drew)); exact HO0_1.out, by repeat (first | (with_reducible first | exact HB.out | apply below_alloc | apply pw_below_drewN | apply below_drew1 | refine below_set ?_ GE103.out) | exact HB.out), by repeat (first | (with_reducible first | exact HK.out | apply Kept.alloc | apply Kept.drewN | apply Kept.drew | refine Kept.setCell ?_ (.inr GW103.out) _) | exact HK.out)⟩

set_option maxHeartbeats 8000000 in
set_option maxRecDepth 100000 in
theorem laws_markIntS.calls (k : Nat) (P0_ : Nat → Prop) (u100_ : Value) (l0 : List Int) (a1 : Int) (r1 : Int) (r2 : List Int) (w0 w : World) (hB : Below w0.heap.size w0 w) (ho0 : Kd.R (Kd.int .i64) 3 w w0.heap.size P0_ u100_ l0) (h : laws_markIntS.f k l0 a1 = some (r1, r2)) :
    Calls Try.prog 20 #[u100_, .int .i64 a1] w fun e w' => e = .returned (.int .i64 r1) ∧ Kd.R (Kd.int .i64) 3 w' w0.heap.size (fun k_ => (P0_ k_ ∨ w.heap.size ≤ k_)) u100_ r2 ∧ Below w0.heap.size w0 w' ∧ Kept w w' (fun k_ => P0_ k_) := by
 have HO0 := q0 (show Kd.R (Kd.int .i64) 3 w w0.heap.size (fun k_ => (P0_ k_ ∨ w.heap.size ≤ k_)) u100_ l0 from Kd.R_mono ho0 (fun k_ hk => (.inl hk)))
 have HK := q0 (Kept.refl w (fun k_ => P0_ k_))
 have HW0 := Aside0.mk hB.size
 have HB := Aside0.mk hB
 clear hB
 have H : (laws_markIntS.l0 k l0 a1 0) = some (r1, r2) := h
 clear h
 have H' := Aside0.mk H
 clear H
 go_enter Try.func20, Try.ntmps20
 go_wp2
 go_loopg [1, 5] k (fun kq v1 v5 w' => ∃ (x0_1 : List Int) (x1_1 : Int) (x5_1 : Int), v1 = .int .i64 x1_1 ∧ v5 = .int .i64 x5_1 ∧ Aside0 (laws_markIntS.l0 kq x0_1 x1_1 x5_1 = some (r1, r2)) ∧ Aside0 (kq ≤ k) ∧ Aside0 (Kd.R (Kd.int .i64) 3 w' w0.heap.size (fun k_ => (P0_ k_ ∨ w.heap.size ≤ k_)) u100_ x0_1) ∧ Aside0 (Kept w w' (fun k_ => P0_ k_)) ∧ Aside0 (Below w0.heap.size w0 w'))
 case atStart => exact ⟨(l0), (a1), (0), qs, qs, H', ⟨Nat.le_refl _⟩, ⟨qr HO0.out⟩, ⟨by repeat (first | (with_reducible first | exact HK.out | apply Kept.alloc | apply Kept.drewN | apply Kept.drew) | exact HK.out)⟩, ⟨qb HB.out⟩⟩
 clear H'
 try clear c2
 try clear p2
 obtain ⟨x0_1, x1_1, x5_1, rfl, rfl, HA, HK1, HO_0, HK, HB⟩ := hrel
 rcases gk with _ | k1
 · exact absurd HA.out (by simp [laws_markIntS.l0])
 have H := HA.out
 clear HA
 simp only [laws_markIntS.l0] at H
 by_cases c3 : x5_1 < (x0_1.length : Int)
 rotate_left
 · rw [if_neg c3] at H
   have c3b0 : decide (x5_1 < (x0_1.length : Int)) = false := decide_eq_false c3
   clear c3
   simp only [Option.some.injEq, Prod.mk.injEq] at H
   obtain ⟨rfl, rfl⟩ := H
   obtain ⟨Ao9, co9, eo9⟩ := Kd.R_slice HO_0.out
   subst eo9
   go_wp2
   go_ret
   exact ⟨qe, by (with_reducible repeat (first | apply Kd.R_alloc | apply Kd.R_drewN | apply Kd.R_drew)); exact HO_0.out, by repeat (first | (with_reducible first | exact HB.out | apply below_alloc | apply pw_below_drewN | apply below_drew1) | exact HB.out), by repeat (first | (with_reducible first | exact HK.out | apply Kept.alloc | apply Kept.drewN | apply Kept.drew) | exact HK.out)⟩
 rw [if_pos c3] at H
 have c3b0 : decide (x5_1 < (x0_1.length : Int)) = true := decide_eq_true c3
 clear c3
 by_cases c4 : 0 ≤ x5_1
 rotate_left
 · rw [if_neg c4] at H
   exact absurd H (by simp)
 rw [if_pos c4] at H
 have c4b0 : decide (0 ≤ x5_1) = true := decide_eq_true c4
 clear c4
 obtain ⟨y101, hy101⟩ : ∃ y_ : List Int, y_ = (x0_1.set (x5_1 : Int).toNat x1_1) := ⟨_, rfl⟩
 replace H : (laws_markIntS.l0 k1 y101 (wrap64 (x1_1 + 1)) (wrap64 (x5_1 + 1))) = some (r1, r2) := by first | (rw [hy101]; with_reducible exact H) | (have H2_ := (Option.bind_some _ _).symm.trans H; rw [hy101]; with_reducible exact H2_) | (have H2_ := (Option.bind_some _ _).symm.trans H; with_reducible exact H2_) | with_reducible exact H | (rw [hy101]; exact H) | exact H
 have Ny101 := Aside0.mk hy101
 clear hy101
 have H' := Aside0.mk H
 clear H
 obtain ⟨Ao6, co6, eo6⟩ := Kd.R_slice HO_0.out
 subst eo6
 have p5 : 0 ≤ (x5_1 : Int) := of_decide_eq_true qa
 have q5 : (x5_1 : Int) < ((x0_1.length : Int) : Int) := of_decide_eq_true qa
 obtain ⟨go5, co5, eo5, gb5, gl5, cl5, HG5⟩ := Kd.R_form HO_0.out (by omega)
 (first | cases eo5 | (injection eo5 with ea_ en_ ec_; (first | subst ea_ | (injection ea_ with ea_; subst ea_)); subst ec_; clear en_))
 have GB5 := Aside0.mk gb5
 have GG5 := Aside0.mk HG5
 clear gb5 gl5 HG5
 have HMgo5 := q0 (show (P0_ go5 ∨ w.heap.size ≤ go5) from (HO_0.out.1 _ rfl))
 obtain ⟨hx5_0, hf5_0⟩ := Kd.R_celln 0 HO_0.out (x5_1 : Int) p5 q5
 replace p5 := eq_true p5
 replace q5 := eq_true q5
 have HP7 := Kd.R_putg HO_0.out (x5_1 : Int) x1_1
 go_wp2_with (first | ((with_reducible refine gate_store (t := 3) (p := 15) rfl ?_); refine store_event (t := 3) (p := 15) (v := ?vo_w8) (w1 := (wr.setCell ⟨go5, (x5_1 : Int).toNat, none⟩ (.int .i64 x1_1))) ?hg ?ho ?hn ?hr ?_; (case ho => rfl); (case hg => rfl); (case hn => rfl); (case hr => first | (go_simp; done) | (go_simp; rfl)); intro w8 hw; have hg : wr.grownBy w8 (some go5) := (by rw [hw]; exact HP7.2); have hp_ : Kd.R (Kd.int .i64) 3 w8 w0.heap.size (fun k_ => (P0_ k_ ∨ w.heap.size ≤ k_)) (.slice (some ⟨go5, 0, none⟩) x0_1.length co6) y101 := (by rw [hw, Ny101.out]; exact HP7.1); clear HP7; have n0_ := q0 (hp_); have n1_ := q0 ((by rw [hw]; exact below_set (HB.out) GB5.out : Below w0.heap.size w0 w8)); have n2_ := q0 (Kept.of_grown (S := (fun k_ => P0_ k_)) hg (by repeat (first | (with_reducible first | exact HK.out | apply Kept.alloc | apply Kept.drewN | apply Kept.drew) | exact HK.out)) (fun k_ e_ => (HO_0.out.1 k_ e_))); clear HO_0 HB HK; have HO_0 := n0_; have HB := n1_; have HK := n2_; clear n0_ n1_ n2_ hg hw hp_))
 go_roundg k1
 case measure => have := HK1.out; omega
 case rel => exact ⟨(y101), (wrap64 (x1_1 + 1)), (wrap64 (x5_1 + 1)), qs, qs, H', ⟨by have := HK1.out; omega⟩, ⟨qr HO_0.out⟩, ⟨by repeat (first | (with_reducible first | exact HK.out | apply Kept.alloc | apply Kept.drewN | apply Kept.drew) | exact HK.out)⟩, ⟨qb HB.out⟩⟩

set_option maxHeartbeats 8000000 in
set_option maxRecDepth 100000 in
theorem laws_heldIntS.calls (k : Nat) (A0 : Option Addr) (c0 : Nat) (l0 : List Int) (a1 : Int) (r : Int) (w : World) (hr0 : Kd.C (Kd.int .i64) w A0 l0.length l0) (hc0 : l0.length ≤ c0) (h : laws_heldIntS.f k l0 a1 = some r) :
    Calls Try.prog 21 #[.slice A0 l0.length c0, .int .i64 a1] w fun e w' => e = .returned (.int .i64 r) ∧ Drawn0 w w' := by
 have HR0 := Aside0.mk hr0
 have HC0 := Aside0.mk hc0
 clear hr0 hc0
 have H : (laws_heldIntS.l0 k l0 a1 0) = some r := h
 clear h
 have H' := Aside0.mk H
 clear H
 go_enter Try.func21, Try.ntmps21
 go_wp2
 go_loopg [1, 5] k (fun kq v1 v5 w' => ∃ (x1_1 : Int) (x5_1 : Int), v1 = .int .i64 x1_1 ∧ v5 = .int .i64 x5_1 ∧ Aside0 (laws_heldIntS.l0 kq l0 x1_1 x5_1 = some r) ∧ Aside0 (kq ≤ k) ∧ Drawn0 w w')
 case atStart => exact ⟨(a1), (0), qs, qs, H', ⟨Nat.le_refl _⟩, by repeat (first | exact Drawn0.refl _ | apply Drawn0.step)⟩
 clear H'
 try clear c2
 try clear p2
 obtain ⟨x1_1, x5_1, rfl, rfl, HA, HK1, ⟨m1, rfl⟩⟩ := hrel
 rcases gk with _ | k1
 · exact absurd HA.out (by simp [laws_heldIntS.l0])
 have H := HA.out
 clear HA
 simp only [laws_heldIntS.l0] at H
 by_cases c3 : x5_1 < (l0.length : Int)
 rotate_left
 · rw [if_neg c3] at H
   have c3b0 : decide (x5_1 < (l0.length : Int)) = false := decide_eq_false c3
   clear c3
   obtain rfl := Option.some.inj H
   go_wp2
   go_ret
   exact ⟨by first | rfl | (simp; done) | (simp [*]; done), by repeat (first | exact Drawn0.refl _ | apply Drawn0.step)⟩
 rw [if_pos c3] at H
 have c3b0 : decide (x5_1 < (l0.length : Int)) = true := decide_eq_true c3
 clear c3
 by_cases c4 : 0 ≤ x5_1
 rotate_left
 · rw [if_neg c4] at H
   exact absurd H (by simp)
 rw [if_pos c4] at H
 have c4b0 : decide (0 ≤ x5_1) = true := decide_eq_true c4
 clear c4
 by_cases c5 : (rd l0 x5_1) = x1_1
 rotate_left
 · rw [if_neg c5] at H
   have c5b0 : ((rd l0 x5_1) == x1_1) = false := beq_eq_false_iff_ne.mpr c5
   have c5b1 : ((rd l0 x5_1) != x1_1) = true := bne_iff_ne.mpr c5
   obtain rfl := Option.some.inj H
   have p100 : 0 ≤ (x5_1 : Int) := of_decide_eq_true qa
   have q100 : x5_1 < (l0.length : Int) := of_decide_eq_true qa
   obtain ⟨ad100, e100, hx100_0⟩ := Kd.at_int HR0.out x5_1 p100 q100
   cases e100
   replace p100 := eq_true p100
   replace q100 := eq_true q100
   go_wp2
   go_ret
   exact ⟨by first | rfl | (simp; done) | (simp [*]; done), by repeat (first | exact Drawn0.refl _ | apply Drawn0.step)⟩
 rw [if_pos c5] at H
 have c5b0 : ((rd l0 x5_1) == x1_1) = true := beq_iff_eq.mpr c5
 have c5b1 : ((rd l0 x5_1) != x1_1) = false := bne_eq_false_iff_eq.mpr c5
 clear c5
 have H' := Aside0.mk H
 clear H
 have p100 : 0 ≤ (x5_1 : Int) := of_decide_eq_true qa
 have q100 : x5_1 < (l0.length : Int) := of_decide_eq_true qa
 obtain ⟨ad100, e100, hx100_0⟩ := Kd.at_int HR0.out x5_1 p100 q100
 cases e100
 replace p100 := eq_true p100
 replace q100 := eq_true q100
 go_wp2
 go_roundg k1
 case measure => have := HK1.out; omega
 case rel => exact ⟨(wrap64 (x1_1 + 1)), (wrap64 (x5_1 + 1)), qs, qs, H', ⟨by have := HK1.out; omega⟩, by repeat (first | exact Drawn0.refl _ | apply Drawn0.step)⟩

set_option maxHeartbeats 8000000 in
set_option maxRecDepth 100000 in
theorem laws_FnExactWayParts.calls (k : Nat) (a0_0 : Int) (A0_1 : Option Addr) (c0_1 : Nat) (l0_1 : List (SLTie)) (r : Bool) (w : World) (hr0_1 : Kd.C kLTie w A0_1 l0_1.length l0_1) (hc0_1 : l0_1.length ≤ c0_1) (h : laws_FnExactWayParts.f k a0_0 l0_1 = some r) :
    Calls Try.prog 3 #[.agg #[.int .i64 a0_0, .slice A0_1 l0_1.length c0_1]] w fun e w' => e = .returned (.bool r) ∧ Below w.heap.size w w' := by
 have hu24 := Try.underlying24
 have hu30 := Try.underlying30
 have HR0_1 := Aside0.mk hr0_1
 have HC0_1 := Aside0.mk hc0_1
 clear hr0_1 hc0_1
 have HB := q0 (Below.refl w.heap.size w)
 have H : ((laws_szNet.f a0_0 l0_1 1048576).bind fun t100 => (if t100 < 0 then (some true) else ((laws_toNet.f k a0_0 l0_1).bind fun bt107 => ((spec_WayParts.f k bt107.1 bt107.2).bind fun t108 => ((laws_toNet.f k a0_0 l0_1).bind fun bt109 => ((impl_WayParts.f k bt109.1 bt109.2).bind fun t110 => ((laws_eqIntS.f k t110 t108).bind fun t111 => (if t111 = true then ((laws_toNet.f k a0_0 l0_1).bind fun bt112 => ((laws_eqNet.f k bt109.1 bt109.2 bt112.1 bt112.2).bind fun t113 => (if t113 = true then ((laws_markNet.f k bt109.1 bt109.2 1).bind fun bt114 => (if bt114.1 < 0 then (laws_FnExactWayParts.j0 k t108 t110 true a0_0 l0_1) else ((laws_eqIntS.f k t110 t108).bind fun t115 => (laws_FnExactWayParts.j0 k t108 t110 (!t115) a0_0 l0_1)))) else (some false)))) else (some false))))))))) = some r := h
 clear h
 replace H := Option.bind_eq_some_iff.mp H
 obtain ⟨t100, A20, H⟩ := H
 replace H : (if t100 < 0 then (some true) else ((laws_toNet.f k a0_0 l0_1).bind fun bt107 => ((spec_WayParts.f k bt107.1 bt107.2).bind fun t108 => ((laws_toNet.f k a0_0 l0_1).bind fun bt109 => ((impl_WayParts.f k bt109.1 bt109.2).bind fun t110 => ((laws_eqIntS.f k t110 t108).bind fun t111 => (if t111 = true then ((laws_toNet.f k a0_0 l0_1).bind fun bt112 => ((laws_eqNet.f k bt109.1 bt109.2 bt112.1 bt112.2).bind fun t113 => (if t113 = true then ((laws_markNet.f k bt109.1 bt109.2 1).bind fun bt114 => (if bt114.1 < 0 then (laws_FnExactWayParts.j0 k t108 t110 true a0_0 l0_1) else ((laws_eqIntS.f k t110 t108).bind fun t115 => (laws_FnExactWayParts.j0 k t108 t110 (!t115) a0_0 l0_1)))) else (some false)))) else (some false)))))))) = some r := H
 have A2 := Aside0.mk A20
 clear A20
 by_cases c3 : t100 < 0
 · rw [if_pos c3] at H
   have c3b0 : decide (t100 < 0) = true := decide_eq_true c3
   clear c3
   obtain rfl := Option.some.inj H
   go_enter Try.func3, Try.ntmps3
   go_wp2_with (first | ((with_reducible refine gate_dst (N := 1) rfl ?_); refine be 1 #[.int .i64 a0_0, .slice A0_1 l0_1.length c0_1] 24 ?_; intro gb116 hg w4 hbox hb; have n0_ := q0 (below_step (qb HB.out) hb); have n1_ := q0 (hbox); have n2_ := q0 ((bs HB.out hg : w.heap.size ≤ gb116)); have n3_ := q0 ((bs HB.out hg : w.heap.size ≤ gb116)); clear HB; have HB := n0_; have BK116 := n1_; have GW116 := n2_; have GE116 := n3_; clear n0_ n1_ n2_ n3_ hb hbox hg; have hcz5_0 : w4.cell? ⟨gb116, 0, none⟩ = some (.int .i64 a0_0) := (blk_cell BK116.out 0).trans rfl; have hcz5_1 : w4.cell? ⟨gb116, 1, none⟩ = some (.slice A0_1 l0_1.length c0_1) := (blk_cell BK116.out 1).trans rfl; have hfz5_0 := blk_frozen BK116.out 0; have hfz5_1 := blk_frozen BK116.out 1) | ((with_reducible refine gate_callee (f := 13) rfl ?_); refine goesL_ (some 13) rfl rfl Try.func13 (by kernel_rfl) rfl #[.agg #[.int .i64 a0_0, .slice A0_1 l0_1.length c0_1], .int .i64 1048576] rfl qm ?_; (with_reducible refine (laws_szNet.calls a0_0 _ _ l0_1 1048576 t100 _ ?side1 ?side2 A2.out).mono ?_); (case side1 => exact qc (Kd.C_below HR0_1.out HB.out)); (case side2 => exact HC0_1.out); rintro e w6 ⟨rfl, hb⟩; refine ⟨_, rfl, ?_⟩; have n0_ := q0 (kb BK116.out hb); have n1_ := q0 (below_step (qb HB.out) hb); clear BK116 HB; have BK116 := n0_; have HB := n1_; clear n0_ n1_; (try clear hb); (try clear hb2); (try clear hk); (try clear hi)))
   go_ret
   exact ⟨qe, qb HB.out⟩
 rw [if_neg c3] at H
 have c3b0 : decide (t100 < 0) = false := decide_eq_false c3
 clear c3
 replace H := Option.bind_eq_some_iff.mp H
 obtain ⟨⟨t107, t117⟩, A70, H⟩ := H
 replace H : ((spec_WayParts.f k t107 t117).bind fun t108 => ((laws_toNet.f k a0_0 l0_1).bind fun bt109 => ((impl_WayParts.f k bt109.1 bt109.2).bind fun t110 => ((laws_eqIntS.f k t110 t108).bind fun t111 => (if t111 = true then ((laws_toNet.f k a0_0 l0_1).bind fun bt112 => ((laws_eqNet.f k bt109.1 bt109.2 bt112.1 bt112.2).bind fun t113 => (if t113 = true then ((laws_markNet.f k bt109.1 bt109.2 1).bind fun bt114 => (if bt114.1 < 0 then (laws_FnExactWayParts.j0 k t108 t110 true a0_0 l0_1) else ((laws_eqIntS.f k t110 t108).bind fun t115 => (laws_FnExactWayParts.j0 k t108 t110 (!t115) a0_0 l0_1)))) else (some false)))) else (some false)))))) = some r := H
 have A7 := Aside0.mk A70
 clear A70
 replace H := Option.bind_eq_some_iff.mp H
 obtain ⟨t108, A80, H⟩ := H
 replace H : ((laws_toNet.f k a0_0 l0_1).bind fun bt109 => ((impl_WayParts.f k bt109.1 bt109.2).bind fun t110 => ((laws_eqIntS.f k t110 t108).bind fun t111 => (if t111 = true then ((laws_toNet.f k a0_0 l0_1).bind fun bt112 => ((laws_eqNet.f k bt109.1 bt109.2 bt112.1 bt112.2).bind fun t113 => (if t113 = true then ((laws_markNet.f k bt109.1 bt109.2 1).bind fun bt114 => (if bt114.1 < 0 then (laws_FnExactWayParts.j0 k t108 t110 true a0_0 l0_1) else ((laws_eqIntS.f k t110 t108).bind fun t115 => (laws_FnExactWayParts.j0 k t108 t110 (!t115) a0_0 l0_1)))) else (some false)))) else (some false))))) = some r := H
 have A8 := Aside0.mk A80
 clear A80
 replace H := Option.bind_eq_some_iff.mp H
 obtain ⟨⟨t109, t118⟩, A90, H⟩ := H
 replace H : ((impl_WayParts.f k t109 t118).bind fun t110 => ((laws_eqIntS.f k t110 t108).bind fun t111 => (if t111 = true then ((laws_toNet.f k a0_0 l0_1).bind fun bt112 => ((laws_eqNet.f k t109 t118 bt112.1 bt112.2).bind fun t113 => (if t113 = true then ((laws_markNet.f k t109 t118 1).bind fun bt114 => (if bt114.1 < 0 then (laws_FnExactWayParts.j0 k t108 t110 true a0_0 l0_1) else ((laws_eqIntS.f k t110 t108).bind fun t115 => (laws_FnExactWayParts.j0 k t108 t110 (!t115) a0_0 l0_1)))) else (some false)))) else (some false)))) = some r := H
 have A9 := Aside0.mk A90
 clear A90
 replace H := Option.bind_eq_some_iff.mp H
 obtain ⟨t110, A119, H⟩ := H
 replace H : ((laws_eqIntS.f k t110 t108).bind fun t111 => (if t111 = true then ((laws_toNet.f k a0_0 l0_1).bind fun bt112 => ((laws_eqNet.f k t109 t118 bt112.1 bt112.2).bind fun t113 => (if t113 = true then ((laws_markNet.f k t109 t118 1).bind fun bt114 => (if bt114.1 < 0 then (laws_FnExactWayParts.j0 k t108 t110 true a0_0 l0_1) else ((laws_eqIntS.f k t110 t108).bind fun t115 => (laws_FnExactWayParts.j0 k t108 t110 (!t115) a0_0 l0_1)))) else (some false)))) else (some false))) = some r := H
 have A10 := Aside0.mk A119
 clear A119
 replace H := Option.bind_eq_some_iff.mp H
 obtain ⟨t111, A120, H⟩ := H
 replace H : (if t111 = true then ((laws_toNet.f k a0_0 l0_1).bind fun bt112 => ((laws_eqNet.f k t109 t118 bt112.1 bt112.2).bind fun t113 => (if t113 = true then ((laws_markNet.f k t109 t118 1).bind fun bt114 => (if bt114.1 < 0 then (laws_FnExactWayParts.j0 k t108 t110 true a0_0 l0_1) else ((laws_eqIntS.f k t110 t108).bind fun t115 => (laws_FnExactWayParts.j0 k t108 t110 (!t115) a0_0 l0_1)))) else (some false)))) else (some false)) = some r := H
 have A11 := Aside0.mk A120
 clear A120
 by_cases c12 : t111 = true
 rotate_left
 · replace c12 := Bool.eq_false_iff.mpr c12
   subst c12
   have H1 : (some false) = some r := by rw [if_neg (show ¬ (false = true) by decide)] at H; exact H
   clear H
   have H := H1
   clear H1
   obtain rfl := Option.some.inj H
   go_enter Try.func3, Try.ntmps3
   go_wp2_with (first | ((with_reducible refine gate_dst (N := 1) rfl ?_); refine be 1 #[.int .i64 a0_0, .slice A0_1 l0_1.length c0_1] 24 ?_; intro gb116 hg w153 hbox hb; have n0_ := q0 (below_step (qb HB.out) hb); have n1_ := q0 (hbox); have n2_ := q0 ((bs HB.out hg : w.heap.size ≤ gb116)); have n3_ := q0 ((bs HB.out hg : w.heap.size ≤ gb116)); clear HB; have HB := n0_; have BK116 := n1_; have GW116 := n2_; have GE116 := n3_; clear n0_ n1_ n2_ n3_ hb hbox hg; have hcz154_0 : w153.cell? ⟨gb116, 0, none⟩ = some (.int .i64 a0_0) := (blk_cell BK116.out 0).trans rfl; have hcz154_1 : w153.cell? ⟨gb116, 1, none⟩ = some (.slice A0_1 l0_1.length c0_1) := (blk_cell BK116.out 1).trans rfl; have hfz154_0 := blk_frozen BK116.out 0; have hfz154_1 := blk_frozen BK116.out 1) | ((with_reducible refine gate_callee (f := 13) rfl ?_); refine goesL_ (some 13) rfl rfl Try.func13 (by kernel_rfl) rfl #[.agg #[.int .i64 a0_0, .slice A0_1 l0_1.length c0_1], .int .i64 1048576] rfl qm ?_; (with_reducible refine (laws_szNet.calls a0_0 _ _ l0_1 1048576 t100 _ ?side1 ?side2 A2.out).mono ?_); (case side1 => exact qc (Kd.C_below HR0_1.out HB.out)); (case side2 => exact HC0_1.out); rintro e w155 ⟨rfl, hb⟩; refine ⟨_, rfl, ?_⟩; have n0_ := q0 (kb BK116.out hb); have n1_ := q0 (below_step (qb HB.out) hb); clear BK116 HB; have BK116 := n0_; have HB := n1_; clear n0_ n1_; (try clear hb); (try clear hb2); (try clear hk); (try clear hi); have hcz156_0 : w155.cell? ⟨gb116, 0, none⟩ = some (.int .i64 a0_0) := (blk_cell BK116.out 0).trans rfl; have hcz156_1 : w155.cell? ⟨gb116, 1, none⟩ = some (.slice A0_1 l0_1.length c0_1) := (blk_cell BK116.out 1).trans rfl; have hfz156_0 := blk_frozen BK116.out 0; have hfz156_1 := blk_frozen BK116.out 1) | ((with_reducible refine gate_callee (f := 15) rfl ?_); refine goesL_ (some 17) rfl rfl Try.func15 (by kernel_rfl) rfl #[.agg #[.int .i64 a0_0, .slice A0_1 l0_1.length c0_1]] rfl qm ?_; (with_reducible refine (laws_toNet.calls k a0_0 _ _ l0_1 t107 t117 _ ?side1 ?side2 A7.out).mono ?_); (case side1 => exact qc (Kd.C_below HR0_1.out HB.out)); (case side2 => exact HC0_1.out); rintro e w157 ⟨v126, rfl, ho0, hb⟩; refine ⟨_, rfl, ?_⟩; have n0_ := q0 (Kd.R_lower ho0 (below_size (qb HB.out))); have n1_ := q0 (kb BK116.out hb); have n2_ := q0 (below_step (qb HB.out) hb); clear BK116 HB; have HO127 := n0_; have BK116 := n1_; have HB := n2_; clear n0_ n1_ n2_; (try clear hb); (try clear hb2); (try clear hk); (try clear hi); (try clear ho0); obtain ⟨Ao158, co158, eo158⟩ := Kd.R_slice HO127.out; subst eo158) | ((with_reducible refine gate_callee (f := 14) rfl ?_); refine goesL_ (some 18) rfl rfl Try.func14 (by kernel_rfl) rfl #[.agg #[.int .i64 t107, .slice Ao158 t117.length co158]] rfl qm ?_; (with_reducible refine (spec_WayParts.calls k t107 _ _ t117 t108 _ ?side1 ?side2 A8.out).mono ?_); (case side1 => exact qc (Kd.R_reads' HO127.out).2.2); (case side2 => exact (Kd.R_reads' HO127.out).2.1); rintro e w120 ⟨v128, rfl, ho0, hb⟩; refine ⟨_, rfl, ?_⟩; have n0_ := q0 (Kd.R_below (qr HO127.out) hb); have n1_ := q0 (Kd.R_lower ho0 (below_size (qb HB.out))); have n2_ := q0 (kb BK116.out hb); have n3_ := q0 (below_step (qb HB.out) hb); clear HO127 BK116 HB; have HO127 := n0_; have HO129 := n1_; have BK116 := n2_; have HB := n3_; clear n0_ n1_ n2_ n3_; (try clear hb); (try clear hb2); (try clear hk); (try clear hi); (try clear ho0); have hcz159_0 : w120.cell? ⟨gb116, 0, none⟩ = some (.int .i64 a0_0) := (blk_cell BK116.out 0).trans rfl; have hcz159_1 : w120.cell? ⟨gb116, 1, none⟩ = some (.slice A0_1 l0_1.length c0_1) := (blk_cell BK116.out 1).trans rfl; have hfz159_0 := blk_frozen BK116.out 0; have hfz159_1 := blk_frozen BK116.out 1) | ((with_reducible refine gate_callee (f := 15) rfl ?_); refine goesL_ (some 20) rfl rfl Try.func15 (by kernel_rfl) rfl #[.agg #[.int .i64 a0_0, .slice A0_1 l0_1.length c0_1]] rfl qm ?_; (with_reducible refine (laws_toNet.calls k a0_0 _ _ l0_1 t109 t118 _ ?side1 ?side2 A9.out).mono ?_); (case side1 => exact qc (Kd.C_below HR0_1.out HB.out)); (case side2 => exact HC0_1.out); rintro e w160 ⟨v130, rfl, ho0, hb⟩; refine ⟨_, rfl, ?_⟩; have n0_ := q0 (Kd.R_elder' (qr HO127.out) (Kd.R_base ho0) hb); have n1_ := q0 (Kd.R_below (qr HO129.out) hb); have n2_ := q0 (Kd.R_lower (Kd.R_new' ho0 (Kd.R_lt (qr HO127.out))) (below_size (qb HB.out))); have n3_ := q0 (kb BK116.out hb); have n4_ := q0 (below_step (qb HB.out) hb); clear HO127 HO129 BK116 HB; have HO127 := n0_; have HO129 := n1_; have HO131 := n2_; have BK116 := n3_; have HB := n4_; clear n0_ n1_ n2_ n3_ n4_; (try clear hb); (try clear hb2); (try clear hk); (try clear hi); (try clear ho0)) | ((with_reducible refine gate_dst (N := 5) rfl ?_); refine be 5 #[.int .i64 0, .slice none 0 0] 30 ?_; intro gb132 hg w161 hbox hb; have n0_ := q0 (Kd.R_below (qr HO127.out) hb); have n1_ := q0 (Kd.R_below (qr HO129.out) hb); have n2_ := q0 (Kd.R_below (qr HO131.out) hb); have n3_ := q0 (kb BK116.out hb); have n4_ := q0 (below_step (qb HB.out) hb); have n5_ := q0 (hbox); have n6_ := q0 ((bs HB.out hg : w.heap.size ≤ gb132)); have n7_ := q0 ((bs HB.out hg : w.heap.size ≤ gb132)); have n8_ := q0 ((bl BK116.out hg : gb116 ≠ gb132)); have n9_ := q0 ((bg BK116.out hg : gb132 ≠ gb116)); clear HO127 HO129 HO131 BK116 HB; have HO127 := n0_; have HO129 := n1_; have HO131 := n2_; have BK116 := n3_; have HB := n4_; have BK132 := n5_; have GW132 := n6_; have GE132 := n7_; have NB116_132 := n8_; have NB132_116 := n9_; clear n0_ n1_ n2_ n3_ n4_ n5_ n6_ n7_ n8_ n9_ hb hbox hg; have hnb162 := NB132_116.out; have hnc162 := NB116_132.out; have hcz163_0 : w161.cell? ⟨gb132, 0, none⟩ = some (.int .i64 0) := (blk_cell BK132.out 0).trans rfl; have hcz163_1 : w161.cell? ⟨gb132, 1, none⟩ = some (.slice none 0 0) := (blk_cell BK132.out 1).trans rfl; have hfz163_0 := blk_frozen BK132.out 0; have hfz163_1 := blk_frozen BK132.out 1; obtain ⟨Ao164, co164, eo164⟩ := Kd.R_slice HO131.out; subst eo164) | ((with_reducible refine gate_callee (f := 16) rfl ?_); refine goesL_ (some 22) rfl rfl Try.func16 (by kernel_rfl) rfl #[.agg #[.int .i64 t109, .slice Ao164 t118.length co164]] rfl qm ?_; (with_reducible refine (impl_WayParts.calls k t109 _ _ t118 t110 _ ?side1 ?side2 A10.out).mono ?_); (case side1 => refine (Kd.R_reads' (e := 44) (base := w.heap.size) (ok := fun k_ => (True ∧ some k_ ≠ (.slice Ao158 t117.length co158 : Value).ownBlock)) (n := t118.length) (c := co164) ?_).2.2; exact (by (with_reducible repeat (first | apply Kd.R_alloc | apply Kd.R_drewN | apply Kd.R_drew)); exact (Kd.R_mono (Kd.R_far (p := ⟨gb132, 1, none⟩) (Kd.R_far (p := ⟨gb132, 0, none⟩) (Kd.R_types HO131.out BK132.out (by decide)) (fun _ hk => hk.2) (.int .i64 t109)) (fun _ hk => hk.2) (.slice Ao164 t118.length co164)) (fun _ h_ => h_.1)))); (case side2 => exact (Kd.R_reads' HO131.out).2.1); rintro e w165 ⟨v133, rfl, ho0, hb⟩; refine ⟨_, rfl, ?_⟩; have n0_ := q0 (Kd.R_below (by (with_reducible repeat (first | apply Kd.R_alloc | apply Kd.R_drewN | apply Kd.R_drew)); exact (Kd.R_mono (Kd.R_far (p := ⟨gb132, 1, none⟩) (Kd.R_far (p := ⟨gb132, 0, none⟩) (Kd.R_types HO127.out BK132.out (by decide)) (fun _ hk => hk.2) (.int .i64 t109)) (fun _ hk => hk.2) (.slice Ao164 t118.length co164)) (fun _ h_ => h_.1))) hb); have n1_ := q0 (Kd.R_elder' (by (with_reducible repeat (first | apply Kd.R_alloc | apply Kd.R_drewN | apply Kd.R_drew)); exact (Kd.R_mono (Kd.R_far (p := ⟨gb132, 1, none⟩) (Kd.R_far (p := ⟨gb132, 0, none⟩) (Kd.R_types HO129.out BK132.out (by decide)) (fun _ hk => hk.2) (.int .i64 t109)) (fun _ hk => hk.2) (.slice Ao164 t118.length co164)) (fun _ h_ => h_.1))) (Kd.R_base ho0) hb); have n2_ := q0 (Kd.R_below (by (with_reducible repeat (first | apply Kd.R_alloc | apply Kd.R_drewN | apply Kd.R_drew)); exact (Kd.R_mono (Kd.R_far (p := ⟨gb132, 1, none⟩) (Kd.R_far (p := ⟨gb132, 0, none⟩) (Kd.R_types HO131.out BK132.out (by decide)) (fun _ hk => hk.2) (.int .i64 t109)) (fun _ hk => hk.2) (.slice Ao164 t118.length co164)) (fun _ h_ => h_.1))) hb); have n3_ := q0 (Kd.R_lower (Kd.R_new' ho0 (Kd.R_lt (by (with_reducible repeat (first | apply Kd.R_alloc | apply Kd.R_drewN | apply Kd.R_drew)); exact (Kd.R_mono (Kd.R_far (p := ⟨gb132, 1, none⟩) (Kd.R_far (p := ⟨gb132, 0, none⟩) (Kd.R_types HO129.out BK132.out (by decide)) (fun _ hk => hk.2) (.int .i64 t109)) (fun _ hk => hk.2) (.slice Ao164 t118.length co164)) (fun _ h_ => h_.1))))) (below_size (qb HB.out))); have n4_ := q0 (blk_below (g := gb116) (o := .cells #[.int .i64 a0_0, .slice A0_1 l0_1.length c0_1] 24 (0, 0)) (qf BK116.out) hb); have n5_ := q0 (blk_below (g := gb132) (o := .cells #[.int .i64 t109, .slice Ao164 t118.length co164] 30 (0, 0)) (by (with_reducible repeat (first | refine blk_drewN ?_ _ | refine blk_drew ?_ | refine blk_alloc ?_ _)); refine blk_put (cs := #[.int .i64 t109, .slice none 0 0]) ?_ 1 _ rfl; (with_reducible repeat (first | refine blk_drewN ?_ _ | refine blk_drew ?_ | refine blk_alloc ?_ _)); refine blk_put (cs := #[.int .i64 0, .slice none 0 0]) ?_ 0 _ rfl; (with_reducible repeat (first | refine blk_drewN ?_ _ | refine blk_drew ?_ | refine blk_alloc ?_ _)); exact BK132.out) hb); have n6_ := q0 (below_step (qb HB.out) hb); clear HO127 HO129 HO131 BK116 BK132 HB; have HO127 := n0_; have HO129 := n1_; have HO131 := n2_; have HO134 := n3_; have BK116 := n4_; have BK132 := n5_; have HB := n6_; clear n0_ n1_ n2_ n3_ n4_ n5_ n6_; (try clear hb); (try clear hb2); (try clear hk); (try clear hi); (try clear ho0); obtain ⟨Ao166, co166, eo166⟩ := Kd.R_slice HO134.out; subst eo166; obtain ⟨Ao167, co167, eo167⟩ := Kd.R_slice HO129.out; subst eo167) | ((with_reducible refine gate_callee (f := 17) rfl ?_); refine goesL_ (some 25) rfl rfl Try.func17 (by kernel_rfl) rfl #[.slice Ao166 t110.length co166, .slice Ao167 t108.length co167] rfl qm ?_; (with_reducible refine (laws_eqIntS.calls k _ _ t110 _ _ t108 false _ ?side1 ?side2 ?side3 ?side4 A11.out).mono ?_); (case side1 => exact qc (Kd.R_reads' HO134.out).2.2); (case side2 => exact (Kd.R_reads' HO134.out).2.1); (case side3 => exact qc (Kd.R_reads' HO129.out).2.2); (case side4 => exact (Kd.R_reads' HO129.out).2.1); rintro e w' ⟨rfl, ⟨nd, rfl⟩⟩; refine ⟨_, rfl, ?_⟩))
   go_ret
   exact ⟨qe, qb HB.out⟩
 subst c12
 have H1 : ((laws_toNet.f k a0_0 l0_1).bind fun bt112 => ((laws_eqNet.f k t109 t118 bt112.1 bt112.2).bind fun t113 => (if t113 = true then ((laws_markNet.f k t109 t118 1).bind fun bt114 => (if bt114.1 < 0 then (laws_FnExactWayParts.j0 k t108 t110 true a0_0 l0_1) else ((laws_eqIntS.f k t110 t108).bind fun t115 => (laws_FnExactWayParts.j0 k t108 t110 (!t115) a0_0 l0_1)))) else (some false)))) = some r := by rw [if_pos rfl] at H; exact H
 clear H
 have H := H1
 clear H1
 replace H := Option.bind_eq_some_iff.mp H
 obtain ⟨⟨t112, t121⟩, A122, H⟩ := H
 replace H : ((laws_eqNet.f k t109 t118 t112 t121).bind fun t113 => (if t113 = true then ((laws_markNet.f k t109 t118 1).bind fun bt114 => (if bt114.1 < 0 then (laws_FnExactWayParts.j0 k t108 t110 true a0_0 l0_1) else ((laws_eqIntS.f k t110 t108).bind fun t115 => (laws_FnExactWayParts.j0 k t108 t110 (!t115) a0_0 l0_1)))) else (some false))) = some r := H
 have A13 := Aside0.mk A122
 clear A122
 replace H := Option.bind_eq_some_iff.mp H
 obtain ⟨t113, A123, H⟩ := H
 replace H : (if t113 = true then ((laws_markNet.f k t109 t118 1).bind fun bt114 => (if bt114.1 < 0 then (laws_FnExactWayParts.j0 k t108 t110 true a0_0 l0_1) else ((laws_eqIntS.f k t110 t108).bind fun t115 => (laws_FnExactWayParts.j0 k t108 t110 (!t115) a0_0 l0_1)))) else (some false)) = some r := H
 have A14 := Aside0.mk A123
 clear A123
 by_cases c15 : t113 = true
 rotate_left
 · replace c15 := Bool.eq_false_iff.mpr c15
   subst c15
   have H1 : (some false) = some r := by rw [if_neg (show ¬ (false = true) by decide)] at H; exact H
   clear H
   have H := H1
   clear H1
   obtain rfl := Option.some.inj H
   go_enter Try.func3, Try.ntmps3
   try go_wp2_with (first | ((with_reducible refine gate_dst (N := 1) rfl ?_); refine be 1 #[.int .i64 a0_0, .slice A0_1 l0_1.length c0_1] 24 ?_; intro gb116 hg w84 hbox hb; have n0_ := q0 (below_step (qb HB.out) hb); have n1_ := q0 (hbox); have n2_ := q0 ((bs HB.out hg : w.heap.size ≤ gb116)); have n3_ := q0 ((bs HB.out hg : w.heap.size ≤ gb116)); clear HB; have HB := n0_; have BK116 := n1_; have GW116 := n2_; have GE116 := n3_; clear n0_ n1_ n2_ n3_ hb hbox hg; have hcz85_0 : w84.cell? ⟨gb116, 0, none⟩ = some (.int .i64 a0_0) := (blk_cell BK116.out 0).trans rfl; have hcz85_1 : w84.cell? ⟨gb116, 1, none⟩ = some (.slice A0_1 l0_1.length c0_1) := (blk_cell BK116.out 1).trans rfl; have hfz85_0 := blk_frozen BK116.out 0; have hfz85_1 := blk_frozen BK116.out 1) | ((with_reducible refine gate_callee (f := 13) rfl ?_); refine goesL_ (some 13) rfl rfl Try.func13 (by kernel_rfl) rfl #[.agg #[.int .i64 a0_0, .slice A0_1 l0_1.length c0_1], .int .i64 1048576] rfl qm ?_; (with_reducible refine (laws_szNet.calls a0_0 _ _ l0_1 1048576 t100 _ ?side1 ?side2 A2.out).mono ?_); (case side1 => exact qc (Kd.C_below HR0_1.out HB.out)); (case side2 => exact HC0_1.out); rintro e w86 ⟨rfl, hb⟩; refine ⟨_, rfl, ?_⟩; have n0_ := q0 (kb BK116.out hb); have n1_ := q0 (below_step (qb HB.out) hb); clear BK116 HB; have BK116 := n0_; have HB := n1_; clear n0_ n1_; (try clear hb); (try clear hb2); (try clear hk); (try clear hi); have hcz87_0 : w86.cell? ⟨gb116, 0, none⟩ = some (.int .i64 a0_0) := (blk_cell BK116.out 0).trans rfl; have hcz87_1 : w86.cell? ⟨gb116, 1, none⟩ = some (.slice A0_1 l0_1.length c0_1) := (blk_cell BK116.out 1).trans rfl; have hfz87_0 := blk_frozen BK116.out 0; have hfz87_1 := blk_frozen BK116.out 1) | ((with_reducible refine gate_callee (f := 15) rfl ?_); refine goesL_ (some 17) rfl rfl Try.func15 (by kernel_rfl) rfl #[.agg #[.int .i64 a0_0, .slice A0_1 l0_1.length c0_1]] rfl qm ?_; (with_reducible refine (laws_toNet.calls k a0_0 _ _ l0_1 t107 t117 _ ?side1 ?side2 A7.out).mono ?_); (case side1 => exact qc (Kd.C_below HR0_1.out HB.out)); (case side2 => exact HC0_1.out); rintro e w88 ⟨v126, rfl, ho0, hb⟩; refine ⟨_, rfl, ?_⟩; have n0_ := q0 (Kd.R_lower ho0 (below_size (qb HB.out))); have n1_ := q0 (kb BK116.out hb); have n2_ := q0 (below_step (qb HB.out) hb); clear BK116 HB; have HO127 := n0_; have BK116 := n1_; have HB := n2_; clear n0_ n1_ n2_; (try clear hb); (try clear hb2); (try clear hk); (try clear hi); (try clear ho0); obtain ⟨Ao89, co89, eo89⟩ := Kd.R_slice HO127.out; subst eo89) | ((with_reducible refine gate_callee (f := 14) rfl ?_); refine goesL_ (some 18) rfl rfl Try.func14 (by kernel_rfl) rfl #[.agg #[.int .i64 t107, .slice Ao89 t117.length co89]] rfl qm ?_; (with_reducible refine (spec_WayParts.calls k t107 _ _ t117 t108 _ ?side1 ?side2 A8.out).mono ?_); (case side1 => exact qc (Kd.R_reads' HO127.out).2.2); (case side2 => exact (Kd.R_reads' HO127.out).2.1); rintro e w90 ⟨v128, rfl, ho0, hb⟩; refine ⟨_, rfl, ?_⟩; have n0_ := q0 (Kd.R_below (qr HO127.out) hb); have n1_ := q0 (Kd.R_lower ho0 (below_size (qb HB.out))); have n2_ := q0 (kb BK116.out hb); have n3_ := q0 (below_step (qb HB.out) hb); clear HO127 BK116 HB; have HO127 := n0_; have HO129 := n1_; have BK116 := n2_; have HB := n3_; clear n0_ n1_ n2_ n3_; (try clear hb); (try clear hb2); (try clear hk); (try clear hi); (try clear ho0); have hcz91_0 : w90.cell? ⟨gb116, 0, none⟩ = some (.int .i64 a0_0) := (blk_cell BK116.out 0).trans rfl; have hcz91_1 : w90.cell? ⟨gb116, 1, none⟩ = some (.slice A0_1 l0_1.length c0_1) := (blk_cell BK116.out 1).trans rfl; have hfz91_0 := blk_frozen BK116.out 0; have hfz91_1 := blk_frozen BK116.out 1) | ((with_reducible refine gate_callee (f := 15) rfl ?_); refine goesL_ (some 20) rfl rfl Try.func15 (by kernel_rfl) rfl #[.agg #[.int .i64 a0_0, .slice A0_1 l0_1.length c0_1]] rfl qm ?_; (with_reducible refine (laws_toNet.calls k a0_0 _ _ l0_1 t109 t118 _ ?side1 ?side2 A9.out).mono ?_); (case side1 => exact qc (Kd.C_below HR0_1.out HB.out)); (case side2 => exact HC0_1.out); rintro e w92 ⟨v130, rfl, ho0, hb⟩; refine ⟨_, rfl, ?_⟩; have n0_ := q0 (Kd.R_elder' (qr HO127.out) (Kd.R_base ho0) hb); have n1_ := q0 (Kd.R_below (qr HO129.out) hb); have n2_ := q0 (Kd.R_lower (Kd.R_new' ho0 (Kd.R_lt (qr HO127.out))) (below_size (qb HB.out))); have n3_ := q0 (kb BK116.out hb); have n4_ := q0 (below_step (qb HB.out) hb); clear HO127 HO129 BK116 HB; have HO127 := n0_; have HO129 := n1_; have HO131 := n2_; have BK116 := n3_; have HB := n4_; clear n0_ n1_ n2_ n3_ n4_; (try clear hb); (try clear hb2); (try clear hk); (try clear hi); (try clear ho0)) | ((with_reducible refine gate_dst (N := 5) rfl ?_); refine be 5 #[.int .i64 0, .slice none 0 0] 30 ?_; intro gb132 hg w93 hbox hb; have n0_ := q0 (Kd.R_below (qr HO127.out) hb); have n1_ := q0 (Kd.R_below (qr HO129.out) hb); have n2_ := q0 (Kd.R_below (qr HO131.out) hb); have n3_ := q0 (kb BK116.out hb); have n4_ := q0 (below_step (qb HB.out) hb); have n5_ := q0 (hbox); have n6_ := q0 ((bs HB.out hg : w.heap.size ≤ gb132)); have n7_ := q0 ((bs HB.out hg : w.heap.size ≤ gb132)); have n8_ := q0 ((bl BK116.out hg : gb116 ≠ gb132)); have n9_ := q0 ((bg BK116.out hg : gb132 ≠ gb116)); clear HO127 HO129 HO131 BK116 HB; have HO127 := n0_; have HO129 := n1_; have HO131 := n2_; have BK116 := n3_; have HB := n4_; have BK132 := n5_; have GW132 := n6_; have GE132 := n7_; have NB116_132 := n8_; have NB132_116 := n9_; clear n0_ n1_ n2_ n3_ n4_ n5_ n6_ n7_ n8_ n9_ hb hbox hg; have hnb94 := NB132_116.out; have hnc94 := NB116_132.out; have hcz95_0 : w93.cell? ⟨gb132, 0, none⟩ = some (.int .i64 0) := (blk_cell BK132.out 0).trans rfl; have hcz95_1 : w93.cell? ⟨gb132, 1, none⟩ = some (.slice none 0 0) := (blk_cell BK132.out 1).trans rfl; have hfz95_0 := blk_frozen BK132.out 0; have hfz95_1 := blk_frozen BK132.out 1; obtain ⟨Ao96, co96, eo96⟩ := Kd.R_slice HO131.out; subst eo96) | ((with_reducible refine gate_callee (f := 16) rfl ?_); refine goesL_ (some 22) rfl rfl Try.func16 (by kernel_rfl) rfl #[.agg #[.int .i64 t109, .slice Ao96 t118.length co96]] rfl qm ?_; (with_reducible refine (impl_WayParts.calls k t109 _ _ t118 t110 _ ?side1 ?side2 A10.out).mono ?_); (case side1 => refine (Kd.R_reads' (e := 44) (base := w.heap.size) (ok := fun k_ => (True ∧ some k_ ≠ (.slice Ao89 t117.length co89 : Value).ownBlock)) (n := t118.length) (c := co96) ?_).2.2; exact (by (with_reducible repeat (first | apply Kd.R_alloc | apply Kd.R_drewN | apply Kd.R_drew)); exact (Kd.R_mono (Kd.R_far (p := ⟨gb132, 1, none⟩) (Kd.R_far (p := ⟨gb132, 0, none⟩) (Kd.R_types HO131.out BK132.out (by decide)) (fun _ hk => hk.2) (.int .i64 t109)) (fun _ hk => hk.2) (.slice Ao96 t118.length co96)) (fun _ h_ => h_.1)))); (case side2 => exact (Kd.R_reads' HO131.out).2.1); rintro e w97 ⟨v133, rfl, ho0, hb⟩; refine ⟨_, rfl, ?_⟩; have n0_ := q0 (Kd.R_below (by (with_reducible repeat (first | apply Kd.R_alloc | apply Kd.R_drewN | apply Kd.R_drew)); exact (Kd.R_mono (Kd.R_far (p := ⟨gb132, 1, none⟩) (Kd.R_far (p := ⟨gb132, 0, none⟩) (Kd.R_types HO127.out BK132.out (by decide)) (fun _ hk => hk.2) (.int .i64 t109)) (fun _ hk => hk.2) (.slice Ao96 t118.length co96)) (fun _ h_ => h_.1))) hb); have n1_ := q0 (Kd.R_elder' (by (with_reducible repeat (first | apply Kd.R_alloc | apply Kd.R_drewN | apply Kd.R_drew)); exact (Kd.R_mono (Kd.R_far (p := ⟨gb132, 1, none⟩) (Kd.R_far (p := ⟨gb132, 0, none⟩) (Kd.R_types HO129.out BK132.out (by decide)) (fun _ hk => hk.2) (.int .i64 t109)) (fun _ hk => hk.2) (.slice Ao96 t118.length co96)) (fun _ h_ => h_.1))) (Kd.R_base ho0) hb); have n2_ := q0 (Kd.R_below (by (with_reducible repeat (first | apply Kd.R_alloc | apply Kd.R_drewN | apply Kd.R_drew)); exact (Kd.R_mono (Kd.R_far (p := ⟨gb132, 1, none⟩) (Kd.R_far (p := ⟨gb132, 0, none⟩) (Kd.R_types HO131.out BK132.out (by decide)) (fun _ hk => hk.2) (.int .i64 t109)) (fun _ hk => hk.2) (.slice Ao96 t118.length co96)) (fun _ h_ => h_.1))) hb); have n3_ := q0 (Kd.R_lower (Kd.R_new' ho0 (Kd.R_lt (by (with_reducible repeat (first | apply Kd.R_alloc | apply Kd.R_drewN | apply Kd.R_drew)); exact (Kd.R_mono (Kd.R_far (p := ⟨gb132, 1, none⟩) (Kd.R_far (p := ⟨gb132, 0, none⟩) (Kd.R_types HO129.out BK132.out (by decide)) (fun _ hk => hk.2) (.int .i64 t109)) (fun _ hk => hk.2) (.slice Ao96 t118.length co96)) (fun _ h_ => h_.1))))) (below_size (qb HB.out))); have n4_ := q0 (blk_below (g := gb116) (o := .cells #[.int .i64 a0_0, .slice A0_1 l0_1.length c0_1] 24 (0, 0)) (qf BK116.out) hb); have n5_ := q0 (blk_below (g := gb132) (o := .cells #[.int .i64 t109, .slice Ao96 t118.length co96] 30 (0, 0)) (by (with_reducible repeat (first | refine blk_drewN ?_ _ | refine blk_drew ?_ | refine blk_alloc ?_ _)); refine blk_put (cs := #[.int .i64 t109, .slice none 0 0]) ?_ 1 _ rfl; (with_reducible repeat (first | refine blk_drewN ?_ _ | refine blk_drew ?_ | refine blk_alloc ?_ _)); refine blk_put (cs := #[.int .i64 0, .slice none 0 0]) ?_ 0 _ rfl; (with_reducible repeat (first | refine blk_drewN ?_ _ | refine blk_drew ?_ | refine blk_alloc ?_ _)); exact BK132.out) hb); have n6_ := q0 (below_step (qb HB.out) hb); clear HO127 HO129 HO131 BK116 BK132 HB; have HO127 := n0_; have HO129 := n1_; have HO131 := n2_; have HO134 := n3_; have BK116 := n4_; have BK132 := n5_; have HB := n6_; clear n0_ n1_ n2_ n3_ n4_ n5_ n6_; (try clear hb); (try clear hb2); (try clear hk); (try clear hi); (try clear ho0); obtain ⟨Ao98, co98, eo98⟩ := Kd.R_slice HO134.out; subst eo98; obtain ⟨Ao99, co99, eo99⟩ := Kd.R_slice HO129.out; subst eo99) | ((with_reducible refine gate_callee (f := 17) rfl ?_); refine goesL_ (some 25) rfl rfl Try.func17 (by kernel_rfl) rfl #[.slice Ao98 t110.length co98, .slice Ao99 t108.length co99] rfl qm ?_; (with_reducible refine (laws_eqIntS.calls k _ _ t110 _ _ t108 true _ ?side1 ?side2 ?side3 ?side4 A11.out).mono ?_); (case side1 => exact qc (Kd.R_reads' HO134.out).2.2); (case side2 => exact (Kd.R_reads' HO134.out).2.1); (case side3 => exact qc (Kd.R_reads' HO129.out).2.2); (case side4 => exact (Kd.R_reads' HO129.out).2.1); rintro e w' ⟨rfl, ⟨nd, rfl⟩⟩; refine ⟨_, rfl, ?_⟩))
   (try (rw [drewN_self w97]; generalize hq_ : World.drewN w97 _ = w97; have n0_ : Aside0 (Kd.R kTie 44 w97 w.heap.size (fun k_ => some k_ ≠ (.slice Ao96 t118.length co96 : Value).ownBlock) (.slice Ao89 t117.length co89) t117) := ⟨by rw [← hq_]; exact (by (with_reducible repeat (first | apply Kd.R_alloc | apply Kd.R_drewN | apply Kd.R_drew)); exact Kd.R_mono HO127.out (fun _ hk => hk.2))⟩; have n1_ : Aside0 (Kd.R (Kd.int .i64) 3 w97 w.heap.size (fun k_ => some k_ ≠ (.slice Ao98 t110.length co98 : Value).ownBlock) (.slice Ao99 t108.length co99) t108) := ⟨by rw [← hq_]; exact (by (with_reducible repeat (first | apply Kd.R_alloc | apply Kd.R_drewN | apply Kd.R_drew)); exact Kd.R_mono HO129.out (fun _ hk => hk.2))⟩; have n2_ : Aside0 (Kd.R kTie 44 w97 w.heap.size (fun k_ => some k_ ≠ (.slice Ao89 t117.length co89 : Value).ownBlock) (.slice Ao96 t118.length co96) t118) := ⟨by rw [← hq_]; exact (by (with_reducible repeat (first | apply Kd.R_alloc | apply Kd.R_drewN | apply Kd.R_drew)); exact Kd.R_mono HO131.out (fun _ hk => hk.2))⟩; have n3_ : Aside0 (Kd.R (Kd.int .i64) 3 w97 w.heap.size (fun k_ => some k_ ≠ (.slice Ao99 t108.length co99 : Value).ownBlock) (.slice Ao98 t110.length co98) t110) := ⟨by rw [← hq_]; exact (by (with_reducible repeat (first | apply Kd.R_alloc | apply Kd.R_drewN | apply Kd.R_drew)); exact Kd.R_mono HO134.out (fun _ hk => hk.2))⟩; have n4_ : Aside0 (w97.heap[gb116]? = some (.cells #[.int .i64 a0_0, .slice A0_1 l0_1.length c0_1] 24 (0, 0))) := ⟨by rw [← hq_]; exact (qk BK116.out)⟩; have n5_ : Aside0 (w97.heap[gb132]? = some (.cells #[.int .i64 t109, .slice Ao96 t118.length co96] 30 (0, 0))) := ⟨by rw [← hq_]; exact (qk BK132.out)⟩; have n6_ : Aside0 (Below w.heap.size w w97) := ⟨by rw [← hq_]; exact (qb HB.out)⟩; clear HO127 HO129 HO131 HO134 BK116 BK132 HB hq_; have HO127 := n0_; have HO129 := n1_; have HO131 := n2_; have HO134 := n3_; have BK116 := n4_; have BK132 := n5_; have HB := n6_; clear n0_ n1_ n2_ n3_ n4_ n5_ n6_))
   have n0_ := q0 (Kd.R_drew HO127.out)
   have n1_ := q0 (Kd.R_drew HO129.out)
   have n2_ := q0 (Kd.R_drew HO131.out)
   have n3_ := q0 (Kd.R_drew HO134.out)
   have n4_ := q0 (blk_drew BK116.out)
   have n5_ := q0 (blk_drew BK132.out)
   have n6_ := q0 (below_drew1 HB.out)
   clear HO127
   clear HO129
   clear HO131
   clear HO134
   clear BK116
   clear BK132
   clear HB
   have HO127 := n0_
   have HO129 := n1_
   have HO131 := n2_
   have HO134 := n3_
   have BK116 := n4_
   have BK132 := n5_
   have HB := n6_
   clear n0_ n1_ n2_ n3_ n4_ n5_ n6_
   refine start_ (n := 5) (S := fun w' => w'.cell? ⟨gb132, 0, none⟩ = some (.int .i64 t109) ∧ w'.cell? ⟨gb132, 1, none⟩ = some (.slice Ao96 t118.length co96) ∧ w'.cell? ⟨gb116, 0, none⟩ = some (.int .i64 a0_0) ∧ w'.cell? ⟨gb116, 1, none⟩ = some (.slice A0_1 l0_1.length c0_1)) (ds := []) (ba 5 0) (by kernel_rfl) rfl (by kernel_rfl) ⟨(blk_cell BK132.out 0).trans rfl, (blk_cell BK132.out 1).trans rfl, (blk_cell BK116.out 0).trans rfl, (blk_cell BK116.out 1).trans rfl⟩ (fun hHeld => ?_)
   generalize w97.drew = w119 at HO127 HO129 HO131 HO134 BK116 BK132 HB hHeld ⊢
   refine tw 0 (some 27) (ba 5 1) hHeld ?_
   refine tw 1 (some 28) (ba 5 3) hHeld ?_
   refine one_ (i := 2) (N := some 29) (ba 5 7) rfl rfl (by kernel_rfl) (by decide) (fun K hK => ?_)
   refine goes_ Try.func15 (by kernel_rfl) rfl #[.agg #[.int .i64 a0_0, .slice A0_1 l0_1.length c0_1]] (by rfl) rfl rfl qm ?_
   with_reducible refine (laws_toNet.calls k a0_0 _ _ l0_1 t112 t121 _ ?side1 ?side2 A13.out).mono ?_
   (case side1 => exact qc (Kd.C_below HR0_1.out HB.out))
   (case side2 => exact HC0_1.out)
   rintro e w150 ⟨v135, rfl, ho0, hb⟩
   refine ⟨_, rfl, ?_⟩
   have n0_ := q0 (Kd.R_elder' (qr HO127.out) (Kd.R_base ho0) hb)
   have n1_ := q0 (Kd.R_below (qr HO129.out) hb)
   have n2_ := q0 (Kd.R_elder' (qr HO131.out) (Kd.R_base ho0) hb)
   have n3_ := q0 (Kd.R_below (qr HO134.out) hb)
   have n4_ := q0 (Kd.R_lower (Kd.R_new' (Kd.R_new' ho0 (Kd.R_lt (qr HO127.out))) (Kd.R_lt (qr HO131.out))) (below_size (qb HB.out)))
   have n5_ := q0 (kb BK116.out hb)
   have n6_ := q0 (kb BK132.out hb)
   have n7_ := q0 (below_step (qb HB.out) hb)
   clear HO127
   clear HO129
   clear HO131
   clear HO134
   clear BK116
   clear BK132
   clear HB
   have HO127 := n0_
   have HO129 := n1_
   have HO131 := n2_
   have HO134 := n3_
   have HO136 := n4_
   have BK116 := n5_
   have BK132 := n6_
   have HB := n7_
   clear n0_ n1_ n2_ n3_ n4_ n5_ n6_ n7_
   (try clear hb)
   (try clear hb2)
   (try clear hk)
   (try clear hi)
   (try clear ho0)
   obtain ⟨Ao151, co151, eo151⟩ := Kd.R_slice HO136.out
   (first | subst eo151 | (injection eo151 with f1_ f2_ f3_; have f4_ := f1_.symm; have f5_ := f3_.symm; clear f1_ f2_ f3_; subst f4_; subst f5_))
   refine hK.out _ _ ⟨(blk_cell BK132.out 0).trans rfl, (blk_cell BK132.out 1).trans rfl, (blk_cell BK116.out 0).trans rfl, (blk_cell BK116.out 1).trans rfl⟩ (fun hHeld => ?_)
   clear hK K
   refine nu 29 ?_
   refine one_ (i := 3) (N := some 30) (ba 5 15) rfl rfl (by kernel_rfl) (by decide) (fun K hK => ?_)
   refine goes_ Try.func18 (by kernel_rfl) rfl #[.agg #[.int .i64 t109, .slice Ao96 t118.length co96], .agg #[.int .i64 t112, .slice Ao151 t121.length co151]] (by rfl) rfl rfl qm ?_
   with_reducible refine (laws_eqNet.calls k t109 _ _ t118 t112 _ _ t121 false _ ?side1 ?side2 ?side3 ?side4 A14.out).mono ?_
   (case side1 => exact qc (Kd.R_reads' HO131.out).2.2)
   (case side2 => exact (Kd.R_reads' HO131.out).2.1)
   (case side3 => exact qc (Kd.R_reads' HO136.out).2.2)
   (case side4 => exact (Kd.R_reads' HO136.out).2.1)
   rintro e w152 ⟨rfl, hb⟩
   refine ⟨_, rfl, ?_⟩
   have n0_ := q0 (Kd.R_below (qr HO127.out) hb)
   have n1_ := q0 (Kd.R_below (qr HO129.out) hb)
   have n2_ := q0 (Kd.R_below (qr HO131.out) hb)
   have n3_ := q0 (Kd.R_below (qr HO134.out) hb)
   have n4_ := q0 (Kd.R_below (qr HO136.out) hb)
   have n5_ := q0 (kb BK116.out hb)
   have n6_ := q0 (kb BK132.out hb)
   have n7_ := q0 (below_step (qb HB.out) hb)
   clear HO127
   clear HO129
   clear HO131
   clear HO134
   clear HO136
   clear BK116
   clear BK132
   clear HB
   have HO127 := n0_
   have HO129 := n1_
   have HO131 := n2_
   have HO134 := n3_
   have HO136 := n4_
   have BK116 := n5_
   have BK132 := n6_
   have HB := n7_
   clear n0_ n1_ n2_ n3_ n4_ n5_ n6_ n7_
   (try clear hb)
   (try clear hb2)
   (try clear hk)
   (try clear hi)
   refine hK.out _ _ ⟨(blk_cell BK132.out 0).trans rfl, (blk_cell BK132.out 1).trans rfl, (blk_cell BK116.out 0).trans rfl, (blk_cell BK116.out 1).trans rfl⟩ (fun hHeld => ?_)
   clear hK K
   refine nu 30 ?_
   refine pw 4 (some 31) (ba 5 31) ?_
   refine done_ (by kernel_rfl) ?_
   try go_wp2
   go_ret
   exact ⟨qe, qb HB.out⟩
 subst c15
 have H1 : ((laws_markNet.f k t109 t118 1).bind fun bt114 => (if bt114.1 < 0 then (laws_FnExactWayParts.j0 k t108 t110 true a0_0 l0_1) else ((laws_eqIntS.f k t110 t108).bind fun t115 => (laws_FnExactWayParts.j0 k t108 t110 (!t115) a0_0 l0_1)))) = some r := by rw [if_pos rfl] at H; exact H
 clear H
 have H := H1
 clear H1
 replace H := Option.bind_eq_some_iff.mp H
 obtain ⟨⟨t114, t124⟩, A125, H⟩ := H
 replace H : (if t114 < 0 then (laws_FnExactWayParts.j0 k t108 t110 true a0_0 l0_1) else ((laws_eqIntS.f k t110 t108).bind fun t115 => (laws_FnExactWayParts.j0 k t108 t110 (!t115) a0_0 l0_1))) = some r := H
 have A16 := Aside0.mk A125
 clear A125
 have HC17 := Aside0.mk H
 clear H
 go_enter Try.func3, Try.ntmps3
 try go_wp2_with (first | ((with_reducible refine gate_dst (N := 1) rfl ?_); refine be 1 #[.int .i64 a0_0, .slice A0_1 l0_1.length c0_1] 24 ?_; intro gb116 hg w18 hbox hb; have n0_ := q0 (below_step (qb HB.out) hb); have n1_ := q0 (hbox); have n2_ := q0 ((bs HB.out hg : w.heap.size ≤ gb116)); have n3_ := q0 ((bs HB.out hg : w.heap.size ≤ gb116)); clear HB; have HB := n0_; have BK116 := n1_; have GW116 := n2_; have GE116 := n3_; clear n0_ n1_ n2_ n3_ hb hbox hg; have hcz19_0 : w18.cell? ⟨gb116, 0, none⟩ = some (.int .i64 a0_0) := (blk_cell BK116.out 0).trans rfl; have hcz19_1 : w18.cell? ⟨gb116, 1, none⟩ = some (.slice A0_1 l0_1.length c0_1) := (blk_cell BK116.out 1).trans rfl; have hfz19_0 := blk_frozen BK116.out 0; have hfz19_1 := blk_frozen BK116.out 1) | ((with_reducible refine gate_callee (f := 13) rfl ?_); refine goesL_ (some 13) rfl rfl Try.func13 (by kernel_rfl) rfl #[.agg #[.int .i64 a0_0, .slice A0_1 l0_1.length c0_1], .int .i64 1048576] rfl qm ?_; (with_reducible refine (laws_szNet.calls a0_0 _ _ l0_1 1048576 t100 _ ?side1 ?side2 A2.out).mono ?_); (case side1 => exact qc (Kd.C_below HR0_1.out HB.out)); (case side2 => exact HC0_1.out); rintro e w20 ⟨rfl, hb⟩; refine ⟨_, rfl, ?_⟩; have n0_ := q0 (kb BK116.out hb); have n1_ := q0 (below_step (qb HB.out) hb); clear BK116 HB; have BK116 := n0_; have HB := n1_; clear n0_ n1_; (try clear hb); (try clear hb2); (try clear hk); (try clear hi); have hcz21_0 : w20.cell? ⟨gb116, 0, none⟩ = some (.int .i64 a0_0) := (blk_cell BK116.out 0).trans rfl; have hcz21_1 : w20.cell? ⟨gb116, 1, none⟩ = some (.slice A0_1 l0_1.length c0_1) := (blk_cell BK116.out 1).trans rfl; have hfz21_0 := blk_frozen BK116.out 0; have hfz21_1 := blk_frozen BK116.out 1) | ((with_reducible refine gate_callee (f := 15) rfl ?_); refine goesL_ (some 17) rfl rfl Try.func15 (by kernel_rfl) rfl #[.agg #[.int .i64 a0_0, .slice A0_1 l0_1.length c0_1]] rfl qm ?_; (with_reducible refine (laws_toNet.calls k a0_0 _ _ l0_1 t107 t117 _ ?side1 ?side2 A7.out).mono ?_); (case side1 => exact qc (Kd.C_below HR0_1.out HB.out)); (case side2 => exact HC0_1.out); rintro e w22 ⟨v126, rfl, ho0, hb⟩; refine ⟨_, rfl, ?_⟩; have n0_ := q0 (Kd.R_lower ho0 (below_size (qb HB.out))); have n1_ := q0 (kb BK116.out hb); have n2_ := q0 (below_step (qb HB.out) hb); clear BK116 HB; have HO127 := n0_; have BK116 := n1_; have HB := n2_; clear n0_ n1_ n2_; (try clear hb); (try clear hb2); (try clear hk); (try clear hi); (try clear ho0); obtain ⟨Ao23, co23, eo23⟩ := Kd.R_slice HO127.out; subst eo23) | ((with_reducible refine gate_callee (f := 14) rfl ?_); refine goesL_ (some 18) rfl rfl Try.func14 (by kernel_rfl) rfl #[.agg #[.int .i64 t107, .slice Ao23 t117.length co23]] rfl qm ?_; (with_reducible refine (spec_WayParts.calls k t107 _ _ t117 t108 _ ?side1 ?side2 A8.out).mono ?_); (case side1 => exact qc (Kd.R_reads' HO127.out).2.2); (case side2 => exact (Kd.R_reads' HO127.out).2.1); rintro e w24 ⟨v128, rfl, ho0, hb⟩; refine ⟨_, rfl, ?_⟩; have n0_ := q0 (Kd.R_below (qr HO127.out) hb); have n1_ := q0 (Kd.R_lower ho0 (below_size (qb HB.out))); have n2_ := q0 (kb BK116.out hb); have n3_ := q0 (below_step (qb HB.out) hb); clear HO127 BK116 HB; have HO127 := n0_; have HO129 := n1_; have BK116 := n2_; have HB := n3_; clear n0_ n1_ n2_ n3_; (try clear hb); (try clear hb2); (try clear hk); (try clear hi); (try clear ho0); have hcz25_0 : w24.cell? ⟨gb116, 0, none⟩ = some (.int .i64 a0_0) := (blk_cell BK116.out 0).trans rfl; have hcz25_1 : w24.cell? ⟨gb116, 1, none⟩ = some (.slice A0_1 l0_1.length c0_1) := (blk_cell BK116.out 1).trans rfl; have hfz25_0 := blk_frozen BK116.out 0; have hfz25_1 := blk_frozen BK116.out 1) | ((with_reducible refine gate_callee (f := 15) rfl ?_); refine goesL_ (some 20) rfl rfl Try.func15 (by kernel_rfl) rfl #[.agg #[.int .i64 a0_0, .slice A0_1 l0_1.length c0_1]] rfl qm ?_; (with_reducible refine (laws_toNet.calls k a0_0 _ _ l0_1 t109 t118 _ ?side1 ?side2 A9.out).mono ?_); (case side1 => exact qc (Kd.C_below HR0_1.out HB.out)); (case side2 => exact HC0_1.out); rintro e w26 ⟨v130, rfl, ho0, hb⟩; refine ⟨_, rfl, ?_⟩; have n0_ := q0 (Kd.R_elder' (qr HO127.out) (Kd.R_base ho0) hb); have n1_ := q0 (Kd.R_below (qr HO129.out) hb); have n2_ := q0 (Kd.R_lower (Kd.R_new' ho0 (Kd.R_lt (qr HO127.out))) (below_size (qb HB.out))); have n3_ := q0 (kb BK116.out hb); have n4_ := q0 (below_step (qb HB.out) hb); clear HO127 HO129 BK116 HB; have HO127 := n0_; have HO129 := n1_; have HO131 := n2_; have BK116 := n3_; have HB := n4_; clear n0_ n1_ n2_ n3_ n4_; (try clear hb); (try clear hb2); (try clear hk); (try clear hi); (try clear ho0)) | ((with_reducible refine gate_dst (N := 5) rfl ?_); refine be 5 #[.int .i64 0, .slice none 0 0] 30 ?_; intro gb132 hg w27 hbox hb; have n0_ := q0 (Kd.R_below (qr HO127.out) hb); have n1_ := q0 (Kd.R_below (qr HO129.out) hb); have n2_ := q0 (Kd.R_below (qr HO131.out) hb); have n3_ := q0 (kb BK116.out hb); have n4_ := q0 (below_step (qb HB.out) hb); have n5_ := q0 (hbox); have n6_ := q0 ((bs HB.out hg : w.heap.size ≤ gb132)); have n7_ := q0 ((bs HB.out hg : w.heap.size ≤ gb132)); have n8_ := q0 ((bl BK116.out hg : gb116 ≠ gb132)); have n9_ := q0 ((bg BK116.out hg : gb132 ≠ gb116)); clear HO127 HO129 HO131 BK116 HB; have HO127 := n0_; have HO129 := n1_; have HO131 := n2_; have BK116 := n3_; have HB := n4_; have BK132 := n5_; have GW132 := n6_; have GE132 := n7_; have NB116_132 := n8_; have NB132_116 := n9_; clear n0_ n1_ n2_ n3_ n4_ n5_ n6_ n7_ n8_ n9_ hb hbox hg; have hnb28 := NB132_116.out; have hnc28 := NB116_132.out; have hcz29_0 : w27.cell? ⟨gb132, 0, none⟩ = some (.int .i64 0) := (blk_cell BK132.out 0).trans rfl; have hcz29_1 : w27.cell? ⟨gb132, 1, none⟩ = some (.slice none 0 0) := (blk_cell BK132.out 1).trans rfl; have hfz29_0 := blk_frozen BK132.out 0; have hfz29_1 := blk_frozen BK132.out 1; obtain ⟨Ao30, co30, eo30⟩ := Kd.R_slice HO131.out; subst eo30) | ((with_reducible refine gate_callee (f := 16) rfl ?_); refine goesL_ (some 22) rfl rfl Try.func16 (by kernel_rfl) rfl #[.agg #[.int .i64 t109, .slice Ao30 t118.length co30]] rfl qm ?_; (with_reducible refine (impl_WayParts.calls k t109 _ _ t118 t110 _ ?side1 ?side2 A10.out).mono ?_); (case side1 => refine (Kd.R_reads' (e := 44) (base := w.heap.size) (ok := fun k_ => (True ∧ some k_ ≠ (.slice Ao23 t117.length co23 : Value).ownBlock)) (n := t118.length) (c := co30) ?_).2.2; exact (by (with_reducible repeat (first | apply Kd.R_alloc | apply Kd.R_drewN | apply Kd.R_drew)); exact (Kd.R_mono (Kd.R_far (p := ⟨gb132, 1, none⟩) (Kd.R_far (p := ⟨gb132, 0, none⟩) (Kd.R_types HO131.out BK132.out (by decide)) (fun _ hk => hk.2) (.int .i64 t109)) (fun _ hk => hk.2) (.slice Ao30 t118.length co30)) (fun _ h_ => h_.1)))); (case side2 => exact (Kd.R_reads' HO131.out).2.1); rintro e w31 ⟨v133, rfl, ho0, hb⟩; refine ⟨_, rfl, ?_⟩; have n0_ := q0 (Kd.R_below (by (with_reducible repeat (first | apply Kd.R_alloc | apply Kd.R_drewN | apply Kd.R_drew)); exact (Kd.R_mono (Kd.R_far (p := ⟨gb132, 1, none⟩) (Kd.R_far (p := ⟨gb132, 0, none⟩) (Kd.R_types HO127.out BK132.out (by decide)) (fun _ hk => hk.2) (.int .i64 t109)) (fun _ hk => hk.2) (.slice Ao30 t118.length co30)) (fun _ h_ => h_.1))) hb); have n1_ := q0 (Kd.R_elder' (by (with_reducible repeat (first | apply Kd.R_alloc | apply Kd.R_drewN | apply Kd.R_drew)); exact (Kd.R_mono (Kd.R_far (p := ⟨gb132, 1, none⟩) (Kd.R_far (p := ⟨gb132, 0, none⟩) (Kd.R_types HO129.out BK132.out (by decide)) (fun _ hk => hk.2) (.int .i64 t109)) (fun _ hk => hk.2) (.slice Ao30 t118.length co30)) (fun _ h_ => h_.1))) (Kd.R_base ho0) hb); have n2_ := q0 (Kd.R_below (by (with_reducible repeat (first | apply Kd.R_alloc | apply Kd.R_drewN | apply Kd.R_drew)); exact (Kd.R_mono (Kd.R_far (p := ⟨gb132, 1, none⟩) (Kd.R_far (p := ⟨gb132, 0, none⟩) (Kd.R_types HO131.out BK132.out (by decide)) (fun _ hk => hk.2) (.int .i64 t109)) (fun _ hk => hk.2) (.slice Ao30 t118.length co30)) (fun _ h_ => h_.1))) hb); have n3_ := q0 (Kd.R_lower (Kd.R_new' ho0 (Kd.R_lt (by (with_reducible repeat (first | apply Kd.R_alloc | apply Kd.R_drewN | apply Kd.R_drew)); exact (Kd.R_mono (Kd.R_far (p := ⟨gb132, 1, none⟩) (Kd.R_far (p := ⟨gb132, 0, none⟩) (Kd.R_types HO129.out BK132.out (by decide)) (fun _ hk => hk.2) (.int .i64 t109)) (fun _ hk => hk.2) (.slice Ao30 t118.length co30)) (fun _ h_ => h_.1))))) (below_size (qb HB.out))); have n4_ := q0 (blk_below (g := gb116) (o := .cells #[.int .i64 a0_0, .slice A0_1 l0_1.length c0_1] 24 (0, 0)) (qf BK116.out) hb); have n5_ := q0 (blk_below (g := gb132) (o := .cells #[.int .i64 t109, .slice Ao30 t118.length co30] 30 (0, 0)) (by (with_reducible repeat (first | refine blk_drewN ?_ _ | refine blk_drew ?_ | refine blk_alloc ?_ _)); refine blk_put (cs := #[.int .i64 t109, .slice none 0 0]) ?_ 1 _ rfl; (with_reducible repeat (first | refine blk_drewN ?_ _ | refine blk_drew ?_ | refine blk_alloc ?_ _)); refine blk_put (cs := #[.int .i64 0, .slice none 0 0]) ?_ 0 _ rfl; (with_reducible repeat (first | refine blk_drewN ?_ _ | refine blk_drew ?_ | refine blk_alloc ?_ _)); exact BK132.out) hb); have n6_ := q0 (below_step (qb HB.out) hb); clear HO127 HO129 HO131 BK116 BK132 HB; have HO127 := n0_; have HO129 := n1_; have HO131 := n2_; have HO134 := n3_; have BK116 := n4_; have BK132 := n5_; have HB := n6_; clear n0_ n1_ n2_ n3_ n4_ n5_ n6_; (try clear hb); (try clear hb2); (try clear hk); (try clear hi); (try clear ho0); obtain ⟨Ao32, co32, eo32⟩ := Kd.R_slice HO134.out; subst eo32; obtain ⟨Ao33, co33, eo33⟩ := Kd.R_slice HO129.out; subst eo33) | ((with_reducible refine gate_callee (f := 17) rfl ?_); refine goesL_ (some 25) rfl rfl Try.func17 (by kernel_rfl) rfl #[.slice Ao32 t110.length co32, .slice Ao33 t108.length co33] rfl qm ?_; (with_reducible refine (laws_eqIntS.calls k _ _ t110 _ _ t108 true _ ?side1 ?side2 ?side3 ?side4 A11.out).mono ?_); (case side1 => exact qc (Kd.R_reads' HO134.out).2.2); (case side2 => exact (Kd.R_reads' HO134.out).2.1); (case side3 => exact qc (Kd.R_reads' HO129.out).2.2); (case side4 => exact (Kd.R_reads' HO129.out).2.1); rintro e w' ⟨rfl, ⟨nd, rfl⟩⟩; refine ⟨_, rfl, ?_⟩))
 (try (rw [drewN_self w31]; generalize hq_ : World.drewN w31 _ = w31; have n0_ : Aside0 (Kd.R kTie 44 w31 w.heap.size (fun k_ => some k_ ≠ (.slice Ao30 t118.length co30 : Value).ownBlock) (.slice Ao23 t117.length co23) t117) := ⟨by rw [← hq_]; exact (by (with_reducible repeat (first | apply Kd.R_alloc | apply Kd.R_drewN | apply Kd.R_drew)); exact Kd.R_mono HO127.out (fun _ hk => hk.2))⟩; have n1_ : Aside0 (Kd.R (Kd.int .i64) 3 w31 w.heap.size (fun k_ => some k_ ≠ (.slice Ao32 t110.length co32 : Value).ownBlock) (.slice Ao33 t108.length co33) t108) := ⟨by rw [← hq_]; exact (by (with_reducible repeat (first | apply Kd.R_alloc | apply Kd.R_drewN | apply Kd.R_drew)); exact Kd.R_mono HO129.out (fun _ hk => hk.2))⟩; have n2_ : Aside0 (Kd.R kTie 44 w31 w.heap.size (fun k_ => some k_ ≠ (.slice Ao23 t117.length co23 : Value).ownBlock) (.slice Ao30 t118.length co30) t118) := ⟨by rw [← hq_]; exact (by (with_reducible repeat (first | apply Kd.R_alloc | apply Kd.R_drewN | apply Kd.R_drew)); exact Kd.R_mono HO131.out (fun _ hk => hk.2))⟩; have n3_ : Aside0 (Kd.R (Kd.int .i64) 3 w31 w.heap.size (fun k_ => some k_ ≠ (.slice Ao33 t108.length co33 : Value).ownBlock) (.slice Ao32 t110.length co32) t110) := ⟨by rw [← hq_]; exact (by (with_reducible repeat (first | apply Kd.R_alloc | apply Kd.R_drewN | apply Kd.R_drew)); exact Kd.R_mono HO134.out (fun _ hk => hk.2))⟩; have n4_ : Aside0 (w31.heap[gb116]? = some (.cells #[.int .i64 a0_0, .slice A0_1 l0_1.length c0_1] 24 (0, 0))) := ⟨by rw [← hq_]; exact (qk BK116.out)⟩; have n5_ : Aside0 (w31.heap[gb132]? = some (.cells #[.int .i64 t109, .slice Ao30 t118.length co30] 30 (0, 0))) := ⟨by rw [← hq_]; exact (qk BK132.out)⟩; have n6_ : Aside0 (Below w.heap.size w w31) := ⟨by rw [← hq_]; exact (qb HB.out)⟩; clear HO127 HO129 HO131 HO134 BK116 BK132 HB hq_; have HO127 := n0_; have HO129 := n1_; have HO131 := n2_; have HO134 := n3_; have BK116 := n4_; have BK132 := n5_; have HB := n6_; clear n0_ n1_ n2_ n3_ n4_ n5_ n6_))
 have n0_ := q0 (Kd.R_drew HO127.out)
 have n1_ := q0 (Kd.R_drew HO129.out)
 have n2_ := q0 (Kd.R_drew HO131.out)
 have n3_ := q0 (Kd.R_drew HO134.out)
 have n4_ := q0 (blk_drew BK116.out)
 have n5_ := q0 (blk_drew BK132.out)
 have n6_ := q0 (below_drew1 HB.out)
 clear HO127
 clear HO129
 clear HO131
 clear HO134
 clear BK116
 clear BK132
 clear HB
 have HO127 := n0_
 have HO129 := n1_
 have HO131 := n2_
 have HO134 := n3_
 have BK116 := n4_
 have BK132 := n5_
 have HB := n6_
 clear n0_ n1_ n2_ n3_ n4_ n5_ n6_
 refine start_ (n := 5) (S := fun w' => w'.cell? ⟨gb132, 0, none⟩ = some (.int .i64 t109) ∧ w'.cell? ⟨gb132, 1, none⟩ = some (.slice Ao30 t118.length co30) ∧ w'.cell? ⟨gb116, 0, none⟩ = some (.int .i64 a0_0) ∧ w'.cell? ⟨gb116, 1, none⟩ = some (.slice A0_1 l0_1.length c0_1)) (ds := []) (ba 5 0) (by kernel_rfl) rfl (by kernel_rfl) ⟨(blk_cell BK132.out 0).trans rfl, (blk_cell BK132.out 1).trans rfl, (blk_cell BK116.out 0).trans rfl, (blk_cell BK116.out 1).trans rfl⟩ (fun hHeld => ?_)
 generalize w31.drew = w34 at HO127 HO129 HO131 HO134 BK116 BK132 HB hHeld ⊢
 refine tw 0 (some 27) (ba 5 1) hHeld ?_
 refine tw 1 (some 28) (ba 5 3) hHeld ?_
 refine one_ (i := 2) (N := some 29) (ba 5 7) rfl rfl (by kernel_rfl) (by decide) (fun K hK => ?_)
 refine goes_ Try.func15 (by kernel_rfl) rfl #[.agg #[.int .i64 a0_0, .slice A0_1 l0_1.length c0_1]] (by rfl) rfl rfl qm ?_
 with_reducible refine (laws_toNet.calls k a0_0 _ _ l0_1 t112 t121 _ ?side1 ?side2 A13.out).mono ?_
 (case side1 => exact qc (Kd.C_below HR0_1.out HB.out))
 (case side2 => exact HC0_1.out)
 rintro e w35 ⟨v135, rfl, ho0, hb⟩
 refine ⟨_, rfl, ?_⟩
 have n0_ := q0 (Kd.R_elder' (qr HO127.out) (Kd.R_base ho0) hb)
 have n1_ := q0 (Kd.R_below (qr HO129.out) hb)
 have n2_ := q0 (Kd.R_elder' (qr HO131.out) (Kd.R_base ho0) hb)
 have n3_ := q0 (Kd.R_below (qr HO134.out) hb)
 have n4_ := q0 (Kd.R_lower (Kd.R_new' (Kd.R_new' ho0 (Kd.R_lt (qr HO127.out))) (Kd.R_lt (qr HO131.out))) (below_size (qb HB.out)))
 have n5_ := q0 (kb BK116.out hb)
 have n6_ := q0 (kb BK132.out hb)
 have n7_ := q0 (below_step (qb HB.out) hb)
 clear HO127
 clear HO129
 clear HO131
 clear HO134
 clear BK116
 clear BK132
 clear HB
 have HO127 := n0_
 have HO129 := n1_
 have HO131 := n2_
 have HO134 := n3_
 have HO136 := n4_
 have BK116 := n5_
 have BK132 := n6_
 have HB := n7_
 clear n0_ n1_ n2_ n3_ n4_ n5_ n6_ n7_
 (try clear hb)
 (try clear hb2)
 (try clear hk)
 (try clear hi)
 (try clear ho0)
 obtain ⟨Ao36, co36, eo36⟩ := Kd.R_slice HO136.out
 (first | subst eo36 | (injection eo36 with f1_ f2_ f3_; have f4_ := f1_.symm; have f5_ := f3_.symm; clear f1_ f2_ f3_; subst f4_; subst f5_))
 refine hK.out _ _ ⟨(blk_cell BK132.out 0).trans rfl, (blk_cell BK132.out 1).trans rfl, (blk_cell BK116.out 0).trans rfl, (blk_cell BK116.out 1).trans rfl⟩ (fun hHeld => ?_)
 clear hK K
 refine nu 29 ?_
 refine one_ (i := 3) (N := some 30) (ba 5 15) rfl rfl (by kernel_rfl) (by decide) (fun K hK => ?_)
 refine goes_ Try.func18 (by kernel_rfl) rfl #[.agg #[.int .i64 t109, .slice Ao30 t118.length co30], .agg #[.int .i64 t112, .slice Ao36 t121.length co36]] (by rfl) rfl rfl qm ?_
 with_reducible refine (laws_eqNet.calls k t109 _ _ t118 t112 _ _ t121 true _ ?side1 ?side2 ?side3 ?side4 A14.out).mono ?_
 (case side1 => exact qc (Kd.R_reads' HO131.out).2.2)
 (case side2 => exact (Kd.R_reads' HO131.out).2.1)
 (case side3 => exact qc (Kd.R_reads' HO136.out).2.2)
 (case side4 => exact (Kd.R_reads' HO136.out).2.1)
 rintro e w37 ⟨rfl, hb⟩
 refine ⟨_, rfl, ?_⟩
 have n0_ := q0 (Kd.R_below (qr HO127.out) hb)
 have n1_ := q0 (Kd.R_below (qr HO129.out) hb)
 have n2_ := q0 (Kd.R_below (qr HO131.out) hb)
 have n3_ := q0 (Kd.R_below (qr HO134.out) hb)
 have n4_ := q0 (Kd.R_below (qr HO136.out) hb)
 have n5_ := q0 (kb BK116.out hb)
 have n6_ := q0 (kb BK132.out hb)
 have n7_ := q0 (below_step (qb HB.out) hb)
 clear HO127
 clear HO129
 clear HO131
 clear HO134
 clear HO136
 clear BK116
 clear BK132
 clear HB
 have HO127 := n0_
 have HO129 := n1_
 have HO131 := n2_
 have HO134 := n3_
 have HO136 := n4_
 have BK116 := n5_
 have BK132 := n6_
 have HB := n7_
 clear n0_ n1_ n2_ n3_ n4_ n5_ n6_ n7_
 (try clear hb)
 (try clear hb2)
 (try clear hk)
 (try clear hi)
 refine hK.out _ _ ⟨(blk_cell BK132.out 0).trans rfl, (blk_cell BK132.out 1).trans rfl, (blk_cell BK116.out 0).trans rfl, (blk_cell BK116.out 1).trans rfl⟩ (fun hHeld => ?_)
 clear hK K
 refine nu 30 ?_
 refine pw 4 (some 31) (ba 5 31) ?_
 refine done_ (by kernel_rfl) ?_
 have hcz38_0 : w37.cell? ⟨gb132, 0, none⟩ = some (.int .i64 t109) := (blk_cell BK132.out 0).trans rfl
 have hcz38_1 : w37.cell? ⟨gb132, 1, none⟩ = some (.slice Ao30 t118.length co30) := (blk_cell BK132.out 1).trans rfl
 have hfz38_0 := blk_frozen BK132.out 0
 have hfz38_1 := blk_frozen BK132.out 1
 go_upto_region 14 with (first | ((with_reducible refine gate_callee (f := 19) rfl ?_); refine goesL_ (some 34) rfl rfl Try.func19 (by kernel_rfl) rfl #[.agg #[.int .i64 t109, .slice Ao30 t118.length co30], .int .i64 1] rfl qm ?_; (with_reducible refine (laws_markNet.calls k t109 (fun k_ => some k_ = (.slice Ao30 t118.length co30 : Value).ownBlock) (.slice Ao30 t118.length co30) t118 1 t114 t124 w _ ?side1 ?side2 A16.out).mono ?_); (case side1 => exact qb HB.out); (case side2 => exact Kd.R_tight rfl HO131.out); rintro e w39 ⟨rfl, hy0, hb, hkp⟩; refine ⟨_, rfl, ?_⟩; have n0_ := q0 (blk_kept (qk BK116.out) hkp (fun hs_ => (fun e_ => (Kd.R_ne HO131.out BK116.out (by decide)) e_) hs_)); have n1_ := q0 (Kd.R_mono (ok' := fun k_ => some k_ ≠ (.slice Ao30 t118.length co30 : Value).ownBlock ∧ some k_ ≠ (.slice Ao36 t121.length co36 : Value).ownBlock) (Kd.R_keptB (HO127.out) hkp (fun k_ hk_ hs_ => by first | exact (hk_.1.2) hs_ | grind)) (fun k_ hk_ => by first | exact ⟨hk_.1.1.2, hk_.1.2⟩ | grind)); have n2_ := q0 (Kd.R_mono (ok' := fun k_ => some k_ ≠ (.slice Ao32 t110.length co32 : Value).ownBlock) (Kd.R_keptB ((Kd.R_apart' HO129.out (Kd.R_typed HO131.out) (by decide))) hkp (fun k_ hk_ hs_ => by first | exact (hk_.2) hs_ | grind)) (fun k_ hk_ => by first | exact hk_.1.1.2 | grind)); have n3_ := q0 (Kd.R_reok rfl hy0 (fun k_ e_ => HO131.out.1 k_ e_)); have n4_ := q0 (blk_kept (qk BK132.out) hkp (fun hs_ => (fun e_ => (Kd.R_ne HO131.out BK132.out (by decide)) e_) hs_)); have n5_ := q0 (Kd.R_mono (ok' := fun k_ => some k_ ≠ (.slice Ao33 t108.length co33 : Value).ownBlock) (Kd.R_keptB ((Kd.R_apart' HO134.out (Kd.R_typed HO131.out) (by decide))) hkp (fun k_ hk_ hs_ => by first | exact (hk_.2) hs_ | grind)) (fun k_ hk_ => by first | exact hk_.1.1.2 | grind)); have n6_ := q0 (Kd.R_mono (ok' := fun k_ => some k_ ≠ (.slice Ao23 t117.length co23 : Value).ownBlock ∧ some k_ ≠ (.slice Ao30 t118.length co30 : Value).ownBlock) (Kd.R_keptB (HO136.out) hkp (fun k_ hk_ hs_ => by first | exact (hk_.2) hs_ | grind)) (fun k_ hk_ => by first | exact ⟨hk_.1.1.2, hk_.1.2⟩ | grind)); have n7_ := q0 (hb); clear BK116 HO127 HO129 HO131 BK132 HO134 HO136 HB; have BK116 := n0_; have HO127 := n1_; have HO129 := n2_; have HO131 := n3_; have BK132 := n4_; have HO134 := n5_; have HO136 := n6_; have HB := n7_; clear n0_ n1_ n2_ n3_ n4_ n5_ n6_ n7_; (try clear hb); (try clear hkp); (try clear hy0)))
 (try simp only [Act.put, List.setIfInBounds_toArray, List.set_cons_zero, List.set_cons_succ])
 go_cut [42] (fun v42 wc => ∃ (kq : Nat) (x42_16 : Bool), v42 = .bool x42_16 ∧ Aside0 (laws_FnExactWayParts.j0 kq t108 t110 x42_16 a0_0 l0_1 = some r) ∧ Aside0 (kq ≤ k) ∧ Aside0 (Kd.R (Kd.int .i64) 3 wc w.heap.size (fun k_ => some k_ ≠ ((.slice Ao32 t110.length co32) : Value).ownBlock) (.slice Ao33 t108.length co33) t108) ∧ Aside0 (Kd.R (Kd.int .i64) 3 wc w.heap.size (fun k_ => some k_ ≠ ((.slice Ao33 t108.length co33) : Value).ownBlock) (.slice Ao32 t110.length co32) t110) ∧ Aside0 (Kd.R kTie 44 wc w.heap.size (fun _ => True) (.slice Ao30 t118.length co30) t124) ∧ Aside0 (wc.heap[gb116]? = some (.cells #[.int .i64 a0_0, (.slice A0_1 l0_1.length c0_1)] 24 (0, 0))) ∧ Aside0 (wc.heap[gb132]? = some (.cells #[.int .i64 t109, (.slice Ao30 t118.length co30)] 30 (0, 0))) ∧ Aside0 (Below w.heap.size w wc))
 case first =>
   have H := HC17.out
   clear HC17
   by_cases c40 : t114 < 0
   · rw [if_pos c40] at H
     have c40b0 : decide (t114 < 0) = true := decide_eq_true c40
     clear c40
     (first | rw [c40b0] | (simp only [i64_w, i32_w]; rw [c40b0]) | skip)
     have H' := Aside0.mk H
     clear H
     go_wp2
     go_meet
     case rel => exact ⟨_, (true), qs, H', ⟨by first | omega | exact Nat.le_refl _⟩, ⟨qr HO129.out⟩, ⟨qr HO134.out⟩, ⟨by (with_reducible repeat (first | apply Kd.R_alloc | apply Kd.R_drewN | apply Kd.R_drew)); exact Kd.R_mono HO131.out (fun _ hk => trivial)⟩, ⟨qk BK116.out⟩, ⟨qk BK132.out⟩, ⟨qb HB.out⟩⟩
   rw [if_neg c40] at H
   have c40b0 : decide (t114 < 0) = false := decide_eq_false c40
   clear c40
   (first | rw [c40b0] | (simp only [i64_w, i32_w]; rw [c40b0]) | skip)
   replace H := Option.bind_eq_some_iff.mp H
   obtain ⟨t115, A137, H⟩ := H
   replace H : (laws_FnExactWayParts.j0 k t108 t110 (!t115) a0_0 l0_1) = some r := H
   have A41 := Aside0.mk A137
   clear A137
   have H' := Aside0.mk H
   clear H
   go_wp2_with (first | (go_at_call 17; (with_reducible refine (laws_eqIntS.calls k _ _ t110 _ _ t108 t115 _ ?side1 ?side2 ?side3 ?side4 A41.out).mono ?_); (case side1 => exact qc (Kd.R_reads' HO134.out).2.2); (case side2 => exact (Kd.R_reads' HO134.out).2.1); (case side3 => exact qc (Kd.R_reads' HO129.out).2.2); (case side4 => exact (Kd.R_reads' HO129.out).2.1); rintro e w' ⟨rfl, ⟨nd, rfl⟩⟩))
   go_meet
   case rel => exact ⟨_, (!t115), qs, H', ⟨by first | omega | exact Nat.le_refl _⟩, ⟨qr HO129.out⟩, ⟨qr HO134.out⟩, ⟨by (with_reducible repeat (first | apply Kd.R_alloc | apply Kd.R_drewN | apply Kd.R_drew)); exact Kd.R_mono HO131.out (fun _ hk => trivial)⟩, ⟨qk BK116.out⟩, ⟨qk BK132.out⟩, ⟨qb HB.out⟩⟩
 clear HC17
 try clear c1
 try clear c2
 try clear p2
 try clear c3
 try clear c3b0
 try clear c4
 try clear c12
 try clear c13
 try clear c14
 try clear c15
 try clear c16
 try clear c17
 try clear c18
 try clear c19
 try clear c28
 try clear c40
 try clear c40b0
 try clear hcz19_0
 try clear hcz19_1
 try clear hcz21_0
 try clear hcz21_1
 try clear hcz25_0
 try clear hcz25_1
 try clear hcz29_0
 try clear hcz29_1
 try clear hcz38_0
 try clear hcz38_1
 try clear hcz5_0
 try clear hcz5_1
 try clear hfz19_0
 try clear hfz19_1
 try clear hfz21_0
 try clear hfz21_1
 try clear hfz25_0
 try clear hfz25_1
 try clear hfz29_0
 try clear hfz29_1
 try clear hfz38_0
 try clear hfz38_1
 try clear hfz5_0
 try clear hfz5_1
 obtain ⟨kq, x42_16, rfl, HA, HJ16, HO_4, HO_6, HO_110001, BK116, BK132, HB⟩ := hcut
 have hl110001_16 := (Kd.R_reads' HO_110001.out).1
 rw [hl110001_16] at HO_110001
 (try simp only [hl110001_16])
 (try simp only [hl110001_16] at BK116)
 (try simp only [hl110001_16] at BK132)
 (try simp only [hl110001_16] at HO_4)
 (try simp only [hl110001_16] at HO_6)
 rcases kq with _ | kj16
 · exact absurd HA.out (by simp [laws_FnExactWayParts.j0])
 have H := HA.out
 clear HA
 simp only [laws_FnExactWayParts.j0] at H
 by_cases c42 : x42_16 = true
 · subst c42
   have H1 : (some false) = some r := by rw [if_pos rfl] at H; exact H
   clear H
   have H := H1
   clear H1
   obtain rfl := Option.some.inj H
   go_wp2
   go_ret
   exact ⟨qe, qb HB.out⟩
 replace c42 := Bool.eq_false_iff.mpr c42
 subst c42
 have H1 : ((laws_markIntS.f kj16 t110 1).bind fun bt101 => ((laws_heldIntS.f kj16 bt101.2 1).bind fun t102 => (if t102 < 0 then (some false) else (if t102 = bt101.1 then ((laws_toNet.f kj16 a0_0 l0_1).bind fun bt103 => ((impl_WayParts.f kj16 bt103.1 bt103.2).bind fun t104 => ((laws_eqIntS.f kj16 t104 t108).bind fun t105 => (if t105 = true then ((laws_heldIntS.f kj16 bt101.2 1).bind fun t106 => (if t106 < 0 then (some false) else (if t106 = bt101.1 then (some true) else (some false)))) else (some false))))) else (some false))))) = some r := by rw [if_neg (show ¬ (false = true) by decide)] at H; exact H
 clear H
 have H := H1
 clear H1
 replace H := Option.bind_eq_some_iff.mp H
 obtain ⟨⟨t101, t138⟩, A139, H⟩ := H
 replace H : ((laws_heldIntS.f kj16 t138 1).bind fun t102 => (if t102 < 0 then (some false) else (if t102 = t101 then ((laws_toNet.f kj16 a0_0 l0_1).bind fun bt103 => ((impl_WayParts.f kj16 bt103.1 bt103.2).bind fun t104 => ((laws_eqIntS.f kj16 t104 t108).bind fun t105 => (if t105 = true then ((laws_heldIntS.f kj16 t138 1).bind fun t106 => (if t106 < 0 then (some false) else (if t106 = t101 then (some true) else (some false)))) else (some false))))) else (some false)))) = some r := H
 have A43 := Aside0.mk A139
 clear A139
 replace H := Option.bind_eq_some_iff.mp H
 obtain ⟨t102, A140, H⟩ := H
 replace H : (if t102 < 0 then (some false) else (if t102 = t101 then ((laws_toNet.f kj16 a0_0 l0_1).bind fun bt103 => ((impl_WayParts.f kj16 bt103.1 bt103.2).bind fun t104 => ((laws_eqIntS.f kj16 t104 t108).bind fun t105 => (if t105 = true then ((laws_heldIntS.f kj16 t138 1).bind fun t106 => (if t106 < 0 then (some false) else (if t106 = t101 then (some true) else (some false)))) else (some false))))) else (some false))) = some r := H
 have A44 := Aside0.mk A140
 clear A140
 by_cases c45 : t102 < 0
 · rw [if_pos c45] at H
   have c45b0 : decide (t102 < 0) = true := decide_eq_true c45
   clear c45
   obtain rfl := Option.some.inj H
   go_wp2_with (first | ((with_reducible refine gate_callee (f := 20) rfl ?_); refine goesL_ (some 45) rfl rfl Try.func20 (by kernel_rfl) rfl #[.slice Ao32 t110.length co32, .int .i64 1] rfl qm ?_; (with_reducible refine (laws_markIntS.calls kj16 (fun k_ => some k_ = (.slice Ao32 t110.length co32 : Value).ownBlock) (.slice Ao32 t110.length co32) t110 1 t101 t138 w _ ?side1 ?side2 A43.out).mono ?_); (case side1 => exact qb HB.out); (case side2 => exact Kd.R_tight rfl HO_6.out); rintro e w46 ⟨rfl, hy0, hb, hkp⟩; refine ⟨_, rfl, ?_⟩; have n0_ := q0 (Kd.R_mono (ok' := fun k_ => some k_ ≠ (.slice Ao32 t110.length co32 : Value).ownBlock) (Kd.R_keptB (HO_4.out) hkp (fun k_ hk_ hs_ => by first | exact (hk_) hs_ | grind)) (fun k_ hk_ => by first | exact hk_.1 | grind)); have n1_ := q0 (Kd.R_reok rfl hy0 (fun k_ e_ => HO_6.out.1 k_ e_)); have n2_ := q0 (Kd.R_mono (ok' := fun k_ => True) (Kd.R_keptB ((Kd.R_apart' HO_110001.out (Kd.R_typed HO_6.out) (by decide))) hkp (fun k_ hk_ hs_ => by first | exact (hk_.2) hs_ | grind)) (fun k_ hk_ => trivial)); have n3_ := q0 (blk_kept (qk BK116.out) hkp (fun hs_ => (fun e_ => (Kd.R_ne HO_6.out BK116.out (by decide)) e_) hs_)); have n4_ := q0 (blk_kept (qk BK132.out) hkp (fun hs_ => (fun e_ => (Kd.R_ne HO_6.out BK132.out (by decide)) e_) hs_)); have n5_ := q0 (hb); clear HO_4 HO_6 HO_110001 BK116 BK132 HB; have HO_4 := n0_; have HO_6 := n1_; have HO_110001 := n2_; have BK116 := n3_; have BK132 := n4_; have HB := n5_; clear n0_ n1_ n2_ n3_ n4_ n5_; (try clear hb); (try clear hkp); (try clear hy0)) | ((with_reducible refine gate_callee (f := 21) rfl ?_); refine goesL_ (some 48) rfl rfl Try.func21 (by kernel_rfl) rfl #[.slice Ao32 t138.length co32, .int .i64 1] rfl (by (try simp only [List.map_toArray, List.map_cons, List.map_nil]); first | done | (rw [show t138.length = t110.length from (Kd.R_reads' HO_6.out).1.symm] <;> rfl) | rfl | (simp only [List.length_drop, List.length_take]; rfl)) ?_; (with_reducible refine (laws_heldIntS.calls kj16 _ _ t138 1 t102 _ ?side1 ?side2 A44.out).mono ?_); (case side1 => exact qc (Kd.R_reads' HO_6.out).2.2); (case side2 => rw [show t138.length = t110.length from (Kd.R_reads' HO_6.out).1.symm]; exact (Kd.R_reads' HO_6.out).2.1); rintro e w' ⟨rfl, ⟨nd, rfl⟩⟩; refine ⟨_, rfl, ?_⟩))
   go_ret
   exact ⟨qe, qb HB.out⟩
 rw [if_neg c45] at H
 have c45b0 : decide (t102 < 0) = false := decide_eq_false c45
 clear c45
 by_cases c47 : t102 = t101
 rotate_left
 · rw [if_neg c47] at H
   have c47b0 : (t102 == t101) = false := beq_eq_false_iff_ne.mpr c47
   have c47b1 : (t102 != t101) = true := bne_iff_ne.mpr c47
   obtain rfl := Option.some.inj H
   go_wp2_with (first | ((with_reducible refine gate_callee (f := 20) rfl ?_); refine goesL_ (some 45) rfl rfl Try.func20 (by kernel_rfl) rfl #[.slice Ao32 t110.length co32, .int .i64 1] rfl qm ?_; (with_reducible refine (laws_markIntS.calls kj16 (fun k_ => some k_ = (.slice Ao32 t110.length co32 : Value).ownBlock) (.slice Ao32 t110.length co32) t110 1 t101 t138 w _ ?side1 ?side2 A43.out).mono ?_); (case side1 => exact qb HB.out); (case side2 => exact Kd.R_tight rfl HO_6.out); rintro e w83 ⟨rfl, hy0, hb, hkp⟩; refine ⟨_, rfl, ?_⟩; have n0_ := q0 (Kd.R_mono (ok' := fun k_ => some k_ ≠ (.slice Ao32 t110.length co32 : Value).ownBlock) (Kd.R_keptB (HO_4.out) hkp (fun k_ hk_ hs_ => by first | exact (hk_) hs_ | grind)) (fun k_ hk_ => by first | exact hk_.1 | grind)); have n1_ := q0 (Kd.R_reok rfl hy0 (fun k_ e_ => HO_6.out.1 k_ e_)); have n2_ := q0 (Kd.R_mono (ok' := fun k_ => True) (Kd.R_keptB ((Kd.R_apart' HO_110001.out (Kd.R_typed HO_6.out) (by decide))) hkp (fun k_ hk_ hs_ => by first | exact (hk_.2) hs_ | grind)) (fun k_ hk_ => trivial)); have n3_ := q0 (blk_kept (qk BK116.out) hkp (fun hs_ => (fun e_ => (Kd.R_ne HO_6.out BK116.out (by decide)) e_) hs_)); have n4_ := q0 (blk_kept (qk BK132.out) hkp (fun hs_ => (fun e_ => (Kd.R_ne HO_6.out BK132.out (by decide)) e_) hs_)); have n5_ := q0 (hb); clear HO_4 HO_6 HO_110001 BK116 BK132 HB; have HO_4 := n0_; have HO_6 := n1_; have HO_110001 := n2_; have BK116 := n3_; have BK132 := n4_; have HB := n5_; clear n0_ n1_ n2_ n3_ n4_ n5_; (try clear hb); (try clear hkp); (try clear hy0)) | ((with_reducible refine gate_callee (f := 21) rfl ?_); refine goesL_ (some 48) rfl rfl Try.func21 (by kernel_rfl) rfl #[.slice Ao32 t138.length co32, .int .i64 1] rfl (by (try simp only [List.map_toArray, List.map_cons, List.map_nil]); first | done | (rw [show t138.length = t110.length from (Kd.R_reads' HO_6.out).1.symm] <;> rfl) | rfl | (simp only [List.length_drop, List.length_take]; rfl)) ?_; (with_reducible refine (laws_heldIntS.calls kj16 _ _ t138 1 t102 _ ?side1 ?side2 A44.out).mono ?_); (case side1 => exact qc (Kd.R_reads' HO_6.out).2.2); (case side2 => rw [show t138.length = t110.length from (Kd.R_reads' HO_6.out).1.symm]; exact (Kd.R_reads' HO_6.out).2.1); rintro e w' ⟨rfl, ⟨nd, rfl⟩⟩; refine ⟨_, rfl, ?_⟩))
   go_ret
   exact ⟨qe, qb HB.out⟩
 rw [if_pos c47] at H
 have c47b0 : (t102 == t101) = true := beq_iff_eq.mpr c47
 have c47b1 : (t102 != t101) = false := bne_eq_false_iff_eq.mpr c47
 clear c47
 replace H := Option.bind_eq_some_iff.mp H
 obtain ⟨⟨t103, t141⟩, A142, H⟩ := H
 replace H : ((impl_WayParts.f kj16 t103 t141).bind fun t104 => ((laws_eqIntS.f kj16 t104 t108).bind fun t105 => (if t105 = true then ((laws_heldIntS.f kj16 t138 1).bind fun t106 => (if t106 < 0 then (some false) else (if t106 = t101 then (some true) else (some false)))) else (some false)))) = some r := H
 have A48 := Aside0.mk A142
 clear A142
 replace H := Option.bind_eq_some_iff.mp H
 obtain ⟨t104, A143, H⟩ := H
 replace H : ((laws_eqIntS.f kj16 t104 t108).bind fun t105 => (if t105 = true then ((laws_heldIntS.f kj16 t138 1).bind fun t106 => (if t106 < 0 then (some false) else (if t106 = t101 then (some true) else (some false)))) else (some false))) = some r := H
 have A49 := Aside0.mk A143
 clear A143
 replace H := Option.bind_eq_some_iff.mp H
 obtain ⟨t105, A144, H⟩ := H
 replace H : (if t105 = true then ((laws_heldIntS.f kj16 t138 1).bind fun t106 => (if t106 < 0 then (some false) else (if t106 = t101 then (some true) else (some false)))) else (some false)) = some r := H
 have A50 := Aside0.mk A144
 clear A144
 by_cases c51 : t105 = true
 rotate_left
 · replace c51 := Bool.eq_false_iff.mpr c51
   subst c51
   have H1 : (some false) = some r := by rw [if_neg (show ¬ (false = true) by decide)] at H; exact H
   clear H
   have H := H1
   clear H1
   obtain rfl := Option.some.inj H
   go_wp2_with (first | ((with_reducible refine gate_callee (f := 20) rfl ?_); refine goesL_ (some 45) rfl rfl Try.func20 (by kernel_rfl) rfl #[.slice Ao32 t110.length co32, .int .i64 1] rfl qm ?_; (with_reducible refine (laws_markIntS.calls kj16 (fun k_ => some k_ = (.slice Ao32 t110.length co32 : Value).ownBlock) (.slice Ao32 t110.length co32) t110 1 t101 t138 w _ ?side1 ?side2 A43.out).mono ?_); (case side1 => exact qb HB.out); (case side2 => exact Kd.R_tight rfl HO_6.out); rintro e w76 ⟨rfl, hy0, hb, hkp⟩; refine ⟨_, rfl, ?_⟩; have n0_ := q0 (Kd.R_mono (ok' := fun k_ => some k_ ≠ (.slice Ao32 t110.length co32 : Value).ownBlock) (Kd.R_keptB (HO_4.out) hkp (fun k_ hk_ hs_ => by first | exact (hk_) hs_ | grind)) (fun k_ hk_ => by first | exact hk_.1 | grind)); have n1_ := q0 (Kd.R_reok rfl hy0 (fun k_ e_ => HO_6.out.1 k_ e_)); have n2_ := q0 (Kd.R_mono (ok' := fun k_ => True) (Kd.R_keptB ((Kd.R_apart' HO_110001.out (Kd.R_typed HO_6.out) (by decide))) hkp (fun k_ hk_ hs_ => by first | exact (hk_.2) hs_ | grind)) (fun k_ hk_ => trivial)); have n3_ := q0 (blk_kept (qk BK116.out) hkp (fun hs_ => (fun e_ => (Kd.R_ne HO_6.out BK116.out (by decide)) e_) hs_)); have n4_ := q0 (blk_kept (qk BK132.out) hkp (fun hs_ => (fun e_ => (Kd.R_ne HO_6.out BK132.out (by decide)) e_) hs_)); have n5_ := q0 (hb); clear HO_4 HO_6 HO_110001 BK116 BK132 HB; have HO_4 := n0_; have HO_6 := n1_; have HO_110001 := n2_; have BK116 := n3_; have BK132 := n4_; have HB := n5_; clear n0_ n1_ n2_ n3_ n4_ n5_; (try clear hb); (try clear hkp); (try clear hy0)) | ((with_reducible refine gate_callee (f := 21) rfl ?_); refine goesL_ (some 48) rfl rfl Try.func21 (by kernel_rfl) rfl #[.slice Ao32 t138.length co32, .int .i64 1] rfl (by (try simp only [List.map_toArray, List.map_cons, List.map_nil]); first | done | (rw [show t138.length = t110.length from (Kd.R_reads' HO_6.out).1.symm] <;> rfl) | rfl | (simp only [List.length_drop, List.length_take]; rfl)) ?_; (with_reducible refine (laws_heldIntS.calls kj16 _ _ t138 1 t102 _ ?side1 ?side2 A44.out).mono ?_); (case side1 => exact qc (Kd.R_reads' HO_6.out).2.2); (case side2 => rw [show t138.length = t110.length from (Kd.R_reads' HO_6.out).1.symm]; exact (Kd.R_reads' HO_6.out).2.1); rintro e w' ⟨rfl, ⟨nd, rfl⟩⟩; refine ⟨_, rfl, ?_⟩; have hnb77 := NB116_132.out; have hnc77 := NB132_116.out; have hcz78_0 : w76.cell? ⟨gb116, 0, none⟩ = some (.int .i64 a0_0) := (blk_cell BK116.out 0).trans rfl; have hcz78_1 : w76.cell? ⟨gb116, 1, none⟩ = some (.slice A0_1 l0_1.length c0_1) := (blk_cell BK116.out 1).trans rfl; have hfz78_0 := blk_frozen BK116.out 0; have hfz78_1 := blk_frozen BK116.out 1) | ((with_reducible refine gate_callee (f := 15) rfl ?_); refine goesL_ (some 55) rfl rfl Try.func15 (by kernel_rfl) rfl #[.agg #[.int .i64 a0_0, .slice A0_1 l0_1.length c0_1]] rfl qm ?_; (with_reducible refine (laws_toNet.calls kj16 a0_0 _ _ l0_1 t103 t141 _ ?side1 ?side2 A48.out).mono ?_); (case side1 => exact qc (Kd.C_below HR0_1.out (qb HB.out))); (case side2 => exact HC0_1.out); rintro e w79 ⟨v146, rfl, ho0, hb⟩; refine ⟨_, rfl, ?_⟩; have n0_ := q0 (Kd.R_below (qr HO_4.out) hb); have n1_ := q0 (Kd.R_below (qr HO_6.out) hb); have n2_ := q0 (Kd.R_elder' (qr HO_110001.out) (Kd.R_base ho0) hb); have n3_ := q0 (Kd.R_lower (Kd.R_new' ho0 (Kd.R_lt (qr HO_110001.out))) (below_size (qb HB.out))); have n4_ := q0 (kb BK116.out hb); have n5_ := q0 (kb BK132.out hb); have n6_ := q0 (below_step (qb HB.out) hb); clear HO_4 HO_6 HO_110001 BK116 BK132 HB; have HO_4 := n0_; have HO_6 := n1_; have HO_110001 := n2_; have HO147 := n3_; have BK116 := n4_; have BK132 := n5_; have HB := n6_; clear n0_ n1_ n2_ n3_ n4_ n5_ n6_; (try clear hb); (try clear hb2); (try clear hk); (try clear hi); (try clear ho0); obtain ⟨Ao80, co80, eo80⟩ := Kd.R_slice HO147.out; subst eo80) | ((with_reducible refine gate_callee (f := 16) rfl ?_); refine goesL_ (some 56) rfl rfl Try.func16 (by kernel_rfl) rfl #[.agg #[.int .i64 t103, .slice Ao80 t141.length co80]] rfl qm ?_; (with_reducible refine (impl_WayParts.calls kj16 t103 _ _ t141 t104 _ ?side1 ?side2 A49.out).mono ?_); (case side1 => exact qc (Kd.R_reads' HO147.out).2.2); (case side2 => exact (Kd.R_reads' HO147.out).2.1); rintro e w81 ⟨v148, rfl, ho0, hb⟩; refine ⟨_, rfl, ?_⟩; have n0_ := q0 (Kd.R_elder' (qr HO_4.out) (Kd.R_base ho0) hb); have n1_ := q0 (Kd.R_elder' (qr HO_6.out) (Kd.R_base ho0) hb); have n2_ := q0 (Kd.R_below (qr HO_110001.out) hb); have n3_ := q0 (Kd.R_below (qr HO147.out) hb); have n4_ := q0 (Kd.R_lower (Kd.R_new' (Kd.R_new' ho0 (Kd.R_lt (qr HO_4.out))) (Kd.R_lt (qr HO_6.out))) (below_size (qb HB.out))); have n5_ := q0 (kb BK116.out hb); have n6_ := q0 (kb BK132.out hb); have n7_ := q0 (below_step (qb HB.out) hb); clear HO_4 HO_6 HO_110001 HO147 BK116 BK132 HB; have HO_4 := n0_; have HO_6 := n1_; have HO_110001 := n2_; have HO147 := n3_; have HO149 := n4_; have BK116 := n5_; have BK132 := n6_; have HB := n7_; clear n0_ n1_ n2_ n3_ n4_ n5_ n6_ n7_; (try clear hb); (try clear hb2); (try clear hk); (try clear hi); (try clear ho0); obtain ⟨Ao82, co82, eo82⟩ := Kd.R_slice HO149.out; subst eo82) | ((with_reducible refine gate_callee (f := 17) rfl ?_); refine goesL_ (some 59) rfl rfl Try.func17 (by kernel_rfl) rfl #[.slice Ao82 t104.length co82, .slice Ao33 t108.length co33] rfl qm ?_; (with_reducible refine (laws_eqIntS.calls kj16 _ _ t104 _ _ t108 false _ ?side1 ?side2 ?side3 ?side4 A50.out).mono ?_); (case side1 => exact qc (Kd.R_reads' HO149.out).2.2); (case side2 => exact (Kd.R_reads' HO149.out).2.1); (case side3 => exact qc (Kd.R_reads' HO_4.out).2.2); (case side4 => exact (Kd.R_reads' HO_4.out).2.1); rintro e w' ⟨rfl, ⟨nd, rfl⟩⟩; refine ⟨_, rfl, ?_⟩))
   go_ret
   exact ⟨qe, qb HB.out⟩
 subst c51
 have H1 : ((laws_heldIntS.f kj16 t138 1).bind fun t106 => (if t106 < 0 then (some false) else (if t106 = t101 then (some true) else (some false)))) = some r := by rw [if_pos rfl] at H; exact H
 clear H
 have H := H1
 clear H1
 replace H := Option.bind_eq_some_iff.mp H
 obtain ⟨t106, A145, H⟩ := H
 replace H : (if t106 < 0 then (some false) else (if t106 = t101 then (some true) else (some false))) = some r := H
 have A52 := Aside0.mk A145
 clear A145
 by_cases c53 : t106 < 0
 · rw [if_pos c53] at H
   have c53b0 : decide (t106 < 0) = true := decide_eq_true c53
   clear c53
   obtain rfl := Option.some.inj H
   go_wp2_with (first | ((with_reducible refine gate_callee (f := 20) rfl ?_); refine goesL_ (some 45) rfl rfl Try.func20 (by kernel_rfl) rfl #[.slice Ao32 t110.length co32, .int .i64 1] rfl qm ?_; (with_reducible refine (laws_markIntS.calls kj16 (fun k_ => some k_ = (.slice Ao32 t110.length co32 : Value).ownBlock) (.slice Ao32 t110.length co32) t110 1 t101 t138 w _ ?side1 ?side2 A43.out).mono ?_); (case side1 => exact qb HB.out); (case side2 => exact Kd.R_tight rfl HO_6.out); rintro e w54 ⟨rfl, hy0, hb, hkp⟩; refine ⟨_, rfl, ?_⟩; have n0_ := q0 (Kd.R_mono (ok' := fun k_ => some k_ ≠ (.slice Ao32 t110.length co32 : Value).ownBlock) (Kd.R_keptB (HO_4.out) hkp (fun k_ hk_ hs_ => by first | exact (hk_) hs_ | grind)) (fun k_ hk_ => by first | exact hk_.1 | grind)); have n1_ := q0 (Kd.R_reok rfl hy0 (fun k_ e_ => HO_6.out.1 k_ e_)); have n2_ := q0 (Kd.R_mono (ok' := fun k_ => True) (Kd.R_keptB ((Kd.R_apart' HO_110001.out (Kd.R_typed HO_6.out) (by decide))) hkp (fun k_ hk_ hs_ => by first | exact (hk_.2) hs_ | grind)) (fun k_ hk_ => trivial)); have n3_ := q0 (blk_kept (qk BK116.out) hkp (fun hs_ => (fun e_ => (Kd.R_ne HO_6.out BK116.out (by decide)) e_) hs_)); have n4_ := q0 (blk_kept (qk BK132.out) hkp (fun hs_ => (fun e_ => (Kd.R_ne HO_6.out BK132.out (by decide)) e_) hs_)); have n5_ := q0 (hb); clear HO_4 HO_6 HO_110001 BK116 BK132 HB; have HO_4 := n0_; have HO_6 := n1_; have HO_110001 := n2_; have BK116 := n3_; have BK132 := n4_; have HB := n5_; clear n0_ n1_ n2_ n3_ n4_ n5_; (try clear hb); (try clear hkp); (try clear hy0)) | ((with_reducible refine gate_callee (f := 21) rfl ?_); refine goesL_ (some 48) rfl rfl Try.func21 (by kernel_rfl) rfl #[.slice Ao32 t138.length co32, .int .i64 1] rfl (by (try simp only [List.map_toArray, List.map_cons, List.map_nil]); first | done | (rw [show t138.length = t110.length from (Kd.R_reads' HO_6.out).1.symm] <;> rfl) | rfl | (simp only [List.length_drop, List.length_take]; rfl)) ?_; (with_reducible refine (laws_heldIntS.calls kj16 _ _ t138 1 t102 _ ?side1 ?side2 A44.out).mono ?_); (case side1 => exact qc (Kd.R_reads' HO_6.out).2.2); (case side2 => rw [show t138.length = t110.length from (Kd.R_reads' HO_6.out).1.symm]; exact (Kd.R_reads' HO_6.out).2.1); rintro e w' ⟨rfl, ⟨nd, rfl⟩⟩; refine ⟨_, rfl, ?_⟩; have hnb55 := NB116_132.out; have hnc55 := NB132_116.out; have hcz56_0 : w54.cell? ⟨gb116, 0, none⟩ = some (.int .i64 a0_0) := (blk_cell BK116.out 0).trans rfl; have hcz56_1 : w54.cell? ⟨gb116, 1, none⟩ = some (.slice A0_1 l0_1.length c0_1) := (blk_cell BK116.out 1).trans rfl; have hfz56_0 := blk_frozen BK116.out 0; have hfz56_1 := blk_frozen BK116.out 1) | ((with_reducible refine gate_callee (f := 15) rfl ?_); refine goesL_ (some 55) rfl rfl Try.func15 (by kernel_rfl) rfl #[.agg #[.int .i64 a0_0, .slice A0_1 l0_1.length c0_1]] rfl qm ?_; (with_reducible refine (laws_toNet.calls kj16 a0_0 _ _ l0_1 t103 t141 _ ?side1 ?side2 A48.out).mono ?_); (case side1 => exact qc (Kd.C_below HR0_1.out (qb HB.out))); (case side2 => exact HC0_1.out); rintro e w57 ⟨v146, rfl, ho0, hb⟩; refine ⟨_, rfl, ?_⟩; have n0_ := q0 (Kd.R_below (qr HO_4.out) hb); have n1_ := q0 (Kd.R_below (qr HO_6.out) hb); have n2_ := q0 (Kd.R_elder' (qr HO_110001.out) (Kd.R_base ho0) hb); have n3_ := q0 (Kd.R_lower (Kd.R_new' ho0 (Kd.R_lt (qr HO_110001.out))) (below_size (qb HB.out))); have n4_ := q0 (kb BK116.out hb); have n5_ := q0 (kb BK132.out hb); have n6_ := q0 (below_step (qb HB.out) hb); clear HO_4 HO_6 HO_110001 BK116 BK132 HB; have HO_4 := n0_; have HO_6 := n1_; have HO_110001 := n2_; have HO147 := n3_; have BK116 := n4_; have BK132 := n5_; have HB := n6_; clear n0_ n1_ n2_ n3_ n4_ n5_ n6_; (try clear hb); (try clear hb2); (try clear hk); (try clear hi); (try clear ho0); obtain ⟨Ao58, co58, eo58⟩ := Kd.R_slice HO147.out; subst eo58) | ((with_reducible refine gate_callee (f := 16) rfl ?_); refine goesL_ (some 56) rfl rfl Try.func16 (by kernel_rfl) rfl #[.agg #[.int .i64 t103, .slice Ao58 t141.length co58]] rfl qm ?_; (with_reducible refine (impl_WayParts.calls kj16 t103 _ _ t141 t104 _ ?side1 ?side2 A49.out).mono ?_); (case side1 => exact qc (Kd.R_reads' HO147.out).2.2); (case side2 => exact (Kd.R_reads' HO147.out).2.1); rintro e w59 ⟨v148, rfl, ho0, hb⟩; refine ⟨_, rfl, ?_⟩; have n0_ := q0 (Kd.R_elder' (qr HO_4.out) (Kd.R_base ho0) hb); have n1_ := q0 (Kd.R_elder' (qr HO_6.out) (Kd.R_base ho0) hb); have n2_ := q0 (Kd.R_below (qr HO_110001.out) hb); have n3_ := q0 (Kd.R_below (qr HO147.out) hb); have n4_ := q0 (Kd.R_lower (Kd.R_new' (Kd.R_new' ho0 (Kd.R_lt (qr HO_4.out))) (Kd.R_lt (qr HO_6.out))) (below_size (qb HB.out))); have n5_ := q0 (kb BK116.out hb); have n6_ := q0 (kb BK132.out hb); have n7_ := q0 (below_step (qb HB.out) hb); clear HO_4 HO_6 HO_110001 HO147 BK116 BK132 HB; have HO_4 := n0_; have HO_6 := n1_; have HO_110001 := n2_; have HO147 := n3_; have HO149 := n4_; have BK116 := n5_; have BK132 := n6_; have HB := n7_; clear n0_ n1_ n2_ n3_ n4_ n5_ n6_ n7_; (try clear hb); (try clear hb2); (try clear hk); (try clear hi); (try clear ho0); obtain ⟨Ao60, co60, eo60⟩ := Kd.R_slice HO149.out; subst eo60) | ((with_reducible refine gate_callee (f := 17) rfl ?_); refine goesL_ (some 59) rfl rfl Try.func17 (by kernel_rfl) rfl #[.slice Ao60 t104.length co60, .slice Ao33 t108.length co33] rfl qm ?_; (with_reducible refine (laws_eqIntS.calls kj16 _ _ t104 _ _ t108 true _ ?side1 ?side2 ?side3 ?side4 A50.out).mono ?_); (case side1 => exact qc (Kd.R_reads' HO149.out).2.2); (case side2 => exact (Kd.R_reads' HO149.out).2.1); (case side3 => exact qc (Kd.R_reads' HO_4.out).2.2); (case side4 => exact (Kd.R_reads' HO_4.out).2.1); rintro e w' ⟨rfl, ⟨nd, rfl⟩⟩; refine ⟨_, rfl, ?_⟩) | ((with_reducible refine gate_callee (f := 21) rfl ?_); refine goesL_ (some 63) rfl rfl Try.func21 (by kernel_rfl) rfl #[.slice Ao32 t138.length co32, .int .i64 1] rfl (by (try simp only [List.map_toArray, List.map_cons, List.map_nil]); first | done | (rw [show t138.length = t110.length from (Kd.R_reads' HO_6.out).1.symm] <;> rfl) | rfl | (simp only [List.length_drop, List.length_take]; rfl)) ?_; (with_reducible refine (laws_heldIntS.calls kj16 _ _ t138 1 t106 _ ?side1 ?side2 A52.out).mono ?_); (case side1 => exact qc (Kd.R_reads' HO_6.out).2.2); (case side2 => rw [show t138.length = t110.length from (Kd.R_reads' HO_6.out).1.symm]; exact (Kd.R_reads' HO_6.out).2.1); rintro e w' ⟨rfl, ⟨nd, rfl⟩⟩; refine ⟨_, rfl, ?_⟩))
   go_ret
   exact ⟨qe, qb HB.out⟩
 rw [if_neg c53] at H
 have c53b0 : decide (t106 < 0) = false := decide_eq_false c53
 clear c53
 by_cases c61 : t106 = t101
 rotate_left
 · rw [if_neg c61] at H
   have c61b0 : (t106 == t101) = false := beq_eq_false_iff_ne.mpr c61
   have c61b1 : (t106 != t101) = true := bne_iff_ne.mpr c61
   obtain rfl := Option.some.inj H
   go_wp2_with (first | ((with_reducible refine gate_callee (f := 20) rfl ?_); refine goesL_ (some 45) rfl rfl Try.func20 (by kernel_rfl) rfl #[.slice Ao32 t110.length co32, .int .i64 1] rfl qm ?_; (with_reducible refine (laws_markIntS.calls kj16 (fun k_ => some k_ = (.slice Ao32 t110.length co32 : Value).ownBlock) (.slice Ao32 t110.length co32) t110 1 t101 t138 w _ ?side1 ?side2 A43.out).mono ?_); (case side1 => exact qb HB.out); (case side2 => exact Kd.R_tight rfl HO_6.out); rintro e w69 ⟨rfl, hy0, hb, hkp⟩; refine ⟨_, rfl, ?_⟩; have n0_ := q0 (Kd.R_mono (ok' := fun k_ => some k_ ≠ (.slice Ao32 t110.length co32 : Value).ownBlock) (Kd.R_keptB (HO_4.out) hkp (fun k_ hk_ hs_ => by first | exact (hk_) hs_ | grind)) (fun k_ hk_ => by first | exact hk_.1 | grind)); have n1_ := q0 (Kd.R_reok rfl hy0 (fun k_ e_ => HO_6.out.1 k_ e_)); have n2_ := q0 (Kd.R_mono (ok' := fun k_ => True) (Kd.R_keptB ((Kd.R_apart' HO_110001.out (Kd.R_typed HO_6.out) (by decide))) hkp (fun k_ hk_ hs_ => by first | exact (hk_.2) hs_ | grind)) (fun k_ hk_ => trivial)); have n3_ := q0 (blk_kept (qk BK116.out) hkp (fun hs_ => (fun e_ => (Kd.R_ne HO_6.out BK116.out (by decide)) e_) hs_)); have n4_ := q0 (blk_kept (qk BK132.out) hkp (fun hs_ => (fun e_ => (Kd.R_ne HO_6.out BK132.out (by decide)) e_) hs_)); have n5_ := q0 (hb); clear HO_4 HO_6 HO_110001 BK116 BK132 HB; have HO_4 := n0_; have HO_6 := n1_; have HO_110001 := n2_; have BK116 := n3_; have BK132 := n4_; have HB := n5_; clear n0_ n1_ n2_ n3_ n4_ n5_; (try clear hb); (try clear hkp); (try clear hy0)) | ((with_reducible refine gate_callee (f := 21) rfl ?_); refine goesL_ (some 48) rfl rfl Try.func21 (by kernel_rfl) rfl #[.slice Ao32 t138.length co32, .int .i64 1] rfl (by (try simp only [List.map_toArray, List.map_cons, List.map_nil]); first | done | (rw [show t138.length = t110.length from (Kd.R_reads' HO_6.out).1.symm] <;> rfl) | rfl | (simp only [List.length_drop, List.length_take]; rfl)) ?_; (with_reducible refine (laws_heldIntS.calls kj16 _ _ t138 1 t102 _ ?side1 ?side2 A44.out).mono ?_); (case side1 => exact qc (Kd.R_reads' HO_6.out).2.2); (case side2 => rw [show t138.length = t110.length from (Kd.R_reads' HO_6.out).1.symm]; exact (Kd.R_reads' HO_6.out).2.1); rintro e w' ⟨rfl, ⟨nd, rfl⟩⟩; refine ⟨_, rfl, ?_⟩; have hnb70 := NB116_132.out; have hnc70 := NB132_116.out; have hcz71_0 : w69.cell? ⟨gb116, 0, none⟩ = some (.int .i64 a0_0) := (blk_cell BK116.out 0).trans rfl; have hcz71_1 : w69.cell? ⟨gb116, 1, none⟩ = some (.slice A0_1 l0_1.length c0_1) := (blk_cell BK116.out 1).trans rfl; have hfz71_0 := blk_frozen BK116.out 0; have hfz71_1 := blk_frozen BK116.out 1) | ((with_reducible refine gate_callee (f := 15) rfl ?_); refine goesL_ (some 55) rfl rfl Try.func15 (by kernel_rfl) rfl #[.agg #[.int .i64 a0_0, .slice A0_1 l0_1.length c0_1]] rfl qm ?_; (with_reducible refine (laws_toNet.calls kj16 a0_0 _ _ l0_1 t103 t141 _ ?side1 ?side2 A48.out).mono ?_); (case side1 => exact qc (Kd.C_below HR0_1.out (qb HB.out))); (case side2 => exact HC0_1.out); rintro e w72 ⟨v146, rfl, ho0, hb⟩; refine ⟨_, rfl, ?_⟩; have n0_ := q0 (Kd.R_below (qr HO_4.out) hb); have n1_ := q0 (Kd.R_below (qr HO_6.out) hb); have n2_ := q0 (Kd.R_elder' (qr HO_110001.out) (Kd.R_base ho0) hb); have n3_ := q0 (Kd.R_lower (Kd.R_new' ho0 (Kd.R_lt (qr HO_110001.out))) (below_size (qb HB.out))); have n4_ := q0 (kb BK116.out hb); have n5_ := q0 (kb BK132.out hb); have n6_ := q0 (below_step (qb HB.out) hb); clear HO_4 HO_6 HO_110001 BK116 BK132 HB; have HO_4 := n0_; have HO_6 := n1_; have HO_110001 := n2_; have HO147 := n3_; have BK116 := n4_; have BK132 := n5_; have HB := n6_; clear n0_ n1_ n2_ n3_ n4_ n5_ n6_; (try clear hb); (try clear hb2); (try clear hk); (try clear hi); (try clear ho0); obtain ⟨Ao73, co73, eo73⟩ := Kd.R_slice HO147.out; subst eo73) | ((with_reducible refine gate_callee (f := 16) rfl ?_); refine goesL_ (some 56) rfl rfl Try.func16 (by kernel_rfl) rfl #[.agg #[.int .i64 t103, .slice Ao73 t141.length co73]] rfl qm ?_; (with_reducible refine (impl_WayParts.calls kj16 t103 _ _ t141 t104 _ ?side1 ?side2 A49.out).mono ?_); (case side1 => exact qc (Kd.R_reads' HO147.out).2.2); (case side2 => exact (Kd.R_reads' HO147.out).2.1); rintro e w74 ⟨v148, rfl, ho0, hb⟩; refine ⟨_, rfl, ?_⟩; have n0_ := q0 (Kd.R_elder' (qr HO_4.out) (Kd.R_base ho0) hb); have n1_ := q0 (Kd.R_elder' (qr HO_6.out) (Kd.R_base ho0) hb); have n2_ := q0 (Kd.R_below (qr HO_110001.out) hb); have n3_ := q0 (Kd.R_below (qr HO147.out) hb); have n4_ := q0 (Kd.R_lower (Kd.R_new' (Kd.R_new' ho0 (Kd.R_lt (qr HO_4.out))) (Kd.R_lt (qr HO_6.out))) (below_size (qb HB.out))); have n5_ := q0 (kb BK116.out hb); have n6_ := q0 (kb BK132.out hb); have n7_ := q0 (below_step (qb HB.out) hb); clear HO_4 HO_6 HO_110001 HO147 BK116 BK132 HB; have HO_4 := n0_; have HO_6 := n1_; have HO_110001 := n2_; have HO147 := n3_; have HO149 := n4_; have BK116 := n5_; have BK132 := n6_; have HB := n7_; clear n0_ n1_ n2_ n3_ n4_ n5_ n6_ n7_; (try clear hb); (try clear hb2); (try clear hk); (try clear hi); (try clear ho0); obtain ⟨Ao75, co75, eo75⟩ := Kd.R_slice HO149.out; subst eo75) | ((with_reducible refine gate_callee (f := 17) rfl ?_); refine goesL_ (some 59) rfl rfl Try.func17 (by kernel_rfl) rfl #[.slice Ao75 t104.length co75, .slice Ao33 t108.length co33] rfl qm ?_; (with_reducible refine (laws_eqIntS.calls kj16 _ _ t104 _ _ t108 true _ ?side1 ?side2 ?side3 ?side4 A50.out).mono ?_); (case side1 => exact qc (Kd.R_reads' HO149.out).2.2); (case side2 => exact (Kd.R_reads' HO149.out).2.1); (case side3 => exact qc (Kd.R_reads' HO_4.out).2.2); (case side4 => exact (Kd.R_reads' HO_4.out).2.1); rintro e w' ⟨rfl, ⟨nd, rfl⟩⟩; refine ⟨_, rfl, ?_⟩) | ((with_reducible refine gate_callee (f := 21) rfl ?_); refine goesL_ (some 63) rfl rfl Try.func21 (by kernel_rfl) rfl #[.slice Ao32 t138.length co32, .int .i64 1] rfl (by (try simp only [List.map_toArray, List.map_cons, List.map_nil]); first | done | (rw [show t138.length = t110.length from (Kd.R_reads' HO_6.out).1.symm] <;> rfl) | rfl | (simp only [List.length_drop, List.length_take]; rfl)) ?_; (with_reducible refine (laws_heldIntS.calls kj16 _ _ t138 1 t106 _ ?side1 ?side2 A52.out).mono ?_); (case side1 => exact qc (Kd.R_reads' HO_6.out).2.2); (case side2 => rw [show t138.length = t110.length from (Kd.R_reads' HO_6.out).1.symm]; exact (Kd.R_reads' HO_6.out).2.1); rintro e w' ⟨rfl, ⟨nd, rfl⟩⟩; refine ⟨_, rfl, ?_⟩))
   go_ret
   exact ⟨qe, qb HB.out⟩
 rw [if_pos c61] at H
 have c61b0 : (t106 == t101) = true := beq_iff_eq.mpr c61
 have c61b1 : (t106 != t101) = false := bne_eq_false_iff_eq.mpr c61
 clear c61
 obtain rfl := Option.some.inj H
 go_wp2_with (first | ((with_reducible refine gate_callee (f := 20) rfl ?_); refine goesL_ (some 45) rfl rfl Try.func20 (by kernel_rfl) rfl #[.slice Ao32 t110.length co32, .int .i64 1] rfl qm ?_; (with_reducible refine (laws_markIntS.calls kj16 (fun k_ => some k_ = (.slice Ao32 t110.length co32 : Value).ownBlock) (.slice Ao32 t110.length co32) t110 1 t101 t138 w _ ?side1 ?side2 A43.out).mono ?_); (case side1 => exact qb HB.out); (case side2 => exact Kd.R_tight rfl HO_6.out); rintro e w62 ⟨rfl, hy0, hb, hkp⟩; refine ⟨_, rfl, ?_⟩; have n0_ := q0 (Kd.R_mono (ok' := fun k_ => some k_ ≠ (.slice Ao32 t110.length co32 : Value).ownBlock) (Kd.R_keptB (HO_4.out) hkp (fun k_ hk_ hs_ => by first | exact (hk_) hs_ | grind)) (fun k_ hk_ => by first | exact hk_.1 | grind)); have n1_ := q0 (Kd.R_reok rfl hy0 (fun k_ e_ => HO_6.out.1 k_ e_)); have n2_ := q0 (Kd.R_mono (ok' := fun k_ => True) (Kd.R_keptB ((Kd.R_apart' HO_110001.out (Kd.R_typed HO_6.out) (by decide))) hkp (fun k_ hk_ hs_ => by first | exact (hk_.2) hs_ | grind)) (fun k_ hk_ => trivial)); have n3_ := q0 (blk_kept (qk BK116.out) hkp (fun hs_ => (fun e_ => (Kd.R_ne HO_6.out BK116.out (by decide)) e_) hs_)); have n4_ := q0 (blk_kept (qk BK132.out) hkp (fun hs_ => (fun e_ => (Kd.R_ne HO_6.out BK132.out (by decide)) e_) hs_)); have n5_ := q0 (hb); clear HO_4 HO_6 HO_110001 BK116 BK132 HB; have HO_4 := n0_; have HO_6 := n1_; have HO_110001 := n2_; have BK116 := n3_; have BK132 := n4_; have HB := n5_; clear n0_ n1_ n2_ n3_ n4_ n5_; (try clear hb); (try clear hkp); (try clear hy0)) | ((with_reducible refine gate_callee (f := 21) rfl ?_); refine goesL_ (some 48) rfl rfl Try.func21 (by kernel_rfl) rfl #[.slice Ao32 t138.length co32, .int .i64 1] rfl (by (try simp only [List.map_toArray, List.map_cons, List.map_nil]); first | done | (rw [show t138.length = t110.length from (Kd.R_reads' HO_6.out).1.symm] <;> rfl) | rfl | (simp only [List.length_drop, List.length_take]; rfl)) ?_; (with_reducible refine (laws_heldIntS.calls kj16 _ _ t138 1 t102 _ ?side1 ?side2 A44.out).mono ?_); (case side1 => exact qc (Kd.R_reads' HO_6.out).2.2); (case side2 => rw [show t138.length = t110.length from (Kd.R_reads' HO_6.out).1.symm]; exact (Kd.R_reads' HO_6.out).2.1); rintro e w' ⟨rfl, ⟨nd, rfl⟩⟩; refine ⟨_, rfl, ?_⟩; have hnb63 := NB116_132.out; have hnc63 := NB132_116.out; have hcz64_0 : w62.cell? ⟨gb116, 0, none⟩ = some (.int .i64 a0_0) := (blk_cell BK116.out 0).trans rfl; have hcz64_1 : w62.cell? ⟨gb116, 1, none⟩ = some (.slice A0_1 l0_1.length c0_1) := (blk_cell BK116.out 1).trans rfl; have hfz64_0 := blk_frozen BK116.out 0; have hfz64_1 := blk_frozen BK116.out 1) | ((with_reducible refine gate_callee (f := 15) rfl ?_); refine goesL_ (some 55) rfl rfl Try.func15 (by kernel_rfl) rfl #[.agg #[.int .i64 a0_0, .slice A0_1 l0_1.length c0_1]] rfl qm ?_; (with_reducible refine (laws_toNet.calls kj16 a0_0 _ _ l0_1 t103 t141 _ ?side1 ?side2 A48.out).mono ?_); (case side1 => exact qc (Kd.C_below HR0_1.out (qb HB.out))); (case side2 => exact HC0_1.out); rintro e w65 ⟨v146, rfl, ho0, hb⟩; refine ⟨_, rfl, ?_⟩; have n0_ := q0 (Kd.R_below (qr HO_4.out) hb); have n1_ := q0 (Kd.R_below (qr HO_6.out) hb); have n2_ := q0 (Kd.R_elder' (qr HO_110001.out) (Kd.R_base ho0) hb); have n3_ := q0 (Kd.R_lower (Kd.R_new' ho0 (Kd.R_lt (qr HO_110001.out))) (below_size (qb HB.out))); have n4_ := q0 (kb BK116.out hb); have n5_ := q0 (kb BK132.out hb); have n6_ := q0 (below_step (qb HB.out) hb); clear HO_4 HO_6 HO_110001 BK116 BK132 HB; have HO_4 := n0_; have HO_6 := n1_; have HO_110001 := n2_; have HO147 := n3_; have BK116 := n4_; have BK132 := n5_; have HB := n6_; clear n0_ n1_ n2_ n3_ n4_ n5_ n6_; (try clear hb); (try clear hb2); (try clear hk); (try clear hi); (try clear ho0); obtain ⟨Ao66, co66, eo66⟩ := Kd.R_slice HO147.out; subst eo66) | ((with_reducible refine gate_callee (f := 16) rfl ?_); refine goesL_ (some 56) rfl rfl Try.func16 (by kernel_rfl) rfl #[.agg #[.int .i64 t103, .slice Ao66 t141.length co66]] rfl qm ?_; (with_reducible refine (impl_WayParts.calls kj16 t103 _ _ t141 t104 _ ?side1 ?side2 A49.out).mono ?_); (case side1 => exact qc (Kd.R_reads' HO147.out).2.2); (case side2 => exact (Kd.R_reads' HO147.out).2.1); rintro e w67 ⟨v148, rfl, ho0, hb⟩; refine ⟨_, rfl, ?_⟩; have n0_ := q0 (Kd.R_elder' (qr HO_4.out) (Kd.R_base ho0) hb); have n1_ := q0 (Kd.R_elder' (qr HO_6.out) (Kd.R_base ho0) hb); have n2_ := q0 (Kd.R_below (qr HO_110001.out) hb); have n3_ := q0 (Kd.R_below (qr HO147.out) hb); have n4_ := q0 (Kd.R_lower (Kd.R_new' (Kd.R_new' ho0 (Kd.R_lt (qr HO_4.out))) (Kd.R_lt (qr HO_6.out))) (below_size (qb HB.out))); have n5_ := q0 (kb BK116.out hb); have n6_ := q0 (kb BK132.out hb); have n7_ := q0 (below_step (qb HB.out) hb); clear HO_4 HO_6 HO_110001 HO147 BK116 BK132 HB; have HO_4 := n0_; have HO_6 := n1_; have HO_110001 := n2_; have HO147 := n3_; have HO149 := n4_; have BK116 := n5_; have BK132 := n6_; have HB := n7_; clear n0_ n1_ n2_ n3_ n4_ n5_ n6_ n7_; (try clear hb); (try clear hb2); (try clear hk); (try clear hi); (try clear ho0); obtain ⟨Ao68, co68, eo68⟩ := Kd.R_slice HO149.out; subst eo68) | ((with_reducible refine gate_callee (f := 17) rfl ?_); refine goesL_ (some 59) rfl rfl Try.func17 (by kernel_rfl) rfl #[.slice Ao68 t104.length co68, .slice Ao33 t108.length co33] rfl qm ?_; (with_reducible refine (laws_eqIntS.calls kj16 _ _ t104 _ _ t108 true _ ?side1 ?side2 ?side3 ?side4 A50.out).mono ?_); (case side1 => exact qc (Kd.R_reads' HO149.out).2.2); (case side2 => exact (Kd.R_reads' HO149.out).2.1); (case side3 => exact qc (Kd.R_reads' HO_4.out).2.2); (case side4 => exact (Kd.R_reads' HO_4.out).2.1); rintro e w' ⟨rfl, ⟨nd, rfl⟩⟩; refine ⟨_, rfl, ?_⟩) | ((with_reducible refine gate_callee (f := 21) rfl ?_); refine goesL_ (some 63) rfl rfl Try.func21 (by kernel_rfl) rfl #[.slice Ao32 t138.length co32, .int .i64 1] rfl (by (try simp only [List.map_toArray, List.map_cons, List.map_nil]); first | done | (rw [show t138.length = t110.length from (Kd.R_reads' HO_6.out).1.symm] <;> rfl) | rfl | (simp only [List.length_drop, List.length_take]; rfl)) ?_; (with_reducible refine (laws_heldIntS.calls kj16 _ _ t138 1 t106 _ ?side1 ?side2 A52.out).mono ?_); (case side1 => exact qc (Kd.R_reads' HO_6.out).2.2); (case side2 => rw [show t138.length = t110.length from (Kd.R_reads' HO_6.out).1.symm]; exact (Kd.R_reads' HO_6.out).2.1); rintro e w' ⟨rfl, ⟨nd, rfl⟩⟩; refine ⟨_, rfl, ?_⟩))
 go_ret
 exact ⟨qe, qb HB.out⟩

end Go.Proofs.Ytheoebelhgbejaa.P
