import Derived.Test.YtmfmeenfhdohcaaP0
import Derived.Test.YtmfmeenfhdohcaaP2
import Derived.Test.YtmfmeenfhdohcaaP10
import Derived.Test.YtmfmeenfhdohcaaP11
namespace Go.Proofs.Ytmfmeenfhdohcaa.P
open Go.RowKit Go.Proofs.YtmfmeenfhdohcaaW.PrintWords Go.Proofs.YtmfmeenfhdohcaaW.PrintLast Go.Proofs.YtmfmeenfhdohcaaW.PrintMore
attribute [local go_sem] max2_int min2_int max_two min_two max_three min_three max_four min_four
set_option linter.unusedVariables false
set_option linter.unusedSimpArgs false
attribute [local go_sem high] eqATie
set_option maxHeartbeats 8000000 in
set_option maxRecDepth 100000 in
theorem laws_eqIntSS.calls (k : Nat) (A0 : Option Addr) (c0 : Nat) (l0 : List (List Int)) (A1 : Option Addr) (c1 : Nat) (l1 : List (List Int)) (r : Bool) (w : World) (hr0 : Kd.C (Kd.slice 3 (Kd.int .i64)) w A0 l0.length l0) (hc0 : l0.length ≤ c0) (hr1 : Kd.C (Kd.slice 3 (Kd.int .i64)) w A1 l1.length l1) (hc1 : l1.length ≤ c1) (h : laws_eqIntSS.f k l0 l1 = some r) :
    Calls Try.prog 24 #[.slice A0 l0.length c0, .slice A1 l1.length c1] w fun e w' => e = .returned (.bool r) ∧ Drawn0 w w' := by
 have HR0 := Aside0.mk hr0
 have HC0 := Aside0.mk hc0
 clear hr0 hc0
 have HR1 := Aside0.mk hr1
 have HC1 := Aside0.mk hc1
 clear hr1 hc1
 have H : (if (l0.length : Int) = (l1.length : Int) then (laws_eqIntSS.l0 k l0 l1 0) else (some false)) = some r := h
 clear h
 by_cases c3 : (l0.length : Int) = (l1.length : Int)
 rotate_left
 · rw [if_neg c3] at H
   have c3b0 : ((l0.length : Int) == (l1.length : Int)) = false := beq_eq_false_iff_ne.mpr c3
   have c3b1 : ((l0.length : Int) != (l1.length : Int)) = true := bne_iff_ne.mpr c3
   have c3b2 : (l0.length == l1.length) = false := by first | simpa using c3 | (simp at c3 ⊢; omega)
   obtain rfl := Option.some.inj H
   go_enter Try.func24, Try.ntmps24
   go_wp2
   repeat (go_quiet (fail); try go_wp2)
   go_ret
   exact ⟨by first | rfl | (simp; done) | (simp [*]; done), by repeat (first | exact Drawn0.refl _ | apply Drawn0.step)⟩
 rw [if_pos c3] at H
 have c3b0 : ((l0.length : Int) == (l1.length : Int)) = true := beq_iff_eq.mpr c3
 have c3b1 : ((l0.length : Int) != (l1.length : Int)) = false := bne_eq_false_iff_eq.mpr c3
 have c3b2 : (l0.length == l1.length) = true := by first | simpa using c3 | (simp at c3 ⊢; omega)
 clear c3
 have H' := Aside0.mk H
 clear H
 go_enter Try.func24, Try.ntmps24
 go_wp2
 repeat (go_quiet (fail); try go_wp2)
 go_loopg [5] k (fun kq v5 w' => ∃ (x5_1 : Int), v5 = .int .i64 x5_1 ∧ Aside0 (laws_eqIntSS.l0 kq l0 l1 x5_1 = some r) ∧ Aside0 (kq ≤ k) ∧ Drawn0 w w')
 case atStart => exact ⟨(0), qs, H', ⟨Nat.le_refl _⟩, by repeat (first | exact Drawn0.refl _ | apply Drawn0.step)⟩
 clear H'
 try clear c1
 try clear c2
 try clear p2
 try clear c3
 try clear c3b0
 try clear c3b1
 try clear c3b2
 obtain ⟨x5_1, rfl, HA, HK1, ⟨m1, rfl⟩⟩ := hrel
 rcases gk with _ | k1
 · exact absurd HA.out (by simp [laws_eqIntSS.l0])
 have H := HA.out
 clear HA
 simp only [laws_eqIntSS.l0] at H
 by_cases c4 : x5_1 < (l0.length : Int)
 rotate_left
 · rw [if_neg c4] at H
   have c4b0 : decide (x5_1 < (l0.length : Int)) = false := decide_eq_false c4
   clear c4
   obtain rfl := Option.some.inj H
   go_wp2
   repeat (go_quiet (fail); try go_wp2)
   go_ret
   exact ⟨by first | rfl | (simp; done) | (simp [*]; done), by repeat (first | exact Drawn0.refl _ | apply Drawn0.step)⟩
 rw [if_pos c4] at H
 have c4b0 : decide (x5_1 < (l0.length : Int)) = true := decide_eq_true c4
 clear c4
 by_cases c5 : 0 ≤ x5_1
 rotate_left
 · rw [if_neg c5] at H
   exact absurd H (by simp)
 rw [if_pos c5] at H
 have c5b0 : decide (0 ≤ x5_1) = true := decide_eq_true c5
 clear c5
 by_cases c6 : x5_1 < (l1.length : Int)
 rotate_left
 · rw [if_neg c6] at H
   exact absurd H (by simp)
 rw [if_pos c6] at H
 have c6b0 : decide (x5_1 < (l1.length : Int)) = true := decide_eq_true c6
 clear c6
 replace H := Option.bind_eq_some_iff.mp H
 obtain ⟨t100, A70, H⟩ := H
 have A7 := Aside0.mk A70
 clear A70
 by_cases c8 : t100 = true
 rotate_left
 · replace c8 := Bool.eq_false_iff.mpr c8
   subst c8
   rw [if_neg nf] at H
   obtain rfl := Option.some.inj H
   have p101 : 0 ≤ (x5_1 : Int) := of_decide_eq_true qa
   have q101 : x5_1 < (l0.length : Int) := of_decide_eq_true qa
   obtain ⟨ad101, A101_0, c101_0, e101, hx101_0, hl101_0, hi101_0⟩ := at_LI HR0.out x5_1 p101 q101
   cases e101
   have HR101_0 := Aside0.mk hi101_0
   have HC101_0 := Aside0.mk hl101_0
   clear hi101_0 hl101_0
   replace p101 := eq_true p101
   replace q101 := eq_true q101
   have p102 : 0 ≤ (x5_1 : Int) := of_decide_eq_true qa
   have q102 : x5_1 < (l1.length : Int) := of_decide_eq_true qa
   obtain ⟨ad102, A102_0, c102_0, e102, hx102_0, hl102_0, hi102_0⟩ := at_LI HR1.out x5_1 p102 q102
   cases e102
   have HR102_0 := Aside0.mk hi102_0
   have HC102_0 := Aside0.mk hl102_0
   clear hi102_0 hl102_0
   replace p102 := eq_true p102
   replace q102 := eq_true q102
   go_wp2_with (first | (go_at_call 17; (with_reducible refine (laws_eqIntS.calls k1 _ _ (rd_LI l0 x5_1) _ _ (rd_LI l1 x5_1) false _ ?side1 ?side2 ?side3 ?side4 A7.out).mono ?_); (case side1 => repeat (first | exact HR101_0.out | (with_reducible refine Kd.C_alloc ?_ _) | (with_reducible refine Kd.C_drewN ?_ _) | (with_reducible refine Kd.C_drew ?_))); (case side2 => exact HC101_0.out); (case side3 => repeat (first | exact HR102_0.out | (with_reducible refine Kd.C_alloc ?_ _) | (with_reducible refine Kd.C_drewN ?_ _) | (with_reducible refine Kd.C_drew ?_))); (case side4 => exact HC102_0.out); rintro e w' ⟨rfl, ⟨nd, rfl⟩⟩; (try first | exact ⟨rfl, _, World.drewN_drewN _ _ _⟩ | exact ⟨rfl, _, Eq.trans (World.drewN_drewN _ _ _) (congrArg (World.drewN _) (Nat.add_assoc _ _ _))⟩)))
   repeat (go_quiet (first | (go_at_call 17; (with_reducible refine (laws_eqIntS.calls k1 _ _ (rd_LI l0 x5_1) _ _ (rd_LI l1 x5_1) false _ ?side1 ?side2 ?side3 ?side4 A7.out).mono ?_); (case side1 => repeat (first | exact HR101_0.out | (with_reducible refine Kd.C_alloc ?_ _) | (with_reducible refine Kd.C_drewN ?_ _) | (with_reducible refine Kd.C_drew ?_))); (case side2 => exact HC101_0.out); (case side3 => repeat (first | exact HR102_0.out | (with_reducible refine Kd.C_alloc ?_ _) | (with_reducible refine Kd.C_drewN ?_ _) | (with_reducible refine Kd.C_drew ?_))); (case side4 => exact HC102_0.out); rintro e w' ⟨rfl, ⟨nd, rfl⟩⟩; (try first | exact ⟨rfl, _, World.drewN_drewN _ _ _⟩ | exact ⟨rfl, _, Eq.trans (World.drewN_drewN _ _ _) (congrArg (World.drewN _) (Nat.add_assoc _ _ _))⟩))); try go_wp2_with (first | (go_at_call 17; (with_reducible refine (laws_eqIntS.calls k1 _ _ (rd_LI l0 x5_1) _ _ (rd_LI l1 x5_1) false _ ?side1 ?side2 ?side3 ?side4 A7.out).mono ?_); (case side1 => repeat (first | exact HR101_0.out | (with_reducible refine Kd.C_alloc ?_ _) | (with_reducible refine Kd.C_drewN ?_ _) | (with_reducible refine Kd.C_drew ?_))); (case side2 => exact HC101_0.out); (case side3 => repeat (first | exact HR102_0.out | (with_reducible refine Kd.C_alloc ?_ _) | (with_reducible refine Kd.C_drewN ?_ _) | (with_reducible refine Kd.C_drew ?_))); (case side4 => exact HC102_0.out); rintro e w' ⟨rfl, ⟨nd, rfl⟩⟩; (try first | exact ⟨rfl, _, World.drewN_drewN _ _ _⟩ | exact ⟨rfl, _, Eq.trans (World.drewN_drewN _ _ _) (congrArg (World.drewN _) (Nat.add_assoc _ _ _))⟩))))
   go_ret
   exact ⟨by first | rfl | (simp; done) | (simp [*]; done), by repeat (first | exact Drawn0.refl _ | apply Drawn0.step)⟩
 subst c8
 rw [if_pos rfl] at H
 have H' := Aside0.mk H
 clear H
 have p101 : 0 ≤ (x5_1 : Int) := of_decide_eq_true qa
 have q101 : x5_1 < (l0.length : Int) := of_decide_eq_true qa
 obtain ⟨ad101, A101_0, c101_0, e101, hx101_0, hl101_0, hi101_0⟩ := at_LI HR0.out x5_1 p101 q101
 cases e101
 have HR101_0 := Aside0.mk hi101_0
 have HC101_0 := Aside0.mk hl101_0
 clear hi101_0 hl101_0
 replace p101 := eq_true p101
 replace q101 := eq_true q101
 have p102 : 0 ≤ (x5_1 : Int) := of_decide_eq_true qa
 have q102 : x5_1 < (l1.length : Int) := of_decide_eq_true qa
 obtain ⟨ad102, A102_0, c102_0, e102, hx102_0, hl102_0, hi102_0⟩ := at_LI HR1.out x5_1 p102 q102
 cases e102
 have HR102_0 := Aside0.mk hi102_0
 have HC102_0 := Aside0.mk hl102_0
 clear hi102_0 hl102_0
 replace p102 := eq_true p102
 replace q102 := eq_true q102
 go_wp2_with (first | (go_at_call 17; (with_reducible refine (laws_eqIntS.calls k1 _ _ (rd_LI l0 x5_1) _ _ (rd_LI l1 x5_1) true _ ?side1 ?side2 ?side3 ?side4 A7.out).mono ?_); (case side1 => repeat (first | exact HR101_0.out | (with_reducible refine Kd.C_alloc ?_ _) | (with_reducible refine Kd.C_drewN ?_ _) | (with_reducible refine Kd.C_drew ?_))); (case side2 => exact HC101_0.out); (case side3 => repeat (first | exact HR102_0.out | (with_reducible refine Kd.C_alloc ?_ _) | (with_reducible refine Kd.C_drewN ?_ _) | (with_reducible refine Kd.C_drew ?_))); (case side4 => exact HC102_0.out); rintro e w' ⟨rfl, ⟨nd, rfl⟩⟩; (try first | exact ⟨rfl, _, World.drewN_drewN _ _ _⟩ | exact ⟨rfl, _, Eq.trans (World.drewN_drewN _ _ _) (congrArg (World.drewN _) (Nat.add_assoc _ _ _))⟩)))
 repeat (go_quiet (first | (go_at_call 17; (with_reducible refine (laws_eqIntS.calls k1 _ _ (rd_LI l0 x5_1) _ _ (rd_LI l1 x5_1) true _ ?side1 ?side2 ?side3 ?side4 A7.out).mono ?_); (case side1 => repeat (first | exact HR101_0.out | (with_reducible refine Kd.C_alloc ?_ _) | (with_reducible refine Kd.C_drewN ?_ _) | (with_reducible refine Kd.C_drew ?_))); (case side2 => exact HC101_0.out); (case side3 => repeat (first | exact HR102_0.out | (with_reducible refine Kd.C_alloc ?_ _) | (with_reducible refine Kd.C_drewN ?_ _) | (with_reducible refine Kd.C_drew ?_))); (case side4 => exact HC102_0.out); rintro e w' ⟨rfl, ⟨nd, rfl⟩⟩; (try first | exact ⟨rfl, _, World.drewN_drewN _ _ _⟩ | exact ⟨rfl, _, Eq.trans (World.drewN_drewN _ _ _) (congrArg (World.drewN _) (Nat.add_assoc _ _ _))⟩))); try go_wp2_with (first | (go_at_call 17; (with_reducible refine (laws_eqIntS.calls k1 _ _ (rd_LI l0 x5_1) _ _ (rd_LI l1 x5_1) true _ ?side1 ?side2 ?side3 ?side4 A7.out).mono ?_); (case side1 => repeat (first | exact HR101_0.out | (with_reducible refine Kd.C_alloc ?_ _) | (with_reducible refine Kd.C_drewN ?_ _) | (with_reducible refine Kd.C_drew ?_))); (case side2 => exact HC101_0.out); (case side3 => repeat (first | exact HR102_0.out | (with_reducible refine Kd.C_alloc ?_ _) | (with_reducible refine Kd.C_drewN ?_ _) | (with_reducible refine Kd.C_drew ?_))); (case side4 => exact HC102_0.out); rintro e w' ⟨rfl, ⟨nd, rfl⟩⟩; (try first | exact ⟨rfl, _, World.drewN_drewN _ _ _⟩ | exact ⟨rfl, _, Eq.trans (World.drewN_drewN _ _ _) (congrArg (World.drewN _) (Nat.add_assoc _ _ _))⟩))))
 go_roundg k1
 case measure => have := HK1.out; omega
 case rel => exact ⟨(wrap64 (x5_1 + 1)), qs, H', ⟨by have := HK1.out; omega⟩, by repeat (first | exact Drawn0.refl _ | apply Drawn0.step)⟩

theorem S_under {α : Type} {d : Kd α} {e : Nat} {w : World} {base : Nat} {ok : Nat → Prop} {v : Value} {xs : List α} (h : Kd.S d e w base ok v xs) : Kd.S d e w base (fun k => ok k ∧ k < w.heap.size) v xs := Kd.S_mono (Kd.S_bound h) (fun k hk => ⟨hk.1, hk.2.2.1⟩)
theorem S_above {α : Type} {d : Kd α} {e : Nat} {w : World} {base : Nat} {ok : Nat → Prop} {v : Value} {xs : List α} (h : Kd.S d e w base ok v xs) : Kd.S d e w base (fun k => ok k ∧ base ≤ k) v xs := Kd.S_mono (Kd.S_bound h) (fun k hk => ⟨hk.1, hk.2.1⟩)
/-- What was made before a call lies apart from what the call makes. -/
theorem S_split {α β : Type} {d : Kd α} {d' : Kd β} {e e' : Nat} {W w1 : World} {base : Nat} {ok ok' : Nat → Prop} {u v : Value} {xs : List α} {ys : List β} (h8 : Kd.S d e W base ok u xs) (h10 : Kd.S d' e' w1 W.heap.size ok' v ys) :
    ∃ M, Kd.S d e W base (fun k => ok k ∧ k < M) u xs ∧ Kd.S d' e' w1 W.heap.size (fun k => ok' k ∧ M ≤ k) v ys := ⟨W.heap.size, S_under h8, S_above h10⟩
/-- A row of a row of rows is written: the others stay. -/
theorem S_row {e e' : Nat} {w : World} {base : Nat} {ok : Nat → Prop} {ad : Addr} {n c : Nat} {xs : List (List Int)} (h : Kd.S (Kd.slice e' (Kd.int .i64)) e w base ok (.slice (some ad) n c) xs) (i : Int) (h0 : 0 ≤ i) (h1 : i < (xs.length : Int)) :
    ∃ u, w.cell? (ad.add i.toNat) = some u ∧ Kd.R (Kd.int .i64) e' w base (fun k => some k = u.ownBlock) u (rd_LI xs i) ∧ (∀ k, some k = u.ownBlock → ok k) ∧
      ∀ (w' : World) (y : List Int), Kept w w' (fun k => some k = u.ownBlock) → Kd.R (Kd.int .i64) e' w' base (fun k => some k = u.ownBlock ∨ w.heap.size ≤ k) u y → Kd.S (Kd.slice e' (Kd.int .i64)) e w' base ok (.slice (some ad) n c) (xs.set i.toNat y) := by
  obtain ⟨g, rfl⟩ := Kd.R_head (Kd.S_R h)
  obtain ⟨f, hf⟩ := h
  have hf2 := Kd.R_bound hf
  obtain ⟨hok, inner, ho, hr⟩ := hf2
  have hil : i.toNat < xs.length := by omega
  have hz : xs.zipIdx[i.toNat]? = some (xs[i.toNat], i.toNat) := Kd.zip_at (List.getElem?_eq_getElem hil)
  have hM := hr.2 i.toNat _ hz
  obtain ⟨u, hu, hR⟩ := hM
  have hu0 : inner[i.toNat]? = some u := by
    have e0 : ((inner.drop (i.toNat * 1)).take 1)[0]? = some u := by
      have : (inner.drop (i.toNat * 1)).take 1 = [u] := hu
      rw [this]; rfl
    rw [List.getElem?_take, if_pos (by omega), List.getElem?_drop, Nat.mul_one, Nat.add_zero] at e0
    exact e0
  have hrd : rd_LI xs i = xs[i.toNat] := by
    unfold rd_LI
    rw [List.getD_eq_getElem?_getD, List.getElem?_eq_getElem hil]; rfl
  refine ⟨u, ho.cells (g := g) (by simp [Value.ownBlock]) _ u hu0, by rw [hrd]; exact Kd.R_tight rfl hR, fun k hk => (hR.1 k hk.symm).1.1.1, fun w' y hK hy => ?_⟩
  have hlen : (xs.set i.toNat y).zipIdx.length = xs.zipIdx.length := by simp
  refine ⟨f, fun k hk => (hok k hk).1, inner, ?_, by rw [hlen]; exact hr.1, fun j p hj => ?_⟩
  · rw [hlen]
    exact own_move ho (fun k hk => hK.2 k (own_lt ho k hk) (fun hs => (hR.1 k hs.symm).1.2 hk.symm))
  · by_cases ej : j = i.toNat
    · subst ej
      have hp : p = (y, i.toNat) := by
        have := Kd.zip_at (xs := xs.set i.toNat y) (j := i.toNat) (p := y) (by simp [hil])
        rw [this] at hj
        exact (Option.some.inj hj).symm
      subst hp
      exact ⟨u, hu, Kd.R_mono (Kd.R_tight rfl hy) (fun k hk => ⟨⟨(hR.1 k hk.symm).1.1.1, (hR.1 k hk.symm).1.2⟩, (hR.1 k hk.symm).2⟩)⟩
    · have hj' : xs.zipIdx[j]? = some p := by
        rw [List.getElem?_zipIdx, List.getElem?_set_ne (Ne.symm ej)] at hj
        rw [List.getElem?_zipIdx]; exact hj
      have hp2 : p.2 = j := by
        rw [List.getElem?_zipIdx] at hj'
        obtain ⟨x, _, rfl⟩ := Option.map_eq_some_iff.1 hj'
        simp
      have h2 := hr.2 j p hj'
      refine Kd.M_mono (Kd.slice e' (Kd.int .i64)) ?_ (Kd.M_move (Kd.slice e' (Kd.int .i64)) (fun k hk => hK.2 k hk.1.1.2.2.1 (fun hs => ej (by have := (hR.1 k hs.symm).2; have := hk.2; simp only at *; omega))) h2)
      exact fun k hk => ⟨⟨hk.1.1.1, hk.1.2⟩, hk.2⟩
set_option maxHeartbeats 8000000 in
set_option maxRecDepth 100000 in
theorem laws_markIntSS.calls (k : Nat) (P0_ : Nat → Prop) (u100_ : Value) (l0 : List (List Int)) (a1 : Int) (r1 : Int) (r2 : List (List Int)) (w0 w : World) (hB : Below w0.heap.size w0 w) (ho0 : Kd.S (Kd.slice 3 (Kd.int .i64)) 26 w w0.heap.size P0_ u100_ l0) (h : laws_markIntSS.f k l0 a1 = some (r1, r2)) :
    Calls Try.prog 25 #[u100_, .int .i64 a1] w fun e w' => e = .returned (.int .i64 r1) ∧ Kd.S (Kd.slice 3 (Kd.int .i64)) 26 w' w0.heap.size P0_ u100_ r2 ∧ Below w0.heap.size w0 w' ∧ Kept w w' (fun k_ => P0_ k_) := by
 obtain ⟨A, c, rfl⟩ := Kd.S_slice ho0
 have HO0 := Aside0.mk ho0
 have HB := Aside0.mk hB
 clear ho0 hB
 have H : (laws_markIntSS.l0 k l0 a1 0) = some (r1, r2) := h
 clear h
 have H' := Aside0.mk H
 clear H
 go_enter Try.func25, Try.ntmps25
 go_wp2
 go_loopg [1, 5] k (fun kq v1 v5 w' => ∃ (xs : List (List Int)) (x1_1 : Int) (x5_1 : Int), v1 = .int .i64 x1_1 ∧ v5 = .int .i64 x5_1 ∧ Aside0 (laws_markIntSS.l0 kq xs x1_1 x5_1 = some (r1, r2)) ∧ Aside0 (kq ≤ k) ∧ Aside0 (xs.length = l0.length) ∧ Aside0 (Kd.S (Kd.slice 3 (Kd.int .i64)) 26 w' w0.heap.size P0_ (.slice A l0.length c) xs) ∧ Aside0 (Kept w w' (fun k_ => P0_ k_)) ∧ Aside0 (Below w0.heap.size w0 w'))
 case atStart => exact ⟨l0, (a1), (0), qs, qs, H', ⟨Nat.le_refl _⟩, ⟨rfl⟩, ⟨qv HO0.out⟩, ⟨qp (Kept.refl w (fun k_ => P0_ k_))⟩, ⟨qb HB.out⟩⟩
 clear H' HO0 HB
 obtain ⟨xs, x1_1, x5_1, rfl, rfl, HA, HK1, HL, HO, HK, HB⟩ := hrel
 rcases gk with _ | k1
 · exact absurd HA.out (by simp [laws_markIntSS.l0])
 have H := HA.out
 clear HA
 simp only [laws_markIntSS.l0] at H
 rw [HL.out] at H
 by_cases c3 : x5_1 < (l0.length : Int)
 rotate_left
 · rw [if_neg c3] at H
   have c3b0 : decide (x5_1 < (l0.length : Int)) = false := decide_eq_false c3
   clear c3
   obtain ⟨rfl, rfl⟩ := Prod.mk.inj (Option.some.inj H)
   go_wp2
   go_ret
   exact ⟨by first | rfl | (simp; done) | (simp [*]; done), qv HO.out, qb HB.out, qp HK.out⟩
 rw [if_pos c3] at H
 have c3b0 : decide (x5_1 < (l0.length : Int)) = true := decide_eq_true c3
 by_cases c4 : 0 ≤ x5_1
 rotate_left
 · rw [if_neg c4] at H
   exact absurd H (by simp)
 rw [if_pos c4] at H
 have c4b0 : decide (0 ≤ x5_1) = true := decide_eq_true c4
 replace H := Option.bind_eq_some_iff.mp H
 obtain ⟨⟨t100, t200⟩, A50, H⟩ := H
 have A5 := Aside0.mk A50
 clear A50
 have H' := Aside0.mk H
 clear H
 have p101 : 0 ≤ (x5_1 : Int) := c4
 have q101 : x5_1 < (xs.length : Int) := by have := HL.out; omega
 obtain ⟨ad101, A101_0, c101_0, e101, hx101_0, hl101_0, hi101_0⟩ := at_LI (Kd.S_reads' HO.out).2.2 x5_1 p101 q101
 cases e101
 obtain ⟨u, hu, hR, hP, hset⟩ := S_row HO.out x5_1 p101 q101
 obtain rfl := Option.some.inj (hu.symm.trans hx101_0)
 have HR := Aside0.mk hR
 have HP := Aside0.mk hP
 have HS := Aside0.mk hset
 clear hu hR hP hset hi101_0 hl101_0 c3 c4
 replace p101 := eq_true p101
 have q102 : (x5_1 < (l0.length : Int)) = True := eq_true (of_decide_eq_true c3b0)
 clear q101
 go_wp2_with (first | ((with_reducible refine gate_callee (f := 20) rfl ?_); refine gl 17 Try.func20 #[.slice A101_0 (rd_LI xs x5_1).length c101_0, .int .i64 x1_1] ?_; (with_reducible refine (laws_markIntS.calls k1 (fun k_ => some k_ = (.slice A101_0 (rd_LI xs x5_1).length c101_0 : Value).ownBlock) (.slice A101_0 (rd_LI xs x5_1).length c101_0) (rd_LI xs x5_1) x1_1 t100 t200 w0 _ ?side1 ?side2 A5.out).mono ?_); (case side1 => exact qb HB.out); (case side2 => exact HR.out); rintro e wm ⟨rfl, ho, hb, hkp⟩; refine ⟨_, rfl, ?_⟩; replace HO := q0 (HS.out wm t200 hkp ho); replace HK := q0 (Kept.then_ (S := (fun k_ => P0_ k_)) (qp HK.out) hkp (fun k_ hs_ => .inl (HP.out k_ hs_))); replace HB := q0 hb; clear HS ho hb hkp))
 go_roundg k1
 case measure => have := HK1.out; omega
 case rel => exact ⟨_, (t100), (wrap64 (x5_1 + 1)), qs, qs, H', ⟨by have := HK1.out; omega⟩, ⟨by rw [List.length_set]; exact HL.out⟩, ⟨qv HO.out⟩, ⟨qp HK.out⟩, ⟨qb HB.out⟩⟩

set_option maxHeartbeats 8000000 in
set_option maxRecDepth 100000 in
theorem laws_heldIntSS.calls (k : Nat) (A0 : Option Addr) (c0 : Nat) (l0 : List (List Int)) (a1 : Int) (r : Int) (w : World) (hr0 : Kd.C (Kd.slice 3 (Kd.int .i64)) w A0 l0.length l0) (hc0 : l0.length ≤ c0) (h : laws_heldIntSS.f k l0 a1 = some r) :
    Calls Try.prog 26 #[.slice A0 l0.length c0, .int .i64 a1] w fun e w' => e = .returned (.int .i64 r) ∧ Drawn0 w w' := by
 have HR0 := Aside0.mk hr0
 have HC0 := Aside0.mk hc0
 clear hr0 hc0
 have H : (laws_heldIntSS.l0 k l0 a1 0) = some r := h
 clear h
 have H' := Aside0.mk H
 clear H
 go_enter Try.func26, Try.ntmps26
 go_wp2
 go_loopg [1, 5] k (fun kq v1 v5 w' => ∃ (x1_1 : Int) (x5_1 : Int), v1 = .int .i64 x1_1 ∧ v5 = .int .i64 x5_1 ∧ Aside0 (laws_heldIntSS.l0 kq l0 x1_1 x5_1 = some r) ∧ Aside0 (kq ≤ k) ∧ Drawn0 w w')
 case atStart => exact ⟨(a1), (0), qs, qs, H', ⟨Nat.le_refl _⟩, by repeat (first | exact Drawn0.refl _ | apply Drawn0.step)⟩
 clear H'
 try clear c2
 try clear p2
 obtain ⟨x1_1, x5_1, rfl, rfl, HA, HK1, ⟨m1, rfl⟩⟩ := hrel
 rcases gk with _ | k1
 · exact absurd HA.out (by simp [laws_heldIntSS.l0])
 have H := HA.out
 clear HA
 simp only [laws_heldIntSS.l0] at H
 by_cases c3 : x5_1 < (l0.length : Int)
 rotate_left
 · rw [if_neg c3] at H
   have c3b0 : decide (x5_1 < (l0.length : Int)) = false := decide_eq_false c3
   clear c3
   obtain rfl := Option.some.inj H
   go_wp2
   go_ret
   exact ⟨by first | rfl | (simp; done) | (simp [*]; done), by repeat (first | exact Drawn0.refl _ | apply Drawn0.step)⟩
 rw [if_pos c3] at H
 have c3b0 : decide (x5_1 < (l0.length : Int)) = true := decide_eq_true c3
 clear c3
 by_cases c4 : 0 ≤ x5_1
 rotate_left
 · rw [if_neg c4] at H
   exact absurd H (by simp)
 rw [if_pos c4] at H
 have c4b0 : decide (0 ≤ x5_1) = true := decide_eq_true c4
 clear c4
 replace H := Option.bind_eq_some_iff.mp H
 obtain ⟨t100, A50, H⟩ := H
 have A5 := Aside0.mk A50
 clear A50
 by_cases c6 : t100 < 0
 · rw [if_pos c6] at H
   have c6b0 : decide (t100 < 0) = true := decide_eq_true c6
   clear c6
   obtain rfl := Option.some.inj H
   have p101 : 0 ≤ (x5_1 : Int) := of_decide_eq_true qa
   have q101 : x5_1 < (l0.length : Int) := of_decide_eq_true qa
   obtain ⟨ad101, A101_0, c101_0, e101, hx101_0, hl101_0, hi101_0⟩ := at_LI HR0.out x5_1 p101 q101
   cases e101
   have HR101_0 := Aside0.mk hi101_0
   have HC101_0 := Aside0.mk hl101_0
   clear hi101_0 hl101_0
   replace p101 := eq_true p101
   replace q101 := eq_true q101
   go_wp2_with (first | ((with_reducible refine gate_callee (f := 21) rfl ?_); refine gl 17 Try.func21 #[.slice A101_0 (rd_LI l0 x5_1).length c101_0, .int .i64 x1_1] ?_; (with_reducible refine (laws_heldIntS.calls k1 _ _ (rd_LI l0 x5_1) x1_1 t100 _ ?side1 ?side2 A5.out).mono ?_); (case side1 => repeat (first | exact HR101_0.out | (with_reducible refine Kd.C_alloc ?_ _) | (with_reducible refine Kd.C_drewN ?_ _) | (with_reducible refine Kd.C_drew ?_))); (case side2 => exact HC101_0.out); rintro e w' ⟨rfl, ⟨nd, rfl⟩⟩; refine ⟨_, rfl, ?_⟩))
   go_ret
   exact ⟨by first | rfl | (simp; done) | (simp [*]; done), by repeat (first | exact Drawn0.refl _ | apply Drawn0.step)⟩
 rw [if_neg c6] at H
 have c6b0 : decide (t100 < 0) = false := decide_eq_false c6
 clear c6
 have H' := Aside0.mk H
 clear H
 have p101 : 0 ≤ (x5_1 : Int) := of_decide_eq_true qa
 have q101 : x5_1 < (l0.length : Int) := of_decide_eq_true qa
 obtain ⟨ad101, A101_0, c101_0, e101, hx101_0, hl101_0, hi101_0⟩ := at_LI HR0.out x5_1 p101 q101
 cases e101
 have HR101_0 := Aside0.mk hi101_0
 have HC101_0 := Aside0.mk hl101_0
 clear hi101_0 hl101_0
 replace p101 := eq_true p101
 replace q101 := eq_true q101
 go_wp2_with (first | ((with_reducible refine gate_callee (f := 21) rfl ?_); refine gl 17 Try.func21 #[.slice A101_0 (rd_LI l0 x5_1).length c101_0, .int .i64 x1_1] ?_; (with_reducible refine (laws_heldIntS.calls k1 _ _ (rd_LI l0 x5_1) x1_1 t100 _ ?side1 ?side2 A5.out).mono ?_); (case side1 => repeat (first | exact HR101_0.out | (with_reducible refine Kd.C_alloc ?_ _) | (with_reducible refine Kd.C_drewN ?_ _) | (with_reducible refine Kd.C_drew ?_))); (case side2 => exact HC101_0.out); rintro e w' ⟨rfl, ⟨nd, rfl⟩⟩; refine ⟨_, rfl, ?_⟩))
 go_roundg k1
 case measure => have := HK1.out; omega
 case rel => exact ⟨(t100), (wrap64 (x5_1 + 1)), qs, qs, H', ⟨by have := HK1.out; omega⟩, by repeat (first | exact Drawn0.refl _ | apply Drawn0.step)⟩

set_option maxHeartbeats 8000000 in
set_option maxRecDepth 100000 in
theorem laws_FnExactWayAll.calls (k : Nat) (a0_0 : Int) (A0_1 : Option Addr) (c0_1 : Nat) (l0_1 : List (SLTie)) (a1 : Int) (a2 : Int) (r : Bool) (w : World) (hr0_1 : Kd.C kLTie w A0_1 l0_1.length l0_1) (hc0_1 : l0_1.length ≤ c0_1) (h : laws_FnExactWayAll.f k a0_0 l0_1 a1 a2 = some r) :
    Calls Try.prog 4 #[.agg #[.int .i64 a0_0, .slice A0_1 l0_1.length c0_1], .int .i64 a1, .int .i64 a2] w fun e w' => e = .returned (.bool r) ∧ Below w.heap.size w w' := by
 have hu24 := Try.underlying24
 have hu31 := Try.underlying31
 have HR0_1 := Aside0.mk hr0_1
 have HC0_1 := Aside0.mk hc0_1
 clear hr0_1 hc0_1
 have HB := q0 (Below.refl w.heap.size w)
 have H : ((laws_szNet.f a0_0 l0_1 1048576).bind fun t100 => (if t100 < 0 then (some true) else ((laws_toNet.f k a0_0 l0_1).bind fun bt107 => ((spec_WayAll.f k bt107.1 bt107.2 a1 a2).bind fun t108 => ((laws_toNet.f k a0_0 l0_1).bind fun bt109 => ((impl_WayAll.f k bt109.1 bt109.2 a1 a2).bind fun t110 => ((laws_eqIntSS.f k t110 t108).bind fun t111 => (if t111 = true then ((laws_toNet.f k a0_0 l0_1).bind fun bt112 => ((laws_eqNet.f k bt109.1 bt109.2 bt112.1 bt112.2).bind fun t113 => (if t113 = true then ((laws_markNet.f k bt109.1 bt109.2 1).bind fun bt114 => (if bt114.1 < 0 then (laws_FnExactWayAll.j0 k a1 a2 t108 t110 true a0_0 l0_1) else ((laws_eqIntSS.f k t110 t108).bind fun t115 => (laws_FnExactWayAll.j0 k a1 a2 t108 t110 (!t115) a0_0 l0_1)))) else (some false)))) else (some false))))))))) = some r := h
 clear h
 replace H := Option.bind_eq_some_iff.mp H
 obtain ⟨t100, A40, H⟩ := H
 have A4 := Aside0.mk A40
 clear A40
 by_cases c5 : t100 < 0
 · rw [if_pos c5] at H
   have c5b0 : decide (t100 < 0) = true := decide_eq_true c5
   clear c5
   obtain rfl := Option.some.inj H
   go_enter Try.func4, Try.ntmps4
   go_wp2_with (first | ((with_reducible refine gate_dst (N := 3) rfl ?_); refine be 3 #[.int .i64 a0_0, .slice A0_1 l0_1.length c0_1] 24 ?_; intro gb116 hg w6 hbox hb; have BK116 := q0 (hbox); have GW116 := q0 ((bs HB.out hg : w.heap.size ≤ gb116)); have GE116 := q0 ((bs HB.out hg : w.heap.size ≤ gb116)); replace HB := q0 (below_step (qb HB.out) hb); clear hb hbox hg; have hcz7_0 : w6.cell? ⟨gb116, 0, none⟩ = some (.int .i64 a0_0) := (blk_cell BK116.out 0).trans rfl; have hcz7_1 : w6.cell? ⟨gb116, 1, none⟩ = some (.slice A0_1 l0_1.length c0_1) := (blk_cell BK116.out 1).trans rfl; have hfz7_0 := blk_frozen BK116.out 0; have hfz7_1 := blk_frozen BK116.out 1) | ((with_reducible refine gate_callee (f := 13) rfl ?_); refine gl 17 Try.func13 #[.agg #[.int .i64 a0_0, .slice A0_1 l0_1.length c0_1], .int .i64 1048576] ?_; (with_reducible refine (laws_szNet.calls a0_0 _ _ l0_1 1048576 t100 _ ?side1 ?side2 A4.out).mono ?_); (case side1 => exact qc (Kd.C_below HR0_1.out HB.out)); (case side2 => exact HC0_1.out); rintro e w8 ⟨rfl, hb⟩; refine ⟨_, rfl, ?_⟩; replace BK116 := q0 (kb BK116.out hb); replace HB := q0 (below_step (qb HB.out) hb); (try clear hb); (try clear hb2); (try clear hk); (try clear hi)))
   go_ret
   exact ⟨qe, qb HB.out⟩
 rw [if_neg c5] at H
 have c5b0 : decide (t100 < 0) = false := decide_eq_false c5
 clear c5
 replace H := Option.bind_eq_some_iff.mp H
 obtain ⟨⟨t107, t117⟩, A90, H⟩ := H
 have A9 := Aside0.mk A90
 clear A90
 replace H := Option.bind_eq_some_iff.mp H
 obtain ⟨t108, A118, H⟩ := H
 have A10 := Aside0.mk A118
 clear A118
 replace H := Option.bind_eq_some_iff.mp H
 obtain ⟨⟨t109, t119⟩, A120, H⟩ := H
 have A11 := Aside0.mk A120
 clear A120
 replace H := Option.bind_eq_some_iff.mp H
 obtain ⟨t110, A121, H⟩ := H
 have A12 := Aside0.mk A121
 clear A121
 replace H := Option.bind_eq_some_iff.mp H
 obtain ⟨t111, A122, H⟩ := H
 have A13 := Aside0.mk A122
 clear A122
 by_cases c14 : t111 = true
 rotate_left
 · replace c14 := Bool.eq_false_iff.mpr c14
   subst c14
   rw [if_neg nf] at H
   obtain rfl := Option.some.inj H
   go_enter Try.func4, Try.ntmps4
   go_wp2_with (first | ((with_reducible refine gate_dst (N := 3) rfl ?_); refine be 3 #[.int .i64 a0_0, .slice A0_1 l0_1.length c0_1] 24 ?_; intro gb116 hg w118 hbox hb; have BK116 := q0 (hbox); have GW116 := q0 ((bs HB.out hg : w.heap.size ≤ gb116)); have GE116 := q0 ((bs HB.out hg : w.heap.size ≤ gb116)); replace HB := q0 (below_step (qb HB.out) hb); clear hb hbox hg; have hcz150_0 : w118.cell? ⟨gb116, 0, none⟩ = some (.int .i64 a0_0) := (blk_cell BK116.out 0).trans rfl; have hcz150_1 : w118.cell? ⟨gb116, 1, none⟩ = some (.slice A0_1 l0_1.length c0_1) := (blk_cell BK116.out 1).trans rfl; have hfz150_0 := blk_frozen BK116.out 0; have hfz150_1 := blk_frozen BK116.out 1) | ((with_reducible refine gate_callee (f := 13) rfl ?_); refine gl 17 Try.func13 #[.agg #[.int .i64 a0_0, .slice A0_1 l0_1.length c0_1], .int .i64 1048576] ?_; (with_reducible refine (laws_szNet.calls a0_0 _ _ l0_1 1048576 t100 _ ?side1 ?side2 A4.out).mono ?_); (case side1 => exact qc (Kd.C_below HR0_1.out HB.out)); (case side2 => exact HC0_1.out); rintro e w151 ⟨rfl, hb⟩; refine ⟨_, rfl, ?_⟩; replace BK116 := q0 (kb BK116.out hb); replace HB := q0 (below_step (qb HB.out) hb); (try clear hb); (try clear hb2); (try clear hk); (try clear hi); have hcz152_0 : w151.cell? ⟨gb116, 0, none⟩ = some (.int .i64 a0_0) := (blk_cell BK116.out 0).trans rfl; have hcz152_1 : w151.cell? ⟨gb116, 1, none⟩ = some (.slice A0_1 l0_1.length c0_1) := (blk_cell BK116.out 1).trans rfl; have hfz152_0 := blk_frozen BK116.out 0; have hfz152_1 := blk_frozen BK116.out 1) | ((with_reducible refine gate_callee (f := 15) rfl ?_); refine gl 21 Try.func15 #[.agg #[.int .i64 a0_0, .slice A0_1 l0_1.length c0_1]] ?_; (with_reducible refine (laws_toNet.calls k a0_0 _ _ l0_1 t107 t117 _ ?side1 ?side2 A9.out).mono ?_); (case side1 => exact qc (Kd.C_below HR0_1.out HB.out)); (case side2 => exact HC0_1.out); rintro e w153 ⟨v128, rfl, ho0, hb⟩; refine ⟨_, rfl, ?_⟩; have HO129 := q0 (Kd.R_lower ho0 (below_size (qb HB.out))); replace BK116 := q0 (kb BK116.out hb); replace HB := q0 (below_step (qb HB.out) hb); (try clear hb); (try clear hb2); (try clear hk); (try clear hi); (try clear ho0); obtain ⟨Ao154, co154, eo154⟩ := Kd.R_slice HO129.out; subst eo154) | ((with_reducible refine gate_callee (f := 22) rfl ?_); refine gl 24 Try.func22 #[.agg #[.int .i64 t107, .slice Ao154 t117.length co154], .int .i64 a1, .int .i64 a2] ?_; (with_reducible refine (spec_WayAll.calls k t107 _ _ t117 a1 a2 t108 _ ?side1 ?side2 A10.out).mono ?_); (case side1 => exact qc (Kd.R_reads' HO129.out).2.2); (case side2 => exact (Kd.R_reads' HO129.out).2.1); rintro e w155 ⟨v130, rfl, ho0, hb⟩; refine ⟨_, rfl, ?_⟩; replace HO129 := q0 (Kd.R_below (qr HO129.out) hb); have HO131 := q0 (Kd.S_lower ho0 (below_size (qb HB.out))); replace BK116 := q0 (kb BK116.out hb); replace HB := q0 (below_step (qb HB.out) hb); (try clear hb); (try clear hb2); (try clear hk); (try clear hi); (try clear ho0); have hcz156_0 : w155.cell? ⟨gb116, 0, none⟩ = some (.int .i64 a0_0) := (blk_cell BK116.out 0).trans rfl; have hcz156_1 : w155.cell? ⟨gb116, 1, none⟩ = some (.slice A0_1 l0_1.length c0_1) := (blk_cell BK116.out 1).trans rfl; have hfz156_0 := blk_frozen BK116.out 0; have hfz156_1 := blk_frozen BK116.out 1) | ((with_reducible refine gate_callee (f := 15) rfl ?_); refine gl 26 Try.func15 #[.agg #[.int .i64 a0_0, .slice A0_1 l0_1.length c0_1]] ?_; (with_reducible refine (laws_toNet.calls k a0_0 _ _ l0_1 t109 t119 _ ?side1 ?side2 A11.out).mono ?_); (case side1 => exact qc (Kd.C_below HR0_1.out HB.out)); (case side2 => exact HC0_1.out); rintro e w157 ⟨v132, rfl, ho0, hb⟩; refine ⟨_, rfl, ?_⟩; replace HO131 := q0 (Kd.S_below (qv HO131.out) hb); have HO133 := q0 (Kd.R_lower (Kd.R_new' ho0 (Kd.R_lt (qr HO129.out))) (below_size (qb HB.out))); replace HO129 := q0 (Kd.R_elder' (qr HO129.out) (Kd.R_base ho0) hb); replace BK116 := q0 (kb BK116.out hb); replace HB := q0 (below_step (qb HB.out) hb); (try clear hb); (try clear hb2); (try clear hk); (try clear hi); (try clear ho0)) | ((with_reducible refine gate_dst (N := 9) rfl ?_); refine be 9 #[.int .i64 0, .slice none 0 0] 31 ?_; intro gb134 hg w158 hbox hb; replace HO129 := q0 (Kd.R_below (qr HO129.out) hb); replace HO131 := q0 (Kd.S_below (qv HO131.out) hb); replace HO133 := q0 (Kd.R_below (qr HO133.out) hb); have BK134 := q0 (hbox); have GW134 := q0 ((bs HB.out hg : w.heap.size ≤ gb134)); have GE134 := q0 ((bs HB.out hg : w.heap.size ≤ gb134)); replace HB := q0 (below_step (qb HB.out) hb); have NB116_134 := q0 ((bl BK116.out hg : gb116 ≠ gb134)); have NB134_116 := q0 ((bg BK116.out hg : gb134 ≠ gb116)); replace BK116 := q0 (kb BK116.out hb); clear hb hbox hg; have hnb120 := NB134_116.out; have hnc120 := NB116_134.out; have hcz159_0 : w158.cell? ⟨gb134, 0, none⟩ = some (.int .i64 0) := (blk_cell BK134.out 0).trans rfl; have hcz159_1 : w158.cell? ⟨gb134, 1, none⟩ = some (.slice none 0 0) := (blk_cell BK134.out 1).trans rfl; have hfz159_0 := blk_frozen BK134.out 0; have hfz159_1 := blk_frozen BK134.out 1; obtain ⟨Ao160, co160, eo160⟩ := Kd.R_slice HO133.out; subst eo160) | ((with_reducible refine gate_callee (f := 23) rfl ?_); refine gl 30 Try.func23 #[.agg #[.int .i64 t109, .slice Ao160 t119.length co160], .int .i64 a1, .int .i64 a2] ?_; (with_reducible refine (impl_WayAll.calls k t109 _ _ t119 a1 a2 t110 _ ?side1 ?side2 A12.out).mono ?_); (case side1 => refine (Kd.R_reads' (e := 74) (base := w.heap.size) (ok := fun k_ => (True ∧ some k_ ≠ (.slice Ao154 t117.length co154 : Value).ownBlock)) (n := t119.length) (c := co160) ?_).2.2; exact (by (with_reducible repeat (first | apply Kd.R_alloc | apply Kd.R_drewN | apply Kd.R_drew)); exact (rf2 HO133.out BK134.out (fun _ h_ => h_.1)))); (case side2 => exact (Kd.R_reads' HO133.out).2.1); rintro e w161 ⟨v135, rfl, ho0, hb⟩; refine ⟨_, rfl, ?_⟩; replace HO129 := q0 (Kd.R_below (by (with_reducible repeat (first | apply Kd.R_alloc | apply Kd.R_drewN | apply Kd.R_drew)); exact (rf2 HO129.out BK134.out (fun _ h_ => h_.1))) hb); replace HO133 := q0 (Kd.R_below (by (with_reducible repeat (first | apply Kd.R_alloc | apply Kd.R_drewN | apply Kd.R_drew)); exact (rf2 HO133.out BK134.out (fun _ h_ => h_.1))) hb); have HO136 := q0 (Kd.S_lower (Kd.S_new' ho0 (Kd.S_lt (by (with_reducible repeat (first | apply Kd.S_alloc | apply Kd.S_drewN | apply Kd.S_drew)); exact (Kd.S_mono (Kd.S_far (p := ⟨gb134, 1, none⟩) (Kd.S_far (p := ⟨gb134, 0, none⟩) (Kd.S_types HO131.out BK134.out (by decide)) (fun _ hk => hk.2) (.int .i64 t109)) (fun _ hk => hk.2) (.slice Ao160 t119.length co160)) (fun _ h_ => h_.1))))) (below_size (qb HB.out))); replace HO131 := q0 (Kd.S_elder' (by (with_reducible repeat (first | apply Kd.S_alloc | apply Kd.S_drewN | apply Kd.S_drew)); exact (Kd.S_mono (Kd.S_far (p := ⟨gb134, 1, none⟩) (Kd.S_far (p := ⟨gb134, 0, none⟩) (Kd.S_types HO131.out BK134.out (by decide)) (fun _ hk => hk.2) (.int .i64 t109)) (fun _ hk => hk.2) (.slice Ao160 t119.length co160)) (fun _ h_ => h_.1))) (Kd.S_base ho0) hb); replace BK116 := q0 (kf BK116.out hb); replace BK134 := q0 (blk_below (g := gb134) (o := .cells #[.int .i64 t109, .slice Ao160 t119.length co160] 31 (0, 0)) (by (with_reducible repeat (first | refine blk_drewN ?_ _ | refine blk_drew ?_ | refine blk_alloc ?_ _)); refine blk_put (cs := #[.int .i64 t109, .slice none 0 0]) ?_ 1 _ rfl; (with_reducible repeat (first | refine blk_drewN ?_ _ | refine blk_drew ?_ | refine blk_alloc ?_ _)); refine blk_put (cs := #[.int .i64 0, .slice none 0 0]) ?_ 0 _ rfl; (with_reducible repeat (first | refine blk_drewN ?_ _ | refine blk_drew ?_ | refine blk_alloc ?_ _)); exact BK134.out) hb); replace HB := q0 (below_step (qb HB.out) hb); (try clear hb); (try clear hb2); (try clear hk); (try clear hi); (try clear ho0); obtain ⟨Ao162, co162, eo162⟩ := Kd.S_slice HO136.out; subst eo162; obtain ⟨Ao163, co163, eo163⟩ := Kd.S_slice HO131.out; subst eo163) | ((with_reducible refine gate_callee (f := 24) rfl ?_); refine gl 33 Try.func24 #[.slice Ao162 t110.length co162, .slice Ao163 t108.length co163] ?_; (with_reducible refine (laws_eqIntSS.calls k _ _ t110 _ _ t108 false _ ?side1 ?side2 ?side3 ?side4 A13.out).mono ?_); (case side1 => exact qc (Kd.S_reads' HO136.out).2.2); (case side2 => exact (Kd.S_reads' HO136.out).2.1); (case side3 => exact qc (Kd.S_reads' HO131.out).2.2); (case side4 => exact (Kd.S_reads' HO131.out).2.1); rintro e w' ⟨rfl, ⟨nd, rfl⟩⟩; refine ⟨_, rfl, ?_⟩))
   go_ret
   exact ⟨qe, qb HB.out⟩
 subst c14
 rw [if_pos rfl] at H
 replace H := Option.bind_eq_some_iff.mp H
 obtain ⟨⟨t112, t123⟩, A124, H⟩ := H
 have A15 := Aside0.mk A124
 clear A124
 replace H := Option.bind_eq_some_iff.mp H
 obtain ⟨t113, A125, H⟩ := H
 have A16 := Aside0.mk A125
 clear A125
 by_cases c17 : t113 = true
 rotate_left
 · replace c17 := Bool.eq_false_iff.mpr c17
   subst c17
   rw [if_neg nf] at H
   obtain rfl := Option.some.inj H
   go_enter Try.func4, Try.ntmps4
   try go_wp2_with (first | ((with_reducible refine gate_dst (N := 3) rfl ?_); refine be 3 #[.int .i64 a0_0, .slice A0_1 l0_1.length c0_1] 24 ?_; intro gb116 hg w80 hbox hb; have BK116 := q0 (hbox); have GW116 := q0 ((bs HB.out hg : w.heap.size ≤ gb116)); have GE116 := q0 ((bs HB.out hg : w.heap.size ≤ gb116)); replace HB := q0 (below_step (qb HB.out) hb); clear hb hbox hg; have hcz81_0 : w80.cell? ⟨gb116, 0, none⟩ = some (.int .i64 a0_0) := (blk_cell BK116.out 0).trans rfl; have hcz81_1 : w80.cell? ⟨gb116, 1, none⟩ = some (.slice A0_1 l0_1.length c0_1) := (blk_cell BK116.out 1).trans rfl; have hfz81_0 := blk_frozen BK116.out 0; have hfz81_1 := blk_frozen BK116.out 1) | ((with_reducible refine gate_callee (f := 13) rfl ?_); refine gl 17 Try.func13 #[.agg #[.int .i64 a0_0, .slice A0_1 l0_1.length c0_1], .int .i64 1048576] ?_; (with_reducible refine (laws_szNet.calls a0_0 _ _ l0_1 1048576 t100 _ ?side1 ?side2 A4.out).mono ?_); (case side1 => exact qc (Kd.C_below HR0_1.out HB.out)); (case side2 => exact HC0_1.out); rintro e w82 ⟨rfl, hb⟩; refine ⟨_, rfl, ?_⟩; replace BK116 := q0 (kb BK116.out hb); replace HB := q0 (below_step (qb HB.out) hb); (try clear hb); (try clear hb2); (try clear hk); (try clear hi); have hcz83_0 : w82.cell? ⟨gb116, 0, none⟩ = some (.int .i64 a0_0) := (blk_cell BK116.out 0).trans rfl; have hcz83_1 : w82.cell? ⟨gb116, 1, none⟩ = some (.slice A0_1 l0_1.length c0_1) := (blk_cell BK116.out 1).trans rfl; have hfz83_0 := blk_frozen BK116.out 0; have hfz83_1 := blk_frozen BK116.out 1) | ((with_reducible refine gate_callee (f := 15) rfl ?_); refine gl 21 Try.func15 #[.agg #[.int .i64 a0_0, .slice A0_1 l0_1.length c0_1]] ?_; (with_reducible refine (laws_toNet.calls k a0_0 _ _ l0_1 t107 t117 _ ?side1 ?side2 A9.out).mono ?_); (case side1 => exact qc (Kd.C_below HR0_1.out HB.out)); (case side2 => exact HC0_1.out); rintro e w84 ⟨v128, rfl, ho0, hb⟩; refine ⟨_, rfl, ?_⟩; have HO129 := q0 (Kd.R_lower ho0 (below_size (qb HB.out))); replace BK116 := q0 (kb BK116.out hb); replace HB := q0 (below_step (qb HB.out) hb); (try clear hb); (try clear hb2); (try clear hk); (try clear hi); (try clear ho0); obtain ⟨Ao85, co85, eo85⟩ := Kd.R_slice HO129.out; subst eo85) | ((with_reducible refine gate_callee (f := 22) rfl ?_); refine gl 24 Try.func22 #[.agg #[.int .i64 t107, .slice Ao85 t117.length co85], .int .i64 a1, .int .i64 a2] ?_; (with_reducible refine (spec_WayAll.calls k t107 _ _ t117 a1 a2 t108 _ ?side1 ?side2 A10.out).mono ?_); (case side1 => exact qc (Kd.R_reads' HO129.out).2.2); (case side2 => exact (Kd.R_reads' HO129.out).2.1); rintro e w86 ⟨v130, rfl, ho0, hb⟩; refine ⟨_, rfl, ?_⟩; replace HO129 := q0 (Kd.R_below (qr HO129.out) hb); have HO131 := q0 (Kd.S_lower ho0 (below_size (qb HB.out))); replace BK116 := q0 (kb BK116.out hb); replace HB := q0 (below_step (qb HB.out) hb); (try clear hb); (try clear hb2); (try clear hk); (try clear hi); (try clear ho0); have hcz87_0 : w86.cell? ⟨gb116, 0, none⟩ = some (.int .i64 a0_0) := (blk_cell BK116.out 0).trans rfl; have hcz87_1 : w86.cell? ⟨gb116, 1, none⟩ = some (.slice A0_1 l0_1.length c0_1) := (blk_cell BK116.out 1).trans rfl; have hfz87_0 := blk_frozen BK116.out 0; have hfz87_1 := blk_frozen BK116.out 1) | ((with_reducible refine gate_callee (f := 15) rfl ?_); refine gl 26 Try.func15 #[.agg #[.int .i64 a0_0, .slice A0_1 l0_1.length c0_1]] ?_; (with_reducible refine (laws_toNet.calls k a0_0 _ _ l0_1 t109 t119 _ ?side1 ?side2 A11.out).mono ?_); (case side1 => exact qc (Kd.C_below HR0_1.out HB.out)); (case side2 => exact HC0_1.out); rintro e w88 ⟨v132, rfl, ho0, hb⟩; refine ⟨_, rfl, ?_⟩; replace HO131 := q0 (Kd.S_below (qv HO131.out) hb); have HO133 := q0 (Kd.R_lower (Kd.R_new' ho0 (Kd.R_lt (qr HO129.out))) (below_size (qb HB.out))); replace HO129 := q0 (Kd.R_elder' (qr HO129.out) (Kd.R_base ho0) hb); replace BK116 := q0 (kb BK116.out hb); replace HB := q0 (below_step (qb HB.out) hb); (try clear hb); (try clear hb2); (try clear hk); (try clear hi); (try clear ho0)) | ((with_reducible refine gate_dst (N := 9) rfl ?_); refine be 9 #[.int .i64 0, .slice none 0 0] 31 ?_; intro gb134 hg w89 hbox hb; replace HO129 := q0 (Kd.R_below (qr HO129.out) hb); replace HO131 := q0 (Kd.S_below (qv HO131.out) hb); replace HO133 := q0 (Kd.R_below (qr HO133.out) hb); have BK134 := q0 (hbox); have GW134 := q0 ((bs HB.out hg : w.heap.size ≤ gb134)); have GE134 := q0 ((bs HB.out hg : w.heap.size ≤ gb134)); replace HB := q0 (below_step (qb HB.out) hb); have NB116_134 := q0 ((bl BK116.out hg : gb116 ≠ gb134)); have NB134_116 := q0 ((bg BK116.out hg : gb134 ≠ gb116)); replace BK116 := q0 (kb BK116.out hb); clear hb hbox hg; have hnb90 := NB134_116.out; have hnc90 := NB116_134.out; have hcz91_0 : w89.cell? ⟨gb134, 0, none⟩ = some (.int .i64 0) := (blk_cell BK134.out 0).trans rfl; have hcz91_1 : w89.cell? ⟨gb134, 1, none⟩ = some (.slice none 0 0) := (blk_cell BK134.out 1).trans rfl; have hfz91_0 := blk_frozen BK134.out 0; have hfz91_1 := blk_frozen BK134.out 1; obtain ⟨Ao92, co92, eo92⟩ := Kd.R_slice HO133.out; subst eo92) | ((with_reducible refine gate_callee (f := 23) rfl ?_); refine gl 30 Try.func23 #[.agg #[.int .i64 t109, .slice Ao92 t119.length co92], .int .i64 a1, .int .i64 a2] ?_; (with_reducible refine (impl_WayAll.calls k t109 _ _ t119 a1 a2 t110 _ ?side1 ?side2 A12.out).mono ?_); (case side1 => refine (Kd.R_reads' (e := 74) (base := w.heap.size) (ok := fun k_ => (True ∧ some k_ ≠ (.slice Ao85 t117.length co85 : Value).ownBlock)) (n := t119.length) (c := co92) ?_).2.2; exact (by (with_reducible repeat (first | apply Kd.R_alloc | apply Kd.R_drewN | apply Kd.R_drew)); exact (rf2 HO133.out BK134.out (fun _ h_ => h_.1)))); (case side2 => exact (Kd.R_reads' HO133.out).2.1); rintro e w93 ⟨v135, rfl, ho0, hb⟩; refine ⟨_, rfl, ?_⟩; replace HO129 := q0 (Kd.R_below (by (with_reducible repeat (first | apply Kd.R_alloc | apply Kd.R_drewN | apply Kd.R_drew)); exact (rf2 HO129.out BK134.out (fun _ h_ => h_.1))) hb); replace HO133 := q0 (Kd.R_below (by (with_reducible repeat (first | apply Kd.R_alloc | apply Kd.R_drewN | apply Kd.R_drew)); exact (rf2 HO133.out BK134.out (fun _ h_ => h_.1))) hb); have HO136 := q0 (Kd.S_lower (Kd.S_new' ho0 (Kd.S_lt (by (with_reducible repeat (first | apply Kd.S_alloc | apply Kd.S_drewN | apply Kd.S_drew)); exact (Kd.S_mono (Kd.S_far (p := ⟨gb134, 1, none⟩) (Kd.S_far (p := ⟨gb134, 0, none⟩) (Kd.S_types HO131.out BK134.out (by decide)) (fun _ hk => hk.2) (.int .i64 t109)) (fun _ hk => hk.2) (.slice Ao92 t119.length co92)) (fun _ h_ => h_.1))))) (below_size (qb HB.out))); replace HO131 := q0 (Kd.S_elder' (by (with_reducible repeat (first | apply Kd.S_alloc | apply Kd.S_drewN | apply Kd.S_drew)); exact (Kd.S_mono (Kd.S_far (p := ⟨gb134, 1, none⟩) (Kd.S_far (p := ⟨gb134, 0, none⟩) (Kd.S_types HO131.out BK134.out (by decide)) (fun _ hk => hk.2) (.int .i64 t109)) (fun _ hk => hk.2) (.slice Ao92 t119.length co92)) (fun _ h_ => h_.1))) (Kd.S_base ho0) hb); replace BK116 := q0 (kf BK116.out hb); replace BK134 := q0 (blk_below (g := gb134) (o := .cells #[.int .i64 t109, .slice Ao92 t119.length co92] 31 (0, 0)) (by (with_reducible repeat (first | refine blk_drewN ?_ _ | refine blk_drew ?_ | refine blk_alloc ?_ _)); refine blk_put (cs := #[.int .i64 t109, .slice none 0 0]) ?_ 1 _ rfl; (with_reducible repeat (first | refine blk_drewN ?_ _ | refine blk_drew ?_ | refine blk_alloc ?_ _)); refine blk_put (cs := #[.int .i64 0, .slice none 0 0]) ?_ 0 _ rfl; (with_reducible repeat (first | refine blk_drewN ?_ _ | refine blk_drew ?_ | refine blk_alloc ?_ _)); exact BK134.out) hb); replace HB := q0 (below_step (qb HB.out) hb); (try clear hb); (try clear hb2); (try clear hk); (try clear hi); (try clear ho0); obtain ⟨Ao94, co94, eo94⟩ := Kd.S_slice HO136.out; subst eo94; obtain ⟨Ao95, co95, eo95⟩ := Kd.S_slice HO131.out; subst eo95) | ((with_reducible refine gate_callee (f := 24) rfl ?_); refine gl 33 Try.func24 #[.slice Ao94 t110.length co94, .slice Ao95 t108.length co95] ?_; (with_reducible refine (laws_eqIntSS.calls k _ _ t110 _ _ t108 true _ ?side1 ?side2 ?side3 ?side4 A13.out).mono ?_); (case side1 => exact qc (Kd.S_reads' HO136.out).2.2); (case side2 => exact (Kd.S_reads' HO136.out).2.1); (case side3 => exact qc (Kd.S_reads' HO131.out).2.2); (case side4 => exact (Kd.S_reads' HO131.out).2.1); rintro e w' ⟨rfl, ⟨nd, rfl⟩⟩; refine ⟨_, rfl, ?_⟩))
   (try (rw [drewN_self w93]; generalize hq_ : World.drewN w93 _ = w93; have n0_ : Aside0 (Kd.R kTie 74 w93 w.heap.size (fun k_ => some k_ ≠ (.slice Ao92 t119.length co92 : Value).ownBlock) (.slice Ao85 t117.length co85) t117) := ⟨by rw [← hq_]; exact (by (with_reducible repeat (first | apply Kd.R_alloc | apply Kd.R_drewN | apply Kd.R_drew)); exact Kd.R_mono HO129.out (fun _ hk => hk.2))⟩; have n1_ : Aside0 (Kd.S (Kd.slice 3 (Kd.int .i64)) 26 w93 w.heap.size (fun k_ => some k_ ≠ (.slice Ao94 t110.length co94 : Value).ownBlock) (.slice Ao95 t108.length co95) t108) := ⟨by rw [← hq_]; exact (by (with_reducible repeat (first | apply Kd.S_alloc | apply Kd.S_drewN | apply Kd.S_drew)); exact Kd.S_mono HO131.out (fun _ hk => hk.2))⟩; have n2_ : Aside0 (Kd.R kTie 74 w93 w.heap.size (fun k_ => some k_ ≠ (.slice Ao85 t117.length co85 : Value).ownBlock) (.slice Ao92 t119.length co92) t119) := ⟨by rw [← hq_]; exact (by (with_reducible repeat (first | apply Kd.R_alloc | apply Kd.R_drewN | apply Kd.R_drew)); exact Kd.R_mono HO133.out (fun _ hk => hk.2))⟩; have n3_ : Aside0 (Kd.S (Kd.slice 3 (Kd.int .i64)) 26 w93 w.heap.size (fun k_ => some k_ ≠ (.slice Ao95 t108.length co95 : Value).ownBlock) (.slice Ao94 t110.length co94) t110) := ⟨by rw [← hq_]; exact (by (with_reducible repeat (first | apply Kd.S_alloc | apply Kd.S_drewN | apply Kd.S_drew)); exact Kd.S_mono HO136.out (fun _ hk => hk.2))⟩; have n4_ : Aside0 (w93.heap[gb116]? = some (.cells #[.int .i64 a0_0, .slice A0_1 l0_1.length c0_1] 24 (0, 0))) := ⟨by rw [← hq_]; exact (qk BK116.out)⟩; have n5_ : Aside0 (w93.heap[gb134]? = some (.cells #[.int .i64 t109, .slice Ao92 t119.length co92] 31 (0, 0))) := ⟨by rw [← hq_]; exact (qk BK134.out)⟩; have n6_ : Aside0 (Below w.heap.size w w93) := ⟨by rw [← hq_]; exact (qb HB.out)⟩; clear HO129 HO131 HO133 HO136 BK116 BK134 HB hq_; have HO129 := n0_; have HO131 := n1_; have HO133 := n2_; have HO136 := n3_; have BK116 := n4_; have BK134 := n5_; have HB := n6_; clear n0_ n1_ n2_ n3_ n4_ n5_ n6_))
   replace HO129 := q0 (Kd.R_drew HO129.out)
   replace HO131 := q0 (Kd.S_drew HO131.out)
   replace HO133 := q0 (Kd.R_drew HO133.out)
   replace HO136 := q0 (Kd.S_drew HO136.out)
   replace BK116 := q0 (blk_drew BK116.out)
   replace BK134 := q0 (blk_drew BK134.out)
   replace HB := q0 (below_drew1 HB.out)
   refine start_ (n := 5) (S := fun w' => w'.cell? ⟨gb134, 0, none⟩ = some (.int .i64 t109) ∧ w'.cell? ⟨gb134, 1, none⟩ = some (.slice Ao92 t119.length co92) ∧ w'.cell? ⟨gb116, 0, none⟩ = some (.int .i64 a0_0) ∧ w'.cell? ⟨gb116, 1, none⟩ = some (.slice A0_1 l0_1.length c0_1)) (ds := []) (ba 5 0) (by kernel_rfl) rfl (by kernel_rfl) ⟨(blk_cell BK134.out 0).trans rfl, (blk_cell BK134.out 1).trans rfl, (blk_cell BK116.out 0).trans rfl, (blk_cell BK116.out 1).trans rfl⟩ (fun hHeld => ?_)
   generalize w93.drew = w96 at HO129 HO131 HO133 HO136 BK116 BK134 HB hHeld ⊢
   refine tw 0 (some 35) (ba 5 1) hHeld ?_
   refine tw 1 (some 36) (ba 5 3) hHeld ?_
   refine one_ (i := 2) (N := some 37) (ba 5 7) rfl rfl (by kernel_rfl) (by decide) (fun K hK => ?_)
   refine goes_ Try.func15 (by kernel_rfl) rfl #[.agg #[.int .i64 a0_0, .slice A0_1 l0_1.length c0_1]] (by rfl) rfl rfl qm ?_
   with_reducible refine (laws_toNet.calls k a0_0 _ _ l0_1 t112 t123 _ ?side1 ?side2 A15.out).mono ?_
   (case side1 => exact qc (Kd.C_below HR0_1.out HB.out))
   (case side2 => exact HC0_1.out)
   rintro e w97 ⟨v137, rfl, ho0, hb⟩
   refine ⟨_, rfl, ?_⟩
   replace HO131 := q0 (Kd.S_below (qv HO131.out) hb)
   replace HO136 := q0 (Kd.S_below (qv HO136.out) hb)
   have HO138 := q0 (Kd.R_lower (Kd.R_new' (Kd.R_new' ho0 (Kd.R_lt (qr HO129.out))) (Kd.R_lt (qr HO133.out))) (below_size (qb HB.out)))
   replace HO129 := q0 (Kd.R_elder' (qr HO129.out) (Kd.R_base ho0) hb)
   replace HO133 := q0 (Kd.R_elder' (qr HO133.out) (Kd.R_base ho0) hb)
   replace BK116 := q0 (kb BK116.out hb)
   replace BK134 := q0 (kb BK134.out hb)
   replace HB := q0 (below_step (qb HB.out) hb)
   (try clear hb)
   (try clear hb2)
   (try clear hk)
   (try clear hi)
   (try clear ho0)
   obtain ⟨Ao98, co98, eo98⟩ := Kd.R_slice HO138.out
   (first | subst eo98 | (injection eo98 with f1_ f2_ f3_; have f4_ := f1_.symm; have f5_ := f3_.symm; clear f1_ f2_ f3_; subst f4_; subst f5_))
   refine hK.out _ _ ⟨(blk_cell BK134.out 0).trans rfl, (blk_cell BK134.out 1).trans rfl, (blk_cell BK116.out 0).trans rfl, (blk_cell BK116.out 1).trans rfl⟩ (fun hHeld => ?_)
   clear hK K
   refine nu 37 ?_
   refine one_ (i := 3) (N := some 38) (ba 5 15) rfl rfl (by kernel_rfl) (by decide) (fun K hK => ?_)
   refine goes_ Try.func18 (by kernel_rfl) rfl #[.agg #[.int .i64 t109, .slice Ao92 t119.length co92], .agg #[.int .i64 t112, .slice Ao98 t123.length co98]] (by rfl) rfl rfl qm ?_
   with_reducible refine (laws_eqNet.calls k t109 _ _ t119 t112 _ _ t123 false _ ?side1 ?side2 ?side3 ?side4 A16.out).mono ?_
   (case side1 => exact qc (Kd.R_reads' HO133.out).2.2)
   (case side2 => exact (Kd.R_reads' HO133.out).2.1)
   (case side3 => exact qc (Kd.R_reads' HO138.out).2.2)
   (case side4 => exact (Kd.R_reads' HO138.out).2.1)
   rintro e w99 ⟨rfl, hb⟩
   refine ⟨_, rfl, ?_⟩
   replace HO129 := q0 (Kd.R_below (qr HO129.out) hb)
   replace HO131 := q0 (Kd.S_below (qv HO131.out) hb)
   replace HO133 := q0 (Kd.R_below (qr HO133.out) hb)
   replace HO136 := q0 (Kd.S_below (qv HO136.out) hb)
   replace HO138 := q0 (Kd.R_below (qr HO138.out) hb)
   replace BK116 := q0 (kb BK116.out hb)
   replace BK134 := q0 (kb BK134.out hb)
   replace HB := q0 (below_step (qb HB.out) hb)
   (try clear hb)
   (try clear hb2)
   (try clear hk)
   (try clear hi)
   refine hK.out _ _ ⟨(blk_cell BK134.out 0).trans rfl, (blk_cell BK134.out 1).trans rfl, (blk_cell BK116.out 0).trans rfl, (blk_cell BK116.out 1).trans rfl⟩ (fun hHeld => ?_)
   clear hK K
   refine nu 38 ?_
   refine pw 4 (some 39) (ba 5 31) ?_
   refine done_ (by kernel_rfl) ?_
   try go_wp2
   go_ret
   exact ⟨qe, qb HB.out⟩
 subst c17
 rw [if_pos rfl] at H
 replace H := Option.bind_eq_some_iff.mp H
 obtain ⟨⟨t114, t126⟩, A127, H⟩ := H
 have A18 := Aside0.mk A127
 clear A127
 have HC19 := Aside0.mk H
 clear H
 go_enter Try.func4, Try.ntmps4
 try go_wp2_with (first | ((with_reducible refine gate_dst (N := 3) rfl ?_); refine be 3 #[.int .i64 a0_0, .slice A0_1 l0_1.length c0_1] 24 ?_; intro gb116 hg w20 hbox hb; have BK116 := q0 (hbox); have GW116 := q0 ((bs HB.out hg : w.heap.size ≤ gb116)); have GE116 := q0 ((bs HB.out hg : w.heap.size ≤ gb116)); replace HB := q0 (below_step (qb HB.out) hb); clear hb hbox hg; have hcz21_0 : w20.cell? ⟨gb116, 0, none⟩ = some (.int .i64 a0_0) := (blk_cell BK116.out 0).trans rfl; have hcz21_1 : w20.cell? ⟨gb116, 1, none⟩ = some (.slice A0_1 l0_1.length c0_1) := (blk_cell BK116.out 1).trans rfl; have hfz21_0 := blk_frozen BK116.out 0; have hfz21_1 := blk_frozen BK116.out 1) | ((with_reducible refine gate_callee (f := 13) rfl ?_); refine gl 17 Try.func13 #[.agg #[.int .i64 a0_0, .slice A0_1 l0_1.length c0_1], .int .i64 1048576] ?_; (with_reducible refine (laws_szNet.calls a0_0 _ _ l0_1 1048576 t100 _ ?side1 ?side2 A4.out).mono ?_); (case side1 => exact qc (Kd.C_below HR0_1.out HB.out)); (case side2 => exact HC0_1.out); rintro e w22 ⟨rfl, hb⟩; refine ⟨_, rfl, ?_⟩; replace BK116 := q0 (kb BK116.out hb); replace HB := q0 (below_step (qb HB.out) hb); (try clear hb); (try clear hb2); (try clear hk); (try clear hi); have hcz23_0 : w22.cell? ⟨gb116, 0, none⟩ = some (.int .i64 a0_0) := (blk_cell BK116.out 0).trans rfl; have hcz23_1 : w22.cell? ⟨gb116, 1, none⟩ = some (.slice A0_1 l0_1.length c0_1) := (blk_cell BK116.out 1).trans rfl; have hfz23_0 := blk_frozen BK116.out 0; have hfz23_1 := blk_frozen BK116.out 1) | ((with_reducible refine gate_callee (f := 15) rfl ?_); refine gl 21 Try.func15 #[.agg #[.int .i64 a0_0, .slice A0_1 l0_1.length c0_1]] ?_; (with_reducible refine (laws_toNet.calls k a0_0 _ _ l0_1 t107 t117 _ ?side1 ?side2 A9.out).mono ?_); (case side1 => exact qc (Kd.C_below HR0_1.out HB.out)); (case side2 => exact HC0_1.out); rintro e w24 ⟨v128, rfl, ho0, hb⟩; refine ⟨_, rfl, ?_⟩; have HO129 := q0 (Kd.R_lower ho0 (below_size (qb HB.out))); replace BK116 := q0 (kb BK116.out hb); replace HB := q0 (below_step (qb HB.out) hb); (try clear hb); (try clear hb2); (try clear hk); (try clear hi); (try clear ho0); obtain ⟨Ao25, co25, eo25⟩ := Kd.R_slice HO129.out; subst eo25) | ((with_reducible refine gate_callee (f := 22) rfl ?_); refine gl 24 Try.func22 #[.agg #[.int .i64 t107, .slice Ao25 t117.length co25], .int .i64 a1, .int .i64 a2] ?_; (with_reducible refine (spec_WayAll.calls k t107 _ _ t117 a1 a2 t108 _ ?side1 ?side2 A10.out).mono ?_); (case side1 => exact qc (Kd.R_reads' HO129.out).2.2); (case side2 => exact (Kd.R_reads' HO129.out).2.1); rintro e w26 ⟨v130, rfl, ho0, hb⟩; refine ⟨_, rfl, ?_⟩; replace HO129 := q0 (Kd.R_below (qr HO129.out) hb); have HO131 := q0 (Kd.S_lower ho0 (below_size (qb HB.out))); replace BK116 := q0 (kb BK116.out hb); replace HB := q0 (below_step (qb HB.out) hb); (try clear hb); (try clear hb2); (try clear hk); (try clear hi); (try clear ho0); have hcz27_0 : w26.cell? ⟨gb116, 0, none⟩ = some (.int .i64 a0_0) := (blk_cell BK116.out 0).trans rfl; have hcz27_1 : w26.cell? ⟨gb116, 1, none⟩ = some (.slice A0_1 l0_1.length c0_1) := (blk_cell BK116.out 1).trans rfl; have hfz27_0 := blk_frozen BK116.out 0; have hfz27_1 := blk_frozen BK116.out 1) | ((with_reducible refine gate_callee (f := 15) rfl ?_); refine gl 26 Try.func15 #[.agg #[.int .i64 a0_0, .slice A0_1 l0_1.length c0_1]] ?_; (with_reducible refine (laws_toNet.calls k a0_0 _ _ l0_1 t109 t119 _ ?side1 ?side2 A11.out).mono ?_); (case side1 => exact qc (Kd.C_below HR0_1.out HB.out)); (case side2 => exact HC0_1.out); rintro e w28 ⟨v132, rfl, ho0, hb⟩; refine ⟨_, rfl, ?_⟩; replace HO131 := q0 (Kd.S_below (qv HO131.out) hb); have HO133 := q0 (Kd.R_lower (Kd.R_new' ho0 (Kd.R_lt (qr HO129.out))) (below_size (qb HB.out))); replace HO129 := q0 (Kd.R_elder' (qr HO129.out) (Kd.R_base ho0) hb); replace BK116 := q0 (kb BK116.out hb); replace HB := q0 (below_step (qb HB.out) hb); (try clear hb); (try clear hb2); (try clear hk); (try clear hi); (try clear ho0)) | ((with_reducible refine gate_dst (N := 9) rfl ?_); refine be 9 #[.int .i64 0, .slice none 0 0] 31 ?_; intro gb134 hg w29 hbox hb; replace HO129 := q0 (Kd.R_below (qr HO129.out) hb); replace HO131 := q0 (Kd.S_below (qv HO131.out) hb); replace HO133 := q0 (Kd.R_below (qr HO133.out) hb); have BK134 := q0 (hbox); have GW134 := q0 ((bs HB.out hg : w.heap.size ≤ gb134)); have GE134 := q0 ((bs HB.out hg : w.heap.size ≤ gb134)); replace HB := q0 (below_step (qb HB.out) hb); have NB116_134 := q0 ((bl BK116.out hg : gb116 ≠ gb134)); have NB134_116 := q0 ((bg BK116.out hg : gb134 ≠ gb116)); replace BK116 := q0 (kb BK116.out hb); clear hb hbox hg; have hnb30 := NB134_116.out; have hnc30 := NB116_134.out; have hcz31_0 : w29.cell? ⟨gb134, 0, none⟩ = some (.int .i64 0) := (blk_cell BK134.out 0).trans rfl; have hcz31_1 : w29.cell? ⟨gb134, 1, none⟩ = some (.slice none 0 0) := (blk_cell BK134.out 1).trans rfl; have hfz31_0 := blk_frozen BK134.out 0; have hfz31_1 := blk_frozen BK134.out 1; obtain ⟨Ao32, co32, eo32⟩ := Kd.R_slice HO133.out; subst eo32) | ((with_reducible refine gate_callee (f := 23) rfl ?_); refine gl 30 Try.func23 #[.agg #[.int .i64 t109, .slice Ao32 t119.length co32], .int .i64 a1, .int .i64 a2] ?_; (with_reducible refine (impl_WayAll.calls k t109 _ _ t119 a1 a2 t110 _ ?side1 ?side2 A12.out).mono ?_); (case side1 => refine (Kd.R_reads' (e := 74) (base := w.heap.size) (ok := fun k_ => (True ∧ some k_ ≠ (.slice Ao25 t117.length co25 : Value).ownBlock)) (n := t119.length) (c := co32) ?_).2.2; exact (by (with_reducible repeat (first | apply Kd.R_alloc | apply Kd.R_drewN | apply Kd.R_drew)); exact (rf2 HO133.out BK134.out (fun _ h_ => h_.1)))); (case side2 => exact (Kd.R_reads' HO133.out).2.1); rintro e w33 ⟨v135, rfl, ho0, hb⟩; refine ⟨_, rfl, ?_⟩; replace HO129 := q0 (Kd.R_below (by (with_reducible repeat (first | apply Kd.R_alloc | apply Kd.R_drewN | apply Kd.R_drew)); exact (rf2 HO129.out BK134.out (fun _ h_ => h_.1))) hb); replace HO133 := q0 (Kd.R_below (by (with_reducible repeat (first | apply Kd.R_alloc | apply Kd.R_drewN | apply Kd.R_drew)); exact (rf2 HO133.out BK134.out (fun _ h_ => h_.1))) hb); obtain ⟨M_, hs8_, hs10_⟩ := S_split (h10 := ho0) (h8 := (by (with_reducible repeat (first | apply Kd.S_alloc | apply Kd.S_drewN | apply Kd.S_drew)); exact (Kd.S_mono (Kd.S_far (p := ⟨gb134, 1, none⟩) (Kd.S_far (p := ⟨gb134, 0, none⟩) (Kd.S_types HO131.out BK134.out (by decide)) (fun _ hk => hk.2) (.int .i64 t109)) (fun _ hk => hk.2) (.slice Ao32 t119.length co32)) (fun _ h_ => h_.1)))); have HO136 := q0 (Kd.S_lower (Kd.S_new' hs10_ (Kd.S_lt hs8_)) (below_size (qb HB.out))); replace HO131 := q0 (Kd.S_elder' hs8_ (Kd.S_base ho0) hb); clear hs8_ hs10_; replace BK116 := q0 (kf BK116.out hb); replace BK134 := q0 (blk_below (g := gb134) (o := .cells #[.int .i64 t109, .slice Ao32 t119.length co32] 31 (0, 0)) (by (with_reducible repeat (first | refine blk_drewN ?_ _ | refine blk_drew ?_ | refine blk_alloc ?_ _)); refine blk_put (cs := #[.int .i64 t109, .slice none 0 0]) ?_ 1 _ rfl; (with_reducible repeat (first | refine blk_drewN ?_ _ | refine blk_drew ?_ | refine blk_alloc ?_ _)); refine blk_put (cs := #[.int .i64 0, .slice none 0 0]) ?_ 0 _ rfl; (with_reducible repeat (first | refine blk_drewN ?_ _ | refine blk_drew ?_ | refine blk_alloc ?_ _)); exact BK134.out) hb); replace HB := q0 (below_step (qb HB.out) hb); (try clear hb); (try clear hb2); (try clear hk); (try clear hi); (try clear ho0); obtain ⟨Ao34, co34, eo34⟩ := Kd.S_slice HO136.out; subst eo34; obtain ⟨Ao35, co35, eo35⟩ := Kd.S_slice HO131.out; subst eo35) | ((with_reducible refine gate_callee (f := 24) rfl ?_); refine gl 33 Try.func24 #[.slice Ao34 t110.length co34, .slice Ao35 t108.length co35] ?_; (with_reducible refine (laws_eqIntSS.calls k _ _ t110 _ _ t108 true _ ?side1 ?side2 ?side3 ?side4 A13.out).mono ?_); (case side1 => exact qc (Kd.S_reads' HO136.out).2.2); (case side2 => exact (Kd.S_reads' HO136.out).2.1); (case side3 => exact qc (Kd.S_reads' HO131.out).2.2); (case side4 => exact (Kd.S_reads' HO131.out).2.1); rintro e w' ⟨rfl, ⟨nd, rfl⟩⟩; refine ⟨_, rfl, ?_⟩))
 (try (rw [drewN_self w33]; generalize hq_ : World.drewN w33 _ = w33; have n0_ : Aside0 (Kd.R kTie 74 w33 w.heap.size (fun k_ => True ∧ some k_ ≠ (.slice Ao32 t119.length co32 : Value).ownBlock) (.slice Ao25 t117.length co25) t117) := ⟨by rw [← hq_]; exact (by (with_reducible repeat (first | apply Kd.R_alloc | apply Kd.R_drewN | apply Kd.R_drew)); exact Kd.R_mono HO129.out (fun _ hk => ⟨trivial, hk.2⟩))⟩; have n1_ : Aside0 (Kd.S (Kd.slice 3 (Kd.int .i64)) 26 w33 w.heap.size (fun k_ => (True ∧ k_ < M_) ∧ some k_ ≠ (.slice Ao34 t110.length co34 : Value).ownBlock) (.slice Ao35 t108.length co35) t108) := ⟨by rw [← hq_]; exact (by (with_reducible repeat (first | apply Kd.S_alloc | apply Kd.S_drewN | apply Kd.S_drew)); exact Kd.S_mono HO131.out (fun _ hk => ⟨⟨trivial, hk.1.2⟩, hk.2⟩))⟩; have n2_ : Aside0 (Kd.R kTie 74 w33 w.heap.size (fun k_ => True ∧ some k_ ≠ (.slice Ao25 t117.length co25 : Value).ownBlock) (.slice Ao32 t119.length co32) t119) := ⟨by rw [← hq_]; exact (by (with_reducible repeat (first | apply Kd.R_alloc | apply Kd.R_drewN | apply Kd.R_drew)); exact Kd.R_mono HO133.out (fun _ hk => ⟨trivial, hk.2⟩))⟩; have n3_ : Aside0 (Kd.S (Kd.slice 3 (Kd.int .i64)) 26 w33 w.heap.size (fun k_ => (True ∧ M_ ≤ k_) ∧ some k_ ≠ (.slice Ao35 t108.length co35 : Value).ownBlock) (.slice Ao34 t110.length co34) t110) := ⟨by rw [← hq_]; exact (by (with_reducible repeat (first | apply Kd.S_alloc | apply Kd.S_drewN | apply Kd.S_drew)); exact Kd.S_mono HO136.out (fun _ hk => ⟨⟨trivial, hk.1.2⟩, hk.2⟩))⟩; have n4_ : Aside0 (w33.heap[gb116]? = some (.cells #[.int .i64 a0_0, .slice A0_1 l0_1.length c0_1] 24 (0, 0))) := ⟨by rw [← hq_]; exact (qk BK116.out)⟩; have n5_ : Aside0 (w33.heap[gb134]? = some (.cells #[.int .i64 t109, .slice Ao32 t119.length co32] 31 (0, 0))) := ⟨by rw [← hq_]; exact (qk BK134.out)⟩; have n6_ : Aside0 (Below w.heap.size w w33) := ⟨by rw [← hq_]; exact (qb HB.out)⟩; clear HO129 HO131 HO133 HO136 BK116 BK134 HB hq_; have HO129 := n0_; have HO131 := n1_; have HO133 := n2_; have HO136 := n3_; have BK116 := n4_; have BK134 := n5_; have HB := n6_; clear n0_ n1_ n2_ n3_ n4_ n5_ n6_))
 replace HO129 := q0 (Kd.R_drew HO129.out)
 replace HO131 := q0 (Kd.S_drew HO131.out)
 replace HO133 := q0 (Kd.R_drew HO133.out)
 replace HO136 := q0 (Kd.S_drew HO136.out)
 replace BK116 := q0 (blk_drew BK116.out)
 replace BK134 := q0 (blk_drew BK134.out)
 replace HB := q0 (below_drew1 HB.out)
 refine start_ (n := 5) (S := fun w' => w'.cell? ⟨gb134, 0, none⟩ = some (.int .i64 t109) ∧ w'.cell? ⟨gb134, 1, none⟩ = some (.slice Ao32 t119.length co32) ∧ w'.cell? ⟨gb116, 0, none⟩ = some (.int .i64 a0_0) ∧ w'.cell? ⟨gb116, 1, none⟩ = some (.slice A0_1 l0_1.length c0_1)) (ds := []) (ba 5 0) (by kernel_rfl) rfl (by kernel_rfl) ⟨(blk_cell BK134.out 0).trans rfl, (blk_cell BK134.out 1).trans rfl, (blk_cell BK116.out 0).trans rfl, (blk_cell BK116.out 1).trans rfl⟩ (fun hHeld => ?_)
 generalize w33.drew = w36 at HO129 HO131 HO133 HO136 BK116 BK134 HB hHeld ⊢
 refine tw 0 (some 35) (ba 5 1) hHeld ?_
 refine tw 1 (some 36) (ba 5 3) hHeld ?_
 refine one_ (i := 2) (N := some 37) (ba 5 7) rfl rfl (by kernel_rfl) (by decide) (fun K hK => ?_)
 refine goes_ Try.func15 (by kernel_rfl) rfl #[.agg #[.int .i64 a0_0, .slice A0_1 l0_1.length c0_1]] (by rfl) rfl rfl qm ?_
 with_reducible refine (laws_toNet.calls k a0_0 _ _ l0_1 t112 t123 _ ?side1 ?side2 A15.out).mono ?_
 (case side1 => exact qc (Kd.C_below HR0_1.out HB.out))
 (case side2 => exact HC0_1.out)
 rintro e w37 ⟨v137, rfl, ho0, hb⟩
 refine ⟨_, rfl, ?_⟩
 replace HO131 := q0 (Kd.S_below (qv HO131.out) hb)
 replace HO136 := q0 (Kd.S_below (qv HO136.out) hb)
 have HO138 := q0 (Kd.R_lower (Kd.R_new' (Kd.R_new' ho0 (Kd.R_lt (qr HO129.out))) (Kd.R_lt (qr HO133.out))) (below_size (qb HB.out)))
 replace HO129 := q0 (Kd.R_elder' (qr HO129.out) (Kd.R_base ho0) hb)
 replace HO133 := q0 (Kd.R_elder' (qr HO133.out) (Kd.R_base ho0) hb)
 replace BK116 := q0 (kb BK116.out hb)
 replace BK134 := q0 (kb BK134.out hb)
 replace HB := q0 (below_step (qb HB.out) hb)
 (try clear hb)
 (try clear hb2)
 (try clear hk)
 (try clear hi)
 (try clear ho0)
 obtain ⟨Ao38, co38, eo38⟩ := Kd.R_slice HO138.out
 (first | subst eo38 | (injection eo38 with f1_ f2_ f3_; have f4_ := f1_.symm; have f5_ := f3_.symm; clear f1_ f2_ f3_; subst f4_; subst f5_))
 refine hK.out _ _ ⟨(blk_cell BK134.out 0).trans rfl, (blk_cell BK134.out 1).trans rfl, (blk_cell BK116.out 0).trans rfl, (blk_cell BK116.out 1).trans rfl⟩ (fun hHeld => ?_)
 clear hK K
 refine nu 37 ?_
 refine one_ (i := 3) (N := some 38) (ba 5 15) rfl rfl (by kernel_rfl) (by decide) (fun K hK => ?_)
 refine goes_ Try.func18 (by kernel_rfl) rfl #[.agg #[.int .i64 t109, .slice Ao32 t119.length co32], .agg #[.int .i64 t112, .slice Ao38 t123.length co38]] (by rfl) rfl rfl qm ?_
 with_reducible refine (laws_eqNet.calls k t109 _ _ t119 t112 _ _ t123 true _ ?side1 ?side2 ?side3 ?side4 A16.out).mono ?_
 (case side1 => exact qc (Kd.R_reads' HO133.out).2.2)
 (case side2 => exact (Kd.R_reads' HO133.out).2.1)
 (case side3 => exact qc (Kd.R_reads' HO138.out).2.2)
 (case side4 => exact (Kd.R_reads' HO138.out).2.1)
 rintro e w39 ⟨rfl, hb⟩
 refine ⟨_, rfl, ?_⟩
 replace HO129 := q0 (Kd.R_below (qr HO129.out) hb)
 replace HO131 := q0 (Kd.S_below (qv HO131.out) hb)
 replace HO133 := q0 (Kd.R_below (qr HO133.out) hb)
 replace HO136 := q0 (Kd.S_below (qv HO136.out) hb)
 replace HO138 := q0 (Kd.R_below (qr HO138.out) hb)
 replace BK116 := q0 (kb BK116.out hb)
 replace BK134 := q0 (kb BK134.out hb)
 replace HB := q0 (below_step (qb HB.out) hb)
 (try clear hb)
 (try clear hb2)
 (try clear hk)
 (try clear hi)
 refine hK.out _ _ ⟨(blk_cell BK134.out 0).trans rfl, (blk_cell BK134.out 1).trans rfl, (blk_cell BK116.out 0).trans rfl, (blk_cell BK116.out 1).trans rfl⟩ (fun hHeld => ?_)
 clear hK K
 refine nu 38 ?_
 refine pw 4 (some 39) (ba 5 31) ?_
 refine done_ (by kernel_rfl) ?_
 have hcz40_0 : w39.cell? ⟨gb134, 0, none⟩ = some (.int .i64 t109) := (blk_cell BK134.out 0).trans rfl
 have hcz40_1 : w39.cell? ⟨gb134, 1, none⟩ = some (.slice Ao32 t119.length co32) := (blk_cell BK134.out 1).trans rfl
 have hfz40_0 := blk_frozen BK134.out 0
 have hfz40_1 := blk_frozen BK134.out 1
 go_upto_region 14 with (first | ((with_reducible refine gate_callee (f := 19) rfl ?_); refine gl 42 Try.func19 #[.agg #[.int .i64 t109, .slice Ao32 t119.length co32], .int .i64 1] ?_; (with_reducible refine (laws_markNet.calls k t109 (fun k_ => some k_ = (.slice Ao32 t119.length co32 : Value).ownBlock) (.slice Ao32 t119.length co32) t119 1 t114 t126 w _ ?side1 ?side2 A18.out).mono ?_); (case side1 => exact qb HB.out); (case side2 => exact Kd.R_tight rfl HO133.out); rintro e w41 ⟨rfl, hy0, hb, hkp⟩; refine ⟨_, rfl, ?_⟩; replace BK116 := q0 (blk_kept (qk BK116.out) hkp (fun hs_ => (fun e_ => (Kd.R_ne HO133.out BK116.out (by decide)) e_) hs_)); replace HO129 := q0 (Kd.R_mono (ok' := fun k_ => some k_ ≠ (.slice Ao32 t119.length co32 : Value).ownBlock ∧ some k_ ≠ (.slice Ao38 t123.length co38 : Value).ownBlock) (Kd.R_keptB (HO129.out) hkp (fun k_ hk_ hs_ => (hk_.1.2) hs_)) (fun k_ hk_ => ⟨hk_.1.1.2, hk_.1.2⟩)); replace HO131 := q0 (Kd.S_mono (ok' := fun k_ => some k_ ≠ (.slice Ao34 t110.length co34 : Value).ownBlock ∧ k_ < M_) (Kd.S_keptB ((Kd.S_apart' HO131.out (Kd.R_typed HO133.out) (by decide))) hkp (fun k_ hk_ hs_ => (hk_.2) hs_)) (fun k_ hk_ => ⟨hk_.1.1.2, hk_.1.1.1.2⟩)); replace BK134 := q0 (blk_kept (qk BK134.out) hkp (fun hs_ => (fun e_ => (Kd.R_ne HO133.out BK134.out (by decide)) e_) hs_)); replace HO136 := q0 (Kd.S_mono (ok' := fun k_ => some k_ ≠ (.slice Ao35 t108.length co35 : Value).ownBlock ∧ M_ ≤ k_) (Kd.S_keptB ((Kd.S_apart' HO136.out (Kd.R_typed HO133.out) (by decide))) hkp (fun k_ hk_ hs_ => (hk_.2) hs_)) (fun k_ hk_ => ⟨hk_.1.1.2, hk_.1.1.1.2⟩)); replace HO133 := q0 (Kd.R_reok rfl hy0 (fun k_ e_ => HO133.out.1 k_ e_)); replace HO138 := q0 (Kd.R_mono (ok' := fun k_ => some k_ ≠ (.slice Ao25 t117.length co25 : Value).ownBlock ∧ some k_ ≠ (.slice Ao32 t119.length co32 : Value).ownBlock) (Kd.R_keptB (HO138.out) hkp (fun k_ hk_ hs_ => (hk_.2) hs_)) (fun k_ hk_ => ⟨hk_.1.1.2, hk_.1.2⟩)); replace HB := q0 (hb); (try clear hb); (try clear hkp); (try clear hy0)))
 (try simp only [Act.put, List.setIfInBounds_toArray, List.set_cons_zero, List.set_cons_succ])
 go_cut [50] (fun v50 wc => ∃ (kq : Nat) (x50_18 : Bool), v50 = .bool x50_18 ∧ Aside0 (laws_FnExactWayAll.j0 kq a1 a2 t108 t110 x50_18 a0_0 l0_1 = some r) ∧ Aside0 (kq ≤ k) ∧ Aside0 (Kd.S (Kd.slice 3 (Kd.int .i64)) 26 wc w.heap.size (fun k_ => some k_ ≠ ((.slice Ao34 t110.length co34) : Value).ownBlock ∧ k_ < M_) (.slice Ao35 t108.length co35) t108) ∧ Aside0 (Kd.S (Kd.slice 3 (Kd.int .i64)) 26 wc w.heap.size (fun k_ => some k_ ≠ ((.slice Ao35 t108.length co35) : Value).ownBlock ∧ M_ ≤ k_) (.slice Ao34 t110.length co34) t110) ∧ Aside0 (Kd.R kTie 74 wc w.heap.size (fun _ => True) (.slice Ao32 t119.length co32) t126) ∧ Aside0 (wc.heap[gb116]? = some (.cells #[.int .i64 a0_0, (.slice A0_1 l0_1.length c0_1)] 24 (0, 0))) ∧ Aside0 (wc.heap[gb134]? = some (.cells #[.int .i64 t109, (.slice Ao32 t119.length co32)] 31 (0, 0))) ∧ Aside0 (Below w.heap.size w wc))
 case first =>
   have H := HC19.out
   clear HC19
   by_cases c42 : t114 < 0
   · rw [if_pos c42] at H
     have c42b0 : decide (t114 < 0) = true := decide_eq_true c42
     clear c42
     (first | rw [c42b0] | (simp only [i64_w, i32_w]; rw [c42b0]) | skip)
     have H' := Aside0.mk H
     clear H
     go_wp2
     go_meet
     case rel => exact ⟨_, (true), qs, H', ⟨by first | omega | exact Nat.le_refl _⟩, ⟨qv HO131.out⟩, ⟨qv HO136.out⟩, ⟨by (with_reducible repeat (first | apply Kd.R_alloc | apply Kd.R_drewN | apply Kd.R_drew)); exact Kd.R_mono HO133.out (fun _ hk => trivial)⟩, ⟨qk BK116.out⟩, ⟨qk BK134.out⟩, ⟨qb HB.out⟩⟩
   rw [if_neg c42] at H
   have c42b0 : decide (t114 < 0) = false := decide_eq_false c42
   clear c42
   (first | rw [c42b0] | (simp only [i64_w, i32_w]; rw [c42b0]) | skip)
   replace H := Option.bind_eq_some_iff.mp H
   obtain ⟨t115, A115, H⟩ := H
   have A43 := Aside0.mk A115
   clear A115
   have H' := Aside0.mk H
   clear H
   go_wp2_with (first | (go_at_call 24; (with_reducible refine (laws_eqIntSS.calls k _ _ t110 _ _ t108 t115 _ ?side1 ?side2 ?side3 ?side4 A43.out).mono ?_); (case side1 => exact qc (Kd.S_reads' HO136.out).2.2); (case side2 => exact (Kd.S_reads' HO136.out).2.1); (case side3 => exact qc (Kd.S_reads' HO131.out).2.2); (case side4 => exact (Kd.S_reads' HO131.out).2.1); rintro e w' ⟨rfl, ⟨nd, rfl⟩⟩))
   go_meet
   case rel => exact ⟨_, (!t115), qs, H', ⟨by first | omega | exact Nat.le_refl _⟩, ⟨qv HO131.out⟩, ⟨qv HO136.out⟩, ⟨by (with_reducible repeat (first | apply Kd.R_alloc | apply Kd.R_drewN | apply Kd.R_drew)); exact Kd.R_mono HO133.out (fun _ hk => trivial)⟩, ⟨qk BK116.out⟩, ⟨qk BK134.out⟩, ⟨qb HB.out⟩⟩
 clear HC19
 try clear c1
 try clear c2
 try clear p2
 try clear c3
 try clear c4
 try clear c5
 try clear c5b0
 try clear c13
 try clear c14
 try clear c15
 try clear c17
 try clear c18
 try clear c19
 try clear c22
 try clear c23
 try clear c24
 try clear c30
 try clear c42
 try clear c42b0
 try clear hcz21_0
 try clear hcz21_1
 try clear hcz23_0
 try clear hcz23_1
 try clear hcz27_0
 try clear hcz27_1
 try clear hcz31_0
 try clear hcz31_1
 try clear hcz40_0
 try clear hcz40_1
 try clear hcz7_0
 try clear hcz7_1
 try clear hfz21_0
 try clear hfz21_1
 try clear hfz23_0
 try clear hfz23_1
 try clear hfz27_0
 try clear hfz27_1
 try clear hfz31_0
 try clear hfz31_1
 try clear hfz40_0
 try clear hfz40_1
 try clear hfz7_0
 try clear hfz7_1
 obtain ⟨kq, x50_18, rfl, HA, HJ18, HO_8, HO_10, HO_110001, BK116, BK134, HB⟩ := hcut
 have hl110001_18 := (Kd.R_reads' HO_110001.out).1
 rw [hl110001_18] at HO_110001
 (try simp only [hl110001_18])
 (try simp only [hl110001_18] at BK116)
 (try simp only [hl110001_18] at BK134)
 (try simp only [hl110001_18] at HO_8)
 (try simp only [hl110001_18] at HO_10)
 rcases kq with _ | kj18
 · exact absurd HA.out (by simp [laws_FnExactWayAll.j0])
 have H := HA.out
 clear HA
 simp only [laws_FnExactWayAll.j0] at H
 by_cases c44 : x50_18 = true
 · subst c44
   rw [if_pos rfl] at H
   obtain rfl := Option.some.inj H
   go_wp2
   go_ret
   exact ⟨qe, qb HB.out⟩
 replace c44 := Bool.eq_false_iff.mpr c44
 subst c44
 rw [if_neg nf] at H
 replace H := Option.bind_eq_some_iff.mp H
 obtain ⟨⟨t101, t201⟩, A139, H⟩ := H
 have A45 := Aside0.mk A139
 clear A139
 replace H := Option.bind_eq_some_iff.mp H
 obtain ⟨t102, A140, H⟩ := H
 have A46 := Aside0.mk A140
 clear A140
 by_cases c47 : t102 < 0
 · rw [if_pos c47] at H
   have c47b0 : decide (t102 < 0) = true := decide_eq_true c47
   clear c47
   obtain rfl := Option.some.inj H
   go_wp2_with (first | ((with_reducible refine gate_callee (f := 25) rfl ?_); refine gl 53 Try.func25 #[.slice Ao34 t110.length co34, .int .i64 1] ?_; (with_reducible refine (laws_markIntSS.calls kj18 (fun k_ => (((some k_ ≠ (.slice Ao35 t108.length co35 : Value).ownBlock ∧ M_ ≤ k_) ∧ k_ ≠ gb116) ∧ k_ ≠ gb134) ∧ some k_ ≠ (.slice Ao32 t126.length co32 : Value).ownBlock) (.slice Ao34 t110.length co34) t110 1 t101 t201 w _ ?side1 ?side2 A45.out).mono ?_); (case side1 => exact qb HB.out); (case side2 => exact Kd.S_apart' (Kd.S_types (Kd.S_types HO_10.out BK116.out (by decide)) BK134.out (by decide)) (Kd.R_typed HO_110001.out) (by decide)); rintro e wm ⟨rfl, ho, hb, hkp⟩; refine ⟨_, rfl, ?_⟩; replace BK116 := q0 (blk_kept (qk BK116.out) hkp (fun hs_ => hs_.1.1.2 rfl)); replace BK134 := q0 (blk_kept (qk BK134.out) hkp (fun hs_ => hs_.1.2 rfl)); replace HO_110001 := q0 (Kd.R_mono (ok' := fun _ => True) (Kd.R_keptB (Kd.R_tight rfl HO_110001.out) hkp (fun k_ hk_ hs_ => hs_.2 hk_)) (fun _ _ => trivial)); replace HO_8 := q0 (Kd.S_mono (ok' := fun k_ => some k_ ≠ (.slice Ao34 t110.length co34 : Value).ownBlock) (Kd.S_keptB HO_8.out hkp (fun k_ hk_ hs_ => absurd hs_.1.1.1.2 (Nat.not_le.2 hk_.2))) (fun k_ hk_ => hk_.1.1)); replace HO_10 := q0 (Kd.S_mono (ok' := fun k_ => some k_ ≠ (.slice Ao35 t108.length co35 : Value).ownBlock) ho (fun k_ hk_ => hk_.1.1.1.1)); replace HB := q0 hb; clear hkp hb ho; have hl_ := (Kd.S_reads' HO_10.out).1; (try rw [hl_] at HO_8); rw [hl_] at HO_10; (try rw [hl_])) | ((with_reducible refine gate_callee (f := 26) rfl ?_); refine gl 56 Try.func26 #[.slice Ao34 t201.length co34, .int .i64 1] ?_; (with_reducible refine (laws_heldIntSS.calls kj18 _ _ t201 1 t102 _ ?side1 ?side2 A46.out).mono ?_); (case side1 => exact qc (Kd.S_reads' HO_10.out).2.2); (case side2 => exact (Kd.S_reads' HO_10.out).2.1); rintro e w' ⟨rfl, ⟨nd, rfl⟩⟩; refine ⟨_, rfl, ?_⟩))
   go_ret
   exact ⟨qe, qb HB.out⟩
 rw [if_neg c47] at H
 have c47b0 : decide (t102 < 0) = false := decide_eq_false c47
 clear c47
 by_cases c48 : t102 = t101
 rotate_left
 · rw [if_neg c48] at H
   have c48b0 : (t102 == t101) = false := beq_eq_false_iff_ne.mpr c48
   have c48b1 : (t102 != t101) = true := bne_iff_ne.mpr c48
   obtain rfl := Option.some.inj H
   go_wp2_with (first | ((with_reducible refine gate_callee (f := 25) rfl ?_); refine gl 53 Try.func25 #[.slice Ao34 t110.length co34, .int .i64 1] ?_; (with_reducible refine (laws_markIntSS.calls kj18 (fun k_ => (((some k_ ≠ (.slice Ao35 t108.length co35 : Value).ownBlock ∧ M_ ≤ k_) ∧ k_ ≠ gb116) ∧ k_ ≠ gb134) ∧ some k_ ≠ (.slice Ao32 t126.length co32 : Value).ownBlock) (.slice Ao34 t110.length co34) t110 1 t101 t201 w _ ?side1 ?side2 A45.out).mono ?_); (case side1 => exact qb HB.out); (case side2 => exact Kd.S_apart' (Kd.S_types (Kd.S_types HO_10.out BK116.out (by decide)) BK134.out (by decide)) (Kd.R_typed HO_110001.out) (by decide)); rintro e wm ⟨rfl, ho, hb, hkp⟩; refine ⟨_, rfl, ?_⟩; replace BK116 := q0 (blk_kept (qk BK116.out) hkp (fun hs_ => hs_.1.1.2 rfl)); replace BK134 := q0 (blk_kept (qk BK134.out) hkp (fun hs_ => hs_.1.2 rfl)); replace HO_110001 := q0 (Kd.R_mono (ok' := fun _ => True) (Kd.R_keptB (Kd.R_tight rfl HO_110001.out) hkp (fun k_ hk_ hs_ => hs_.2 hk_)) (fun _ _ => trivial)); replace HO_8 := q0 (Kd.S_mono (ok' := fun k_ => some k_ ≠ (.slice Ao34 t110.length co34 : Value).ownBlock) (Kd.S_keptB HO_8.out hkp (fun k_ hk_ hs_ => absurd hs_.1.1.1.2 (Nat.not_le.2 hk_.2))) (fun k_ hk_ => hk_.1.1)); replace HO_10 := q0 (Kd.S_mono (ok' := fun k_ => some k_ ≠ (.slice Ao35 t108.length co35 : Value).ownBlock) ho (fun k_ hk_ => hk_.1.1.1.1)); replace HB := q0 hb; clear hkp hb ho; have hl_ := (Kd.S_reads' HO_10.out).1; (try rw [hl_] at HO_8); rw [hl_] at HO_10; (try rw [hl_])) | ((with_reducible refine gate_callee (f := 26) rfl ?_); refine gl 56 Try.func26 #[.slice Ao34 t201.length co34, .int .i64 1] ?_; (with_reducible refine (laws_heldIntSS.calls kj18 _ _ t201 1 t102 _ ?side1 ?side2 A46.out).mono ?_); (case side1 => exact qc (Kd.S_reads' HO_10.out).2.2); (case side2 => exact (Kd.S_reads' HO_10.out).2.1); rintro e w' ⟨rfl, ⟨nd, rfl⟩⟩; refine ⟨_, rfl, ?_⟩))
   go_ret
   exact ⟨qe, qb HB.out⟩
 rw [if_pos c48] at H
 have c48b0 : (t102 == t101) = true := beq_iff_eq.mpr c48
 have c48b1 : (t102 != t101) = false := bne_eq_false_iff_eq.mpr c48
 clear c48
 replace H := Option.bind_eq_some_iff.mp H
 obtain ⟨⟨t103, t141⟩, A142, H⟩ := H
 have A49 := Aside0.mk A142
 clear A142
 replace H := Option.bind_eq_some_iff.mp H
 obtain ⟨t104, A143, H⟩ := H
 have A50 := Aside0.mk A143
 clear A143
 replace H := Option.bind_eq_some_iff.mp H
 obtain ⟨t105, A144, H⟩ := H
 have A51 := Aside0.mk A144
 clear A144
 by_cases c52 : t105 = true
 rotate_left
 · replace c52 := Bool.eq_false_iff.mpr c52
   subst c52
   rw [if_neg nf] at H
   obtain rfl := Option.some.inj H
   go_wp2_with (first | ((with_reducible refine gate_callee (f := 25) rfl ?_); refine gl 53 Try.func25 #[.slice Ao34 t110.length co34, .int .i64 1] ?_; (with_reducible refine (laws_markIntSS.calls kj18 (fun k_ => (((some k_ ≠ (.slice Ao35 t108.length co35 : Value).ownBlock ∧ M_ ≤ k_) ∧ k_ ≠ gb116) ∧ k_ ≠ gb134) ∧ some k_ ≠ (.slice Ao32 t126.length co32 : Value).ownBlock) (.slice Ao34 t110.length co34) t110 1 t101 t201 w _ ?side1 ?side2 A45.out).mono ?_); (case side1 => exact qb HB.out); (case side2 => exact Kd.S_apart' (Kd.S_types (Kd.S_types HO_10.out BK116.out (by decide)) BK134.out (by decide)) (Kd.R_typed HO_110001.out) (by decide)); rintro e wm ⟨rfl, ho, hb, hkp⟩; refine ⟨_, rfl, ?_⟩; replace BK116 := q0 (blk_kept (qk BK116.out) hkp (fun hs_ => hs_.1.1.2 rfl)); replace BK134 := q0 (blk_kept (qk BK134.out) hkp (fun hs_ => hs_.1.2 rfl)); replace HO_110001 := q0 (Kd.R_mono (ok' := fun _ => True) (Kd.R_keptB (Kd.R_tight rfl HO_110001.out) hkp (fun k_ hk_ hs_ => hs_.2 hk_)) (fun _ _ => trivial)); replace HO_8 := q0 (Kd.S_mono (ok' := fun k_ => some k_ ≠ (.slice Ao34 t110.length co34 : Value).ownBlock) (Kd.S_keptB HO_8.out hkp (fun k_ hk_ hs_ => absurd hs_.1.1.1.2 (Nat.not_le.2 hk_.2))) (fun k_ hk_ => hk_.1.1)); replace HO_10 := q0 (Kd.S_mono (ok' := fun k_ => some k_ ≠ (.slice Ao35 t108.length co35 : Value).ownBlock) ho (fun k_ hk_ => hk_.1.1.1.1)); replace HB := q0 hb; clear hkp hb ho; have hl_ := (Kd.S_reads' HO_10.out).1; (try rw [hl_] at HO_8); rw [hl_] at HO_10; (try rw [hl_])) | ((with_reducible refine gate_callee (f := 26) rfl ?_); refine gl 56 Try.func26 #[.slice Ao34 t201.length co34, .int .i64 1] ?_; (with_reducible refine (laws_heldIntSS.calls kj18 _ _ t201 1 t102 _ ?side1 ?side2 A46.out).mono ?_); (case side1 => exact qc (Kd.S_reads' HO_10.out).2.2); (case side2 => exact (Kd.S_reads' HO_10.out).2.1); rintro e w' ⟨rfl, ⟨nd, rfl⟩⟩; refine ⟨_, rfl, ?_⟩; have hnb74 := NB116_134.out; have hnc74 := NB134_116.out; have hcz75_0 : wm.cell? ⟨gb116, 0, none⟩ = some (.int .i64 a0_0) := (blk_cell BK116.out 0).trans rfl; have hcz75_1 : wm.cell? ⟨gb116, 1, none⟩ = some (.slice A0_1 l0_1.length c0_1) := (blk_cell BK116.out 1).trans rfl; have hfz75_0 := blk_frozen BK116.out 0; have hfz75_1 := blk_frozen BK116.out 1) | ((with_reducible refine gate_callee (f := 15) rfl ?_); refine gl 63 Try.func15 #[.agg #[.int .i64 a0_0, .slice A0_1 l0_1.length c0_1]] ?_; (with_reducible refine (laws_toNet.calls kj18 a0_0 _ _ l0_1 t103 t141 _ ?side1 ?side2 A49.out).mono ?_); (case side1 => exact qc (Kd.C_below HR0_1.out (qb HB.out))); (case side2 => exact HC0_1.out); rintro e w76 ⟨v146, rfl, ho0, hb⟩; refine ⟨_, rfl, ?_⟩; replace HO_8 := q0 (Kd.S_below (qv HO_8.out) hb); replace HO_10 := q0 (Kd.S_below (qv HO_10.out) hb); have HO147 := q0 (Kd.R_lower (Kd.R_new' ho0 (Kd.R_lt (qr HO_110001.out))) (below_size (qb HB.out))); replace HO_110001 := q0 (Kd.R_elder' (qr HO_110001.out) (Kd.R_base ho0) hb); replace BK116 := q0 (kb BK116.out hb); replace BK134 := q0 (kb BK134.out hb); replace HB := q0 (below_step (qb HB.out) hb); (try clear hb); (try clear hb2); (try clear hk); (try clear hi); (try clear ho0); obtain ⟨Ao77, co77, eo77⟩ := Kd.R_slice HO147.out; subst eo77) | ((with_reducible refine gate_callee (f := 23) rfl ?_); refine gl 66 Try.func23 #[.agg #[.int .i64 t103, .slice Ao77 t141.length co77], .int .i64 a1, .int .i64 a2] ?_; (with_reducible refine (impl_WayAll.calls kj18 t103 _ _ t141 a1 a2 t104 _ ?side1 ?side2 A50.out).mono ?_); (case side1 => exact qc (Kd.R_reads' HO147.out).2.2); (case side2 => exact (Kd.R_reads' HO147.out).2.1); rintro e w78 ⟨v148, rfl, ho0, hb⟩; refine ⟨_, rfl, ?_⟩; replace HO_110001 := q0 (Kd.R_below (qr HO_110001.out) hb); replace HO147 := q0 (Kd.R_below (qr HO147.out) hb); have HO149 := q0 (Kd.S_lower (Kd.S_new' (Kd.S_new' ho0 (Kd.S_lt (qv HO_8.out))) (Kd.S_lt (qv HO_10.out))) (below_size (qb HB.out))); replace HO_8 := q0 (Kd.S_elder' (qv HO_8.out) (Kd.S_base ho0) hb); replace HO_10 := q0 (Kd.S_elder' (qv HO_10.out) (Kd.S_base ho0) hb); replace BK116 := q0 (kb BK116.out hb); replace BK134 := q0 (kb BK134.out hb); replace HB := q0 (below_step (qb HB.out) hb); (try clear hb); (try clear hb2); (try clear hk); (try clear hi); (try clear ho0); obtain ⟨Ao79, co79, eo79⟩ := Kd.S_slice HO149.out; subst eo79) | ((with_reducible refine gate_callee (f := 24) rfl ?_); refine gl 69 Try.func24 #[.slice Ao79 t104.length co79, .slice Ao35 t108.length co35] ?_; (with_reducible refine (laws_eqIntSS.calls kj18 _ _ t104 _ _ t108 false _ ?side1 ?side2 ?side3 ?side4 A51.out).mono ?_); (case side1 => exact qc (Kd.S_reads' HO149.out).2.2); (case side2 => exact (Kd.S_reads' HO149.out).2.1); (case side3 => exact qc (Kd.S_reads' HO_8.out).2.2); (case side4 => exact (Kd.S_reads' HO_8.out).2.1); rintro e w' ⟨rfl, ⟨nd, rfl⟩⟩; refine ⟨_, rfl, ?_⟩))
   go_ret
   exact ⟨qe, qb HB.out⟩
 subst c52
 rw [if_pos rfl] at H
 replace H := Option.bind_eq_some_iff.mp H
 obtain ⟨t106, A145, H⟩ := H
 have A53 := Aside0.mk A145
 clear A145
 by_cases c54 : t106 < 0
 · rw [if_pos c54] at H
   have c54b0 : decide (t106 < 0) = true := decide_eq_true c54
   clear c54
   obtain rfl := Option.some.inj H
   go_wp2_with (first | ((with_reducible refine gate_callee (f := 25) rfl ?_); refine gl 53 Try.func25 #[.slice Ao34 t110.length co34, .int .i64 1] ?_; (with_reducible refine (laws_markIntSS.calls kj18 (fun k_ => (((some k_ ≠ (.slice Ao35 t108.length co35 : Value).ownBlock ∧ M_ ≤ k_) ∧ k_ ≠ gb116) ∧ k_ ≠ gb134) ∧ some k_ ≠ (.slice Ao32 t126.length co32 : Value).ownBlock) (.slice Ao34 t110.length co34) t110 1 t101 t201 w _ ?side1 ?side2 A45.out).mono ?_); (case side1 => exact qb HB.out); (case side2 => exact Kd.S_apart' (Kd.S_types (Kd.S_types HO_10.out BK116.out (by decide)) BK134.out (by decide)) (Kd.R_typed HO_110001.out) (by decide)); rintro e wm ⟨rfl, ho, hb, hkp⟩; refine ⟨_, rfl, ?_⟩; replace BK116 := q0 (blk_kept (qk BK116.out) hkp (fun hs_ => hs_.1.1.2 rfl)); replace BK134 := q0 (blk_kept (qk BK134.out) hkp (fun hs_ => hs_.1.2 rfl)); replace HO_110001 := q0 (Kd.R_mono (ok' := fun _ => True) (Kd.R_keptB (Kd.R_tight rfl HO_110001.out) hkp (fun k_ hk_ hs_ => hs_.2 hk_)) (fun _ _ => trivial)); replace HO_8 := q0 (Kd.S_mono (ok' := fun k_ => some k_ ≠ (.slice Ao34 t110.length co34 : Value).ownBlock) (Kd.S_keptB HO_8.out hkp (fun k_ hk_ hs_ => absurd hs_.1.1.1.2 (Nat.not_le.2 hk_.2))) (fun k_ hk_ => hk_.1.1)); replace HO_10 := q0 (Kd.S_mono (ok' := fun k_ => some k_ ≠ (.slice Ao35 t108.length co35 : Value).ownBlock) ho (fun k_ hk_ => hk_.1.1.1.1)); replace HB := q0 hb; clear hkp hb ho; have hl_ := (Kd.S_reads' HO_10.out).1; (try rw [hl_] at HO_8); rw [hl_] at HO_10; (try rw [hl_])) | ((with_reducible refine gate_callee (f := 26) rfl ?_); refine gl 56 Try.func26 #[.slice Ao34 t201.length co34, .int .i64 1] ?_; (with_reducible refine (laws_heldIntSS.calls kj18 _ _ t201 1 t102 _ ?side1 ?side2 A46.out).mono ?_); (case side1 => exact qc (Kd.S_reads' HO_10.out).2.2); (case side2 => exact (Kd.S_reads' HO_10.out).2.1); rintro e w' ⟨rfl, ⟨nd, rfl⟩⟩; refine ⟨_, rfl, ?_⟩; have hnb55 := NB116_134.out; have hnc55 := NB134_116.out; have hcz56_0 : wm.cell? ⟨gb116, 0, none⟩ = some (.int .i64 a0_0) := (blk_cell BK116.out 0).trans rfl; have hcz56_1 : wm.cell? ⟨gb116, 1, none⟩ = some (.slice A0_1 l0_1.length c0_1) := (blk_cell BK116.out 1).trans rfl; have hfz56_0 := blk_frozen BK116.out 0; have hfz56_1 := blk_frozen BK116.out 1) | ((with_reducible refine gate_callee (f := 15) rfl ?_); refine gl 63 Try.func15 #[.agg #[.int .i64 a0_0, .slice A0_1 l0_1.length c0_1]] ?_; (with_reducible refine (laws_toNet.calls kj18 a0_0 _ _ l0_1 t103 t141 _ ?side1 ?side2 A49.out).mono ?_); (case side1 => exact qc (Kd.C_below HR0_1.out (qb HB.out))); (case side2 => exact HC0_1.out); rintro e w57 ⟨v146, rfl, ho0, hb⟩; refine ⟨_, rfl, ?_⟩; replace HO_8 := q0 (Kd.S_below (qv HO_8.out) hb); replace HO_10 := q0 (Kd.S_below (qv HO_10.out) hb); have HO147 := q0 (Kd.R_lower (Kd.R_new' ho0 (Kd.R_lt (qr HO_110001.out))) (below_size (qb HB.out))); replace HO_110001 := q0 (Kd.R_elder' (qr HO_110001.out) (Kd.R_base ho0) hb); replace BK116 := q0 (kb BK116.out hb); replace BK134 := q0 (kb BK134.out hb); replace HB := q0 (below_step (qb HB.out) hb); (try clear hb); (try clear hb2); (try clear hk); (try clear hi); (try clear ho0); obtain ⟨Ao58, co58, eo58⟩ := Kd.R_slice HO147.out; subst eo58) | ((with_reducible refine gate_callee (f := 23) rfl ?_); refine gl 66 Try.func23 #[.agg #[.int .i64 t103, .slice Ao58 t141.length co58], .int .i64 a1, .int .i64 a2] ?_; (with_reducible refine (impl_WayAll.calls kj18 t103 _ _ t141 a1 a2 t104 _ ?side1 ?side2 A50.out).mono ?_); (case side1 => exact qc (Kd.R_reads' HO147.out).2.2); (case side2 => exact (Kd.R_reads' HO147.out).2.1); rintro e w59 ⟨v148, rfl, ho0, hb⟩; refine ⟨_, rfl, ?_⟩; replace HO_110001 := q0 (Kd.R_below (qr HO_110001.out) hb); replace HO147 := q0 (Kd.R_below (qr HO147.out) hb); have HO149 := q0 (Kd.S_lower (Kd.S_new' (Kd.S_new' ho0 (Kd.S_lt (qv HO_8.out))) (Kd.S_lt (qv HO_10.out))) (below_size (qb HB.out))); replace HO_8 := q0 (Kd.S_elder' (qv HO_8.out) (Kd.S_base ho0) hb); replace HO_10 := q0 (Kd.S_elder' (qv HO_10.out) (Kd.S_base ho0) hb); replace BK116 := q0 (kb BK116.out hb); replace BK134 := q0 (kb BK134.out hb); replace HB := q0 (below_step (qb HB.out) hb); (try clear hb); (try clear hb2); (try clear hk); (try clear hi); (try clear ho0); obtain ⟨Ao60, co60, eo60⟩ := Kd.S_slice HO149.out; subst eo60) | ((with_reducible refine gate_callee (f := 24) rfl ?_); refine gl 69 Try.func24 #[.slice Ao60 t104.length co60, .slice Ao35 t108.length co35] ?_; (with_reducible refine (laws_eqIntSS.calls kj18 _ _ t104 _ _ t108 true _ ?side1 ?side2 ?side3 ?side4 A51.out).mono ?_); (case side1 => exact qc (Kd.S_reads' HO149.out).2.2); (case side2 => exact (Kd.S_reads' HO149.out).2.1); (case side3 => exact qc (Kd.S_reads' HO_8.out).2.2); (case side4 => exact (Kd.S_reads' HO_8.out).2.1); rintro e w' ⟨rfl, ⟨nd, rfl⟩⟩; refine ⟨_, rfl, ?_⟩) | ((with_reducible refine gate_callee (f := 26) rfl ?_); refine gl 73 Try.func26 #[.slice Ao34 t201.length co34, .int .i64 1] ?_; (with_reducible refine (laws_heldIntSS.calls kj18 _ _ t201 1 t106 _ ?side1 ?side2 A53.out).mono ?_); (case side1 => exact qc (Kd.S_reads' HO_10.out).2.2); (case side2 => exact (Kd.S_reads' HO_10.out).2.1); rintro e w' ⟨rfl, ⟨nd, rfl⟩⟩; refine ⟨_, rfl, ?_⟩))
   go_ret
   exact ⟨qe, qb HB.out⟩
 rw [if_neg c54] at H
 have c54b0 : decide (t106 < 0) = false := decide_eq_false c54
 clear c54
 by_cases c61 : t106 = t101
 rotate_left
 · rw [if_neg c61] at H
   have c61b0 : (t106 == t101) = false := beq_eq_false_iff_ne.mpr c61
   have c61b1 : (t106 != t101) = true := bne_iff_ne.mpr c61
   obtain rfl := Option.some.inj H
   go_wp2_with (first | ((with_reducible refine gate_callee (f := 25) rfl ?_); refine gl 53 Try.func25 #[.slice Ao34 t110.length co34, .int .i64 1] ?_; (with_reducible refine (laws_markIntSS.calls kj18 (fun k_ => (((some k_ ≠ (.slice Ao35 t108.length co35 : Value).ownBlock ∧ M_ ≤ k_) ∧ k_ ≠ gb116) ∧ k_ ≠ gb134) ∧ some k_ ≠ (.slice Ao32 t126.length co32 : Value).ownBlock) (.slice Ao34 t110.length co34) t110 1 t101 t201 w _ ?side1 ?side2 A45.out).mono ?_); (case side1 => exact qb HB.out); (case side2 => exact Kd.S_apart' (Kd.S_types (Kd.S_types HO_10.out BK116.out (by decide)) BK134.out (by decide)) (Kd.R_typed HO_110001.out) (by decide)); rintro e wm ⟨rfl, ho, hb, hkp⟩; refine ⟨_, rfl, ?_⟩; replace BK116 := q0 (blk_kept (qk BK116.out) hkp (fun hs_ => hs_.1.1.2 rfl)); replace BK134 := q0 (blk_kept (qk BK134.out) hkp (fun hs_ => hs_.1.2 rfl)); replace HO_110001 := q0 (Kd.R_mono (ok' := fun _ => True) (Kd.R_keptB (Kd.R_tight rfl HO_110001.out) hkp (fun k_ hk_ hs_ => hs_.2 hk_)) (fun _ _ => trivial)); replace HO_8 := q0 (Kd.S_mono (ok' := fun k_ => some k_ ≠ (.slice Ao34 t110.length co34 : Value).ownBlock) (Kd.S_keptB HO_8.out hkp (fun k_ hk_ hs_ => absurd hs_.1.1.1.2 (Nat.not_le.2 hk_.2))) (fun k_ hk_ => hk_.1.1)); replace HO_10 := q0 (Kd.S_mono (ok' := fun k_ => some k_ ≠ (.slice Ao35 t108.length co35 : Value).ownBlock) ho (fun k_ hk_ => hk_.1.1.1.1)); replace HB := q0 hb; clear hkp hb ho; have hl_ := (Kd.S_reads' HO_10.out).1; (try rw [hl_] at HO_8); rw [hl_] at HO_10; (try rw [hl_])) | ((with_reducible refine gate_callee (f := 26) rfl ?_); refine gl 56 Try.func26 #[.slice Ao34 t201.length co34, .int .i64 1] ?_; (with_reducible refine (laws_heldIntSS.calls kj18 _ _ t201 1 t102 _ ?side1 ?side2 A46.out).mono ?_); (case side1 => exact qc (Kd.S_reads' HO_10.out).2.2); (case side2 => exact (Kd.S_reads' HO_10.out).2.1); rintro e w' ⟨rfl, ⟨nd, rfl⟩⟩; refine ⟨_, rfl, ?_⟩; have hnb68 := NB116_134.out; have hnc68 := NB134_116.out; have hcz69_0 : wm.cell? ⟨gb116, 0, none⟩ = some (.int .i64 a0_0) := (blk_cell BK116.out 0).trans rfl; have hcz69_1 : wm.cell? ⟨gb116, 1, none⟩ = some (.slice A0_1 l0_1.length c0_1) := (blk_cell BK116.out 1).trans rfl; have hfz69_0 := blk_frozen BK116.out 0; have hfz69_1 := blk_frozen BK116.out 1) | ((with_reducible refine gate_callee (f := 15) rfl ?_); refine gl 63 Try.func15 #[.agg #[.int .i64 a0_0, .slice A0_1 l0_1.length c0_1]] ?_; (with_reducible refine (laws_toNet.calls kj18 a0_0 _ _ l0_1 t103 t141 _ ?side1 ?side2 A49.out).mono ?_); (case side1 => exact qc (Kd.C_below HR0_1.out (qb HB.out))); (case side2 => exact HC0_1.out); rintro e w70 ⟨v146, rfl, ho0, hb⟩; refine ⟨_, rfl, ?_⟩; replace HO_8 := q0 (Kd.S_below (qv HO_8.out) hb); replace HO_10 := q0 (Kd.S_below (qv HO_10.out) hb); have HO147 := q0 (Kd.R_lower (Kd.R_new' ho0 (Kd.R_lt (qr HO_110001.out))) (below_size (qb HB.out))); replace HO_110001 := q0 (Kd.R_elder' (qr HO_110001.out) (Kd.R_base ho0) hb); replace BK116 := q0 (kb BK116.out hb); replace BK134 := q0 (kb BK134.out hb); replace HB := q0 (below_step (qb HB.out) hb); (try clear hb); (try clear hb2); (try clear hk); (try clear hi); (try clear ho0); obtain ⟨Ao71, co71, eo71⟩ := Kd.R_slice HO147.out; subst eo71) | ((with_reducible refine gate_callee (f := 23) rfl ?_); refine gl 66 Try.func23 #[.agg #[.int .i64 t103, .slice Ao71 t141.length co71], .int .i64 a1, .int .i64 a2] ?_; (with_reducible refine (impl_WayAll.calls kj18 t103 _ _ t141 a1 a2 t104 _ ?side1 ?side2 A50.out).mono ?_); (case side1 => exact qc (Kd.R_reads' HO147.out).2.2); (case side2 => exact (Kd.R_reads' HO147.out).2.1); rintro e w72 ⟨v148, rfl, ho0, hb⟩; refine ⟨_, rfl, ?_⟩; replace HO_110001 := q0 (Kd.R_below (qr HO_110001.out) hb); replace HO147 := q0 (Kd.R_below (qr HO147.out) hb); have HO149 := q0 (Kd.S_lower (Kd.S_new' (Kd.S_new' ho0 (Kd.S_lt (qv HO_8.out))) (Kd.S_lt (qv HO_10.out))) (below_size (qb HB.out))); replace HO_8 := q0 (Kd.S_elder' (qv HO_8.out) (Kd.S_base ho0) hb); replace HO_10 := q0 (Kd.S_elder' (qv HO_10.out) (Kd.S_base ho0) hb); replace BK116 := q0 (kb BK116.out hb); replace BK134 := q0 (kb BK134.out hb); replace HB := q0 (below_step (qb HB.out) hb); (try clear hb); (try clear hb2); (try clear hk); (try clear hi); (try clear ho0); obtain ⟨Ao73, co73, eo73⟩ := Kd.S_slice HO149.out; subst eo73) | ((with_reducible refine gate_callee (f := 24) rfl ?_); refine gl 69 Try.func24 #[.slice Ao73 t104.length co73, .slice Ao35 t108.length co35] ?_; (with_reducible refine (laws_eqIntSS.calls kj18 _ _ t104 _ _ t108 true _ ?side1 ?side2 ?side3 ?side4 A51.out).mono ?_); (case side1 => exact qc (Kd.S_reads' HO149.out).2.2); (case side2 => exact (Kd.S_reads' HO149.out).2.1); (case side3 => exact qc (Kd.S_reads' HO_8.out).2.2); (case side4 => exact (Kd.S_reads' HO_8.out).2.1); rintro e w' ⟨rfl, ⟨nd, rfl⟩⟩; refine ⟨_, rfl, ?_⟩) | ((with_reducible refine gate_callee (f := 26) rfl ?_); refine gl 73 Try.func26 #[.slice Ao34 t201.length co34, .int .i64 1] ?_; (with_reducible refine (laws_heldIntSS.calls kj18 _ _ t201 1 t106 _ ?side1 ?side2 A53.out).mono ?_); (case side1 => exact qc (Kd.S_reads' HO_10.out).2.2); (case side2 => exact (Kd.S_reads' HO_10.out).2.1); rintro e w' ⟨rfl, ⟨nd, rfl⟩⟩; refine ⟨_, rfl, ?_⟩))
   go_ret
   exact ⟨qe, qb HB.out⟩
 rw [if_pos c61] at H
 have c61b0 : (t106 == t101) = true := beq_iff_eq.mpr c61
 have c61b1 : (t106 != t101) = false := bne_eq_false_iff_eq.mpr c61
 clear c61
 obtain rfl := Option.some.inj H
 go_wp2_with (first | ((with_reducible refine gate_callee (f := 25) rfl ?_); refine gl 53 Try.func25 #[.slice Ao34 t110.length co34, .int .i64 1] ?_; (with_reducible refine (laws_markIntSS.calls kj18 (fun k_ => (((some k_ ≠ (.slice Ao35 t108.length co35 : Value).ownBlock ∧ M_ ≤ k_) ∧ k_ ≠ gb116) ∧ k_ ≠ gb134) ∧ some k_ ≠ (.slice Ao32 t126.length co32 : Value).ownBlock) (.slice Ao34 t110.length co34) t110 1 t101 t201 w _ ?side1 ?side2 A45.out).mono ?_); (case side1 => exact qb HB.out); (case side2 => exact Kd.S_apart' (Kd.S_types (Kd.S_types HO_10.out BK116.out (by decide)) BK134.out (by decide)) (Kd.R_typed HO_110001.out) (by decide)); rintro e wm ⟨rfl, ho, hb, hkp⟩; refine ⟨_, rfl, ?_⟩; replace BK116 := q0 (blk_kept (qk BK116.out) hkp (fun hs_ => hs_.1.1.2 rfl)); replace BK134 := q0 (blk_kept (qk BK134.out) hkp (fun hs_ => hs_.1.2 rfl)); replace HO_110001 := q0 (Kd.R_mono (ok' := fun _ => True) (Kd.R_keptB (Kd.R_tight rfl HO_110001.out) hkp (fun k_ hk_ hs_ => hs_.2 hk_)) (fun _ _ => trivial)); replace HO_8 := q0 (Kd.S_mono (ok' := fun k_ => some k_ ≠ (.slice Ao34 t110.length co34 : Value).ownBlock) (Kd.S_keptB HO_8.out hkp (fun k_ hk_ hs_ => absurd hs_.1.1.1.2 (Nat.not_le.2 hk_.2))) (fun k_ hk_ => hk_.1.1)); replace HO_10 := q0 (Kd.S_mono (ok' := fun k_ => some k_ ≠ (.slice Ao35 t108.length co35 : Value).ownBlock) ho (fun k_ hk_ => hk_.1.1.1.1)); replace HB := q0 hb; clear hkp hb ho; have hl_ := (Kd.S_reads' HO_10.out).1; (try rw [hl_] at HO_8); rw [hl_] at HO_10; (try rw [hl_])) | ((with_reducible refine gate_callee (f := 26) rfl ?_); refine gl 56 Try.func26 #[.slice Ao34 t201.length co34, .int .i64 1] ?_; (with_reducible refine (laws_heldIntSS.calls kj18 _ _ t201 1 t102 _ ?side1 ?side2 A46.out).mono ?_); (case side1 => exact qc (Kd.S_reads' HO_10.out).2.2); (case side2 => exact (Kd.S_reads' HO_10.out).2.1); rintro e w' ⟨rfl, ⟨nd, rfl⟩⟩; refine ⟨_, rfl, ?_⟩; have hnb62 := NB116_134.out; have hnc62 := NB134_116.out; have hcz63_0 : wm.cell? ⟨gb116, 0, none⟩ = some (.int .i64 a0_0) := (blk_cell BK116.out 0).trans rfl; have hcz63_1 : wm.cell? ⟨gb116, 1, none⟩ = some (.slice A0_1 l0_1.length c0_1) := (blk_cell BK116.out 1).trans rfl; have hfz63_0 := blk_frozen BK116.out 0; have hfz63_1 := blk_frozen BK116.out 1) | ((with_reducible refine gate_callee (f := 15) rfl ?_); refine gl 63 Try.func15 #[.agg #[.int .i64 a0_0, .slice A0_1 l0_1.length c0_1]] ?_; (with_reducible refine (laws_toNet.calls kj18 a0_0 _ _ l0_1 t103 t141 _ ?side1 ?side2 A49.out).mono ?_); (case side1 => exact qc (Kd.C_below HR0_1.out (qb HB.out))); (case side2 => exact HC0_1.out); rintro e w64 ⟨v146, rfl, ho0, hb⟩; refine ⟨_, rfl, ?_⟩; replace HO_8 := q0 (Kd.S_below (qv HO_8.out) hb); replace HO_10 := q0 (Kd.S_below (qv HO_10.out) hb); have HO147 := q0 (Kd.R_lower (Kd.R_new' ho0 (Kd.R_lt (qr HO_110001.out))) (below_size (qb HB.out))); replace HO_110001 := q0 (Kd.R_elder' (qr HO_110001.out) (Kd.R_base ho0) hb); replace BK116 := q0 (kb BK116.out hb); replace BK134 := q0 (kb BK134.out hb); replace HB := q0 (below_step (qb HB.out) hb); (try clear hb); (try clear hb2); (try clear hk); (try clear hi); (try clear ho0); obtain ⟨Ao65, co65, eo65⟩ := Kd.R_slice HO147.out; subst eo65) | ((with_reducible refine gate_callee (f := 23) rfl ?_); refine gl 66 Try.func23 #[.agg #[.int .i64 t103, .slice Ao65 t141.length co65], .int .i64 a1, .int .i64 a2] ?_; (with_reducible refine (impl_WayAll.calls kj18 t103 _ _ t141 a1 a2 t104 _ ?side1 ?side2 A50.out).mono ?_); (case side1 => exact qc (Kd.R_reads' HO147.out).2.2); (case side2 => exact (Kd.R_reads' HO147.out).2.1); rintro e w66 ⟨v148, rfl, ho0, hb⟩; refine ⟨_, rfl, ?_⟩; replace HO_110001 := q0 (Kd.R_below (qr HO_110001.out) hb); replace HO147 := q0 (Kd.R_below (qr HO147.out) hb); have HO149 := q0 (Kd.S_lower (Kd.S_new' (Kd.S_new' ho0 (Kd.S_lt (qv HO_8.out))) (Kd.S_lt (qv HO_10.out))) (below_size (qb HB.out))); replace HO_8 := q0 (Kd.S_elder' (qv HO_8.out) (Kd.S_base ho0) hb); replace HO_10 := q0 (Kd.S_elder' (qv HO_10.out) (Kd.S_base ho0) hb); replace BK116 := q0 (kb BK116.out hb); replace BK134 := q0 (kb BK134.out hb); replace HB := q0 (below_step (qb HB.out) hb); (try clear hb); (try clear hb2); (try clear hk); (try clear hi); (try clear ho0); obtain ⟨Ao67, co67, eo67⟩ := Kd.S_slice HO149.out; subst eo67) | ((with_reducible refine gate_callee (f := 24) rfl ?_); refine gl 69 Try.func24 #[.slice Ao67 t104.length co67, .slice Ao35 t108.length co35] ?_; (with_reducible refine (laws_eqIntSS.calls kj18 _ _ t104 _ _ t108 true _ ?side1 ?side2 ?side3 ?side4 A51.out).mono ?_); (case side1 => exact qc (Kd.S_reads' HO149.out).2.2); (case side2 => exact (Kd.S_reads' HO149.out).2.1); (case side3 => exact qc (Kd.S_reads' HO_8.out).2.2); (case side4 => exact (Kd.S_reads' HO_8.out).2.1); rintro e w' ⟨rfl, ⟨nd, rfl⟩⟩; refine ⟨_, rfl, ?_⟩) | ((with_reducible refine gate_callee (f := 26) rfl ?_); refine gl 73 Try.func26 #[.slice Ao34 t201.length co34, .int .i64 1] ?_; (with_reducible refine (laws_heldIntSS.calls kj18 _ _ t201 1 t106 _ ?side1 ?side2 A53.out).mono ?_); (case side1 => exact qc (Kd.S_reads' HO_10.out).2.2); (case side2 => exact (Kd.S_reads' HO_10.out).2.1); rintro e w' ⟨rfl, ⟨nd, rfl⟩⟩; refine ⟨_, rfl, ?_⟩))
 go_ret
 exact ⟨qe, qb HB.out⟩

end Go.Proofs.Ytmfmeenfhdohcaa.P
