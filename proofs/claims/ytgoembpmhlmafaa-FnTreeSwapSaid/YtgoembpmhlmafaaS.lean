/- slices.SortFunc at ties, by the shelf's contract: what impl.NetAdd leans on. -/
import Derived.Test.YtgoembpmhlmafaaP1
import Derived.Test.YtgoembpmhlmafaaEO
import Derived.Test.YtgoembpmhlmafaaS0
namespace Go.Proofs.Ytgoembpmhlmafaa.P
open Go.Shelf in
def sortTie_ren : Go.Shelf.Ren := ⟨fun | 6 => 72 | 15 => 98 | 14 => 97 | 28 => 118 | 29 => 119 | 20 => 110 | 21 => 111 | 22 => 112 | 23 => 113 | 24 => 114 | 25 => 115 | 26 => 116 | 27 => 117 | 46 => 125 | 47 => 126 | 48 => 127 | 49 => 128 | 50 => 129 | 57 => 138 | n => n, fun | 22 => 23 | 24 => 32 | 25 => 79 | 3 => 3 | 39 => 98 | 0 => 0 | 53 => 117 | 55 => 119 | 4 => 4 | 46 => 110 | 45 => 109 | 50 => 114 | 5 => 5 | 9 => 9 | 66 => 122 | 70 => 126 | 76 => 133 | 77 => 134 | n => n, fun | n => n⟩
open Go.Shelf in
theorem sortTie : Go.Proofs.SlLaysF0.n6 Try.prog sortTie_ren := {
  mixed := by kernel_rfl,
  f6 := ⟨Try.f72.name, by decide, Try.func72.trans (congrArg some (by kernel_rfl))⟩,
  f14 := ⟨Try.f97.name, by decide, Try.func97.trans (congrArg some (by kernel_rfl))⟩,
  f15 := Try.func98.trans (congrArg some (by kernel_rfl)),
  f20 := ⟨Try.f110.name, by decide, Try.func110.trans (congrArg some (by kernel_rfl))⟩,
  f21 := ⟨Try.f111.name, by decide, Try.func111.trans (congrArg some (by kernel_rfl))⟩,
  f22 := ⟨Try.f112.name, by decide, Try.func112.trans (congrArg some (by kernel_rfl))⟩,
  f23 := ⟨Try.f113.name, by decide, Try.func113.trans (congrArg some (by kernel_rfl))⟩,
  f24 := ⟨Try.f114.name, by decide, Try.func114.trans (congrArg some (by kernel_rfl))⟩,
  f25 := ⟨Try.f115.name, by decide, Try.func115.trans (congrArg some (by kernel_rfl))⟩,
  f26 := ⟨Try.f116.name, by decide, Try.func116.trans (congrArg some (by kernel_rfl))⟩,
  f27 := ⟨Try.f117.name, by decide, Try.func117.trans (congrArg some (by kernel_rfl))⟩,
  f28 := Try.func118.trans (congrArg some (by kernel_rfl)),
  f29 := Try.func119.trans (congrArg some (by kernel_rfl)),
  f46 := ⟨Try.f125.name, by decide, Try.func125.trans (congrArg some (by kernel_rfl))⟩,
  f47 := Try.func126.trans (congrArg some (by kernel_rfl)),
  f48 := Try.func127.trans (congrArg some (by kernel_rfl)),
  f49 := ⟨Try.f128.name, by decide, Try.func128.trans (congrArg some (by kernel_rfl))⟩,
  f50 := ⟨Try.f129.name, by decide, Try.func129.trans (congrArg some (by kernel_rfl))⟩,
  f57 := ⟨Try.f138.name, by decide, Try.func138.trans (congrArg some (by kernel_rfl))⟩,
  t0 := Try.underlying0,
  a0 := Try.isAgg0,
  z0 := Try.sizeOf0,
  v0 := Try.zeroValue0,
  t3 := Try.underlying3,
  a3 := Try.isAgg3,
  z3 := Try.sizeOf3,
  v3 := Try.zeroValue3,
  t4 := Try.underlying4,
  a4 := Try.isAgg4,
  z4 := Try.sizeOf4,
  v4 := Try.zeroValue4,
  t5 := Try.underlying5,
  a5 := Try.isAgg5,
  z5 := Try.sizeOf5,
  v5 := Try.zeroValue5,
  t9 := Try.underlying9,
  a9 := Try.isAgg9,
  z9 := Try.sizeOf9,
  v9 := Try.zeroValue9,
  t22 := Try.underlying23,
  a22 := Try.isAgg23,
  z22 := Try.sizeOf23,
  v22 := Try.zeroValue23,
  t25 := Try.underlying79,
  a25 := Try.isAgg79,
  z25 := Try.sizeOf79,
  v25 := Try.zeroValue79,
  t39 := Try.underlying98,
  a39 := Try.isAgg98,
  z39 := Try.sizeOf98,
  v39 := Try.zeroValue98,
  t45 := Try.underlying109,
  a45 := Try.isAgg109,
  z45 := Try.sizeOf109,
  v45 := Try.zeroValue109,
  t46 := Try.underlying110,
  a46 := Try.isAgg110,
  z46 := Try.sizeOf110,
  v46 := Try.zeroValue110,
  t50 := Try.underlying114,
  a50 := Try.isAgg114,
  z50 := Try.sizeOf114,
  v50 := Try.zeroValue114,
  t53 := Try.underlying117,
  a53 := Try.isAgg117,
  z53 := Try.sizeOf117,
  v53 := Try.zeroValue117,
  t55 := Try.underlying119,
  a55 := Try.isAgg119,
  z55 := Try.sizeOf119,
  v55 := Try.zeroValue119,
  t66 := Try.underlying122,
  a66 := Try.isAgg122,
  z66 := Try.sizeOf122,
  v66 := Try.zeroValue122,
  t70 := Try.underlying126,
  a70 := Try.isAgg126,
  z70 := Try.sizeOf126,
  v70 := Try.zeroValue126,
  t76 := Try.underlying133,
  a76 := Try.isAgg133,
  z76 := Try.sizeOf133,
  v76 := Try.zeroValue133,
  t77 := Try.underlying134,
  a77 := Try.isAgg134,
  z77 := Try.sizeOf134,
  v77 := Try.zeroValue134 }
open Go.Sort (flatK get_flatK HoldsK)
open Go.RowKit Go.Proofs.YtgoembpmhlmafaaW.PrintWords Go.Proofs.YtgoembpmhlmafaaW.PrintLast Go.Proofs.YtgoembpmhlmafaaW.PrintMore
attribute [local go_sem] max2_int min2_int max_two min_two max_three min_three max_four min_four
set_option linter.unusedVariables false
set_option linter.unusedSimpArgs false
set_option maxHeartbeats 8000000 in
set_option maxRecDepth 100000 in
theorem impl_tieOrder.grows (k : Nat) (a0_0 : Int) (a0_1 : Int) (a1_0 : Int) (a1_1 : Int) (r : Int) (w : World) (h : impl_tieOrder.f k a0_0 a0_1 a1_0 a1_1 = some r) :
    Calls Try.prog 73 #[.agg #[.int .i64 a0_0, .int .i64 a0_1], .agg #[.int .i64 a1_0, .int .i64 a1_1]] w fun e w' => e = .returned (.int .i64 r) ∧ ∃ q os', w' = Go.Sort.grow (w.drewN q) os' := by
 have hu32 := Try.underlying32
 have HB := q0 (Below.refl w.heap.size w)
 have H : ((cmp_Compare_int.f a0_0 a1_0).bind fun t100 => ((cmp_Compare_int.f a0_1 a1_1).bind fun t101 => ((cmp_Or_int.f k (([t100, t101] : List Int))).bind fun t102 => (some t102)))) = some r := h
 clear h
 obtain ⟨t100, A3, H⟩ := ob H
 obtain ⟨t101, A4, H⟩ := ob H
 obtain ⟨y103, hy103⟩ : ∃ y_ : List Int, y_ = (([t100, t101] : List Int)) := ⟨_, rfl⟩
 replace H : ((cmp_Or_int.f k y103).bind fun t102 => (some t102)) = some r := qy H hy103
 have Ny103 := q0 hy103
 clear hy103
 obtain ⟨t102, A5, H⟩ := ob H
 obtain rfl := Option.some.inj H
 go_enter Try.func73, Try.ntmps73
 try go_wp2_with (first | ((with_reducible refine gd 2 ?_); refine beD 2 #[.int .i64 a0_0, .int .i64 a0_1] 32 ?_; intro gb104 hg w6 hbox hb hd_; have Dw6_ := q0 hd_; clear hd_; have BK104 := q0 (hbox); have GW104 := gw HB hg; have GE104 := gw HB hg; replace HB := bp HB hb; clear hb hbox hg) | ((with_reducible refine gd 3 ?_); refine beD 3 #[.int .i64 a1_0, .int .i64 a1_1] 32 ?_; intro gb105 hg w7 hbox hb hd_; have Dw7_ := q0 hd_; clear hd_; have BK105 := q0 (hbox); have GW105 := gw HB hg; have GE105 := gw HB hg; replace HB := bp HB hb; have NB104_105 := nl BK104 hg; have NB105_104 := ng BK104 hg; replace BK104 := kd BK104 hb; clear hb hbox hg))
 replace BK104 := q0 (blk_drew BK104.out)
 replace BK105 := q0 (blk_drew BK105.out)
 replace HB := q0 (below_drew1 HB.out)
 refine start_ (n := 13) (S := fun w' => w'.cell? ⟨gb104, 0, none⟩ = some (.int .i64 a0_0) ∧ w'.cell? ⟨gb104, 1, none⟩ = some (.int .i64 a0_1) ∧ w'.cell? ⟨gb105, 0, none⟩ = some (.int .i64 a1_0) ∧ w'.cell? ⟨gb105, 1, none⟩ = some (.int .i64 a1_1)) (ds := []) (ba 13 0) (by kernel_rfl) rfl (by kernel_rfl) ⟨bca BK104, bcb BK104, bca BK105, bcb BK105⟩ (fun hHeld => ?_); refine with_tabW impl_tieOrder.tab1 impl_tieOrder.bits1 (fun HT_ HW_ => ?_)
 have Dgw8_ := q0 (show w7.drawn ≤ w7.drew.drawn from Nat.le_succ _)
 generalize w7.drew = w8 at Dgw8_ BK104 BK105 HB hHeld ⊢
 refine pU 0 5 13 1 HT_ ?_
 refine pU 2 7 13 5 HT_ ?_
 refine pU 5 10 13 37 HT_ ?_
 refine pU 7 12 13 165 HT_ ?_
 refine tU 1 6 13 167 HT_ HW_ hHeld ?_
 refine tU 3 8 13 175 HT_ HW_ hHeld ?_
 refine tU 6 11 13 239 HT_ HW_ hHeld ?_
 refine tU 8 13 13 495 HT_ HW_ hHeld ?_
 refine one_ (i := 4) (N := some 9) (ba 13 511) rfl rfl (one_of HT_.out (by kernel_rfl)) (by decide) (fun K hK => ?_)
 refine goes_ Try.func100 (by kernel_rfl) rfl #[.int .i64 a0_0, .int .i64 a1_0] (by rfl) rfl rfl qm ?_
 with_reducible refine (cmp_Compare_int.calls a0_0 a1_0 t100 _ A3.out).mono ?_
 rintro e w' ⟨rfl, ⟨nd, rfl⟩⟩
 refine ⟨_, rfl, ?_⟩
 refine hK.out _ _ ⟨bca BK104, bcb BK104, bca BK105, bcb BK105⟩ (fun hHeld => ?_)
 clear hK K
 refine nu 9 ?_
 refine one_ (i := 9) (N := some 14) (ba 13 1023) rfl rfl (one_of HT_.out (by kernel_rfl)) (by decide) (fun K hK => ?_)
 refine goes_ Try.func100 (by kernel_rfl) rfl #[.int .i64 a0_1, .int .i64 a1_1] (by rfl) rfl rfl qm ?_
 with_reducible refine (cmp_Compare_int.calls a0_1 a1_1 t101 _ A4.out).mono ?_
 rintro e w' ⟨rfl, ⟨nd, rfl⟩⟩
 refine ⟨_, rfl, ?_⟩
 refine hK.out _ _ ⟨bca BK104, bcb BK104, bca BK105, bcb BK105⟩ (fun hHeld => ?_)
 clear hK K
 refine nu 14 ?_
 refine one_ (i := 10) (N := some 15) (ba 13 2047) rfl rfl (one_of HT_.out (by kernel_rfl)) (by decide) (fun K hK => ?_)
 refine R_lit_stepD (Kd.int .i64) _ 3 ?hg (N := 15) ?hd (xs := ([t100, t101] : List Int)) (inner := [.int .i64 t100, .int .i64 t101]) (ok := fun _ => True) (okp := fun _ => True) ?hr ?hp (fun _ hk => hk) trivial (Below.refl _ _) (Nat.le_refl _) (by simp) ?_; (case hd => rfl); (case hg => rfl); (case hr => first | (go_simp; done) | (go_simp; rfl)); (case hp => exact (Reps.one (show Kd.M (Kd.int .i64) _ _ _ t100 [.int .i64 t100] from rfl) (Reps.one (show Kd.M (Kd.int .i64) _ _ _ t101 [.int .i64 t101] from rfl) (Reps.none _ _))))
 intro v106 w9 ho10 hb hg_ hnew_ hd_
 have Dlw9_ := q0 hd_
 clear hg_ hnew_ hd_
 (first | rw [← Ny103.out] at ho10 | (simp only [Int.reduceToNat] at ho10; rw [← Ny103.out] at ho10))
 have HO107 := q0 (Kd.R_lower ho10 (below_size (qb HB.out)))
 replace BK104 := kd BK104 hb
 replace BK105 := kd BK105 hb
 replace HB := bp HB hb
 clear hb ho10
 obtain ⟨Ao11, co11, eo11⟩ := Kd.R_slice HO107.out
 (first | subst eo11 | (injection eo11 with f1_ f2_ f3_; have f4_ := f1_.symm; have f5_ := f3_.symm; clear f1_ f2_ f3_; subst f4_; subst f5_))
 refine hK.out _ _ ⟨bca BK104, bcb BK104, bca BK105, bcb BK105⟩ (fun hHeld => ?_)
 clear hK K
 refine nu 15 ?_
 refine one_ (i := 11) (N := some 16) (ba 13 4095) rfl rfl (one_of HT_.out (by kernel_rfl)) (by decide) (fun K hK => ?_)
 refine goes_ Try.func99 (by kernel_rfl) rfl #[.slice Ao11 y103.length co11] (by rfl) rfl rfl qm ?_
 with_reducible refine (cmp_Or_int.calls k _ _ y103 t102 _ ?side1 ?side2 A5.out).mono ?_
 (case side1 => exact qc (Kd.R_reads' HO107.out).2.2)
 (case side2 => exact (Kd.R_reads' HO107.out).2.1)
 rintro e w' ⟨rfl, ⟨nd, rfl⟩⟩
 refine ⟨_, rfl, ?_⟩
 refine hK.out _ _ ⟨bca BK104, bcb BK104, bca BK105, bcb BK105⟩ (fun hHeld => ?_)
 clear hK K
 refine nu 16 ?_
 refine pU 12 4 13 8191 HT_ ?_
 refine done_ (done_of HT_.out (by kernel_rfl)) ?_
 try go_wp2
 go_ret
 refine ⟨qe, grow_of_below (qb HB.out) ?_⟩
 have dw6_ := Dw6_.out
 have dw7_ := Dw7_.out
 have dgw8_ := Dgw8_.out
 have dlw9_ := Dlw9_.out
 simp only [World.drewN] at *
 omega

/-! ### The order -/
def tieCmp (x y : STie) : Int := E.ord x y
theorem tieOrder_at (x y : STie) : ∃ k, impl_tieOrder.f k x.f0 x.f1 y.f0 y.f1 = some (tieCmp x y) := E.Ev.get (E.e_impl_tieOrder x y)
instance : Inhabited STie := ⟨zTie⟩
/-- A tie's two cells. -/
def encTie (x : STie) : List Value := [.int .i64 x.f0, .int .i64 x.f1]
theorem cmpLays_tie (blk off size : Nat) (w : World) : CmpLays Try.prog 73 #[] encTie 2 tieCmp blk off size w := by
  intro m os dk hs x y
  obtain ⟨k, hk⟩ := tieOrder_at x y
  exact impl_tieOrder.grows k x.f0 x.f1 y.f0 y.f1 (tieCmp x y) _ hk
theorem tieCmp_lt (x y : STie) : ltOf tieCmp x y = decide (Osier.tlt x y) := by
  unfold ltOf
  exact decide_eq_decide.2 (E.ord_neg x y)
theorem swo_tie : Go.Sort.SWO (ltOf tieCmp) where
  irrefl x := by rw [tieCmp_lt]; exact decide_eq_false (Osier.tlt_irrefl x)
  trans x y z h1 h2 := by
    rw [tieCmp_lt] at *
    exact decide_eq_true (Osier.tlt_trans (of_decide_eq_true h1) (of_decide_eq_true h2))
  ntrans x y z h1 h2 := by
    rw [tieCmp_lt] at *
    have h1 := of_decide_eq_false h1
    have h2 := of_decide_eq_false h2
    refine decide_eq_false (fun h => ?_)
    unfold Osier.tlt at *
    omega
theorem tot_tie (x y : STie) (h1 : ltOf tieCmp x y = false) (h2 : ltOf tieCmp y x = false) : x = y := by
  rw [tieCmp_lt] at h1 h2
  have h1 := of_decide_eq_false h1
  have h2 := of_decide_eq_false h2
  rcases Osier.tlt_total x y with h | h | h
  · exact absurd h h1
  · exact h
  · exact absurd h h2
/-! ### The row -/
theorem reps_tie {R : STie → List Value → Prop} (hR : ∀ x c, R x c → c = encTie x) {l : List STie} {inner : List Value} (h : Reps R 2 l inner) : ∀ t, t < l.length * 2 → inner[t]? = some ((encTie (l.getD (t / 2) zTie))[t % 2]!) := by
  intro t ht
  have hj : t / 2 < l.length := by omega
  have hc := hR _ _ (h.2 (t / 2) _ (List.getElem?_eq_getElem hj))
  have hm : t % 2 < 2 := Nat.mod_lt _ (by omega)
  have e1 : ((inner.drop (t / 2 * 2)).take 2)[t % 2]? = inner[t]? := by
    rw [List.getElem?_take_of_lt hm, List.getElem?_drop]
    congr 1; omega
  rw [← e1, hc, List.getD_eq_getElem?_getD, List.getElem?_eq_getElem hj, Option.getD_some]
  have hl : t % 2 < (encTie l[t / 2]).length := by simpa [encTie] using hm
  rw [List.getElem?_eq_getElem hl, getElem!_pos (encTie l[t / 2]) (t % 2) hl]
theorem flat_at (r : List STie) (t : Nat) (ht : t < r.length * 2) : (flatK encTie 2 r.toArray)[t]! = (encTie (r.getD (t / 2) zTie))[t % 2]! := by
  rw [get_flatK _ _ _ _ (by simpa using ht)]
  have hj : t / 2 < r.length := by omega
  congr 2
  rw [List.getD_eq_getElem?_getD, List.getElem?_eq_getElem hj, Option.getD_some]
  rw [getElem!_pos r.toArray (t / 2) (by simpa using hj)]
  simp
theorem flat_reps {R : STie → List Value → Prop} (hR : ∀ x, R x (encTie x)) (r : List STie) : Reps R 2 r (flatK encTie 2 r.toArray).toList := by
  have hs : (flatK encTie 2 r.toArray).size = r.length * 2 := by simp
  refine ⟨by simp, fun j p hp => ?_⟩
  have hj : j < r.length := by
    rcases Nat.lt_or_ge j r.length with h | h
    · exact h
    · rw [List.getElem?_eq_none h] at hp; cases hp
  have hpe : r[j] = p := by rw [List.getElem?_eq_getElem hj] at hp; exact Option.some.inj hp
  have key : ((flatK encTie 2 r.toArray).toList.drop (j * 2)).take 2 = encTie p := by
    apply List.ext_getElem?
    intro i
    rcases Nat.lt_or_ge i 2 with hi | hi
    · rw [List.getElem?_take_of_lt hi, List.getElem?_drop]
      have ht : j * 2 + i < r.length * 2 := by omega
      have h1 := flat_at r (j * 2 + i) ht
      have e1 : (j * 2 + i) / 2 = j := by omega
      have e2 : (j * 2 + i) % 2 = i := by omega
      rw [e1, e2, List.getD_eq_getElem?_getD, hp, Option.getD_some] at h1
      have hlt : j * 2 + i < (flatK encTie 2 r.toArray).size := by omega
      rw [getElem!_pos (flatK encTie 2 r.toArray) (j * 2 + i) hlt] at h1
      rw [List.getElem?_eq_getElem (by simpa using ht), Array.getElem_toList, h1]
      have hl : i < (encTie p).length := by simpa [encTie] using hi
      rw [List.getElem?_eq_getElem hl, getElem!_pos (encTie p) i hl]
    · rw [List.getElem?_eq_none (by simp; omega), List.getElem?_eq_none (by simpa [encTie] using hi)]
  rw [key]
  exact hR p
theorem put_take (cur : Array Value) (r : List STie) (h : r.length * 2 ≤ cur.size) : (Go.Sort.putCells id 0 (flatK encTie 2 r.toArray) cur).toList.take (r.length * 2) = (flatK encTie 2 r.toArray).toList := by
  have hs : (flatK encTie 2 r.toArray).size = r.length * 2 := by simp
  apply List.ext_getElem?
  intro i
  rcases Nat.lt_or_ge i (r.length * 2) with hi | hi
  · rw [List.getElem?_take_of_lt hi]
    have h1 : i < (Go.Sort.putCells id 0 (flatK encTie 2 r.toArray) cur).toList.length := by simp [Go.Sort.putCells]; omega
    rw [List.getElem?_eq_getElem h1, List.getElem?_eq_getElem (by simpa using hi)]
    congr 1
    simp only [Array.getElem_toList, Go.Sort.putCells, Array.getElem_mapIdx]
    rw [if_pos ⟨Nat.zero_le _, by omega⟩, getElem!_pos (flatK encTie 2 r.toArray) (i - 0) (by omega)]
    simp
  · rw [List.getElem?_eq_none (by simp; omega), List.getElem?_eq_none (by simp; omega)]
theorem isAgg_tie : ∀ w, (isAgg 32).run Try.prog w = .ok true w := Try.isAgg32
theorem sizeOf_tie : ∀ w, (Go.sizeOf 32).run Try.prog w = .ok 2 w := Try.sizeOf32
theorem slices_SortFunc_Tie.calls (k : Nat) (P0_ : Nat → Prop) (u101_ : Value) (l0 : List STie) (r : List STie) (w0 w : World) (hB : Below w0.heap.size w0 w) (ho0 : Kd.R kTie 32 w w0.heap.size P0_ u101_ l0) (h : slices_SortFunc_Tie.f k l0 = some r) :
    Calls Try.prog 72 #[u101_, .func (.func 73) #[] #[]] w fun e w' => e = .returned (.tuple #[]) ∧ Kd.R kTie 32 w' w0.heap.size (fun k_ => (P0_ k_ ∨ w.heap.size ≤ k_)) u101_ r ∧ Below w0.heap.size w0 w' ∧ Kept w w' (fun k_ => P0_ k_) := by
  unfold slices_SortFunc_Tie.f at h
  split at h
  · rename_i hlen
    obtain rfl := Option.some.inj h
    obtain ⟨hok, inner, ⟨hil, ho⟩, hr⟩ := ho0
    rcases ho with ⟨rfl, h0⟩ | ⟨g, cap, cur, rfl, hg, hh, hcap, hmax, hcs, htk⟩
    · have : l0 = [] := List.eq_nil_of_length_eq_zero h0
      subst this
      refine (AnyF.slices_SortFunc_none sortTie none 0 _ w).mono ?_
      rintro e w' ⟨rfl, rfl⟩
      refine ⟨rfl, ?_, hB, Kept.refl _ _⟩
      simp only [List.mergeSort_nil]
      exact Kd.R_nil _ _ _ _ _
    · have hsz : kTie.sz = 2 := rfl
      rw [hsz] at hil hcs htk hr
      have hcur : l0.length * 2 ≤ cur.size := by rw [hcs]; omega
      have hH : HoldsK encTie 2 w g 0 l0.toArray := by
        intro j hj
        have hj' : j < l0.length * 2 := by simpa using hj
        rw [Nat.zero_add]
        refine ⟨?_, blk_frozen hh j⟩
        rw [blk_cell hh j, flat_at l0 j hj']
        show cur[j]? = some ((encTie (l0.getD (j / 2) zTie))[j % 2]!)
        rw [← reps_tie (fun x c hx => kTie_openM hx) hr j hj', ← htk, List.getElem?_take_of_lt hj', Array.getElem?_toList]
      have eg : ∀ args w, (callFunc 73 args).run Try.prog w = .ok (.enter 73 args) w := enters_of Try.func73 (by kernel_rfl) rfl
      have hc := AnyQ.slices_SortFunc_total sortTie 2 isAgg_tie sizeOf_tie encTie (fun _ => rfl) (fun x v hv => by simp [encTie] at hv; rcases hv with rfl | rfl <;> rfl) tieCmp swo_tie 73 #[] g 0 cap l0.toArray w eg (cmpLays_tie g 0 _ w) hH (blk_lt hh) (by simpa using hlen) tot_tie
      rw [List.size_toArray] at hc
      have hms : (l0.toArray.toList.mergeSort (fun x y => !(ltOf tieCmp) y x)) = l0.mergeSort (fun x y => !decide (y.f0 < x.f0 ∨ y.f0 = x.f0 ∧ y.f1 < x.f1)) := by
        congr 1
        funext x y
        rw [tieCmp_lt]; rfl
      have hlm : (l0.mergeSort (fun x y => !decide (y.f0 < x.f0 ∨ y.f0 = x.f0 ∧ y.f1 < x.f1))).length = l0.length := List.length_mergeSort _
      rw [hms] at hc
      generalize l0.mergeSort (fun x y => !decide (y.f0 < x.f0 ∨ y.f0 = x.f0 ∧ y.f1 < x.f1)) = r at hlm hc ⊢
      refine Calls.mono hc ?_
      rintro e w' ⟨rfl, n, os, rfl⟩
      refine ⟨rfl, ⟨fun k hk => .inl (hok k hk), (flatK encTie 2 r.toArray).toList, ⟨by simp [hsz], .inr ⟨g, cap, _, by rw [hlm], hg, sw_at w g n _ os hh, by omega, hmax, by simp [Go.Sort.putCells, hcs, hsz], ?_⟩⟩, flat_reps (fun x => kTie_mkM _ _ _ x) r⟩, sw_below w g n _ os hB hg, sw_kept w g n _ os (hok g rfl)⟩
      rw [hsz]
      exact put_take cur r (by omega)
  · cases h
end Go.Proofs.Ytgoembpmhlmafaa.P
