/- slices.SortFunc at ways, by the shelf's contract: what impl.Net.all leans on. -/
import Derived.Test.YtgoembpmhlmafaaP2
import Derived.Test.YtgoembpmhlmafaaEW0
import Derived.Test.YtgoembpmhlmafaaS0
namespace Go.Proofs.Ytgoembpmhlmafaa.P
open Go.Shelf in
def sortRow_ren : Go.Shelf.Ren := ⟨fun | 6 => 106 | 15 => 98 | 14 => 122 | 28 => 118 | 29 => 119 | 20 => 130 | 21 => 131 | 22 => 132 | 23 => 133 | 24 => 134 | 25 => 135 | 26 => 136 | 27 => 137 | 46 => 139 | 47 => 126 | 48 => 127 | 49 => 140 | 50 => 141 | 57 => 142 | n => n, fun | 22 => 55 | 24 => 60 | 25 => 105 | 3 => 3 | 39 => 98 | 0 => 0 | 53 => 117 | 55 => 119 | 4 => 4 | 46 => 110 | 45 => 109 | 50 => 114 | 5 => 5 | 9 => 9 | 66 => 122 | 70 => 126 | 76 => 133 | 77 => 134 | n => n, fun | n => n⟩
open Go.Shelf in
theorem sortRow : Go.Proofs.SlLaysF.n6 Try.prog sortRow_ren := {
  mixed := by kernel_rfl,
  f6 := ⟨Try.f106.name, by decide, Try.func106.trans (congrArg some (by kernel_rfl))⟩,
  f14 := ⟨Try.f122.name, by decide, Try.func122.trans (congrArg some (by kernel_rfl))⟩,
  f15 := Try.func98.trans (congrArg some (by kernel_rfl)),
  f20 := ⟨Try.f130.name, by decide, Try.func130.trans (congrArg some (by kernel_rfl))⟩,
  f21 := ⟨Try.f131.name, by decide, Try.func131.trans (congrArg some (by kernel_rfl))⟩,
  f22 := ⟨Try.f132.name, by decide, Try.func132.trans (congrArg some (by kernel_rfl))⟩,
  f23 := ⟨Try.f133.name, by decide, Try.func133.trans (congrArg some (by kernel_rfl))⟩,
  f24 := ⟨Try.f134.name, by decide, Try.func134.trans (congrArg some (by kernel_rfl))⟩,
  f25 := ⟨Try.f135.name, by decide, Try.func135.trans (congrArg some (by kernel_rfl))⟩,
  f26 := ⟨Try.f136.name, by decide, Try.func136.trans (congrArg some (by kernel_rfl))⟩,
  f27 := ⟨Try.f137.name, by decide, Try.func137.trans (congrArg some (by kernel_rfl))⟩,
  f28 := Try.func118.trans (congrArg some (by kernel_rfl)),
  f29 := Try.func119.trans (congrArg some (by kernel_rfl)),
  f46 := ⟨Try.f139.name, by decide, Try.func139.trans (congrArg some (by kernel_rfl))⟩,
  f47 := Try.func126.trans (congrArg some (by kernel_rfl)),
  f48 := Try.func127.trans (congrArg some (by kernel_rfl)),
  f49 := ⟨Try.f140.name, by decide, Try.func140.trans (congrArg some (by kernel_rfl))⟩,
  f50 := ⟨Try.f141.name, by decide, Try.func141.trans (congrArg some (by kernel_rfl))⟩,
  f57 := ⟨Try.f142.name, by decide, Try.func142.trans (congrArg some (by kernel_rfl))⟩,
  t0 := Try.underlying0,
  a0 := Try.isAgg0,
  z0 := Try.sizeOf0,
  v0 := Try.zeroValue0,
  t3 := Try.underlying3,
  a3 := Try.isAgg3,
  z3 := Try.sizeOf3,
  v3 := Try.zeroValue3,
  t4 := Try.underlying4,
  a4 := Try.isAgg4,
  z4 := Try.sizeOf4,
  v4 := Try.zeroValue4,
  t5 := Try.underlying5,
  a5 := Try.isAgg5,
  z5 := Try.sizeOf5,
  v5 := Try.zeroValue5,
  t9 := Try.underlying9,
  a9 := Try.isAgg9,
  z9 := Try.sizeOf9,
  v9 := Try.zeroValue9,
  t22 := Try.underlying55,
  a22 := Try.isAgg55,
  z22 := Try.sizeOf55,
  v22 := Try.zeroValue55,
  a24 := Try.isAgg60,
  z24 := Try.sizeOf60,
  t25 := Try.underlying105,
  a25 := Try.isAgg105,
  z25 := Try.sizeOf105,
  v25 := Try.zeroValue105,
  t39 := Try.underlying98,
  a39 := Try.isAgg98,
  z39 := Try.sizeOf98,
  v39 := Try.zeroValue98,
  t45 := Try.underlying109,
  a45 := Try.isAgg109,
  z45 := Try.sizeOf109,
  v45 := Try.zeroValue109,
  t46 := Try.underlying110,
  a46 := Try.isAgg110,
  z46 := Try.sizeOf110,
  v46 := Try.zeroValue110,
  t50 := Try.underlying114,
  a50 := Try.isAgg114,
  z50 := Try.sizeOf114,
  v50 := Try.zeroValue114,
  t53 := Try.underlying117,
  a53 := Try.isAgg117,
  z53 := Try.sizeOf117,
  v53 := Try.zeroValue117,
  t55 := Try.underlying119,
  a55 := Try.isAgg119,
  z55 := Try.sizeOf119,
  v55 := Try.zeroValue119,
  t66 := Try.underlying122,
  a66 := Try.isAgg122,
  z66 := Try.sizeOf122,
  v66 := Try.zeroValue122,
  t70 := Try.underlying126,
  a70 := Try.isAgg126,
  z70 := Try.sizeOf126,
  v70 := Try.zeroValue126,
  t76 := Try.underlying133,
  a76 := Try.isAgg133,
  z76 := Try.sizeOf133,
  v76 := Try.zeroValue133,
  t77 := Try.underlying134,
  a77 := Try.isAgg134,
  z77 := Try.sizeOf134,
  v77 := Try.zeroValue134 }
open Go.Sort (Holds PermIn SortedIn)
open Go.RowKit Go.Proofs.YtgoembpmhlmafaaW.PrintWords Go.Proofs.YtgoembpmhlmafaaW.PrintLast Go.Proofs.YtgoembpmhlmafaaW.PrintMore
attribute [local go_sem] max2_int min2_int max_two min_two max_three min_three max_four min_four
set_option linter.unusedVariables false
set_option linter.unusedSimpArgs false
set_option maxHeartbeats 8000000 in
set_option maxRecDepth 100000 in
theorem impl_wayOrder.grows (k : Nat) (A0 : Option Addr) (c0 : Nat) (l0 : List Int) (A1 : Option Addr) (c1 : Nat) (l1 : List Int) (r : Int) (w : World) (hr0 : Kd.C (Kd.int .i64) w A0 l0.length l0) (hc0 : l0.length ≤ c0) (hr1 : Kd.C (Kd.int .i64) w A1 l1.length l1) (hc1 : l1.length ≤ c1) (h : impl_wayOrder.f k l0 l1 = some r) :
    Calls Try.prog 107 #[.slice A0 l0.length c0, .slice A1 l1.length c1] w fun e w' => e = .returned (.int .i64 r) ∧ ∃ q os', w' = Go.Sort.grow (w.drewN q) os' := by
 have HR0 := q0 hr0
 have HC0 := q0 hc0
 clear hr0 hc0
 have HR1 := q0 hr1
 have HC1 := q0 hc1
 clear hr1 hc1
 have HB := q0 (Below.refl w.heap.size w)
 have H : ((cmp_Compare_int.f (l0.length : Int) (l1.length : Int)).bind fun t100 => ((slices_Compare_int.f k l0 l1).bind fun t101 => ((cmp_Or_int.f k (([t100, t101] : List Int))).bind fun t102 => (some t102)))) = some r := h
 clear h
 obtain ⟨t100, A3, H⟩ := ob H
 obtain ⟨t101, A4, H⟩ := ob H
 obtain ⟨y103, hy103⟩ : ∃ y_ : List Int, y_ = (([t100, t101] : List Int)) := ⟨_, rfl⟩
 replace H : ((cmp_Or_int.f k y103).bind fun t102 => (some t102)) = some r := qy H hy103
 have Ny103 := q0 hy103
 clear hy103
 obtain ⟨t102, A5, H⟩ := ob H
 obtain rfl := Option.some.inj H
 go_enter Try.func107, Try.ntmps107
 go_wp2_with (first | ((with_reducible refine gf 100 ?_); refine gl 9 Try.func100 #[.int .i64 (l0.length : Int), .int .i64 (l1.length : Int)] ?_; (with_reducible refine (cmp_Compare_int.calls (l0.length : Int) (l1.length : Int) t100 _ A3.out).mono ?_); rintro e w' ⟨rfl, ⟨nd, rfl⟩⟩; refine ⟨_, rfl, ?_⟩) | ((with_reducible refine gf 123 ?_); refine gl 12 Try.func123 #[.slice A0 l0.length c0, .slice A1 l1.length c1] ?_; (with_reducible refine (slices_Compare_int.calls k _ _ l0 _ _ l1 t101 _ ?side1 ?side2 ?side3 ?side4 A4.out).mono ?_); (case side1 => repeat (first | exact HR0.out | (with_reducible refine Kd.C_alloc ?_ _) | (with_reducible refine Kd.C_drewN ?_ _) | (with_reducible refine Kd.C_drew ?_))); (case side2 => exact HC0.out); (case side3 => repeat (first | exact HR1.out | (with_reducible refine Kd.C_alloc ?_ _) | (with_reducible refine Kd.C_drewN ?_ _) | (with_reducible refine Kd.C_drew ?_))); (case side4 => exact HC1.out); rintro e w' ⟨rfl, ⟨nd, rfl⟩⟩; refine ⟨_, rfl, ?_⟩) | ((with_reducible refine gd 13 ?_); refine R_litD (Kd.int .i64) _ 3 ?hg (N := 13) ?hd (xs := ([t100, t101] : List Int)) (inner := [.int .i64 t100, .int .i64 t101]) (ok := fun _ => True) (okp := fun _ => True) ?hr ?hp (fun _ hk => hk) trivial (Below.refl _ _) (Nat.le_refl _) (by simp) ?_; (case hd => rfl); (case hg => rfl); (case hr => first | (go_simp; done) | (go_simp; rfl)); (case hp => exact (Reps.one (show Kd.M (Kd.int .i64) _ _ _ t100 [.int .i64 t100] from rfl) (Reps.one (show Kd.M (Kd.int .i64) _ _ _ t101 [.int .i64 t101] from rfl) (Reps.none _ _)))); intro v104 w6 ho7 hb hg_ hnew_ hd_; have Dlw6_ := q0 hd_; clear hg_ hnew_ hd_; (first | rw [← Ny103.out] at ho7 | (simp only [Int.reduceToNat] at ho7; rw [← Ny103.out] at ho7)); have HO105 := q0 (Kd.R_lower ho7 (below_size (qb HB.out))); replace HB := bp HB hb; clear hb ho7; obtain ⟨Ao8, co8, eo8⟩ := Kd.R_slice HO105.out; subst eo8) | ((with_reducible refine gf 99 ?_); refine gl 14 Try.func99 #[.slice Ao8 y103.length co8] ?_; (with_reducible refine (cmp_Or_int.calls k _ _ y103 t102 _ ?side1 ?side2 A5.out).mono ?_); (case side1 => exact qc (Kd.R_reads' HO105.out).2.2); (case side2 => exact (Kd.R_reads' HO105.out).2.1); rintro e w' ⟨rfl, ⟨nd, rfl⟩⟩; refine ⟨_, rfl, ?_⟩))
 go_ret
 refine ⟨qe, grow_of_below (qb HB.out) ?_⟩
 have dlw6_ := Dlw6_.out
 simp only [World.drewN] at *
 omega

/-! ### The order -/
theorem wayOrder_at (x y : List Int) (hx : x.length < 4611686018427387904) (hy : y.length < 4611686018427387904) : ∃ k, impl_wayOrder.f k x y = some (Osier.wcmp x y) := E.Ev.get (E.e_impl_wayOrder x y hx hy)
/-- A row of the list: what it holds, where it stood, its cell. It is read wherever nothing but block g was written. -/
def RowOk (w : World) (g : Nat) (a : (List Int × Nat) × Value) : Prop := ∃ A c, a.2 = .slice A a.1.1.length c ∧ a.1.1.length ≤ c ∧ (∀ W', Kept w W' (fun k => k = g) → Kd.C (Kd.int .i64) W' A a.1.1.length a.1.1) ∧ a.1.1.length < 4611686018427387904
abbrev RowOf (w : World) (g : Nat) : Type := {a : (List Int × Nat) × Value // RowOk w g a}
def encRow {w : World} {g : Nat} (x : RowOf w g) : Value := x.1.2
def rowCmp {w : World} {g : Nat} (x y : RowOf w g) : Int := Osier.wcmp x.1.1.1 y.1.1.1
theorem one_row {w : World} {g : Nat} : OneCell (encRow (w := w) (g := g)) := by
  intro x
  obtain ⟨A, c, h, _⟩ := x.2
  show (x.1.2).oneCell' = true
  rw [h]; rfl
theorem swo_row {w : World} {g : Nat} : Go.Sort.SWO (ltOf (rowCmp (w := w) (g := g))) where
  irrefl x := by unfold ltOf rowCmp; rw [Osier.wcmp_self]; rfl
  trans x y z h1 h2 := by
    unfold ltOf rowCmp at *
    have h1 := of_decide_eq_true h1
    have h2 := of_decide_eq_true h2
    have h3 := Osier.wcmp_le _ _ _ (Int.le_of_lt h1) (Int.le_of_lt h2)
    refine decide_eq_true ?_
    rcases Int.lt_or_eq_of_le h3 with h | h
    · exact h
    · have e := Osier.wcmp_zero _ _ h
      rw [← e] at h2
      have := Osier.wcmp_neg x.1.1.1 y.1.1.1
      omega
  ntrans x y z h1 h2 := by
    unfold ltOf rowCmp at *
    have h1 := of_decide_eq_false h1
    have h2 := of_decide_eq_false h2
    have n1 := Osier.wcmp_neg x.1.1.1 y.1.1.1
    have n2 := Osier.wcmp_neg y.1.1.1 z.1.1.1
    have n3 := Osier.wcmp_neg x.1.1.1 z.1.1.1
    have h3 := Osier.wcmp_le z.1.1.1 y.1.1.1 x.1.1.1 (by omega) (by omega)
    exact decide_eq_false (by omega)
theorem cmpLays_row (w : World) (g size : Nat) [Inhabited (RowOf w g)] : CmpLays1 Try.prog 107 #[] (encRow (w := w) (g := g)) rowCmp g 0 size w := by
  intro m os dk hs x y
  obtain ⟨A, c, hx, hc, hC, hl⟩ := x.2
  obtain ⟨B, e, hy, he, hE, hm⟩ := y.2
  obtain ⟨k, hk⟩ := wayOrder_at _ _ hl hm
  have hK : Kept w (sortWorld encRow w g 0 m dk os) (fun k => k = g) := sw_kept w g m _ os rfl
  have := impl_wayOrder.grows k A c x.1.1.1 B e y.1.1.1 _ (sortWorld encRow w g 0 m dk os) (hC _ hK) hc (hE _ hK) he hk
  have e1 : encRow x = .slice A x.1.1.1.length c := hx
  have e2 : encRow y = .slice B y.1.1.1.length e := hy
  rw [e1, e2]
  exact this
/-! ### The row -/
/-- Where the row that stood at place i stands. -/
def posOf {w : World} {g : Nat} (d : List (RowOf w g)) (i : Nat) : Nat := d.findIdx (fun a => a.1.1.2 == i)
theorem pos_at {w : World} {g : Nat} {d : List (RowOf w g)} (hn : (d.map (fun a => a.1.1.2)).Nodup) {j : Nat} (hj : j < d.length) : posOf d (d[j].1.1.2) = j := by
  unfold posOf
  have h1 : d.findIdx (fun a => a.1.1.2 == d[j].1.1.2) < d.length := List.findIdx_lt_length_of_exists ⟨d[j], List.getElem_mem hj, by simp⟩
  have h2 := List.findIdx_getElem (w := h1)
  have h3 : d[d.findIdx (fun a => a.1.1.2 == d[j].1.1.2)].1.1.2 = d[j].1.1.2 := by simpa using h2
  rw [List.nodup_iff_pairwise_ne, List.pairwise_iff_getElem] at hn
  rcases Nat.lt_trichotomy (d.findIdx (fun a => a.1.1.2 == d[j].1.1.2)) j with h | h | h
  · exact absurd (by rw [List.getElem_map, List.getElem_map]; exact h3) (hn _ _ (by simpa using h1) (by simpa using hj) h)
  · exact h
  · exact absurd (by rw [List.getElem_map, List.getElem_map]; exact h3.symm) (hn _ _ (by simpa using hj) (by simpa using h1) h)
theorem slices_SortFunc_Row.calls (k : Nat) (u_ : Value) (l0 : List (List Int)) (r : List (List Int)) (w0 w : World) (hB : Below w0.heap.size w0 w) (ho0 : Kd.S (Kd.slice 3 (Kd.int .i64)) 60 w w0.heap.size (fun _ => True) u_ l0) (h : slices_SortFunc_Row.f k l0 = some r) :
    Calls Try.prog 106 #[u_, .func (.func 107) #[] #[]] w fun e w' => e = .returned (.tuple #[]) ∧ Kd.S (Kd.slice 3 (Kd.int .i64)) 60 w' w0.heap.size (fun _ => True) u_ r ∧ Below w0.heap.size w0 w' := by
  unfold slices_SortFunc_Row.f at h
  split at h
  · rename_i hlen
    obtain ⟨hlen, hrows⟩ := hlen
    obtain rfl := Option.some.inj h
    obtain ⟨f, hok, inner, ⟨hil, ho⟩, hr⟩ := ho0
    rw [List.length_zipIdx] at hil ho
    rcases ho with ⟨rfl, h0⟩ | ⟨g, cap, cur, rfl, hg, hh, hcap, hmax, hcs, htk⟩
    · have : l0 = [] := List.eq_nil_of_length_eq_zero h0
      subst this
      refine (AnyF.slices_SortFunc_none { sortRow with } none 0 _ w).mono ?_
      rintro e w' ⟨rfl, rfl⟩
      refine ⟨rfl, ?_, hB⟩
      simp only [List.mergeSort_nil]
      exact Kd.S_nil _ _ _ _ _
    · have hsz : (Kd.tag f (Kd.slice 3 (Kd.int .i64))).sz = 1 := rfl
      rw [hsz, Nat.mul_one] at hil hcs htk
      rw [hsz] at hr
      have hM : ∀ j (hj : j < l0.length), ∃ v, inner[j]? = some v ∧ (Kd.int .i64).R 3 w w0.heap.size (fun k => (True ∧ k ≠ g) ∧ f k = j) v l0[j] := by
        intro j hj
        have h1 := hr.2 j (l0[j], j) (Kd.zip_at (List.getElem?_eq_getElem hj))
        obtain ⟨v, hv, hR⟩ := h1
        have hi : j < inner.length := by omega
        rw [Nat.mul_one, List.drop_eq_getElem_cons hi] at hv
        refine ⟨v, ?_, Kd.R_mono hR (fun k hk => ⟨⟨trivial, fun e => hk.1.2 (by rw [e]; rfl)⟩, hk.2⟩)⟩
        rw [List.getElem?_eq_getElem hi]
        rw [List.take_succ_cons, List.take_zero] at hv
        exact congrArg some (List.cons.inj hv).1
      have hrow : ∀ j (hj : j < l0.length), RowOk w g ((l0[j], j), inner[j]'(by omega)) := by
        intro j hj
        obtain ⟨v, hv, hR⟩ := hM j hj
        rw [List.getElem?_eq_getElem (by omega)] at hv
        have hv := Option.some.inj hv
        obtain ⟨A, c, e⟩ := Kd.R_slice hR
        have hrd := fun W' (hk : Kept w W' (fun k => k = g)) => Kd.R_reads' (by rw [e] at hR; exact Kd.R_kept hR hk (fun k ho => ho.1.2))
        exact ⟨A, c, by rw [hv, e], (hrd w (Kept.refl _ _)).2.1, fun W' hk => (hrd W' hk).2.2, hrows _ (List.getElem_mem hj)⟩
      by_cases hz : l0.length = 0
      · have : l0 = [] := List.eq_nil_of_length_eq_zero hz
        subst this
        refine (AnyF.slices_SortFunc_none { sortRow with } (some ⟨g, 0, none⟩) cap _ w).mono ?_
        rintro e w' ⟨rfl, rfl⟩
        refine ⟨rfl, ?_, hB⟩
        simp only [List.mergeSort_nil]
        exact ⟨f, hok, inner, ⟨by simpa using hil, .inr ⟨g, cap, cur, rfl, hg, hh, hcap, hmax, by rw [hsz, Nat.mul_one]; exact hcs, by rw [hsz, Nat.mul_one]; simpa using htk⟩⟩, hr⟩
      · haveI : Inhabited (RowOf w g) := ⟨⟨((l0[0], 0), inner[0]'(by omega)), hrow 0 (by omega)⟩⟩
        let d : Array (RowOf w g) := Array.ofFn (n := l0.length) (fun i => ⟨((l0[i.1], i.1), inner[i.1]'(by omega)), hrow i.1 i.2⟩)
        have hds : d.size = l0.length := by simp [d]
        have hdj : ∀ j (hj : j < l0.length), d[j]! = ⟨((l0[j], j), inner[j]'(by omega)), hrow j hj⟩ := by
          intro j hj
          rw [getElem!_pos d j (by omega)]
          simp [d]
        have hcur : ∀ j (hj : j < l0.length), cur[j]? = some (inner[j]'(by omega)) := by
          intro j hj
          have h1 : inner[j]? = some (inner[j]'(by omega)) := List.getElem?_eq_getElem _
          rw [← h1, ← htk, List.getElem?_take_of_lt hj, Array.getElem?_toList]
        have hH : Holds encRow w g 0 d := by
          intro j hj
          rw [hds] at hj
          rw [Nat.zero_add]
          refine ⟨?_, blk_frozen hh j⟩
          rw [blk_cell hh j, hcur j hj, hdj j hj]
          rfl
        have eg : ∀ args w, (callFunc 107 args).run Try.prog w = .ok (.enter 107 args) w := enters_of Try.func107 (by kernel_rfl) rfl
        have hc := Any.slices_SortFunc sortRow encRow one_row rowCmp swo_row 107 #[] g 0 cap d w eg (cmpLays_row w g _) hH (blk_lt hh) (by omega)
        rw [hds] at hc
        refine Calls.mono hc ?_
        rintro e w' ⟨rfl, d', n, os, hp, hs, rfl⟩
        obtain ⟨hps, _, hpp⟩ := hp
        have e1 : d'.extract 0 l0.length = d' := by rw [← hds, ← hps]; exact Array.extract_size
        have e2 : d.extract 0 l0.length = d := by rw [← hds]; exact Array.extract_size
        rw [e1, e2] at hpp
        have hlen' : d'.toList.length = l0.length := by simp [hps, hds]
        have hmd : d.toList.map (fun a => a.1.1.1) = l0 := by
          apply List.ext_getElem (by simp [hds])
          intro i h1 h2
          simp [d]
        have hid : d.toList.map (fun a => a.1.1.2) = List.range l0.length := by
          apply List.ext_getElem (by simp [hds])
          intro i h1 h2
          simp [d]
        have hnd : (d'.toList.map (fun a => a.1.1.2)).Nodup := by
          rw [(hpp.map _).nodup_iff, hid]
          exact List.nodup_range
        have hres : d'.toList.map (fun a => a.1.1.1) = l0.mergeSort (fun x y => !decide (Osier.wcmp y x < 0)) := by
          refine List.Perm.eq_of_pairwise (le := fun x y => (!decide (Osier.wcmp y x < 0)) = true) ?_ ?_ ?_ (((hpp.map _).trans (by rw [hmd])).trans (List.mergeSort_perm _ _).symm)
          · intro a b _ _ h1 h2
            have n1 := Osier.wcmp_neg a b
            refine Osier.wcmp_zero a b ?_
            simp at h1 h2
            omega
          · rw [List.pairwise_map, List.pairwise_iff_getElem]
            intro i j hi hj hij
            have h1 := hs i j (Nat.zero_le _) hij (by omega)
            have hi' : i < d'.size := by simpa using hi
            have hj' : j < d'.size := by simpa using hj
            rw [getElem!_pos d' j hj', getElem!_pos d' i hi'] at h1
            unfold ltOf rowCmp at h1
            simpa using h1
          · refine List.pairwise_mergeSort ?_ ?_ _
            · intro a b c h1 h2
              have n1 := Osier.wcmp_neg a b
              have n2 := Osier.wcmp_neg b c
              have n3 := Osier.wcmp_neg a c
              have := Osier.wcmp_le a b c
              simp at *
              omega
            · intro a b
              have n1 := Osier.wcmp_neg a b
              simp
              omega
        have hin : ∀ j (hj : j < d'.toList.length), ∃ i, ∃ hi : i < l0.length, d'.toList[j] = ⟨((l0[i], i), inner[i]'(by omega)), hrow i hi⟩ := by
          intro j hj
          have hm := (hpp.mem_iff).1 (List.getElem_mem hj)
          obtain ⟨i, hi, he⟩ := List.getElem_of_mem hm
          have hi' : i < l0.length := by simpa [hds] using hi
          refine ⟨i, hi', ?_⟩
          rw [← he]
          simp [d]
        have hrl : (l0.mergeSort (fun x y => !decide (Osier.wcmp y x < 0))).length = l0.length := List.length_mergeSort _
        refine ⟨rfl, ⟨fun k => posOf d'.toList (f k), fun k hk => trivial, d'.toList.map encRow, ⟨by rw [List.length_map, hlen', List.length_zipIdx, hrl]; exact (Nat.mul_one _).symm, .inr ⟨g, cap, _, by rw [List.length_zipIdx, hrl], hg, sw_at w g n _ os hh, by rw [List.length_zipIdx, hrl]; exact hcap, hmax, ?_, ?_⟩⟩, by rw [List.length_map, hlen', List.length_zipIdx, hrl]; exact (Nat.mul_one _).symm, ?_⟩, sw_below w g n _ os hB hg⟩
        · show (Go.Sort.putCells encRow 0 d' cur).size = cap * 1
          simp [Go.Sort.putCells, hcs]
        · show (Go.Sort.putCells encRow 0 d' cur).toList.take (_ * 1) = _
          rw [List.length_zipIdx, hrl, Nat.mul_one]
          apply List.ext_getElem?
          intro i
          rcases Nat.lt_or_ge i l0.length with hi | hi
          · rw [List.getElem?_take_of_lt hi]
            have h1 : i < (Go.Sort.putCells encRow 0 d' cur).toList.length := by simp [Go.Sort.putCells]; omega
            rw [List.getElem?_eq_getElem h1, List.getElem?_eq_getElem (by simpa [hps, hds] using hi)]
            congr 1
            simp only [Array.getElem_toList, Go.Sort.putCells, Array.getElem_mapIdx, List.getElem_map]
            rw [if_pos ⟨Nat.zero_le _, by omega⟩, getElem!_pos d' (i - 0) (by omega)]
            simp
          · rw [List.getElem?_eq_none (by simp; omega), List.getElem?_eq_none (by simp [hps, hds]; omega)]
        · intro j p hj
          obtain ⟨hjl, hpe⟩ := List.getElem?_eq_some_iff.1 hj
          have hjl' : j < l0.length := by simpa [hrl] using hjl
          have hjd : j < d'.toList.length := by omega
          obtain ⟨i, hi, he⟩ := hin j hjd
          obtain ⟨v, hv, hR⟩ := hM i hi
          rw [List.getElem?_eq_getElem (by omega)] at hv
          have hv := Option.some.inj hv
          have hp1 : p = (l0[i], j) := by
            rw [← hpe, List.getElem_zipIdx]
            congr 1
            · have h2 : (d'.toList.map (fun a => a.1.1.1))[j]'(by simpa using hjd) = l0[i] := by rw [List.getElem_map, he]
              rw [← h2]
              congr 1
              exact hres.symm
            · omega
          subst hp1
          have hpos : posOf d'.toList i = j := by
            have := pos_at hnd hjd
            rw [he] at this
            exact this
          have hcell : (List.drop (j * 1) (d'.toList.map encRow)).take 1 = [v] := by
            have hjm : j < (d'.toList.map encRow).length := by simpa using hjd
            rw [Nat.mul_one, List.drop_eq_getElem_cons hjm, List.take_succ_cons, List.take_zero, List.getElem_map, he, ← hv]
            rfl
          show ∃ v', _ = [v'] ∧ _
          refine ⟨v, hcell, ?_⟩
          refine Kd.R_mono (Kd.R_kept hR (sw_kept (S := fun k => k = g) w g n _ os rfl) (fun k hk => hk.1.2)) (fun k hk => ⟨⟨trivial, fun e => hk.1.2 ?_⟩, ?_⟩)
          · have e := e
            simp only [Value.ownBlock, Option.some.injEq] at e
            exact e
          · show posOf d'.toList (f k) = j
            rw [hk.2]; exact hpos
  · cases h
end Go.Proofs.Ytgoembpmhlmafaa.P
