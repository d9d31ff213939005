/- FnTreeSwap: the pure statement, and what it leans on: graphs, and how the printed functions are reckoned. -/
import Derived.Test.YtgoembpmhlmafaaEO
section
namespace Osier
set_option linter.unusedVariables false
def Asc (E : List Tie) : Prop := E.Pairwise tlt
theorem Asc.nodup {E : List Tie} (h : Asc E) : E.Nodup :=
 List.Pairwise.imp (fun {a b} hab e => by subst e; exact tlt_irrefl _ hab) h
structure Ok (K : Int) (E : List Tie) : Prop where
 k0 : 0 ≤ K
 k8 : K ≤ 8
 tie : ∀ t ∈ E, 0 ≤ t.f0 ∧ t.f0 < t.f1 ∧ t.f1 < K
 asc : Asc E
theorem zm4 (l : List Int) (hl : l.Pairwise (· < ·)) : ∀ (lo hi : Int), lo ≤ hi → (∀ x ∈ l, lo ≤ x ∧ x < hi) → (l.length : Int) ≤ hi - lo := by
 induction l with
 | nil => intro lo hi h _; simp; omega
 | cons x l ih =>
  intro lo hi h hm
  have hp := List.pairwise_cons.1 hl
  have hx := hm x (by simp)
  have := ih hp.2 (x + 1) hi (by omega) (fun y hy => ⟨by have := hp.1 y hy; omega, (hm y (by simp [hy])).2⟩)
  simp only [List.length_cons]
  omega
theorem Ok.len {K : Int} {E : List Tie} (h : Ok K E) : E.length ≤ 64 := by
 have h1 : (E.map fun t => t.f0 * 8 + t.f1).Pairwise (· < ·) := by
  rw [List.pairwise_map]
  refine List.Pairwise.imp_of_mem ?_ h.asc
  intro a b ha hb hab
  have := h.tie a ha
  have := h.tie b hb
  have := h.k8
  unfold tlt at hab
  omega
 have := zm4 _ h1 0 64 (by omega) (by
  intro x hx
  obtain ⟨t, ht, rfl⟩ := List.mem_map.1 hx
  have := h.tie t ht
  have := h.k8
  omega)
 simp at this
 omega
theorem Ok.sub {K : Int} {E F : List Tie} (h : Ok K E) (hs : F.Sublist E) : Ok K F :=
 ⟨h.k0, h.k8, fun t ht => h.tie t (hs.subset ht), List.Pairwise.sublist hs h.asc⟩
theorem Ok.filter {K : Int} {E : List Tie} (h : Ok K E) (p : Tie → Bool) : Ok K (E.filter p) := h.sub (List.filter_sublist)
def mkT (a b : Int) : Tie := if a < b then ⟨a, b⟩ else ⟨b, a⟩
theorem zR1 (a b : Int) : mkT a b = mkT b a := by
 unfold mkT
 by_cases h : a < b
 ·rw [if_pos h, if_neg (by omega)]
 ·by_cases h' : b < a
  ·rw [if_neg h, if_pos h']
  ·have : a = b := by omega
   subst this; rfl
theorem zK3 {a b : Int} (h : a < b) : mkT a b = ⟨a, b⟩ := if_pos h
theorem zb1 {t : Tie} (h : t.f0 < t.f1) : mkT t.f0 t.f1 = t := by rw [zK3 h]
def Ed (E : List Tie) (a b : Int) : Prop := (⟨a, b⟩ : Tie) ∈ E ∨ (⟨b, a⟩ : Tie) ∈ E
theorem Ed.symm {E : List Tie} {a b : Int} (h : Ed E a b) : Ed E b a := Or.symm h
theorem Ed.mono {E F : List Tie} (hs : ∀ t ∈ E, t ∈ F) {a b : Int} (h : Ed E a b) : Ed F a b := h.imp (hs _) (hs _)
theorem Ok.ed {K : Int} {E : List Tie} (h : Ok K E) {a b : Int} : Ed E a b ↔ mkT a b ∈ E := by
 unfold Ed mkT
 constructor
 ·rintro (h1 | h1)
  ·have := h.tie _ h1
   dsimp only at this
   rw [if_pos (by omega)]; exact h1
  ·have := h.tie _ h1
   dsimp only at this
   rw [if_neg (by omega)]; exact h1
 ·split
  ·exact .inl
  ·exact .inr
theorem Ok.ed_in {K : Int} {E : List Tie} (h : Ok K E) {a b : Int} (he : Ed E a b) : (0 ≤ a ∧ a < K) ∧ (0 ≤ b ∧ b < K) ∧ a ≠ b := by
 rcases he with h1 | h1 <;> have := h.tie _ h1 <;> dsimp only at this <;> omega
inductive Conn (E : List Tie) (a : Int) : Int → Prop
 | refl : Conn E a a
 | step {b c : Int} : Conn E a b → Ed E b c → Conn E a c
theorem Conn.trans {E : List Tie} {a b c : Int} (h : Conn E a b) (k : Conn E b c) : Conn E a c := by
 induction k with
 | refl => exact h
 | step _ he ih => exact .step ih he
theorem Conn.one {E : List Tie} {a b : Int} (h : Ed E a b) : Conn E a b := .step .refl h
theorem Conn.symm {E : List Tie} {a b : Int} (h : Conn E a b) : Conn E b a := by
 induction h with
 | refl => exact .refl
 | step _ he ih => exact (Conn.one he.symm).trans ih
theorem Conn.mono {E F : List Tie} (hs : ∀ t ∈ E, t ∈ F) {a b : Int} (h : Conn E a b) : Conn F a b := by
 induction h with
 | refl => exact .refl
 | step _ he ih => exact .step ih (he.mono hs)
theorem Conn.closed {E : List Tie} {S : Int → Prop} (hS : ∀ b c, S b → Ed E b c → S c) {a b : Int} (ha : S a) (hr : Conn E a b) : S b := by
 induction hr with
 | refl => exact ha
 | step _ he ih => exact hS _ _ ih he
theorem zp {E : List Tie} {u v a b : Int} : Conn (⟨u, v⟩ :: E) a b ↔ Conn E a b ∨ (Conn E a u ∧ Conn E v b) ∨ (Conn E a v ∧ Conn E u b) := by
 constructor
 ·intro h
  induction h with
  | refl => exact .inl .refl
  | @step b c _ he ih =>
   have hE : Ed E b c ∨ (b = u ∧ c = v) ∨ (b = v ∧ c = u) := by
    rcases he with h1 | h1 <;> simp only [List.mem_cons, Tie.mk.injEq] at h1 <;> unfold Ed
    ·rcases h1 with h1 | h1
     ·exact .inr (.inl h1)
     ·exact .inl (.inl h1)
    ·rcases h1 with h1 | h1
     ·exact .inr (.inr ⟨h1.2, h1.1⟩)
     ·exact .inl (.inr h1)
   rcases hE with hE | ⟨rfl, rfl⟩ | ⟨rfl, rfl⟩
   ·rcases ih with ih | ⟨h1, h2⟩ | ⟨h1, h2⟩
    ·exact .inl (ih.step hE)
    ·exact .inr (.inl ⟨h1, h2.step hE⟩)
    ·exact .inr (.inr ⟨h1, h2.step hE⟩)
   ·rcases ih with ih | ⟨h1, h2⟩ | ⟨h1, h2⟩
    ·exact .inr (.inl ⟨ih, .refl⟩)
    ·exact .inr (.inl ⟨h1, .refl⟩)
    ·exact .inl h1
   ·rcases ih with ih | ⟨h1, h2⟩ | ⟨h1, h2⟩
    ·exact .inr (.inr ⟨ih, .refl⟩)
    ·exact .inl h1
    ·exact .inr (.inr ⟨h1, .refl⟩)
 ·have hm : ∀ {x y}, Conn E x y → Conn (⟨u, v⟩ :: E) x y := fun h => h.mono (fun t ht => by simp [ht])
  have huv : Conn (⟨u, v⟩ :: E) u v := Conn.one (.inl (by simp))
  rintro (h | ⟨h1, h2⟩ | ⟨h1, h2⟩)
  ·exact hm h
  ·exact ((hm h1).trans huv).trans (hm h2)
  ·exact ((hm h1).trans huv.symm).trans (hm h2)
theorem zN1 {E F : List Tie} (h : ∀ t, t ∈ E ↔ t ∈ F) {a b : Int} : Conn E a b ↔ Conn F a b :=
 ⟨Conn.mono (fun t => (h t).1), Conn.mono (fun t => (h t).2)⟩
theorem zI3 {a b : Int} : Conn [] a b ↔ a = b := by
 constructor
 ·intro h
  induction h with
  | refl => rfl
  | step _ he _ => rcases he with h | h <;> simp at h
 ·rintro rfl; exact .refl
open Classical in
noncomputable def leastOf (K : Int) (p : Int → Prop) : Int :=
 (((List.range K.toNat).map Int.ofNat).find? (fun k => decide (p k))).getD 0
theorem zt {K x : Int} : x ∈ (List.range K.toNat).map Int.ofNat ↔ 0 ≤ x ∧ x < K := by
 simp only [List.mem_map, List.mem_range]
 constructor
 ·rintro ⟨n, hn, rfl⟩
  simp only [Int.ofNat_eq_natCast]; omega
 ·rintro ⟨h0, h1⟩
  exact ⟨x.toNat, by omega, by simp only [Int.ofNat_eq_natCast]; omega⟩
theorem zP1 (n : Nat) : ((List.range n).map Int.ofNat).Pairwise (· < ·) := by
 rw [List.pairwise_map]
 exact List.Pairwise.imp (fun {a b} h => by simp only [Int.ofNat_eq_natCast]; omega) List.pairwise_lt_range
theorem zH3 {l : List Int} (hl : l.Pairwise (· < ·)) {p : Int → Bool} {x : Int} (hx : x ∈ l) (hp : p x = true) :
  ∃ y, l.find? p = some y ∧ y ∈ l ∧ p y = true ∧ ∀ z ∈ l, p z = true → y ≤ z := by
 induction l with
 | nil => simp at hx
 | cons a l ih =>
  have hc := List.pairwise_cons.1 hl
  by_cases ha : p a = true
  ·refine ⟨a, by simp [ha], by simp, ha, fun z hz _ => ?_⟩
   simp only [List.mem_cons] at hz
   rcases hz with rfl | hz
   ·exact Int.le_refl _
   ·have := hc.1 z hz; omega
  ·have hx' : x ∈ l := by
    simp only [List.mem_cons] at hx
    rcases hx with rfl | hx
    ·exact absurd hp ha
    ·exact hx
   obtain ⟨y, hy, hm, hpy, hmin⟩ := ih hc.2 hx'
   refine ⟨y, by simp [ha, hy], by simp [hm], hpy, fun z hz hpz => ?_⟩
   simp only [List.mem_cons] at hz
   rcases hz with rfl | hz
   ·exact absurd hpz ha
   ·exact hmin z hz hpz
theorem zi {K : Int} {p : Int → Prop} {x : Int} (h0 : 0 ≤ x) (h1 : x < K) (hp : p x) :
  p (leastOf K p) ∧ 0 ≤ leastOf K p ∧ leastOf K p < K ∧ ∀ z, 0 ≤ z → z < K → p z → leastOf K p ≤ z := by
 obtain ⟨y, hy, hm, hpy, hmin⟩ := zH3 (zP1 K.toNat) (p := fun k => @decide (p k) (Classical.propDecidable _)) (zt.2 ⟨h0, h1⟩) (by simpa using hp)
 have he : leastOf K p = y := by unfold leastOf; rw [hy]; rfl
 rw [he]
 have := zt.1 hm
 exact ⟨by simpa using hpy, this.1, this.2, fun z hz0 hz1 hpz => hmin z (zt.2 ⟨hz0, hz1⟩) (by simpa using hpz)⟩
theorem zz2 {K : Int} {p : Int → Prop} {x : Int} (h0 : 0 ≤ x) (h1 : x < K) (hp : p x) (hmin : ∀ z, 0 ≤ z → z < K → p z → x ≤ z) : leastOf K p = x := by
 obtain ⟨h2, h3, h4, h5⟩ := zi h0 h1 hp
 have := h5 x h0 h1 hp
 have := hmin _ h3 h4 h2
 omega
noncomputable def prt (K : Int) (E : List Tie) (k : Int) : Int := leastOf K (Conn E k)
theorem zl {K : Int} {E : List Tie} {k : Int} (h0 : 0 ≤ k) (h1 : k < K) : Conn E k (prt K E k) := (zi h0 h1 .refl).1
theorem zZ {K : Int} {E : List Tie} {k : Int} (h0 : 0 ≤ k) (h1 : k < K) : 0 ≤ prt K E k ∧ prt K E k < K := ⟨(zi h0 h1 (Conn.refl (E := E))).2.1, (zi h0 h1 (Conn.refl (E := E))).2.2.1⟩
theorem zv {K : Int} {E : List Tie} {k j : Int} (h0 : 0 ≤ k) (h1 : k < K) (j0 : 0 ≤ j) (j1 : j < K) (h : Conn E k j) : prt K E k ≤ j := (zi h0 h1 (Conn.refl (E := E))).2.2.2 j j0 j1 h
theorem zK1 {K : Int} {E : List Tie} {a b : Int} (a0 : 0 ≤ a) (a1 : a < K) (b0 : 0 ≤ b) (b1 : b < K) : prt K E a = prt K E b ↔ Conn E a b := by
 constructor
 ·intro h
  have h1 := zl (E := E) a0 a1
  rw [h] at h1
  exact h1.trans (zl b0 b1).symm
 ·intro h
  have ha := zZ (E := E) a0 a1
  have hb := zZ (E := E) b0 b1
  have h1 := zv a0 a1 hb.1 hb.2 (h.trans (zl b0 b1))
  have h2 := zv b0 b1 ha.1 ha.2 (h.symm.trans (zl a0 a1))
  omega
def yg (K : Int) (E : List Tie) (k : Int) : Prop := ∀ j, 0 ≤ j → j < K → Conn E k j → k ≤ j
theorem zd4 {K : Int} {E : List Tie} {k : Int} (h0 : 0 ≤ k) (h1 : k < K) : yg K E k ↔ prt K E k = k := by
 constructor
 ·intro h; exact zz2 h0 h1 .refl h
 ·intro h j j0 j1 hr
  have := zv h0 h1 j0 j1 hr
  omega
open Classical in
noncomputable def comps (K : Int) (E : List Tie) : Nat := ((List.range K.toNat).map Int.ofNat).countP (fun k => decide (yg K E k))
theorem zC {K : Int} {E F : List Tie} (h : ∀ a b, Conn E a b ↔ Conn F a b) : comps K E = comps K F := by
 have : yg K E = yg K F := by
  funext k
  unfold yg
  simp only [h]
 unfold comps
 rw [this]
theorem zA2 (n : Nat) (p : Int → Bool) : ((List.range n).map Int.ofNat).countP p ≤ n := by
 have := List.countP_le_length (p := p) (l := (List.range n).map Int.ofNat)
 simpa using this
theorem zM3 {K : Int} (h : 0 ≤ K) : (comps K [] : Int) = K := by
 have : ((List.range K.toNat).map Int.ofNat).countP (fun k => @decide (yg K [] k) (Classical.propDecidable _)) = ((List.range K.toNat).map Int.ofNat).length := by
  rw [List.countP_eq_length]
  intro k _
  simp only [decide_eq_true_eq]
  intro j _ _ hr
  have := zI3.1 hr
  omega
 unfold comps
 rw [this]
 simp
 omega
theorem zx3 {l : List Int} (hl : l.Nodup) {p q : Int → Bool} {x : Int} (hx : x ∈ l) (hp : p x = true) (hq : q x = false) (he : ∀ y ∈ l, y ≠ x → p y = q y) : l.countP p = l.countP q + 1 := by
 induction l with
 | nil => simp at hx
 | cons a l ih =>
  have hn := List.nodup_cons.1 hl
  by_cases ha : a = x
  ·subst ha
   rw [List.countP_cons_of_pos hp, List.countP_cons_of_neg (by simp [hq])]
   congr 1
   exact List.countP_congr (fun y hy => by rw [he y (by simp [hy]) (fun e => hn.1 (e ▸ hy))])
  ·have hx' : x ∈ l := by
    simp only [List.mem_cons] at hx
    rcases hx with hx | hx
    ·exact absurd hx.symm ha
    ·exact hx
   have hi := ih hn.2 hx' (fun y hy hne => he y (by simp [hy]) hne)
   have hpa := he a (by simp) ha
   cases hqa : q a with
   | true => rw [hqa] at hpa; rw [List.countP_cons_of_pos hpa, List.countP_cons_of_pos hqa, hi]
   | false => rw [hqa] at hpa; rw [List.countP_cons_of_neg (by simp [hpa]), List.countP_cons_of_neg (by simp [hqa]), hi]
theorem zG3 (n : Nat) : ((List.range n).map Int.ofNat).Nodup :=
 List.Pairwise.imp (fun {a b} h => by omega) (zP1 n)
theorem zp2 {K : Int} {E : List Tie} {u v : Int} (u0 : 0 ≤ u) (u1 : u < K) (v0 : 0 ≤ v) (v1 : v < K)
  (h : ¬ Conn E u v) : comps K E = comps K (⟨u, v⟩ :: E) + 1 := by
 -- the greater of the two least ya is a root no more
 have key : ∀ {u v : Int}, 0 ≤ u → u < K → 0 ≤ v → v < K → ¬ Conn E u v → prt K E u < prt K E v → comps K E = comps K (⟨u, v⟩ :: E) + 1 := by
  intro u v u0 u1 v0 v1 h hlt
  have hu := zZ (E := E) u0 u1
  have hv := zZ (E := E) v0 v1
  have ru := zl (E := E) u0 u1
  have rv := zl (E := E) v0 v1
  unfold comps
  refine zx3 (zG3 _) (x := prt K E v) (zt.2 hv) ?_ ?_ ?_
  ·simp only [decide_eq_true_eq]
   intro j j0 j1 hr
   exact zv v0 v1 j0 j1 (rv.trans hr)
  ·simp only [decide_eq_false_iff_not]
   intro hroot
   have := hroot (prt K E u) hu.1 hu.2 (zp.2 (.inr (.inr ⟨rv.symm, ru⟩)))
   omega
  ·intro k hk hne
   have hk' := zt.1 hk
   simp only [decide_eq_decide]
   constructor
   ·intro hroot j j0 j1 hr
    rcases zp.1 hr with h1 | ⟨h1, h2⟩ | ⟨h1, h2⟩
    ·exact hroot j j0 j1 h1
    ·have hku : k = prt K E u := by
      have h3 := hroot (prt K E u) hu.1 hu.2 (h1.trans ru)
      have h4 := zv u0 u1 hk'.1 hk'.2 h1.symm
      omega
     have := zv v0 v1 j0 j1 h2
     omega
    ·have hkv : k = prt K E v := by
      have h3 := hroot (prt K E v) hv.1 hv.2 (h1.trans rv)
      have h4 := zv v0 v1 hk'.1 hk'.2 h1.symm
      omega
     exact absurd hkv hne
   ·intro hroot j j0 j1 hr
    exact hroot j j0 j1 (zp.2 (.inl hr))
 have hne : prt K E u ≠ prt K E v := fun e => h ((zK1 u0 u1 v0 v1).1 e)
 rcases Int.lt_or_gt_of_ne hne with hlt | hlt
 ·exact key u0 u1 v0 v1 h hlt
 ·have h' : ¬ Conn E v u := fun k => h k.symm
  rw [key v0 v1 u0 u1 h' hlt]
  congr 1
  exact zC (fun a b => by
   rw [zp, zp]
   constructor
   ·rintro (h1 | h1 | h1)
    ·exact .inl h1
    ·exact .inr (.inr h1)
    ·exact .inr (.inl h1)
   ·rintro (h1 | h1 | h1)
    ·exact .inl h1
    ·exact .inr (.inr h1)
    ·exact .inr (.inl h1))
theorem zs3 {K : Int} {E F : List Tie} (h : ∀ t, t ∈ E ↔ t ∈ F) : comps K E = comps K F := zC (fun _ _ => zN1 h)
end Osier
/- Plain facts on spanning forests and bridges. No program in sight. -/
namespace Osier
set_option linter.unusedVariables false
def cut (E : List Tie) (t : Tie) : List Tie := E.filter (fun s => decide (s ≠ t))
theorem zK {E : List Tie} {s t : Tie} : s ∈ cut E t ↔ s ∈ E ∧ s ≠ t := by unfold cut; simp [List.mem_filter]
theorem Ok.cut {K : Int} {E : List Tie} (h : Ok K E) (t : Tie) : Ok K (cut E t) := h.filter _
theorem zh1 {E : List Tie} (hE : E.Nodup) {t : Tie} (h : t ∈ E) : (cut E t).length + 1 = E.length := by
 induction E with
 | nil => simp at h
 | cons e E ih =>
  have hn := List.nodup_cons.1 hE
  by_cases he : e = t
  ·subst he
   have : cut (e :: E) e = E := by
    unfold cut
    rw [List.filter_cons_of_neg (by simp)]
    exact List.filter_eq_self.2 (fun s hs => by simp; rintro rfl; exact hn.1 hs)
   rw [this]; simp
  ·have ht : t ∈ E := by
    simp only [List.mem_cons] at h
    rcases h with h | h
    ·exact absurd h.symm he
    ·exact h
   have : cut (e :: E) t = e :: cut E t := by
    unfold cut
    rw [List.filter_cons_of_pos (by simp [he])]
   rw [this]
   have := ih hn.2 ht
   simp; omega
def yh (K : Int) (L : List Tie) : Prop := (comps K L : Int) + L.length = K
def In (K : Int) (L : List Tie) : Prop := ∀ t ∈ L, (0 ≤ t.f0 ∧ t.f0 < K) ∧ 0 ≤ t.f1 ∧ t.f1 < K
theorem Ok.in_ {K : Int} {E : List Tie} (h : Ok K E) : In K E := fun t ht => by have := h.tie t ht; omega
open Classical in
noncomputable def kr (acc : List Tie) : List Tie → List Tie
 | [] => acc
 | t :: r => if Conn acc t.f0 t.f1 then kr acc r else kr (acc ++ [t]) r
theorem zy1 {acc r : List Tie} {t : Tie} (h : Conn acc t.f0 t.f1) : kr acc (t :: r) = kr acc r := by rw [kr, if_pos h]
theorem zo2 {acc r : List Tie} {t : Tie} (h : ¬ Conn acc t.f0 t.f1) : kr acc (t :: r) = kr (acc ++ [t]) r := by rw [kr, if_neg h]
theorem zj4 (r : List Tie) : ∀ acc, ∃ s, kr acc r = acc ++ s ∧ s.Sublist r := by
 induction r with
 | nil => intro acc; exact ⟨[], by simp [kr], List.Sublist.refl _⟩
 | cons t r ih =>
  intro acc
  by_cases h : Conn acc t.f0 t.f1
  ·obtain ⟨s, h1, h2⟩ := ih acc
   exact ⟨s, by rw [zy1 h, h1], h2.cons _⟩
  ·obtain ⟨s, h1, h2⟩ := ih (acc ++ [t])
   exact ⟨t :: s, by rw [zo2 h, h1]; simp, h2.cons_cons _⟩
theorem zq (E : List Tie) : (kr [] E).Sublist E := by
 obtain ⟨s, h1, h2⟩ := zj4 E []
 rw [h1]; simpa using h2
theorem zl4 (r : List Tie) : ∀ acc a b, Conn (kr acc r) a b ↔ Conn (acc ++ r) a b := by
 induction r with
 | nil => intro acc a b; simp [kr]
 | cons t r ih =>
  intro acc a b
  by_cases h : Conn acc t.f0 t.f1
  ·rw [zy1 h, ih]
   have e1 : Conn (acc ++ t :: r) a b ↔ Conn (⟨t.f0, t.f1⟩ :: (acc ++ r)) a b := zN1 (fun s => by
    simp only [List.mem_append, List.mem_cons]
    constructor
    ·rintro (h | h | h)
     ·exact .inr (.inl h)
     ·exact .inl h
     ·exact .inr (.inr h)
    ·rintro (h | h | h)
     ·exact .inr (.inl h)
     ·exact .inl h
     ·exact .inr (.inr h))
   rw [e1, zp]
   have h' : Conn (acc ++ r) t.f0 t.f1 := h.mono (fun s hs => by simp [hs])
   constructor
   ·exact .inl
   ·rintro (h1 | ⟨h1, h2⟩ | ⟨h1, h2⟩)
    ·exact h1
    ·exact (h1.trans h').trans h2
    ·exact (h1.trans h'.symm).trans h2
  ·rw [zo2 h, ih]
   simp
theorem zv1 (E : List Tie) (a b : Int) : Conn (kr [] E) a b ↔ Conn E a b := by rw [zl4]; simp
theorem zg4 (K : Int) (E : List Tie) : comps K (kr [] E) = comps K E := zC (zv1 E)
theorem zX2 {K : Int} (r : List Tie) (hr : In K r) : ∀ acc, In K acc → yh K acc → yh K (kr acc r) := by
 induction r with
 | nil => intro acc _ h; exact h
 | cons t r ih =>
  intro acc hin hf
  have ht := hr t (by simp)
  by_cases h : Conn acc t.f0 t.f1
  ·rw [zy1 h]; exact ih (fun s hs => hr s (by simp [hs])) acc hin hf
  ·rw [zo2 h]
   refine ih (fun s hs => hr s (by simp [hs])) _ ?_ ?_
   ·intro s hs
    simp only [List.mem_append, List.mem_singleton] at hs
    rcases hs with hs | rfl
    ·exact hin s hs
    ·exact ht
   ·have h1 := zp2 (K := K) ht.1.1 ht.1.2 ht.2.1 ht.2.2 h
    have h2 : comps K (acc ++ [t]) = comps K (⟨t.f0, t.f1⟩ :: acc) := zs3 (fun s => by
     simp only [List.mem_append, List.mem_cons, List.not_mem_nil, or_false]
     exact ⟨Or.symm, Or.symm⟩)
    unfold yh at *
    rw [h2]
    simp
    omega
theorem zQ3 {K : Int} {E : List Tie} (h : Ok K E) : yh K (kr [] E) :=
 zX2 E h.in_ [] (fun t ht => by simp at ht) (by have := zM3 h.k0; unfold yh; simp; omega)
theorem zy3 {K : Int} {E : List Tie} (h : Ok K E) : Ok K (kr [] E) := h.sub (zq E)
theorem zN3 {K : Int} {E : List Tie} (h : Ok K E) : ((kr [] E).length : Int) = K - comps K E := by
 have := zQ3 h
 unfold yh at this
 rw [zg4] at this
 omega
end Osier
/- Plain facts on ways: order, enumeration, shortest ways, distances. No program in sight. -/
namespace Osier
set_option linter.unusedVariables false
theorem zG2 {α : Type} {R : α → α → Prop} (irr : ∀ a, ¬ R a a) (asy : ∀ a b, R a b → ¬ R b a) {E F : List α} (hE : E.Pairwise R) (hF : F.Pairwise R) (h : ∀ t, t ∈ E ↔ t ∈ F) : E = F := by
 induction E generalizing F with
 | nil =>
  cases F with
  | nil => rfl
  | cons f F => exact absurd ((h f).2 (by simp)) (by simp)
 | cons e E ih =>
  cases F with
  | nil => exact absurd ((h e).1 (by simp)) (by simp)
  | cons f F =>
   have hE' := List.pairwise_cons.1 hE
   have hF' := List.pairwise_cons.1 hF
   have hef : e = f := by
    have h1 := (h e).1 (by simp)
    have h2 := (h f).2 (by simp)
    simp only [List.mem_cons] at h1 h2
    rcases h1 with h1 | h1
    ·exact h1
    ·rcases h2 with h2 | h2
     ·exact h2.symm
     ·exact absurd (hF'.1 _ h1) (asy _ _ (hE'.1 _ h2))
   subst hef
   congr 1
   refine ih hE'.2 hF'.2 (fun t => ?_)
   have ht := h t
   simp only [List.mem_cons] at ht
   constructor
   ·intro hm
    rcases ht.1 (.inr hm) with rfl | hm'
    ·exact absurd (hE'.1 _ hm) (irr _)
    ·exact hm'
   ·intro hm
    rcases ht.2 (.inr hm) with rfl | hm'
    ·exact absurd (hF'.1 _ hm) (irr _)
    ·exact hm'
def lex : List Int → List Int → Prop
 | _, [] => False
 | [], _ :: _ => True
 | x :: xs, y :: ys => x < y ∨ x = y ∧ lex xs ys
theorem zg1 (x : List Int) : ¬ lex x x := by
 induction x with
 | nil => exact id
 | cons a x ih => simp only [lex]; rintro (h | h); omega; exact ih h.2
theorem zU3 {x y z : List Int} (h : lex x y) (k : lex y z) : lex x z := by
 induction x generalizing y z with
 | nil =>
  cases y with
  | nil => exact h.elim
  | cons b y => cases z with
   | nil => exact k.elim
   | cons c z => trivial
 | cons a x ih =>
  cases y with
  | nil => exact h.elim
  | cons b y => cases z with
   | nil => exact k.elim
   | cons c z =>
    simp only [lex] at *
    rcases h with h | ⟨rfl, h⟩
    ·rcases k with k | ⟨rfl, k⟩
     ·exact .inl (by omega)
     ·exact .inl h
    ·rcases k with k | ⟨rfl, k⟩
     ·exact .inl k
     ·exact .inr ⟨rfl, ih h k⟩
theorem zX3 (x y : List Int) : lex x y ∨ x = y ∨ lex y x := by
 induction x generalizing y with
 | nil => cases y with
  | nil => exact .inr (.inl rfl)
  | cons b y => exact .inl trivial
 | cons a x ih => cases y with
  | nil => exact .inr (.inr trivial)
  | cons b y =>
   simp only [lex]
   rcases Int.lt_trichotomy a b with h | h | h
   ·exact .inl (.inl h)
   ·subst h
    rcases ih y with h | h | h
    ·exact .inl (.inr ⟨rfl, h⟩)
    ·subst h; exact .inr (.inl rfl)
    ·exact .inr (.inr (.inr ⟨rfl, h⟩))
   ·exact .inr (.inr (.inl h))
theorem zf2 {p : List Int} {a b : Int} (h : a < b) (x y : List Int) : lex (p ++ a :: x) (p ++ b :: y) := by
 induction p with
 | nil => exact .inl h
 | cons c p ih => exact .inr ⟨rfl, ih⟩
def wlt (x y : List Int) : Prop := x.length < y.length ∨ x.length = y.length ∧ lex x y
theorem zk2 (x : List Int) : ¬ wlt x x := by rintro (h | h); omega; exact zg1 _ h.2
theorem zS3 {x y z : List Int} (h : wlt x y) (k : wlt y z) : wlt x z := by
 rcases h with h | ⟨h1, h2⟩ <;> rcases k with k | ⟨k1, k2⟩
 ·exact .inl (by omega)
 ·exact .inl (by omega)
 ·exact .inl (by omega)
 ·exact .inr ⟨by omega, zU3 h2 k2⟩
theorem zK2 {x y : List Int} (h : wlt x y) : ¬ wlt y x := fun k => zk2 _ (zS3 h k)
theorem zV3 (x y : List Int) : wlt x y ∨ x = y ∨ wlt y x := by
 rcases Nat.lt_trichotomy x.length y.length with h | h | h
 ·exact .inl (.inl h)
 ·rcases zX3 x y with k | k | k
  ·exact .inl (.inr ⟨h, k⟩)
  ·exact .inr (.inl k)
  ·exact .inr (.inr (.inr ⟨h.symm, k⟩))
 ·exact .inr (.inr (.inl h))
def Walk (E : List Tie) : List Int → Prop
 | [] => True
 | [_] => True
 | a :: b :: l => Ed E a b ∧ Walk E (b :: l)
theorem Walk.tail {E : List Tie} {a : Int} {l : List Int} (h : Walk E (a :: l)) : Walk E l := by
 cases l with
 | nil => trivial
 | cons b l => exact h.2
theorem Walk.append {E : List Tie} {x y : List Int} {a b : Int} (hx : Walk E (x ++ [a])) (he : Ed E a b) (hy : Walk E (b :: y)) : Walk E (x ++ a :: b :: y) := by
 induction x with
 | nil => exact ⟨he, hy⟩
 | cons c x ih =>
  cases x with
  | nil => exact ⟨hx.1, ih hx.2⟩
  | cons d x => exact ⟨hx.1, ih hx.2⟩
theorem Walk.left {E : List Tie} {x y : List Int} (h : Walk E (x ++ y)) : Walk E x := by
 induction x with
 | nil => trivial
 | cons c x ih =>
  cases x with
  | nil => trivial
  | cons d x => exact ⟨h.1, ih h.2⟩
theorem Walk.right {E : List Tie} {x y : List Int} (h : Walk E (x ++ y)) : Walk E y := by
 induction x with
 | nil => exact h
 | cons c x ih => exact ih (Walk.tail h)
theorem Walk.mid {E : List Tie} {x y : List Int} {a b : Int} (h : Walk E (x ++ a :: b :: y)) : Ed E a b := (Walk.right h).1
theorem Walk.mono {E F : List Tie} (hs : ∀ t ∈ E, t ∈ F) {x : List Int} (h : Walk E x) : Walk F x := by
 induction x with
 | nil => trivial
 | cons c x ih =>
  cases x with
  | nil => trivial
  | cons d x => exact ⟨h.1.mono hs, ih h.2⟩
theorem Walk.snoc {E : List Tie} {x : List Int} {a b : Int} (hx : Walk E (x ++ [a])) (he : Ed E a b) : Walk E (x ++ [a] ++ [b]) := by
 have := Walk.append (y := []) hx he trivial
 simpa using this
theorem Walk.reach {E : List Tie} {a b : Int} {x : List Int} (h : Walk E (a :: x)) (hl : (a :: x).getLast? = some b) : Conn E a b := by
 induction x generalizing a with
 | nil => simp at hl; subst hl; exact .refl
 | cons c x ih => exact (Conn.one h.1).trans (ih h.2 (by simpa using hl))
structure Pth (K : Int) (E : List Tie) (w : List Int) : Prop where
 ne : w ≠ []
 in_ : ∀ v ∈ w, 0 ≤ v ∧ v < K
 walk : Walk E w
 nodup : w.Nodup
theorem Pth.left {K : Int} {E : List Tie} {x y : List Int} (h : Pth K E (x ++ y)) (hx : x ≠ []) : Pth K E x :=
 ⟨hx, fun v hv => h.in_ v (by simp [hv]), h.walk.left, (List.nodup_append.1 h.nodup).1⟩
theorem Pth.mono {K : Int} {E F : List Tie} (hs : ∀ t ∈ E, t ∈ F) {x : List Int} (h : Pth K E x) : Pth K F x := ⟨h.ne, h.in_, h.walk.mono hs, h.nodup⟩
inductive Steps (E : List Tie) : Nat → Int → Int → Prop
 | zero {a : Int} : Steps E 0 a a
 | succ {n : Nat} {a b c : Int} : Ed E a b → Steps E n b c → Steps E (n + 1) a c
theorem Steps.trans {E : List Tie} {m n : Nat} {a b c : Int} (h : Steps E m a b) (k : Steps E n b c) : Steps E (m + n) a c := by
 induction h with
 | zero => rwa [Nat.zero_add]
 | @succ m _ _ _ he _ ih => rw [Nat.add_right_comm]; exact .succ he (ih k)
theorem Steps.one {E : List Tie} {a b : Int} (h : Ed E a b) : Steps E 1 a b := .succ h .zero
theorem Steps.snoc {E : List Tie} {m : Nat} {a b c : Int} (h : Steps E m a b) (he : Ed E b c) : Steps E (m + 1) a c := h.trans (.one he)
theorem Steps.symm {E : List Tie} {m : Nat} {a b : Int} (h : Steps E m a b) : Steps E m b a := by
 induction h with
 | zero => exact .zero
 | succ he _ ih => exact ih.snoc he.symm
theorem Steps.reach {E : List Tie} {m : Nat} {a b : Int} (h : Steps E m a b) : Conn E a b := by
 induction h with
 | zero => exact .refl
 | succ he _ ih => exact (Conn.one he).trans ih
theorem Conn.steps {E : List Tie} {a b : Int} (h : Conn E a b) : ∃ m, Steps E m a b := by
 induction h with
 | refl => exact ⟨0, .zero⟩
 | step _ he ih => obtain ⟨m, hm⟩ := ih; exact ⟨m + 1, hm.snoc he⟩
theorem Walk.steps {E : List Tie} {a b : Int} {x : List Int} (h : Walk E (a :: x)) (hl : (a :: x).getLast? = some b) : Steps E x.length a b := by
 induction x generalizing a with
 | nil => simp at hl; subst hl; exact .zero
 | cons c x ih => exact .succ h.1 (ih h.2 (by simpa using hl))
def Dist (E : List Tie) (a b : Int) (d : Nat) : Prop := Steps E d a b ∧ ∀ m, Steps E m a b → d ≤ m
theorem Dist.symm {E : List Tie} {a b : Int} {d : Nat} (h : Dist E a b d) : Dist E b a d := ⟨h.1.symm, fun m hm => h.2 m hm.symm⟩
theorem Dist.unique {E : List Tie} {a b : Int} {d e : Nat} (h : Dist E a b d) (k : Dist E a b e) : d = e := by
 have := h.2 e k.1
 have := k.2 d h.1
 omega
theorem zk3 {p : Nat → Prop} (h : ∃ n, p n) : ∃ n, p n ∧ ∀ m, p m → n ≤ m := by
 obtain ⟨n, hn⟩ := h
 induction n using Nat.strongRecOn with
 | ind n ih =>
  by_cases h : ∃ m, m < n ∧ p m
  ·obtain ⟨m, hm, hp⟩ := h; exact ih m hm hp
  ·exact ⟨n, hn, fun m hm => Nat.le_of_not_lt (fun hlt => h ⟨m, hlt, hm⟩)⟩
theorem Conn.dist {E : List Tie} {a b : Int} (h : Conn E a b) : ∃ d, Dist E a b d := zk3 h.steps
theorem Dist.zero {E : List Tie} {a b : Int} (h : Dist E a b 0) : a = b := by
 have := h.1
 cases this
 rfl
theorem Dist.self {E : List Tie} {a : Int} : Dist E a a 0 := ⟨.zero, fun _ _ => Nat.zero_le _⟩
theorem Dist.down {E : List Tie} {a c : Int} {d : Nat} (h : Dist E a c (d + 1)) : ∃ b, Ed E a b ∧ Dist E b c d := by
 have h1 := h.1
 cases h1 with
 | succ he hs =>
  refine ⟨_, he, hs, fun m hm => ?_⟩
  have := h.2 _ (.succ he hm)
  omega
open Classical in
noncomputable def stepTo (K : Int) (E : List Tie) (b a : Int) (d : Nat) : Int := leastOf K (fun x => Ed E a x ∧ Dist E x b d)
noncomputable def short (K : Int) (E : List Tie) (b : Int) : Nat → Int → List Int
 | 0, a => [a]
 | d + 1, a => a :: short K E b d (stepTo K E b a d)
theorem zh {K : Int} {E : List Tie} (hE : Ok K E) {a b : Int} {d : Nat} (h : Dist E a b (d + 1)) :
  Ed E a (stepTo K E b a d) ∧ Dist E (stepTo K E b a d) b d ∧ ∀ x, Ed E a x → Dist E x b d → stepTo K E b a d ≤ x := by
 obtain ⟨x, he, hd⟩ := h.down
 have hx := (hE.ed_in he).2.1
 obtain ⟨h1, _, _, h2⟩ := zi (p := fun x => Ed E a x ∧ Dist E x b d) hx.1 hx.2 ⟨he, hd⟩
 exact ⟨h1.1, h1.2, fun y hy hdy => by have hy' := (hE.ed_in hy).2.1; exact h2 y hy'.1 hy'.2 ⟨hy, hdy⟩⟩
theorem zx {K : Int} {E : List Tie} {b : Int} (d : Nat) : ∀ a, (short K E b d a).length = d + 1 := by
 induction d with
 | zero => intro a; rfl
 | succ d ih => intro a; simp [short, ih]
theorem zg {K : Int} {E : List Tie} {b : Int} (d : Nat) (a : Int) : ∃ l, short K E b d a = a :: l := by
 cases d with
 | zero => exact ⟨[], rfl⟩
 | succ d => exact ⟨_, rfl⟩
theorem zd1 {K : Int} {E : List Tie} (hE : Ok K E) {b : Int} (d : Nat) : ∀ a, Dist E a b d → (short K E b d a).getLast? = some b := by
 induction d with
 | zero => intro a h; rw [h.zero]; rfl
 | succ d ih =>
  intro a h
  have := ih _ (zh hE h).2.1
  obtain ⟨l, hl⟩ := zg (K := K) (E := E) (b := b) d (stepTo K E b a d)
  simp only [short]
  rw [hl] at this ⊢
  simpa using this
theorem zB3 {K : Int} {E : List Tie} (hE : Ok K E) {b : Int} (d : Nat) : ∀ a, Dist E a b d → Walk E (short K E b d a) := by
 induction d with
 | zero => intro a h; trivial
 | succ d ih =>
  intro a h
  have hs := zh hE h
  have := ih _ hs.2.1
  obtain ⟨l, hl⟩ := zg (K := K) (E := E) (b := b) d (stepTo K E b a d)
  simp only [short]
  rw [hl] at this ⊢
  exact ⟨hs.1, this⟩
theorem zP3 {K : Int} {E : List Tie} (hE : Ok K E) {b : Int} (d : Nat) : ∀ a, Dist E a b d → ∀ x ∈ short K E b d a, ∃ e, e ≤ d ∧ Dist E x b e ∧ (e = d → x = a) := by
 induction d with
 | zero => intro a h x hx; simp [short] at hx; subst hx; exact ⟨0, Nat.le_refl _, h, fun _ => rfl⟩
 | succ d ih =>
  intro a h x hx
  simp only [short, List.mem_cons] at hx
  rcases hx with rfl | hx
  ·exact ⟨d + 1, Nat.le_refl _, h, fun _ => rfl⟩
  ·obtain ⟨e, he, hd, _⟩ := ih _ (zh hE h).2.1 x hx
   exact ⟨e, by omega, hd, fun h => by omega⟩
theorem zo3 {K : Int} {E : List Tie} (hE : Ok K E) {b : Int} (d : Nat) : ∀ a, Dist E a b d → (short K E b d a).Nodup := by
 induction d with
 | zero => intro a h; simp [short]
 | succ d ih =>
  intro a h
  have hs := zh hE h
  simp only [short, List.nodup_cons]
  refine ⟨fun hm => ?_, ih _ hs.2.1⟩
  obtain ⟨e, he, hd, _⟩ := zP3 hE d _ hs.2.1 a hm
  have := h.unique hd
  omega
theorem zh4 {K : Int} {E : List Tie} (hE : Ok K E) {b : Int} (d : Nat) : ∀ a, 0 ≤ a ∧ a < K → Dist E a b d → ∀ v ∈ short K E b d a, 0 ≤ v ∧ v < K := by
 induction d with
 | zero => intro a ha h v hv; simp [short] at hv; subst hv; exact ha
 | succ d ih =>
  intro a ha h v hv
  have hs := zh hE h
  simp only [short, List.mem_cons] at hv
  rcases hv with rfl | hv
  ·exact ha
  ·exact ih _ (hE.ed_in hs.1).2.1 hs.2.1 v hv
theorem zE {K : Int} {E : List Tie} (hE : Ok K E) {a b : Int} {d : Nat} (ha : 0 ≤ a ∧ a < K) (h : Dist E a b d) : Pth K E (short K E b d a) :=
 ⟨by obtain ⟨l, hl⟩ := zg (K := K) (E := E) (b := b) d a; rw [hl]; simp, zh4 hE d a ha h, zB3 hE d a h, zo3 hE d a h⟩
theorem zm3 {K : Int} {E : List Tie} (hE : Ok K E) {b : Int} (d : Nat) : ∀ a (x : List Int), Dist E a b d → Walk E (a :: x) → (a :: x).getLast? = some b → ¬ wlt (a :: x) (short K E b d a) := by
 induction d with
 | zero =>
  intro a x h hw hl hlt
  rcases hlt with hlt | ⟨h1, h2⟩
  ·simp [short] at hlt
  ·simp only [short, List.length_cons, List.length_nil] at h1
   have : x = [] := List.eq_nil_of_length_eq_zero (by omega)
   subst this
   exact zg1 _ h2
 | succ d ih =>
  intro a x h hw hl hlt
  have hlen := h.2 _ (hw.steps hl)
  have hs := zh hE h
  have hsl := zx (K := K) (E := E) (b := b) (d + 1) a
  rcases hlt with hlt | ⟨h1, h2⟩
  ·simp only [List.length_cons] at hlt; omega
  ·cases x with
   | nil => simp at hlen
   | cons y x =>
    have hyl : (y :: x).getLast? = some b := by simpa using hl
    have hst := Walk.steps hw.2 hyl
    simp only [List.length_cons] at h1
    have hxd : x.length = d := by omega
    have hyd : Dist E y b d := ⟨hxd ▸ hst, fun m hm => by have := h.2 _ (.succ hw.1 hm); omega⟩
    have hle := hs.2.2 y hw.1 hyd
    simp only [short] at h2
    obtain ⟨l, hl2⟩ := zg (K := K) (E := E) (b := b) d (stepTo K E b a d)
    rw [hl2] at h2
    simp only [lex] at h2
    rcases h2 with h2 | ⟨_, h2⟩
    ·omega
    ·rcases h2 with h2 | ⟨h2, h3⟩
     ·omega
     ·subst h2
      refine ih _ x hs.2.1 hw.2 hyl (.inr ⟨?_, ?_⟩)
      ·rw [zx]; simp; omega
      ·rw [hl2]; exact .inr ⟨rfl, h3⟩
end Osier
/- Plain facts on the list of all ways. No program in sight. -/
namespace Osier
set_option linter.unusedVariables false
def yb (E : List Tie) (ks : List Int) (a : Int) : List Int := ks.filter (fun x => decide (mkT a x ∈ E))
def ya (K : Int) : List Int := (List.range K.toNat).map Int.ofNat
theorem zk {K : Int} {E : List Tie} (hE : Ok K E) {a x : Int} : x ∈ yb E (ya K) a ↔ Ed E a x := by
 unfold yb ya
 simp only [List.mem_filter, decide_eq_true_eq, ← hE.ed]
 constructor
 ·exact fun h => h.2
 ·intro h; exact ⟨zt.2 (hE.ed_in h).2.1, h⟩
theorem zA1 (K : Int) (E : List Tie) (a : Int) : (yb E (ya K) a).Pairwise (· < ·) := List.Pairwise.sublist List.filter_sublist (zP1 _)
def yc (E : List Tie) (ks : List Int) (tg : Int) : Nat → List Int → List (List Int)
 | 0, _ => []
 | f + 1, way =>
  if way.getLast? = some tg then [way]
  else ((yb E ks ((way.getLast?).getD 0)).filter (fun x => decide (x ∉ way))).flatMap (fun x => yc E ks tg f (way ++ [x]))
def onF (E : List Tie) (ks : List Int) (tg : Int) (size : Nat) : Nat → List Int → List (List Int)
 | 0, _ => []
 | f + 1, way =>
  if way.getLast? = some tg then (if way.length = size then [way] else [])
  else if way.length ≥ size then []
  else ((yb E ks ((way.getLast?).getD 0)).filter (fun x => decide (x ∉ way))).flatMap (fun x => onF E ks tg size f (way ++ [x]))
theorem zv2 {K : Int} {l : List Int} (hn : l.Nodup) (h : ∀ v ∈ l, 0 ≤ v ∧ v < K) : (l.length : Int) ≤ K ∨ l = [] := by
 by_cases hl : l = []
 ·exact .inr hl
 ·refine .inl ?_
  have hK : 0 ≤ K := by
   cases l with
   | nil => exact absurd rfl hl
   | cons a l => have := h a (by simp); omega
  -- by counting: remove members from the list of numbers
  have key : ∀ (l r : List Int), l.Nodup → (∀ v ∈ l, v ∈ r) → l.length ≤ r.length := by
   intro l
   induction l with
   | nil => intro r _ _; simp
   | cons a l ih =>
    intro r hn hs
    have ha := hs a (by simp)
    have hc := List.nodup_cons.1 hn
    have := ih (r.erase a) hc.2 (fun v hv => (List.mem_erase_of_ne (fun e => by subst e; exact hc.1 hv)).2 (hs v (by simp [hv])))
    rw [List.length_erase_of_mem ha] at this
    have : 0 < r.length := List.length_pos_of_mem ha
    simp only [List.length_cons]
    omega
  have := key l ((List.range K.toNat).map Int.ofNat) hn (fun v hv => zt.2 (h v hv))
  simp at this
  omega
theorem Pth.length_le {K : Int} {E : List Tie} {w : List Int} (h : Pth K E w) : (w.length : Int) ≤ K := by
 rcases zv2 h.nodup h.in_ with h1 | h1
 ·exact h1
 ·exact absurd h1 h.ne
theorem Pth.snoc_iff {K : Int} {E : List Tie} (hE : Ok K E) {way : List Int} (hw : Pth K E way) {x : Int} : Pth K E (way ++ [x]) ↔ Ed E ((way.getLast?).getD 0) x ∧ x ∉ way := by
 obtain ⟨p, a, rfl⟩ : ∃ p a, way = p ++ [a] := by
  exact ⟨_, _, (List.dropLast_concat_getLast hw.ne).symm⟩
 have hl : ((p ++ [a]).getLast?).getD 0 = a := by simp
 rw [hl]
 constructor
 ·intro h
  refine ⟨?_, ?_⟩
  ·have := h.walk
   rw [List.append_assoc] at this
   exact Walk.mid this
  ·have := h.nodup
   rw [List.nodup_append] at this
   intro hm
   exact this.2.2 x hm x (by simp) rfl
 ·rintro ⟨h1, h2⟩
  refine ⟨by simp, ?_, Walk.snoc hw.walk h1, ?_⟩
  ·intro v hv
   simp only [List.mem_append, List.mem_singleton] at hv
   rcases hv with hv | rfl
   ·exact hw.in_ v (by simpa using hv)
   ·exact (hE.ed_in h1).2.1
  ·rw [List.nodup_append]
   refine ⟨hw.nodup, by simp, ?_⟩
   intro v hv u hu
   simp only [List.mem_singleton] at hu
   subst hu
   rintro rfl
   exact h2 hv
theorem zL2 {K : Int} {E : List Tie} (hE : Ok K E) {tg : Int} (f : Nat) : ∀ way, Pth K E way → K < f + way.length → ∀ x, x ∈ yc E (ya K) tg f way ↔ (∃ s, x = way ++ s) ∧ Pth K E x ∧ x.getLast? = some tg := by
 induction f with
 | zero =>
  intro way hw hf x
  have := hw.length_le
  omega
 | succ f ih =>
  intro way hw hf x
  rw [yc]
  by_cases hl : way.getLast? = some tg
  ·rw [if_pos hl]
   simp only [List.mem_singleton]
   constructor
   ·rintro rfl; exact ⟨⟨[], by simp⟩, hw, hl⟩
   ·rintro ⟨⟨s, rfl⟩, h1, h2⟩
    cases s with
    | nil => simp
    | cons c s =>
     exfalso
     have hd := (List.nodup_append.1 h1.nodup).2.2
     have hm : tg ∈ way := List.mem_of_getLast? hl
     have hm2 : tg ∈ c :: s := by
      rw [List.getLast?_append] at h2
      have : (c :: s).getLast? = some tg := by
       cases hcs : (c :: s).getLast? with
       | none => simp at hcs
       | some z => rw [hcs] at h2; simpa using h2
      exact List.mem_of_getLast? this
     exact hd tg hm tg hm2 rfl
  ·rw [if_neg hl]
   simp only [List.mem_flatMap, List.mem_filter, decide_eq_true_eq, zk hE]
   constructor
   ·rintro ⟨y, ⟨hy, hny⟩, hx⟩
    have hw' := (Pth.snoc_iff hE hw).2 ⟨hy, hny⟩
    obtain ⟨⟨s, rfl⟩, h1, h2⟩ := (ih _ hw' (by simp; omega) x).1 hx
    exact ⟨⟨y :: s, by simp⟩, h1, h2⟩
   ·rintro ⟨⟨s, rfl⟩, h1, h2⟩
    cases s with
    | nil => simp at h2; exact absurd h2 hl
    | cons y s =>
     have h1' : Pth K E (way ++ [y] ++ s) := by simpa using h1
     have hw' : Pth K E (way ++ [y]) := h1'.left (by simp)
     have hy := (Pth.snoc_iff hE hw).1 hw'
     exact ⟨y, hy, (ih _ hw' (by simp; omega) _).2 ⟨⟨s, by simp⟩, h1, h2⟩⟩
theorem zq3 {K : Int} {E : List Tie} (hE : Ok K E) {tg : Int} {size : Nat} (f : Nat) : ∀ way, Pth K E way → size < f + way.length → ∀ x, x ∈ onF E (ya K) tg size f way ↔ (∃ s, x = way ++ s) ∧ Pth K E x ∧ x.getLast? = some tg ∧ x.length = size := by
 induction f with
 | zero =>
  intro way hw hf x
  simp only [onF, List.not_mem_nil, false_iff]
  rintro ⟨⟨s, rfl⟩, _, _, h⟩
  simp at h; omega
 | succ f ih =>
  intro way hw hf x
  rw [onF]
  by_cases hl : way.getLast? = some tg
  ·rw [if_pos hl]
   have key : (∃ s, x = way ++ s) ∧ Pth K E x ∧ x.getLast? = some tg → x = way := by
    rintro ⟨⟨s, rfl⟩, h1, h2⟩
    cases s with
    | nil => simp
    | cons c s =>
     exfalso
     have hd := (List.nodup_append.1 h1.nodup).2.2
     have hm : tg ∈ way := List.mem_of_getLast? hl
     have hm2 : tg ∈ c :: s := by
      rw [List.getLast?_append] at h2
      have : (c :: s).getLast? = some tg := by
       cases hcs : (c :: s).getLast? with
       | none => simp at hcs
       | some z => rw [hcs] at h2; simpa using h2
      exact List.mem_of_getLast? this
     exact hd tg hm tg hm2 rfl
   by_cases hs : way.length = size
   ·rw [if_pos hs]
    simp only [List.mem_singleton]
    constructor
    ·rintro rfl; exact ⟨⟨[], by simp⟩, hw, hl, hs⟩
    ·rintro ⟨h0, h1, h2, _⟩; exact key ⟨h0, h1, h2⟩
   ·rw [if_neg hs]
    simp only [List.not_mem_nil, false_iff]
    rintro ⟨h0, h1, h2, h3⟩
    have := key ⟨h0, h1, h2⟩
    subst this
    exact hs h3
  ·rw [if_neg hl]
   by_cases hs : way.length ≥ size
   ·rw [if_pos hs]
    simp only [List.not_mem_nil, false_iff]
    rintro ⟨⟨s, rfl⟩, h1, h2, h3⟩
    simp only [List.length_append] at h3
    have : s = [] := List.eq_nil_of_length_eq_zero (by omega)
    subst this
    simp at h2
    exact hl h2
   ·rw [if_neg hs]
    simp only [List.mem_flatMap, List.mem_filter, decide_eq_true_eq, zk hE]
    constructor
    ·rintro ⟨y, ⟨hy, hny⟩, hx⟩
     have hw' := (Pth.snoc_iff hE hw).2 ⟨hy, hny⟩
     obtain ⟨⟨s, rfl⟩, h1, h2⟩ := (ih _ hw' (by simp; omega) x).1 hx
     exact ⟨⟨y :: s, by simp⟩, h1, h2⟩
    ·rintro ⟨⟨s, rfl⟩, h1, h2⟩
     cases s with
     | nil => simp at h2; exact absurd h2.1 hl
     | cons y s =>
      have h1' : Pth K E (way ++ [y] ++ s) := by simpa using h1
      have hw' : Pth K E (way ++ [y]) := h1'.left (by simp)
      have hy := (Pth.snoc_iff hE hw).1 hw'
      exact ⟨y, hy, (ih _ hw' (by simp; omega) _).2 ⟨⟨s, by simp⟩, h1, h2⟩⟩
theorem zn {α β : Type} {R : β → β → Prop} {f : α → List β} (l : List α) (h1 : ∀ a ∈ l, (f a).Pairwise R) (h2 : l.Pairwise (fun a b => ∀ x ∈ f a, ∀ y ∈ f b, R x y)) : (l.flatMap f).Pairwise R := by
 induction l with
 | nil => simp
 | cons a l ih =>
  have hc := List.pairwise_cons.1 h2
  rw [List.flatMap_cons, List.pairwise_append]
  refine ⟨h1 a (by simp), ih (fun b hb => h1 b (by simp [hb])) hc.2, ?_⟩
  intro x hx y hy
  obtain ⟨b, hb, hyb⟩ := List.mem_flatMap.1 hy
  exact hc.1 b hb x hx y hyb
theorem zO1 (E : List Tie) (ks : List Int) (tg : Int) (f : Nat) : ∀ way x, x ∈ yc E ks tg f way → ∃ s, x = way ++ s := by
 induction f with
 | zero => intro way x hx; simp [yc] at hx
 | succ f ih =>
  intro way x hx
  rw [yc] at hx
  split at hx
  ·simp only [List.mem_singleton] at hx; exact ⟨[], by simp [hx]⟩
  ·obtain ⟨y, _, hx⟩ := List.mem_flatMap.1 hx
   obtain ⟨s, rfl⟩ := ih _ _ hx
   exact ⟨y :: s, by simp⟩
theorem zu (E : List Tie) (ks : List Int) (tg : Int) (size : Nat) (f : Nat) : ∀ way x, x ∈ onF E ks tg size f way → (∃ s, x = way ++ s) ∧ x.length = size := by
 induction f with
 | zero => intro way x hx; simp [onF] at hx
 | succ f ih =>
  intro way x hx
  rw [onF] at hx
  split at hx
  ·split at hx
   ·simp only [List.mem_singleton] at hx; subst hx; exact ⟨⟨[], by simp⟩, by assumption⟩
   ·simp at hx
  ·split at hx
   ·simp at hx
   ·obtain ⟨y, _, hx⟩ := List.mem_flatMap.1 hx
    obtain ⟨⟨s, rfl⟩, h⟩ := ih _ _ hx
    exact ⟨⟨y :: s, by simp⟩, h⟩
theorem zO3 (K : Int) (E : List Tie) (tg : Int) (f : Nat) : ∀ way, (yc E (ya K) tg f way).Pairwise lex := by
 induction f with
 | zero => intro way; simp [yc]
 | succ f ih =>
  intro way
  rw [yc]
  split
  ·simp
  ·refine zn _ (fun a _ => ih _) ?_
   refine List.Pairwise.imp ?_ (List.Pairwise.sublist List.filter_sublist (zA1 K E _))
   intro a b hab x hx y hy
   obtain ⟨s, rfl⟩ := zO1 _ _ _ _ _ _ hx
   obtain ⟨t, rfl⟩ := zO1 _ _ _ _ _ _ hy
   rw [List.append_assoc, List.append_assoc]
   exact zf2 hab s t
theorem zs4 (K : Int) (E : List Tie) (tg : Int) (size : Nat) (f : Nat) : ∀ way, (onF E (ya K) tg size f way).Pairwise lex := by
 induction f with
 | zero => intro way; simp [onF]
 | succ f ih =>
  intro way
  rw [onF]
  split
  ·split <;> simp
  ·split
   ·simp
   ·refine zn _ (fun a _ => ih _) ?_
    refine List.Pairwise.imp ?_ (List.Pairwise.sublist List.filter_sublist (zA1 K E _))
    intro a b hab x hx y hy
    obtain ⟨⟨s, rfl⟩, _⟩ := zu _ _ _ _ _ _ _ hx
    obtain ⟨⟨t, rfl⟩, _⟩ := zu _ _ _ _ _ _ _ hy
    rw [List.append_assoc, List.append_assoc]
    exact zf2 hab s t
def ye (K : Int) (E : List Tie) (a b : Int) : List (List Int) := (List.range K.toNat).flatMap (fun i => onF E (ya K) b (i + 1) (i + 2) [a])
theorem zY {K : Int} {E : List Tie} {a : Int} (ha : 0 ≤ a ∧ a < K) : Pth K E [a] := ⟨by simp, by simpa using ha, trivial, by simp⟩
theorem za2 {K : Int} {E : List Tie} (hE : Ok K E) {a b : Int} (ha : 0 ≤ a ∧ a < K) (x : List Int) : x ∈ ye K E a b ↔ Pth K E x ∧ x.head? = some a ∧ x.getLast? = some b := by
 unfold ye
 simp only [List.mem_flatMap, List.mem_range]
 constructor
 ·rintro ⟨i, hi, hx⟩
  obtain ⟨⟨s, rfl⟩, h1, h2, h3⟩ := (zq3 hE _ _ (zY ha) (by simp) x).1 hx
  exact ⟨h1, by simp, h2⟩
 ·rintro ⟨h1, h2, h3⟩
  have hle := h1.length_le
  cases x with
  | nil => simp at h2
  | cons c s =>
   simp only [List.head?_cons, Option.some.injEq] at h2
   subst h2
   simp only [List.length_cons] at hle
   exact ⟨s.length, by omega, (zq3 hE _ _ (zY ha) (by simp) _).2 ⟨⟨s, by simp⟩, h1, h3, by simp⟩⟩
theorem zM1 (K : Int) (E : List Tie) (a b : Int) : (ye K E a b).Pairwise wlt := by
 unfold ye
 refine zn _ (fun i _ => ?_) ?_
 ·refine List.Pairwise.imp_of_mem ?_ (zs4 K E b (i + 1) (i + 2) [a])
  intro x y hx hy hxy
  exact .inr ⟨by rw [(zu _ _ _ _ _ _ _ hx).2, (zu _ _ _ _ _ _ _ hy).2], hxy⟩
 ·refine List.Pairwise.imp ?_ List.pairwise_lt_range
  intro i j hij x hx y hy
  exact .inl (by rw [(zu _ _ _ _ _ _ _ hx).2, (zu _ _ _ _ _ _ _ hy).2]; omega)
theorem zn3 {K : Int} {E : List Tie} (hE : Ok K E) {a b : Int} (ha : 0 ≤ a ∧ a < K) {l : List (List Int)} {f : Nat} (hf : K < f + 1) (hp : l.Perm (yc E (ya K) b f [a])) (hs : l.Pairwise (fun x y => ¬ wlt y x)) : l = ye K E a b := by
 have hn : l.Nodup := by
  rw [List.Perm.nodup_iff hp]
  exact List.Pairwise.imp (fun {x y} h e => by subst e; exact zg1 _ h) (zO3 K E b f [a])
 have hs' : l.Pairwise wlt := by
  have := List.Pairwise.and hs hn
  refine List.Pairwise.imp ?_ this
  rintro x y ⟨h1, h2⟩
  rcases zV3 x y with h | h | h
  ·exact h
  ·exact absurd h h2
  ·exact absurd h h1
 refine zG2 zk2 (fun _ _ => zK2) hs' (zM1 K E a b) (fun x => ?_)
 rw [hp.mem_iff, zL2 hE _ _ (zY ha) (by simp; omega), za2 hE ha]
 constructor
 ·rintro ⟨⟨s, rfl⟩, h1, h2⟩; exact ⟨h1, by simp, h2⟩
 ·rintro ⟨h1, h2, h3⟩
  cases x with
  | nil => simp at h2
  | cons c s => simp at h2; subst h2; exact ⟨⟨s, by simp⟩, h1, h3⟩
theorem zR2 {α : Type} {R : α → α → Prop} (asy : ∀ a b, R a b → ¬ R b a) {l : List α} (hl : l.Pairwise R) {x : α} (hx : x ∈ l) (hm : ∀ y ∈ l, ¬ R y x) : l.head? = some x := by
 cases l with
 | nil => simp at hx
 | cons a l =>
  simp only [List.mem_cons] at hx
  rcases hx with rfl | hx
  ·rfl
  ·exact absurd ((List.pairwise_cons.1 hl).1 x hx) (hm a (by simp))
theorem zc4 {K : Int} {E : List Tie} (hE : Ok K E) {a b : Int} (ha : 0 ≤ a ∧ a < K) {d : Nat} (h : Dist E a b d) : (ye K E a b).head? = some (short K E b d a) := by
 refine zR2 (fun _ _ => zK2) (zM1 K E a b) ?_ ?_
 ·rw [za2 hE ha]
  obtain ⟨l, hl⟩ := zg (K := K) (E := E) (b := b) d a
  exact ⟨zE hE ha h, by rw [hl]; rfl, zd1 hE d a h⟩
 ·intro y hy
  rw [za2 hE ha] at hy
  obtain ⟨h1, h2, h3⟩ := hy
  cases y with
  | nil => simp at h2
  | cons c s =>
   simp at h2; subst h2
   exact zm3 hE d c s h h1.walk h3
end Osier
end
section
namespace Go.Proofs.Ytgoembpmhlmafaa.E
open Go.RowKit Go.Proofs.YtgoembpmhlmafaaW.PrintWords Go.Proofs.YtgoembpmhlmafaaW.PrintMore Go.Proofs.Ytgoembpmhlmafaa.P Osier
set_option linter.unusedVariables false
theorem zB (a b c : Int) : spec_l6In.f a b c = some (dec (b ≤ a ∧ a ≤ c)) := by
 unfold spec_l6In.f
 by_cases h : a ≥ b
 ·rw [if_pos h, dec_decide]
  exact congrArg some (dec_congr ⟨fun h' => ⟨h, h'⟩, fun h' => h'.2⟩)
 ·rw [if_neg h, dec_false (by omega)]
theorem zk1 (s t : STie) : spec_l1Less.f s.f0 s.f1 t.f0 t.f1 = some (dec (tlt s t)) := by
 unfold spec_l1Less.f
 by_cases h : s.f0 < t.f0
 ·rw [if_pos h, dec_true (.inl h)]
 ·rw [if_neg h]
  by_cases h' : s.f0 = t.f0
  ·rw [if_pos h', dec_decide]
   exact congrArg some (dec_congr ⟨fun k => .inr ⟨h', k⟩, fun k => k.elim (fun k => absurd k h) (fun k => k.2)⟩)
  ·rw [if_neg h', dec_false (fun k => k.elim h (fun k => h' k.1))]
def At (K : Int) (E : List STie) (j : Nat) (h : j < E.length) : Prop := (0 ≤ E[j].f0 ∧ E[j].f0 < E[j].f1 ∧ E[j].f1 < K) ∧ (∀ h0 : 0 < j, tlt E[j - 1] E[j])
theorem zE1 (E : List STie) : Asc E ↔ ∀ j (h : j < E.length), 0 < j → tlt E[j - 1] E[j] := by
 constructor
 ·intro h j hj h0
  exact List.pairwise_iff_getElem.1 h (j - 1) j (by omega) hj (by omega)
 ·intro h
  refine List.pairwise_iff_getElem.2 ?_
  intro i j hi hj hij
  obtain ⟨d, rfl⟩ : ∃ d, j = i + d + 1 := ⟨j - i - 1, by omega⟩
  induction d with
  | zero => have := h (i + 1) hj (by omega); simpa using this
  | succ d ih =>
   have h1 := ih (by omega) (by omega)
   have h2 := h (i + (d + 1) + 1) hj (by omega)
   exact tlt_trans h1 h2
theorem zt4 (K : Int) (E : List STie) : Ok K E ↔ (0 ≤ K ∧ K ≤ 8) ∧ ∀ j (h : j < E.length), At K E j h := by
 constructor
 ·intro h
  refine ⟨⟨h.k0, h.k8⟩, fun j hj => ⟨h.tie _ (List.getElem_mem hj), fun h0 => (zE1 E).1 h.asc j hj h0⟩⟩
 ·rintro ⟨⟨h0, h1⟩, h⟩
  refine ⟨h0, h1, fun t ht => ?_, (zE1 E).2 (fun j hj h0 => (h j hj).2 h0)⟩
  obtain ⟨j, hj, rfl⟩ := List.getElem_of_mem ht
  exact (h j hj).1
theorem zq2 (K : Int) (E : List STie) (hK : 0 ≤ K ∧ K ≤ 8) (hE : E.length ≤ 64) (d : Nat) : ∀ i, i + d = E.length → Ev (fun k => spec_NetOk.l0 k (i : Int) K E) (dec (∀ j (h : j < E.length), i ≤ j → At K E j h)) := by
 induction d with
 | zero =>
  intro i hi
  refine Ev.succ ?_
  simp only [spec_NetOk.l0]
  refine Ev.no (by omega) ?_
  rw [dec_true (fun j h hij => by omega)]
  exact Ev.pure _
 | succ d ih =>
  intro i hi
  have hlt : i < E.length := by omega
  have hih := ih (i + 1) (by omega)
  refine Ev.succ ?_
  simp only [spec_NetOk.l0]
  refine Ev.yes (by omega) (Ev.yes (by omega) ?_)
  rw [rdT hlt, w64s (by omega)]
  refine Ev.bind (Ev.const (zB _ _ _)) ?_
  by_cases h1 : 0 ≤ E[i].f0 ∧ E[i].f0 ≤ wrap64 (K - 1)
  ·have hw : wrap64 (K - 1) = K - 1 := w64 (by omega) (by omega)
   refine Ev.yes (dec_true h1) ?_
   rw [hw] at h1 ⊢
   rw [w64 (x := E[i].f0 + 1) (by omega) (by omega)]
   refine Ev.bind (Ev.const (zB _ _ _)) ?_
   by_cases h2 : E[i].f0 + 1 ≤ E[i].f1 ∧ E[i].f1 ≤ K - 1
   ·refine Ev.yes (dec_true h2) ?_
    have hb : 0 ≤ E[i].f0 ∧ E[i].f0 < E[i].f1 ∧ E[i].f1 < K := by omega
    by_cases h3 : 0 < i
    ·refine Ev.yes (by omega) ?_
     rw [w64p h3 (by omega)]
     refine Ev.yes (by omega) (Ev.yes (by omega) ?_)
     rw [rdT (show i - 1 < E.length by omega)]
     refine Ev.bind (Ev.const (zk1 _ _)) ?_
     by_cases h4 : tlt E[i - 1] E[i]
     ·refine Ev.yes (dec_true h4) (hih.value (dec_congr ⟨fun h j hj hij => ?_, fun h j hj hij => h j hj (by omega)⟩))
      rcases Nat.eq_or_lt_of_le hij with rfl | h5
      ·exact ⟨hb, fun _ => h4⟩
      ·exact h j hj h5
     ·refine Ev.no (by rw [dec_false h4]; simp) ?_
      rw [dec_false (fun h => h4 ((h i hlt (Nat.le_refl _)).2 h3))]
      exact Ev.pure _
    ·refine Ev.no (by omega) (hih.value (dec_congr ⟨fun h j hj hij => ?_, fun h j hj hij => h j hj (by omega)⟩))
     rcases Nat.eq_or_lt_of_le hij with rfl | h5
     ·exact ⟨hb, fun h0 => absurd h0 h3⟩
     ·exact h j hj h5
   ·refine Ev.no (by rw [dec_false h2]; simp) ?_
    rw [dec_false (fun h => h2 (by have := (h i hlt (Nat.le_refl _)).1; omega))]
    exact Ev.pure _
  ·refine Ev.no (by rw [dec_false h1]; simp) ?_
   have hw : wrap64 (K - 1) = K - 1 := w64 (by omega) (by omega)
   rw [hw] at h1
   rw [dec_false (fun h => h1 (by have := (h i hlt (Nat.le_refl _)).1; omega))]
   exact Ev.pure _
theorem zz (K : Int) (E : List STie) : Ev (fun k => spec_NetOk.f k K E) (dec (Ok K E)) := by
 simp only [spec_NetOk.f]
 refine Ev.bind (Ev.const (zB _ _ _)) ?_
 by_cases hK : 0 ≤ K ∧ K ≤ 8
 ·refine Ev.yes (dec_true hK) ?_
  refine Ev.succ ?_
  simp only [spec_NetOk.j0]
  by_cases hl : E.length ≤ 64
  ·refine Ev.no (by simp; omega) ((zq2 K E hK hl E.length 0 (by omega)).value (dec_congr ?_))
   rw [zt4]
   exact ⟨fun h => ⟨hK, fun j hj => h j hj (Nat.zero_le _)⟩, fun h j hj _ => h.2 j hj⟩
  ·refine Ev.yes (by simp; omega) ?_
   rw [dec_false (fun h => hl h.len)]
   exact Ev.pure _
 ·refine Ev.no (by rw [dec_false hK]; simp) ?_
  refine Ev.succ ?_
  simp only [spec_NetOk.j0]
  refine Ev.yes (by simp) ?_
  rw [dec_false (fun h => hK ⟨h.k0, h.k8⟩)]
  exact Ev.pure _
theorem zp1 (E : List STie) (hE : E.length < 4611686018427387904) (d : Nat) : ∀ i, i + d = E.length → 0 < i → Ev (fun k => impl_ascending.l0 k E (i : Int)) (dec (∀ j (h : j < E.length), i ≤ j → tlt E[j - 1] E[j])) := by
 induction d with
 | zero =>
  intro i hi h0
  refine Ev.succ ?_
  simp only [impl_ascending.l0]
  refine Ev.no (by omega) ?_
  rw [dec_true (fun j h hij => by omega)]
  exact Ev.pure _
 | succ d ih =>
  intro i hi h0
  have hlt : i < E.length := by omega
  have hih := ih (i + 1) (by omega) (by omega)
  refine Ev.succ ?_
  simp only [impl_ascending.l0]
  rw [w64p h0 (by omega), w64s (by omega)]
  refine Ev.yes (by omega) (Ev.yes (by omega) (Ev.yes (by omega) (Ev.yes (by omega) ?_)))
  rw [rdT hlt, rdT (show i - 1 < E.length by omega)]
  refine Ev.bind (e_impl_tieOrder _ _) ?_
  by_cases h4 : tlt E[i - 1] E[i]
  ·have := (ord_neg E[i - 1] E[i]).2 h4
   refine Ev.no (by omega) (hih.value (dec_congr ⟨fun h j hj hij => ?_, fun h j hj hij => h j hj (by omega)⟩))
   rcases Nat.eq_or_lt_of_le hij with rfl | h5
   ·exact h4
   ·exact h j hj h5
  ·have : ¬ ord E[i - 1] E[i] < 0 := fun h => h4 ((ord_neg E[i - 1] E[i]).1 h)
   refine Ev.yes (by omega) ?_
   rw [dec_false (fun h => h4 (h i hlt (Nat.le_refl _)))]
   exact Ev.pure _
theorem zL (E : List STie) (hE : E.length < 4611686018427387904) : Ev (fun k => impl_ascending.f k E) (dec (Asc E)) := by
 simp only [impl_ascending.f]
 by_cases h : E.length = 0
 ·refine Ev.succ ?_
  simp only [impl_ascending.l0]
  refine Ev.no (by omega) ?_
  rw [dec_true ((zE1 E).2 (fun j hj _ => by omega))]
  exact Ev.pure _
 ·refine (zp1 E hE (E.length - 1) 1 (by omega) (by omega)).value (dec_congr ?_)
  rw [zE1]
  exact Iff.rfl
theorem zr2 (K : Int) (E : List STie) (hK : 0 ≤ K ∧ K ≤ 8) (hE : E.length < 4611686018427387904) (d : Nat) : ∀ i, i + d = E.length → Ev (fun k => impl_NetOk.l0 k E (E.length : Int) (i : Int) K E) (dec ((∀ j (h : j < E.length), i ≤ j → 0 ≤ E[j].f0 ∧ E[j].f0 < E[j].f1 ∧ E[j].f1 < K) ∧ Asc E)) := by
 induction d with
 | zero =>
  intro i hi
  refine Ev.succ ?_
  simp only [impl_NetOk.l0]
  refine Ev.no (by omega) (Ev.bind (zL E hE) ((Ev.pure _).value (dec_congr ⟨fun h => ⟨fun j hj hij => by omega, h⟩, fun h => h.2⟩)))
 | succ d ih =>
  intro i hi
  have hlt : i < E.length := by omega
  have hih := ih (i + 1) (by omega)
  refine Ev.succ ?_
  simp only [impl_NetOk.l0]
  refine Ev.yes (by omega) (Ev.yes (by omega) (Ev.yes (by omega) ?_))
  rw [rdT hlt, w64s (by omega)]
  by_cases h1 : E[i].f0 < 0
  ·refine Ev.yes h1 ?_
   rw [dec_false (fun h => by have := h.1 i hlt (Nat.le_refl _); omega)]
   exact Ev.pure _
  ·refine Ev.no h1 ?_
   by_cases h2 : E[i].f0 ≥ E[i].f1
   ·refine Ev.yes h2 ?_
    rw [dec_false (fun h => by have := h.1 i hlt (Nat.le_refl _); omega)]
    exact Ev.pure _
   ·refine Ev.no h2 ?_
    by_cases h3 : E[i].f1 ≥ K
    ·refine Ev.yes h3 ?_
     rw [dec_false (fun h => by have := h.1 i hlt (Nat.le_refl _); omega)]
     exact Ev.pure _
    ·refine Ev.no h3 (hih.value (dec_congr ⟨fun h => ⟨fun j hj hij => ?_, h.2⟩, fun h => ⟨fun j hj hij => h.1 j hj (by omega), h.2⟩⟩))
     rcases Nat.eq_or_lt_of_le hij with rfl | h5
     ·omega
     ·exact h.1 j hj h5
theorem zo (K : Int) (E : List STie) (hE : E.length < 4611686018427387904) : Ev (fun k => impl_NetOk.f k K E) (dec (Ok K E)) := by
 simp only [impl_NetOk.f]
 by_cases h1 : K < 0
 ·refine Ev.yes h1 (Ev.succ ?_)
  simp only [impl_NetOk.j0]
  refine Ev.yes (by simp) ?_
  rw [dec_false (fun h => by have := h.k0; omega)]
  exact Ev.pure _
 ·refine Ev.no h1 (Ev.succ ?_)
  simp only [impl_NetOk.j0]
  by_cases h2 : K > 8
  ·refine Ev.yes (by simpa using h2) ?_
   rw [dec_false (fun h => by have := h.k8; omega)]
   exact Ev.pure _
  ·refine Ev.no (by simpa using h2) ((zr2 K E (by omega) hE E.length 0 (by omega)).value (dec_congr ⟨fun h => ⟨by omega, by omega, fun t ht => ?_, h.2⟩, fun h => ⟨fun j hj _ => h.tie _ (List.getElem_mem hj), h.asc⟩⟩))
   obtain ⟨j, hj, rfl⟩ := List.getElem_of_mem ht
   exact h.1 j hj (Nat.zero_le _)
end Go.Proofs.Ytgoembpmhlmafaa.E
end
section
namespace Go.Proofs.Ytgoembpmhlmafaa.E
open Go.RowKit Go.Proofs.YtgoembpmhlmafaaW.PrintWords Go.Proofs.YtgoembpmhlmafaaW.PrintMore Go.Proofs.Ytgoembpmhlmafaa.P Osier
set_option linter.unusedVariables false
theorem zu1 (a b : Int) : spec_l1Tie.f a b = some ((mkT a b).f0, (mkT a b).f1) := by
 unfold spec_l1Tie.f mkT
 split <;> rfl
theorem zj1 (a b : Int) : impl_tie.f a b = some ((mkT a b).f0, (mkT a b).f1) := by
 unfold impl_tie.f mkT mn mx
 by_cases h : a < b
 ·rw [if_pos h, if_pos h, if_neg (by omega)]
 ·by_cases h' : b < a
  ·rw [if_neg h, if_neg h, if_pos h']
  ·have : a = b := by omega
   subst this
   rw [if_neg h, if_neg h]
theorem zx2 (s t : STie) : (s.f0 == t.f0 && (s.f1 == t.f1)) = dec (s = t) := by
 by_cases h : s = t
 ·subst h; rw [dec_true rfl]; simp
 ·rw [dec_false h]
  by_cases h0 : s.f0 = t.f0
  ·have h1 : ¬ s.f1 = t.f1 := fun h1 => h (Tie.ext' h0 h1)
   simp [h1]
  ·simp [h0]
theorem zG {E : List STie} {i : Nat} (hi : i < E.length) (t : STie) : t ∈ E.drop i ↔ E[i] = t ∨ t ∈ E.drop (i + 1) := by
 rw [drop_cons _ hi, List.mem_cons]
 exact or_congr eq_comm Iff.rfl
theorem zc2 (K : Int) (E : List STie) (a b : Int) (hE : E.length < 4611686018427387904) (d : Nat) : ∀ i, i + d = E.length → Ev (fun k => spec_l1Has.l0 k a b (i : Int) K E) (dec (mkT a b ∈ E.drop i)) := by
 induction d with
 | zero =>
  intro i hi
  refine Ev.succ ?_
  simp only [spec_l1Has.l0]
  refine Ev.no (by omega) ?_
  rw [List.drop_eq_nil_of_le (by omega), dec_false (by simp)]
  exact Ev.pure _
 | succ d ih =>
  intro i hi
  have hlt : i < E.length := by omega
  refine Ev.succ ?_
  simp only [spec_l1Has.l0]
  rw [rdT hlt, w64s (by omega)]
  refine Ev.yes (by omega) (Ev.yes (by omega) (Ev.bind (Ev.const (zu1 a b)) ?_))
  dsimp only
  rw [zx2, dec_congr (zG hlt _)]
  by_cases h : E[i] = mkT a b
  ·refine Ev.yes (dec_true h) ?_
   rw [dec_true (.inl h)]
   exact Ev.pure _
  ·refine Ev.no (by rw [dec_false h]; simp) ((ih (i + 1) (by omega)).value (dec_congr ⟨.inr, fun k => k.resolve_left h⟩))
theorem zQ (K : Int) (E : List STie) (a b : Int) (hE : E.length < 4611686018427387904) : Ev (fun k => spec_l1Has.f k K E a b) (dec (mkT a b ∈ E)) := by
 simp only [spec_l1Has.f]
 exact (zc2 K E a b hE E.length 0 (by omega)).value (by simp)
theorem zZ2 (K : Int) (E : List STie) (a b : Int) (hE : E.length < 4611686018427387904) : Ev (fun k => spec_NetHas.f k K E a b) (dec (Ok K E ∧ mkT a b ∈ E)) := by
 simp only [spec_NetHas.f]
 refine Ev.bind (zz K E) ?_
 by_cases h : Ok K E
 ·refine Ev.yes (dec_true h) (Ev.bind (zQ K E a b hE) ((Ev.pure _).value (dec_congr ⟨fun k => ⟨h, k⟩, fun k => k.2⟩)))
 ·refine Ev.no (by rw [dec_false h]; simp) ?_
  rw [dec_false (fun k => h k.1)]; exact Ev.pure _
theorem zW (E : List STie) (t : STie) (hE : E.length < 4611686018427387904) (d : Nat) : ∀ i, i + d = E.length → ∃ r, Ev (fun k => slices_Index_Tie.l0 k E (E.length : Int) (i : Int) t.f0 t.f1) r ∧ (r ≥ 0 ↔ t ∈ E.drop i) := by
 induction d with
 | zero =>
  intro i hi
  refine ⟨-1, Ev.succ ?_, ?_⟩
  ·simp only [slices_Index_Tie.l0]
   exact Ev.no (by omega) (Ev.pure _)
  ·rw [List.drop_eq_nil_of_le (by omega)]; simp
 | succ d ih =>
  intro i hi
  have hlt : i < E.length := by omega
  by_cases h : t = E[i]
  ·refine ⟨(i : Int), Ev.succ ?_, ?_⟩
   ·simp only [slices_Index_Tie.l0]
    rw [rdT hlt, zx2]
    exact Ev.yes (by omega) (Ev.yes (by omega) (Ev.yes (by omega) (Ev.yes (dec_true h) (Ev.pure _))))
   ·rw [zG hlt]
    exact ⟨fun _ => .inl h.symm, fun _ => by omega⟩
  ·obtain ⟨r, hr, hr'⟩ := ih (i + 1) (by omega)
   refine ⟨r, Ev.succ ?_, ?_⟩
   ·simp only [slices_Index_Tie.l0]
    rw [rdT hlt, zx2, w64s (by omega)]
    exact Ev.yes (by omega) (Ev.yes (by omega) (Ev.yes (by omega) (Ev.no (by rw [dec_false h]; simp) hr)))
   ·rw [zG hlt, hr']
    exact ⟨.inr, fun k => k.resolve_left (fun e => h e.symm)⟩
theorem ze (E : List STie) (t : STie) (hE : E.length < 4611686018427387904) : Ev (fun k => slices_Contains_Tie.f k E t.f0 t.f1) (dec (t ∈ E)) := by
 simp only [slices_Contains_Tie.f, slices_Index_Tie.f]
 obtain ⟨r, hr, hr'⟩ := zW E t hE E.length 0 (by omega)
 refine Ev.bind hr ((Ev.pure _).value ?_)
 rw [dec_decide]
 exact dec_congr (by simpa using hr')
theorem zA (K : Int) (E : List STie) (a b : Int) (hE : E.length < 4611686018427387904) : Ev (fun k => impl_Net_has.f k K E a b) (dec (mkT a b ∈ E)) := by
 simp only [impl_Net_has.f]
 exact Ev.bind (Ev.const (zj1 a b)) (Ev.bind (ze E (mkT a b) hE) (Ev.pure _))
theorem za3 (K : Int) (E : List STie) (a b : Int) (hE : E.length < 4611686018427387904) : Ev (fun k => impl_NetHas.f k K E a b) (dec (Ok K E ∧ mkT a b ∈ E)) := by
 simp only [impl_NetHas.f]
 refine Ev.bind (zo K E hE) ?_
 by_cases h : Ok K E
 ·refine Ev.yes (dec_true h) (Ev.bind (zA K E a b hE) ((Ev.pure _).value (dec_congr ⟨fun k => ⟨h, k⟩, fun k => k.2⟩)))
 ·refine Ev.no (by rw [dec_false h]; simp) ?_
  rw [dec_false (fun k => h k.1)]; exact Ev.pure _
theorem zm (K : Int) (E : List STie) (a : Int) : Ev (fun k => spec_l1Knot.f k K E a) (dec (Ok K E ∧ 0 ≤ a ∧ a < K)) := by
 simp only [spec_l1Knot.f]
 refine Ev.bind (zz K E) ?_
 by_cases h : Ok K E
 ·have := h.k0
  have := h.k8
  refine Ev.yes (dec_true h) ?_
  rw [w64 (x := K - 1) (by omega) (by omega)]
  exact Ev.bind (Ev.const (zB _ _ _)) ((Ev.pure _).value (dec_congr ⟨fun k => ⟨h, k.1, by omega⟩, fun k => ⟨k.2.1, by omega⟩⟩))
 ·refine Ev.no (by rw [dec_false h]; simp) ?_
  rw [dec_false (fun k => h k.1)]; exact Ev.pure _
theorem zT (K : Int) (E : List STie) (a : Int) : impl_Net_knot.f K E a = some (dec (0 ≤ a ∧ a < K)) := by
 unfold impl_Net_knot.f
 by_cases h : a ≥ 0
 ·rw [if_pos h, dec_decide]
  exact congrArg some (dec_congr ⟨fun k => ⟨h, k⟩, fun k => k.2⟩)
 ·rw [if_neg h, dec_false (by omega)]
theorem zb2 {E : List STie} {i : Nat} (hi : i < E.length) (p : STie → Bool) : (E.drop i).filter p = (if p E[i] then [E[i]] else []) ++ (E.drop (i + 1)).filter p := by
 rw [drop_cons _ hi, List.filter_cons]
 split <;> simp_all
end Go.Proofs.Ytgoembpmhlmafaa.E
end
section
namespace Go.Proofs.Ytgoembpmhlmafaa.E
open Go.RowKit Go.Proofs.YtgoembpmhlmafaaW.PrintWords Go.Proofs.YtgoembpmhlmafaaW.PrintMore Go.Proofs.Ytgoembpmhlmafaa.P Osier
set_option linter.unusedVariables false
theorem zw1 {l : List Int} {i : Nat} (hi : i < l.length) (t : Int) : t ∈ l.drop i ↔ l[i] = t ∨ t ∈ l.drop (i + 1) := by
 rw [drop_cons _ hi, List.mem_cons]
 exact or_congr eq_comm Iff.rfl
theorem za1 (l : List Int) (x : Int) (hl : l.length < 4611686018427387904) (d : Nat) : ∀ i, i + d = l.length → ∃ r, Ev (fun k => slices_Index_int.l0 k l x (l.length : Int) (i : Int)) r ∧ (r ≥ 0 ↔ x ∈ l.drop i) := by
 induction d with
 | zero =>
  intro i hi
  refine ⟨-1, Ev.succ ?_, ?_⟩
  ·simp only [slices_Index_int.l0]
   exact Ev.no (by omega) (Ev.pure _)
  ·rw [List.drop_eq_nil_of_le (by omega)]; simp
 | succ d ih =>
  intro i hi
  have hlt : i < l.length := by omega
  by_cases h : x = l[i]
  ·refine ⟨(i : Int), Ev.succ ?_, ?_⟩
   ·simp only [slices_Index_int.l0]
    rw [rdI hlt]
    exact Ev.yes (by omega) (Ev.yes (by omega) (Ev.yes (by omega) (Ev.yes h (Ev.pure _))))
   ·rw [zw1 hlt]
    exact ⟨fun _ => .inl h.symm, fun _ => by omega⟩
  ·obtain ⟨r, hr, hr'⟩ := ih (i + 1) (by omega)
   refine ⟨r, Ev.succ ?_, ?_⟩
   ·simp only [slices_Index_int.l0]
    rw [rdI hlt, w64s (by omega)]
    exact Ev.yes (by omega) (Ev.yes (by omega) (Ev.yes (by omega) (Ev.no h hr)))
   ·rw [zw1 hlt, hr']
    exact ⟨.inr, fun k => k.resolve_left (fun e => h e.symm)⟩
theorem zV (l : List Int) (x : Int) (hl : l.length < 4611686018427387904) : Ev (fun k => slices_Contains_int.f k l x) (dec (x ∈ l)) := by
 simp only [slices_Contains_int.f, slices_Index_int.f]
 obtain ⟨r, hr, hr'⟩ := za1 l x hl l.length 0 (by omega)
 refine Ev.bind hr ((Ev.pure _).value ?_)
 rw [dec_decide]
 exact dec_congr (by simpa using hr')
end Go.Proofs.Ytgoembpmhlmafaa.E
end
section
namespace Go.Proofs.Ytgoembpmhlmafaa.E
open Go.RowKit Go.Proofs.YtgoembpmhlmafaaW.PrintWords Go.Proofs.YtgoembpmhlmafaaW.PrintMore Go.Proofs.Ytgoembpmhlmafaa.P Osier
set_option linter.unusedVariables false
theorem zj {K : Int} (h : 0 ≤ K) : ((ya K).length : Int) = K := by simp [ya]; omega
theorem zS {K : Int} {j : Nat} (h : j < (ya K).length) : (ya K)[j] = (j : Int) := by simp [ya]
structure Lab (K : Int) (E : List STie) (p : List Int) : Prop where
 len : (p.length : Int) = K
 get : ∀ j (h : j < p.length), (0 ≤ p[j] ∧ p[j] ≤ (j : Int)) ∧ Conn E (j : Int) p[j]
noncomputable def partsL (K : Int) (E : List STie) : List Int := (ya K).map (prt K E)
theorem zH {K : Int} {E : List STie} (h : 0 ≤ K) : ((partsL K E).length : Int) = K := by simp only [partsL, List.length_map]; exact zj h
theorem zf1 {K : Int} {E : List STie} {j : Nat} (h : j < (partsL K E).length) : (partsL K E)[j] = prt K E (j : Int) := by
 simp only [partsL, List.getElem_map]
 rw [zS]
theorem Lab.done {K : Int} {E : List STie} {p : List Int} (hE : Ok K E) (h : Lab K E p) (he : ∀ t ∈ E, ∀ (h0 : t.f0.toNat < p.length) (h1 : t.f1.toNat < p.length), p[t.f0.toNat] = p[t.f1.toNat]) : p = partsL K E := by
 have hK := hE.k0
 have hlen := h.len
 have hpl := zH (E := E) hK
 -- labels are one along each tie, so in each prt
 have same : ∀ a b, Conn E a b → ∀ (h0 : a.toNat < p.length), 0 ≤ a → ∃ h1 : b.toNat < p.length, p[a.toNat] = p[b.toNat] := by
  intro a b hr
  induction hr with
  | refl => intro h0 _; exact ⟨h0, rfl⟩
  | @step b c hr hed ih =>
   intro h0 ha
   obtain ⟨h1, e1⟩ := ih h0 ha
   have hc := (hE.ed_in hed)
   have h2 : c.toNat < p.length := by omega
   refine ⟨h2, e1.trans ?_⟩
   rcases hed with hm | hm
   ·exact he _ hm h1 h2
   ·exact (he _ hm h2 h1).symm
 refine List.ext_getElem (by omega) (fun j h1 h2 => ?_)
 rw [zf1 h2]
 have hj : (0 : Int) ≤ (j : Int) ∧ (j : Int) < K := by omega
 have hm := zZ (E := E) hj.1 hj.2
 have hr := zl (E := E) hj.1 hj.2
 obtain ⟨h3, e3⟩ := same _ _ hr (by simpa using h1) hj.1
 simp only [Int.toNat_natCast] at e3
 have g1 := h.get j h1
 have g2 := h.get _ h3
 have hle := zv (E := E) hj.1 hj.2 g1.1.1 (by omega) g1.2
 omega
theorem zp3 (l : List Int) : ∀ (i : Nat) (h : i < l.length) (v : Int), (l.set i v).sum + l[i] = l.sum + v := by
 induction l with
 | nil => intro i h; simp at h
 | cons a l ih =>
  intro i h v
  cases i with
  | zero => simp; omega
  | succ i =>
   have := ih i (by simpa using h) v
   simp only [List.set_cons_succ, List.sum_cons, List.getElem_cons_succ]
   omega
theorem zF3 (l : List Int) (h : ∀ x ∈ l, 0 ≤ x) : 0 ≤ l.sum := by
 induction l with
 | nil => simp
 | cons a l ih =>
  have := h a (by simp)
  have := ih (fun x hx => h x (by simp [hx]))
  simp only [List.sum_cons]; omega
theorem Lab.sum {K : Int} {E : List STie} {p : List Int} (h : Lab K E p) : 0 ≤ p.sum :=
 zF3 p (fun x hx => by obtain ⟨j, hj, rfl⟩ := List.getElem_of_mem hx; exact (h.get j hj).1.1)
theorem Lab.set {K : Int} {E : List STie} {p : List Int} (h : Lab K E p) {j : Nat} (hj : j < p.length) {v : Int} (h0 : 0 ≤ v) (h1 : v ≤ p[j]) (hr : Conn E (j : Int) v) : Lab K E (p.set j v) := by
 refine ⟨by simpa using h.len, fun i hi => ?_⟩
 have hi' : i < p.length := by simpa using hi
 rw [List.getElem_set]
 have g := h.get i hi'
 split
 ·rename_i e; subst e
  have := (h.get j hj).1
  exact ⟨by omega, hr⟩
 ·exact g
theorem zn1 {K : Int} {E : List STie} (hE : Ok K E) (n : Nat) (IH : ∀ p, Lab K E p → p.sum < (n : Int) → Ev (fun k => impl_Net_parts.l1 k p true K E) (partsL K E)) (d : Nat) :
  ∀ (i : Nat) (p : List Int) (b : Bool), i + d = E.length → Lab K E p → (b = true → p.sum < (n : Int)) → (b = false → p.sum ≤ (n : Int) ∧ ∀ j (hj : j < E.length), j < i → ∀ (h0 : E[j].f0.toNat < p.length) (h1 : E[j].f1.toNat < p.length), p[E[j].f0.toNat] = p[E[j].f1.toNat]) →
   Ev (fun k => impl_Net_parts.l2 k p b E (E.length : Int) (i : Int) K E) (partsL K E) := by
 have hl := hE.len
 induction d with
 | zero =>
  intro i p b hi hp ht hf
  refine Ev.succ ?_
  simp only [impl_Net_parts.l2]
  refine Ev.no (by omega) ?_
  cases b with
  | true => exact IH p hp (ht rfl)
  | false =>
   refine Ev.succ ?_
   simp only [impl_Net_parts.l1]
   refine Ev.no (by simp) ?_
   rw [hp.done hE (fun t ht h0 h1 => by
    obtain ⟨j, hj, rfl⟩ := List.getElem_of_mem ht
    exact (hf rfl).2 j hj (by omega) h0 h1)]
   exact Ev.pure _
 | succ d ih =>
  intro i p b hi hp ht hf
  have hlt : i < E.length := by omega
  have tie := hE.tie _ (List.getElem_mem hlt)
  have hpl := hp.len
  have h0 : E[i].f0.toNat < p.length := by omega
  have h1 : E[i].f1.toNat < p.length := by omega
  have r0 : rd p E[i].f0 = p[E[i].f0.toNat] := by
   have := rdI (xs := p) h0
   rwa [Int.toNat_of_nonneg (by omega)] at this
  have r1 : rd p E[i].f1 = p[E[i].f1.toNat] := by
   have := rdI (xs := p) h1
   rwa [Int.toNat_of_nonneg (by omega)] at this
  refine Ev.succ ?_
  simp only [impl_Net_parts.l2]
  rw [rdT hlt, w64s (by omega), r0, r1]
  refine Ev.yes (by omega) (Ev.yes (by omega) (Ev.yes (by omega) (Ev.yes (by omega) (Ev.yes (by omega) (Ev.yes (by omega) (Ev.yes (by omega) ?_))))))
  by_cases he : p[E[i].f0.toNat] = p[E[i].f1.toNat]
  ·refine Ev.yes he (ih (i + 1) p b (by omega) hp ht (fun hb => ⟨(hf hb).1, fun j hj hji g0 g1 => ?_⟩))
   rcases Nat.eq_or_lt_of_le (Nat.le_of_lt_succ hji) with e | e
   ·subst e; exact he
   ·exact (hf hb).2 j hj e g0 g1
  ·refine Ev.no he ?_
   have g0 := hp.get _ h0
   have g1 := hp.get _ h1
   rw [Int.toNat_of_nonneg (by omega)] at g0 g1
   have hed : Ed E E[i].f0 E[i].f1 := .inl (List.getElem_mem hlt)
   -- the lesser label, and whence it is reached
   generalize hm : mn p[E[i].f0.toNat] p[E[i].f1.toNat] = m
   have hm0 : 0 ≤ m ∧ m ≤ p[E[i].f0.toNat] ∧ m ≤ p[E[i].f1.toNat] ∧ (m = p[E[i].f0.toNat] ∨ m = p[E[i].f1.toNat]) := by
    unfold mn at hm
    split at hm <;> omega
   have hreach : Conn E E[i].f0 m ∧ Conn E E[i].f1 m := by
    rcases hm0.2.2.2 with e | e
    ·rw [e]; exact ⟨g0.2, (Conn.one hed.symm).trans g0.2⟩
    ·rw [e]; exact ⟨(Conn.one hed).trans g1.2, g1.2⟩
   have hne : E[i].f0.toNat ≠ E[i].f1.toNat := by omega
   have hl0 : Lab K E (p.set E[i].f0.toNat m) := hp.set h0 hm0.1 hm0.2.1 (by rw [Int.toNat_of_nonneg (by omega)]; exact hreach.1)
   have h1' : E[i].f1.toNat < (p.set E[i].f0.toNat m).length := by simpa using h1
   have hget : (p.set E[i].f0.toNat m)[E[i].f1.toNat] = p[E[i].f1.toNat] := List.getElem_set_ne hne h1'
   have hl1 : Lab K E ((p.set E[i].f0.toNat m).set E[i].f1.toNat m) := hl0.set h1' hm0.1 (by rw [hget]; exact hm0.2.2.1) (by rw [Int.toNat_of_nonneg (by omega)]; exact hreach.2)
   have s0 := zp3 p E[i].f0.toNat h0 m
   have s1 := zp3 (p.set E[i].f0.toNat m) E[i].f1.toNat h1' m
   rw [hget] at s1
   have hsum : ((p.set E[i].f0.toNat m).set E[i].f1.toNat m).sum < p.sum := by omega
   have hpn : p.sum ≤ (n : Int) := by
    cases b with
    | true => have := ht rfl; omega
    | false => exact (hf rfl).1
   exact ih (i + 1) _ true (by omega) hl1 (fun _ => by omega) (fun h => by simp at h)
theorem zo1 {K : Int} {E : List STie} (hE : Ok K E) (n : Nat) : ∀ p, Lab K E p → p.sum < (n : Int) → Ev (fun k => impl_Net_parts.l1 k p true K E) (partsL K E) := by
 induction n with
 | zero => intro p hp h; have := hp.sum; omega
 | succ n ih =>
  intro p hp h
  refine Ev.succ ?_
  simp only [impl_Net_parts.l1]
  exact Ev.yes (by simp) (zn1 hE n ih E.length 0 p false (by omega) hp (fun h => by simp at h) (fun _ => ⟨by omega, fun j hj hji => by omega⟩))
theorem zs1 {K : Int} {E : List STie} (hE : Ok K E) (d : Nat) : ∀ i : Nat, (i : Int) + d = K → Ev (fun k => impl_Net_parts.l0 k ((List.range i).map Int.ofNat) K (i : Int) K E) (partsL K E) := by
 have h8 := hE.k8
 induction d with
 | zero =>
  intro i hi
  refine Ev.succ ?_
  simp only [impl_Net_parts.l0]
  refine Ev.no (by omega) ?_
  have hlab : Lab K E ((List.range i).map Int.ofNat) := by
   refine ⟨by simp; omega, fun j hj => ?_⟩
   have e : ((List.range i).map Int.ofNat)[j] = (j : Int) := by simp
   rw [e]
   exact ⟨by omega, .refl⟩
  exact zo1 hE (((List.range i).map Int.ofNat).sum.toNat + 1) _ hlab (by have := hlab.sum; omega)
 | succ d ih =>
  intro i hi
  refine Ev.succ ?_
  simp only [impl_Net_parts.l0]
  rw [w64s (by omega)]
  have e : (List.range i).map Int.ofNat ++ [(i : Int)] = (List.range (i + 1)).map Int.ofNat := by simp [List.range_succ]
  rw [e]
  exact Ev.yes (by omega) (Ev.yes (by simp; omega) (ih (i + 1) (by omega)))
theorem zP {K : Int} {E : List STie} (hE : Ok K E) : Ev (fun k => impl_Net_parts.f k K E) (partsL K E) := by
 simp only [impl_Net_parts.f]
 exact zs1 hE K.toNat 0 (by have := hE.k0; omega)
theorem zI1 {K : Int} {E : List STie} (hE : Ok K E) {a b : Int} (ha : 0 ≤ a ∧ a < K) (hb : 0 ≤ b ∧ b < K) : Ev (fun k => impl_Net_joined.f k K E a b) (dec (Conn E a b)) := by
 simp only [impl_Net_joined.f]
 refine Ev.bind (zP hE) ?_
 have hl := zH (E := E) hE.k0
 have g : ∀ {x : Int}, 0 ≤ x ∧ x < K → rd (partsL K E) x = prt K E x := by
  intro x hx
  have h : x.toNat < (partsL K E).length := by omega
  have := rdI h
  rw [Int.toNat_of_nonneg hx.1] at this
  rw [this, zf1, Int.toNat_of_nonneg hx.1]
 rw [g ha, g hb]
 refine Ev.yes ha.1 (Ev.yes (by omega) (Ev.yes hb.1 (Ev.yes (by omega) ((Ev.pure _).value ?_))))
 rw [← dec_congr (zK1 (E := E) ha.1 ha.2 hb.1 hb.2)]
 by_cases h : prt K E a = prt K E b
 ·rw [dec_true h]; simpa using h
 ·rw [dec_false h]; simpa using h
theorem zv3 (E : List STie) (l : List Int) (a x : Int) : yb E (l ++ [x]) a = yb E l a ++ (if mkT a x ∈ E then [x] else []) := by
 unfold yb
 rw [List.filter_append]
 congr 1
 by_cases h : mkT a x ∈ E <;> simp [h]
theorem zW1 {K : Int} {E : List STie} (hE : Ok K E) (a : Int) (d : Nat) : ∀ i : Nat, (i : Int) + d = K → Ev (fun k => spec_l2Next.l0 k a (yb E ((List.range i).map Int.ofNat) a) (i : Int) K E) (yb E (ya K) a) := by
 have h8 := hE.k8
 have hl := hE.len
 induction d with
 | zero =>
  intro i hi
  refine Ev.succ ?_
  simp only [spec_l2Next.l0]
  refine Ev.no (by omega) ?_
  have : ya K = (List.range i).map Int.ofNat := by unfold ya; congr 2; omega
  rw [this]; exact Ev.pure _
 | succ d ih =>
  intro i hi
  refine Ev.succ ?_
  simp only [spec_l2Next.l0]
  have hih := ih (i + 1) (by omega)
  have e : (List.range (i + 1)).map Int.ofNat = (List.range i).map Int.ofNat ++ [(i : Int)] := by simp [List.range_succ]
  rw [e, zv3] at hih
  have hlen : (yb E ((List.range i).map Int.ofNat) a).length ≤ i := by
   have := List.length_filter_le (fun x => decide (mkT a x ∈ E)) ((List.range i).map Int.ofNat)
   simpa [yb] using this
  rw [w64s (by omega)]
  refine Ev.yes (by omega) (Ev.bind (zQ K E a (i : Int) (by omega)) ?_)
  by_cases h : mkT a (i : Int) ∈ E
  ·rw [if_pos h] at hih
   exact Ev.yes (dec_true h) (Ev.yes (by omega) hih)
  ·rw [if_neg h, List.append_nil] at hih
   exact Ev.no (by rw [dec_false h]; simp) hih
theorem zF {K : Int} {E : List STie} (hE : Ok K E) (a : Int) : Ev (fun k => spec_l2Next.f k K E a) (yb E (ya K) a) := by
 simp only [spec_l2Next.f]
 exact zW1 hE a K.toNat 0 (by have := hE.k0; omega)
noncomputable def reachL (K : Int) (E : List STie) (a : Int) : List Bool := (ya K).map (fun k => dec (Conn E a k))
theorem zd2 {K : Int} {E : List STie} {a : Int} (h : 0 ≤ K) : ((reachL K E a).length : Int) = K := by simp only [reachL, List.length_map]; exact zj h
theorem zt2 {K : Int} {E : List STie} {a : Int} {j : Nat} (h : j < (reachL K E a).length) : (reachL K E a)[j] = dec (Conn E a (j : Int)) := by
 simp only [reachL, List.getElem_map]
 rw [zS]
def yf (out : List Bool) (x : Int) : Prop := ∃ h : x.toNat < out.length, 0 ≤ x ∧ out[x.toNat] = true
theorem zf {out : List Bool} {x y : Int} (hx : x.toNat < out.length) (h0 : 0 ≤ x) : yf (out.set x.toNat true) y ↔ y = x ∨ yf out y := by
 unfold yf
 constructor
 ·rintro ⟨h, h1, h2⟩
  by_cases e : y = x
  ·exact .inl e
  ·have hne : x.toNat ≠ y.toNat := by omega
   rw [List.getElem_set_ne hne] at h2
   exact .inr ⟨by simpa using h, h1, h2⟩
 ·rintro (rfl | ⟨h, h1, h2⟩)
  ·exact ⟨by simpa using hx, h0, by simp⟩
  ·refine ⟨by simpa using h, h1, ?_⟩
   rw [List.getElem_set]
   split
   ·rfl
   ·exact h2
theorem zH2 (out : List Bool) : ∀ (i : Nat) (h : i < out.length), out[i] = false → (out.set i true).countP (fun b => !b) + 1 = out.countP (fun b => !b) := by
 induction out with
 | nil => intro i h; simp at h
 | cons b out ih =>
  intro i h hb
  cases i with
  | zero =>
   simp only [List.getElem_cons_zero] at hb
   subst hb
   simp
  | succ i =>
   have := ih i (by simpa using h) (by simpa using hb)
   rw [List.set_cons_succ]
   cases b <;> simp <;> omega
structure Bfs (K : Int) (E : List STie) (a : Int) (out : List Bool) (row : List Int) (S : Int → Prop) : Prop where
 len : (out.length : Int) = K
 sound : ∀ x, yf out x → Conn E a x
 start : yf out a
 row_in : ∀ x ∈ row, yf out x
 done : ∀ x, yf out x → x ∈ row ∨ S x ∨ ∀ y, Ed E x y → yf out y
theorem Bfs.final {K : Int} {E : List STie} {a : Int} {out : List Bool} (hE : Ok K E) (h : Bfs K E a out [] (fun _ => False)) : out = reachL K E a := by
 have hl := zd2 (E := E) (a := a) hE.k0
 have hlen := h.len
 refine List.ext_getElem (by omega) (fun j h1 h2 => ?_)
 rw [zt2 h2]
 have key : yf out (j : Int) ↔ Conn E a (j : Int) := by
  constructor
  ·exact h.sound _
  ·intro hr
   refine Conn.closed (S := fun x => yf out x) (fun b c hb hed => ?_) h.start hr
   rcases h.done b hb with h' | h' | h'
   ·simp at h'
   ·exact h'.elim
   ·exact h' c hed
 have e : yf out (j : Int) ↔ out[j] = true := by
  unfold yf
  simp only [Int.toNat_natCast]
  exact ⟨fun ⟨_, _, h⟩ => h, fun h => ⟨h1, by omega, h⟩⟩
 rw [dec_congr (key.symm.trans e), dec_bool]
theorem zD1 {K : Int} {E : List STie} (hE : Ok K E) {a : Int} (at_ : Int) (n : Nat) (IH : ∀ out row, Bfs K E a out row (fun _ => False) → out.countP (fun b => !b) + row.length < n + 1 → Ev (fun k => spec_WayReach.l0 k out row K E) (reachL K E a)) (hat : Conn E a at_) (d : Nat) :
  ∀ (i : Nat) (out : List Bool) (row : List Int), i + d = (yb E (ya K) at_).length → Bfs K E a out row (fun x => x = at_) → (∀ j (h : j < (yb E (ya K) at_).length), j < i → yf out (yb E (ya K) at_)[j]) → out.countP (fun b => !b) + row.length ≤ n → row.length ≤ 1000 → n ≤ 100 →
   Ev (fun k => spec_WayReach.l1 k out row (yb E (ya K) at_) (i : Int) K E) (reachL K E a) := by
 induction d with
 | zero =>
  intro i out row hi hb hp hn hr h100
  refine Ev.succ ?_
  simp only [spec_WayReach.l1]
  refine Ev.no (by omega) (IH out row ⟨hb.len, hb.sound, hb.start, hb.row_in, fun x hx => ?_⟩ (by omega))
  rcases hb.done x hx with h | h | h
  ·exact .inl h
  ·subst h
   refine .inr (.inr (fun y hy => ?_))
   obtain ⟨j, hj, e⟩ := List.getElem_of_mem ((zk hE).2 hy)
   rw [← e]
   exact hp j hj (by omega)
  ·exact .inr (.inr h)
 | succ d ih =>
  intro i out row hi hb hp hn hr h100
  have hlt : i < (yb E (ya K) at_).length := by omega
  have hed := (zk hE).1 (List.getElem_mem hlt)
  have hin := (hE.ed_in hed).2.1
  have hnl : (yb E (ya K) at_).length ≤ 8 := by
   have := List.length_filter_le (fun x => decide (mkT at_ x ∈ E)) (ya K)
   have h8 := hE.k8
   have h0 := zj hE.k0
   unfold yb at *
   omega
  have hbl := hb.len
  have hx : (yb E (ya K) at_)[i].toNat < out.length := by omega
  refine Ev.succ ?_
  simp only [spec_WayReach.l1]
  rw [rdI hlt, w64s (by omega)]
  have hrb : rdOf false out (yb E (ya K) at_)[i] = out[(yb E (ya K) at_)[i].toNat] := by
   have := rdB (xs := out) hx
   rwa [Int.toNat_of_nonneg hin.1] at this
  rw [hrb]
  refine Ev.yes (by omega) (Ev.yes (by omega) (Ev.yes hin.1 (Ev.yes (by omega) ?_)))
  by_cases hv : out[(yb E (ya K) at_)[i].toNat] = true
  ·refine Ev.yes hv (ih (i + 1) out row (by omega) hb (fun j hj hji => ?_) hn hr h100)
   rcases Nat.eq_or_lt_of_le (Nat.le_of_lt_succ hji) with e | e
   ·subst e; exact ⟨hx, hin.1, hv⟩
   ·exact hp j hj e
  ·refine Ev.no hv (Ev.yes (by omega) (ih (i + 1) _ _ (by omega) ?_ (fun j hj hji => ?_) ?_ (by have := zH2 out _ hx (by simpa using hv); simp; omega) h100))
   ·refine ⟨by simpa using hb.len, fun x h => ?_, (zf hx hin.1).2 (.inr hb.start), fun x h => ?_, fun x h => ?_⟩
    ·rcases (zf hx hin.1).1 h with rfl | h
     ·exact hat.step hed
     ·exact hb.sound x h
    ·simp only [List.mem_append, List.mem_singleton] at h
     rcases h with h | rfl
     ·exact (zf hx hin.1).2 (.inr (hb.row_in x h))
     ·exact (zf hx hin.1).2 (.inl rfl)
    ·rcases (zf hx hin.1).1 h with rfl | h
     ·exact .inl (by simp)
     ·rcases hb.done x h with h | h | h
      ·exact .inl (by simp [h])
      ·exact .inr (.inl h)
      ·exact .inr (.inr (fun y hy => (zf hx hin.1).2 (.inr (h y hy))))
   ·rcases Nat.eq_or_lt_of_le (Nat.le_of_lt_succ hji) with e | e
    ·subst e; exact (zf hx hin.1).2 (.inl rfl)
    ·exact (zf hx hin.1).2 (.inr (hp j hj e))
   ·have := zH2 out _ hx (by simpa using hv)
    simp only [List.length_append, List.length_cons, List.length_nil]
    omega
theorem zz1 {K : Int} {E : List STie} (hE : Ok K E) {a : Int} (n : Nat) (h100 : n ≤ 100) : ∀ out row, Bfs K E a out row (fun _ => False) → out.countP (fun b => !b) + row.length < n + 1 → Ev (fun k => spec_WayReach.l0 k out row K E) (reachL K E a) := by
 induction n with
 | zero =>
  intro out row hb hn
  have : row = [] := List.eq_nil_of_length_eq_zero (by omega)
  subst this
  refine Ev.succ ?_
  simp only [spec_WayReach.l0]
  refine Ev.no (by simp) ?_
  rw [hb.final hE]
  exact Ev.pure _
 | succ n ih =>
  intro out row hb hn
  refine Ev.succ ?_
  simp only [spec_WayReach.l0]
  cases row with
  | nil =>
   refine Ev.no (by simp) ?_
   rw [hb.final hE]
   exact Ev.pure _
  | cons x row =>
   have hx := hb.row_in x (by simp)
   have e0 : rd (x :: row) 0 = x := rfl
   rw [e0]
   have e1 : (x :: row).drop (1 : Int).toNat = row := rfl
   rw [e1]
   simp only [List.length_cons] at hn
   refine Ev.yes (by simp only [List.length_cons]; omega) (Ev.yes (by simp only [List.length_cons]; omega) (Ev.bind (zF hE x) (Ev.yes (by simp only [List.length_cons]; omega) ?_)))
   refine zD1 hE x n (ih (by omega)) (hb.sound x hx) (yb E (ya K) x).length 0 out row (by omega) ⟨hb.len, hb.sound, hb.start, fun y hy => hb.row_in y (by simp [hy]), fun y hy => ?_⟩ (fun j hj hji => by omega) (by omega) (by omega) (by omega)
   rcases hb.done y hy with h | h | h
   ·simp only [List.mem_cons] at h
    rcases h with h | h
    ·exact .inr (.inl h)
    ·exact .inl h
   ·exact h.elim
   ·exact .inr (.inr h)
noncomputable def reachV (K : Int) (E : List STie) (a : Int) : List Bool := if dec (Ok K E ∧ 0 ≤ a ∧ a < K) = true then reachL K E a else []
theorem zi2 (K : Int) (E : List STie) (a : Int) : Ev (fun k => spec_WayReach.f k K E a) (reachV K E a) := by
 simp only [spec_WayReach.f]
 refine Ev.bind (zm K E a) ?_
 unfold reachV
 by_cases h : Ok K E ∧ 0 ≤ a ∧ a < K
 ·rw [if_pos (dec_true h)]
  have h8 := h.1.k8
  refine Ev.yes (dec_true h) (Ev.yes (by omega) (Ev.yes (by omega) (Ev.bind (Ev.pure _) ?_)))
  refine Ev.yes h.2.1 (Ev.yes (by simp; omega) ?_)
  have hlen : a.toNat < (List.replicate K.toNat false).length := by simp; omega
  have hnone : ∀ x, ¬ yf (List.replicate K.toNat false) x := fun x ⟨_, _, h⟩ => by simp at h
  refine zz1 h.1 20 (by omega) _ _ ⟨by simp; omega, fun x hx => ?_, (zf hlen h.2.1).2 (.inl rfl), fun x hx => ?_, fun x hx => ?_⟩ ?_
  ·rcases (zf hlen h.2.1).1 hx with rfl | hx
   ·exact .refl
   ·exact absurd hx (hnone x)
  ·simp only [List.mem_singleton] at hx
   subst hx
   exact (zf hlen h.2.1).2 (.inl rfl)
  ·rcases (zf hlen h.2.1).1 hx with rfl | hx
   ·exact .inl (by simp)
   ·exact absurd hx (hnone x)
  ·have := List.countP_le_length (p := fun b => !b) (l := (List.replicate K.toNat false).set a.toNat true)
   simp only [List.length_set, List.length_replicate] at this
   simp only [List.length_cons, List.length_nil]
   omega
 ·rw [if_neg (by rw [dec_false h]; simp)]
  exact Ev.no (by rw [dec_false h]; simp) (Ev.pure _)
end Go.Proofs.Ytgoembpmhlmafaa.E
end
section
namespace Go.Proofs.Ytgoembpmhlmafaa.E
open Go.RowKit Go.Proofs.YtgoembpmhlmafaaW.PrintWords Go.Proofs.YtgoembpmhlmafaaW.PrintMore Go.Proofs.Ytgoembpmhlmafaa.P Osier
set_option linter.unusedVariables false
theorem zr4 (x : List Int) : ∀ y, lcmp x y < 0 ↔ lex x y := by
 induction x with
 | nil => intro y; cases y <;> simp [lcmp, lex]
 | cons a x ih =>
  intro y
  cases y with
  | nil => simp [lcmp, lex]
  | cons b y =>
   simp only [lcmp, lex]
   by_cases h : a < b
   ·simp [h]
   ·by_cases h' : a > b
    ·rw [if_neg h, if_pos h']; omega
    ·rw [if_neg h, if_neg h', ih y]
     have e : a = b := by omega
     simp [e]
theorem zn4 (x y : List Int) : wcmp x y < 0 ↔ wlt x y := by
 unfold wcmp wlt
 by_cases h : x.length < y.length
 ·simp [h]
 ·by_cases h' : x.length > y.length
  ·rw [if_neg h, if_pos h']
   have : ¬ x.length = y.length := by omega
   simp [h, this]
  ·rw [if_neg h, if_neg h', zr4]
   have : x.length = y.length := by omega
   simp [this]
theorem zD {l : List Int} (hl : l.length < 1099511627776) : slices_Clone_int.f l = some l := by
 unfold slices_Clone_int.f
 simp only [Option.bind_some]
 rw [if_pos (by simp; omega)]; rfl
theorem zw3 {α β : Type} (l : List α) (f : α → List β) (m : Nat) (h : ∀ a ∈ l, (f a).length ≤ m) : (l.flatMap f).length ≤ l.length * m := by
 induction l with
 | nil => simp
 | cons a l ih =>
  have h1 := h a (by simp)
  have h2 := ih (fun b hb => h b (by simp [hb]))
  rw [List.flatMap_cons, List.length_append, List.length_cons, Nat.add_mul]
  omega
theorem zF2 (E : List STie) (ks : List Int) (hk : ks.length ≤ 8) (tg : Int) (f : Nat) : ∀ way, (yc E ks tg f way).length ≤ 8 ^ f := by
 induction f with
 | zero => intro way; simp [yc]
 | succ f ih =>
  intro way
  rw [yc]
  split
  ·have : 0 < 8 ^ (f + 1) := Nat.pow_pos (by omega)
   simp; omega
  ·refine Nat.le_trans (zw3 _ _ (8 ^ f) (fun x _ => ih _)) ?_
   have h1 : ((yb E ks ((way.getLast?).getD 0)).filter (fun x => decide (x ∉ way))).length ≤ 8 := Nat.le_trans (List.length_filter_le _ _) (Nat.le_trans (List.length_filter_le _ _) hk)
   have h2 : 8 ^ (f + 1) = 8 ^ f * 8 := Nat.pow_succ 8 f
   have h3 := Nat.mul_le_mul_right (8 ^ f) h1
   omega
theorem zB1 {K : Int} {E : List STie} (hE : Ok K E) (tg : Int) (f : Nat) (hf9 : f ≤ 9)
  (IH : ∀ way out, Pth K E way → K < f + way.length → out.length + 8 ^ f ≤ 1000000000000 → Ev (fun k => impl_Net_ways.f k K E way tg out) (out ++ yc E (ya K) tg f way))
  (way : List Int) (hw : Pth K E way) (hf : K < f + 1 + way.length) (last : Int) (hl : (way.getLast?).getD 0 = last) (d : Nat) :
  ∀ (i : Nat) (out : List (List Int)), (i : Int) + d = K → out.length + d * 8 ^ f ≤ 1000000000000 →
   Ev (fun k => impl_Net_ways.l0 k way tg out last K (i : Int) K E) (out ++ ((((ya K).drop i).filter (fun x => decide (mkT last x ∈ E))).filter (fun x => decide (x ∉ way))).flatMap (fun x => yc E (ya K) tg f (way ++ [x]))) := by
 have hlen := hE.len
 have hk8 := hE.k8
 have hwl := hw.length_le
 have hkl := zj hE.k0
 have hpow : (8 : Nat) ^ f ≤ 134217728 := Nat.le_trans (Nat.pow_le_pow_right (by omega) hf9) (by decide)
 induction d with
 | zero =>
  intro i out hi ho
  refine Ev.succ ?_
  simp only [impl_Net_ways.l0]
  refine Ev.no (by omega) ?_
  rw [List.drop_eq_nil_of_le (by omega)]
  simpa using Ev.pure _
 | succ d ih =>
  intro i out hi ho
  have hlt : i < (ya K).length := by omega
  have hmul : (d + 1) * 8 ^ f = d * 8 ^ f + 8 ^ f := Nat.succ_mul d (8 ^ f)
  have hpos : 0 < (8 : Nat) ^ f := Nat.pow_pos (by omega)
  have hd1 : out.length + d * 8 ^ f ≤ 1000000000000 := Nat.le_trans (by rw [hmul]; exact Nat.le_add_right _ _ |> Nat.add_le_add_left (k := out.length)) ho
  rw [drop_cons _ hlt, zS hlt]
  refine Ev.succ ?_
  simp only [impl_Net_ways.l0]
  refine Ev.yes (by omega) (Ev.bind (zA K E last (i : Int) (by omega)) ?_)
  by_cases h1 : mkT last (i : Int) ∈ E
  ·rw [dec_true h1, List.filter_cons, if_pos (by simpa using h1)]
   refine Ev.yes (by trivial) (Ev.bind (zV way (i : Int) (by omega)) ?_)
   by_cases h2 : (i : Int) ∈ way
   ·rw [dec_true h2, List.filter_cons, if_neg (by simpa using h2)]
    refine Ev.succ ?_
    simp only [impl_Net_ways.j1]
    rw [w64s (by omega)]
    exact Ev.no (by simp) (ih (i + 1) out (by omega) hd1)
   ·rw [dec_false h2, List.filter_cons, if_pos (by simpa using h2), List.flatMap_cons, ← List.append_assoc]
    refine Ev.succ ?_
    simp only [impl_Net_ways.j1]
    have hp : Pth K E (way ++ [(i : Int)]) := (Pth.snoc_iff hE hw).2 ⟨by rw [hl]; exact hE.ed.2 h1, h2⟩
    have hwl2 := zF2 E (ya K) (by omega) tg f (way ++ [(i : Int)])
    rw [w64s (by omega)]
    refine Ev.yes (by trivial) (Ev.bind (Ev.const (zD (by omega))) (Ev.bind (Ev.pure _) (Ev.yes (by simp; omega) (Ev.bind (IH (way ++ [(i : Int)]) out hp (by simp; omega) (by omega)) ?_))))
    exact ih (i + 1) _ (by omega) (by rw [List.length_append]; omega)
  ·rw [dec_false h1, List.filter_cons, if_neg (by simpa using h1)]
   refine Ev.no (by simp) (Ev.succ ?_)
   simp only [impl_Net_ways.j1]
   rw [w64s (by omega)]
   exact Ev.no (by simp) (ih (i + 1) out (by omega) hd1)
theorem zg2 {K : Int} {E : List STie} (hE : Ok K E) (tg : Int) (f : Nat) (hf9 : f ≤ 9) : ∀ (way : List Int) (out : List (List Int)), Pth K E way → K < f + way.length → out.length + 8 ^ f ≤ 1000000000000 → Ev (fun k => impl_Net_ways.f k K E way tg out) (out ++ yc E (ya K) tg f way) := by
 induction f with
 | zero =>
  intro way out hw hf ho
  have := hw.length_le
  omega
 | succ f ih =>
  intro way out hw hf ho
  have hk8 := hE.k8
  have hk0 := hE.k0
  have hwl := hw.length_le
  have h0 : 0 < way.length := List.length_pos_iff.2 hw.ne
  have hpow : (8 : Nat) ^ (f + 1) = 8 ^ f * 8 := Nat.pow_succ 8 f
  have e0 : wrap64 ((way.length : Int) - 1) = ((way.length - 1 : Nat) : Int) := w64p h0 (by omega)
  have hlast : way.getLast? = some (way[way.length - 1]'(by omega)) := by rw [List.getLast?_eq_getElem?, List.getElem?_eq_getElem (by omega)]
  refine Ev.succ ?_
  simp only [impl_Net_ways.f]
  rw [e0, rdI (show way.length - 1 < way.length by omega)]
  refine Ev.yes (by omega) (Ev.yes (by omega) ?_)
  rw [yc]
  by_cases h : way[way.length - 1]'(by omega) = tg
  ·rw [if_pos (by rw [hlast, h])]
   exact Ev.yes h (Ev.bind (Ev.const (zD (by omega))) (Ev.yes (by omega) (Ev.pure _)))
  ·rw [if_neg (by rw [hlast]; simpa using h)]
   refine Ev.no h ?_
   have := zB1 hE tg f (by omega) (ih (by omega)) way hw (by omega) (way[way.length - 1]'(by omega)) (by rw [hlast]; rfl) K.toNat 0 out (by omega) (by
    have h1 : K.toNat * 8 ^ f ≤ 8 * 8 ^ f := Nat.mul_le_mul_right _ (by omega)
    omega)
   rw [List.drop_zero] at this
   have e1 : ((way.getLast?).getD 0) = way[way.length - 1]'(by omega) := by rw [hlast]; rfl
   rw [e1]
   exact this
theorem zw2 {K : Int} {E : List STie} (hE : Ok K E) {a b : Int} (ha : 0 ≤ a ∧ a < K) : Ev (fun k => impl_Net_all.f k K E a b) (ye K E a b) ∧ (ye K E a b).length ≤ 134217728 := by
 have hk8 := hE.k8
 have hkl := zj hE.k0
 have hwl := zF2 E (ya K) (by omega) b 9 [a]
 have h8 : (8 : Nat) ^ 9 = 134217728 := by decide
 have hp := List.mergeSort_perm (yc E (ya K) b 9 [a]) (fun x y => !decide (wcmp y x < 0))
 have hs := List.pairwise_mergeSort (le := fun x y : List Int => !decide (wcmp y x < 0)) (fun x y z h1 h2 => by
  have n1 := wcmp_neg x y
  have n2 := wcmp_neg y z
  have n3 := wcmp_neg x z
  have := wcmp_le x y z
  simp at *
  omega) (fun x y => by
  have n1 := wcmp_neg x y
  simp
  omega) (yc E (ya K) b 9 [a])
 have hrow : ∀ x ∈ yc E (ya K) b 9 [a], x.length < 4611686018427387904 := by
  intro x hx
  have h1 := ((zL2 hE 9 [a] (zY ha) (by simp; omega) x).1 hx).2.1.length_le
  omega
 have heq : (yc E (ya K) b 9 [a]).mergeSort (fun x y => !decide (wcmp y x < 0)) = ye K E a b := by
  refine zn3 hE ha (f := 9) (by omega) hp (List.Pairwise.imp (fun {x y} h => ?_) hs)
  rw [← zn4]
  simpa using h
 refine ⟨?_, by rw [← heq, List.length_mergeSort]; omega⟩
 simp only [impl_Net_all.f]
 refine Ev.bind (zg2 hE b 9 (by omega) [a] [] (zY ha) (by simp; omega) (by simp [h8])) (Ev.bind (a := ye K E a b) ?_ (Ev.pure _))
 rw [List.nil_append]
 simp only [slices_SortFunc_Row.f]
 rw [if_pos ⟨by omega, hrow⟩, heq]
 exact Ev.pure _
def Two (K : Int) (E : List STie) (a b : Int) : Prop := Ok K E ∧ (0 ≤ a ∧ a < K) ∧ (0 ≤ b ∧ b < K)
open Classical in
noncomputable def wayV (K : Int) (E : List STie) (a b : Int) : List Int × Bool := if h : ∃ d, Two K E a b ∧ Dist E a b d then (short K E b h.choose a, true) else ([], false)
theorem zN {K : Int} {E : List STie} {a b : Int} {d : Nat} (h : Two K E a b) (hd : Dist E a b d) : wayV K E a b = (short K E b d a, true) := by
 have hx : ∃ d, Two K E a b ∧ Dist E a b d := ⟨d, h, hd⟩
 unfold wayV
 rw [dif_pos hx, Dist.unique hx.choose_spec.2 hd]
theorem zI2 {K : Int} {E : List STie} {a b : Int} (h : ¬ (Two K E a b ∧ Conn E a b)) : wayV K E a b = ([], false) := by
 unfold wayV
 rw [dif_neg]
 rintro ⟨d, h1, h2⟩
 exact h ⟨h1, h2.1.reach⟩
theorem rdW {xs : List (List Int)} {n : Nat} (h : n < xs.length) : rd_LI xs (n : Int) = xs[n] := by
 unfold rd_LI
 rw [Int.toNat_natCast, List.getD_eq_getElem?_getD, List.getElem?_eq_getElem h]; rfl
end Go.Proofs.Ytgoembpmhlmafaa.E
end
section
namespace Go.Proofs.Ytgoembpmhlmafaa.E
open Go.RowKit Go.Proofs.YtgoembpmhlmafaaW.PrintWords Go.Proofs.YtgoembpmhlmafaaW.PrintMore Go.Proofs.Ytgoembpmhlmafaa.P Osier
set_option linter.unusedVariables false
open Classical in
noncomputable def farAt (E : List STie) (a x : Int) : Int := if h : ∃ d, Dist E a x d then (h.choose : Int) else -1
theorem zw {E : List STie} {a x : Int} {d : Nat} (h : Dist E a x d) : farAt E a x = (d : Int) := by
 have hx : ∃ d, Dist E a x d := ⟨d, h⟩
 unfold farAt
 rw [dif_pos hx, Dist.unique hx.choose_spec h]
theorem zQ1 {E : List STie} {a x : Int} (h : ¬ Conn E a x) : farAt E a x = -1 := by
 unfold farAt
 rw [dif_neg]
 rintro ⟨d, hd⟩
 exact h hd.1.reach
noncomputable def farL (K : Int) (E : List STie) (a : Int) : List Int := (ya K).map (farAt E a)
theorem zc1 {K : Int} {E : List STie} {a : Int} (h : 0 ≤ K) : ((farL K E a).length : Int) = K := by simp only [farL, List.length_map]; exact zj h
theorem zi3 {K : Int} {E : List STie} {a : Int} {j : Nat} (h : j < (farL K E a).length) : (farL K E a)[j] = farAt E a (j : Int) := by
 simp only [farL, List.getElem_map]
 rw [zS]
theorem zD2 {K : Int} {E : List STie} {a x : Int} (hK : 0 ≤ K) (hx : 0 ≤ x ∧ x < K) : rd (farL K E a) x = farAt E a x := by
 obtain ⟨n, rfl⟩ := Int.eq_ofNat_of_zero_le hx.1
 have hl := zc1 (E := E) (a := a) hK
 have hn : n < (farL K E a).length := by omega
 have e : rd (farL K E a) (n : Int) = (farL K E a)[n] := rdI hn
 show rd (farL K E a) (n : Int) = _
 rw [e, zi3 hn]
def At_ (out : List Int) (x : Int) (d : Nat) : Prop := ∃ h : x.toNat < out.length, 0 ≤ x ∧ out[x.toNat] = (d : Int)
def Un (out : List Int) (x : Int) : Prop := ∀ d, ¬ At_ out x d
theorem zM2 {out : List Int} {x : Int} {d e : Nat} (h : At_ out x d) (k : At_ out x e) : d = e := by
 obtain ⟨_, _, h⟩ := h
 obtain ⟨_, _, k⟩ := k
 omega
theorem zb {out : List Int} {x y : Int} {m d : Nat} (hx : x.toNat < out.length) (h0 : 0 ≤ x) (hu : Un out x) : At_ (out.set x.toNat (m : Int)) y d ↔ (y = x ∧ d = m) ∨ At_ out y d := by
 unfold At_
 constructor
 ·rintro ⟨h, h1, h2⟩
  by_cases e : y = x
  ·subst e
   rw [List.getElem_set_self] at h2
   exact .inl ⟨rfl, by omega⟩
  ·have hne : x.toNat ≠ y.toNat := by omega
   rw [List.getElem_set_ne hne] at h2
   exact .inr ⟨by simpa using h, h1, h2⟩
 ·rintro (⟨rfl, rfl⟩ | ⟨h, h1, h2⟩)
  ·exact ⟨by simpa using hx, h0, by simp⟩
  ·refine ⟨by simpa using h, h1, ?_⟩
   rw [List.getElem_set]
   split
   ·rename_i e
    have e : x = y := by omega
    subst e
    exact absurd ⟨h, h1, h2⟩ (hu d)
   ·exact h2
def yi (out : List Int) : Nat := out.countP (fun v => decide (v < 0))
theorem zi4 (out : List Int) : ∀ (i : Nat) (h : i < out.length) (m : Nat), out[i] < 0 → yi (out.set i (m : Int)) + 1 = yi out := by
 unfold yi
 induction out with
 | nil => intro i h; simp at h
 | cons b out ih =>
  intro i h m hb
  cases i with
  | zero =>
   simp only [List.getElem_cons_zero] at hb
   have : ¬ ((m : Int) < 0) := by omega
   simp [hb, this]
  | succ i =>
   have := ih i (by simpa using h) m (by simpa using hb)
   rw [List.set_cons_succ]
   by_cases hb' : b < 0
   ·simp [hb']; omega
   ·simp [hb']; omega
structure Far (K : Int) (E : List STie) (a : Int) (out : List Int) (row : List Int) (S : Int → Prop) (lo : Nat) : Prop where
 len : (out.length : Int) = K
 sign : ∀ (j : Nat) (h : j < out.length), out[j] < 0 → out[j] = -1
 sound : ∀ x d, At_ out x d → Dist E a x d
 start : At_ out a 0
 row_in : ∀ x ∈ row, ∃ d, At_ out x d ∧ lo ≤ d ∧ d ≤ lo + 1
 sorted : row.Pairwise (fun x y => ∀ d e, At_ out x d → At_ out y e → d ≤ e)
 done : ∀ x d, At_ out x d → x ∈ row ∨ S x ∨ ∀ y, Ed E x y → ∃ e, At_ out y e
 near : ∀ x d, Dist E a x d → d ≤ lo → ∃ e, At_ out x e
 hand : ∀ x, S x → At_ out x lo
theorem Far.all {K : Int} {E : List STie} {a : Int} {out : List Int} {lo : Nat} (h : Far K E a out [] (fun _ => False) lo) {x : Int} (hr : Conn E a x) : ∃ d, At_ out x d := by
 refine Conn.closed (S := fun x => ∃ d, At_ out x d) (fun b c hb hed => ?_) ⟨0, h.start⟩ hr
 obtain ⟨d, hb⟩ := hb
 rcases h.done b d hb with h' | h' | h'
 ·simp at h'
 ·exact h'.elim
 ·exact h' c hed
theorem Far.final {K : Int} {E : List STie} {a : Int} {out : List Int} {lo : Nat} (hE : Ok K E) (h : Far K E a out [] (fun _ => False) lo) : out = farL K E a := by
 have hl := zc1 (E := E) (a := a) hE.k0
 have hlen := h.len
 refine List.ext_getElem (by omega) (fun j h1 h2 => ?_)
 rw [zi3 h2]
 by_cases hr : Conn E a (j : Int)
 ·obtain ⟨d, hd⟩ := h.all hr
  rw [zw (h.sound _ _ hd)]
  obtain ⟨_, _, h3⟩ := hd
  simpa using h3
 ·rw [zQ1 hr]
  by_cases hn : out[j] < 0
  ·exact h.sign j h1 hn
  ·exfalso
   have : At_ out (j : Int) out[j].toNat := ⟨by simpa using h1, by omega, by simp only [Int.toNat_natCast]; omega⟩
   exact hr (h.sound _ _ this).1.reach
theorem zv4 {out : List Int} {x : Int} (hx : x.toNat < out.length) (h0 : 0 ≤ x) : out[x.toNat] < 0 ↔ Un out x := by
 constructor
 ·rintro h d ⟨_, _, h2⟩
  omega
 ·intro h
  by_cases hn : out[x.toNat] < 0
  ·exact hn
  ·exact absurd ⟨hx, h0, by omega⟩ (h out[x.toNat].toNat)
theorem Far.new {K : Int} {E : List STie} {a : Int} {out row : List Int} {S : Int → Prop} {lo : Nat} (h : Far K E a out row S lo) {at_ y : Int} (hat : At_ out at_ lo) (hed : Ed E at_ y) (hu : Un out y) : Dist E a y (lo + 1) := by
 refine ⟨(h.sound _ _ hat).1.snoc hed, fun m hm => ?_⟩
 obtain ⟨d, hd⟩ := (hm.reach).dist
 have h1 := hd.2 m hm
 by_cases h2 : d ≤ lo
 ·obtain ⟨e, he⟩ := h.near y d hd h2
  exact absurd he (hu e)
 ·omega
theorem Dist.last {E : List STie} {a c : Int} {d : Nat} (h : Dist E a c (d + 1)) : ∃ b, Dist E a b d ∧ Ed E b c := by
 obtain ⟨b, he, hd⟩ := h.symm.down
 exact ⟨b, hd.symm, he.symm⟩
theorem Far.take {K : Int} {E : List STie} {a x : Int} {out row : List Int} {lo : Nat} (hE : Ok K E) (h : Far K E a out (x :: row) (fun _ => False) lo) : ∃ lo', Far K E a out row (fun y => y = x) lo' := by
 obtain ⟨d, hd, h1, h2⟩ := h.row_in x (by simp)
 have hs := List.pairwise_cons.1 h.sorted
 refine ⟨d, h.len, h.sign, h.sound, h.start, fun y hy => ?_, hs.2, fun y e hy => ?_, fun y e hy hle => ?_, fun y hy => by rw [hy]; exact hd⟩
 ·obtain ⟨e, he, h3, h4⟩ := h.row_in y (by simp [hy])
  exact ⟨e, he, hs.1 y hy d e hd he, by omega⟩
 ·rcases h.done y e hy with h' | h' | h'
  ·simp only [List.mem_cons] at h'
   exact h'.elim (fun h' => .inr (.inl h')) .inl
  ·exact h'.elim
  ·exact .inr (.inr h')
 ·rcases Nat.lt_or_ge lo e with h3 | h3
  ·-- e = lo + 1: from a knot that is nearer
   have h4 : e = lo + 1 := by omega
   have h5 : d = lo + 1 := by omega
   subst h4
   obtain ⟨z, hz, hzy⟩ := Dist.last hy
   obtain ⟨f, hf⟩ := h.near z lo hz (Nat.le_refl _)
   have hfl := Dist.unique (h.sound _ _ hf) hz
   rcases h.done z f hf with h' | h' | h'
   ·exfalso
    simp only [List.mem_cons] at h'
    rcases h' with rfl | h'
    ·have := zM2 hf hd; omega
    ·have := hs.1 z h' d f hd hf; omega
   ·exact h'.elim
   ·exact h' y hzy
  ·exact h.near y e hy h3
theorem zj2 {K : Int} {E : List STie} (hE : Ok K E) {a : Int} (at_ : Int) (lo : Nat) (hlo : lo ≤ 1000) (n : Nat) (IH : ∀ out row lo, lo ≤ 1001 → Far K E a out row (fun _ => False) lo → yi out + row.length < n + 1 → Ev (fun k => spec_l2Far.l1 k out row K E) (farL K E a)) (d : Nat) :
  ∀ (i : Nat) (out : List Int) (row : List Int), i + d = (yb E (ya K) at_).length → Far K E a out row (fun x => x = at_) lo → (∀ j (h : j < (yb E (ya K) at_).length), j < i → ∃ e, At_ out (yb E (ya K) at_)[j] e) → yi out + row.length < n + 1 → n ≤ 100 →
   Ev (fun k => spec_l2Far.l2 k out row at_ (yb E (ya K) at_) (i : Int) K E) (farL K E a) := by
 induction d with
 | zero =>
  intro i out row hi hb hp hn h100
  refine Ev.succ ?_
  simp only [spec_l2Far.l2]
  refine Ev.no (by omega) (IH out row lo (by omega) ⟨hb.len, hb.sign, hb.sound, hb.start, hb.row_in, hb.sorted, fun x e hx => ?_, hb.near, fun x hx => hx.elim⟩ (by omega))
  rcases hb.done x e hx with h | h | h
  ·exact .inl h
  ·have h : x = at_ := h
   subst h
   refine .inr (.inr (fun y hy => ?_))
   obtain ⟨j, hj, e⟩ := List.getElem_of_mem ((zk hE).2 hy)
   rw [← e]
   exact hp j hj (by omega)
  ·exact .inr (.inr h)
 | succ d ih =>
  intro i out row hi hb hp hn h100
  have hlt : i < (yb E (ya K) at_).length := by omega
  have hed := (zk hE).1 (List.getElem_mem hlt)
  have hin := (hE.ed_in hed).2.1
  have hat0 := (hE.ed_in hed).1
  have h8 := hE.k8
  have hnl : (yb E (ya K) at_).length ≤ 8 := by
   have := List.length_filter_le (fun x => decide (mkT at_ x ∈ E)) (ya K)
   have h0 := zj hE.k0
   unfold yb at *
   omega
  have hbl := hb.len
  have hx : (yb E (ya K) at_)[i].toNat < out.length := by omega
  have hax : at_.toNat < out.length := by omega
  have hat := hb.hand at_ rfl
  refine Ev.succ ?_
  simp only [spec_l2Far.l2]
  rw [rdI hlt, w64s (by omega)]
  have hr1 : rd out (yb E (ya K) at_)[i] = out[(yb E (ya K) at_)[i].toNat] := by
   have := rdI (xs := out) hx
   rwa [Int.toNat_of_nonneg hin.1] at this
  have hr2 : rd out at_ = (lo : Int) := by
   have := rdI (xs := out) hax
   rw [Int.toNat_of_nonneg hat0.1] at this
   rw [this]
   exact hat.2.2
  rw [hr1, hr2, w64s (by omega)]
  refine Ev.yes (by omega) (Ev.yes (by omega) (Ev.yes hin.1 (Ev.yes (by omega) ?_)))
  by_cases hv : out[(yb E (ya K) at_)[i].toNat] < 0
  ·have hu := (zv4 hx hin.1).1 hv
   have hnew := hb.new hat hed hu
   have hl := zi4 out _ hx (lo + 1) hv
   have hrow : ∀ z ∈ row, z ≠ (yb E (ya K) at_)[i] := by
    intro z hz e
    subst e
    obtain ⟨e, he, _⟩ := hb.row_in _ hz
    exact hu e he
   refine Ev.yes hv (Ev.yes hat0.1 (Ev.yes (by omega) (Ev.yes (by omega) (ih (i + 1) _ _ (by omega) ?_ (fun j hj hji => ?_) (by rw [List.length_append, List.length_singleton]; omega) h100))))
   ·refine ⟨by simpa using hb.len, fun j hj hlt' => ?_, fun x e h => ?_, (zb hx hin.1 hu).2 (.inr hb.start), fun x h => ?_, ?_, fun x e h => ?_, fun x e h hle => ?_, fun x h => (zb hx hin.1 hu).2 (.inr (hb.hand x h))⟩
    ·rw [List.getElem_set] at hlt' ⊢
     split at hlt'
     ·exfalso; omega
     ·rename_i hne
      rw [if_neg hne]
      exact hb.sign j (by simpa using hj) hlt'
    ·rcases (zb hx hin.1 hu).1 h with ⟨rfl, rfl⟩ | h
     ·exact hnew
     ·exact hb.sound x e h
    ·simp only [List.mem_append, List.mem_singleton] at h
     rcases h with h | rfl
     ·obtain ⟨e, he, h1, h2⟩ := hb.row_in x h
      exact ⟨e, (zb hx hin.1 hu).2 (.inr he), h1, h2⟩
     ·exact ⟨lo + 1, (zb hx hin.1 hu).2 (.inl ⟨rfl, rfl⟩), by omega, by omega⟩
    ·rw [List.pairwise_append]
     refine ⟨?_, by simp, ?_⟩
     ·refine List.Pairwise.imp_of_mem ?_ hb.sorted
      intro x y hxm hym hxy d1 e1 h1 h2
      rcases (zb hx hin.1 hu).1 h1 with ⟨e, _⟩ | h1
      ·exact absurd e (hrow x hxm)
      ·rcases (zb hx hin.1 hu).1 h2 with ⟨e, _⟩ | h2
       ·exact absurd e (hrow y hym)
       ·exact hxy d1 e1 h1 h2
     ·intro x hxm y hym d1 e1 h1 h2
      simp only [List.mem_singleton] at hym
      subst hym
      obtain ⟨e, he, h3, h4⟩ := hb.row_in x hxm
      rcases (zb hx hin.1 hu).1 h1 with ⟨e, _⟩ | h1
      ·exact absurd e (hrow x hxm)
      ·have := zM2 h1 he
       rcases (zb hx hin.1 hu).1 h2 with ⟨_, e5⟩ | h2
       ·omega
       ·exact absurd h2 (hu e1)
    ·rcases (zb hx hin.1 hu).1 h with ⟨rfl, _⟩ | h
     ·exact .inl (by simp)
     ·rcases hb.done x e h with h | h | h
      ·exact .inl (by simp [h])
      ·exact .inr (.inl h)
      ·refine .inr (.inr (fun y hy => ?_))
       obtain ⟨f, hf⟩ := h y hy
       exact ⟨f, (zb hx hin.1 hu).2 (.inr hf)⟩
    ·obtain ⟨f, hf⟩ := hb.near x e h hle
     exact ⟨f, (zb hx hin.1 hu).2 (.inr hf)⟩
   ·rcases Nat.eq_or_lt_of_le (Nat.le_of_lt_succ hji) with e | e
    ·subst e; exact ⟨lo + 1, (zb hx hin.1 hu).2 (.inl ⟨rfl, rfl⟩)⟩
    ·obtain ⟨f, hf⟩ := hp j hj e
     exact ⟨f, (zb hx hin.1 hu).2 (.inr hf)⟩
  ·refine Ev.no hv (ih (i + 1) out row (by omega) hb (fun j hj hji => ?_) hn h100)
   rcases Nat.eq_or_lt_of_le (Nat.le_of_lt_succ hji) with e | e
   ·subst e; exact ⟨out[(yb E (ya K) at_)[j].toNat].toNat, hx, hin.1, by omega⟩
   ·exact hp j hj e
theorem Dist.le8 {K : Int} {E : List STie} (hE : Ok K E) {a b : Int} {d : Nat} (ha : 0 ≤ a ∧ a < K) (h : Dist E a b d) : d ≤ 8 := by
 have h1 := (zE hE ha h).length_le
 have h2 := zx (K := K) (E := E) (b := b) d a
 have := hE.k8
 omega
theorem zn2 {K : Int} {E : List STie} (hE : Ok K E) {a : Int} (ha : 0 ≤ a ∧ a < K) (n : Nat) (h100 : n ≤ 100) : ∀ out row lo, lo ≤ 1001 → Far K E a out row (fun _ => False) lo → yi out + row.length < n + 1 → Ev (fun k => spec_l2Far.l1 k out row K E) (farL K E a) := by
 induction n with
 | zero =>
  intro out row lo hlo hb hn
  have : row = [] := List.eq_nil_of_length_eq_zero (by omega)
  subst this
  refine Ev.succ ?_
  simp only [spec_l2Far.l1]
  refine Ev.no (by simp) ?_
  rw [hb.final hE]
  exact Ev.pure _
 | succ n ih =>
  intro out row lo hlo hb hn
  refine Ev.succ ?_
  simp only [spec_l2Far.l1]
  cases row with
  | nil =>
   refine Ev.no (by simp) ?_
   rw [hb.final hE]
   exact Ev.pure _
  | cons x row =>
   obtain ⟨lo', hb'⟩ := hb.take hE
   have hl' := Dist.le8 hE ha (hb'.sound _ _ (hb'.hand x rfl))
   have e0 : rd (x :: row) 0 = x := rfl
   rw [e0]
   have e1 : (x :: row).drop (1 : Int).toNat = row := rfl
   rw [e1]
   simp only [List.length_cons] at hn
   refine Ev.yes (by simp only [List.length_cons]; omega) (Ev.yes (by simp only [List.length_cons]; omega) (Ev.bind (zF hE x) (Ev.yes (by simp only [List.length_cons]; omega) ?_)))
   exact zj2 hE x lo' (by omega) n (ih (by omega)) (yb E (ya K) x).length 0 out row (by omega) hb' (fun j hj hji => by omega) (by omega) (by omega)
theorem zm2 {K : Int} {E : List STie} (hE : Ok K E) {a : Int} (ha : 0 ≤ a ∧ a < K) (d : Nat) : ∀ i : Nat, (i : Int) + d = K → Ev (fun k => spec_l2Far.l0 k a (List.replicate i (-1)) (i : Int) K E) (farL K E a) := by
 have h8 := hE.k8
 induction d with
 | zero =>
  intro i hi
  refine Ev.succ ?_
  simp only [spec_l2Far.l0]
  refine Ev.no (by omega) (Ev.yes ha.1 (Ev.yes (by simp; omega) ?_))
  have hlen : a.toNat < (List.replicate i (-1 : Int)).length := by simp; omega
  have hnone : ∀ x d, ¬ At_ (List.replicate i (-1 : Int)) x d := fun x d ⟨_, _, h⟩ => by simp at h
  have hu : Un (List.replicate i (-1 : Int)) a := hnone a
  have e : (0 : Int) = ((0 : Nat) : Int) := rfl
  rw [e]
  refine zn2 hE ha 20 (by omega) _ _ 0 (by omega) ⟨by simp; omega, fun j hj hlt => ?_, fun x d hx => ?_, (zb hlen ha.1 hu).2 (.inl ⟨rfl, rfl⟩), fun x hx => ?_, by simp, fun x d hx => ?_, fun x d hx hle => ?_, fun x hx => hx.elim⟩ ?_
  ·rw [List.getElem_set] at hlt ⊢
   split at hlt
   ·exfalso; omega
   ·rename_i hne
    rw [if_neg hne]
    simp
  ·rcases (zb hlen ha.1 hu).1 hx with ⟨rfl, rfl⟩ | hx
   ·exact Dist.self
   ·exact absurd hx (hnone x d)
  ·simp only [List.mem_singleton] at hx
   subst hx
   exact ⟨0, (zb hlen ha.1 hu).2 (.inl ⟨rfl, rfl⟩), by omega, by omega⟩
  ·rcases (zb hlen ha.1 hu).1 hx with ⟨rfl, _⟩ | hx
   ·exact .inl (by simp)
   ·exact absurd hx (hnone x d)
  ·have h0 : d = 0 := by omega
   subst h0
   have := hx.zero
   subst this
   exact ⟨0, (zb hlen ha.1 hu).2 (.inl ⟨rfl, rfl⟩)⟩
  ·have h1 : yi ((List.replicate i (-1 : Int)).set a.toNat ((0 : Nat) : Int)) ≤ ((List.replicate i (-1 : Int)).set a.toNat ((0 : Nat) : Int)).length := List.countP_le_length
   simp at h1 ⊢
   omega
 | succ d ih =>
  intro i hi
  refine Ev.succ ?_
  simp only [spec_l2Far.l0]
  rw [w64s (by omega)]
  refine Ev.yes (by omega) (Ev.yes (by simp; omega) ?_)
  have e : List.replicate i (-1 : Int) ++ [-1] = List.replicate (i + 1) (-1) := by rw [List.replicate_succ']
  rw [e]
  exact ih (i + 1) (by omega)
theorem zj3 {K : Int} {E : List STie} (hE : Ok K E) {a : Int} (ha : 0 ≤ a ∧ a < K) : Ev (fun k => spec_l2Far.f k K E a) (farL K E a) := by
 simp only [spec_l2Far.f]
 exact zm2 hE ha K.toNat 0 (by omega)
end Go.Proofs.Ytgoembpmhlmafaa.E
end
section
namespace Go.Proofs.Ytgoembpmhlmafaa.E
open Go.RowKit Go.Proofs.YtgoembpmhlmafaaW.PrintWords Go.Proofs.YtgoembpmhlmafaaW.PrintMore Go.Proofs.Ytgoembpmhlmafaa.P Osier
set_option linter.unusedVariables false
theorem zZ3 {E : List STie} {a x : Int} {d : Nat} : farAt E a x = (d : Int) ↔ Dist E a x d := by
 constructor
 ·intro h
  by_cases hr : Conn E a x
  ·obtain ⟨e, he⟩ := hr.dist
   rw [zw he] at h
   have : e = d := by omega
   exact this ▸ he
  ·rw [zQ1 hr] at h; omega
 ·exact zw
theorem zH1 {K : Int} {E : List STie} (hE : Ok K E) {b at_ : Int} {dd : Nat} (hb : 0 ≤ b ∧ b < K) (hat : 0 ≤ at_ ∧ at_ < K) (hd : Dist E at_ b (dd + 1)) (hdd : dd ≤ 100) (acc : List Int) (hacc : acc.length ≤ 1000) (R : List Int × Bool)
  (IH : Ev (fun k => spec_WayFind.l0 k b (acc ++ [stepTo K E b at_ dd]) (farL K E b) (stepTo K E b at_ dd) K E) R) (d : Nat) :
  ∀ i, i + d = (yb E (ya K) at_).length → (∀ j (h : j < (yb E (ya K) at_).length), j < i → ¬ Dist E (yb E (ya K) at_)[j] b dd) → Ev (fun k => spec_WayFind.l1 k b acc (farL K E b) at_ (yb E (ya K) at_) (i : Int) K E) R := by
 have hs := zh hE hd
 have hsm := (zk hE).2 hs.1
 obtain ⟨m, hm, hme⟩ := List.getElem_of_mem hsm
 have hfl := zc1 (E := E) (a := b) hE.k0
 have hfa : rd (farL K E b) at_ = ((dd + 1 : Nat) : Int) := by rw [zD2 hE.k0 hat]; exact zw hd.symm
 have h8 := hE.k8
 have hnl : (yb E (ya K) at_).length ≤ 8 := by
  have := List.length_filter_le (fun x => decide (mkT at_ x ∈ E)) (ya K)
  have h0 := zj hE.k0
  unfold yb at *
  omega
 induction d with
 | zero =>
  intro i hi hno
  exact absurd (by rw [hme]; exact hs.2.1) (hno m hm (by omega))
 | succ d ih =>
  intro i hi hno
  have hlt : i < (yb E (ya K) at_).length := by omega
  have hed := (zk hE).1 (List.getElem_mem hlt)
  have hin := (hE.ed_in hed).2.1
  refine Ev.succ ?_
  simp only [spec_WayFind.l1]
  rw [rdI hlt, w64s (by omega), hfa, zD2 hE.k0 hin, w64 (x := ((dd + 1 : Nat) : Int) - 1) (by omega) (by omega)]
  refine Ev.yes (by omega) (Ev.yes (by omega) (Ev.yes hin.1 (Ev.yes (by omega) (Ev.yes hat.1 (Ev.yes (by omega) ?_)))))
  have e1 : ((dd + 1 : Nat) : Int) - 1 = (dd : Int) := by omega
  rw [e1]
  by_cases h : farAt E b (yb E (ya K) at_)[i] = (dd : Int)
  ·have hdx : Dist E (yb E (ya K) at_)[i] b dd := (zZ3.1 h).symm
   have hle := hs.2.2 _ hed hdx
   have hmi : m = i := by
    rcases Nat.lt_trichotomy m i with h1 | h1 | h1
    ·exact absurd (by rw [hme]; exact hs.2.1) (hno m hm h1)
    ·exact h1
    ·have h2 := (List.pairwise_iff_getElem.1 (zA1 K E at_)) i m hlt hm h1
     rw [hme] at h2
     omega
   subst hmi
   rw [hme] at h ⊢
   exact Ev.yes h (Ev.yes (by omega) IH)
  ·refine Ev.no h (ih (i + 1) (by omega) (fun j hj hji hx => ?_))
   rcases Nat.eq_or_lt_of_le (Nat.le_of_lt_succ hji) with e | e
   ·subst e
    exact h (zw hx.symm)
   ·exact hno j hj e hx
theorem zG1 {K : Int} {E : List STie} (hE : Ok K E) {b : Int} (hb : 0 ≤ b ∧ b < K) (d : Nat) (hd8 : d ≤ 100) : ∀ (at_ : Int) (acc : List Int), 0 ≤ at_ ∧ at_ < K → Dist E at_ b d → acc.length + d ≤ 1000 → Ev (fun k => spec_WayFind.l0 k b acc (farL K E b) at_ K E) (acc ++ (short K E b d at_).tail, true) := by
 induction d with
 | zero =>
  intro at_ acc hat hd ha
  refine Ev.succ ?_
  simp only [spec_WayFind.l0]
  refine Ev.yes hd.zero ?_
  simpa [short] using Ev.pure (acc, true)
 | succ d ih =>
  intro at_ acc hat hd ha
  have hne : at_ ≠ b := by
   intro e
   subst e
   have := Dist.unique hd Dist.self
   omega
  have hs := zh hE hd
  have hin := (hE.ed_in hs.1).2.1
  refine Ev.succ ?_
  simp only [spec_WayFind.l0]
  refine Ev.no hne (Ev.bind (zF hE at_) ?_)
  have h1 := ih (by omega) (stepTo K E b at_ d) (acc ++ [stepTo K E b at_ d]) hin hs.2.1 (by simp; omega)
  obtain ⟨l, hl⟩ := zg (K := K) (E := E) (b := b) d (stepTo K E b at_ d)
  have e : acc ++ [stepTo K E b at_ d] ++ (short K E b d (stepTo K E b at_ d)).tail = acc ++ (short K E b (d + 1) at_).tail := by
   simp [short, hl]
  rw [e] at h1
  exact zH1 hE hb hat hd (by omega) acc (by omega) _ h1 (yb E (ya K) at_).length 0 (by omega) (fun j hj hji => by omega)
theorem zC2 (K : Int) (E : List STie) (a b : Int) : Ev (fun k => spec_WayFind.f k K E a b) (wayV K E a b) := by
 have no : ¬ Two K E a b → Ev (fun k => spec_WayFind.j0 k a b [] true K E) (wayV K E a b) := by
  intro h
  rw [zI2 (fun k => h k.1)]
  refine Ev.succ ?_
  simp only [spec_WayFind.j0]
  exact Ev.yes (by trivial) (Ev.pure _)
 simp only [spec_WayFind.f]
 refine Ev.bind (Ev.pure _) (Ev.bind (zm K E a) ?_)
 by_cases h1 : Ok K E ∧ 0 ≤ a ∧ a < K
 ·refine Ev.yes (dec_true h1) (Ev.bind (zm K E b) ?_)
  by_cases h2 : Ok K E ∧ 0 ≤ b ∧ b < K
  ·have hT : Two K E a b := ⟨h1.1, h1.2, h2.2⟩
   have h8 := h1.1.k8
   have hfl := zc1 (E := E) (a := b) h1.1.k0
   rw [dec_true h2]
   refine Ev.succ ?_
   simp only [spec_WayFind.j0]
   refine Ev.no (by simp) (Ev.bind (zj3 h1.1 h2.2) ?_)
   rw [zD2 h1.1.k0 h1.2]
   refine Ev.yes h1.2.1 (Ev.yes (by omega) ?_)
   by_cases hr : Conn E a b
   ·obtain ⟨d, hd⟩ := hr.dist
    have hd8 := Dist.le8 h1.1 h1.2 hd
    rw [zw hd.symm, zN hT hd]
    obtain ⟨l, hl⟩ := zg (K := K) (E := E) (b := b) d a
    refine Ev.no (by omega) (Ev.yes (by simp) ((zG1 h1.1 h2.2 d (by omega) a ([] ++ [a]) h1.2 hd (by simp; omega)).value ?_))
    rw [hl]; rfl
   ·rw [zQ1 (fun k => hr k.symm), zI2 (fun k => hr k.2)]
    exact Ev.yes (by omega) (Ev.pure _)
  ·rw [dec_false h2]
   exact no (fun h => h2 ⟨h.1, h.2.2⟩)
 ·exact Ev.no (by rw [dec_false h1]; simp) (no (fun h => h1 ⟨h.1, h.2.1⟩))
end Go.Proofs.Ytgoembpmhlmafaa.E
end
section
namespace Go.Proofs.Ytgoembpmhlmafaa.E
open Go.RowKit Go.Proofs.YtgoembpmhlmafaaW.PrintWords Go.Proofs.YtgoembpmhlmafaaW.PrintMore Go.Proofs.Ytgoembpmhlmafaa.P Osier
set_option linter.unusedVariables false
noncomputable def cutV (K : Int) (E : List STie) (a b : Int) : Int × List STie × Bool := if dec (Ok K E ∧ mkT a b ∈ E) = true then (K, cut E (mkT a b), true) else (0, [], false)
theorem zz3 (E : List STie) (t : STie) : cut E t = E.filter (fun s => dec (s ≠ t)) := by
 unfold cut
 congr 1
 funext s
 exact dec_decide
theorem zx1 (K : Int) (E G : List STie) (hE : E.length < 1099511627776) (hG : G.length < 1099511627776) (d : Nat) : ∀ (i : Nat) (acc : List STie), i + d = E.length → acc.length ≤ i → Ev (fun k => impl_Net_less.l0 k G E (E.length : Int) (i : Int) K acc) (K, acc ++ (E.drop i).filter (fun s => dec (s ∉ G))) := by
 induction d with
 | zero =>
  intro i acc hi ha
  refine Ev.succ ?_
  simp only [impl_Net_less.l0]
  refine Ev.no (by omega) ?_
  rw [List.drop_eq_nil_of_le (by omega)]
  simpa using Ev.pure _
 | succ d ih =>
  intro i acc hi ha
  have hlt : i < E.length := by omega
  refine Ev.succ ?_
  simp only [impl_Net_less.l0]
  rw [rdT hlt, w64s (by omega), zb2 hlt, ← List.append_assoc]
  refine Ev.yes (by omega) (Ev.yes (by omega) (Ev.yes (by omega) (Ev.bind (ze G E[i] (by omega)) ?_)))
  by_cases h : E[i] ∈ G
  ·refine Ev.yes (dec_true h) ((ih (i + 1) acc (by omega) (by omega)).value ?_)
   rw [if_neg (by rw [dec_false (fun k => k h)]; simp), List.append_nil]
  ·refine Ev.no (by rw [dec_false h]; simp) (Ev.yes (by omega) ((ih (i + 1) _ (by omega) (by simp; omega)).value ?_))
   rw [if_pos (dec_true h)]
theorem ze2 (K : Int) (E G : List STie) (hE : E.length < 1099511627776) (hG : G.length < 1099511627776) : Ev (fun k => impl_Net_less.f k K E G) (K, E.filter (fun s => dec (s ∉ G))) := by
 simp only [impl_Net_less.f]
 exact (zx1 K E G hE hG E.length 0 [] (by omega) (by simp)).value (by simp)
theorem zf4 (E : List STie) (t : STie) : E.filter (fun s => dec (s ∉ [t])) = cut E t := by
 rw [zz3]
 congr 1
 funext s
 exact dec_congr (by simp)
theorem zO2 (K : Int) (E : List STie) (a b : Int) (hE : E.length < 1099511627776) : Ev (fun k => impl_NetCut.f k K E a b) (cutV K E a b) := by
 simp only [impl_NetCut.f]
 refine Ev.bind (za3 K E a b (by omega)) ?_
 unfold cutV
 by_cases h : Ok K E ∧ mkT a b ∈ E
 ·rw [if_pos (dec_true h)]
  refine Ev.yes (dec_true h) (Ev.bind (Ev.const (zj1 a b)) (Ev.bind (ze2 K E [mkT a b] hE (by simp)) ((Ev.pure _).value ?_)))
  rw [zf4]
 ·rw [if_neg (by rw [dec_false h]; simp)]
  exact Ev.no (by rw [dec_false h]; simp) (Ev.pure _)
end Go.Proofs.Ytgoembpmhlmafaa.E
end
section
namespace Go.Proofs.Ytgoembpmhlmafaa.E
open Go.RowKit Go.Proofs.YtgoembpmhlmafaaW.PrintWords Go.Proofs.YtgoembpmhlmafaaW.PrintMore Go.Proofs.Ytgoembpmhlmafaa.P Osier
set_option linter.unusedVariables false
theorem zq4 (a b : Nat) (ha : a < 2 ^ 62) (hb : b < 2 ^ 62) : Go.bits .xor .i64 (a : Int) (b : Int) = ((a ^^^ b : Nat) : Int) := by
 have hx : a ^^^ b < 2 ^ 62 := Nat.xor_lt_two_pow ha hb
 have h1 : (BitVec.ofInt 64 (a : Int)).toNat = a := by
  rw [BitVec.ofInt_natCast, BitVec.toNat_ofNat]; exact Nat.mod_eq_of_lt (by omega)
 have h2 : (BitVec.ofInt 64 (b : Int)).toNat = b := by
  rw [BitVec.ofInt_natCast, BitVec.toNat_ofNat]; exact Nat.mod_eq_of_lt (by omega)
 show IntKind.i64.wrap ((BitVec.ofInt 64 (a : Int) ^^^ BitVec.ofInt 64 (b : Int)).toNat : Int) = _
 rw [BitVec.toNat_xor, h1, h2]
 simp only [IntKind.wrap, IntKind.bits, IntKind.signed]
 simp
 omega
theorem zu3 {a b : Int} (ha : 0 ≤ a) (ha' : a < 2 ^ 62) (hb : 0 ≤ b) (hb' : b < 2 ^ 62) : 0 ≤ Go.bits .xor .i64 a b := by
 obtain ⟨m, rfl⟩ := Int.eq_ofNat_of_zero_le ha
 obtain ⟨n, rfl⟩ := Int.eq_ofNat_of_zero_le hb
 rw [zq4 m n (by omega) (by omega)]
 omega
theorem zJ {a n : Int} (ha : 0 ≤ a) (hn : 0 < n) : 0 ≤ Int.tmod a n ∧ Int.tmod a n < n := ⟨Int.tmod_nonneg n ha, Int.tmod_lt_of_pos a hn⟩
theorem zu2 {xs : List Int} (hb : ∀ x ∈ xs, 0 ≤ x ∧ x < 256) {p : Int} (h0 : 0 ≤ p) (h : p < xs.length) : 0 ≤ rd xs p ∧ rd xs p < 256 := by
 obtain ⟨n, rfl⟩ := Int.eq_ofNat_of_zero_le h0
 have hn : n < xs.length := by omega
 have e : rd xs (n : Int) = xs[n] := rdI hn
 show 0 ≤ rd xs (n : Int) ∧ rd xs (n : Int) < 256
 rw [e]
 exact hb _ (List.getElem_mem hn)
structure Src (xs : List Int) : Prop where
 byte : ∀ x ∈ xs, 0 ≤ x ∧ x < 256
 len : xs.length ≤ 2000
theorem za {xs : List Int} (hs : Src xs) {p : Int} (hp : 0 ≤ p) (hp' : p < 1099511627776) (n : Int) (hn' : n < 1099511627776) : ∃ v, Ev (fun k => spec_l6Rd_pick.f k xs p n) (v, p + 1) ∧ 0 ≤ v ∧ (1 ≤ n → v < n) ∧ (n < 1 → v = 0) := by
 have hl := hs.len
 have w1 : wrap64 (p + 1) = p + 1 := w64 (by omega) (by omega)
 have w2 : wrap64 (p + 1 - 1) = p := by rw [w64 (by omega) (by omega)]; omega
 by_cases hn : n < 1
 ·refine ⟨0, ?_, by omega, by omega, fun _ => rfl⟩
  simp only [spec_l6Rd_pick.f]
  refine Ev.yes hn (Ev.succ ?_)
  simp only [spec_l6Rd_pick.j0]
  rw [w1]
  exact Ev.yes (by trivial) (Ev.pure _)
 ·by_cases h0 : xs.length = 0
  ·refine ⟨0, ?_, by omega, fun _ => by omega, by omega⟩
   simp only [spec_l6Rd_pick.f]
   refine Ev.no hn (Ev.succ ?_)
   simp only [spec_l6Rd_pick.j0]
   rw [w1]
   exact Ev.yes (by simp [h0]) (Ev.pure _)
  ·by_cases h1 : p < xs.length
   ·have hr := zu2 hs.byte hp h1
    refine ⟨Int.tmod (rd xs p) n, ?_, (zJ hr.1 (by omega)).1, fun _ => (zJ hr.1 (by omega)).2, by omega⟩
    simp only [spec_l6Rd_pick.f]
    refine Ev.no hn (Ev.succ ?_)
    simp only [spec_l6Rd_pick.j0]
    rw [w1, w2, w64 (x := rd xs p) (by omega) (by omega)]
    exact Ev.no (by simp; exact fun h => h0 (by rw [h]; rfl)) (Ev.yes h1 (Ev.yes hp (Ev.no (by omega) (Ev.pure _))))
   ·have hlp : (0 : Int) < xs.length := by omega
    have m1 := zJ hp hlp
    have e7 : wrap64 (p * 7) = p * 7 := w64 (by omega) (by omega)
    have e8 : wrap64 (p * 7 + 3) = p * 7 + 3 := w64 (by omega) (by omega)
    have m2 := zJ (show (0 : Int) ≤ p * 7 + 3 by omega) hlp
    have r1 := zu2 hs.byte m1.1 m1.2
    have r2 := zu2 hs.byte m2.1 m2.2
    have hq0 : 0 ≤ Int.tdiv p xs.length := Int.tdiv_nonneg hp (by omega)
    have hq1 : Int.tdiv p xs.length ≤ p := by rw [Int.tdiv_eq_ediv_of_nonneg hp]; exact Int.ediv_le_self _ hp
    generalize hA : rd xs (Int.tmod p xs.length) = A at *
    generalize hB : rd xs (Int.tmod (p * 7 + 3) xs.length) = B at *
    generalize hQ : Int.tdiv p xs.length = Q at *
    have f1 : wrap64 A = A := w64 (by omega) (by omega)
    have f2 : wrap64 B = B := w64 (by omega) (by omega)
    have f3 : wrap64 (A * 131) = A * 131 := w64 (by omega) (by omega)
    have f4 : wrap64 (B * 1117) = B * 1117 := w64 (by omega) (by omega)
    have f5 : wrap64 (A * 131 + B * 1117) = A * 131 + B * 1117 := w64 (by omega) (by omega)
    have f6 : wrap64 (p * 29) = p * 29 := w64 (by omega) (by omega)
    have f7 : wrap64 (A * 131 + B * 1117 + p * 29) = A * 131 + B * 1117 + p * 29 := w64 (by omega) (by omega)
    have f8 : wrap64 Q = Q := w64 (by omega) (by omega)
    have f9 : wrap64 (Q * 53) = Q * 53 := w64 (by omega) (by omega)
    have f10 : wrap64 (A * 131 + B * 1117 + p * 29 + Q * 53) = A * 131 + B * 1117 + p * 29 + Q * 53 := w64 (by omega) (by omega)
    have hS0 : 0 ≤ A * 131 + B * 1117 + p * 29 + Q * 53 := by omega
    have hS1 : A * 131 + B * 1117 + p * 29 + Q * 53 < 2 ^ 60 := by omega
    generalize hS : A * 131 + B * 1117 + p * 29 + Q * 53 = S at *
    have g0 : 0 ≤ Int.tdiv S 64 := Int.tdiv_nonneg hS0 (by omega)
    have g1 : Int.tdiv S 64 ≤ S := by rw [Int.tdiv_eq_ediv_of_nonneg hS0]; exact Int.ediv_le_self _ hS0
    have f11 : wrap64 (Int.tdiv S 64) = Int.tdiv S 64 := w64 (by omega) (by omega)
    have hx := zu3 (a := S) (b := Int.tdiv S 64) hS0 (by omega) g0 (by omega)
    refine ⟨Int.tmod (Go.bits .xor .i64 S (Int.tdiv S 64)) n, ?_, (zJ hx (by omega)).1, fun _ => (zJ hx (by omega)).2, by omega⟩
    simp only [spec_l6Rd_pick.f]
    refine Ev.no hn (Ev.succ ?_)
    simp only [spec_l6Rd_pick.j0]
    rw [w1, w2, e7, e8, hA, hB, hQ, f1, f2, f3, f4, f5, f6, f7, f8, f9, hS, f10, f11]
    exact Ev.no (by simp; exact fun h => h0 (by rw [h]; rfl)) (Ev.no h1 (Ev.no (by omega) (Ev.yes m1.1 (Ev.yes m1.2 (Ev.yes m2.1 (Ev.yes m2.2 (Ev.no (by omega) (Ev.pure _))))))))
end Go.Proofs.Ytgoembpmhlmafaa.E
end
section
namespace Go.Proofs.Ytgoembpmhlmafaa.E
open Go.RowKit Go.Proofs.YtgoembpmhlmafaaW.PrintWords Go.Proofs.YtgoembpmhlmafaaW.PrintMore Go.Proofs.Ytgoembpmhlmafaa.P Osier
set_option linter.unusedVariables false
noncomputable def ins (t : STie) : List STie → List STie
 | [] => [t]
 | s :: l => if dec (tlt t s) = true then t :: s :: l else s :: ins t l
theorem zI {t s : STie} {l : List STie} : s ∈ ins t l ↔ s = t ∨ s ∈ l := by
 induction l with
 | nil => simp [ins]
 | cons u l ih =>
  rw [ins]
  split
  ·simp
  ·simp only [List.mem_cons, ih]
   constructor
   ·rintro (h | h | h) <;> simp [h]
   ·rintro (h | h | h) <;> simp [h]
theorem zh2 (t : STie) (l : List STie) : (ins t l).length = l.length + 1 := by
 induction l with
 | nil => rfl
 | cons u l ih =>
  rw [ins]
  split
  ·rfl
  ·simp [ih]
theorem zr3 {t : STie} {l : List STie} (h : Asc l) (ht : t ∉ l) : Asc (ins t l) := by
 induction l with
 | nil => exact List.pairwise_singleton _ _
 | cons u l ih =>
  rw [ins]
  have hu : ∀ s ∈ l, tlt u s := (List.pairwise_cons.1 h).1
  split
  ·rename_i hd
   have hd := dec_iff.1 hd
   refine List.pairwise_cons.2 ⟨fun s hs => ?_, h⟩
   rcases List.mem_cons.1 hs with rfl | hs
   ·exact hd
   ·exact tlt_trans hd (hu s hs)
  ·rename_i hd
   have hd : ¬ tlt t u := fun k => hd (dec_true k)
   refine List.pairwise_cons.2 ⟨fun s hs => ?_, ih (List.pairwise_cons.1 h).2 (fun k => ht (List.mem_cons_of_mem _ k))⟩
   rcases zI.1 hs with rfl | hs
   ·rcases tlt_total s u with k | k | k
    ·exact absurd k hd
    ·exact absurd (k ▸ List.mem_cons_self) ht
    ·exact k
   ·exact hu s hs
theorem za4 {K : Int} {E : List STie} {t : STie} (h : Ok K E) (ht : t ∉ E) (h0 : 0 ≤ t.f0) (h1 : t.f0 < t.f1) (h2 : t.f1 < K) : Ok K (ins t E) := by
 refine ⟨h.k0, h.k8, fun s hs => ?_, zr3 h.asc ht⟩
 rcases zI.1 hs with rfl | hs
 ·exact ⟨h0, h1, h2⟩
 ·exact h.tie s hs
def yd (K : Int) (E : List STie) (a b : Int) : Prop := Ok K E ∧ (0 ≤ a ∧ a < K) ∧ (0 ≤ b ∧ b < K) ∧ a ≠ b ∧ mkT a b ∉ E
noncomputable def addV (K : Int) (E : List STie) (a b : Int) : Int × List STie × Bool := if dec (yd K E a b) = true then (K, ins (mkT a b) E, true) else (0, [], false)
theorem zw4 {K a b : Int} (ha : 0 ≤ a ∧ a < K) (hb : 0 ≤ b ∧ b < K) (h : a ≠ b) : 0 ≤ (mkT a b).f0 ∧ (mkT a b).f0 < (mkT a b).f1 ∧ (mkT a b).f1 < K := by
 unfold mkT
 split <;> simp only <;> omega
theorem zC3 {K : Int} {E : List STie} {a b : Int} (h : yd K E a b) : Ok K (ins (mkT a b) E) := by
 obtain ⟨h1, h2, h3, h4, h5⟩ := h
 have := zw4 h2 h3 h4
 exact za4 h1 h5 this.1 this.2.1 this.2.2
theorem zp4 : Ok 0 ([] : List STie) := ⟨by omega, by omega, fun t h => by simp at h, List.Pairwise.nil⟩
theorem zy2 (K : Int) (E : List STie) (a b : Int) : Ok (addV K E a b).1 (addV K E a b).2.1 := by
 unfold addV
 by_cases h : yd K E a b
 ·rw [if_pos (dec_true h)]; exact zC3 h
 ·rw [if_neg (by rw [dec_false h]; simp)]; exact zp4
theorem zk4 {E : List STie} {i : Nat} (hi : i < E.length) (t : STie) : ins t (E.drop i) = if dec (tlt t E[i]) = true then t :: E[i] :: E.drop (i + 1) else E[i] :: ins t (E.drop (i + 1)) := by
 rw [drop_cons _ hi, ins]
theorem zF1 (K : Int) (E : List STie) (t : STie) (hE : E.length < 1099511627776) (d : Nat) : ∀ (i : Nat) (acc : List STie), i + d = E.length → acc.length ≤ i + 1 → Ev (fun k => spec_NetAdd.l0 k true (i : Int) K E K acc t.f0 t.f1) (K, acc ++ E.drop i, true) := by
 induction d with
 | zero =>
  intro i acc hi ha
  refine Ev.succ ?_
  simp only [spec_NetAdd.l0]
  refine Ev.no (by omega) (Ev.yes (by trivial) ?_)
  rw [List.drop_eq_nil_of_le (by omega), List.append_nil]
  exact Ev.pure _
 | succ d ih =>
  intro i acc hi ha
  have hlt : i < E.length := by omega
  refine Ev.succ ?_
  simp only [spec_NetAdd.l0]
  rw [rdT hlt, w64s (by omega), drop_cons _ hlt]
  refine Ev.yes (by omega) (Ev.yes (by trivial) (Ev.yes (by omega) (Ev.yes (by omega) ((ih (i + 1) _ (by omega) (by simp; omega)).value ?_))))
  simp
  exact (drop_cons _ hlt).symm
theorem zT1 (K : Int) (E : List STie) (t : STie) (hE : E.length < 1099511627776) (d : Nat) : ∀ (i : Nat) (acc : List STie), i + d = E.length → acc.length ≤ i → Ev (fun k => spec_NetAdd.l0 k false (i : Int) K E K acc t.f0 t.f1) (K, acc ++ ins t (E.drop i), true) := by
 induction d with
 | zero =>
  intro i acc hi ha
  refine Ev.succ ?_
  simp only [spec_NetAdd.l0]
  refine Ev.no (by omega) (Ev.no (by simp) ?_)
  rw [List.drop_eq_nil_of_le (by omega)]
  exact Ev.yes (by omega) (Ev.pure _)
 | succ d ih =>
  intro i acc hi ha
  have hlt : i < E.length := by omega
  refine Ev.succ ?_
  simp only [spec_NetAdd.l0]
  rw [rdT hlt, w64s (by omega), zk4 hlt]
  refine Ev.yes (by omega) (Ev.no (by simp) (Ev.yes (by omega) (Ev.bind (Ev.const (zk1 t E[i])) ?_)))
  by_cases h : tlt t E[i]
  ·rw [dec_true h]
   refine Ev.yes (by trivial) (Ev.yes (by omega) (Ev.bind (Ev.pure _) (Ev.yes (by simp; omega) ((zF1 K E t hE d (i + 1) _ (by omega) (by simp; omega)).value ?_))))
   simp
   exact (drop_cons _ hlt).symm
  ·rw [dec_false h]
   refine Ev.no (by simp) (Ev.yes (by omega) ((ih (i + 1) _ (by omega) (by simp; omega)).value ?_))
   simp
theorem zs (K : Int) (E : List STie) (a b : Int) (hE : E.length < 1099511627776) : Ev (fun k => spec_NetAdd.f k K E a b) (addV K E a b) := by
 simp only [spec_NetAdd.f]
 have no : ¬ yd K E a b → Ev (fun k => spec_NetAdd.j0 k a b true K E) (addV K E a b) := by
  intro h
  unfold addV
  rw [if_neg (by rw [dec_false h]; simp)]
  refine Ev.succ ?_
  simp only [spec_NetAdd.j0]
  exact Ev.yes (by trivial) (Ev.pure _)
 refine Ev.bind (zm K E a) ?_
 by_cases h1 : Ok K E ∧ 0 ≤ a ∧ a < K
 ·refine Ev.yes (dec_true h1) (Ev.bind (zm K E b) ?_)
  by_cases h2 : Ok K E ∧ 0 ≤ b ∧ b < K
  ·refine Ev.yes (dec_true h2) ?_
   by_cases h3 : a = b
   ·exact Ev.yes h3 (no (fun h => h.2.2.2.1 h3))
   ·refine Ev.no h3 (Ev.bind (zZ2 K E a b (by omega)) ?_)
    by_cases h4 : mkT a b ∈ E
    ·rw [dec_true ⟨h1.1, h4⟩]
     exact no (fun h => h.2.2.2.2 h4)
    ·rw [dec_false (fun h => h4 h.2)]
     refine Ev.succ ?_
     simp only [spec_NetAdd.j0]
     refine Ev.no (by simp) (Ev.bind (Ev.const (zu1 a b)) ((zT1 K E (mkT a b) hE E.length 0 [] (by omega) (by simp)).value ?_))
     unfold addV
     rw [if_pos (dec_true ⟨h1.1, h1.2, h2.2, h3, h4⟩)]
     simp
  ·exact Ev.no (by rw [dec_false h2]; simp) (no (fun h => h2 ⟨h.1, h.2.2.1⟩))
 ·exact Ev.no (by rw [dec_false h1]; simp) (no (fun h => h1 ⟨h.1, h.2.1⟩))
end Go.Proofs.Ytgoembpmhlmafaa.E
end
section
namespace Go.Proofs.Ytgoembpmhlmafaa.E
open Go.RowKit Go.Proofs.YtgoembpmhlmafaaW.PrintWords Go.Proofs.YtgoembpmhlmafaaW.PrintMore Go.Proofs.Ytgoembpmhlmafaa.P Osier
set_option linter.unusedVariables false
theorem zd3 {l : List Int} (hl : ∀ x ∈ l, (Lit.int .u8 x).wf = true) {n : Nat} (hn : n ≤ 2000) : Src (l.take n) := by
 refine ⟨fun x hx => ?_, by simp only [List.length_take]; omega⟩
 have h := hl x (List.mem_of_mem_take hx)
 have h1 : IntKind.u8.min = 0 := rfl
 have h2 : IntKind.u8.max = 255 := rfl
 simp only [Lit.wf, Bool.and_eq_true, decide_eq_true_eq] at h
 omega
theorem zP2 {l : List Int} (hl : ∀ x ∈ l, (Lit.int .u8 x).wf = true) : ∃ xs, spec_l6Open.f l = some (xs, 0) ∧ Src xs := by
 unfold spec_l6Open.f
 by_cases h : (l.length : Int) > 2000
 ·rw [if_pos h, if_pos (by omega)]
  exact ⟨_, rfl, zd3 hl (Nat.le_refl _)⟩
 ·rw [if_neg h]
  refine ⟨_, rfl, ?_⟩
  have := zd3 hl (n := l.length) (by omega)
  rwa [List.take_length] at this
theorem zY1 {xs : List Int} (hs : Src xs) (d : Nat) : ∀ (x p K : Int) (E : List STie), x ≤ d → d ≤ 100 → Ok K E → 0 ≤ p → p + 2 * d ≤ 1000000 → ∃ K' E' q, Ev (fun k => spec_l71Net.l2 k x xs p K E) (K', E', q) ∧ Ok K' E' ∧ p ≤ q ∧ q ≤ p + 2 * d := by
 have stop : ∀ (x p K : Int) (E : List STie), Ev (fun k => spec_l71Net.j4 k x false xs p K E) (K, E, p) := by
  intro x p K E
  refine Ev.succ ?_
  simp only [spec_l71Net.j4]
  exact Ev.no (by simp) (Ev.pure _)
 induction d with
 | zero =>
  intro x p K E hx hd hE hp hp'
  refine ⟨K, E, p, Ev.succ ?_, hE, by omega, by omega⟩
  simp only [spec_l71Net.l2]
  exact Ev.no (by omega) (stop _ _ _ _)
 | succ d ih =>
  intro x p K E hx hd hE hp hp'
  by_cases h : x > 0 ∧ K > 1
  ·have h8 := hE.k8
   obtain ⟨v, hv, hv0, hv1, _⟩ := za hs (p := p) hp (by omega) K (by omega)
   obtain ⟨u, hu, hu0, hu1, _⟩ := za hs (p := p + 1) (by omega) (by omega) K (by omega)
   have hlen := hE.len
   have wx : wrap64 (x - 1) = x - 1 := w64 (by omega) (by omega)
   by_cases ha : (addV K E v u).2.2 = true
   ·obtain ⟨K', E', q, hq, ho, h1, h2⟩ := ih (x - 1) (p + 1 + 1) _ _ (by omega) (by omega) (zy2 K E v u) (by omega) (by omega)
    refine ⟨K', E', q, Ev.succ ?_, ho, by omega, by omega⟩
    simp only [spec_l71Net.l2]
    refine Ev.yes h.1 (Ev.succ ?_)
    simp only [spec_l71Net.j4]
    rw [wx]
    exact Ev.yes (by simpa using h.2) (Ev.bind hv (Ev.bind hu (Ev.bind (zs K E v u (by omega)) (Ev.yes ha hq))))
   ·obtain ⟨K', E', q, hq, ho, h1, h2⟩ := ih (x - 1) (p + 1 + 1) K E (by omega) (by omega) hE (by omega) (by omega)
    refine ⟨K', E', q, Ev.succ ?_, ho, by omega, by omega⟩
    simp only [spec_l71Net.l2]
    refine Ev.yes h.1 (Ev.succ ?_)
    simp only [spec_l71Net.j4]
    rw [wx]
    exact Ev.yes (by simpa using h.2) (Ev.bind hv (Ev.bind hu (Ev.bind (zs K E v u (by omega)) (Ev.no ha hq))))
  ·refine ⟨K, E, p, Ev.succ ?_, hE, by omega, by omega⟩
   simp only [spec_l71Net.l2]
   by_cases h1 : x > 0
   ·refine Ev.yes h1 ?_
    have h2 : decide (K > 1) = false := decide_eq_false (fun h2 => h ⟨h1, h2⟩)
    rw [h2]
    exact stop _ _ _ _
   ·exact Ev.no h1 (stop _ _ _ _)
theorem zd {xs : List Int} (hs : Src xs) {p K : Int} {E : List STie} (hE : Ok K E) (hp : 0 ≤ p) (hp' : p ≤ 100000) : ∃ K' E' q, Ev (fun k => spec_l71Net.j2 k xs p K E) (K', E', q) ∧ Ok K' E' ∧ p ≤ q ∧ q ≤ p + 30 := by
 obtain ⟨v, hv, hv0, hv1, _⟩ := za hs (p := p) hp (by omega) 13 (by omega)
 obtain ⟨K', E', q, hq, ho, h1, h2⟩ := zY1 hs 13 v (p + 1) K E (by omega) (by omega) hE (by omega) (by omega)
 refine ⟨K', E', q, Ev.succ ?_, ho, by omega, by omega⟩
 simp only [spec_l71Net.j2]
 exact Ev.bind hv hq
theorem zS1 {xs : List Int} (hs : Src xs) (d : Nat) : ∀ (x p K : Int) (E : List STie), 0 ≤ x → 8 ≤ x + d → d ≤ 100 → Ok K E → 0 ≤ p → p + d ≤ 50000 → ∃ K' E' q, Ev (fun k => spec_l71Net.l0 k x xs p K E) (K', E', q) ∧ Ok K' E' ∧ p ≤ q ∧ q ≤ p + 30 + d := by
 induction d with
 | zero =>
  intro x p K E hx0 hx hd hE hp hp'
  have h8 := hE.k8
  obtain ⟨K', E', q, hq, ho, h1, h2⟩ := zd hs (p := p) hE (by omega) (by omega)
  refine ⟨K', E', q, Ev.succ ?_, ho, by omega, by omega⟩
  simp only [spec_l71Net.l0]
  exact Ev.no (by omega) hq
 | succ d ih =>
  intro x p K E hx0 hx hd hE hp hp'
  have h8 := hE.k8
  have hlen := hE.len
  by_cases h : x < K
  ·obtain ⟨v, hv, hv0, hv1, _⟩ := za hs (p := p) hp (by omega) x (by omega)
   obtain ⟨K', E', q, hq, ho, h1, h2⟩ := ih (x + 1) (p + 1) _ _ (by omega) (by omega) (by omega) (zy2 K E x v) (by omega) (by omega)
   refine ⟨K', E', q, Ev.succ ?_, ho, by omega, by omega⟩
   simp only [spec_l71Net.l0]
   rw [w64 (x := x + 1) (by omega) (by omega)]
   exact Ev.yes h (Ev.bind hv (Ev.bind (zs K E x v (by omega)) hq))
  ·obtain ⟨K', E', q, hq, ho, h1, h2⟩ := zd hs (p := p) hE (by omega) (by omega)
   refine ⟨K', E', q, Ev.succ ?_, ho, by omega, by omega⟩
   simp only [spec_l71Net.l0]
   exact Ev.no h hq
theorem zX1 {xs : List Int} (hs : Src xs) (d : Nat) : ∀ (x p K : Int) (E : List STie), 0 ≤ x → 8 ≤ x + d → d ≤ 100 → Ok K E → 0 ≤ p → p ≤ 50000 → ∃ K' E' q, Ev (fun k => spec_l71Net.l1 k x xs p K E) (K', E', q) ∧ Ok K' E' ∧ p ≤ q ∧ q ≤ p + 30 := by
 induction d with
 | zero =>
  intro x p K E hx0 hx hd hE hp hp'
  have h8 := hE.k8
  obtain ⟨K', E', q, hq, ho, h1, h2⟩ := zd hs (p := p) hE (by omega) (by omega)
  refine ⟨K', E', q, Ev.succ ?_, ho, by omega, by omega⟩
  simp only [spec_l71Net.l1]
  exact Ev.no (by omega) hq
 | succ d ih =>
  intro x p K E hx0 hx hd hE hp hp'
  have h8 := hE.k8
  have hlen := hE.len
  by_cases h : x < K
  ·by_cases h2 : K > 2
   ·obtain ⟨K', E', q, hq, ho, h1, h2'⟩ := ih (x + 1) p _ _ (by omega) (by omega) (by omega) (zy2 K E x (Int.tmod (wrap64 (x + 1)) K)) (by omega) (by omega)
    refine ⟨K', E', q, Ev.succ ?_, ho, by omega, by omega⟩
    simp only [spec_l71Net.l1]
    refine Ev.yes h (Ev.yes h2 (Ev.no (by omega) (Ev.bind (zs K E x _ (by omega)) ?_)))
    have e1 : wrap64 (x + 1) = x + 1 := w64 (by omega) (by omega)
    rw [e1] at hq ⊢
    exact hq
   ·obtain ⟨K', E', q, hq, ho, h1, h2'⟩ := zd hs (p := p) hE (by omega) (by omega)
    refine ⟨K', E', q, Ev.succ ?_, ho, by omega, by omega⟩
    simp only [spec_l71Net.l1]
    exact Ev.yes h (Ev.no h2 hq)
  ·obtain ⟨K', E', q, hq, ho, h1, h2⟩ := zd hs (p := p) hE (by omega) (by omega)
   refine ⟨K', E', q, Ev.succ ?_, ho, by omega, by omega⟩
   simp only [spec_l71Net.l1]
   exact Ev.no h hq
theorem zY2 {xs : List Int} (hs : Src xs) {p : Int} (hp : 0 ≤ p) (hp' : p ≤ 40000) : ∃ K E q, Ev (fun k => spec_l71Net.f k xs p) (K, E, q) ∧ Ok K E ∧ p ≤ q ∧ q ≤ p + 50 := by
 obtain ⟨v, hv, hv0, hv1, _⟩ := za hs (p := p) hp (by omega) 8 (by omega)
 obtain ⟨u, hu, hu0, hu1, _⟩ := za hs (p := p + 1) (by omega) (by omega) 6 (by omega)
 have hv1 := hv1 (by omega)
 have w : wrap64 (1 + v) = 1 + v := w64 (by omega) (by omega)
 have h0 : Ok (1 + v) ([] : List STie) := ⟨by omega, by omega, fun t h => by simp at h, List.Pairwise.nil⟩
 simp only [spec_l71Net.f]
 by_cases c0 : u = 0
 ·obtain ⟨K', E', q, hq, ho, h1, h2⟩ := zS1 hs 8 1 (p + 1 + 1) (1 + v) [] (by omega) (by omega) (by omega) h0 (by omega) (by omega)
  refine ⟨K', E', q, Ev.bind hv (Ev.bind hu ?_), ho, by omega, by omega⟩
  dsimp only
  rw [w]
  exact Ev.yes c0 hq
 ·by_cases c1 : u = 1
  ·obtain ⟨K', E', q, hq, ho, h1, h2⟩ := zX1 hs 8 0 (p + 1 + 1) (1 + v) [] (by omega) (by omega) (by omega) h0 (by omega) (by omega)
   refine ⟨K', E', q, Ev.bind hv (Ev.bind hu ?_), ho, by omega, by omega⟩
   dsimp only
   rw [w]
   exact Ev.no c0 (Ev.yes c1 hq)
  ·obtain ⟨K', E', q, hq, ho, h1, h2⟩ := zd hs (p := p + 1 + 1) h0 (by omega) (by omega)
   refine ⟨K', E', q, Ev.bind hv (Ev.bind hu ?_), ho, by omega, by omega⟩
   dsimp only
   rw [w]
   exact Ev.no c0 (Ev.no c1 hq)
end Go.Proofs.Ytgoembpmhlmafaa.E
end
section
namespace Go.Proofs.Ytgoembpmhlmafaa.E
open Go.RowKit Go.Proofs.YtgoembpmhlmafaaW.PrintWords Go.Proofs.YtgoembpmhlmafaaW.PrintMore Go.Proofs.Ytgoembpmhlmafaa.P Osier
set_option linter.unusedVariables false
theorem zc (K : Int) (E : List STie) (hE : E.length < 1099511627776) : spec_l1Copy.f K E = some (K, E) := by
 unfold spec_l1Copy.f
 simp only [Option.bind_some, List.nil_append]
 rw [if_pos (by simp; omega)]
structure Small (K : Int) (E : List STie) : Prop where
 k0 : -1 ≤ K
 k9 : K ≤ 9
 len : E.length ≤ 65
theorem Small.of {K : Int} {E : List STie} (h : Ok K E) : Small K E := ⟨by have := h.k0; omega, by have := h.k8; omega, by have := h.len; omega⟩
theorem zl2 {xs : List Int} (hs : Src xs) {p : Int} (hp : 0 ≤ p) (hp' : p ≤ 100000) {K : Int} {E : List STie} (hE : Ok K E) : ∃ K' E' q, Ev (fun k => spec_l71Spoil.f k xs p K E) (K', E', q) ∧ Small K' E' ∧ p ≤ q ∧ q ≤ p + 5 := by
 have hl := hE.len
 have h0 := hE.k0
 have h8 := hE.k8
 obtain ⟨v, hv, hv0, hv1, _⟩ := za hs (p := p) hp (by omega) 6 (by omega)
 simp only [spec_l71Spoil.f]
 by_cases c0 : v = 0
 ·obtain ⟨u, hu, hu0, hu1, _⟩ := za hs (p := p + 1) (by omega) (by omega) 5 (by omega)
  have hu1 := hu1 (by omega)
  have hm : rd [(-1), 0, 1, 8, 9] u ∈ ([(-1), 0, 1, 8, 9] : List Int) := by
   obtain ⟨n, hn'⟩ : ∃ n : Nat, u = (n : Int) := ⟨u.toNat, by omega⟩
   have hn : n < ([(-1), 0, 1, 8, 9] : List Int).length := by simp; omega
   rw [hn', rdI hn]; exact List.getElem_mem hn
  refine ⟨rd [(-1), 0, 1, 8, 9] u, E, p + 1 + 1, Ev.bind (Ev.const (zc K E (by omega))) (Ev.bind hv (Ev.yes c0 (Ev.bind (Ev.pure _) (Ev.bind hu (Ev.yes hu0 (Ev.yes (by simp; omega) (Ev.pure _))))))), ?_, by omega, by omega⟩
  simp only [List.mem_cons, List.not_mem_nil, or_false] at hm
  exact ⟨by omega, by omega, by omega⟩
 ·by_cases c1 : v = 1
  ·obtain ⟨u, hu, hu0, hu1, _⟩ := za hs (p := p + 1) (by omega) (by omega) 3 (by omega)
   obtain ⟨s, hs', hs0, hs1, _⟩ := za hs (p := p + 1 + 1) (by omega) (by omega) 3 (by omega)
   exact ⟨K, E ++ [⟨u, s⟩], p + 1 + 1 + 1, Ev.bind (Ev.const (zc K E (by omega))) (Ev.bind hv (Ev.no c0 (Ev.yes c1 (Ev.bind hu (Ev.bind hs' (Ev.yes (by dsimp only; omega) (Ev.pure _))))))), ⟨by omega, by omega, by simp; omega⟩, by omega, by omega⟩
  ·by_cases c2 : v = 2
   ·exact ⟨K, E ++ [⟨wrap64 (K - 1), K⟩], p + 1, Ev.bind (Ev.const (zc K E (by omega))) (Ev.bind hv (Ev.no c0 (Ev.no c1 (Ev.yes c2 (Ev.yes (by dsimp only; omega) (Ev.pure _)))))), ⟨by omega, by omega, by simp; omega⟩, by omega, by omega⟩
   ·by_cases c3 : v = 3
    ·by_cases hE0 : (E.length : Int) > 0
     ·obtain ⟨u, hu, hu0, hu1, _⟩ := za hs (p := p + 1) (by omega) (by omega) (E.length : Int) (by omega)
      have hu1 := hu1 (by omega)
      exact ⟨K, _, p + 1 + 1, Ev.bind (Ev.const (zc K E (by omega))) (Ev.bind hv (Ev.no c0 (Ev.no c1 (Ev.no c2 (Ev.yes c3 (Ev.yes hE0 (Ev.bind hu (Ev.yes hu0 (Ev.yes hu1 (Ev.pure _)))))))))), ⟨by omega, by omega, by simp; omega⟩, by omega, by omega⟩
     ·exact ⟨K, E, p + 1, Ev.bind (Ev.const (zc K E (by omega))) (Ev.bind hv (Ev.no c0 (Ev.no c1 (Ev.no c2 (Ev.yes c3 (Ev.no hE0 (Ev.pure _))))))), ⟨by omega, by omega, by omega⟩, by omega, by omega⟩
    ·by_cases c4 : v = 4
     ·by_cases hE0 : (E.length : Int) > 1
      ·exact ⟨K, E ++ [⟨(rd_TTie E 0).f0, (rd_TTie E 0).f1⟩], p + 1, Ev.bind (Ev.const (zc K E (by omega))) (Ev.bind hv (Ev.no c0 (Ev.no c1 (Ev.no c2 (Ev.no c3 (Ev.yes c4 (Ev.yes hE0 (Ev.yes (by dsimp only; omega) (Ev.yes (by dsimp only; omega) (Ev.pure _)))))))))), ⟨by omega, by omega, by simp; omega⟩, by omega, by omega⟩
      ·exact ⟨K, E, p + 1, Ev.bind (Ev.const (zc K E (by omega))) (Ev.bind hv (Ev.no c0 (Ev.no c1 (Ev.no c2 (Ev.no c3 (Ev.yes c4 (Ev.no hE0 (Ev.pure _)))))))), ⟨by omega, by omega, by omega⟩, by omega, by omega⟩
     ·exact ⟨K, [⟨-1, 0⟩] ++ E, p + 1, Ev.bind (Ev.const (zc K E (by omega))) (Ev.bind hv (Ev.no c0 (Ev.no c1 (Ev.no c2 (Ev.no c3 (Ev.no c4 (Ev.bind (Ev.pure _) (Ev.yes (by simp; omega) (Ev.pure _))))))))), ⟨by omega, by omega, by simp; omega⟩, by omega, by omega⟩
theorem zQ2 {xs : List Int} (hs : Src xs) {p : Int} (hp : 0 ≤ p) (hp' : p ≤ 30000) : ∃ K E q, Ev (fun k => spec_l71Any.f k xs p) (K, E, q) ∧ Small K E ∧ p ≤ q ∧ q ≤ p + 60 := by
 obtain ⟨K, E, q, hq, ho, h1, h2⟩ := zY2 hs hp (by omega)
 obtain ⟨v, hv, hv0, hv1, _⟩ := za hs (p := q) (by omega) (by omega) 12 (by omega)
 simp only [spec_l71Any.f]
 by_cases c : v = 0
 ·obtain ⟨K', E', q', hq', ho', h1', h2'⟩ := zl2 hs (p := q + 1) (by omega) (by omega) ho
  exact ⟨K', E', q', Ev.bind hq (Ev.bind hv (Ev.yes c (Ev.bind hq' (Ev.pure _)))), ho', by omega, by omega⟩
 ·exact ⟨K, E, q + 1, Ev.bind hq (Ev.bind hv (Ev.no c (Ev.pure _))), Small.of ho, by omega, by omega⟩
end Go.Proofs.Ytgoembpmhlmafaa.E
end
section
namespace Go.Proofs.Ytgoembpmhlmafaa.E
open Go.RowKit Go.Proofs.YtgoembpmhlmafaaW.PrintWords Go.Proofs.YtgoembpmhlmafaaW.PrintMore Go.Proofs.Ytgoembpmhlmafaa.P Osier
set_option linter.unusedVariables false
theorem zX (a : List Int) (ha : a.length < 4611686018427387904) (d : Nat) : ∀ i, i + d = a.length → Ev (fun k => laws_loInts.l0 k a a (i : Int)) true := by
 induction d with
 | zero =>
  intro i hi
  refine Ev.succ ?_
  simp only [laws_loInts.l0]
  exact Ev.no (by omega) (Ev.pure _)
 | succ d ih =>
  intro i hi
  have hlt : i < a.length := by omega
  refine Ev.succ ?_
  simp only [laws_loInts.l0]
  refine Ev.yes (by omega) (Ev.yes (by omega) (Ev.yes (by omega) ?_))
  rw [w64s (by omega)]
  exact Ev.yes (by trivial) (ih (i + 1) (by omega))
theorem zC1 (l : List Int) (h : l.length < 4611686018427387904) : Ev (fun k => laws_loInts.f k l l) true := by
 simp only [laws_loInts.f]
 exact Ev.yes (by trivial) (zX l h l.length 0 (by omega))
end Go.Proofs.Ytgoembpmhlmafaa.E
end
section
namespace Go.Proofs.Ytgoembpmhlmafaa.E
open Go.RowKit Go.Proofs.YtgoembpmhlmafaaW.PrintWords Go.Proofs.YtgoembpmhlmafaaW.PrintMore Go.Proofs.Ytgoembpmhlmafaa.P Osier
set_option linter.unusedVariables false
theorem zL3 {K : Int} {E : List STie} (hK : 0 ≤ K) {x : Int} (hx : 0 ≤ x ∧ x < K) : rd (partsL K E) x = prt K E x := by
 have hl := zH (E := E) hK
 have h : x.toNat < (partsL K E).length := by omega
 have := rdI h
 rw [Int.toNat_of_nonneg hx.1] at this
 rw [this, zf1, Int.toNat_of_nonneg hx.1]
noncomputable def rootsTo (K : Int) (E : List STie) (i : Nat) : Nat := ((List.range i).map Int.ofNat).countP (fun k => dec (yg K E k))
theorem zf3 (K : Int) (E : List STie) (i : Nat) : rootsTo K E (i + 1) = rootsTo K E i + if dec (yg K E (i : Int)) = true then 1 else 0 := by
 unfold rootsTo
 rw [List.range_succ, List.map_append, List.countP_append]
 simp only [List.map_cons, List.map_nil, List.countP_cons, List.countP_nil, Int.ofNat_eq_natCast]
 split <;> simp_all
theorem zs2 (K : Int) (E : List STie) (i : Nat) : rootsTo K E i ≤ i := zA2 i _
theorem zL1 (K : Int) (E : List STie) : rootsTo K E K.toNat = comps K E := by
 unfold rootsTo comps
 congr 1
theorem ze3 {K : Int} {E : List STie} {i : Int} (h : 0 ≤ i ∧ i < K) : (prt K E i = i) ↔ yg K E i := (zd4 h.1 h.2).symm
theorem zr1 {K : Int} {E : List STie} (hE : Ok K E) (d : Nat) : ∀ i : Nat, i + d = (partsL K E).length → Ev (fun k => impl_Net_count.l0 k (rootsTo K E i : Int) (partsL K E) ((partsL K E).length : Int) (i : Int)) (comps K E : Int) := by
 have hl := zH (E := E) hE.k0
 have h8 := hE.k8
 induction d with
 | zero =>
  intro i hi
  refine Ev.succ ?_
  simp only [impl_Net_count.l0]
  refine Ev.no (by omega) ?_
  have : i = K.toNat := by omega
  subst this
  rw [zL1]; exact Ev.pure _
 | succ d ih =>
  intro i hi
  have hle := zs2 K E i
  refine Ev.succ ?_
  simp only [impl_Net_count.l0]
  rw [zL3 hE.k0 (x := (i : Int)) (by omega), w64s (n := i) (by omega), w64s (n := rootsTo K E i) (by omega)]
  have hih := ih (i + 1) (by omega)
  rw [zf3] at hih
  refine Ev.yes (by omega) (Ev.yes (by omega) (Ev.yes (by omega) ?_))
  by_cases h : yg K E (i : Int)
  ·rw [if_pos (dec_true h)] at hih
   exact Ev.yes ((ze3 (by omega)).2 h).symm hih
  ·rw [if_neg (by rw [dec_false h]; simp)] at hih
   exact Ev.no (fun k => h ((ze3 (by omega)).1 k.symm)) hih
theorem zO {K : Int} {E : List STie} (hE : Ok K E) : Ev (fun k => impl_Net_count.f k K E) (comps K E : Int) := by
 simp only [impl_Net_count.f]
 exact Ev.bind (zP hE) (zr1 hE (partsL K E).length 0 (by omega))
end Go.Proofs.Ytgoembpmhlmafaa.E
end
section
namespace Go.Proofs.Ytgoembpmhlmafaa.E
open Go.RowKit Go.Proofs.YtgoembpmhlmafaaW.PrintWords Go.Proofs.YtgoembpmhlmafaaW.PrintMore Go.Proofs.Ytgoembpmhlmafaa.P Osier
set_option linter.unusedVariables false
noncomputable def treeV (K : Int) (E : List STie) : List STie := if dec (Ok K E) = true then kr [] E else []
theorem zb3 {E : List STie} {i : Nat} (hi : i < E.length) {acc : List STie} (h : acc.Sublist (E.take i)) : (acc ++ [E[i]]).Sublist (E.take (i + 1)) := by
 rw [take_snoc _ hi]
 exact List.Sublist.append h (List.Sublist.refl _)
theorem zU1 {K : Int} {E : List STie} (hE : Ok K E) (d : Nat) : ∀ (i : Nat) (acc : List STie), i + d = E.length → acc.Sublist (E.take i) → Ev (fun k => spec_TreeOf.l0 k acc (i : Int) K E) (kr acc (E.drop i)) := by
 have hl := hE.len
 induction d with
 | zero =>
  intro i acc hi hs
  refine Ev.succ ?_
  simp only [spec_TreeOf.l0]
  refine Ev.no (by omega) ?_
  rw [List.drop_eq_nil_of_le (by omega), kr]
  exact Ev.pure _
 | succ d ih =>
  intro i acc hi hs
  have hlt : i < E.length := by omega
  have tie := hE.tie _ (List.getElem_mem hlt)
  have hacc : Ok K acc := hE.sub (hs.trans (List.take_sublist _ _))
  have hal := hs.length_le
  simp only [List.length_take] at hal
  refine Ev.succ ?_
  simp only [spec_TreeOf.l0]
  rw [rdT hlt, w64s (by omega)]
  have er : reachV K acc E[i].f0 = reachL K acc E[i].f0 := by unfold reachV; rw [if_pos (dec_true ⟨hacc, by omega, by omega⟩)]
  have hrl := zd2 (E := acc) (a := E[i].f0) hE.k0
  have hj : E[i].f1.toNat < (reachL K acc E[i].f0).length := by omega
  have hr := rdB hj
  rw [Int.toNat_of_nonneg (by omega)] at hr
  refine Ev.yes (by omega) (Ev.yes (by omega) (Ev.bind (zi2 K acc E[i].f0) ?_))
  rw [er, hr, zt2, Int.toNat_of_nonneg (by omega), drop_cons _ hlt]
  refine Ev.yes (by omega) (Ev.yes (by omega) ?_)
  by_cases h : Conn acc E[i].f0 E[i].f1
  ·rw [zy1 h]
   exact Ev.yes (dec_true h) (ih (i + 1) acc (by omega) (hs.trans (by rw [take_snoc _ hlt]; exact List.sublist_append_left _ _)))
  ·rw [zo2 h]
   exact Ev.no (by rw [dec_false h]; simp) (Ev.yes (by omega) (ih (i + 1) _ (by omega) (zb3 hlt hs)))
theorem zV2 (K : Int) (E : List STie) : Ev (fun k => spec_TreeOf.f k K E) (treeV K E) := by
 simp only [spec_TreeOf.f]
 refine Ev.bind (Ev.pure _) (Ev.bind (zz K E) ?_)
 unfold treeV
 by_cases h : Ok K E
 ·rw [if_pos (dec_true h)]
  exact Ev.yes (dec_true h) ((zU1 h E.length 0 [] (by omega) (List.nil_sublist _)).value (by simp))
 ·rw [if_neg (by rw [dec_false h]; simp)]
  exact Ev.no (by rw [dec_false h]; simp) (Ev.pure _)
theorem zt1 {K : Int} {E : List STie} (hE : Ok K E) (d : Nat) : ∀ (i : Nat) (acc : List STie), i + d = E.length → acc.Sublist (E.take i) → Ev (fun k => impl_Net_tree.l0 k E (E.length : Int) (i : Int) K acc) (K, kr acc (E.drop i)) := by
 have hl := hE.len
 induction d with
 | zero =>
  intro i acc hi hs
  refine Ev.succ ?_
  simp only [impl_Net_tree.l0]
  refine Ev.no (by omega) ?_
  rw [List.drop_eq_nil_of_le (by omega), kr]
  exact Ev.pure _
 | succ d ih =>
  intro i acc hi hs
  have hlt : i < E.length := by omega
  have tie := hE.tie _ (List.getElem_mem hlt)
  have hacc : Ok K acc := hE.sub (hs.trans (List.take_sublist _ _))
  have hal := hs.length_le
  simp only [List.length_take] at hal
  refine Ev.succ ?_
  simp only [impl_Net_tree.l0]
  rw [rdT hlt, w64s (by omega)]
  refine Ev.yes (by omega) (Ev.yes (by omega) (Ev.yes (by omega) (Ev.bind (zI1 hacc (by omega) (by omega)) ?_)))
  rw [drop_cons _ hlt]
  by_cases h : Conn acc E[i].f0 E[i].f1
  ·rw [zy1 h]
   exact Ev.yes (dec_true h) (ih (i + 1) acc (by omega) (hs.trans (by rw [take_snoc _ hlt]; exact List.sublist_append_left _ _)))
  ·rw [zo2 h]
   exact Ev.no (by rw [dec_false h]; simp) (Ev.yes (by omega) (ih (i + 1) _ (by omega) (zb3 hlt hs)))
theorem zR {K : Int} {E : List STie} (hE : Ok K E) : Ev (fun k => impl_Net_tree.f k K E) (K, kr [] E) := by
 simp only [impl_Net_tree.f]
 exact (zt1 hE E.length 0 [] (by omega) (List.nil_sublist _)).value (by simp)
theorem zS2 (K : Int) (E : List STie) (hl : E.length < 4611686018427387904) : Ev (fun k => impl_TreeOf.f k K E) (treeV K E) := by
 simp only [impl_TreeOf.f]
 refine Ev.bind (zo K E hl) ?_
 unfold treeV
 by_cases h : Ok K E
 ·rw [if_pos (dec_true h)]
  exact Ev.yes (dec_true h) (Ev.bind (zR h) (Ev.pure _))
 ·rw [if_neg (by rw [dec_false h]; simp)]
  exact Ev.no (by rw [dec_false h]; simp) (Ev.pure _)
end Go.Proofs.Ytgoembpmhlmafaa.E
end
section
namespace Go.Proofs.Ytgoembpmhlmafaa.E
open Go.RowKit Go.Proofs.YtgoembpmhlmafaaW.PrintWords Go.Proofs.YtgoembpmhlmafaaW.PrintMore Go.Proofs.Ytgoembpmhlmafaa.P Osier
set_option linter.unusedVariables false
noncomputable def ringV (K : Int) (E : List STie) (t : STie) : List Int := (wayV K (kr [] E) t.f1 t.f0).1
noncomputable def ringsL (K : Int) (E : List STie) (F : List STie) : List (List Int) := (F.filter (fun t => decide (t ∉ kr [] E))).map (ringV K E)
noncomputable def ringsV (K : Int) (E : List STie) : List (List Int) := if dec (Ok K E) = true then ringsL K E E else []
theorem zy {K : Int} {E : List STie} (h : Ok K E) : ringsV K E = ringsL K E E := by unfold ringsV; rw [if_pos (dec_true h)]
theorem zr {K : Int} {E : List STie} (h : ¬ Ok K E) : ringsV K E = [] := by unfold ringsV; rw [if_neg (by rw [dec_false h]; simp)]
theorem zE2 {K : Int} {E : List STie} (h : Ok K E) : treeV K E = kr [] E := by unfold treeV; rw [if_pos (dec_true h)]
theorem zi1 {K : Int} {E : List STie} (hE : Ok K E) {t : STie} (ht : t ∈ E) : Two K (kr [] E) t.f1 t.f0 ∧ Conn (kr [] E) t.f1 t.f0 := by
 have h := hE.tie t ht
 refine ⟨⟨zy3 hE, by omega, by omega⟩, (zv1 E t.f1 t.f0).2 ?_⟩
 have he : Ed E t.f0 t.f1 := hE.ed.2 (by rw [zb1 h.2.1]; exact ht)
 exact (Steps.reach (.succ he .zero)).symm
theorem zh3 {K : Int} {E : List STie} (hE : Ok K E) {t : STie} (ht : t ∈ E) : (ringV K E t).length ≤ 8 := by
 have h := zi1 hE ht
 obtain ⟨d, hd⟩ := h.2.dist
 unfold ringV
 rw [zN h.1 hd]
 have := (zE h.1.1 h.1.2.1 hd).length_le
 have := hE.k8
 dsimp only
 omega
theorem zt3 (K : Int) (E F : List STie) : (ringsL K E F).length ≤ F.length := by
 unfold ringsL
 rw [List.length_map]
 exact List.length_filter_le _ _
theorem zA3 {K : Int} {E : List STie} : (ringsV K E).length ≤ 64 := by
 by_cases h : Ok K E
 ·rw [zy h]
  have := zt3 K E E
  have := h.len
  omega
 ·rw [zr h]; simp
theorem zE3 {K : Int} {E : List STie} {x : List Int} (hx : x ∈ ringsV K E) : x.length ≤ 8 := by
 by_cases h : Ok K E
 ·rw [zy h] at hx
  unfold ringsL at hx
  obtain ⟨t, ht, rfl⟩ := List.mem_map.1 hx
  exact zh3 h (List.mem_filter.1 ht).1
 ·rw [zr h] at hx; simp at hx
theorem zq1 {K : Int} {E : List STie} (hE : Ok K E) (d : Nat) : ∀ (i : Nat) (acc : List (List Int)), i + d = E.length → acc.length + d ≤ 1000 → Ev (fun k => spec_TreeRings.l0 k acc (i : Int) K E K (kr [] E)) (acc ++ ringsL K E (E.drop i)) := by
 have hl := hE.len
 have htl := (zq E).length_le
 induction d with
 | zero =>
  intro i acc hi ho
  refine Ev.succ ?_
  simp only [spec_TreeRings.l0]
  refine Ev.no (by omega) ?_
  rw [List.drop_eq_nil_of_le (by omega)]
  simpa [ringsL] using Ev.pure _
 | succ d ih =>
  intro i acc hi ho
  have hlt : i < E.length := by omega
  have ht := List.getElem_mem hlt
  have hT := hE.tie _ ht
  have he := zb1 hT.2.1
  have hh := zQ K (kr [] E) E[i].f0 E[i].f1 (by omega)
  rw [he] at hh
  refine Ev.succ ?_
  simp only [spec_TreeRings.l0]
  rw [rdT hlt, w64s (by omega), drop_cons _ hlt]
  refine Ev.yes (by omega) (Ev.yes (by omega) (Ev.bind hh ?_))
  by_cases c : E[i] ∈ kr [] E
  ·have e1 : ringsL K E (E[i] :: E.drop (i + 1)) = ringsL K E (E.drop (i + 1)) := by unfold ringsL; rw [List.filter_cons, if_neg (by simpa using c)]
   rw [e1]
   exact Ev.yes (dec_true c) (ih (i + 1) acc (by omega) (by omega))
  ·have e1 : acc ++ ringsL K E (E[i] :: E.drop (i + 1)) = (acc ++ [ringV K E E[i]]) ++ ringsL K E (E.drop (i + 1)) := by unfold ringsL; rw [List.filter_cons, if_pos (by simpa using c), List.map_cons, List.append_assoc]; rfl
   rw [e1]
   exact Ev.no (by rw [dec_false c]; simp) (Ev.bind (zC2 K (kr [] E) E[i].f1 E[i].f0) (Ev.yes (by omega) (ih (i + 1) _ (by omega) (by simp; omega))))
theorem zM (K : Int) (E : List STie) : Ev (fun k => spec_TreeRings.f k K E) (ringsV K E) := by
 simp only [spec_TreeRings.f]
 refine Ev.bind (Ev.pure _) (Ev.bind (zV2 K E) (Ev.bind (zz K E) ?_))
 by_cases h : Ok K E
 ·have hl := h.len
  rw [zy h, zE2 h]
  exact Ev.yes (dec_true h) (zq1 h E.length 0 [] (by omega) (by simp; omega))
 ·rw [zr h]
  exact Ev.no (by rw [dec_false h]; simp) (Ev.pure _)
theorem zm1 {K : Int} {E : List STie} (hE : Ok K E) (d : Nat) : ∀ (i : Nat) (acc : List (List Int)), i + d = E.length → acc.length + d ≤ 1000 → Ev (fun k => impl_TreeRings.l0 k acc E (E.length : Int) (i : Int) K (kr [] E)) (acc ++ ringsL K E (E.drop i)) := by
 have hl := hE.len
 have htl := (zq E).length_le
 induction d with
 | zero =>
  intro i acc hi ho
  refine Ev.succ ?_
  simp only [impl_TreeRings.l0]
  refine Ev.no (by omega) ?_
  rw [List.drop_eq_nil_of_le (by omega)]
  simpa [ringsL] using Ev.pure _
 | succ d ih =>
  intro i acc hi ho
  have hlt : i < E.length := by omega
  have ht := List.getElem_mem hlt
  refine Ev.succ ?_
  simp only [impl_TreeRings.l0]
  rw [rdT hlt, w64s (by omega), drop_cons _ hlt]
  refine Ev.yes (by omega) (Ev.yes (by omega) (Ev.yes (by omega) (Ev.bind (ze (kr [] E) E[i] (by omega)) ?_)))
  by_cases c : E[i] ∈ kr [] E
  ·have e1 : ringsL K E (E[i] :: E.drop (i + 1)) = ringsL K E (E.drop (i + 1)) := by unfold ringsL; rw [List.filter_cons, if_neg (by simpa using c)]
   rw [e1]
   exact Ev.yes (dec_true c) (ih (i + 1) acc (by omega) (by omega))
  ·have e1 : acc ++ ringsL K E (E[i] :: E.drop (i + 1)) = (acc ++ [ringV K E E[i]]) ++ ringsL K E (E.drop (i + 1)) := by unfold ringsL; rw [List.filter_cons, if_pos (by simpa using c), List.map_cons, List.append_assoc]; rfl
   have h2 := zi1 hE ht
   obtain ⟨dd, hd⟩ := h2.2.dist
   have hh := zc4 h2.1.1 h2.1.2.1 hd
   have hall := zw2 (b := E[i].f0) h2.1.1 h2.1.2.1
   have hne : 0 < (ye K (kr [] E) E[i].f1 E[i].f0).length := by
    cases hc : ye K (kr [] E) E[i].f1 E[i].f0 with
    | nil => rw [hc] at hh; simp at hh
    | cons x l => simp
   have e0 : rd_LI (ye K (kr [] E) E[i].f1 E[i].f0) 0 = ringV K E E[i] := by
    have e := rdW (xs := ye K (kr [] E) E[i].f1 E[i].f0) (n := 0) hne
    rw [show ((0 : Nat) : Int) = 0 from rfl] at e
    rw [e]
    rw [List.head?_eq_getElem?, List.getElem?_eq_getElem hne] at hh
    unfold ringV
    rw [zN h2.1 hd]
    exact Option.some.inj hh
   rw [e1]
   refine Ev.no (by rw [dec_false c]; simp) (Ev.bind hall.1 ?_)
   rw [e0]
   exact Ev.yes (by omega) (Ev.yes (by omega) (ih (i + 1) _ (by omega) (by simp; omega)))
theorem zZ1 (K : Int) (E : List STie) (hE : E.length < 4611686018427387904) : Ev (fun k => impl_TreeRings.f k K E) (ringsV K E) := by
 simp only [impl_TreeRings.f]
 refine Ev.bind (Ev.pure _) (Ev.bind (zo K E hE) ?_)
 by_cases h : Ok K E
 ·have hl := h.len
  rw [zy h]
  exact Ev.yes (dec_true h) (Ev.bind (zR h) (zm1 h E.length 0 [] (by omega) (by simp; omega)))
 ·rw [zr h]
  exact Ev.no (by rw [dec_false h]; simp) (Ev.pure _)
end Go.Proofs.Ytgoembpmhlmafaa.E
end
section
namespace Go.Proofs.Ytgoembpmhlmafaa.E
open Go.RowKit Go.Proofs.YtgoembpmhlmafaaW.PrintWords Go.Proofs.YtgoembpmhlmafaaW.PrintMore Go.Proofs.Ytgoembpmhlmafaa.P Osier
set_option linter.unusedVariables false
theorem zV1 (L : List (List Int)) (hL : L.length ≤ 134217728) (h8 : ∀ x ∈ L, x.length ≤ 8) (d : Nat) : ∀ i, i + d = L.length → Ev (fun k => laws_loRows.l0 k L L (i : Int)) true := by
 induction d with
 | zero =>
  intro i hi
  refine Ev.succ ?_
  simp only [laws_loRows.l0]
  exact Ev.no (by omega) (Ev.pure _)
 | succ d ih =>
  intro i hi
  have hlt : i < L.length := by omega
  have h9 := h8 _ (List.getElem_mem hlt)
  refine Ev.succ ?_
  simp only [laws_loRows.l0]
  rw [rdW hlt, w64s (by omega)]
  exact Ev.yes (by omega) (Ev.yes (by omega) (Ev.yes (by omega) (Ev.bind (zC1 _ (by omega)) (Ev.yes (by trivial) (ih (i + 1) (by omega))))))
theorem zl1 (L : List (List Int)) (hL : L.length ≤ 134217728) (h8 : ∀ x ∈ L, x.length ≤ 8) : Ev (fun k => laws_loRows.f k L L) true := by
 simp only [laws_loRows.f]
 exact Ev.yes (by trivial) (zV1 L hL h8 L.length 0 (by omega))
end Go.Proofs.Ytgoembpmhlmafaa.E
end
section
namespace Go.Proofs.Ytgoembpmhlmafaa.E
open Go.RowKit Go.Proofs.YtgoembpmhlmafaaW.PrintWords Go.Proofs.YtgoembpmhlmafaaW.PrintMore Go.Proofs.Ytgoembpmhlmafaa.P Osier
set_option linter.unusedVariables false
theorem zD3 {E F : List STie} {t : STie} (hE : Asc E) (ht : t ∉ E) (hF : Asc F) (h : ∀ s, s ∈ F ↔ s = t ∨ s ∈ E) : F = ins t E :=
 zG2 tlt_irrefl (fun _ _ => tlt_asymm) hF (zr3 hE ht) (fun s => by rw [h, zI])
theorem zT2 {L : List STie} (hn : L.Nodup) (hs : L.Pairwise (fun x y => ¬ tlt y x)) : Asc L := by
 refine List.Pairwise.imp ?_ (List.Pairwise.and hs hn)
 rintro x y ⟨h1, h2⟩
 rcases tlt_total x y with h | h | h
 ·exact h
 ·exact absurd h h2
 ·exact absurd h h1
theorem zN2 {E : List STie} (hE : Asc E) {t : STie} (ht : t ∉ E) : (E ++ [t]).mergeSort (fun x y => !decide (y.f0 < x.f0 ∨ y.f0 = x.f0 ∧ y.f1 < x.f1)) = ins t E := by
 have hp := List.mergeSort_perm (E ++ [t]) (fun x y : STie => !decide (y.f0 < x.f0 ∨ y.f0 = x.f0 ∧ y.f1 < x.f1))
 have hs := List.pairwise_mergeSort (le := fun x y : STie => !decide (y.f0 < x.f0 ∨ y.f0 = x.f0 ∧ y.f1 < x.f1)) (fun a b c h1 h2 => by simp at *; omega) (fun a b => by simp; omega) (E ++ [t])
 generalize (E ++ [t]).mergeSort (fun x y => !decide (y.f0 < x.f0 ∨ y.f0 = x.f0 ∧ y.f1 < x.f1)) = L at hp hs
 have hnE : E.Nodup := List.Pairwise.imp (fun {a b} h e => by subst e; exact tlt_irrefl _ h) hE
 have hn : L.Nodup := by
  rw [hp.nodup_iff, List.nodup_append]
  refine ⟨hnE, by simp, ?_⟩
  intro x hx y hy e
  simp only [List.mem_singleton] at hy
  subst hy; subst e
  exact ht hx
 refine zD3 hE ht (zT2 hn (List.Pairwise.imp (fun {x y} h k => by unfold tlt at k; simp at h; omega) hs)) (fun s => ?_)
 rw [hp.mem_iff]
 simp [or_comm]
theorem zU {E : List STie} (hE : Asc E) {t : STie} (ht : t ∉ E) (hl : E.length < 1099511627776) : Ev (fun k => slices_SortFunc_Tie.f k (E ++ [t])) (ins t E) := by
 simp only [slices_SortFunc_Tie.f]
 rw [if_pos (by simp; omega), zN2 hE ht]
 exact Ev.pure _
theorem zg3 {K : Int} {E : List STie} {a b : Int} (h : yd K E a b) : addV K E a b = (K, ins (mkT a b) E, true) := by unfold addV; rw [if_pos (dec_true h)]
theorem zY3 {K : Int} {E : List STie} {a b : Int} (h : ¬ yd K E a b) : addV K E a b = (0, [], false) := by unfold addV; rw [if_neg (by rw [dec_false h]; simp)]
theorem zW2 (K : Int) (E : List STie) (a b : Int) (hE : E.length < 1099511627776) : Ev (fun k => impl_NetAdd.f k K E a b) (addV K E a b) := by
 have no : ¬ yd K E a b → Ev (fun k => impl_NetAdd.j0 k a b true K E) (addV K E a b) := by
  intro h
  rw [zY3 h]
  refine Ev.succ ?_
  simp only [impl_NetAdd.j0]
  exact Ev.yes (by trivial) (Ev.pure _)
 simp only [impl_NetAdd.f]
 refine Ev.bind (zo K E (by omega)) ?_
 by_cases h0 : Ok K E
 ·refine Ev.yes (dec_true h0) (Ev.bind (Ev.const (zT K E a)) ?_)
  by_cases h1 : 0 ≤ a ∧ a < K
  ·refine Ev.yes (dec_true h1) (Ev.bind (Ev.const (zT K E b)) ?_)
   by_cases h2 : 0 ≤ b ∧ b < K
   ·refine Ev.yes (dec_true h2) ?_
    by_cases h3 : a = b
    ·exact Ev.yes h3 (no (fun h => h.2.2.2.1 h3))
    ·refine Ev.no h3 (Ev.bind (zA K E a b (by omega)) ?_)
     by_cases h4 : mkT a b ∈ E
     ·rw [dec_true h4]
      exact no (fun h => h.2.2.2.2 h4)
     ·rw [dec_false h4, zg3 ⟨h0, h1, h2, h3, h4⟩]
      refine Ev.succ ?_
      simp only [impl_NetAdd.j0]
      refine Ev.no (by simp) (Ev.bind (Ev.pure _) (Ev.yes (by simp; omega) (Ev.bind (Ev.pure _) (Ev.bind (Ev.const (zj1 a b)) (Ev.bind (Ev.pure _) (Ev.yes (by simp; omega) (Ev.bind (v := (K, ins (mkT a b) E, true)) (a := ins (mkT a b) E) ?_ (Ev.pure _))))))))
      rw [List.nil_append]
      exact zU h0.asc h4 hE
   ·exact Ev.no (by rw [dec_false h2]; simp) (no (fun h => h2 h.2.2.1))
  ·exact Ev.no (by rw [dec_false h1]; simp) (no (fun h => h1 h.2.1))
 ·exact Ev.no (by rw [dec_false h0]; simp) (no (fun h => h0 h.1))
end Go.Proofs.Ytgoembpmhlmafaa.E
end
section
namespace Go.Proofs.Ytgoembpmhlmafaa.E
open Go.RowKit Go.Proofs.YtgoembpmhlmafaaW.PrintWords Go.Proofs.YtgoembpmhlmafaaW.PrintMore Go.Proofs.Ytgoembpmhlmafaa.P Osier
set_option linter.unusedVariables false
theorem ze1 {l : List Int} (hl : ∀ x ∈ l, (Lit.int .u8 x).wf = true) : ∃ K E, Ev (fun k => spec_DrawTreeRings.f k l) (K, E) ∧ Small K E := by
 obtain ⟨xs, hx, hs⟩ := zP2 hl
 obtain ⟨K, E, q, hq, ho, _, _⟩ := zQ2 hs (p := 0) (by omega) (by omega)
 simp only [spec_DrawTreeRings.f]
 exact ⟨K, E, Ev.bind (Ev.const hx) (Ev.bind hq (Ev.pure _)), ho⟩
structure Ring (K : Int) (E : List STie) (x : List Int) (t : STie) : Prop where
 mem : t ∈ E
 out : t ∉ kr [] E
 way : Pth K E x
 len : 3 ≤ x.length ∧ x.length ≤ 8
 first : rd x 0 = t.f1
 last : rd x ((x.length - 1 : Nat) : Int) = t.f0
theorem zo4 {K : Int} {E : List STie} (hE : Ok K E) {t : STie} (ht : t ∈ E) (hn : t ∉ kr [] E) : Ring K E (ringV K E t) t := by
 have h := zi1 hE ht
 have hT := hE.tie t ht
 obtain ⟨d, hd⟩ := h.2.dist
 have hx : ringV K E t = short K (kr [] E) t.f0 d t.f1 := by unfold ringV; rw [zN h.1 hd]
 have hl8 := zh3 hE ht
 have hP := zE h.1.1 h.1.2.1 hd
 have hlast := zd1 h.1.1 d t.f1 hd
 have hlen := zx (K := K) (E := kr [] E) (b := t.f0) d t.f1
 obtain ⟨s, hs⟩ := zg (K := K) (E := kr [] E) (b := t.f0) d t.f1
 have h2 : 2 ≤ d := by
  rcases d with _ | _ | d
  ·have := Dist.zero hd; omega
  ·exfalso
   obtain ⟨b, he, hb⟩ := Dist.down hd
   have e := Dist.zero hb
   subst e
   have := h.1.1.ed.1 he
   rw [zR1, zb1 hT.2.1] at this
   exact hn this
  ·omega
 rw [hx] at hl8 ⊢
 have e1 : (short K (kr [] E) t.f0 d t.f1).length - 1 < (short K (kr [] E) t.f0 d t.f1).length := by omega
 exact ⟨ht, hn, hP.mono (fun u hu => (zq E).subset hu), by omega, by rw [hs]; rfl, by
  rw [rdI e1]
  rw [List.getLast?_eq_getElem?, List.getElem?_eq_getElem e1] at hlast
  exact Option.some.inj hlast⟩
end Go.Proofs.Ytgoembpmhlmafaa.E
end
section
namespace Go.Proofs.Ytgoembpmhlmafaa.E
open Go.RowKit Go.Proofs.YtgoembpmhlmafaaW.PrintWords Go.Proofs.YtgoembpmhlmafaaW.PrintMore Go.Proofs.Ytgoembpmhlmafaa.P Osier
set_option linter.unusedVariables false
def yj (K : Int) (E F : List STie) : Prop := Ok K E ∧ Ok K F ∧ (∀ t ∈ F, t ∈ E) ∧ comps K F = comps K E ∧ (F.length : Int) = K - comps K E
theorem zR3 {K : Int} {E : List STie} (h : 0 ≤ K) : (comps K E : Int) ≤ K := by
 have := zs2 K E K.toNat
 rw [zL1] at this
 omega
theorem zJ1 (K : Int) (E F : List STie) (hE : E.length < 1099511627776) (hF : F.length < 1099511627776) (d : Nat) : ∀ i, i + d = F.length → (∀ t ∈ F.take i, t ∈ E) → Ev (fun k => impl_Net_own.l0 k F F (F.length : Int) (i : Int) K E) (dec ((∀ t ∈ F, t ∈ E) ∧ Asc F)) := by
 induction d with
 | zero =>
  intro i hi hs
  rw [List.take_of_length_le (by omega)] at hs
  refine Ev.succ ?_
  simp only [impl_Net_own.l0]
  exact Ev.no (by omega) (Ev.bind (zL F (by omega)) ((Ev.pure _).value (dec_congr ⟨fun h => ⟨hs, h⟩, fun h => h.2⟩)))
 | succ d ih =>
  intro i hi hs
  have hlt : i < F.length := by omega
  have hm : F[i] ∈ F := List.getElem_mem hlt
  refine Ev.succ ?_
  simp only [impl_Net_own.l0]
  rw [rdT hlt, w64s (by omega)]
  refine Ev.yes (by omega) (Ev.yes (by omega) (Ev.yes (by omega) (Ev.bind (ze E F[i] (by omega)) ?_)))
  by_cases h : F[i] ∈ E
  ·refine Ev.yes (dec_true h) (ih (i + 1) (by omega) ?_)
   intro t ht
   rw [take_snoc _ hlt] at ht
   rcases List.mem_append.1 ht with ht | ht
   ·exact hs t ht
   ·rw [List.mem_singleton.1 ht]; exact h
  ·refine Ev.no (by rw [dec_false h]; simp) ?_
   rw [dec_false (fun k => h (k.1 _ hm))]; exact Ev.pure _
theorem zB2 (K : Int) (E F : List STie) (hE : E.length < 1099511627776) (hF : F.length < 1099511627776) : Ev (fun k => impl_Net_own.f k K E F) (dec ((∀ t ∈ F, t ∈ E) ∧ Asc F)) := by
 simp only [impl_Net_own.f]
 exact zJ1 K E F hE hF F.length 0 (by omega) (by simp)
theorem zU2 (K : Int) (E F : List STie) (hE : E.length < 1099511627776) (hF : F.length < 1099511627776) : Ev (fun k => impl_TreeOk.f k K E F) (dec (yj K E F)) := by
 have no : ¬ yj K E F → Ev (fun k => impl_TreeOk.j0 k F true K E) (dec (yj K E F)) := by
  intro h
  rw [dec_false h]
  refine Ev.succ ?_
  simp only [impl_TreeOk.j0]
  exact Ev.yes (by trivial) (Ev.pure _)
 simp only [impl_TreeOk.f]
 refine Ev.bind (zo K E (by omega)) ?_
 by_cases h : Ok K E
 ·have h8 := h.k8
  have hc := zR3 (E := E) h.k0
  refine Ev.yes (dec_true h) (Ev.bind (zB2 K E F hE hF) ?_)
  by_cases g : (∀ t ∈ F, t ∈ E) ∧ Asc F
  ·have hF : Ok K F := ⟨h.k0, h.k8, fun t ht => h.tie t (g.1 t ht), g.2⟩
   rw [dec_true g]
   refine Ev.succ ?_
   simp only [impl_TreeOk.j0]
   refine Ev.no (by simp) (Ev.bind (zO h) (Ev.bind (zO hF) ?_))
   by_cases c : comps K F = comps K E
   ·refine Ev.yes (by omega) ((Ev.pure _).value ?_)
    rw [w64 (by omega) (by omega)]
    by_cases e : (F.length : Int) = K - comps K E
    ·rw [dec_true ⟨h, hF, g.1, c, e⟩]; simpa using e
    ·rw [dec_false (fun k => e k.2.2.2.2)]; simpa using e
   ·refine Ev.no (by omega) ?_
    rw [dec_false (fun k => c k.2.2.2.1)]; exact Ev.pure _
  ·rw [dec_false g]
   exact no (fun k => g ⟨k.2.2.1, k.2.1.asc⟩)
 ·exact Ev.no (by rw [dec_false h]; simp) (no (fun k => h k.1))
end Go.Proofs.Ytgoembpmhlmafaa.E
end
section
namespace Go.Proofs.Ytgoembpmhlmafaa.E
open Go.RowKit Go.Proofs.YtgoembpmhlmafaaW.PrintWords Go.Proofs.YtgoembpmhlmafaaW.PrintMore Go.Proofs.Ytgoembpmhlmafaa.P Osier
set_option linter.unusedVariables false
theorem ze4 {K : Int} {E : List STie} {a b : Int} (h : Ok K E ∧ mkT a b ∈ E) : cutV K E a b = (K, cut E (mkT a b), true) := by unfold cutV; rw [if_pos (dec_true h)]
end Go.Proofs.Ytgoembpmhlmafaa.E
end
section
namespace Go.Proofs.Ytgoembpmhlmafaa.E
open Go.RowKit Go.Proofs.YtgoembpmhlmafaaW.PrintWords Go.Proofs.YtgoembpmhlmafaaW.PrintMore Go.Proofs.Ytgoembpmhlmafaa.P Osier
set_option linter.unusedVariables false
theorem zc3 {E : List STie} {s : STie} {v : Int} (hv : s.f0 = v ∨ s.f1 = v) (w : List Int) (h : Walk E w) (hn : v ∉ w) : Walk (cut E s) w := by
 induction w with
 | nil => trivial
 | cons a x ih =>
  cases x with
  | nil => trivial
  | cons b x =>
   simp only [List.mem_cons, not_or] at hn
   refine ⟨?_, ih h.2 (by simp only [List.mem_cons, not_or]; exact hn.2)⟩
   rcases h.1 with he | he
   ·exact .inl (zK.2 ⟨he, fun e => by subst e; simp only at hv; omega⟩)
   ·exact .inr (zK.2 ⟨he, fun e => by subst e; simp only at hv; omega⟩)
theorem zJ2 {E : List STie} {l : List Int} {a b : Int} (h : Walk E l) (ha : l.head? = some a) (hb : l.getLast? = some b) : Conn E a b := by
 cases l with
 | nil => simp at ha
 | cons c x =>
  simp only [List.head?_cons, Option.some.injEq] at ha
  subst ha
  exact Walk.reach h hb
theorem zl3 (a b : Int) : ((mkT a b).f0 = a ∧ (mkT a b).f1 = b) ∨ ((mkT a b).f0 = b ∧ (mkT a b).f1 = a) := by
 unfold mkT; split
 ·exact .inl ⟨rfl, rfl⟩
 ·exact .inr ⟨rfl, rfl⟩
theorem zJ3 {T F : List STie} (h : ∀ b c, Ed T b c → Conn F b c) {a b : Int} (hc : Conn T a b) : Conn F a b := by
 induction hc with
 | refl => exact .refl
 | step _ he ih => exact ih.trans (h _ _ he)
theorem zT3 {K : Int} {T : List STie} {p q : List Int} {x y a b : Int} (h : Pth K T (p ++ x :: y :: q)) (ha : (p ++ x :: y :: q).head? = some a) (hb : (p ++ x :: y :: q).getLast? = some b) :
  Conn (cut T (mkT x y)) a x ∧ Conn (cut T (mkT x y)) y b := by
 have e := zl3 x y
 have hn := h.nodup
 have e1 : p ++ x :: y :: q = (p ++ [x]) ++ (y :: q) := by simp
 have hy : y ∉ p ++ [x] := fun k => by
  rw [e1, List.nodup_append] at hn
  exact hn.2.2 y k y (List.mem_cons_self ..) rfl
 have hx : x ∉ y :: q := fun k => by
  rw [e1, List.nodup_append] at hn
  exact hn.2.2 x (by simp) x k rfl
 have hw := h.walk
 rw [e1] at hw ha hb
 constructor
 ·refine zJ2 (l := p ++ [x]) (zc3 (v := y) (by omega) _ hw.left hy) ?_ (by simp)
  cases p with
  | nil => simpa using ha
  | cons c p => simpa using ha
 ·refine zJ2 (l := y :: q) (zc3 (v := x) (by omega) _ hw.right hx) rfl ?_
  rw [List.getLast?_append] at hb
  cases h2 : (y :: q).getLast? with
  | none => simp at h2
  | some z => rw [h2] at hb; simpa using hb
theorem zW3 {K : Int} {E : List STie} (hE : Ok K E) {t : STie} (ht : t ∈ E) (hn : t ∉ kr [] E) {p q : List Int} {x y : Int} (h : Pth K (kr [] E) (p ++ x :: y :: q)) (ha : (p ++ x :: y :: q).head? = some t.f1) (hb : (p ++ x :: y :: q).getLast? = some t.f0) :
  mkT x y ∈ kr [] E ∧ yj K E (ins t (cut (kr [] E) (mkT x y))) := by
 have hT := zy3 hE
 have hed : Ed (kr [] E) x y := h.walk.mid
 have hs : mkT x y ∈ kr [] E := hT.ed.1 hed
 have hp := zT3 h ha hb
 have htt := hE.tie t ht
 have hnc : t ∉ cut (kr [] E) (mkT x y) := fun k => hn (zK.1 k).1
 have hsub : ∀ u ∈ ins t (cut (kr [] E) (mkT x y)), u ∈ E := fun u hu => by
  rcases zI.1 hu with rfl | hu
  ·exact ht
  ·exact (zq E).subset (zK.1 hu).1
 have hup : ∀ u ∈ cut (kr [] E) (mkT x y), u ∈ ins t (cut (kr [] E) (mkT x y)) := fun u hu => zI.2 (.inr hu)
 have hxy : Conn (ins t (cut (kr [] E) (mkT x y))) x y := by
  have h1 : Ed (ins t (cut (kr [] E) (mkT x y))) t.f1 t.f0 := .inr (zI.2 (.inl rfl))
  exact ((hp.1.mono hup).symm.trans (.one h1)).trans (hp.2.mono hup).symm
 have hlift : ∀ u ∈ kr [] E, Conn (ins t (cut (kr [] E) (mkT x y))) u.f0 u.f1 := fun u hu => by
  by_cases e : u = mkT x y
  ·rw [e]
   rcases zl3 x y with ⟨e0, e1⟩ | ⟨e0, e1⟩
   ·rw [e0, e1]; exact hxy
   ·rw [e0, e1]; exact hxy.symm
  ·exact .one (.inl (hup u (zK.2 ⟨hu, e⟩)))
 have hconn : ∀ a b, Conn (ins t (cut (kr [] E) (mkT x y))) a b ↔ Conn E a b := fun a b => by
  constructor
  ·exact fun k => k.mono hsub
  ·intro k
   refine zJ3 (fun c d he => ?_) ((zv1 E a b).2 k)
   rcases he with he | he
   ·exact hlift _ he
   ·exact (hlift _ he).symm
 refine ⟨hs, hE, za4 (hT.cut _) hnc htt.1 htt.2.1 htt.2.2, hsub, zC hconn, ?_⟩
 have h1 := zh1 hT.asc.nodup hs
 rw [zh2, h1]
 exact zN3 hE
theorem zb4 {K : Int} {E : List STie} (hE : Ok K E) {t : STie} (ht : t ∈ E) : Pth K (kr [] E) (ringV K E t) ∧ (ringV K E t).head? = some t.f1 ∧ (ringV K E t).getLast? = some t.f0 := by
 have h := zi1 hE ht
 obtain ⟨d, hd⟩ := h.2.dist
 have hx : ringV K E t = short K (kr [] E) t.f0 d t.f1 := by unfold ringV; rw [zN h.1 hd]
 obtain ⟨s, hs⟩ := zg (K := K) (E := kr [] E) (b := t.f0) d t.f1
 rw [hx]
 exact ⟨zE h.1.1 h.1.2.1 hd, by rw [hs]; rfl, zd1 h.1.1 d t.f1 hd⟩
theorem zu4 {w : List Int} {k : Nat} (hk : k + 1 < w.length) : w = w.take k ++ w[k] :: w[k + 1] :: w.drop (k + 2) := by
 have h1 := drop_cons w (n := k) (by omega)
 have h2 := drop_cons w (n := k + 1) hk
 rw [← h2, ← h1, List.take_append_drop]
theorem FnTreeSwap (l : List Int) (hl : l.length ≤ maxLen) (hw : ∀ x ∈ l, (Lit.int .u8 x).wf = true) (m : List Int) (hm : m.length ≤ maxLen) (hwm : ∀ x ∈ m, (Lit.int .u8 x).wf = true) : ∃ k, laws_FnTreeSwap.f k l m = some true := by
 refine Ev.get ?_
 have yes : Ev (fun k => laws_FnTreeSwap.j0 k l m true) true := by
  refine Ev.succ ?_
  simp only [laws_FnTreeSwap.j0]
  exact Ev.yes (by trivial) (Ev.pure _)
 simp only [laws_FnTreeSwap.f]
 by_cases h : (l.length : Int) > 1048576
 ·exact Ev.yes h yes
 ·refine Ev.no h ?_
  by_cases h' : (m.length : Int) > 1048576
  ·rw [decide_eq_true h']; exact yes
  ·rw [decide_eq_false h']
   obtain ⟨K, E, hd, hs⟩ := ze1 hw
   have hlen := hs.len
   have hrl := zA3 (K := K) (E := E)
   have h8 : ∀ x ∈ ringsV K E, x.length ≤ 8 := fun x hx => zE3 hx
   refine Ev.succ ?_
   simp only [laws_FnTreeSwap.j0]
   refine Ev.no (by simp) (Ev.bind hd (Ev.bind (zZ1 K E (by omega)) (Ev.bind (zM K E) (Ev.bind (zl1 _ (by omega) h8) (Ev.yes (by trivial) (Ev.succ ?_))))))
   simp only [laws_FnTreeSwap.j1]
   by_cases g0 : (ringsV K E).length = 0
   ·refine Ev.yes (by simp [g0]) (Ev.bind (zM K E) (Ev.bind (zl1 _ (by omega) h8) (Ev.pure _)))
   ·refine Ev.no (by simp; exact fun e => g0 (by rw [e]; rfl)) (Ev.no (by omega) ?_)
    have g : Ok K E := by
     by_cases g : Ok K E
     ·exact g
     ·exact absurd (by rw [zr g]; rfl) g0
    have hi : m.length % (ringsV K E).length < (ringsV K E).length := Nat.mod_lt _ (by omega)
    have ei : (m.length : Int) % ((ringsV K E).length : Int) = ((m.length % (ringsV K E).length : Nat) : Int) := (Int.natCast_emod ..).symm
    have eq : wrap64 ((m.length : Int) / ((ringsV K E).length : Int)) = ((m.length / (ringsV K E).length : Nat) : Int) := by
     rw [← Int.natCast_ediv]
     have hq := Nat.div_le_self m.length (ringsV K E).length
     generalize m.length / (ringsV K E).length = q at hq
     exact w64 (by omega) (by omega)
    rw [ei, eq, rdW hi]
    have hx : (ringsV K E)[m.length % (ringsV K E).length] ∈ ringsL K E E := by
     rw [← zy g]; exact List.getElem_mem hi
    generalize (ringsV K E)[m.length % (ringsV K E).length] = w at hx
    unfold ringsL at hx
    obtain ⟨t, ht, rfl⟩ := List.mem_map.1 hx
    have ht' := List.mem_filter.1 ht
    have hnt : t ∉ kr [] E := by simpa using ht'.2
    have hr := zo4 g ht'.1 hnt
    have hP := zb4 g ht'.1
    have hlw := hr.len
    have e1 : wrap64 (((ringV K E t).length : Int) - 1) = (((ringV K E t).length - 1 : Nat) : Int) := w64p (by omega) (by omega)
    rw [e1]
    have ek : Int.tmod ((m.length / (ringsV K E).length : Nat) : Int) (((ringV K E t).length - 1 : Nat) : Int) = ((m.length / (ringsV K E).length % ((ringV K E t).length - 1) : Nat) : Int) := (Int.ofNat_tmod ..).symm
    have hk : m.length / (ringsV K E).length % ((ringV K E t).length - 1) < (ringV K E t).length - 1 := Nat.mod_lt _ (by omega)
    rw [ek]
    generalize m.length / (ringsV K E).length % ((ringV K E t).length - 1) = k at hk
    have hk1 : k + 1 < (ringV K E t).length := by omega
    have hc := zu4 hk1
    have hsw := zW3 g ht'.1 hnt (p := (ringV K E t).take k) (q := (ringV K E t).drop (k + 2)) (x := (ringV K E t)[k]) (y := (ringV K E t)[k + 1]) (hc ▸ hP.1) (hc ▸ hP.2.1) (hc ▸ hP.2.2)
    have hT := zy3 g
    have htl := (zq E).length_le
    have htt := g.tie t ht'.1
    have hnc : t ∉ cut (kr [] E) (mkT (ringV K E t)[k] (ringV K E t)[k + 1]) := fun q => hnt (zK.1 q).1
    have ha : yd K (cut (kr [] E) (mkT (ringV K E t)[k] (ringV K E t)[k + 1])) t.f1 t.f0 :=
     ⟨hT.cut _, by omega, by omega, by omega, by rw [zR1 t.f1 t.f0, zb1 htt.2.1]; exact hnc⟩
    have hN := zW2 K (cut (kr [] E) (mkT (ringV K E t)[k] (ringV K E t)[k + 1])) t.f1 t.f0 (by have := zh1 hT.asc.nodup hsw.1; omega)
    rw [zg3 ha, zR1 t.f1 t.f0, zb1 htt.2.1] at hN
    have hC := zO2 K (kr [] E) (ringV K E t)[k] (ringV K E t)[k + 1] (by omega)
    rw [ze4 ⟨hT, hsw.1⟩] at hC
    rw [w64s (n := k) (by omega), rdI (n := k) (by omega), rdI (n := k + 1) hk1, hr.first, hr.last]
    refine Ev.yes (by omega) (Ev.yes (by omega) (Ev.bind (zS2 K E (by omega)) ?_))
    rw [zE2 g]
    refine Ev.no (by omega) (Ev.yes (by omega) (Ev.yes (by omega) (Ev.yes (by omega) (Ev.yes (by omega) (Ev.bind hC (Ev.yes (by omega) (Ev.yes (by omega) (Ev.yes (by omega) (Ev.bind hN (Ev.yes (by trivial) (Ev.yes (by trivial) ?_)))))))))))
    exact Ev.bind (zU2 K E _ (by omega) (by dsimp only; have := zh1 hT.asc.nodup hsw.1; rw [zh2]; omega)) ((Ev.pure _).value (dec_true hsw.2))
end Go.Proofs.Ytgoembpmhlmafaa.E
end
