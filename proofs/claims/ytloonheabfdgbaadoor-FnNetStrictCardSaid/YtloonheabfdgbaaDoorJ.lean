/- strings.Split and strconv.Atoi, by the shelf's contracts: what impl.NetRead leans on. The package's variables are told by Gl. -/
import Derived.Test.YtloonheabfdgbaaDoorP0
import Derived.Test.YtloonheabfdgbaaDoorJ0
namespace Go.Proofs.YtloonheabfdgbaaDoor.P
open Go.RowKit Go.Proofs.YtloonheabfdgbaaDoorW.PrintWords Go.Proofs.YtloonheabfdgbaaDoorW.PrintLast Go.Proofs.YtloonheabfdgbaaDoorW.PrintMore
set_option linter.unusedVariables false
/-- What the library's own variables hold: a number; two errors. -/
structure Gl (w : World) : Prop where
  max : ∃ m : Int, w.cell? ⟨2, 0, none⟩ = some (.int .i64 m)
  syn : ∃ tp p, w.cell? ⟨0, 0, none⟩ = some (.iface tp p)
  rng : ∃ tp p, w.cell? ⟨1, 0, none⟩ = some (.iface tp p)
theorem Gl.below {w w' : World} (h : Gl w) (hb : Below w.heap.size w w') : Gl w' := by
  obtain ⟨⟨m, h1⟩, ⟨t2, p2, h2⟩, ⟨t3, p3, h3⟩⟩ := h
  exact ⟨⟨m, hcl hb h1⟩, ⟨t2, p2, hcl hb h2⟩, ⟨t3, p3, hcl hb h3⟩⟩
theorem reps_strings (w : World) (base : Nat) (ok : Nat → Prop) : ∀ xs : List ByteArray, Reps (Kd.string.M w base ok) Kd.string.sz xs (xs.map Value.string)
  | [] => Reps.none _ _
  | x :: xs => Reps.one (show Kd.M Kd.string _ _ _ x [.string x] from rfl) (reps_strings w base ok xs)
theorem split_row (W : World) (xs : List ByteArray) (hm : xs.length ≤ 9223372036854775807) : Kd.R Kd.string 9 (W.alloc (.cells (xs.map Value.string).toArray 9)) W.heap.size (fun _ => True) (.slice (some ⟨W.heap.size, 0, none⟩) xs.length xs.length) xs := by
  refine ⟨fun _ _ => trivial, xs.map Value.string, ?_, reps_strings _ _ _ xs⟩
  have h2 := World.ownsRow_lit (base := W.heap.size) (e := 9) (size := Kd.string.sz) W (xs.map Value.string).toArray xs.length (Nat.le_refl _) (by simpa [maxLen] using hm) (by simpa using (reps_strings W 0 (fun _ => True) xs).1)
  simpa using h2
theorem strings_Split.calls (k : Nat) (a0 a1 : ByteArray) (r : List ByteArray) (w : World) (hG : Gl w) (h : strings_Split.f k a0 a1 = some r) :
    Calls Tryd.prog 24 #[.string a0, .string a1] w fun e w' => ∃ v0_ : Value, e = .returned (v0_) ∧ Kd.R Kd.string 9 w' w.heap.size (fun _ => True) v0_ r ∧ Below w.heap.size w w' := by
  unfold strings_Split.f at h
  by_cases c : a0.size < 4294967281 ∧ 1 ≤ a1.size
  · rw [if_pos c] at h
    obtain rfl := Option.some.inj h
    obtain ⟨m, hm⟩ := hG.max
    refine (Tryd.strings_Split a0 a1 m w c.1 hm c.2).mono ?_
    rintro e w' ⟨rfl, rfl⟩
    have hl := Go.Lib.splitB_all a1 c.2 0 _ a0 rfl
    have hc := Go.Lib.countB_le a1 c.2 a0.size a0 (Nat.le_refl _)
    refine ⟨_, rfl, ?_, below_alloc (Below.refl _ _) _⟩
    rw [← hl]
    exact split_row w _ (by omega)
  · rw [if_neg c] at h; exact absurd h (by simp)
theorem strconv_Atoi_25.calls (k : Nat) (a0 : ByteArray) (r : Int) (w : World) (hG : Gl w) (h : strconv_Atoi_25.f k a0 = some r) :
    Calls Tryd.prog 25 #[.string a0] w fun e w' => (∃ ev : Value, e = .returned (.tuple #[.int .i64 r, ev])) ∧ Below w.heap.size w w' := by
  unfold strconv_Atoi_25.f at h
  by_cases c : a0.size ≤ 281474976710656
  · rw [if_pos c] at h
    obtain rfl := Option.some.inj h
    unfold atoiN
    cases hc : Go.Lib.atoiAll a0.data.toList with
    | ok v =>
      refine (Tryd.strconv_Atoi_ok a0 (by omega) v hc w).mono ?_
      rintro e w' ⟨rfl, hw⟩
      refine ⟨⟨_, rfl⟩, ?_⟩
      rcases hw with rfl | ⟨t, rfl⟩
      · exact Below.refl _ _
      · exact ⟨rfl, rfl, rfl, by rw [Go.Lib.bytesWorld_size]; omega, fun i hi => Go.Lib.bytesWorld_at_old w _ t i (by omega)⟩
    | «syntax» =>
      obtain ⟨tp, p, hs⟩ := hG.syn
      refine (Tryd.strconv_Atoi_syntax a0 c hc _ w hs (.inr ⟨_, _, rfl⟩)).mono ?_
      rintro e w' ⟨N, rfl, _, _, hb⟩
      exact ⟨⟨_, rfl⟩, hb⟩
    | range =>
      obtain ⟨tp, p, hs⟩ := hG.rng
      refine (Tryd.strconv_Atoi_range a0 c hc _ w hs (.inr ⟨_, _, rfl⟩)).mono ?_
      rintro e w' ⟨N, rfl, _, _, hb⟩
      exact ⟨⟨_, rfl⟩, hb⟩
  · rw [if_neg c] at h; exact absurd h (by simp)
end Go.Proofs.YtloonheabfdgbaaDoor.P
