/- strconv.Itoa at one figure, by the shelf's contract: what impl.NetWrite leans on. -/
import Derived.Test.YtloonheabfdgbaaDoorP0
import Derived.Test.YtloonheabfdgbaaDoorI0
namespace Go.Proofs.YtloonheabfdgbaaDoor.P
open Go.RowKit Go.Proofs.YtloonheabfdgbaaDoorW.PrintWords Go.Proofs.YtloonheabfdgbaaDoorW.PrintLast Go.Proofs.YtloonheabfdgbaaDoorW.PrintMore
set_option linter.unusedVariables false
theorem figure (n : Nat) (h : n < 10) : (⟨(Go.Lib.decDigits n).toArray⟩ : ByteArray) = strOfNums [48 + (n : Int)] := by
  have h10 : n = 0 ∨ n = 1 ∨ n = 2 ∨ n = 3 ∨ n = 4 ∨ n = 5 ∨ n = 6 ∨ n = 7 ∨ n = 8 ∨ n = 9 := by omega
  rcases h10 with rfl | rfl | rfl | rfl | rfl | rfl | rfl | rfl | rfl | rfl <;> (rw [Go.Lib.decDigits]; rfl)
theorem strconv_Itoa_31.calls (a0 : Int) (r : ByteArray) (w : World) (h : strconv_Itoa_31.f a0 = some r) :
    Calls Tryd.prog 31 #[.int .i64 a0] w fun e w' => e = .returned (.string r) ∧ Below w.heap.size w w' := by
  unfold strconv_Itoa_31.f at h
  by_cases h0 : 0 ≤ a0
  · rw [if_pos h0] at h
    by_cases h1 : a0 < 10
    · rw [if_pos h1] at h
      obtain rfl := Option.some.inj h
      obtain ⟨n, rfl⟩ := Int.eq_ofNat_of_zero_le h0
      refine (Tryd.strconv_Itoa_small n (by omega) w).mono ?_
      rintro e w' ⟨rfl, rfl⟩
      refine ⟨?_, Below.refl _ _⟩
      have e := figure n (by omega)
      rw [e]
    · rw [if_neg h1] at h; exact absurd h (by simp)
  · rw [if_neg h0] at h; exact absurd h (by simp)
end Go.Proofs.YtloonheabfdgbaaDoor.P
