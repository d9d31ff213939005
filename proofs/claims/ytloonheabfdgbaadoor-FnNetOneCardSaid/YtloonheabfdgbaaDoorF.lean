import Derived.Test.YtloonheabfdgbaaDoorT
import Derived.Test.YtloonheabfdgbaaDoorW1
namespace Go.Proofs.YtloonheabfdgbaaDoor.P
open Go.RowKit Go.Proofs.YtloonheabfdgbaaDoorW.PrintWords Go.Proofs.YtloonheabfdgbaaDoorW.PrintLast Go.Proofs.YtloonheabfdgbaaDoorW.PrintMore
set_option linter.unusedVariables false
set_option linter.unusedSimpArgs false
abbrev STie := Osier.Tie
abbrev SLTie := Osier.Tie
def zTie : STie := ⟨(0 : Int), (0 : Int)⟩
def rd_TTie (xs : List STie) (i : Int) : STie := xs.getD i.toNat zTie
def zLTie : SLTie := ⟨(0 : Int), (0 : Int)⟩
def rd_TLTie (xs : List SLTie) (i : Int) : SLTie := xs.getD i.toNat zLTie
def laws_eqTie.f (a0_0 : Int) (a0_1 : Int) (a1_0 : Int) (a1_1 : Int) : Option (Bool) := if a0_0 = a1_0 then (if a0_1 = a1_1 then (some true) else (some false)) else (some false)
def laws_eqTieS.l0 : Nat → List (STie) → List (STie) → Int → Option (Bool)
  | 0, _, _, _ => none
  | k + 1, x0, x1, x5 => if x5 < (x0.length : Int) then (if 0 ≤ x5 then (if x5 < (x1.length : Int) then ((laws_eqTie.f ((rd_TTie x0 x5).f0) ((rd_TTie x0 x5).f1) ((rd_TTie x1 x5).f0) ((rd_TTie x1 x5).f1)).bind fun t100 => (if t100 = true then (laws_eqTieS.l0 k x0 x1 (wrap64 (x5 + 1))) else (some false))) else (none)) else (none)) else (some true)
def laws_eqTieS.f (k : Nat) (l0 : List (STie)) (l1 : List (STie)) : Option (Bool) := if (l0.length : Int) = (l1.length : Int) then (laws_eqTieS.l0 k l0 l1 0) else (some false)
def laws_eqNet.f (k : Nat) (a0_0 : Int) (l0_1 : List (STie)) (a1_0 : Int) (l1_1 : List (STie)) : Option (Bool) := if a0_0 = a1_0 then ((laws_eqTieS.f k l0_1 l1_1).bind fun t100 => (if t100 = true then (some true) else (some false))) else (some false)
def cmp_Or_int.l0 : Nat → Int → List Int → Int → Int → Option (Int)
  | 0, _, _, _, _ => none
  | k + 1, x3, x6, x7, x8 => if x8 < x7 then (if 0 ≤ x8 then (if x8 < (x6.length : Int) then (if (rd x6 x8) = x3 then (cmp_Or_int.l0 k x3 x6 x7 (wrap64 (x8 + 1))) else (some (rd x6 x8))) else (none)) else (none)) else (some x3)
def cmp_Or_int.f (k : Nat) (l0 : List Int) : Option (Int) := cmp_Or_int.l0 k 0 l0 (l0.length : Int) 0
def cmp_isNaN_int.f (a0 : Int) : Option (Bool) := some (a0 != a0)
def cmp_Compare_int.f (a0 : Int) (a1 : Int) : Option (Int) := (cmp_isNaN_int.f a0).bind fun t100 => ((cmp_isNaN_int.f a1).bind fun t101 => (if t100 = true then (if t101 = true then (some 0) else (some (-1))) else (if t101 = true then (some 1) else (if a0 < a1 then (some (-1)) else (if a0 > a1 then (some 1) else (some 0))))))
def impl_tieOrder.f (k : Nat) (a0_0 : Int) (a0_1 : Int) (a1_0 : Int) (a1_1 : Int) : Option (Int) := (cmp_Compare_int.f a0_0 a1_0).bind fun t100 => ((cmp_Compare_int.f a0_1 a1_1).bind fun t101 => ((cmp_Or_int.f k (([t100, t101] : List Int))).bind fun t102 => (some t102)))
def impl_ascending.l0 : Nat → List (STie) → Int → Option (Bool)
  | 0, _, _ => none
  | k + 1, x0, x3 => if x3 < (x0.length : Int) then (if 0 ≤ (wrap64 (x3 - 1)) then (if (wrap64 (x3 - 1)) < (x0.length : Int) then (if 0 ≤ x3 then ((impl_tieOrder.f k ((rd_TTie x0 (wrap64 (x3 - 1))).f0) ((rd_TTie x0 (wrap64 (x3 - 1))).f1) ((rd_TTie x0 x3).f0) ((rd_TTie x0 x3).f1)).bind fun t100 => (if t100 ≥ 0 then (some false) else (impl_ascending.l0 k x0 (wrap64 (x3 + 1))))) else (none)) else (none)) else (none)) else (some true)
def impl_ascending.f (k : Nat) (l0 : List (STie)) : Option (Bool) := impl_ascending.l0 k l0 1
mutual
def impl_NetOk.j0 : Nat → Bool → Int → List (STie) → Option (Bool)
  | 0, _, _, _ => none
  | k + 1, x12, x100000, x100001 => if x12 = true then (some false) else (impl_NetOk.l0 k x100001 (x100001.length : Int) 0 x100000 x100001)
def impl_NetOk.l0 : Nat → List (STie) → Int → Int → Int → List (STie) → Option (Bool)
  | 0, _, _, _, _, _ => none
  | k + 1, x14, x15, x16, x100000, x100001 => if x16 < x15 then (if 0 ≤ x16 then (if x16 < (x14.length : Int) then (if ((rd_TTie x14 x16).f0) < 0 then (some false) else (if ((rd_TTie x14 x16).f0) ≥ ((rd_TTie x14 x16).f1) then (some false) else (if ((rd_TTie x14 x16).f1) ≥ x100000 then (some false) else (impl_NetOk.l0 k x14 x15 (wrap64 (x16 + 1)) x100000 x100001)))) else (none)) else (none)) else ((impl_ascending.f k x100001).bind fun t101 => (some t101))
end
def impl_NetOk.f (k : Nat) (a0_0 : Int) (l0_1 : List (STie)) : Option (Bool) := if a0_0 < 0 then (impl_NetOk.j0 k true a0_0 l0_1) else (impl_NetOk.j0 k (decide (a0_0 > 8)) a0_0 l0_1)
def strconv_Itoa_31.f (a0 : Int) : Option (ByteArray) := if 0 ≤ a0 then (if a0 < 10 then some (strOfNums [48 + a0]) else none) else none
def impl_NetWrite.l0 : Nat → ByteArray → List (STie) → Int → Int → Option (ByteArray)
  | 0, _, _, _, _ => none
  | k + 1, x3, x15, x16, x17 => if x17 < x16 then (if 0 ≤ x17 then (if x17 < (x15.length : Int) then ((strconv_Itoa_31.f ((rd_TTie x15 x17).f0)).bind fun t100 => (if 4 + t100.size ≤ 9223372036854775807 then (if ((⟨#[116, 105, 101, 32]⟩ : ByteArray) ++ t100).size + 1 ≤ 9223372036854775807 then ((strconv_Itoa_31.f ((rd_TTie x15 x17).f1)).bind fun t101 => (if (((⟨#[116, 105, 101, 32]⟩ : ByteArray) ++ t100) ++ (⟨#[32]⟩ : ByteArray)).size + t101.size ≤ 9223372036854775807 then (if ((((⟨#[116, 105, 101, 32]⟩ : ByteArray) ++ t100) ++ (⟨#[32]⟩ : ByteArray)) ++ t101).size + 1 ≤ 9223372036854775807 then (if x3.size + (((((⟨#[116, 105, 101, 32]⟩ : ByteArray) ++ t100) ++ (⟨#[32]⟩ : ByteArray)) ++ t101) ++ (⟨#[10]⟩ : ByteArray)).size ≤ 9223372036854775807 then (impl_NetWrite.l0 k (x3 ++ (((((⟨#[116, 105, 101, 32]⟩ : ByteArray) ++ t100) ++ (⟨#[32]⟩ : ByteArray)) ++ t101) ++ (⟨#[10]⟩ : ByteArray))) x15 x16 (wrap64 (x17 + 1))) else (none)) else (none)) else (none))) else (none)) else (none))) else (none)) else (none)) else (some x3)
def impl_NetWrite.f (k : Nat) (a0_0 : Int) (l0_1 : List (STie)) : Option (ByteArray) := (impl_NetOk.f k a0_0 l0_1).bind fun t102 => (if t102 = true then ((strconv_Itoa_31.f a0_0).bind fun t103 => (if 6 + t103.size ≤ 9223372036854775807 then (if ((⟨#[107, 110, 111, 116, 115, 32]⟩ : ByteArray) ++ t103).size + 1 ≤ 9223372036854775807 then (impl_NetWrite.l0 k (((⟨#[107, 110, 111, 116, 115, 32]⟩ : ByteArray) ++ t103) ++ (⟨#[10]⟩ : ByteArray)) l0_1 (l0_1.length : Int) 0) else (none)) else (none))) else (some (⟨#[]⟩ : ByteArray)))
def spec_l6In.f (a0 : Int) (a1 : Int) (a2 : Int) : Option (Bool) := if a0 ≥ a1 then (some (decide (a0 ≤ a2))) else (some false)
def spec_l1Less.f (a0_0 : Int) (a0_1 : Int) (a1_0 : Int) (a1_1 : Int) : Option (Bool) := if a0_0 < a1_0 then (some true) else (if a0_0 = a1_0 then (some (decide (a0_1 < a1_1))) else (some false))
mutual
def spec_NetOk.j0 : Nat → Bool → Int → List (STie) → Option (Bool)
  | 0, _, _, _ => none
  | k + 1, x14, x100000, x100001 => if x14 = true then (some false) else (spec_NetOk.l0 k 0 x100000 x100001)
def spec_NetOk.l0 : Nat → Int → Int → List (STie) → Option (Bool)
  | 0, _, _, _ => none
  | k + 1, x3, x100000, x100001 => if x3 < (x100001.length : Int) then (if 0 ≤ x3 then ((spec_l6In.f ((rd_TTie x100001 x3).f0) 0 (wrap64 (x100000 - 1))).bind fun t101 => (if t101 = true then ((spec_l6In.f ((rd_TTie x100001 x3).f1) (wrap64 (((rd_TTie x100001 x3).f0) + 1)) (wrap64 (x100000 - 1))).bind fun t102 => (if t102 = true then (if x3 > 0 then (if 0 ≤ (wrap64 (x3 - 1)) then (if (wrap64 (x3 - 1)) < (x100001.length : Int) then ((spec_l1Less.f ((rd_TTie x100001 (wrap64 (x3 - 1))).f0) ((rd_TTie x100001 (wrap64 (x3 - 1))).f1) ((rd_TTie x100001 x3).f0) ((rd_TTie x100001 x3).f1)).bind fun t103 => (if t103 = true then (spec_NetOk.l0 k (wrap64 (x3 + 1)) x100000 x100001) else (some false))) else (none)) else (none)) else (spec_NetOk.l0 k (wrap64 (x3 + 1)) x100000 x100001)) else (some false))) else (some false))) else (none)) else (some true)
end
def spec_NetOk.f (k : Nat) (a0_0 : Int) (l0_1 : List (STie)) : Option (Bool) := (spec_l6In.f a0_0 0 8).bind fun t100 => (if t100 = true then (spec_NetOk.j0 k (decide ((l0_1.length : Int) > 64)) a0_0 l0_1) else (spec_NetOk.j0 k true a0_0 l0_1))
def spec_l6Dec.f : Nat → Int → Option (ByteArray)
  | 0, _ => none
  | k + 1, a0 => if a0 < (-9223372036854775807) then (some (⟨#[45, 57, 50, 50, 51, 51, 55, 50, 48, 51, 54, 56, 53, 52, 55, 55, 53, 56, 48, 56]⟩ : ByteArray)) else (if a0 < 0 then ((spec_l6Dec.f k (wrap64 (-a0))).bind fun t100 => (if 1 + t100.size ≤ 9223372036854775807 then (some ((⟨#[45]⟩ : ByteArray) ++ t100)) else (none))) else (if a0 < 10 then (some (strOfNums (([(wrap64 (48 + a0)) % 256] : List Int)))) else ((spec_l6Dec.f k (wrap64 (Int.tdiv a0 10))).bind fun t101 => ((some (([(wrap64 (48 + (Int.tmod a0 10))) % 256] : List Int) : List Int)).bind fun y102 => (if t101.size + (strOfNums y102).size ≤ 9223372036854775807 then (some (t101 ++ (strOfNums y102))) else (none))))))
def spec_NetWrite.l0 : Nat → ByteArray → Int → Int → List (STie) → Option (ByteArray)
  | 0, _, _, _, _ => none
  | k + 1, x3, x4, x100000, x100001 => if x4 < (x100001.length : Int) then (if x3.size + 4 ≤ 9223372036854775807 then (if 0 ≤ x4 then ((spec_l6Dec.f k ((rd_TTie x100001 x4).f0)).bind fun t101 => (if (x3 ++ (⟨#[116, 105, 101, 32]⟩ : ByteArray)).size + t101.size ≤ 9223372036854775807 then (if ((x3 ++ (⟨#[116, 105, 101, 32]⟩ : ByteArray)) ++ t101).size + 1 ≤ 9223372036854775807 then ((spec_l6Dec.f k ((rd_TTie x100001 x4).f1)).bind fun t102 => (if (((x3 ++ (⟨#[116, 105, 101, 32]⟩ : ByteArray)) ++ t101) ++ (⟨#[32]⟩ : ByteArray)).size + t102.size ≤ 9223372036854775807 then (if ((((x3 ++ (⟨#[116, 105, 101, 32]⟩ : ByteArray)) ++ t101) ++ (⟨#[32]⟩ : ByteArray)) ++ t102).size + 1 ≤ 9223372036854775807 then (spec_NetWrite.l0 k (((((x3 ++ (⟨#[116, 105, 101, 32]⟩ : ByteArray)) ++ t101) ++ (⟨#[32]⟩ : ByteArray)) ++ t102) ++ (⟨#[10]⟩ : ByteArray)) (wrap64 (x4 + 1)) x100000 x100001) else (none)) else (none))) else (none)) else (none))) else (none)) else (none)) else (some x3)
def spec_NetWrite.f (k : Nat) (a0_0 : Int) (l0_1 : List (STie)) : Option (ByteArray) := (spec_NetOk.f k a0_0 l0_1).bind fun t100 => (if t100 = true then ((spec_l6Dec.f k a0_0).bind fun t103 => (if 6 + t103.size ≤ 9223372036854775807 then (if ((⟨#[107, 110, 111, 116, 115, 32]⟩ : ByteArray) ++ t103).size + 1 ≤ 9223372036854775807 then (spec_NetWrite.l0 k (((⟨#[107, 110, 111, 116, 115, 32]⟩ : ByteArray) ++ t103) ++ (⟨#[10]⟩ : ByteArray)) 0 a0_0 l0_1) else (none)) else (none))) else (some (⟨#[]⟩ : ByteArray)))
def laws_szTieS.f (l0 : List (SLTie)) (a1 : Int) : Option (Int) := if (wrap64 (a1 - (l0.length : Int))) < 0 then (some (-1)) else (some (wrap64 (a1 - (l0.length : Int))))
def laws_szNet.f (a0_0 : Int) (l0_1 : List (SLTie)) (a1 : Int) : Option (Int) := (laws_szTieS.f l0_1 a1).bind fun t100 => (if t100 < 0 then (some (-1)) else (some t100))
def laws_toTie.f (a0_0 : Int) (a0_1 : Int) : Option (Int × Int) := some (a0_0, a0_1)
def laws_toTieS.l0 : Nat → List (SLTie) → List (STie) → Int → Option ((List (STie)))
  | 0, _, _, _ => none
  | k + 1, x0, x3, x4 => if x4 < (x0.length : Int) then (if 0 ≤ x4 then ((laws_toTie.f ((rd_TLTie x0 x4).f0) ((rd_TLTie x0 x4).f1)).bind fun bt100 => (if x4 < (x3.length : Int) then (laws_toTieS.l0 k x0 (x3.set (x4 : Int).toNat (⟨bt100.1, bt100.2⟩ : STie)) (wrap64 (x4 + 1))) else (none))) else (none)) else (some x3)
def laws_toTieS.f (k : Nat) (l0 : List (SLTie)) : Option ((List (STie))) := if 0 ≤ (l0.length : Int) then (if ((l0.length : Int) : Int).toNat ≤ 17592186044416 then (laws_toTieS.l0 k l0 (List.replicate ((l0.length : Int) : Int).toNat zTie) 0) else (none)) else (none)
def laws_toNet.f (k : Nat) (a0_0 : Int) (l0_1 : List (SLTie)) : Option (Int × (List (STie))) := (laws_toTieS.f k l0_1).bind fun t100 => (some (a0_0, t100))
def laws_FnExactNetWrite.f (k : Nat) (a0_0 : Int) (l0_1 : List (SLTie)) : Option (Bool) := (laws_szNet.f a0_0 l0_1 1048576).bind fun t100 => (if t100 < 0 then (some true) else ((laws_toNet.f k a0_0 l0_1).bind fun bt101 => ((spec_NetWrite.f k bt101.1 bt101.2).bind fun t102 => ((laws_toNet.f k a0_0 l0_1).bind fun bt103 => ((impl_NetWrite.f k bt103.1 bt103.2).bind fun t104 => (if t104.toList = t102.toList then ((laws_toNet.f k a0_0 l0_1).bind fun bt105 => ((laws_eqNet.f k bt103.1 bt103.2 bt105.1 bt105.2).bind fun t106 => (if t106 = true then (some true) else (some false)))) else (some false)))))))
def spec_l6Rd_pick.j0 : Nat → Int → Bool → List Int → Int → Option (Int × Int)
  | 0, _, _, _, _ => none
  | k + 1, x1, x24, x100, x101 => if x24 = true then (some (0, x101)) else (if (wrap64 (x101 - 1)) < (x100.length : Int) then (if 0 ≤ (wrap64 (x101 - 1)) then (if x1 = 0 then (none) else (some (Int.tmod (wrap64 (rd x100 (wrap64 (x101 - 1)))) x1, x101))) else (none)) else (if (x100.length : Int) = 0 then (none) else (if 0 ≤ (Int.tmod (wrap64 (x101 - 1)) (x100.length : Int)) then (if (Int.tmod (wrap64 (x101 - 1)) (x100.length : Int)) < (x100.length : Int) then (if 0 ≤ (Int.tmod (wrap64 ((wrap64 ((wrap64 (x101 - 1)) * 7)) + 3)) (x100.length : Int)) then (if (Int.tmod (wrap64 ((wrap64 ((wrap64 (x101 - 1)) * 7)) + 3)) (x100.length : Int)) < (x100.length : Int) then (if x1 = 0 then (none) else (some (Int.tmod (Go.bits .xor .i64 (wrap64 ((wrap64 ((wrap64 ((wrap64 ((wrap64 (rd x100 (Int.tmod (wrap64 (x101 - 1)) (x100.length : Int)))) * 131)) + (wrap64 ((wrap64 (rd x100 (Int.tmod (wrap64 ((wrap64 ((wrap64 (x101 - 1)) * 7)) + 3)) (x100.length : Int)))) * 1117)))) + (wrap64 ((wrap64 (x101 - 1)) * 29)))) + (wrap64 ((wrap64 (Int.tdiv (wrap64 (x101 - 1)) (x100.length : Int))) * 53)))) (wrap64 (Int.tdiv (wrap64 ((wrap64 ((wrap64 ((wrap64 ((wrap64 (rd x100 (Int.tmod (wrap64 (x101 - 1)) (x100.length : Int)))) * 131)) + (wrap64 ((wrap64 (rd x100 (Int.tmod (wrap64 ((wrap64 ((wrap64 (x101 - 1)) * 7)) + 3)) (x100.length : Int)))) * 1117)))) + (wrap64 ((wrap64 (x101 - 1)) * 29)))) + (wrap64 ((wrap64 (Int.tdiv (wrap64 (x101 - 1)) (x100.length : Int))) * 53)))) 64))) x1, x101))) else (none)) else (none)) else (none)) else (none))))
def spec_l6Rd_pick.f (k : Nat) (s0_0 : List Int) (s0_1 : Int) (a1 : Int) : Option (Int × Int) := if a1 < 1 then (spec_l6Rd_pick.j0 k a1 true s0_0 (wrap64 (s0_1 + 1))) else (spec_l6Rd_pick.j0 k a1 ((s0_0.length : Int) == 0) s0_0 (wrap64 (s0_1 + 1)))
def spec_l1Knot.f (k : Nat) (a0_0 : Int) (l0_1 : List (STie)) (a1 : Int) : Option (Bool) := (spec_NetOk.f k a0_0 l0_1).bind fun t100 => (if t100 = true then ((spec_l6In.f a1 0 (wrap64 (a0_0 - 1))).bind fun t101 => (some t101)) else (some false))
def spec_l1Tie.f (a0 : Int) (a1 : Int) : Option (Int × Int) := if a0 < a1 then (some (a0, a1)) else (some (a1, a0))
def spec_l1Has.l0 : Nat → Int → Int → Int → Int → List (STie) → Option (Bool)
  | 0, _, _, _, _, _ => none
  | k + 1, x1, x2, x7, x100000, x100001 => if x7 < (x100001.length : Int) then (if 0 ≤ x7 then ((spec_l1Tie.f x1 x2).bind fun bt101 => (if (((rd_TTie x100001 x7).f0) == bt101.1 && (((rd_TTie x100001 x7).f1) == bt101.2)) = true then (some true) else (spec_l1Has.l0 k x1 x2 (wrap64 (x7 + 1)) x100000 x100001))) else (none)) else (some false)
def spec_l1Has.f (k : Nat) (a0_0 : Int) (l0_1 : List (STie)) (a1 : Int) (a2 : Int) : Option (Bool) := spec_l1Has.l0 k a1 a2 0 a0_0 l0_1
def spec_NetHas.f (k : Nat) (a0_0 : Int) (l0_1 : List (STie)) (a1 : Int) (a2 : Int) : Option (Bool) := (spec_NetOk.f k a0_0 l0_1).bind fun t100 => (if t100 = true then ((spec_l1Has.f k a0_0 l0_1 a1 a2).bind fun t101 => (some t101)) else (some false))
mutual
def spec_NetAdd.j0 : Nat → Int → Int → Bool → Int → List (STie) → Option (Int × (List (STie)) × Bool)
  | 0, _, _, _, _, _ => none
  | k + 1, x1, x2, x32, x100000, x100001 => if x32 = true then (some (0, ([] : List (STie)), false)) else ((spec_l1Tie.f x1 x2).bind fun bt101 => (spec_NetAdd.l0 k false 0 x100000 x100001 x100000 ([] : List (STie)) bt101.1 bt101.2))
def spec_NetAdd.l0 : Nat → Bool → Int → Int → List (STie) → Int → List (STie) → Int → Int → Option (Int × (List (STie)) × Bool)
  | 0, _, _, _, _, _, _, _, _ => none
  | k + 1, x10, x11, x100000, x100001, x101000, x101001, x102000, x102001 => if x11 < (x100001.length : Int) then (if x10 = true then (if 0 ≤ x11 then (if x101001.length < 8796093022208 then (spec_NetAdd.l0 k x10 (wrap64 (x11 + 1)) x100000 x100001 x101000 (x101001 ++ [(⟨(rd_TTie x100001 x11).f0, (rd_TTie x100001 x11).f1⟩ : STie)]) x102000 x102001) else (none)) else (none)) else (if 0 ≤ x11 then ((spec_l1Less.f x102000 x102001 ((rd_TTie x100001 x11).f0) ((rd_TTie x100001 x11).f1)).bind fun t103 => (if t103 = true then (if x101001.length < 8796093022208 then ((some (x101001 ++ [(⟨x102000, x102001⟩ : STie)] : List (STie))).bind fun y104 => (if y104.length < 8796093022208 then (spec_NetAdd.l0 k true (wrap64 (x11 + 1)) x100000 x100001 x101000 (y104 ++ [(⟨(rd_TTie x100001 x11).f0, (rd_TTie x100001 x11).f1⟩ : STie)]) x102000 x102001) else (none))) else (none)) else (if x101001.length < 8796093022208 then (spec_NetAdd.l0 k x10 (wrap64 (x11 + 1)) x100000 x100001 x101000 (x101001 ++ [(⟨(rd_TTie x100001 x11).f0, (rd_TTie x100001 x11).f1⟩ : STie)]) x102000 x102001) else (none)))) else (none))) else (if x10 = true then (some (x101000, x101001, true)) else (if x101001.length < 8796093022208 then (some (x101000, (x101001 ++ [(⟨x102000, x102001⟩ : STie)]), true)) else (none)))
end
def spec_NetAdd.f (k : Nat) (a0_0 : Int) (l0_1 : List (STie)) (a1 : Int) (a2 : Int) : Option (Int × (List (STie)) × Bool) := (spec_l1Knot.f k a0_0 l0_1 a1).bind fun t105 => (if t105 = true then ((spec_l1Knot.f k a0_0 l0_1 a2).bind fun t106 => (if t106 = true then (if a1 = a2 then (spec_NetAdd.j0 k a1 a2 true a0_0 l0_1) else ((spec_NetHas.f k a0_0 l0_1 a1 a2).bind fun t107 => (spec_NetAdd.j0 k a1 a2 t107 a0_0 l0_1))) else (spec_NetAdd.j0 k a1 a2 true a0_0 l0_1))) else (spec_NetAdd.j0 k a1 a2 true a0_0 l0_1))
mutual
def spec_l71Net.j2 : Nat → List Int → Int → Int → List (STie) → Option (Int × (List (STie)) × Int)
  | 0, _, _, _, _ => none
  | k + 1, x100, x101, x102000, x102001 => (spec_l6Rd_pick.f k x100 x101 13).bind fun bt103 => (spec_l71Net.l2 k bt103.1 x100 bt103.2 x102000 x102001)
def spec_l71Net.l2 : Nat → Int → List Int → Int → Int → List (STie) → Option (Int × (List (STie)) × Int)
  | 0, _, _, _, _, _ => none
  | k + 1, x6, x100, x101, x102000, x102001 => if x6 > 0 then (spec_l71Net.j4 k x6 (decide (x102000 > 1)) x100 x101 x102000 x102001) else (spec_l71Net.j4 k x6 false x100 x101 x102000 x102001)
def spec_l71Net.j4 : Nat → Int → Bool → List Int → Int → Int → List (STie) → Option (Int × (List (STie)) × Int)
  | 0, _, _, _, _, _, _ => none
  | k + 1, x6, x64, x100, x101, x102000, x102001 => if x64 = true then ((spec_l6Rd_pick.f k x100 x101 x102000).bind fun bt104 => ((spec_l6Rd_pick.f k x100 bt104.2 x102000).bind fun bt105 => ((spec_NetAdd.f k x102000 x102001 bt104.1 bt105.1).bind fun bt106 => (if bt106.2.2 = true then (spec_l71Net.l2 k (wrap64 (x6 - 1)) x100 bt105.2 bt106.1 bt106.2.1) else (spec_l71Net.l2 k (wrap64 (x6 - 1)) x100 bt105.2 x102000 x102001))))) else (some (x102000, x102001, x101))
def spec_l71Net.l0 : Nat → Int → List Int → Int → Int → List (STie) → Option (Int × (List (STie)) × Int)
  | 0, _, _, _, _, _ => none
  | k + 1, x4, x100, x101, x102000, x102001 => if x4 < x102000 then ((spec_l6Rd_pick.f k x100 x101 x4).bind fun bt107 => ((spec_NetAdd.f k x102000 x102001 x4 bt107.1).bind fun bt108 => (spec_l71Net.l0 k (wrap64 (x4 + 1)) x100 bt107.2 bt108.1 bt108.2.1))) else (spec_l71Net.j2 k x100 x101 x102000 x102001)
def spec_l71Net.l1 : Nat → Int → List Int → Int → Int → List (STie) → Option (Int × (List (STie)) × Int)
  | 0, _, _, _, _, _ => none
  | k + 1, x5, x100, x101, x102000, x102001 => if x5 < x102000 then (if x102000 > 2 then (if x102000 = 0 then (none) else ((spec_NetAdd.f k x102000 x102001 x5 (Int.tmod (wrap64 (x5 + 1)) x102000)).bind fun bt109 => (spec_l71Net.l1 k (wrap64 (x5 + 1)) x100 x101 bt109.1 bt109.2.1))) else (spec_l71Net.j2 k x100 x101 x102000 x102001)) else (spec_l71Net.j2 k x100 x101 x102000 x102001)
end
def spec_l71Net.f (k : Nat) (s0_0 : List Int) (s0_1 : Int) : Option (Int × (List (STie)) × Int) := (spec_l6Rd_pick.f k s0_0 s0_1 8).bind fun bt110 => ((spec_l6Rd_pick.f k s0_0 bt110.2 6).bind fun bt102 => (if bt102.1 = 0 then (spec_l71Net.l0 k 1 s0_0 bt102.2 (wrap64 (1 + bt110.1)) ([] : List (STie))) else (if bt102.1 = 1 then (spec_l71Net.l1 k 0 s0_0 bt102.2 (wrap64 (1 + bt110.1)) ([] : List (STie))) else (spec_l71Net.j2 k s0_0 bt102.2 (wrap64 (1 + bt110.1)) ([] : List (STie))))))
def spec_l1Copy.f (a0_0 : Int) (l0_1 : List (STie)) : Option (Int × (List (STie))) := (some (([] : List (STie)) : List (STie))).bind fun y100 => (if y100.length + l0_1.length < 8796093022208 then (some (a0_0, (y100 ++ l0_1))) else (none))
def spec_l71Spoil.f (k : Nat) (s0_0 : List Int) (s0_1 : Int) (a1_0 : Int) (l1_1 : List (STie)) : Option (Int × (List (STie)) × Int) := (spec_l1Copy.f a1_0 l1_1).bind fun bt100 => ((spec_l6Rd_pick.f k s0_0 s0_1 6).bind fun bt101 => (if bt101.1 = 0 then ((some (([(-1), 0, 1, 8, 9] : List Int) : List Int)).bind fun y102 => ((spec_l6Rd_pick.f k s0_0 bt101.2 5).bind fun bt103 => (if 0 ≤ bt103.1 then (if bt103.1 < (y102.length : Int) then (some (rd y102 bt103.1, bt100.2, bt103.2)) else (none)) else (none)))) else (if bt101.1 = 1 then ((spec_l6Rd_pick.f k s0_0 bt101.2 3).bind fun bt104 => ((spec_l6Rd_pick.f k s0_0 bt104.2 3).bind fun bt105 => (if bt100.2.length < 8796093022208 then (some (bt100.1, (bt100.2 ++ [(⟨bt104.1, bt105.1⟩ : STie)]), bt105.2)) else (none)))) else (if bt101.1 = 2 then (if bt100.2.length < 8796093022208 then (some (bt100.1, (bt100.2 ++ [(⟨wrap64 (bt100.1 - 1), bt100.1⟩ : STie)]), bt101.2)) else (none)) else (if bt101.1 = 3 then (if (bt100.2.length : Int) > 0 then ((spec_l6Rd_pick.f k s0_0 bt101.2 (bt100.2.length : Int)).bind fun bt106 => (if 0 ≤ bt106.1 then (if bt106.1 < (bt100.2.length : Int) then (some (bt100.1, (bt100.2.set (bt106.1 : Int).toNat (⟨(rd_TTie bt100.2 bt106.1).f1, (rd_TTie bt100.2 bt106.1).f0⟩ : STie)), bt106.2)) else (none)) else (none))) else (some (bt100.1, bt100.2, bt101.2))) else (if bt101.1 = 4 then (if (bt100.2.length : Int) > 1 then (if 0 < (bt100.2.length : Int) then (if bt100.2.length < 8796093022208 then (some (bt100.1, (bt100.2 ++ [(⟨(rd_TTie bt100.2 0).f0, (rd_TTie bt100.2 0).f1⟩ : STie)]), bt101.2)) else (none)) else (none)) else (some (bt100.1, bt100.2, bt101.2))) else ((some (([(⟨(-1), 0⟩ : STie)] : List (STie)) : List (STie))).bind fun y107 => (if y107.length + bt100.2.length < 8796093022208 then (some (bt100.1, (y107 ++ bt100.2), bt101.2)) else (none)))))))))
def spec_l71Any.f (k : Nat) (s0_0 : List Int) (s0_1 : Int) : Option (Int × (List (STie)) × Int) := (spec_l71Net.f k s0_0 s0_1).bind fun bt100 => ((spec_l6Rd_pick.f k s0_0 bt100.2.2 12).bind fun bt101 => (if bt101.1 = 0 then ((spec_l71Spoil.f k s0_0 bt101.2 bt100.1 bt100.2.1).bind fun bt102 => (some (bt102.1, bt102.2.1, bt102.2.2))) else (some (bt100.1, bt100.2.1, bt101.2))))
def spec_l6Open.f (l0 : List Int) : Option (List Int × Int) := if (l0.length : Int) > 2000 then (if 2000 ≤ (l0.length : Int) then (some (l0.take 2000, 0)) else (none)) else (some (l0, 0))
def spec_DrawNetWrite.f (k : Nat) (l0 : List Int) : Option (Int × (List (STie))) := (spec_l6Open.f l0).bind fun bt100 => ((spec_l71Any.f k bt100.1 bt100.2).bind fun bt101 => (some (bt101.1, bt101.2.1)))
def laws_loTies.l0 : Nat → List (STie) → List (STie) → Int → Option (Bool)
  | 0, _, _, _ => none
  | k + 1, x0, x1, x5 => if x5 < (x0.length : Int) then (if 0 ≤ x5 then (if x5 < (x1.length : Int) then (if (!(((rd_TTie x0 x5).f0) == ((rd_TTie x1 x5).f0)) || (!(((rd_TTie x0 x5).f1) == ((rd_TTie x1 x5).f1)))) = true then (some false) else (laws_loTies.l0 k x0 x1 (wrap64 (x5 + 1)))) else (none)) else (none)) else (some true)
def laws_loTies.f (k : Nat) (l0 : List (STie)) (l1 : List (STie)) : Option (Bool) := if (l0.length : Int) = (l1.length : Int) then (laws_loTies.l0 k l0 l1 0) else (some false)
def laws_loNet.f (k : Nat) (a0_0 : Int) (l0_1 : List (STie)) (a1_0 : Int) (l1_1 : List (STie)) : Option (Bool) := if a0_0 = a1_0 then ((laws_loTies.f k l0_1 l1_1).bind fun t100 => (some t100)) else (some false)
mutual
def laws_FnNetOne.j0 : Nat → List Int → List Int → Bool → Option (Bool)
  | 0, _, _, _ => none
  | k + 1, x0, x1, x16 => if x16 = true then (some true) else ((spec_DrawNetWrite.f k x0).bind fun bt100 => ((spec_DrawNetWrite.f k x1).bind fun bt101 => ((impl_NetWrite.f k bt100.1 bt100.2).bind fun t102 => ((impl_NetWrite.f k bt101.1 bt101.2).bind fun t103 => ((spec_NetWrite.f k bt100.1 bt100.2).bind fun t104 => (if t102.toList = t104.toList then ((spec_NetWrite.f k bt101.1 bt101.2).bind fun t105 => (if t103.toList = t105.toList then (if t102.toList = ([] : List UInt8) then (laws_FnNetOne.j1 k t102 t103 true bt100.1 bt100.2 bt101.1 bt101.2) else (laws_FnNetOne.j1 k t102 t103 (t103.toList == ([] : List UInt8)) bt100.1 bt100.2 bt101.1 bt101.2)) else (laws_FnNetOne.j1 k t102 t103 true bt100.1 bt100.2 bt101.1 bt101.2))) else (laws_FnNetOne.j1 k t102 t103 true bt100.1 bt100.2 bt101.1 bt101.2)))))))
def laws_FnNetOne.j1 : Nat → ByteArray → ByteArray → Bool → Int → List (STie) → Int → List (STie) → Option (Bool)
  | 0, _, _, _, _, _, _, _ => none
  | k + 1, x7, x8, x42, x101000, x101001, x102000, x102001 => if x42 = true then ((spec_NetWrite.f k x101000 x101001).bind fun t106 => (if x7.toList = t106.toList then ((spec_NetWrite.f k x102000 x102001).bind fun t107 => (some (x8.toList == t107.toList))) else (some false))) else ((laws_loNet.f k x101000 x101001 x102000 x102001).bind fun t108 => (some ((x7.toList == x8.toList) == t108)))
end
def laws_FnNetOne.f (k : Nat) (l0 : List Int) (l1 : List Int) : Option (Bool) := if (l0.length : Int) > 1048576 then (laws_FnNetOne.j0 k l0 l1 true) else (laws_FnNetOne.j0 k l0 l1 (decide ((l1.length : Int) > 1048576)))
/-- THE ONE PURE STATEMENT of laws_FnNetOne: yours. -/
def laws_FnNetOne.Pure : Prop := ∀ (l0 : List Int) (l1 : List Int), l0.length ≤ maxLen → l0.length * 1 ≤ 140737488351232 → (∀ x ∈ l0, (Lit.int .u8 x).wf = true) → l1.length ≤ maxLen → l1.length * 1 ≤ 140737488351232 → (∀ x ∈ l1, (Lit.int .u8 x).wf = true) → ∃ k, laws_FnNetOne.f k l0 l1 = some true
end Go.Proofs.YtloonheabfdgbaaDoor.P
