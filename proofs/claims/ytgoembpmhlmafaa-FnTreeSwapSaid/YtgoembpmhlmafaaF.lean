import Derived.Test.YtgoembpmhlmafaaT
import Derived.Test.YtgoembpmhlmafaaW1
namespace Go.Proofs.Ytgoembpmhlmafaa.P
open Go.RowKit Go.Proofs.YtgoembpmhlmafaaW.PrintWords Go.Proofs.YtgoembpmhlmafaaW.PrintLast Go.Proofs.YtgoembpmhlmafaaW.PrintMore
set_option linter.unusedVariables false
set_option linter.unusedSimpArgs false
abbrev STie := Osier.Tie
abbrev SLTie := Osier.Tie
def zTie : STie := ⟨(0 : Int), (0 : Int)⟩
def rd_TTie (xs : List STie) (i : Int) : STie := xs.getD i.toNat zTie
def rd_LI (xs : List (List Int)) (i : Int) : (List Int) := xs.getD i.toNat ([] : List Int)
def zLTie : SLTie := ⟨(0 : Int), (0 : Int)⟩
def rd_TLTie (xs : List SLTie) (i : Int) : SLTie := xs.getD i.toNat zLTie
def cmp_Or_int.l0 : Nat → Int → List Int → Int → Int → Option (Int)
  | 0, _, _, _, _ => none
  | k + 1, x3, x6, x7, x8 => if x8 < x7 then (if 0 ≤ x8 then (if x8 < (x6.length : Int) then (if (rd x6 x8) = x3 then (cmp_Or_int.l0 k x3 x6 x7 (wrap64 (x8 + 1))) else (some (rd x6 x8))) else (none)) else (none)) else (some x3)
def cmp_Or_int.f (k : Nat) (l0 : List Int) : Option (Int) := cmp_Or_int.l0 k 0 l0 (l0.length : Int) 0
def cmp_isNaN_int.f (a0 : Int) : Option (Bool) := some (a0 != a0)
def cmp_Compare_int.f (a0 : Int) (a1 : Int) : Option (Int) := (cmp_isNaN_int.f a0).bind fun t100 => ((cmp_isNaN_int.f a1).bind fun t101 => (if t100 = true then (if t101 = true then (some 0) else (some (-1))) else (if t101 = true then (some 1) else (if a0 < a1 then (some (-1)) else (if a0 > a1 then (some 1) else (some 0))))))
def impl_tieOrder.f (k : Nat) (a0_0 : Int) (a0_1 : Int) (a1_0 : Int) (a1_1 : Int) : Option (Int) := (cmp_Compare_int.f a0_0 a1_0).bind fun t100 => ((cmp_Compare_int.f a0_1 a1_1).bind fun t101 => ((cmp_Or_int.f k (([t100, t101] : List Int))).bind fun t102 => (some t102)))
def impl_ascending.l0 : Nat → List (STie) → Int → Option (Bool)
  | 0, _, _ => none
  | k + 1, x0, x3 => if x3 < (x0.length : Int) then (if 0 ≤ (wrap64 (x3 - 1)) then (if (wrap64 (x3 - 1)) < (x0.length : Int) then (if 0 ≤ x3 then ((impl_tieOrder.f k ((rd_TTie x0 (wrap64 (x3 - 1))).f0) ((rd_TTie x0 (wrap64 (x3 - 1))).f1) ((rd_TTie x0 x3).f0) ((rd_TTie x0 x3).f1)).bind fun t100 => (if t100 ≥ 0 then (some false) else (impl_ascending.l0 k x0 (wrap64 (x3 + 1))))) else (none)) else (none)) else (none)) else (some true)
def impl_ascending.f (k : Nat) (l0 : List (STie)) : Option (Bool) := impl_ascending.l0 k l0 1
mutual
def impl_NetOk.j0 : Nat → Bool → Int → List (STie) → Option (Bool)
  | 0, _, _, _ => none
  | k + 1, x12, x100000, x100001 => if x12 = true then (some false) else (impl_NetOk.l0 k x100001 (x100001.length : Int) 0 x100000 x100001)
def impl_NetOk.l0 : Nat → List (STie) → Int → Int → Int → List (STie) → Option (Bool)
  | 0, _, _, _, _, _ => none
  | k + 1, x14, x15, x16, x100000, x100001 => if x16 < x15 then (if 0 ≤ x16 then (if x16 < (x14.length : Int) then (if ((rd_TTie x14 x16).f0) < 0 then (some false) else (if ((rd_TTie x14 x16).f0) ≥ ((rd_TTie x14 x16).f1) then (some false) else (if ((rd_TTie x14 x16).f1) ≥ x100000 then (some false) else (impl_NetOk.l0 k x14 x15 (wrap64 (x16 + 1)) x100000 x100001)))) else (none)) else (none)) else ((impl_ascending.f k x100001).bind fun t101 => (some t101))
end
def impl_NetOk.f (k : Nat) (a0_0 : Int) (l0_1 : List (STie)) : Option (Bool) := if a0_0 < 0 then (impl_NetOk.j0 k true a0_0 l0_1) else (impl_NetOk.j0 k (decide (a0_0 > 8)) a0_0 l0_1)
mutual
def impl_Net_parts.l0 : Nat → List Int → Int → Int → Int → List (STie) → Option (List Int)
  | 0, _, _, _, _, _ => none
  | k + 1, x3, x11, x12, x100000, x100001 => if x12 < x11 then (if x3.length < 17592186044416 then (impl_Net_parts.l0 k (x3 ++ [x12]) x11 (wrap64 (x12 + 1)) x100000 x100001) else (none)) else (impl_Net_parts.l1 k x3 true x100000 x100001)
def impl_Net_parts.l1 : Nat → List Int → Bool → Int → List (STie) → Option (List Int)
  | 0, _, _, _, _ => none
  | k + 1, x3, x5, x100000, x100001 => if x5 = true then (impl_Net_parts.l2 k x3 false x100001 (x100001.length : Int) 0 x100000 x100001) else (some x3)
def impl_Net_parts.l2 : Nat → List Int → Bool → List (STie) → Int → Int → Int → List (STie) → Option (List Int)
  | 0, _, _, _, _, _, _, _ => none
  | k + 1, x3, x5, x22, x23, x24, x100000, x100001 => if x24 < x23 then (if 0 ≤ x24 then (if x24 < (x22.length : Int) then (if 0 ≤ ((rd_TTie x22 x24).f0) then (if ((rd_TTie x22 x24).f0) < (x3.length : Int) then (if 0 ≤ ((rd_TTie x22 x24).f1) then (if ((rd_TTie x22 x24).f1) < (x3.length : Int) then (if (rd x3 ((rd_TTie x22 x24).f0)) = (rd x3 ((rd_TTie x22 x24).f1)) then (impl_Net_parts.l2 k x3 x5 x22 x23 (wrap64 (x24 + 1)) x100000 x100001) else (impl_Net_parts.l2 k ((x3.set (((rd_TTie x22 x24).f0) : Int).toNat (mn (rd x3 ((rd_TTie x22 x24).f0)) (rd x3 ((rd_TTie x22 x24).f1)))).set (((rd_TTie x22 x24).f1) : Int).toNat (mn (rd x3 ((rd_TTie x22 x24).f0)) (rd x3 ((rd_TTie x22 x24).f1)))) true x22 x23 (wrap64 (x24 + 1)) x100000 x100001)) else (none)) else (none)) else (none)) else (none)) else (none)) else (none)) else (impl_Net_parts.l1 k x3 x5 x100000 x100001)
end
def impl_Net_parts.f (k : Nat) (a0_0 : Int) (l0_1 : List (STie)) : Option (List Int) := impl_Net_parts.l0 k (([] : List Int)) a0_0 0 a0_0 l0_1
def impl_Net_joined.f (k : Nat) (a0_0 : Int) (l0_1 : List (STie)) (a1 : Int) (a2 : Int) : Option (Bool) := (impl_Net_parts.f k a0_0 l0_1).bind fun t100 => (if 0 ≤ a1 then (if a1 < (t100.length : Int) then (if 0 ≤ a2 then (if a2 < (t100.length : Int) then (some ((rd t100 a1) == (rd t100 a2))) else (none)) else (none)) else (none)) else (none))
def impl_Net_tree.l0 : Nat → List (STie) → Int → Int → Int → List (STie) → Option (Int × (List (STie)))
  | 0, _, _, _, _, _ => none
  | k + 1, x11, x12, x13, x100000, x100001 => if x13 < x12 then (if 0 ≤ x13 then (if x13 < (x11.length : Int) then ((impl_Net_joined.f k x100000 x100001 ((rd_TTie x11 x13).f0) ((rd_TTie x11 x13).f1)).bind fun t101 => (if t101 = true then (impl_Net_tree.l0 k x11 x12 (wrap64 (x13 + 1)) x100000 x100001) else (if x100001.length < 8796093022208 then (impl_Net_tree.l0 k x11 x12 (wrap64 (x13 + 1)) x100000 (x100001 ++ [(⟨(rd_TTie x11 x13).f0, (rd_TTie x11 x13).f1⟩ : STie)])) else (none)))) else (none)) else (none)) else (some (x100000, x100001))
def impl_Net_tree.f (k : Nat) (a0_0 : Int) (l0_1 : List (STie)) : Option (Int × (List (STie))) := impl_Net_tree.l0 k l0_1 (l0_1.length : Int) 0 a0_0 (([] : List (STie)))
def impl_TreeOf.f (k : Nat) (a0_0 : Int) (l0_1 : List (STie)) : Option ((List (STie))) := (impl_NetOk.f k a0_0 l0_1).bind fun t100 => (if t100 = true then ((impl_Net_tree.f k a0_0 l0_1).bind fun bt101 => (some bt101.2)) else (some (([] : List (STie)))))
def laws_loTie.f (a0 : Int) (a1 : Int) : Option (Int × Int) := if a0 < a1 then (some (a0, a1)) else (some (a1, a0))
def laws_loHas.l0 : Nat → List (STie) → Int → Int → Int → Option (Bool)
  | 0, _, _, _, _ => none
  | k + 1, x0, x5, x100000, x100001 => if x5 < (x0.length : Int) then (if 0 ≤ x5 then (if (((rd_TTie x0 x5).f0) == x100000 && (((rd_TTie x0 x5).f1) == x100001)) = true then (some true) else (laws_loHas.l0 k x0 (wrap64 (x5 + 1)) x100000 x100001)) else (none)) else (some false)
def laws_loHas.f (k : Nat) (l0 : List (STie)) (a1_0 : Int) (a1_1 : Int) : Option (Bool) := laws_loHas.l0 k l0 0 a1_0 a1_1
def spec_l1Less.f (a0_0 : Int) (a0_1 : Int) (a1_0 : Int) (a1_1 : Int) : Option (Bool) := if a0_0 < a1_0 then (some true) else (if a0_0 = a1_0 then (some (decide (a0_1 < a1_1))) else (some false))
def spec_l6In.f (a0 : Int) (a1 : Int) (a2 : Int) : Option (Bool) := if a0 ≥ a1 then (some (decide (a0 ≤ a2))) else (some false)
mutual
def spec_NetOk.j0 : Nat → Bool → Int → List (STie) → Option (Bool)
  | 0, _, _, _ => none
  | k + 1, x14, x100000, x100001 => if x14 = true then (some false) else (spec_NetOk.l0 k 0 x100000 x100001)
def spec_NetOk.l0 : Nat → Int → Int → List (STie) → Option (Bool)
  | 0, _, _, _ => none
  | k + 1, x3, x100000, x100001 => if x3 < (x100001.length : Int) then (if 0 ≤ x3 then ((spec_l6In.f ((rd_TTie x100001 x3).f0) 0 (wrap64 (x100000 - 1))).bind fun t101 => (if t101 = true then ((spec_l6In.f ((rd_TTie x100001 x3).f1) (wrap64 (((rd_TTie x100001 x3).f0) + 1)) (wrap64 (x100000 - 1))).bind fun t102 => (if t102 = true then (if x3 > 0 then (if 0 ≤ (wrap64 (x3 - 1)) then (if (wrap64 (x3 - 1)) < (x100001.length : Int) then ((spec_l1Less.f ((rd_TTie x100001 (wrap64 (x3 - 1))).f0) ((rd_TTie x100001 (wrap64 (x3 - 1))).f1) ((rd_TTie x100001 x3).f0) ((rd_TTie x100001 x3).f1)).bind fun t103 => (if t103 = true then (spec_NetOk.l0 k (wrap64 (x3 + 1)) x100000 x100001) else (some false))) else (none)) else (none)) else (spec_NetOk.l0 k (wrap64 (x3 + 1)) x100000 x100001)) else (some false))) else (some false))) else (none)) else (some true)
end
def spec_NetOk.f (k : Nat) (a0_0 : Int) (l0_1 : List (STie)) : Option (Bool) := (spec_l6In.f a0_0 0 8).bind fun t100 => (if t100 = true then (spec_NetOk.j0 k (decide ((l0_1.length : Int) > 64)) a0_0 l0_1) else (spec_NetOk.j0 k true a0_0 l0_1))
def spec_l1Knot.f (k : Nat) (a0_0 : Int) (l0_1 : List (STie)) (a1 : Int) : Option (Bool) := (spec_NetOk.f k a0_0 l0_1).bind fun t100 => (if t100 = true then ((spec_l6In.f a1 0 (wrap64 (a0_0 - 1))).bind fun t101 => (some t101)) else (some false))
def spec_l1Tie.f (a0 : Int) (a1 : Int) : Option (Int × Int) := if a0 < a1 then (some (a0, a1)) else (some (a1, a0))
def spec_l1Has.l0 : Nat → Int → Int → Int → Int → List (STie) → Option (Bool)
  | 0, _, _, _, _, _ => none
  | k + 1, x1, x2, x7, x100000, x100001 => if x7 < (x100001.length : Int) then (if 0 ≤ x7 then ((spec_l1Tie.f x1 x2).bind fun bt101 => (if (((rd_TTie x100001 x7).f0) == bt101.1 && (((rd_TTie x100001 x7).f1) == bt101.2)) = true then (some true) else (spec_l1Has.l0 k x1 x2 (wrap64 (x7 + 1)) x100000 x100001))) else (none)) else (some false)
def spec_l1Has.f (k : Nat) (a0_0 : Int) (l0_1 : List (STie)) (a1 : Int) (a2 : Int) : Option (Bool) := spec_l1Has.l0 k a1 a2 0 a0_0 l0_1
def spec_l2Next.l0 : Nat → Int → List Int → Int → Int → List (STie) → Option (List Int)
  | 0, _, _, _, _, _ => none
  | k + 1, x1, x5, x6, x100000, x100001 => if x6 < x100000 then ((spec_l1Has.f k x100000 x100001 x1 x6).bind fun t101 => (if t101 = true then (if x5.length < 17592186044416 then (spec_l2Next.l0 k x1 (x5 ++ [x6]) (wrap64 (x6 + 1)) x100000 x100001) else (none)) else (spec_l2Next.l0 k x1 x5 (wrap64 (x6 + 1)) x100000 x100001))) else (some x5)
def spec_l2Next.f (k : Nat) (a0_0 : Int) (l0_1 : List (STie)) (a1 : Int) : Option (List Int) := spec_l2Next.l0 k a1 (([] : List Int)) 0 a0_0 l0_1
mutual
def spec_WayReach.l0 : Nat → List Bool → List Int → Int → List (STie) → Option (List Bool)
  | 0, _, _, _, _ => none
  | k + 1, x5, x6, x100000, x100001 => if (x6.length : Int) > 0 then (if 0 < (x6.length : Int) then ((spec_l2Next.f k x100000 x100001 (rd x6 0)).bind fun t101 => (if 1 ≤ (x6.length : Int) then (spec_WayReach.l1 k x5 (x6.drop (1 : Int).toNat) t101 0 x100000 x100001) else (none))) else (none)) else (some x5)
def spec_WayReach.l1 : Nat → List Bool → List Int → List Int → Int → Int → List (STie) → Option (List Bool)
  | 0, _, _, _, _, _, _ => none
  | k + 1, x5, x6, x7, x8, x100000, x100001 => if x8 < (x7.length : Int) then (if 0 ≤ x8 then (if 0 ≤ (rd x7 x8) then (if (rd x7 x8) < (x5.length : Int) then (if (rdOf false x5 (rd x7 x8) = true) then (spec_WayReach.l1 k x5 x6 x7 (wrap64 (x8 + 1)) x100000 x100001) else (if x6.length < 17592186044416 then (spec_WayReach.l1 k (x5.set ((rd x7 x8) : Int).toNat true) (x6 ++ [rd x7 x8]) x7 (wrap64 (x8 + 1)) x100000 x100001) else (none))) else (none)) else (none)) else (none)) else (spec_WayReach.l0 k x5 x6 x100000 x100001)
end
def spec_WayReach.f (k : Nat) (a0_0 : Int) (l0_1 : List (STie)) (a1 : Int) : Option (List Bool) := (spec_l1Knot.f k a0_0 l0_1 a1).bind fun t100 => (if t100 = true then (if 0 ≤ a0_0 then (if (a0_0 : Int).toNat ≤ 281474976710656 then ((some (List.replicate (a0_0 : Int).toNat false : List Bool)).bind fun y102 => (if 0 ≤ a1 then (if a1 < (y102.length : Int) then (spec_WayReach.l0 k (y102.set (a1 : Int).toNat true) (([a1] : List Int)) a0_0 l0_1) else (none)) else (none))) else (none)) else (none)) else (some (([] : List Bool))))
def spec_TreeOf.l0 : Nat → List (STie) → Int → Int → List (STie) → Option ((List (STie)))
  | 0, _, _, _, _ => none
  | k + 1, x3, x4, x100000, x100001 => if x4 < (x100001.length : Int) then (if 0 ≤ x4 then ((spec_WayReach.f k x100000 x3 ((rd_TTie x100001 x4).f0)).bind fun t101 => (if 0 ≤ ((rd_TTie x100001 x4).f1) then (if ((rd_TTie x100001 x4).f1) < (t101.length : Int) then (if (rdOf false t101 ((rd_TTie x100001 x4).f1) = true) then (spec_TreeOf.l0 k x3 (wrap64 (x4 + 1)) x100000 x100001) else (if x3.length < 8796093022208 then (spec_TreeOf.l0 k (x3 ++ [(⟨(rd_TTie x100001 x4).f0, (rd_TTie x100001 x4).f1⟩ : STie)]) (wrap64 (x4 + 1)) x100000 x100001) else (none))) else (none)) else (none))) else (none)) else (some x3)
def spec_TreeOf.f (k : Nat) (a0_0 : Int) (l0_1 : List (STie)) : Option ((List (STie))) := (some (([] : List (STie)) : List (STie))).bind fun y100 => ((spec_NetOk.f k a0_0 l0_1).bind fun t102 => (if t102 = true then (spec_TreeOf.l0 k y100 0 a0_0 l0_1) else (some y100)))
mutual
def spec_l2Far.l0 : Nat → Int → List Int → Int → Int → List (STie) → Option (List Int)
  | 0, _, _, _, _, _ => none
  | k + 1, x1, x5, x6, x100000, x100001 => if x6 < x100000 then (if x5.length < 17592186044416 then (spec_l2Far.l0 k x1 (x5 ++ [(-1)]) (wrap64 (x6 + 1)) x100000 x100001) else (none)) else (if 0 ≤ x1 then (if x1 < (x5.length : Int) then (spec_l2Far.l1 k (x5.set (x1 : Int).toNat 0) (([x1] : List Int)) x100000 x100001) else (none)) else (none))
def spec_l2Far.l1 : Nat → List Int → List Int → Int → List (STie) → Option (List Int)
  | 0, _, _, _, _ => none
  | k + 1, x5, x7, x100000, x100001 => if (x7.length : Int) > 0 then (if 0 < (x7.length : Int) then ((spec_l2Next.f k x100000 x100001 (rd x7 0)).bind fun t101 => (if 1 ≤ (x7.length : Int) then (spec_l2Far.l2 k x5 (x7.drop (1 : Int).toNat) (rd x7 0) t101 0 x100000 x100001) else (none))) else (none)) else (some x5)
def spec_l2Far.l2 : Nat → List Int → List Int → Int → List Int → Int → Int → List (STie) → Option (List Int)
  | 0, _, _, _, _, _, _, _ => none
  | k + 1, x5, x7, x8, x9, x10, x100000, x100001 => if x10 < (x9.length : Int) then (if 0 ≤ x10 then (if 0 ≤ (rd x9 x10) then (if (rd x9 x10) < (x5.length : Int) then (if (rd x5 (rd x9 x10)) < 0 then (if 0 ≤ x8 then (if x8 < (x5.length : Int) then (if x7.length < 17592186044416 then (spec_l2Far.l2 k (x5.set ((rd x9 x10) : Int).toNat (wrap64 ((rd x5 x8) + 1))) (x7 ++ [rd x9 x10]) x8 x9 (wrap64 (x10 + 1)) x100000 x100001) else (none)) else (none)) else (none)) else (spec_l2Far.l2 k x5 x7 x8 x9 (wrap64 (x10 + 1)) x100000 x100001)) else (none)) else (none)) else (none)) else (spec_l2Far.l1 k x5 x7 x100000 x100001)
end
def spec_l2Far.f (k : Nat) (a0_0 : Int) (l0_1 : List (STie)) (a1 : Int) : Option (List Int) := spec_l2Far.l0 k a1 (([] : List Int)) 0 a0_0 l0_1
mutual
def spec_WayFind.j0 : Nat → Int → Int → List Int → Bool → Int → List (STie) → Option (List Int × Bool)
  | 0, _, _, _, _, _, _ => none
  | k + 1, x1, x2, x8, x23, x100000, x100001 => if x23 = true then (some (x8, false)) else ((spec_l2Far.f k x100000 x100001 x2).bind fun t101 => (if 0 ≤ x1 then (if x1 < (t101.length : Int) then (if (rd t101 x1) < 0 then (some (x8, false)) else (if x8.length < 17592186044416 then (spec_WayFind.l0 k x2 (x8 ++ [x1]) t101 x1 x100000 x100001) else (none))) else (none)) else (none)))
def spec_WayFind.l0 : Nat → Int → List Int → List Int → Int → Int → List (STie) → Option (List Int × Bool)
  | 0, _, _, _, _, _, _ => none
  | k + 1, x2, x8, x9, x10, x100000, x100001 => if x10 = x2 then (some (x8, true)) else ((spec_l2Next.f k x100000 x100001 x10).bind fun t102 => (spec_WayFind.l1 k x2 x8 x9 x10 t102 0 x100000 x100001))
def spec_WayFind.l1 : Nat → Int → List Int → List Int → Int → List Int → Int → Int → List (STie) → Option (List Int × Bool)
  | 0, _, _, _, _, _, _, _, _ => none
  | k + 1, x2, x8, x9, x10, x11, x12, x100000, x100001 => if x12 < (x11.length : Int) then (if 0 ≤ x12 then (if 0 ≤ (rd x11 x12) then (if (rd x11 x12) < (x9.length : Int) then (if 0 ≤ x10 then (if x10 < (x9.length : Int) then (if (rd x9 (rd x11 x12)) = (wrap64 ((rd x9 x10) - 1)) then (if x8.length < 17592186044416 then (spec_WayFind.l0 k x2 (x8 ++ [rd x11 x12]) x9 (rd x11 x12) x100000 x100001) else (none)) else (spec_WayFind.l1 k x2 x8 x9 x10 x11 (wrap64 (x12 + 1)) x100000 x100001)) else (none)) else (none)) else (none)) else (none)) else (none)) else (if x8.length < 17592186044416 then (spec_WayFind.l0 k x2 (x8 ++ [x10]) x9 x10 x100000 x100001) else (none))
end
def spec_WayFind.f (k : Nat) (a0_0 : Int) (l0_1 : List (STie)) (a1 : Int) (a2 : Int) : Option (List Int × Bool) := (some (([] : List Int) : List Int)).bind fun y100 => ((spec_l1Knot.f k a0_0 l0_1 a1).bind fun t103 => (if t103 = true then ((spec_l1Knot.f k a0_0 l0_1 a2).bind fun t104 => (spec_WayFind.j0 k a1 a2 y100 (!t104) a0_0 l0_1)) else (spec_WayFind.j0 k a1 a2 y100 true a0_0 l0_1)))
def spec_TreeRings.l0 : Nat → List (List Int) → Int → Int → List (STie) → Int → List (STie) → Option ((List (List Int)))
  | 0, _, _, _, _, _, _ => none
  | k + 1, x3, x5, x100000, x100001, x101000, x101001 => if x5 < (x100001.length : Int) then (if 0 ≤ x5 then ((spec_l1Has.f k x101000 x101001 ((rd_TTie x100001 x5).f0) ((rd_TTie x100001 x5).f1)).bind fun t102 => (if t102 = true then (spec_TreeRings.l0 k x3 (wrap64 (x5 + 1)) x100000 x100001 x101000 x101001) else ((spec_WayFind.f k x101000 x101001 ((rd_TTie x100001 x5).f1) ((rd_TTie x100001 x5).f0)).bind fun bt103 => (if x3.length < 5864062014805 then (spec_TreeRings.l0 k (x3 ++ [bt103.1]) (wrap64 (x5 + 1)) x100000 x100001 x101000 x101001) else (none))))) else (none)) else (some x3)
def spec_TreeRings.f (k : Nat) (a0_0 : Int) (l0_1 : List (STie)) : Option ((List (List Int))) := (some (([] : List (List Int)) : List (List Int))).bind fun y100 => ((spec_TreeOf.f k a0_0 l0_1).bind fun t104 => ((spec_NetOk.f k a0_0 l0_1).bind fun t101 => (if t101 = true then (spec_TreeRings.l0 k y100 0 a0_0 l0_1 a0_0 t104) else (some y100))))
def slices_Index_Tie.l0 : Nat → List (STie) → Int → Int → Int → Int → Option (Int)
  | 0, _, _, _, _, _ => none
  | k + 1, x0, x7, x8, x100000, x100001 => if x8 < x7 then (if 0 ≤ x8 then (if x8 < (x0.length : Int) then (if (x100000 == ((rd_TTie x0 x8).f0) && (x100001 == ((rd_TTie x0 x8).f1))) = true then (some x8) else (slices_Index_Tie.l0 k x0 x7 (wrap64 (x8 + 1)) x100000 x100001)) else (none)) else (none)) else (some (-1))
def slices_Index_Tie.f (k : Nat) (l0 : List (STie)) (a1_0 : Int) (a1_1 : Int) : Option (Int) := slices_Index_Tie.l0 k l0 (l0.length : Int) 0 a1_0 a1_1
def slices_Contains_Tie.f (k : Nat) (l0 : List (STie)) (a1_0 : Int) (a1_1 : Int) : Option (Bool) := (slices_Index_Tie.f k l0 a1_0 a1_1).bind fun t100 => (some (decide (t100 ≥ 0)))
def impl_tie.f (a0 : Int) (a1 : Int) : Option (Int × Int) := some (mn a0 a1, mx a0 a1)
def impl_Net_has.f (k : Nat) (a0_0 : Int) (l0_1 : List (STie)) (a1 : Int) (a2 : Int) : Option (Bool) := (impl_tie.f a1 a2).bind fun bt100 => ((slices_Contains_Tie.f k l0_1 bt100.1 bt100.2).bind fun t101 => (some t101))
def slices_Index_int.l0 : Nat → List Int → Int → Int → Int → Option (Int)
  | 0, _, _, _, _ => none
  | k + 1, x0, x1, x7, x8 => if x8 < x7 then (if 0 ≤ x8 then (if x8 < (x0.length : Int) then (if x1 = (rd x0 x8) then (some x8) else (slices_Index_int.l0 k x0 x1 x7 (wrap64 (x8 + 1)))) else (none)) else (none)) else (some (-1))
def slices_Index_int.f (k : Nat) (l0 : List Int) (a1 : Int) : Option (Int) := slices_Index_int.l0 k l0 a1 (l0.length : Int) 0
def slices_Contains_int.f (k : Nat) (l0 : List Int) (a1 : Int) : Option (Bool) := (slices_Index_int.f k l0 a1).bind fun t100 => (some (decide (t100 ≥ 0)))
def slices_Clone_int.f (l0 : List Int) : Option (List Int) := (some (([] : List Int) : List Int)).bind fun y100 => (if y100.length + l0.length < 17592186044416 then (some (y100 ++ l0)) else (none))
mutual
def impl_Net_ways.l0 : Nat → List Int → Int → List (List Int) → Int → Int → Int → Int → List (STie) → Option (List (List Int))
  | 0, _, _, _, _, _, _, _, _ => none
  | k + 1, x1, x2, x3, x9, x26, x27, x100000, x100001 => if x27 < x26 then ((impl_Net_has.f k x100000 x100001 x9 x27).bind fun t101 => (if t101 = true then ((slices_Contains_int.f k x1 x27).bind fun t102 => (impl_Net_ways.j1 k x1 x2 x3 x9 x27 x26 x27 (!t102) x100000 x100001)) else (impl_Net_ways.j1 k x1 x2 x3 x9 x27 x26 x27 false x100000 x100001))) else (some x3)
def impl_Net_ways.j1 : Nat → List Int → Int → List (List Int) → Int → Int → Int → Int → Bool → Int → List (STie) → Option (List (List Int))
  | 0, _, _, _, _, _, _, _, _, _, _ => none
  | k + 1, x1, x2, x3, x9, x10, x26, x27, x39, x100000, x100001 => if x39 = true then ((slices_Clone_int.f x1).bind fun t103 => ((some (([x10] : List Int) : List Int)).bind fun y104 => (if t103.length + y104.length < 17592186044416 then ((impl_Net_ways.f k x100000 x100001 (t103 ++ y104) x2 x3).bind fun t105 => (impl_Net_ways.l0 k x1 x2 t105 x9 x26 (wrap64 (x27 + 1)) x100000 x100001)) else (none)))) else (impl_Net_ways.l0 k x1 x2 x3 x9 x26 (wrap64 (x27 + 1)) x100000 x100001)
def impl_Net_ways.f : Nat → Int → List (STie) → List Int → Int → List (List Int) → Option (List (List Int))
  | 0, _, _, _, _, _ => none
  | k + 1, a0_0, l0_1, l1, a2, l3 => if 0 ≤ (wrap64 ((l1.length : Int) - 1)) then (if (wrap64 ((l1.length : Int) - 1)) < (l1.length : Int) then (if (rd l1 (wrap64 ((l1.length : Int) - 1))) = a2 then ((slices_Clone_int.f l1).bind fun t106 => (if l3.length < 5864062014805 then (some (l3 ++ [t106])) else (none))) else (impl_Net_ways.l0 k l1 a2 l3 (rd l1 (wrap64 ((l1.length : Int) - 1))) a0_0 0 a0_0 l0_1)) else (none)) else (none)
end
def slices_Compare_int.l0 : Nat → List Int → List Int → List Int → Int → Int → Option (Int)
  | 0, _, _, _, _, _ => none
  | k + 1, x0, x1, x9, x10, x11 => if x11 < x10 then (if 0 ≤ x11 then (if x11 < (x9.length : Int) then (if x11 ≥ (x1.length : Int) then (some 1) else (if x11 < (x1.length : Int) then ((cmp_Compare_int.f (rd x9 x11) (rd x1 x11)).bind fun t100 => (if t100 = 0 then (slices_Compare_int.l0 k x0 x1 x9 x10 (wrap64 (x11 + 1))) else (some t100))) else (none))) else (none)) else (none)) else (if (x0.length : Int) < (x1.length : Int) then (some (-1)) else (some 0))
def slices_Compare_int.f (k : Nat) (l0 : List Int) (l1 : List Int) : Option (Int) := slices_Compare_int.l0 k l0 l1 l0 (l0.length : Int) 0
def impl_wayOrder.f (k : Nat) (l0 : List Int) (l1 : List Int) : Option (Int) := (cmp_Compare_int.f (l0.length : Int) (l1.length : Int)).bind fun t100 => ((slices_Compare_int.f k l0 l1).bind fun t101 => ((cmp_Or_int.f k (([t100, t101] : List Int))).bind fun t102 => (some t102)))
def slices_SortFunc_Row.f (k : Nat) (l0 : List (List Int)) : Option ((List (List Int))) := if l0.length < 4611686018427387904 ∧ (∀ x ∈ l0, x.length < 4611686018427387904) then some (l0.mergeSort (fun x y => !decide (Osier.wcmp y x < 0))) else none
def impl_Net_all.f (k : Nat) (a0_0 : Int) (l0_1 : List (STie)) (a1 : Int) (a2 : Int) : Option ((List (List Int))) := (impl_Net_ways.f k a0_0 l0_1 ([a1] : List Int) a2 ([] : List (List Int))).bind fun t100 => ((slices_SortFunc_Row.f k t100).bind fun t101 => (some t101))
def impl_TreeRings.l0 : Nat → List (List Int) → List (STie) → Int → Int → Int → List (STie) → Option ((List (List Int)))
  | 0, _, _, _, _, _, _ => none
  | k + 1, x3, x15, x16, x17, x100000, x100001 => if x17 < x16 then (if 0 ≤ x17 then (if x17 < (x15.length : Int) then ((slices_Contains_Tie.f k x100001 ((rd_TTie x15 x17).f0) ((rd_TTie x15 x17).f1)).bind fun t101 => (if t101 = true then (impl_TreeRings.l0 k x3 x15 x16 (wrap64 (x17 + 1)) x100000 x100001) else ((impl_Net_all.f k x100000 x100001 ((rd_TTie x15 x17).f1) ((rd_TTie x15 x17).f0)).bind fun t102 => (if 0 < (t102.length : Int) then (if x3.length < 5864062014805 then (impl_TreeRings.l0 k (x3 ++ [rd_LI t102 0]) x15 x16 (wrap64 (x17 + 1)) x100000 x100001) else (none)) else (none))))) else (none)) else (none)) else (some x3)
def impl_TreeRings.f (k : Nat) (a0_0 : Int) (l0_1 : List (STie)) : Option ((List (List Int))) := (some (([] : List (List Int)) : List (List Int))).bind fun y103 => ((impl_NetOk.f k a0_0 l0_1).bind fun t104 => (if t104 = true then ((impl_Net_tree.f k a0_0 l0_1).bind fun bt105 => (impl_TreeRings.l0 k y103 l0_1 (l0_1.length : Int) 0 bt105.1 bt105.2)) else (some y103)))
def spec_l6Rd_pick.j0 : Nat → Int → Bool → List Int → Int → Option (Int × Int)
  | 0, _, _, _, _ => none
  | k + 1, x1, x24, x100, x101 => if x24 = true then (some (0, x101)) else (if (wrap64 (x101 - 1)) < (x100.length : Int) then (if 0 ≤ (wrap64 (x101 - 1)) then (if x1 = 0 then (none) else (some (Int.tmod (wrap64 (rd x100 (wrap64 (x101 - 1)))) x1, x101))) else (none)) else (if (x100.length : Int) = 0 then (none) else (if 0 ≤ (Int.tmod (wrap64 (x101 - 1)) (x100.length : Int)) then (if (Int.tmod (wrap64 (x101 - 1)) (x100.length : Int)) < (x100.length : Int) then (if 0 ≤ (Int.tmod (wrap64 ((wrap64 ((wrap64 (x101 - 1)) * 7)) + 3)) (x100.length : Int)) then (if (Int.tmod (wrap64 ((wrap64 ((wrap64 (x101 - 1)) * 7)) + 3)) (x100.length : Int)) < (x100.length : Int) then (if x1 = 0 then (none) else (some (Int.tmod (Go.bits .xor .i64 (wrap64 ((wrap64 ((wrap64 ((wrap64 ((wrap64 (rd x100 (Int.tmod (wrap64 (x101 - 1)) (x100.length : Int)))) * 131)) + (wrap64 ((wrap64 (rd x100 (Int.tmod (wrap64 ((wrap64 ((wrap64 (x101 - 1)) * 7)) + 3)) (x100.length : Int)))) * 1117)))) + (wrap64 ((wrap64 (x101 - 1)) * 29)))) + (wrap64 ((wrap64 (Int.tdiv (wrap64 (x101 - 1)) (x100.length : Int))) * 53)))) (wrap64 (Int.tdiv (wrap64 ((wrap64 ((wrap64 ((wrap64 ((wrap64 (rd x100 (Int.tmod (wrap64 (x101 - 1)) (x100.length : Int)))) * 131)) + (wrap64 ((wrap64 (rd x100 (Int.tmod (wrap64 ((wrap64 ((wrap64 (x101 - 1)) * 7)) + 3)) (x100.length : Int)))) * 1117)))) + (wrap64 ((wrap64 (x101 - 1)) * 29)))) + (wrap64 ((wrap64 (Int.tdiv (wrap64 (x101 - 1)) (x100.length : Int))) * 53)))) 64))) x1, x101))) else (none)) else (none)) else (none)) else (none))))
def spec_l6Rd_pick.f (k : Nat) (s0_0 : List Int) (s0_1 : Int) (a1 : Int) : Option (Int × Int) := if a1 < 1 then (spec_l6Rd_pick.j0 k a1 true s0_0 (wrap64 (s0_1 + 1))) else (spec_l6Rd_pick.j0 k a1 ((s0_0.length : Int) == 0) s0_0 (wrap64 (s0_1 + 1)))
def spec_NetHas.f (k : Nat) (a0_0 : Int) (l0_1 : List (STie)) (a1 : Int) (a2 : Int) : Option (Bool) := (spec_NetOk.f k a0_0 l0_1).bind fun t100 => (if t100 = true then ((spec_l1Has.f k a0_0 l0_1 a1 a2).bind fun t101 => (some t101)) else (some false))
mutual
def spec_NetAdd.j0 : Nat → Int → Int → Bool → Int → List (STie) → Option (Int × (List (STie)) × Bool)
  | 0, _, _, _, _, _ => none
  | k + 1, x1, x2, x32, x100000, x100001 => if x32 = true then (some (0, ([] : List (STie)), false)) else ((spec_l1Tie.f x1 x2).bind fun bt101 => (spec_NetAdd.l0 k false 0 x100000 x100001 x100000 ([] : List (STie)) bt101.1 bt101.2))
def spec_NetAdd.l0 : Nat → Bool → Int → Int → List (STie) → Int → List (STie) → Int → Int → Option (Int × (List (STie)) × Bool)
  | 0, _, _, _, _, _, _, _, _ => none
  | k + 1, x10, x11, x100000, x100001, x101000, x101001, x102000, x102001 => if x11 < (x100001.length : Int) then (if x10 = true then (if 0 ≤ x11 then (if x101001.length < 8796093022208 then (spec_NetAdd.l0 k x10 (wrap64 (x11 + 1)) x100000 x100001 x101000 (x101001 ++ [(⟨(rd_TTie x100001 x11).f0, (rd_TTie x100001 x11).f1⟩ : STie)]) x102000 x102001) else (none)) else (none)) else (if 0 ≤ x11 then ((spec_l1Less.f x102000 x102001 ((rd_TTie x100001 x11).f0) ((rd_TTie x100001 x11).f1)).bind fun t103 => (if t103 = true then (if x101001.length < 8796093022208 then ((some (x101001 ++ [(⟨x102000, x102001⟩ : STie)] : List (STie))).bind fun y104 => (if y104.length < 8796093022208 then (spec_NetAdd.l0 k true (wrap64 (x11 + 1)) x100000 x100001 x101000 (y104 ++ [(⟨(rd_TTie x100001 x11).f0, (rd_TTie x100001 x11).f1⟩ : STie)]) x102000 x102001) else (none))) else (none)) else (if x101001.length < 8796093022208 then (spec_NetAdd.l0 k x10 (wrap64 (x11 + 1)) x100000 x100001 x101000 (x101001 ++ [(⟨(rd_TTie x100001 x11).f0, (rd_TTie x100001 x11).f1⟩ : STie)]) x102000 x102001) else (none)))) else (none))) else (if x10 = true then (some (x101000, x101001, true)) else (if x101001.length < 8796093022208 then (some (x101000, (x101001 ++ [(⟨x102000, x102001⟩ : STie)]), true)) else (none)))
end
def spec_NetAdd.f (k : Nat) (a0_0 : Int) (l0_1 : List (STie)) (a1 : Int) (a2 : Int) : Option (Int × (List (STie)) × Bool) := (spec_l1Knot.f k a0_0 l0_1 a1).bind fun t105 => (if t105 = true then ((spec_l1Knot.f k a0_0 l0_1 a2).bind fun t106 => (if t106 = true then (if a1 = a2 then (spec_NetAdd.j0 k a1 a2 true a0_0 l0_1) else ((spec_NetHas.f k a0_0 l0_1 a1 a2).bind fun t107 => (spec_NetAdd.j0 k a1 a2 t107 a0_0 l0_1))) else (spec_NetAdd.j0 k a1 a2 true a0_0 l0_1))) else (spec_NetAdd.j0 k a1 a2 true a0_0 l0_1))
mutual
def spec_l71Net.j2 : Nat → List Int → Int → Int → List (STie) → Option (Int × (List (STie)) × Int)
  | 0, _, _, _, _ => none
  | k + 1, x100, x101, x102000, x102001 => (spec_l6Rd_pick.f k x100 x101 13).bind fun bt103 => (spec_l71Net.l2 k bt103.1 x100 bt103.2 x102000 x102001)
def spec_l71Net.l2 : Nat → Int → List Int → Int → Int → List (STie) → Option (Int × (List (STie)) × Int)
  | 0, _, _, _, _, _ => none
  | k + 1, x6, x100, x101, x102000, x102001 => if x6 > 0 then (spec_l71Net.j4 k x6 (decide (x102000 > 1)) x100 x101 x102000 x102001) else (spec_l71Net.j4 k x6 false x100 x101 x102000 x102001)
def spec_l71Net.j4 : Nat → Int → Bool → List Int → Int → Int → List (STie) → Option (Int × (List (STie)) × Int)
  | 0, _, _, _, _, _, _ => none
  | k + 1, x6, x64, x100, x101, x102000, x102001 => if x64 = true then ((spec_l6Rd_pick.f k x100 x101 x102000).bind fun bt104 => ((spec_l6Rd_pick.f k x100 bt104.2 x102000).bind fun bt105 => ((spec_NetAdd.f k x102000 x102001 bt104.1 bt105.1).bind fun bt106 => (if bt106.2.2 = true then (spec_l71Net.l2 k (wrap64 (x6 - 1)) x100 bt105.2 bt106.1 bt106.2.1) else (spec_l71Net.l2 k (wrap64 (x6 - 1)) x100 bt105.2 x102000 x102001))))) else (some (x102000, x102001, x101))
def spec_l71Net.l0 : Nat → Int → List Int → Int → Int → List (STie) → Option (Int × (List (STie)) × Int)
  | 0, _, _, _, _, _ => none
  | k + 1, x4, x100, x101, x102000, x102001 => if x4 < x102000 then ((spec_l6Rd_pick.f k x100 x101 x4).bind fun bt107 => ((spec_NetAdd.f k x102000 x102001 x4 bt107.1).bind fun bt108 => (spec_l71Net.l0 k (wrap64 (x4 + 1)) x100 bt107.2 bt108.1 bt108.2.1))) else (spec_l71Net.j2 k x100 x101 x102000 x102001)
def spec_l71Net.l1 : Nat → Int → List Int → Int → Int → List (STie) → Option (Int × (List (STie)) × Int)
  | 0, _, _, _, _, _ => none
  | k + 1, x5, x100, x101, x102000, x102001 => if x5 < x102000 then (if x102000 > 2 then (if x102000 = 0 then (none) else ((spec_NetAdd.f k x102000 x102001 x5 (Int.tmod (wrap64 (x5 + 1)) x102000)).bind fun bt109 => (spec_l71Net.l1 k (wrap64 (x5 + 1)) x100 x101 bt109.1 bt109.2.1))) else (spec_l71Net.j2 k x100 x101 x102000 x102001)) else (spec_l71Net.j2 k x100 x101 x102000 x102001)
end
def spec_l71Net.f (k : Nat) (s0_0 : List Int) (s0_1 : Int) : Option (Int × (List (STie)) × Int) := (spec_l6Rd_pick.f k s0_0 s0_1 8).bind fun bt110 => ((spec_l6Rd_pick.f k s0_0 bt110.2 6).bind fun bt102 => (if bt102.1 = 0 then (spec_l71Net.l0 k 1 s0_0 bt102.2 (wrap64 (1 + bt110.1)) ([] : List (STie))) else (if bt102.1 = 1 then (spec_l71Net.l1 k 0 s0_0 bt102.2 (wrap64 (1 + bt110.1)) ([] : List (STie))) else (spec_l71Net.j2 k s0_0 bt102.2 (wrap64 (1 + bt110.1)) ([] : List (STie))))))
def spec_l1Copy.f (a0_0 : Int) (l0_1 : List (STie)) : Option (Int × (List (STie))) := (some (([] : List (STie)) : List (STie))).bind fun y100 => (if y100.length + l0_1.length < 8796093022208 then (some (a0_0, (y100 ++ l0_1))) else (none))
def spec_l71Spoil.f (k : Nat) (s0_0 : List Int) (s0_1 : Int) (a1_0 : Int) (l1_1 : List (STie)) : Option (Int × (List (STie)) × Int) := (spec_l1Copy.f a1_0 l1_1).bind fun bt100 => ((spec_l6Rd_pick.f k s0_0 s0_1 6).bind fun bt101 => (if bt101.1 = 0 then ((some (([(-1), 0, 1, 8, 9] : List Int) : List Int)).bind fun y102 => ((spec_l6Rd_pick.f k s0_0 bt101.2 5).bind fun bt103 => (if 0 ≤ bt103.1 then (if bt103.1 < (y102.length : Int) then (some (rd y102 bt103.1, bt100.2, bt103.2)) else (none)) else (none)))) else (if bt101.1 = 1 then ((spec_l6Rd_pick.f k s0_0 bt101.2 3).bind fun bt104 => ((spec_l6Rd_pick.f k s0_0 bt104.2 3).bind fun bt105 => (if bt100.2.length < 8796093022208 then (some (bt100.1, (bt100.2 ++ [(⟨bt104.1, bt105.1⟩ : STie)]), bt105.2)) else (none)))) else (if bt101.1 = 2 then (if bt100.2.length < 8796093022208 then (some (bt100.1, (bt100.2 ++ [(⟨wrap64 (bt100.1 - 1), bt100.1⟩ : STie)]), bt101.2)) else (none)) else (if bt101.1 = 3 then (if (bt100.2.length : Int) > 0 then ((spec_l6Rd_pick.f k s0_0 bt101.2 (bt100.2.length : Int)).bind fun bt106 => (if 0 ≤ bt106.1 then (if bt106.1 < (bt100.2.length : Int) then (some (bt100.1, (bt100.2.set (bt106.1 : Int).toNat (⟨(rd_TTie bt100.2 bt106.1).f1, (rd_TTie bt100.2 bt106.1).f0⟩ : STie)), bt106.2)) else (none)) else (none))) else (some (bt100.1, bt100.2, bt101.2))) else (if bt101.1 = 4 then (if (bt100.2.length : Int) > 1 then (if 0 < (bt100.2.length : Int) then (if bt100.2.length < 8796093022208 then (some (bt100.1, (bt100.2 ++ [(⟨(rd_TTie bt100.2 0).f0, (rd_TTie bt100.2 0).f1⟩ : STie)]), bt101.2)) else (none)) else (none)) else (some (bt100.1, bt100.2, bt101.2))) else ((some (([(⟨(-1), 0⟩ : STie)] : List (STie)) : List (STie))).bind fun y107 => (if y107.length + bt100.2.length < 8796093022208 then (some (bt100.1, (y107 ++ bt100.2), bt101.2)) else (none)))))))))
def spec_l71Any.f (k : Nat) (s0_0 : List Int) (s0_1 : Int) : Option (Int × (List (STie)) × Int) := (spec_l71Net.f k s0_0 s0_1).bind fun bt100 => ((spec_l6Rd_pick.f k s0_0 bt100.2.2 12).bind fun bt101 => (if bt101.1 = 0 then ((spec_l71Spoil.f k s0_0 bt101.2 bt100.1 bt100.2.1).bind fun bt102 => (some (bt102.1, bt102.2.1, bt102.2.2))) else (some (bt100.1, bt100.2.1, bt101.2))))
def spec_l6Open.f (l0 : List Int) : Option (List Int × Int) := if (l0.length : Int) > 2000 then (if 2000 ≤ (l0.length : Int) then (some (l0.take 2000, 0)) else (none)) else (some (l0, 0))
def spec_DrawTreeRings.f (k : Nat) (l0 : List Int) : Option (Int × (List (STie))) := (spec_l6Open.f l0).bind fun bt100 => ((spec_l71Any.f k bt100.1 bt100.2).bind fun bt101 => (some (bt101.1, bt101.2.1)))
def laws_loInts.l0 : Nat → List Int → List Int → Int → Option (Bool)
  | 0, _, _, _ => none
  | k + 1, x0, x1, x5 => if x5 < (x0.length : Int) then (if 0 ≤ x5 then (if x5 < (x1.length : Int) then (if (rd x0 x5) = (rd x1 x5) then (laws_loInts.l0 k x0 x1 (wrap64 (x5 + 1))) else (none)) else (none)) else (none)) else (some true)
def laws_loInts.f (k : Nat) (l0 : List Int) (l1 : List Int) : Option (Bool) := if (l0.length : Int) = (l1.length : Int) then (laws_loInts.l0 k l0 l1 0) else (none)
def laws_loRows.l0 : Nat → List (List Int) → List (List Int) → Int → Option (Bool)
  | 0, _, _, _ => none
  | k + 1, x0, x1, x5 => if x5 < (x0.length : Int) then (if 0 ≤ x5 then (if x5 < (x1.length : Int) then ((laws_loInts.f k (rd_LI x0 x5) (rd_LI x1 x5)).bind fun t100 => (if t100 = true then (laws_loRows.l0 k x0 x1 (wrap64 (x5 + 1))) else (none))) else (none)) else (none)) else (some true)
def laws_loRows.f (k : Nat) (l0 : List (List Int)) (l1 : List (List Int)) : Option (Bool) := if (l0.length : Int) = (l1.length : Int) then (laws_loRows.l0 k l0 l1 0) else (none)
def impl_Net_knot.f (a0_0 : Int) (l0_1 : List (STie)) (a1 : Int) : Option (Bool) := if a1 ≥ 0 then (some (decide (a1 < a0_0))) else (some false)
def impl_Net_walk.l0 : Nat → List Int → List Int → Int → Int → Int → List (STie) → Option (Bool)
  | 0, _, _, _, _, _, _ => none
  | k + 1, x1, x7, x8, x9, x100000, x100001 => if x9 < x8 then (if 0 ≤ x9 then (if x9 < (x7.length : Int) then ((impl_Net_knot.f x100000 x100001 (rd x7 x9)).bind fun t101 => (if t101 = true then (if x9 > 0 then (if 0 ≤ (wrap64 (x9 - 1)) then (if (wrap64 (x9 - 1)) < (x1.length : Int) then ((impl_Net_has.f k x100000 x100001 (rd x1 (wrap64 (x9 - 1))) (rd x7 x9)).bind fun t102 => (if t102 = true then (impl_Net_walk.l0 k x1 x7 x8 (wrap64 (x9 + 1)) x100000 x100001) else (some false))) else (none)) else (none)) else (impl_Net_walk.l0 k x1 x7 x8 (wrap64 (x9 + 1)) x100000 x100001)) else (some false))) else (none)) else (none)) else (some true)
def impl_Net_walk.f (k : Nat) (a0_0 : Int) (l0_1 : List (STie)) (l1 : List Int) : Option (Bool) := impl_Net_walk.l0 k l1 l1 (l1.length : Int) 0 a0_0 l0_1
def impl_different.l0 : Nat → List Int → List Int → Int → Int → Option (Bool)
  | 0, _, _, _, _ => none
  | k + 1, x0, x5, x6, x7 => if x7 < x6 then (if 0 ≤ x7 then (if x7 < (x5.length : Int) then (if x7 ≤ (x0.length : Int) then ((slices_Contains_int.f k (x0.take (x7 : Int).toNat) (rd x5 x7)).bind fun t100 => (if t100 = true then (some false) else (impl_different.l0 k x0 x5 x6 (wrap64 (x7 + 1))))) else (none)) else (none)) else (none)) else (some true)
def impl_different.f (k : Nat) (l0 : List Int) : Option (Bool) := impl_different.l0 k l0 l0 (l0.length : Int) 0
def impl_WayOk.f (k : Nat) (a0_0 : Int) (l0_1 : List (STie)) (l1 : List Int) : Option (Bool) := (impl_NetOk.f k a0_0 l0_1).bind fun t100 => (if t100 = true then (if (l1.length : Int) > 0 then ((impl_Net_walk.f k a0_0 l0_1 l1).bind fun t101 => (if t101 = true then ((impl_different.f k l1).bind fun t102 => (some t102)) else (some false))) else (some false)) else (some false))
mutual
def laws_FnTreeRings.j0 : Nat → List (List Int) → Bool → Int → List (STie) → Option (Bool)
  | 0, _, _, _, _ => none
  | k + 1, x4, x24, x100000, x100001 => if x24 = true then ((spec_TreeRings.f k x100000 x100001).bind fun t101 => ((laws_loRows.f k x4 t101).bind fun t102 => (some t102))) else ((impl_TreeOf.f k x100000 x100001).bind fun t103 => (laws_FnTreeRings.l0 k x4 t103 0 x100000 x100001))
def laws_FnTreeRings.l0 : Nat → List (List Int) → List (STie) → Int → Int → List (STie) → Option (Bool)
  | 0, _, _, _, _, _ => none
  | k + 1, x4, x5, x6, x100000, x100001 => if x6 < (x4.length : Int) then (if 0 ≤ x6 then (if 0 < ((rd_LI x4 x6).length : Int) then (if 0 ≤ (wrap64 (((rd_LI x4 x6).length : Int) - 1)) then (if (wrap64 (((rd_LI x4 x6).length : Int) - 1)) < ((rd_LI x4 x6).length : Int) then ((laws_loTie.f (rd (rd_LI x4 x6) 0) (rd (rd_LI x4 x6) (wrap64 (((rd_LI x4 x6).length : Int) - 1)))).bind fun bt104 => ((impl_WayOk.f k x100000 x100001 (rd_LI x4 x6)).bind fun t105 => (if t105 = true then (if ((rd_LI x4 x6).length : Int) < 3 then (none) else ((laws_loHas.f k x100001 bt104.1 bt104.2).bind fun t106 => (if t106 = true then ((laws_loHas.f k x5 bt104.1 bt104.2).bind fun t107 => (if t107 = true then (none) else (laws_FnTreeRings.l0 k x4 x5 (wrap64 (x6 + 1)) x100000 x100001))) else (none)))) else (none)))) else (none)) else (none)) else (none)) else (none)) else (some ((x4.length : Int) == (wrap64 ((x100001.length : Int) - (x5.length : Int)))))
end
def laws_FnTreeRings.f (k : Nat) (l0 : List Int) : Option (Bool) := if (l0.length : Int) > 1048576 then (some true) else ((spec_DrawTreeRings.f k l0).bind fun bt108 => ((impl_TreeRings.f k bt108.1 bt108.2).bind fun t100 => ((spec_TreeRings.f k bt108.1 bt108.2).bind fun t109 => ((laws_loRows.f k t100 t109).bind fun t110 => (if t110 = true then ((spec_NetOk.f k bt108.1 bt108.2).bind fun t111 => (laws_FnTreeRings.j0 k t100 (!t111) bt108.1 bt108.2)) else (laws_FnTreeRings.j0 k t100 true bt108.1 bt108.2))))))
/-- THE ONE PURE STATEMENT of laws_FnTreeRings: yours. -/
def laws_FnTreeRings.Pure : Prop := ∀ (l0 : List Int), l0.length ≤ maxLen → l0.length * 1 ≤ 140737488351232 → (∀ x ∈ l0, (Lit.int .u8 x).wf = true) → ∃ k, laws_FnTreeRings.f k l0 = some true
def impl_NetHas.f (k : Nat) (a0_0 : Int) (l0_1 : List (STie)) (a1 : Int) (a2 : Int) : Option (Bool) := (impl_NetOk.f k a0_0 l0_1).bind fun t100 => (if t100 = true then ((impl_Net_has.f k a0_0 l0_1 a1 a2).bind fun t101 => (some t101)) else (some false))
def impl_Net_less.l0 : Nat → List (STie) → List (STie) → Int → Int → Int → List (STie) → Option (Int × (List (STie)))
  | 0, _, _, _, _, _, _ => none
  | k + 1, x1, x13, x14, x15, x100000, x100001 => if x15 < x14 then (if 0 ≤ x15 then (if x15 < (x13.length : Int) then ((slices_Contains_Tie.f k x1 ((rd_TTie x13 x15).f0) ((rd_TTie x13 x15).f1)).bind fun t101 => (if t101 = true then (impl_Net_less.l0 k x1 x13 x14 (wrap64 (x15 + 1)) x100000 x100001) else (if x100001.length < 8796093022208 then (impl_Net_less.l0 k x1 x13 x14 (wrap64 (x15 + 1)) x100000 (x100001 ++ [(⟨(rd_TTie x13 x15).f0, (rd_TTie x13 x15).f1⟩ : STie)])) else (none)))) else (none)) else (none)) else (some (x100000, x100001))
def impl_Net_less.f (k : Nat) (a0_0 : Int) (l0_1 : List (STie)) (l1 : List (STie)) : Option (Int × (List (STie))) := impl_Net_less.l0 k l1 l0_1 (l0_1.length : Int) 0 a0_0 (([] : List (STie)))
def impl_NetCut.f (k : Nat) (a0_0 : Int) (l0_1 : List (STie)) (a1 : Int) (a2 : Int) : Option (Int × (List (STie)) × Bool) := (impl_NetHas.f k a0_0 l0_1 a1 a2).bind fun t100 => (if t100 = true then ((impl_tie.f a1 a2).bind fun bt101 => ((impl_Net_less.f k a0_0 l0_1 (([(⟨bt101.1, bt101.2⟩ : STie)] : List (STie)))).bind fun bt102 => (some (bt102.1, bt102.2, true)))) else (some (0, ([] : List (STie)), false)))
def impl_Net_own.l0 : Nat → List (STie) → List (STie) → Int → Int → Int → List (STie) → Option (Bool)
  | 0, _, _, _, _, _, _ => none
  | k + 1, x1, x7, x8, x9, x100000, x100001 => if x9 < x8 then (if 0 ≤ x9 then (if x9 < (x7.length : Int) then ((slices_Contains_Tie.f k x100001 ((rd_TTie x7 x9).f0) ((rd_TTie x7 x9).f1)).bind fun t101 => (if t101 = true then (impl_Net_own.l0 k x1 x7 x8 (wrap64 (x9 + 1)) x100000 x100001) else (some false))) else (none)) else (none)) else ((impl_ascending.f k x1).bind fun t102 => (some t102))
def impl_Net_own.f (k : Nat) (a0_0 : Int) (l0_1 : List (STie)) (l1 : List (STie)) : Option (Bool) := impl_Net_own.l0 k l1 l1 (l1.length : Int) 0 a0_0 l0_1
def impl_Net_count.l0 : Nat → Int → List Int → Int → Int → Option (Int)
  | 0, _, _, _, _ => none
  | k + 1, x3, x7, x8, x9 => if x9 < x8 then (if 0 ≤ x9 then (if x9 < (x7.length : Int) then (if x9 = (rd x7 x9) then (impl_Net_count.l0 k (wrap64 (x3 + 1)) x7 x8 (wrap64 (x9 + 1))) else (impl_Net_count.l0 k x3 x7 x8 (wrap64 (x9 + 1)))) else (none)) else (none)) else (some x3)
def impl_Net_count.f (k : Nat) (a0_0 : Int) (l0_1 : List (STie)) : Option (Int) := (impl_Net_parts.f k a0_0 l0_1).bind fun t100 => (impl_Net_count.l0 k 0 t100 (t100.length : Int) 0)
def impl_TreeOk.j0 : Nat → List (STie) → Bool → Int → List (STie) → Option (Bool)
  | 0, _, _, _, _ => none
  | k + 1, x1, x14, x100000, x100001 => if x14 = true then (some false) else ((impl_Net_count.f k x100000 x100001).bind fun t101 => ((impl_Net_count.f k x100000 x1).bind fun t102 => (if t102 = t101 then (some ((x1.length : Int) == (wrap64 (x100000 - t101)))) else (some false))))
def impl_TreeOk.f (k : Nat) (a0_0 : Int) (l0_1 : List (STie)) (l1 : List (STie)) : Option (Bool) := (impl_NetOk.f k a0_0 l0_1).bind fun t100 => (if t100 = true then ((impl_Net_own.f k a0_0 l0_1 l1).bind fun t103 => (impl_TreeOk.j0 k l1 (!t103) a0_0 l0_1)) else (impl_TreeOk.j0 k l1 true a0_0 l0_1))
def slices_SortFunc_Tie.f (k : Nat) (l0 : List (STie)) : Option (List (STie)) := if l0.length < 4611686018427387904 then some (l0.mergeSort (fun x y => !decide (y.f0 < x.f0 ∨ y.f0 = x.f0 ∧ y.f1 < x.f1))) else none
def impl_NetAdd.j0 : Nat → Int → Int → Bool → Int → List (STie) → Option (Int × (List (STie)) × Bool)
  | 0, _, _, _, _, _ => none
  | k + 1, x1, x2, x34, x100000, x100001 => if x34 = true then (some (0, ([] : List (STie)), false)) else ((some (([] : List (STie)) : List (STie))).bind fun y101 => (if y101.length + x100001.length < 8796093022208 then ((some (y101 ++ x100001 : List (STie))).bind fun y102 => ((impl_tie.f x1 x2).bind fun bt103 => ((some (([(⟨bt103.1, bt103.2⟩ : STie)] : List (STie)) : List (STie))).bind fun y104 => (if y102.length + y104.length < 8796093022208 then ((slices_SortFunc_Tie.f k (y102 ++ y104)).bind fun t105 => (some (x100000, t105, true))) else (none))))) else (none)))
def impl_NetAdd.f (k : Nat) (a0_0 : Int) (l0_1 : List (STie)) (a1 : Int) (a2 : Int) : Option (Int × (List (STie)) × Bool) := (impl_NetOk.f k a0_0 l0_1).bind fun t106 => (if t106 = true then ((impl_Net_knot.f a0_0 l0_1 a1).bind fun t107 => (if t107 = true then ((impl_Net_knot.f a0_0 l0_1 a2).bind fun t108 => (if t108 = true then (if a1 = a2 then (impl_NetAdd.j0 k a1 a2 true a0_0 l0_1) else ((impl_Net_has.f k a0_0 l0_1 a1 a2).bind fun t109 => (impl_NetAdd.j0 k a1 a2 t109 a0_0 l0_1))) else (impl_NetAdd.j0 k a1 a2 true a0_0 l0_1))) else (impl_NetAdd.j0 k a1 a2 true a0_0 l0_1))) else (impl_NetAdd.j0 k a1 a2 true a0_0 l0_1))
mutual
def laws_FnTreeSwap.j0 : Nat → List Int → List Int → Bool → Option (Bool)
  | 0, _, _, _ => none
  | k + 1, x0, x1, x21 => if x21 = true then (some true) else ((spec_DrawTreeRings.f k x0).bind fun bt100 => ((impl_TreeRings.f k bt100.1 bt100.2).bind fun t101 => ((spec_TreeRings.f k bt100.1 bt100.2).bind fun t102 => ((laws_loRows.f k t101 t102).bind fun t103 => (if t103 = true then (laws_FnTreeSwap.j1 k x1 t101 ((t101.length : Int) == 0) bt100.1 bt100.2) else (laws_FnTreeSwap.j1 k x1 t101 true bt100.1 bt100.2))))))
def laws_FnTreeSwap.j1 : Nat → List Int → List (List Int) → Bool → Int → List (STie) → Option (Bool)
  | 0, _, _, _, _, _ => none
  | k + 1, x1, x6, x35, x101000, x101001 => if x35 = true then ((spec_TreeRings.f k x101000 x101001).bind fun t104 => ((laws_loRows.f k x6 t104).bind fun t105 => (some t105))) else (if (x6.length : Int) = 0 then (none) else (if 0 ≤ ((x1.length : Int) % (x6.length : Int)) then (if ((x1.length : Int) % (x6.length : Int)) < (x6.length : Int) then ((impl_TreeOf.f k x101000 x101001).bind fun t106 => (if (wrap64 (((rd_LI x6 ((x1.length : Int) % (x6.length : Int))).length : Int) - 1)) = 0 then (none) else (if 0 ≤ (Int.tmod (wrap64 ((x1.length : Int) / (x6.length : Int))) (wrap64 (((rd_LI x6 ((x1.length : Int) % (x6.length : Int))).length : Int) - 1))) then (if (Int.tmod (wrap64 ((x1.length : Int) / (x6.length : Int))) (wrap64 (((rd_LI x6 ((x1.length : Int) % (x6.length : Int))).length : Int) - 1))) < ((rd_LI x6 ((x1.length : Int) % (x6.length : Int))).length : Int) then (if 0 ≤ (wrap64 ((Int.tmod (wrap64 ((x1.length : Int) / (x6.length : Int))) (wrap64 (((rd_LI x6 ((x1.length : Int) % (x6.length : Int))).length : Int) - 1))) + 1)) then (if (wrap64 ((Int.tmod (wrap64 ((x1.length : Int) / (x6.length : Int))) (wrap64 (((rd_LI x6 ((x1.length : Int) % (x6.length : Int))).length : Int) - 1))) + 1)) < ((rd_LI x6 ((x1.length : Int) % (x6.length : Int))).length : Int) then ((impl_NetCut.f k x101000 t106 (rd (rd_LI x6 ((x1.length : Int) % (x6.length : Int))) (Int.tmod (wrap64 ((x1.length : Int) / (x6.length : Int))) (wrap64 (((rd_LI x6 ((x1.length : Int) % (x6.length : Int))).length : Int) - 1)))) (rd (rd_LI x6 ((x1.length : Int) % (x6.length : Int))) (wrap64 ((Int.tmod (wrap64 ((x1.length : Int) / (x6.length : Int))) (wrap64 (((rd_LI x6 ((x1.length : Int) % (x6.length : Int))).length : Int) - 1))) + 1)))).bind fun bt107 => (if 0 < ((rd_LI x6 ((x1.length : Int) % (x6.length : Int))).length : Int) then (if 0 ≤ (wrap64 (((rd_LI x6 ((x1.length : Int) % (x6.length : Int))).length : Int) - 1)) then (if (wrap64 (((rd_LI x6 ((x1.length : Int) % (x6.length : Int))).length : Int) - 1)) < ((rd_LI x6 ((x1.length : Int) % (x6.length : Int))).length : Int) then ((impl_NetAdd.f k bt107.1 bt107.2.1 (rd (rd_LI x6 ((x1.length : Int) % (x6.length : Int))) 0) (rd (rd_LI x6 ((x1.length : Int) % (x6.length : Int))) (wrap64 (((rd_LI x6 ((x1.length : Int) % (x6.length : Int))).length : Int) - 1)))).bind fun bt108 => (if bt107.2.2 = true then (if bt108.2.2 = true then ((impl_TreeOk.f k x101000 x101001 bt108.2.1).bind fun t109 => (some t109)) else (none)) else (none))) else (none)) else (none)) else (none))) else (none)) else (none)) else (none)) else (none)))) else (none)) else (none)))
end
def laws_FnTreeSwap.f (k : Nat) (l0 : List Int) (l1 : List Int) : Option (Bool) := if (l0.length : Int) > 1048576 then (laws_FnTreeSwap.j0 k l0 l1 true) else (laws_FnTreeSwap.j0 k l0 l1 (decide ((l1.length : Int) > 1048576)))
/-- THE ONE PURE STATEMENT of laws_FnTreeSwap: yours. -/
def laws_FnTreeSwap.Pure : Prop := ∀ (l0 : List Int) (l1 : List Int), l0.length ≤ maxLen → l0.length * 1 ≤ 140737488351232 → (∀ x ∈ l0, (Lit.int .u8 x).wf = true) → l1.length ≤ maxLen → l1.length * 1 ≤ 140737488351232 → (∀ x ∈ l1, (Lit.int .u8 x).wf = true) → ∃ k, laws_FnTreeSwap.f k l0 l1 = some true
def laws_szTieS.f (l0 : List (SLTie)) (a1 : Int) : Option (Int) := if (wrap64 (a1 - (l0.length : Int))) < 0 then (some (-1)) else (some (wrap64 (a1 - (l0.length : Int))))
def laws_szNet.f (a0_0 : Int) (l0_1 : List (SLTie)) (a1 : Int) : Option (Int) := (laws_szTieS.f l0_1 a1).bind fun t100 => (if t100 < 0 then (some (-1)) else (some t100))
def laws_toTie.f (a0_0 : Int) (a0_1 : Int) : Option (Int × Int) := some (a0_0, a0_1)
def laws_toTieS.l0 : Nat → List (SLTie) → List (STie) → Int → Option ((List (STie)))
  | 0, _, _, _ => none
  | k + 1, x0, x3, x4 => if x4 < (x0.length : Int) then (if 0 ≤ x4 then ((laws_toTie.f ((rd_TLTie x0 x4).f0) ((rd_TLTie x0 x4).f1)).bind fun bt100 => (if x4 < (x3.length : Int) then (laws_toTieS.l0 k x0 (x3.set (x4 : Int).toNat (⟨bt100.1, bt100.2⟩ : STie)) (wrap64 (x4 + 1))) else (none))) else (none)) else (some x3)
def laws_toTieS.f (k : Nat) (l0 : List (SLTie)) : Option ((List (STie))) := if 0 ≤ (l0.length : Int) then (if ((l0.length : Int) : Int).toNat ≤ 17592186044416 then (laws_toTieS.l0 k l0 (List.replicate ((l0.length : Int) : Int).toNat zTie) 0) else (none)) else (none)
def laws_toNet.f (k : Nat) (a0_0 : Int) (l0_1 : List (SLTie)) : Option (Int × (List (STie))) := (laws_toTieS.f k l0_1).bind fun t100 => (some (a0_0, t100))
def laws_eqTie.f (a0_0 : Int) (a0_1 : Int) (a1_0 : Int) (a1_1 : Int) : Option (Bool) := if a0_0 = a1_0 then (if a0_1 = a1_1 then (some true) else (some false)) else (some false)
def laws_eqTieS.l0 : Nat → List (STie) → List (STie) → Int → Option (Bool)
  | 0, _, _, _ => none
  | k + 1, x0, x1, x5 => if x5 < (x0.length : Int) then (if 0 ≤ x5 then (if x5 < (x1.length : Int) then ((laws_eqTie.f ((rd_TTie x0 x5).f0) ((rd_TTie x0 x5).f1) ((rd_TTie x1 x5).f0) ((rd_TTie x1 x5).f1)).bind fun t100 => (if t100 = true then (laws_eqTieS.l0 k x0 x1 (wrap64 (x5 + 1))) else (some false))) else (none)) else (none)) else (some true)
def laws_eqTieS.f (k : Nat) (l0 : List (STie)) (l1 : List (STie)) : Option (Bool) := if (l0.length : Int) = (l1.length : Int) then (laws_eqTieS.l0 k l0 l1 0) else (some false)
def laws_eqNet.f (k : Nat) (a0_0 : Int) (l0_1 : List (STie)) (a1_0 : Int) (l1_1 : List (STie)) : Option (Bool) := if a0_0 = a1_0 then ((laws_eqTieS.f k l0_1 l1_1).bind fun t100 => (if t100 = true then (some true) else (some false))) else (some false)
def laws_markTieS.l0 : Nat → List (STie) → Int → Int → Option (Int × (List (STie)))
  | 0, _, _, _ => none
  | k + 1, x0, x1, x5 => if x5 < (x0.length : Int) then (if 0 ≤ x5 then ((some (x0.set (x5 : Int).toNat (⟨x1, (rd_TTie x0 x5).f1⟩ : STie) : List (STie))).bind fun y100 => (laws_markTieS.l0 k (y100.set (x5 : Int).toNat (⟨(rd_TTie y100 x5).f0, wrap64 (x1 + 1)⟩ : STie)) (wrap64 ((wrap64 (x1 + 1)) + 1)) (wrap64 (x5 + 1)))) else (none)) else (some (x1, x0))
def laws_markTieS.f (k : Nat) (l0 : List (STie)) (a1 : Int) : Option (Int × (List (STie))) := laws_markTieS.l0 k l0 a1 0
def laws_markNet.f (k : Nat) (a0_0 : Int) (l0_1 : List (STie)) (a1 : Int) : Option (Int × (List (STie))) := (laws_markTieS.f k l0_1 a1).bind fun bt100 => (some (bt100.1, bt100.2))
def laws_heldTieS.l0 : Nat → List (STie) → Int → Int → Option (Int)
  | 0, _, _, _ => none
  | k + 1, x0, x1, x5 => if x5 < (x0.length : Int) then (if 0 ≤ x5 then (if ((rd_TTie x0 x5).f0) = x1 then (if ((rd_TTie x0 x5).f1) = (wrap64 (x1 + 1)) then (laws_heldTieS.l0 k x0 (wrap64 ((wrap64 (x1 + 1)) + 1)) (wrap64 (x5 + 1))) else (some (-1))) else (some (-1))) else (none)) else (some x1)
def laws_heldTieS.f (k : Nat) (l0 : List (STie)) (a1 : Int) : Option (Int) := laws_heldTieS.l0 k l0 a1 0
def laws_heldNet.f (k : Nat) (a0_0 : Int) (l0_1 : List (STie)) (a1 : Int) : Option (Int) := (laws_heldTieS.f k l0_1 a1).bind fun t100 => (if t100 < 0 then (some (-1)) else (some t100))
mutual
def laws_FnExactNetAdd.j0 : Nat → Int → Int → Bool → Bool → Bool → Int → List (SLTie) → Int → List (STie) → Int → List (STie) → Int → List (STie) → Option (Bool)
  | 0, _, _, _, _, _, _, _, _, _, _, _, _, _ => none
  | k + 1, x1, x2, x9, x12, x48, x100000, x100001, x101000, x101001, x102000, x102001, x103000, x103001 => if x48 = true then (some false) else ((laws_toNet.f k x100000 x100001).bind fun bt104 => ((laws_eqNet.f k x102000 x102001 bt104.1 bt104.2).bind fun t105 => (if t105 = true then ((laws_markNet.f k x102000 x102001 1).bind fun bt106 => (if bt106.1 < 0 then (laws_FnExactNetAdd.j1 k x1 x2 x9 true x100000 x100001 x101000 x101001 x103000 x103001) else ((laws_eqNet.f k x103000 x103001 x101000 x101001).bind fun t107 => (if t107 = true then (laws_FnExactNetAdd.j1 k x1 x2 x9 (x12 != x9) x100000 x100001 x101000 x101001 x103000 x103001) else (laws_FnExactNetAdd.j1 k x1 x2 x9 true x100000 x100001 x101000 x101001 x103000 x103001))))) else (some false))))
def laws_FnExactNetAdd.j1 : Nat → Int → Int → Bool → Bool → Int → List (SLTie) → Int → List (STie) → Int → List (STie) → Option (Bool)
  | 0, _, _, _, _, _, _, _, _, _, _ => none
  | k + 1, x1, x2, x9, x69, x100000, x100001, x101000, x101001, x103000, x103001 => if x69 = true then (some false) else ((laws_markNet.f k x103000 x103001 1).bind fun bt108 => ((laws_heldNet.f k x103000 bt108.2 1).bind fun t109 => (if t109 < 0 then (some false) else (if t109 = bt108.1 then ((laws_toNet.f k x100000 x100001).bind fun bt110 => ((impl_NetAdd.f k bt110.1 bt110.2 x1 x2).bind fun bt111 => ((laws_eqNet.f k bt111.1 bt111.2.1 x101000 x101001).bind fun t112 => (if t112 = true then (laws_FnExactNetAdd.j2 k bt108.1 (bt111.2.2 != x9) x103000 bt108.2) else (laws_FnExactNetAdd.j2 k bt108.1 true x103000 bt108.2))))) else (some false)))))
def laws_FnExactNetAdd.j2 : Nat → Int → Bool → Int → List (STie) → Option (Bool)
  | 0, _, _, _, _ => none
  | k + 1, x14, x97, x103000, x103001 => if x97 = true then (some false) else ((laws_heldNet.f k x103000 x103001 1).bind fun t113 => (if t113 < 0 then (some false) else (if t113 = x14 then (some true) else (some false))))
end
def laws_FnExactNetAdd.f (k : Nat) (a0_0 : Int) (l0_1 : List (SLTie)) (a1 : Int) (a2 : Int) : Option (Bool) := (laws_szNet.f a0_0 l0_1 1048576).bind fun t100 => (if t100 < 0 then (some true) else ((laws_toNet.f k a0_0 l0_1).bind fun bt114 => ((spec_NetAdd.f k bt114.1 bt114.2 a1 a2).bind fun bt115 => ((laws_toNet.f k a0_0 l0_1).bind fun bt101 => ((impl_NetAdd.f k bt101.1 bt101.2 a1 a2).bind fun bt102 => ((laws_eqNet.f k bt102.1 bt102.2.1 bt115.1 bt115.2.1).bind fun t103 => (if t103 = true then (laws_FnExactNetAdd.j0 k a1 a2 bt115.2.2 bt102.2.2 (bt102.2.2 != bt115.2.2) a0_0 l0_1 bt115.1 bt115.2.1 bt101.1 bt101.2 bt102.1 bt102.2.1) else (laws_FnExactNetAdd.j0 k a1 a2 bt115.2.2 bt102.2.2 true a0_0 l0_1 bt115.1 bt115.2.1 bt101.1 bt101.2 bt102.1 bt102.2.1))))))))
end Go.Proofs.Ytgoembpmhlmafaa.P
