/- The machine's texts of FnSerial (definitions, table, contracts). Conditions: none. -/
import Derived.Test.YtkkmhlfpombgfaaProg
import Derived.Test.YtkkmhlfpombgfaaSWFnSerial
import Derived.Test.YtkkmhlfpombgfaaAm38
import Derived.RowKit
import Derived.KernelRfl
set_option linter.unusedVariables false
set_option maxRecDepth 100000
namespace Go.Proofs.Ytkkmhlfpombgfaa.PFnSerial
open Go.RowKit Go.Proofs.YtkkmhlfpombgfaaW.PrintWords Go.Proofs.YtkkmhlfpombgfaaW.PrintLast Go.Proofs.YtkkmhlfpombgfaaW.PrintMore
def errW : Option Int → Value
  | none => .nilIface
  | some c => .iface 0 (.int .i64 c)
structure S37 where
  f0 : Int
  f1 : Int
def z37 : S37 := ⟨(0 : Int), (0 : Int)⟩
def rd_T37 (xs : List S37) (i : Int) : S37 := xs.getD i.toNat z37
structure S95 where
  f0 : Int
  f1 : Int
  f2 : Int
  f3 : Int
def z95 : S95 := ⟨(0 : Int), (0 : Int), (0 : Int), (0 : Int)⟩
def rd_T95 (xs : List S95) (i : Int) : S95 := xs.getD i.toNat z95
structure S39 where
  f0 : Int
  f1 : Int
def z39 : S39 := ⟨(0 : Int), (0 : Int)⟩
def rd_T39 (xs : List S39) (i : Int) : S39 := xs.getD i.toNat z39
structure S82 where
  f0 : Int
  f1 : Int
def z82 : S82 := ⟨(0 : Int), (0 : Int)⟩
def rd_T82 (xs : List S82) (i : Int) : S82 := xs.getD i.toNat z82
def rd_L5 (xs : List (List S95)) (i : Int) : (List S95) := xs.getD i.toNat ([] : List S95)
def spec_l1Num.f (a0 : Int) : Option (Bool) := if a0 ≥ (-1000000) then (some (decide (a0 ≤ 1000000))) else (some false)
def spec_BoxOk.l0 : Nat → List (S37) → Int → Option (Bool)
  | 0, _, _ => none
  | k + 1, x0, x3 => if x3 < (x0.length : Int) then (if 0 ≤ x3 then (if ((rd_T37 x0 x3).f0) < 0 then (some false) else (if ((rd_T37 x0 x3).f0) > 1000000 then (some false) else ((spec_l1Num.f ((rd_T37 x0 x3).f1)).bind fun t104 => (if t104 = true then (spec_BoxOk.l0 k x0 (wrap64 (x3 + 1))) else (some false))))) else (none)) else (some true)
def spec_BoxOk.f (k : Nat) (l0 : List (S37)) : Option (Bool) := if (l0.length : Int) = 4 then (spec_BoxOk.l0 k l0 0) else (some false)
def spec_l1Copy.f (l0 : List (S37)) : Option ((List (S37))) := (some (([] : List (S37)) : List (S37))).bind fun y105 => (if y105.length + l0.length < 8796093022208 then (some (y105 ++ l0)) else (none))
def spec_l2Box.f (a0 : Int) : Option (Bool) := if a0 ≥ 0 then (some (decide (a0 < 4))) else (some false)
def spec_l2Reg.f (a0 : Int) : Option (Bool) := if a0 ≥ 0 then (some (decide (a0 < 4))) else (some false)
def spec_l2Ins.j0 : Nat → Int → Bool → Int → Int → Int → Int → Option (Bool)
  | 0, _, _, _, _, _, _ => none
  | k + 1, x4, x50, x112000, x112001, x112002, x112003 => if x50 = true then ((spec_l2Reg.f x112001).bind fun t118 => (if t118 = true then ((spec_l2Reg.f x112002).bind fun t119 => (if t119 = true then (some (x112003 == 0)) else (some false))) else (some false))) else (if x4 = 6 then ((spec_l2Reg.f x112001).bind fun t120 => (if t120 = true then ((spec_l2Reg.f x112002).bind fun t121 => (if t121 = true then (if x112003 ≥ 1 then (some (decide (x112003 ≤ 10))) else (some false)) else (some false))) else (some false))) else (if x4 = 7 then (if x112001 = 0 then (if x112002 = 0 then (some (x112003 == 0)) else (some false)) else (some false)) else (some false)))
def spec_l2Ins.f (k : Nat) (a0_0 : Int) (a0_1 : Int) (a0_2 : Int) (a0_3 : Int) : Option (Bool) := if a0_0 = 1 then ((spec_l2Reg.f a0_1).bind fun t112 => (if t112 = true then ((spec_l2Box.f a0_2).bind fun t113 => (if t113 = true then (some (a0_3 == 0)) else (some false))) else (some false))) else (if a0_0 = 2 then ((spec_l2Box.f a0_1).bind fun t114 => (if t114 = true then ((spec_l2Reg.f a0_2).bind fun t115 => (if t115 = true then (some (a0_3 == 0)) else (some false))) else (some false))) else (if a0_0 = 3 then ((spec_l2Reg.f a0_1).bind fun t116 => (if t116 = true then (if a0_2 = 0 then ((spec_l1Num.f a0_3).bind fun t117 => (some t117)) else (some false)) else (some false))) else (if a0_0 = 4 then (spec_l2Ins.j0 k a0_0 (a0_0 == 4) a0_0 a0_1 a0_2 a0_3) else (spec_l2Ins.j0 k a0_0 (a0_0 == 5) a0_0 a0_1 a0_2 a0_3))))
def spec_ProgOk.l0 : Nat → List (S95) → Int → Option (Bool)
  | 0, _, _ => none
  | k + 1, x0, x3 => if x3 < (x0.length : Int) then (if 0 ≤ x3 then ((spec_l2Ins.f k ((rd_T95 x0 x3).f0) ((rd_T95 x0 x3).f1) ((rd_T95 x0 x3).f2) ((rd_T95 x0 x3).f3)).bind fun t123 => (if t123 = true then (spec_ProgOk.l0 k x0 (wrap64 (x3 + 1))) else (some false))) else (none)) else (some true)
def spec_ProgOk.f (k : Nat) (l0 : List (S95)) : Option (Bool) := if (l0.length : Int) > 10 then (some false) else (spec_ProgOk.l0 k l0 0)
def spec_l3Saw.l0 : Nat → List (S39) → Int → Int → Option (Bool)
  | 0, _, _, _ => none
  | k + 1, x0, x1, x5 => if x5 < (x0.length : Int) then (if 0 ≤ x5 then (if ((rd_T39 x0 x5).f0) = x1 then (some true) else (spec_l3Saw.l0 k x0 x1 (wrap64 (x5 + 1)))) else (none)) else (some false)
def spec_l3Saw.f (k : Nat) (l0 : List (S39)) (a1 : Int) : Option (Bool) := spec_l3Saw.l0 k l0 a1 0
def spec_l3At.l0 : Nat → List (S82) → Int → Int → Option (Int)
  | 0, _, _, _ => none
  | k + 1, x0, x1, x5 => if x5 < (x0.length : Int) then (if 0 ≤ x5 then (if ((rd_T82 x0 x5).f0) = x1 then (some x5) else (spec_l3At.l0 k x0 x1 (wrap64 (x5 + 1)))) else (none)) else (some (-1))
def spec_l3At.f (k : Nat) (l0 : List (S82)) (a1 : Int) : Option (Int) := spec_l3At.l0 k l0 a1 0
def spec_l3Look.f (k : Nat) (l0 : List (S37)) (l1_0 : List (S39)) (l1_1 : List (S82)) (a1_2 : Int) (a1_3 : Int) (a2 : Int) : Option (Int × (List (S39)) × (List (S82)) × Int × Int) := (spec_l3At.f k l1_1 a2).bind fun t128 => (if t128 ≥ 0 then (if 0 ≤ t128 then (if t128 < (l1_1.length : Int) then (some ((rd_T82 l1_1 t128).f1, l1_0, l1_1, a1_2, a1_3)) else (none)) else (none)) else ((spec_l3Saw.f k l1_0 a2).bind fun t130 => (if t130 = true then (if 0 ≤ a2 then (if a2 < (l0.length : Int) then (some ((rd_T37 l0 a2).f1, l1_0, l1_1, a1_2, a1_3)) else (none)) else (none)) else (if 0 ≤ a2 then (if a2 < (l0.length : Int) then (if l1_0.length < 8796093022208 then (some ((rd_T37 l0 a2).f1, (l1_0 ++ [(⟨a2, (rd_T37 l0 a2).f0⟩ : S39)]), l1_1, a1_2, a1_3)) else (none)) else (none)) else (none)))))
def spec_l3Put.f (k : Nat) (l0_0 : List (S39)) (l0_1 : List (S82)) (a0_2 : Int) (a0_3 : Int) (a1 : Int) (a2 : Int) : Option ((List (S39)) × (List (S82)) × Int × Int) := (spec_l3At.f k l0_1 a1).bind fun t139 => (if t139 ≥ 0 then (if 0 ≤ t139 then (if t139 < (l0_1.length : Int) then (some (l0_0, (l0_1.set (t139 : Int).toNat (⟨(rd_T82 l0_1 t139).f0, a2⟩ : S82)), a0_2, a0_3)) else (none)) else (none)) else (if l0_1.length < 8796093022208 then (some (l0_0, (l0_1 ++ [(⟨a1, a2⟩ : S82)]), a0_2, a0_3)) else (none)))
def spec_l3Step.j0 : Nat → List Int → List (S39) → List (S82) → Int → Int → Int → Int → Int → Int → Option ((List (S39)) × (List (S82)) × Int × Int × List Int)
  | 0, _, _, _, _, _, _, _, _, _ => none
  | k + 1, x2, x145000, x145001, x145002, x145003, x146000, x146001, x146002, x146003 => if x146000 = 2 then (some (x145000, x145001, x145002, x145003, x2)) else (if 0 ≤ x146001 then (if x146001 < (x2.length : Int) then ((spec_l1Num.f (rd x2 x146001)).bind fun t175 => (if t175 = true then (some (x145000, x145001, x145002, x145003, x2)) else (some (x145000, x145001, x145002, 2, x2)))) else (none)) else (none))
def spec_l3Step.f (k : Nat) (l0 : List (S37)) (l1_0 : List (S39)) (l1_1 : List (S82)) (a1_2 : Int) (a1_3 : Int) (l2 : List Int) (a3_0 : Int) (a3_1 : Int) (a3_2 : Int) (a3_3 : Int) : Option ((List (S39)) × (List (S82)) × Int × Int × List Int) := if a3_0 = 1 then ((spec_l3Look.f k l0 l1_0 l1_1 a1_2 a1_3 a3_2).bind fun bt147 => (if 0 ≤ a3_1 then (if a3_1 < (l2.length : Int) then (spec_l3Step.j0 k (l2.set (a3_1 : Int).toNat bt147.1) bt147.2.1 bt147.2.2.1 bt147.2.2.2.1 bt147.2.2.2.2 a3_0 a3_1 a3_2 a3_3) else (none)) else (none))) else (if a3_0 = 2 then (if 0 ≤ a3_2 then (if a3_2 < (l2.length : Int) then ((spec_l3Put.f k l1_0 l1_1 a1_2 a1_3 a3_1 (rd l2 a3_2)).bind fun bt159 => (spec_l3Step.j0 k l2 bt159.1 bt159.2.1 bt159.2.2.1 bt159.2.2.2 a3_0 a3_1 a3_2 a3_3)) else (none)) else (none)) else (if a3_0 = 3 then (if 0 ≤ a3_1 then (if a3_1 < (l2.length : Int) then (spec_l3Step.j0 k (l2.set (a3_1 : Int).toNat a3_3) l1_0 l1_1 a1_2 a1_3 a3_0 a3_1 a3_2 a3_3) else (none)) else (none)) else (if a3_0 = 4 then (if 0 ≤ a3_1 then (if a3_1 < (l2.length : Int) then (if 0 ≤ a3_2 then (if a3_2 < (l2.length : Int) then (spec_l3Step.j0 k (l2.set (a3_1 : Int).toNat (wrap64 ((rd l2 a3_1) + (rd l2 a3_2)))) l1_0 l1_1 a1_2 a1_3 a3_0 a3_1 a3_2 a3_3) else (none)) else (none)) else (none)) else (none)) else (if a3_0 = 5 then (if 0 ≤ a3_1 then (if a3_1 < (l2.length : Int) then (if 0 ≤ a3_2 then (if a3_2 < (l2.length : Int) then (spec_l3Step.j0 k (l2.set (a3_1 : Int).toNat (wrap64 ((rd l2 a3_1) - (rd l2 a3_2)))) l1_0 l1_1 a1_2 a1_3 a3_0 a3_1 a3_2 a3_3) else (none)) else (none)) else (none)) else (none)) else (if a3_0 = 7 then (spec_l3Step.j0 k l2 l1_0 l1_1 a1_2 1 a3_0 a3_1 a3_2 a3_3) else (spec_l3Step.j0 k l2 l1_0 l1_1 a1_2 a1_3 a3_0 a3_1 a3_2 a3_3))))))
mutual
def spec_ExecRun.j0 : Nat → List (S37) → List (S95) → Bool → Option ((List (S39)) × (List (S82)) × Int × Int)
  | 0, _, _, _ => none
  | k + 1, x0, x1, x16 => if x16 = true then (some (([] : List (S39)), ([] : List (S82)), 0, 3)) else (if 4 ≤ 35184372088832 then (spec_ExecRun.l0 k x0 x1 (List.replicate 4 0) 0 ([] : List (S39)) ([] : List (S82)) 0 0) else (none))
def spec_ExecRun.l0 : Nat → List (S37) → List (S95) → List Int → Int → List (S39) → List (S82) → Int → Int → Option ((List (S39)) × (List (S82)) × Int × Int)
  | 0, _, _, _, _, _, _, _, _ => none
  | k + 1, x0, x1, x6, x7, x180000, x180001, x180002, x180003 => if x7 < (x1.length : Int) then (spec_ExecRun.j2 k x0 x1 x6 x7 (x180003 == 0) x180000 x180001 x180002 x180003) else (spec_ExecRun.j2 k x0 x1 x6 x7 false x180000 x180001 x180002 x180003)
def spec_ExecRun.j2 : Nat → List (S37) → List (S95) → List Int → Int → Bool → List (S39) → List (S82) → Int → Int → Option ((List (S39)) × (List (S82)) × Int × Int)
  | 0, _, _, _, _, _, _, _, _, _ => none
  | k + 1, x0, x1, x6, x7, x28, x180000, x180001, x180002, x180003 => if x28 = true then (if 0 ≤ x7 then (if x7 < (x1.length : Int) then (if ((rd_T95 x1 x7).f0) = 6 then (if 0 ≤ ((rd_T95 x1 x7).f1) then (if ((rd_T95 x1 x7).f1) < (x6.length : Int) then (if 0 ≤ ((rd_T95 x1 x7).f2) then (if ((rd_T95 x1 x7).f2) < (x6.length : Int) then (if (rd x6 ((rd_T95 x1 x7).f1)) < (rd x6 ((rd_T95 x1 x7).f2)) then (spec_ExecRun.l0 k x0 x1 x6 (wrap64 ((wrap64 (x7 + ((rd_T95 x1 x7).f3))) + 1)) x180000 x180001 x180002 x180003) else (spec_ExecRun.l0 k x0 x1 x6 (wrap64 (x7 + 1)) x180000 x180001 x180002 x180003)) else (none)) else (none)) else (none)) else (none)) else ((spec_l3Step.f k x0 x180000 x180001 x180002 x180003 x6 ((rd_T95 x1 x7).f0) ((rd_T95 x1 x7).f1) ((rd_T95 x1 x7).f2) ((rd_T95 x1 x7).f3)).bind fun bt188 => (spec_ExecRun.l0 k x0 x1 bt188.2.2.2.2 (wrap64 (x7 + 1)) bt188.1 bt188.2.1 bt188.2.2.1 bt188.2.2.2.1))) else (none)) else (none)) else (if x180003 = 0 then (if 0 < (x6.length : Int) then (some (x180000, x180001, rd x6 0, x180003)) else (none)) else (some (x180000, ([] : List (S82)), x180002, x180003)))
end
def spec_ExecRun.f (k : Nat) (l0 : List (S37)) (l1 : List (S95)) : Option ((List (S39)) × (List (S82)) × Int × Int) := (spec_BoxOk.f k l0).bind fun t177 => (if t177 = true then ((spec_ProgOk.f k l1).bind fun t178 => (spec_ExecRun.j0 k l0 l1 (!t178))) else (spec_ExecRun.j0 k l0 l1 true))
def spec_l1Min.f (a0 : Int) (a1 : Int) : Option (Int) := if a0 < a1 then (some a0) else (some a1)
def spec_l3Do.l0 : Nat → List (S37) → Int → List (S39) → List (S82) → Int → Int → Option ((List (S37)))
  | 0, _, _, _, _, _, _ => none
  | k + 1, x0, x5, x198000, x198001, x198002, x198003 => if x5 < (x198001.length : Int) then (if 0 ≤ x5 then (if 0 ≤ ((rd_T82 x198001 x5).f0) then (if ((rd_T82 x198001 x5).f0) < (x0.length : Int) then ((spec_l1Min.f 1000000 (wrap64 (((rd_T37 x0 ((rd_T82 x198001 x5).f0)).f0) + 1))).bind fun t200 => (spec_l3Do.l0 k (x0.set (((rd_T82 x198001 x5).f0) : Int).toNat (⟨t200, (rd_T82 x198001 x5).f1⟩ : S37)) (wrap64 (x5 + 1)) x198000 x198001 x198002 x198003)) else (none)) else (none)) else (none)) else (some x0)
def spec_l3Do.f (k : Nat) (l0 : List (S37)) (l1_0 : List (S39)) (l1_1 : List (S82)) (a1_2 : Int) (a1_3 : Int) : Option ((List (S37))) := spec_l3Do.l0 k l0 0 l1_0 l1_1 a1_2 a1_3
def spec_SerialOne.f (k : Nat) (l0 : List (S37)) (l1 : List (S95)) : Option ((List (S37)) × Int × Int) := (spec_ExecRun.f k l0 l1).bind fun bt203 => (if bt203.2.2.2 = 3 then (some ((([] : List (S37))), 0, 3)) else ((spec_l1Copy.f l0).bind fun t215 => ((spec_l3Do.f k t215 bt203.1 bt203.2.1 bt203.2.2.1 bt203.2.2.2).bind fun t218 => (some (t218, bt203.2.2.1, bt203.2.2.2)))))
mutual
def spec_SerialAll.j0 : Nat → List (S37) → List (List (S95)) → Bool → Option ((List (S37)) × List Int)
  | 0, _, _, _ => none
  | k + 1, x0, x1, x19 => if x19 = true then (some ((([] : List (S37))), (([] : List Int)))) else ((spec_l1Copy.f x0).bind fun t231 => (spec_SerialAll.l0 k x1 (([] : List Int)) t231 0))
def spec_SerialAll.l0 : Nat → List (List (S95)) → List Int → List (S37) → Int → Option ((List (S37)) × List Int)
  | 0, _, _, _, _ => none
  | k + 1, x1, x6, x7, x8 => if x8 < (x1.length : Int) then (if 0 ≤ x8 then ((spec_SerialOne.f k x7 (rd_L5 x1 x8)).bind fun bt235 => (if bt235.2.2 = 3 then (some ((([] : List (S37))), (([] : List Int)))) else (if x6.length < 17592186044416 then (spec_SerialAll.l0 k x1 (x6 ++ [bt235.2.1]) bt235.1 (wrap64 (x8 + 1))) else (none)))) else (none)) else (some (x7, x6))
end
def spec_SerialAll.f (k : Nat) (l0 : List (S37)) (l1 : List (List (S95))) : Option ((List (S37)) × List Int) := (spec_BoxOk.f k l0).bind fun t221 => (if t221 = true then (spec_SerialAll.j0 k l0 l1 (decide ((l1.length : Int) > 100))) else (spec_SerialAll.j0 k l0 l1 true))
def impl_in.f (a0 : Int) (a1 : Int) (a2 : Int) : Option (Bool) := if a0 ≥ a1 then (some (decide (a0 ≤ a2))) else (some false)
def impl_BoxOk.l0 : Nat → List (S37) → List (S37) → Int → Int → Option (Bool)
  | 0, _, _, _, _ => none
  | k + 1, x0, x5, x6, x7 => if x7 < x6 then (if 0 ≤ x7 then (if x7 < (x5.length : Int) then ((impl_in.f ((rd_T37 x5 x7).f0) 0 1000000).bind fun t251 => (if t251 = true then ((impl_in.f ((rd_T37 x5 x7).f1) (-1000000) 1000000).bind fun t252 => (if t252 = true then (impl_BoxOk.l0 k x0 x5 x6 (wrap64 (x7 + 1))) else (some false))) else (some false))) else (none)) else (none)) else (some ((x0.length : Int) == 4))
def impl_BoxOk.f (k : Nat) (l0 : List (S37)) : Option (Bool) := impl_BoxOk.l0 k l0 l0 (l0.length : Int) 0
def impl_insOk_1.f (a0 : Int) : Option (Bool) := (impl_in.f a0 0 3).bind fun t253 => (some t253)
def impl_insOk_2.f (a0 : Int) : Option (Bool) := (impl_in.f a0 0 3).bind fun t254 => (some t254)
def impl_insOk.j0 : Nat → Int → Bool → Int → Int → Int → Int → Option (Bool)
  | 0, _, _, _, _, _, _ => none
  | k + 1, x6, x57, x256000, x256001, x256002, x256003 => if x57 = true then ((impl_insOk_1.f x256001).bind fun t262 => (if t262 = true then ((impl_insOk_1.f x256002).bind fun t263 => (if t263 = true then (some (x256003 == 0)) else (some false))) else (some false))) else (if x6 = 6 then ((impl_insOk_1.f x256001).bind fun t264 => (if t264 = true then ((impl_insOk_1.f x256002).bind fun t265 => (if t265 = true then ((impl_in.f x256003 1 10).bind fun t266 => (some t266)) else (some false))) else (some false))) else (if x6 = 7 then (if x256001 = 0 then (if x256002 = 0 then (some (x256003 == 0)) else (some false)) else (some false)) else (some false)))
def impl_insOk.f (k : Nat) (a0_0 : Int) (a0_1 : Int) (a0_2 : Int) (a0_3 : Int) : Option (Bool) := if a0_0 = 1 then ((impl_insOk_1.f a0_1).bind fun t256 => (if t256 = true then ((impl_insOk_2.f a0_2).bind fun t257 => (if t257 = true then (some (a0_3 == 0)) else (some false))) else (some false))) else (if a0_0 = 2 then ((impl_insOk_2.f a0_1).bind fun t258 => (if t258 = true then ((impl_insOk_1.f a0_2).bind fun t259 => (if t259 = true then (some (a0_3 == 0)) else (some false))) else (some false))) else (if a0_0 = 3 then ((impl_insOk_1.f a0_1).bind fun t260 => (if t260 = true then (if a0_2 = 0 then ((impl_in.f a0_3 (-1000000) 1000000).bind fun t261 => (some t261)) else (some false)) else (some false))) else (if a0_0 = 4 then (impl_insOk.j0 k a0_0 (a0_0 == 4) a0_0 a0_1 a0_2 a0_3) else (impl_insOk.j0 k a0_0 (a0_0 == 5) a0_0 a0_1 a0_2 a0_3))))
def impl_ProgOk.l0 : Nat → List (S95) → List (S95) → Int → Int → Option (Bool)
  | 0, _, _, _, _ => none
  | k + 1, x0, x5, x6, x7 => if x7 < x6 then (if 0 ≤ x7 then (if x7 < (x5.length : Int) then ((impl_insOk.f k ((rd_T95 x5 x7).f0) ((rd_T95 x5 x7).f1) ((rd_T95 x5 x7).f2) ((rd_T95 x5 x7).f3)).bind fun t269 => (if t269 = true then (impl_ProgOk.l0 k x0 x5 x6 (wrap64 (x7 + 1))) else (some false))) else (none)) else (none)) else (some (decide ((x0.length : Int) ≤ 10)))
def impl_ProgOk.f (k : Nat) (l0 : List (S95)) : Option (Bool) := impl_ProgOk.l0 k l0 l0 (l0.length : Int) 0
def impl_putAt.l0 : Nat → Int → List (S82) → Int → Int → Option (Int)
  | 0, _, _, _, _ => none
  | k + 1, x1, x8, x9, x10 => if x10 < x9 then (if 0 ≤ x10 then (if x10 < (x8.length : Int) then (if ((rd_T82 x8 x10).f0) = x1 then (some x10) else (impl_putAt.l0 k x1 x8 x9 (wrap64 (x10 + 1)))) else (none)) else (none)) else (some (-1))
def impl_putAt.f (k : Nat) (l0_0 : List (S39)) (l0_1 : List (S82)) (a0_2 : Int) (a0_3 : Int) (a1 : Int) : Option (Int) := impl_putAt.l0 k a1 l0_1 (l0_1.length : Int) 0
def impl_readAt.l0 : Nat → Int → List (S39) → Int → Int → Option (Int)
  | 0, _, _, _, _ => none
  | k + 1, x1, x8, x9, x10 => if x10 < x9 then (if 0 ≤ x10 then (if x10 < (x8.length : Int) then (if ((rd_T39 x8 x10).f0) = x1 then (some x10) else (impl_readAt.l0 k x1 x8 x9 (wrap64 (x10 + 1)))) else (none)) else (none)) else (some (-1))
def impl_readAt.f (k : Nat) (l0_0 : List (S39)) (l0_1 : List (S82)) (a0_2 : Int) (a0_3 : Int) (a1 : Int) : Option (Int) := impl_readAt.l0 k a1 l0_0 (l0_0.length : Int) 0
def impl_copied_impl_Read.f (l0 : List (S39)) : Option (List (S39)) := if l0.length ≤ 17592186044416 then some l0 else none
def impl_copied_impl_Put.f (l0 : List (S82)) : Option (List (S82)) := if l0.length ≤ 17592186044416 then some l0 else none
mutual
def impl_ExecRun.j0 : Nat → List (S37) → List (S95) → Bool → Option ((List (S39)) × (List (S82)) × Int × Int)
 | 0, _, _, _ => none
 | k + 1, x0, x1, x20 => if x20 = true then (some (([] : List (S39)), ([] : List (S82)), 0, 3)) else (impl_ExecRun.l0 k x0 x1 0 0 0 0 0 ([] : List (S39)) ([] : List (S82)) 0 0)
def impl_ExecRun.l0 : Nat → List (S37) → List (S95) → Int → Int → Int → Int → Int → List (S39) → List (S82) → Int → Int → Option ((List (S39)) × (List (S82)) × Int × Int)
 | 0, _, _, _, _, _, _, _, _, _, _, _ => none
 | k + 1, x0, x1, x7, x280000, x280001, x280002, x280003, x281000, x281001, x281002, x281003 => if x7 < (x1.length : Int) then (if 0 ≤ x7 then (if ((rd_T95 x1 x7).f0) = 1 then ((impl_putAt.f k x281000 x281001 x281002 x281003 ((rd_T95 x1 x7).f2)).bind fun t289 => (if t289 ≥ 0 then (if 0 ≤ t289 then (if t289 < (x281001.length : Int) then (if 0 ≤ ((rd_T95 x1 x7).f1) then (if ((rd_T95 x1 x7).f1) < 4 then (impl_ExecRun.j2 k x0 x1 x7 (ixI ((rd_T95 x1 x7).f1) 0 ((rd_T82 x281001 t289).f1) x280000) (ixI ((rd_T95 x1 x7).f1) 1 ((rd_T82 x281001 t289).f1) x280001) (ixI ((rd_T95 x1 x7).f1) 2 ((rd_T82 x281001 t289).f1) x280002) (ixI ((rd_T95 x1 x7).f1) 3 ((rd_T82 x281001 t289).f1) x280003) x281000 x281001 x281002 x281003) else (none)) else (none)) else (none)) else (none)) else ((impl_readAt.f k x281000 x281001 x281002 x281003 ((rd_T95 x1 x7).f2)).bind fun t291 => (if t291 < 0 then (if 0 ≤ ((rd_T95 x1 x7).f2) then (if ((rd_T95 x1 x7).f2) < (x0.length : Int) then (if x281000.length < 8796093022208 then (if 0 ≤ ((rd_T95 x1 x7).f1) then (if ((rd_T95 x1 x7).f1) < 4 then (impl_ExecRun.j2 k x0 x1 x7 (ixI ((rd_T95 x1 x7).f1) 0 ((rd_T37 x0 ((rd_T95 x1 x7).f2)).f1) x280000) (ixI ((rd_T95 x1 x7).f1) 1 ((rd_T37 x0 ((rd_T95 x1 x7).f2)).f1) x280001) (ixI ((rd_T95 x1 x7).f1) 2 ((rd_T37 x0 ((rd_T95 x1 x7).f2)).f1) x280002) (ixI ((rd_T95 x1 x7).f1) 3 ((rd_T37 x0 ((rd_T95 x1 x7).f2)).f1) x280003) (x281000 ++ [(⟨(rd_T95 x1 x7).f2, (rd_T37 x0 ((rd_T95 x1 x7).f2)).f0⟩ : S39)]) x281001 x281002 x281003) else (none)) else (none)) else (none)) else (none)) else (none)) else (if 0 ≤ ((rd_T95 x1 x7).f2) then (if ((rd_T95 x1 x7).f2) < (x0.length : Int) then (if 0 ≤ ((rd_T95 x1 x7).f1) then (if ((rd_T95 x1 x7).f1) < 4 then (impl_ExecRun.j2 k x0 x1 x7 (ixI ((rd_T95 x1 x7).f1) 0 ((rd_T37 x0 ((rd_T95 x1 x7).f2)).f1) x280000) (ixI ((rd_T95 x1 x7).f1) 1 ((rd_T37 x0 ((rd_T95 x1 x7).f2)).f1) x280001) (ixI ((rd_T95 x1 x7).f1) 2 ((rd_T37 x0 ((rd_T95 x1 x7).f2)).f1) x280002) (ixI ((rd_T95 x1 x7).f1) 3 ((rd_T37 x0 ((rd_T95 x1 x7).f2)).f1) x280003) x281000 x281001 x281002 x281003) else (none)) else (none)) else (none)) else (none)))))) else (if ((rd_T95 x1 x7).f0) = 2 then ((impl_putAt.f k x281000 x281001 x281002 x281003 ((rd_T95 x1 x7).f1)).bind fun t298 => (if t298 ≥ 0 then (if 0 ≤ ((rd_T95 x1 x7).f2) then (if ((rd_T95 x1 x7).f2) < 4 then (if 0 ≤ t298 then (if t298 < (x281001.length : Int) then (impl_ExecRun.j2 k x0 x1 x7 x280000 x280001 x280002 x280003 x281000 (x281001.set (t298 : Int).toNat (⟨(rd_T82 x281001 t298).f0, rd [x280000, x280001, x280002, x280003] ((rd_T95 x1 x7).f2)⟩ : S82)) x281002 x281003) else (none)) else (none)) else (none)) else (none)) else (if 0 ≤ ((rd_T95 x1 x7).f2) then (if ((rd_T95 x1 x7).f2) < 4 then (if x281001.length < 8796093022208 then (impl_ExecRun.j2 k x0 x1 x7 x280000 x280001 x280002 x280003 x281000 (x281001 ++ [(⟨(rd_T95 x1 x7).f1, rd [x280000, x280001, x280002, x280003] ((rd_T95 x1 x7).f2)⟩ : S82)]) x281002 x281003) else (none)) else (none)) else (none)))) else (if ((rd_T95 x1 x7).f0) = 3 then (if 0 ≤ ((rd_T95 x1 x7).f1) then (if ((rd_T95 x1 x7).f1) < 4 then (impl_ExecRun.j2 k x0 x1 x7 (ixI ((rd_T95 x1 x7).f1) 0 ((rd_T95 x1 x7).f3) x280000) (ixI ((rd_T95 x1 x7).f1) 1 ((rd_T95 x1 x7).f3) x280001) (ixI ((rd_T95 x1 x7).f1) 2 ((rd_T95 x1 x7).f3) x280002) (ixI ((rd_T95 x1 x7).f1) 3 ((rd_T95 x1 x7).f3) x280003) x281000 x281001 x281002 x281003) else (none)) else (none)) else (if ((rd_T95 x1 x7).f0) = 4 then (if 0 ≤ ((rd_T95 x1 x7).f1) then (if ((rd_T95 x1 x7).f1) < 4 then (if 0 ≤ ((rd_T95 x1 x7).f2) then (if ((rd_T95 x1 x7).f2) < 4 then (impl_ExecRun.j2 k x0 x1 x7 (ixI ((rd_T95 x1 x7).f1) 0 (wrap64 ((rd [x280000, x280001, x280002, x280003] ((rd_T95 x1 x7).f1)) + (rd [x280000, x280001, x280002, x280003] ((rd_T95 x1 x7).f2)))) x280000) (ixI ((rd_T95 x1 x7).f1) 1 (wrap64 ((rd [x280000, x280001, x280002, x280003] ((rd_T95 x1 x7).f1)) + (rd [x280000, x280001, x280002, x280003] ((rd_T95 x1 x7).f2)))) x280001) (ixI ((rd_T95 x1 x7).f1) 2 (wrap64 ((rd [x280000, x280001, x280002, x280003] ((rd_T95 x1 x7).f1)) + (rd [x280000, x280001, x280002, x280003] ((rd_T95 x1 x7).f2)))) x280002) (ixI ((rd_T95 x1 x7).f1) 3 (wrap64 ((rd [x280000, x280001, x280002, x280003] ((rd_T95 x1 x7).f1)) + (rd [x280000, x280001, x280002, x280003] ((rd_T95 x1 x7).f2)))) x280003) x281000 x281001 x281002 x281003) else (none)) else (none)) else (none)) else (none)) else (if ((rd_T95 x1 x7).f0) = 5 then (if 0 ≤ ((rd_T95 x1 x7).f1) then (if ((rd_T95 x1 x7).f1) < 4 then (if 0 ≤ ((rd_T95 x1 x7).f2) then (if ((rd_T95 x1 x7).f2) < 4 then (impl_ExecRun.j2 k x0 x1 x7 (ixI ((rd_T95 x1 x7).f1) 0 (wrap64 ((rd [x280000, x280001, x280002, x280003] ((rd_T95 x1 x7).f1)) - (rd [x280000, x280001, x280002, x280003] ((rd_T95 x1 x7).f2)))) x280000) (ixI ((rd_T95 x1 x7).f1) 1 (wrap64 ((rd [x280000, x280001, x280002, x280003] ((rd_T95 x1 x7).f1)) - (rd [x280000, x280001, x280002, x280003] ((rd_T95 x1 x7).f2)))) x280001) (ixI ((rd_T95 x1 x7).f1) 2 (wrap64 ((rd [x280000, x280001, x280002, x280003] ((rd_T95 x1 x7).f1)) - (rd [x280000, x280001, x280002, x280003] ((rd_T95 x1 x7).f2)))) x280002) (ixI ((rd_T95 x1 x7).f1) 3 (wrap64 ((rd [x280000, x280001, x280002, x280003] ((rd_T95 x1 x7).f1)) - (rd [x280000, x280001, x280002, x280003] ((rd_T95 x1 x7).f2)))) x280003) x281000 x281001 x281002 x281003) else (none)) else (none)) else (none)) else (none)) else (if ((rd_T95 x1 x7).f0) = 6 then (if 0 ≤ ((rd_T95 x1 x7).f1) then (if ((rd_T95 x1 x7).f1) < 4 then (if 0 ≤ ((rd_T95 x1 x7).f2) then (if ((rd_T95 x1 x7).f2) < 4 then (if (rd [x280000, x280001, x280002, x280003] ((rd_T95 x1 x7).f1)) < (rd [x280000, x280001, x280002, x280003] ((rd_T95 x1 x7).f2)) then (impl_ExecRun.j2 k x0 x1 (wrap64 (x7 + ((rd_T95 x1 x7).f3))) x280000 x280001 x280002 x280003 x281000 x281001 x281002 x281003) else (impl_ExecRun.j2 k x0 x1 x7 x280000 x280001 x280002 x280003 x281000 x281001 x281002 x281003)) else (none)) else (none)) else (none)) else (none)) else (if ((rd_T95 x1 x7).f0) = 7 then ((impl_copied_impl_Read.f x281000).bind fun t303 => (some (t303, ([] : List (S82)), 0, 1))) else (impl_ExecRun.j2 k x0 x1 x7 x280000 x280001 x280002 x280003 x281000 x281001 x281002 x281003)))))))) else (none)) else ((impl_copied_impl_Read.f x281000).bind fun t281 => ((impl_copied_impl_Put.f x281001).bind fun t284 => (some (t281, t284, x280000, 0))))
def impl_ExecRun.j2 : Nat → List (S37) → List (S95) → Int → Int → Int → Int → Int → List (S39) → List (S82) → Int → Int → Option ((List (S39)) × (List (S82)) × Int × Int)
 | 0, _, _, _, _, _, _, _, _, _, _, _ => none
 | k + 1, x0, x1, x7, x280000, x280001, x280002, x280003, x281000, x281001, x281002, x281003 => impl_ExecRun.l1 k x0 x1 x7 0 x280000 x280001 x280002 x280003 x281000 x281001 x281002 x281003 x280000 x280001 x280002 x280003
def impl_ExecRun.l1 : Nat → List (S37) → List (S95) → Int → Int → Int → Int → Int → Int → List (S39) → List (S82) → Int → Int → Int → Int → Int → Int → Option ((List (S39)) × (List (S82)) × Int × Int)
 | 0, _, _, _, _, _, _, _, _, _, _, _, _, _, _, _, _ => none
 | k + 1, x0, x1, x7, x162, x280000, x280001, x280002, x280003, x281000, x281001, x281002, x281003, x307000, x307001, x307002, x307003 => if x162 < 4 then (if 0 ≤ x162 then ((impl_in.f (rd [x307000, x307001, x307002, x307003] x162) (-1000000) 1000000).bind fun t307 => (if t307 = true then (impl_ExecRun.l1 k x0 x1 x7 (wrap64 (x162 + 1)) x280000 x280001 x280002 x280003 x281000 x281001 x281002 x281003 x307000 x307001 x307002 x307003) else ((impl_copied_impl_Read.f x281000).bind fun t308 => (some (t308, ([] : List (S82)), 0, 2))))) else (none)) else (impl_ExecRun.l0 k x0 x1 (wrap64 (x7 + 1)) x280000 x280001 x280002 x280003 x281000 x281001 x281002 x281003)
end
def impl_ExecRun.f (k : Nat) (l0 : List (S37)) (l1 : List (S95)) : Option ((List (S39)) × (List (S82)) × Int × Int) := (impl_BoxOk.f k l0).bind fun t277 => (if t277 = true then ((impl_ProgOk.f k l1).bind fun t278 => (impl_ExecRun.j0 k l0 l1 (!t278))) else (impl_ExecRun.j0 k l0 l1 true))
mutual
def impl_ExecOk.j0 : Nat → Bool → List (S39) → List (S82) → Int → Int → Option (Bool)
  | 0, _, _, _, _, _ => none
  | k + 1, x45, x312000, x312001, x312002, x312003 => if x45 = true then (some false) else (impl_ExecOk.l0 k x312000 (x312000.length : Int) 0 x312000 x312001 x312002 x312003 false false false false false false false false)
def impl_ExecOk.l0 : Nat → List (S39) → Int → Int → List (S39) → List (S82) → Int → Int → Bool → Bool → Bool → Bool → Bool → Bool → Bool → Bool → Option (Bool)
  | 0, _, _, _, _, _, _, _, _, _, _, _, _, _, _, _ => none
  | k + 1, x47, x48, x49, x312000, x312001, x312002, x312003, x315000, x315001, x315002, x315003, x316000, x316001, x316002, x316003 => if x49 < x48 then (if 0 ≤ x49 then (if x49 < (x47.length : Int) then ((impl_in.f ((rd_T39 x47 x49).f0) 0 3).bind fun t318 => (if t318 = true then (if 0 ≤ ((rd_T39 x47 x49).f0) then (if ((rd_T39 x47 x49).f0) < 4 then (if rdOf false [x315000, x315001, x315002, x315003] ((rd_T39 x47 x49).f0) = true then (some false) else ((impl_in.f ((rd_T39 x47 x49).f1) 0 1000000).bind fun t319 => (if t319 = true then (impl_ExecOk.l0 k x47 x48 (wrap64 (x49 + 1)) x312000 x312001 x312002 x312003 (ixB ((rd_T39 x47 x49).f0) 0 true x315000) (ixB ((rd_T39 x47 x49).f0) 1 true x315001) (ixB ((rd_T39 x47 x49).f0) 2 true x315002) (ixB ((rd_T39 x47 x49).f0) 3 true x315003) x316000 x316001 x316002 x316003) else (some false)))) else (none)) else (none)) else (some false))) else (none)) else (none)) else (impl_ExecOk.l1 k x312001 (x312001.length : Int) 0 x316000 x316001 x316002 x316003)
def impl_ExecOk.l1 : Nat → List (S82) → Int → Int → Bool → Bool → Bool → Bool → Option (Bool)
  | 0, _, _, _, _, _, _, _ => none
  | k + 1, x74, x75, x76, x316000, x316001, x316002, x316003 => if x76 < x75 then (if 0 ≤ x76 then (if x76 < (x74.length : Int) then ((impl_in.f ((rd_T82 x74 x76).f0) 0 3).bind fun t322 => (if t322 = true then (if 0 ≤ ((rd_T82 x74 x76).f0) then (if ((rd_T82 x74 x76).f0) < 4 then (if rdOf false [x316000, x316001, x316002, x316003] ((rd_T82 x74 x76).f0) = true then (some false) else ((impl_in.f ((rd_T82 x74 x76).f1) (-1000000) 1000000).bind fun t323 => (if t323 = true then (impl_ExecOk.l1 k x74 x75 (wrap64 (x76 + 1)) (ixB ((rd_T82 x74 x76).f0) 0 true x316000) (ixB ((rd_T82 x74 x76).f0) 1 true x316001) (ixB ((rd_T82 x74 x76).f0) 2 true x316002) (ixB ((rd_T82 x74 x76).f0) 3 true x316003)) else (some false)))) else (none)) else (none)) else (some false))) else (none)) else (none)) else (some true)
end
def impl_ExecOk.f (k : Nat) (l0_0 : List (S39)) (l0_1 : List (S82)) (a0_2 : Int) (a0_3 : Int) : Option (Bool) := (impl_in.f a0_3 0 3).bind fun t312 => (if t312 = true then ((impl_in.f a0_2 (-1000000) 1000000).bind fun t313 => (if t313 = true then (if a0_3 = 0 then (if a0_3 = 3 then (impl_ExecOk.j0 k (decide ((l0_0.length : Int) > 0)) l0_0 l0_1 a0_2 a0_3) else (impl_ExecOk.j0 k false l0_0 l0_1 a0_2 a0_3)) else (if a0_2 = 0 then (if (l0_1.length : Int) > 0 then (impl_ExecOk.j0 k true l0_0 l0_1 a0_2 a0_3) else (if a0_3 = 3 then (impl_ExecOk.j0 k (decide ((l0_0.length : Int) > 0)) l0_0 l0_1 a0_2 a0_3) else (impl_ExecOk.j0 k false l0_0 l0_1 a0_2 a0_3))) else (impl_ExecOk.j0 k true l0_0 l0_1 a0_2 a0_3))) else (impl_ExecOk.j0 k true l0_0 l0_1 a0_2 a0_3))) else (impl_ExecOk.j0 k true l0_0 l0_1 a0_2 a0_3))
def impl_copied_impl_Box.f (l0 : List (S37)) : Option (List (S37)) := if l0.length ≤ 17592186044416 then some l0 else none
mutual
def impl_ExecDo.j0 : Nat → List (S37) → Bool → List (S39) → List (S82) → Int → Int → Option ((List (S37)))
  | 0, _, _, _, _, _, _ => none
  | k + 1, x0, x15, x325000, x325001, x325002, x325003 => if x15 = true then (some ([] : List (S37))) else ((impl_copied_impl_Box.f x0).bind fun t327 => (impl_ExecDo.l0 k t327 x325001 (x325001.length : Int) 0))
def impl_ExecDo.l0 : Nat → List (S37) → List (S82) → Int → Int → Option ((List (S37)))
  | 0, _, _, _, _ => none
  | k + 1, x5, x19, x20, x21 => if x21 < x20 then (if 0 ≤ x21 then (if x21 < (x19.length : Int) then (if 0 ≤ ((rd_T82 x19 x21).f0) then (if ((rd_T82 x19 x21).f0) < (x5.length : Int) then (impl_ExecDo.l0 k (x5.set (((rd_T82 x19 x21).f0) : Int).toNat (⟨mn 1000000 (wrap64 (((rd_T37 x5 ((rd_T82 x19 x21).f0)).f0) + 1)), (rd_T82 x19 x21).f1⟩ : S37)) x19 x20 (wrap64 (x21 + 1))) else (none)) else (none)) else (none)) else (none)) else (some x5)
end
def impl_ExecDo.f (k : Nat) (l0 : List (S37)) (l1_0 : List (S39)) (l1_1 : List (S82)) (a1_2 : Int) (a1_3 : Int) : Option ((List (S37))) := (impl_BoxOk.f k l0).bind fun t325 => (if t325 = true then ((impl_ExecOk.f k l1_0 l1_1 a1_2 a1_3).bind fun t326 => (impl_ExecDo.j0 k l0 (!t326) l1_0 l1_1 a1_2 a1_3)) else (impl_ExecDo.j0 k l0 true l1_0 l1_1 a1_2 a1_3))
def impl_SerialOne.f (k : Nat) (l0 : List (S37)) (l1 : List (S95)) : Option ((List (S37)) × Int × Int) := (impl_ExecRun.f k l0 l1).bind fun bt334 => (if bt334.2.2.2 = 3 then (some (([] : List (S37)), 0, 3)) else ((impl_ExecDo.f k l0 bt334.1 bt334.2.1 bt334.2.2.1 bt334.2.2.2).bind fun t343 => (some (t343, bt334.2.2.1, bt334.2.2.2))))
def impl_copied_int.f (l0 : List Int) : Option (List Int) := if l0.length ≤ 35184372088832 then some l0 else none
mutual
def impl_SerialAll.j0 : Nat → List (S37) → List (List (S95)) → Bool → Option ((List (S37)) × List Int)
  | 0, _, _, _ => none
  | k + 1, x0, x1, x20 => if x20 = true then (some (([] : List (S37)), ([] : List Int))) else ((impl_copied_impl_Box.f x0).bind fun t347 => (impl_SerialAll.l0 k t347 ([] : List Int) x1 (x1.length : Int) 0))
def impl_SerialAll.l0 : Nat → List (S37) → List Int → List (List (S95)) → Int → Int → Option ((List (S37)) × List Int)
  | 0, _, _, _, _, _ => none
  | k + 1, x6, x7, x23, x24, x25 => if x25 < x24 then (if 0 ≤ x25 then (if x25 < (x23.length : Int) then ((impl_SerialOne.f k x6 (rd_L5 x23 x25)).bind fun bt351 => (if bt351.2.2 = 3 then (some (([] : List (S37)), ([] : List Int))) else (if x7.length < 17592186044416 then (impl_SerialAll.l0 k bt351.1 (x7 ++ [bt351.2.1]) x23 x24 (wrap64 (x25 + 1))) else (none)))) else (none)) else (none)) else ((impl_copied_int.f x7).bind fun t359 => (some (x6, t359)))
end
def impl_SerialAll.f (k : Nat) (l0 : List (S37)) (l1 : List (List (S95))) : Option ((List (S37)) × List Int) := (impl_BoxOk.f k l0).bind fun t346 => (if t346 = true then (impl_SerialAll.j0 k l0 l1 (decide ((l1.length : Int) > 100))) else (impl_SerialAll.j0 k l0 l1 true))
def spec_l15Open.f (l0 : List Int) : Option (List Int × Int) := if (l0.length : Int) > 2000 then (if 2000 ≤ (l0.length : Int) then (some (l0.take 2000, 0)) else (none)) else (some (l0, 0))
def spec_l15Rd_pick.j0 : Nat → Int → Bool → List Int → Int → Option (Int × Int)
  | 0, _, _, _, _ => none
  | k + 1, x1, x24, x1000, x1001 => if x24 = true then (some (0, x1001)) else (if (wrap64 (x1001 - 1)) < (x1000.length : Int) then (if 0 ≤ (wrap64 (x1001 - 1)) then (if x1 = 0 then (none) else (some (Int.tmod (wrap64 (rd x1000 (wrap64 (x1001 - 1)))) x1, x1001))) else (none)) else (if (x1000.length : Int) = 0 then (none) else (if 0 ≤ (Int.tmod (wrap64 (x1001 - 1)) (x1000.length : Int)) then (if (Int.tmod (wrap64 (x1001 - 1)) (x1000.length : Int)) < (x1000.length : Int) then (if 0 ≤ (Int.tmod (wrap64 ((wrap64 ((wrap64 (x1001 - 1)) * 7)) + 3)) (x1000.length : Int)) then (if (Int.tmod (wrap64 ((wrap64 ((wrap64 (x1001 - 1)) * 7)) + 3)) (x1000.length : Int)) < (x1000.length : Int) then (if x1 = 0 then (none) else (some (Int.tmod (Go.bits .xor .i64 (wrap64 ((wrap64 ((wrap64 ((wrap64 ((wrap64 (rd x1000 (Int.tmod (wrap64 (x1001 - 1)) (x1000.length : Int)))) * 131)) + (wrap64 ((wrap64 (rd x1000 (Int.tmod (wrap64 ((wrap64 ((wrap64 (x1001 - 1)) * 7)) + 3)) (x1000.length : Int)))) * 1117)))) + (wrap64 ((wrap64 (x1001 - 1)) * 29)))) + (wrap64 ((wrap64 (Int.tdiv (wrap64 (x1001 - 1)) (x1000.length : Int))) * 53)))) (wrap64 (Int.tdiv (wrap64 ((wrap64 ((wrap64 ((wrap64 ((wrap64 (rd x1000 (Int.tmod (wrap64 (x1001 - 1)) (x1000.length : Int)))) * 131)) + (wrap64 ((wrap64 (rd x1000 (Int.tmod (wrap64 ((wrap64 ((wrap64 (x1001 - 1)) * 7)) + 3)) (x1000.length : Int)))) * 1117)))) + (wrap64 ((wrap64 (x1001 - 1)) * 29)))) + (wrap64 ((wrap64 (Int.tdiv (wrap64 (x1001 - 1)) (x1000.length : Int))) * 53)))) 64))) x1, x1001))) else (none)) else (none)) else (none)) else (none))))
def spec_l15Rd_pick.f (k : Nat) (s0_0 : List Int) (s0_1 : Int) (a1 : Int) : Option (Int × Int) := if a1 < 1 then (spec_l15Rd_pick.j0 k a1 true s0_0 (wrap64 (s0_1 + 1))) else (spec_l15Rd_pick.j0 k a1 ((s0_0.length : Int) == 0) s0_0 (wrap64 (s0_1 + 1)))
def spec_l15Rd_num.f (k : Nat) (s0_0 : List Int) (s0_1 : Int) (l1 : List Int) : Option (Int × Int) := (spec_l15Rd_pick.f k s0_0 s0_1 (l1.length : Int)).bind fun bt368 => (if 0 ≤ bt368.1 then (if bt368.1 < (l1.length : Int) then (some (rd l1 bt368.1, bt368.2)) else (none)) else (none))
def spec_BoxOpen.f  : Option ((List (S37))) := if 4 ≤ 17592186044416 then (some (List.replicate 4 z37)) else (none)
def spec_l1Boxes.l0 : Nat → List (S37) → Int → List Int → Int → Option ((List (S37)) × Int)
  | 0, _, _, _, _ => none
  | k + 1, x3, x4, x1000, x1001 => if x4 < (x3.length : Int) then ((spec_l15Rd_pick.f k x1000 x1001 5).bind fun bt377 => ((spec_l15Rd_num.f k x1000 bt377.2 (([0, 1, 2, 5, (-3), 7, 100, 1000000, (-1000000)] : List Int))).bind fun bt382 => (if 0 ≤ x4 then (spec_l1Boxes.l0 k (x3.set (x4 : Int).toNat (⟨bt377.1, bt382.1⟩ : S37)) (wrap64 (x4 + 1)) x1000 bt382.2) else (none)))) else ((spec_l15Rd_pick.f k x1000 x1001 30).bind fun bt385 => (if bt385.1 = 0 then (if 3 ≤ (x3.length : Int) then (some ((x3.take (3 : Int).toNat), bt385.2)) else (none)) else (if bt385.1 = 1 then ((spec_l15Rd_pick.f k x1000 bt385.2 4).bind fun bt390 => ((spec_l15Rd_num.f k x1000 bt390.2 (([(-1), 1000001] : List Int))).bind fun bt395 => (if 0 ≤ bt390.1 then (if bt390.1 < (x3.length : Int) then (some ((x3.set (bt390.1 : Int).toNat (⟨bt395.1, (rd_T37 x3 bt390.1).f1⟩ : S37)), bt395.2)) else (none)) else (none)))) else (if bt385.1 = 2 then ((spec_l15Rd_pick.f k x1000 bt385.2 4).bind fun bt398 => ((spec_l15Rd_num.f k x1000 bt398.2 (([1000001, (-1000001)] : List Int))).bind fun bt403 => (if 0 ≤ bt398.1 then (if bt398.1 < (x3.length : Int) then (some ((x3.set (bt398.1 : Int).toNat (⟨(rd_T37 x3 bt398.1).f0, bt403.1⟩ : S37)), bt403.2)) else (none)) else (none)))) else (some (x3, bt385.2))))))
def spec_l1Boxes.f (k : Nat) (s0_0 : List Int) (s0_1 : Int) : Option ((List (S37)) × Int) := (spec_BoxOpen.f).bind fun t374 => (spec_l1Boxes.l0 k t374 0 s0_0 s0_1)
def spec_l2Any.f (k : Nat) (s0_0 : List Int) (s0_1 : Int) : Option (Int × Int × Int × Int × Int) := (spec_l15Rd_num.f k s0_0 s0_1 (([1, 1, 2, 2, 3, 4, 4, 5, 6, 7] : List Int))).bind fun bt410 => ((spec_l15Rd_pick.f k s0_0 bt410.2 3).bind fun bt412 => ((spec_l15Rd_pick.f k s0_0 bt412.2 3).bind fun bt414 => (if bt410.1 = 3 then ((spec_l15Rd_num.f k s0_0 bt414.2 (([0, 1, 5, (-2), 100, 1000000] : List Int))).bind fun bt420 => (some (bt410.1, bt412.1, 0, bt420.1, bt420.2))) else (if bt410.1 = 6 then ((spec_l15Rd_pick.f k s0_0 bt414.2 3).bind fun bt422 => (some (bt410.1, bt412.1, bt414.1, wrap64 (1 + bt422.1), bt422.2))) else (if bt410.1 = 7 then ((spec_l15Rd_pick.f k s0_0 bt414.2 3).bind fun bt424 => (if bt424.1 > 0 then ((spec_l15Rd_pick.f k s0_0 bt424.2 4).bind fun bt426 => ((spec_l15Rd_pick.f k s0_0 bt426.2 4).bind fun bt428 => (some (4, bt426.1, bt428.1, 0, bt428.2)))) else (some (bt410.1, 0, 0, 0, bt424.2)))) else (some (bt410.1, bt412.1, bt414.1, 0, bt414.2)))))))
def spec_l2Prog.l0 : Nat → List (S95) → Int → List Int → Int → Option ((List (S95)) × Int)
  | 0, _, _, _, _ => none
  | k + 1, x5, x6, x1000, x1001 => if x6 > 0 then ((spec_l2Any.f k x1000 x1001).bind fun bt446 => (if x5.length < 4398046511104 then (spec_l2Prog.l0 k (x5 ++ [(⟨bt446.1, bt446.2.1, bt446.2.2.1, bt446.2.2.2.1⟩ : S95)]) (wrap64 (x6 - 1)) x1000 bt446.2.2.2.2) else (none))) else (some (x5, x1001))
def spec_l2Prog.f (k : Nat) (s0_0 : List Int) (s0_1 : Int) : Option ((List (S95)) × Int) := (spec_l15Rd_pick.f k s0_0 s0_1 3).bind fun bt430 => (if bt430.1 = 0 then ((spec_l15Rd_pick.f k s0_0 bt430.2 3).bind fun bt432 => ((spec_l15Rd_pick.f k s0_0 bt432.2 3).bind fun bt434 => ((spec_l15Rd_pick.f k s0_0 bt434.2 3).bind fun bt436 => (some ((([(⟨1, 0, bt432.1, 0⟩ : S95), (⟨3, 1, 0, wrap64 (1 + bt436.1)⟩ : S95), (⟨4, 0, 1, 0⟩ : S95), (⟨2, bt434.1, 0, 0⟩ : S95)] : List (S95))), bt436.2))))) else ((spec_l15Rd_pick.f k s0_0 bt430.2 8).bind fun bt444 => (spec_l2Prog.l0 k (([] : List (S95))) bt444.1 s0_0 bt444.2)))
def spec_l2Bent.l0 : Nat → List (S95) → Int → List Int → Int → Option ((List (S95)) × Int)
  | 0, _, _, _, _ => none
  | k + 1, x3, x4, x1000, x1001 => if (x3.length : Int) < 11 then (if 0 ≤ x4 then (if x4 < (x3.length : Int) then (if x3.length < 4398046511104 then (spec_l2Bent.l0 k (x3 ++ [(⟨(rd_T95 x3 x4).f0, (rd_T95 x3 x4).f1, (rd_T95 x3 x4).f2, (rd_T95 x3 x4).f3⟩ : S95)]) x4 x1000 x1001) else (none)) else (none)) else (none)) else (some (x3, x1001))
def spec_l2Bent.f (k : Nat) (s0_0 : List Int) (s0_1 : Int) : Option ((List (S95)) × Int) := (spec_l2Prog.f k s0_0 s0_1).bind fun bt454 => (if (bt454.1.length : Int) = 0 then (some (bt454.1, bt454.2)) else ((spec_l15Rd_pick.f k s0_0 bt454.2 (bt454.1.length : Int)).bind fun bt458 => ((spec_l15Rd_pick.f k s0_0 bt458.2 40).bind fun bt460 => (if bt460.1 = 0 then ((spec_l15Rd_num.f k s0_0 bt460.2 (([0, 8] : List Int))).bind fun bt465 => (if 0 ≤ bt458.1 then (if bt458.1 < (bt454.1.length : Int) then (some ((bt454.1.set (bt458.1 : Int).toNat (⟨bt465.1, (rd_T95 bt454.1 bt458.1).f1, (rd_T95 bt454.1 bt458.1).f2, (rd_T95 bt454.1 bt458.1).f3⟩ : S95)), bt465.2)) else (none)) else (none))) else (if bt460.1 = 1 then ((spec_l15Rd_num.f k s0_0 bt460.2 (([(-1), 4] : List Int))).bind fun bt471 => (if 0 ≤ bt458.1 then (if bt458.1 < (bt454.1.length : Int) then (some ((bt454.1.set (bt458.1 : Int).toNat (⟨(rd_T95 bt454.1 bt458.1).f0, bt471.1, (rd_T95 bt454.1 bt458.1).f2, (rd_T95 bt454.1 bt458.1).f3⟩ : S95)), bt471.2)) else (none)) else (none))) else (if bt460.1 = 2 then ((spec_l15Rd_num.f k s0_0 bt460.2 (([(-1), 11, 2000000] : List Int))).bind fun bt477 => (if 0 ≤ bt458.1 then (if bt458.1 < (bt454.1.length : Int) then (some ((bt454.1.set (bt458.1 : Int).toNat (⟨(rd_T95 bt454.1 bt458.1).f0, (rd_T95 bt454.1 bt458.1).f1, (rd_T95 bt454.1 bt458.1).f2, bt477.1⟩ : S95)), bt477.2)) else (none)) else (none))) else (if bt460.1 = 3 then (spec_l2Bent.l0 k bt454.1 bt458.1 s0_0 bt460.2) else (some (bt454.1, bt460.2)))))))))
def spec_DrawSerialAll.l0 : Nat → List (S37) → List (List (S95)) → Int → List Int → Int → Option ((List (S37)) × (List (List (S95))))
  | 0, _, _, _, _, _ => none
  | k + 1, x5, x6, x7, x487000, x487001 => if x7 > 0 then ((spec_l2Prog.f k x487000 x487001).bind fun bt496 => (if x6.length < 5864062014805 then (spec_DrawSerialAll.l0 k x5 (x6 ++ [bt496.1]) (wrap64 (x7 - 1)) x487000 bt496.2) else (none))) else ((spec_l15Rd_pick.f k x487000 x487001 12).bind fun bt503 => (if bt503.1 = 0 then ((spec_l2Bent.f k x487000 bt503.2).bind fun bt505 => (if x6.length < 5864062014805 then (some (x5, (x6 ++ [bt505.1]))) else (none))) else (some (x5, x6))))
def spec_DrawSerialAll.f (k : Nat) (l0 : List Int) : Option ((List (S37)) × (List (List (S95)))) := (spec_l15Open.f l0).bind fun bt484 => ((spec_l1Boxes.f k bt484.1 bt484.2).bind fun bt487 => ((spec_l15Rd_pick.f k bt484.1 bt487.2 6).bind fun bt494 => (spec_DrawSerialAll.l0 k bt487.1 (([] : List (List (S95)))) bt494.1 bt484.1 bt494.2)))
def impl_same_impl_Box.l0 : Nat → List (S37) → List (S37) → Int → Int → Option (Bool)
  | 0, _, _, _, _ => none
  | k + 1, x0, x1, x12, x13 => if x13 < x12 then (if 0 ≤ x13 then (if x13 < (x0.length : Int) then (if x13 < (x1.length : Int) then (if (!(((rd_T37 x0 x13).f0) == ((rd_T37 x1 x13).f0)) || (!(((rd_T37 x0 x13).f1) == ((rd_T37 x1 x13).f1)))) = true then (some false) else (impl_same_impl_Box.l0 k x0 x1 x12 (wrap64 (x13 + 1)))) else (none)) else (none)) else (none)) else (some true)
def impl_same_impl_Box.f (k : Nat) (l0 : List (S37)) (l1 : List (S37)) : Option (Bool) := if (l0.length : Int) = (l1.length : Int) then (impl_same_impl_Box.l0 k l0 l1 (l0.length : Int) 0) else (some false)
def impl_BoxSame.f (k : Nat) (l0 : List (S37)) (l1 : List (S37)) : Option (Bool) := (impl_same_impl_Box.f k l0 l1).bind fun t514 => (some t514)
def spec_DrawSerialFree.f (k : Nat) (l0 : List Int) : Option ((List (S95)) × (List (S95))) := (spec_l15Open.f l0).bind fun bt515 => ((spec_l2Bent.f k bt515.1 bt515.2).bind fun bt518 => ((spec_l2Bent.f k bt515.1 bt518.2).bind fun bt522 => (some (bt518.1, bt522.1))))
def impl_boxesOf.l0 : Nat → List Int → Int → Bool → Bool → Bool → Bool → Option (List Int)
  | 0, _, _, _, _, _, _ => none
  | k + 1, x3, x7, x528000, x528001, x528002, x528003 => if x7 < 4 then (if 0 ≤ x7 then (if rdOf false [x528000, x528001, x528002, x528003] x7 = true then (if x3.length < 17592186044416 then (impl_boxesOf.l0 k (x3 ++ [x7]) (wrap64 (x7 + 1)) x528000 x528001 x528002 x528003) else (none)) else (impl_boxesOf.l0 k x3 (wrap64 (x7 + 1)) x528000 x528001 x528002 x528003)) else (none)) else ((impl_copied_int.f x3).bind fun t531 => (some t531))
def impl_boxesOf.f (k : Nat) (a0_0 : Bool) (a0_1 : Bool) (a0_2 : Bool) (a0_3 : Bool) : Option (List Int) := impl_boxesOf.l0 k ([] : List Int) 0 a0_0 a0_1 a0_2 a0_3
def impl_ProgPuts.l0 : Nat → List (S95) → Int → Int → Bool → Bool → Bool → Bool → Option (List Int)
  | 0, _, _, _, _, _, _, _ => none
  | k + 1, x6, x7, x8, x535000, x535001, x535002, x535003 => if x8 < x7 then (if 0 ≤ x8 then (if x8 < (x6.length : Int) then (if ((rd_T95 x6 x8).f0) = 2 then ((impl_in.f ((rd_T95 x6 x8).f1) 0 3).bind fun t537 => (if t537 = true then (if 0 ≤ ((rd_T95 x6 x8).f1) then (if ((rd_T95 x6 x8).f1) < 4 then (impl_ProgPuts.l0 k x6 x7 (wrap64 (x8 + 1)) (ixB ((rd_T95 x6 x8).f1) 0 true x535000) (ixB ((rd_T95 x6 x8).f1) 1 true x535001) (ixB ((rd_T95 x6 x8).f1) 2 true x535002) (ixB ((rd_T95 x6 x8).f1) 3 true x535003)) else (none)) else (none)) else (impl_ProgPuts.l0 k x6 x7 (wrap64 (x8 + 1)) x535000 x535001 x535002 x535003))) else (impl_ProgPuts.l0 k x6 x7 (wrap64 (x8 + 1)) x535000 x535001 x535002 x535003)) else (none)) else (none)) else ((impl_boxesOf.f k x535000 x535001 x535002 x535003).bind fun t539 => (some t539))
def impl_ProgPuts.f (k : Nat) (l0 : List (S95)) : Option (List Int) := impl_ProgPuts.l0 k l0 (l0.length : Int) 0 false false false false
mutual
def impl_meets.l0 : Nat → List Int → List Int → Int → Int → Option (Bool)
  | 0, _, _, _, _ => none
  | k + 1, x1, x9, x10, x11 => if x11 < x10 then (if 0 ≤ x11 then (if x11 < (x9.length : Int) then (impl_meets.l1 k x1 (rd x9 x11) x9 x10 x11 x1 (x1.length : Int) 0) else (none)) else (none)) else (some false)
def impl_meets.l1 : Nat → List Int → Int → List Int → Int → Int → List Int → Int → Int → Option (Bool)
  | 0, _, _, _, _, _, _, _, _ => none
  | k + 1, x1, x6, x9, x10, x11, x15, x16, x17 => if x17 < x16 then (if 0 ≤ x17 then (if x17 < (x15.length : Int) then (if x6 = (rd x15 x17) then (some true) else (impl_meets.l1 k x1 x6 x9 x10 x11 x15 x16 (wrap64 (x17 + 1)))) else (none)) else (none)) else (impl_meets.l0 k x1 x9 x10 (wrap64 (x11 + 1)))
end
def impl_meets.f (k : Nat) (l0 : List Int) (l1 : List Int) : Option (Bool) := impl_meets.l0 k l1 l0 (l0.length : Int) 0
def impl_ProgLoads.l0 : Nat → List (S95) → Int → Int → Bool → Bool → Bool → Bool → Option (List Int)
  | 0, _, _, _, _, _, _, _ => none
  | k + 1, x6, x7, x8, x545000, x545001, x545002, x545003 => if x8 < x7 then (if 0 ≤ x8 then (if x8 < (x6.length : Int) then (if ((rd_T95 x6 x8).f0) = 1 then ((impl_in.f ((rd_T95 x6 x8).f2) 0 3).bind fun t547 => (if t547 = true then (if 0 ≤ ((rd_T95 x6 x8).f2) then (if ((rd_T95 x6 x8).f2) < 4 then (impl_ProgLoads.l0 k x6 x7 (wrap64 (x8 + 1)) (ixB ((rd_T95 x6 x8).f2) 0 true x545000) (ixB ((rd_T95 x6 x8).f2) 1 true x545001) (ixB ((rd_T95 x6 x8).f2) 2 true x545002) (ixB ((rd_T95 x6 x8).f2) 3 true x545003)) else (none)) else (none)) else (impl_ProgLoads.l0 k x6 x7 (wrap64 (x8 + 1)) x545000 x545001 x545002 x545003))) else (impl_ProgLoads.l0 k x6 x7 (wrap64 (x8 + 1)) x545000 x545001 x545002 x545003)) else (none)) else (none)) else ((impl_boxesOf.f k x545000 x545001 x545002 x545003).bind fun t549 => (some t549))
def impl_ProgLoads.f (k : Nat) (l0 : List (S95)) : Option (List Int) := impl_ProgLoads.l0 k l0 (l0.length : Int) 0 false false false false
def impl_SerialFree.j0 : Nat → List (S95) → List (S95) → Bool → Option (Bool)
  | 0, _, _, _ => none
  | k + 1, x0, x1, x14 => if x14 = true then (some false) else ((impl_ProgPuts.f k x0).bind fun t554 => ((impl_ProgPuts.f k x1).bind fun t557 => ((impl_meets.f k t554 t557).bind fun t560 => (if t560 = true then (some false) else ((impl_ProgLoads.f k x1).bind fun t561 => ((impl_meets.f k t554 t561).bind fun t564 => (if t564 = true then (some false) else ((impl_ProgLoads.f k x0).bind fun t565 => ((impl_meets.f k t557 t565).bind fun t568 => (some (!t568)))))))))))
def impl_SerialFree.f (k : Nat) (l0 : List (S95)) (l1 : List (S95)) : Option (Bool) := (impl_ProgOk.f k l0).bind fun t552 => (if t552 = true then ((impl_ProgOk.f k l1).bind fun t553 => (impl_SerialFree.j0 k l0 l1 (!t553))) else (impl_SerialFree.j0 k l0 l1 true))
mutual
def spec_l4Meet.l0 : Nat → List Int → List Int → Int → Option (Bool)
  | 0, _, _, _ => none
  | k + 1, x0, x1, x5 => if x5 < (x0.length : Int) then (spec_l4Meet.l1 k x0 x1 x5 0) else (some false)
def spec_l4Meet.l1 : Nat → List Int → List Int → Int → Int → Option (Bool)
  | 0, _, _, _, _ => none
  | k + 1, x0, x1, x5, x6 => if x6 < (x1.length : Int) then (if 0 ≤ x5 then (if x5 < (x0.length : Int) then (if 0 ≤ x6 then (if (rd x0 x5) = (rd x1 x6) then (some true) else (spec_l4Meet.l1 k x0 x1 x5 (wrap64 (x6 + 1)))) else (none)) else (none)) else (none)) else (spec_l4Meet.l0 k x0 x1 (wrap64 (x5 + 1)))
end
def spec_l4Meet.f (k : Nat) (l0 : List Int) (l1 : List Int) : Option (Bool) := spec_l4Meet.l0 k l0 l1 0
mutual
def spec_l2Boxes.l0 : Nat → List (S95) → Int → List Int → Int → Option (List Int)
  | 0, _, _, _, _ => none
  | k + 1, x0, x1, x5, x6 => if x6 < 4 then (spec_l2Boxes.l1 k x0 x1 x5 x6 false 0) else (some x5)
def spec_l2Boxes.l1 : Nat → List (S95) → Int → List Int → Int → Bool → Int → Option (List Int)
  | 0, _, _, _, _, _, _ => none
  | k + 1, x0, x1, x5, x6, x7, x8 => if x8 < (x0.length : Int) then (if x7 = true then (spec_l2Boxes.l1 k x0 x1 x5 x6 true (wrap64 (x8 + 1))) else (if 0 ≤ x8 then (if ((rd_T95 x0 x8).f0) = x1 then (if x1 = 1 then (if ((rd_T95 x0 x8).f2) = x6 then (spec_l2Boxes.l1 k x0 x1 x5 x6 true (wrap64 (x8 + 1))) else (if x1 = 2 then (spec_l2Boxes.l1 k x0 x1 x5 x6 (((rd_T95 x0 x8).f1) == x6) (wrap64 (x8 + 1))) else (spec_l2Boxes.l1 k x0 x1 x5 x6 false (wrap64 (x8 + 1))))) else (if x1 = 2 then (spec_l2Boxes.l1 k x0 x1 x5 x6 (((rd_T95 x0 x8).f1) == x6) (wrap64 (x8 + 1))) else (spec_l2Boxes.l1 k x0 x1 x5 x6 false (wrap64 (x8 + 1))))) else (spec_l2Boxes.l1 k x0 x1 x5 x6 false (wrap64 (x8 + 1)))) else (none))) else (if x7 = true then (if x5.length < 17592186044416 then (spec_l2Boxes.l0 k x0 x1 (x5 ++ [x6]) (wrap64 (x6 + 1))) else (none)) else (spec_l2Boxes.l0 k x0 x1 x5 (wrap64 (x6 + 1))))
end
def spec_l2Boxes.f (k : Nat) (l0 : List (S95)) (a1 : Int) : Option (List Int) := spec_l2Boxes.l0 k l0 a1 (([] : List Int)) 0
def spec_ProgPuts.f (k : Nat) (l0 : List (S95)) : Option (List Int) := (spec_l2Boxes.f k l0 2).bind fun t581 => (some t581)
def spec_ProgLoads.f (k : Nat) (l0 : List (S95)) : Option (List Int) := (spec_l2Boxes.f k l0 1).bind fun t584 => (some t584)
def spec_SerialFree.f (k : Nat) (l0 : List (S95)) (l1 : List (S95)) : Option (Bool) := (spec_ProgOk.f k l0).bind fun t587 => (if t587 = true then ((spec_ProgOk.f k l1).bind fun t588 => (if t588 = true then ((spec_ProgPuts.f k l0).bind fun t589 => ((spec_ProgPuts.f k l1).bind fun t592 => ((spec_l4Meet.f k t589 t592).bind fun t595 => (if t595 = true then (some false) else ((spec_ProgPuts.f k l0).bind fun t596 => ((spec_ProgLoads.f k l1).bind fun t599 => ((spec_l4Meet.f k t596 t599).bind fun t602 => (if t602 = true then (some false) else ((spec_ProgLoads.f k l0).bind fun t603 => ((spec_ProgPuts.f k l1).bind fun t606 => ((spec_l4Meet.f k t603 t606).bind fun t609 => (some (!t609))))))))))))) else (some false))) else (some false))
mutual
def laws_FnSerial.l0 : Nat → (List Int) → Int → (List S37) → (List (List S95)) → (List S37) → (List Int) → (List Int) → Option (Bool)
  | 0, _, _, _, _, _, _, _ => none
  | k + 1, x0, x1, x2, x3, x4, x5, x6 => if (x1 < ((x5.length : Nat) : Int)) then (if ((0 : Int) ≤ x1) then (if (x1 < ((x5.length : Nat) : Int)) then (if ((0 : Int) ≤ x1) then (if (x1 < ((x6.length : Nat) : Int)) then (if ((rd x5 x1) = (rd x6 x1)) then (laws_FnSerial.l0 k x0 (wrap64 (x1 + (1 : Int))) x2 x3 x4 x5 x6) else (some (false))) else (none)) else (none)) else (none)) else (none)) else (if (((x4.length : Nat) : Int) = (0 : Int)) then (some ((decide (((x5.length : Nat) : Int) = (0 : Int))))) else (if ((wrap64 (((x3.length : Nat) : Int) + (1 : Int))) = (0 : Int)) then (none) else (if ((0 : Int) ≤ (Int.tmod ((x0.length : Nat) : Int) (wrap64 (((x3.length : Nat) : Int) + (1 : Int))))) then (if ((Int.tmod ((x0.length : Nat) : Int) (wrap64 (((x3.length : Nat) : Int) + (1 : Int)))) ≤ ((x3.length : Nat) : Int)) then ((impl_SerialAll.f k x2 (List.take (Int.toNat (Int.tmod ((x0.length : Nat) : Int) (wrap64 (((x3.length : Nat) : Int) + (1 : Int))))) x3)).bind fun t4 => (if ((0 : Int) ≤ (Int.tmod ((x0.length : Nat) : Int) (wrap64 (((x3.length : Nat) : Int) + (1 : Int))))) then (if ((Int.tmod ((x0.length : Nat) : Int) (wrap64 (((x3.length : Nat) : Int) + (1 : Int)))) ≤ ((x3.length : Nat) : Int)) then ((impl_SerialAll.f k t4.1 (List.drop (Int.toNat (Int.tmod ((x0.length : Nat) : Int) (wrap64 (((x3.length : Nat) : Int) + (1 : Int))))) x3)).bind fun t5 => ((impl_BoxSame.f k t5.1 x4).bind fun t6 => (if t6 = true then (if ((wrap64 ((((t4.2).length : Nat) : Int) + (((t5.2).length : Nat) : Int))) = ((x5.length : Nat) : Int)) then ((spec_DrawSerialFree.f k x0).bind fun t7 => ((impl_SerialFree.f k t7.1 t7.2).bind fun t8 => ((spec_SerialFree.f k t7.1 t7.2).bind fun t9 => (if (t8 == t9) = true then ((impl_SerialFree.f k t7.1 t7.2).bind fun t10 => ((impl_SerialFree.f k t7.2 t7.1).bind fun t11 => (if (t10 == t11) = true then ((impl_SerialFree.f k t7.1 t7.2).bind fun t12 => (if t12 = true then ((impl_SerialAll.f k x4 ([t7.1, t7.2] : List ( List S95 ))).bind fun t13 => ((impl_SerialAll.f k x4 ([t7.2, t7.1] : List ( List S95 ))).bind fun t14 => ((impl_BoxSame.f k t13.1 t14.1).bind fun t15 => (if t15 = true then (if ((((t13.2).length : Nat) : Int) = (2 : Int)) then (if ((((t14.2).length : Nat) : Int) = (2 : Int)) then (if ((0 : Int) < (((t13.2).length : Nat) : Int)) then (if ((1 : Int) < (((t14.2).length : Nat) : Int)) then (if ((rd t13.2 (0 : Int)) = (rd t14.2 (1 : Int))) then (if ((1 : Int) < (((t13.2).length : Nat) : Int)) then (if ((0 : Int) < (((t14.2).length : Nat) : Int)) then (some ((decide ((rd t13.2 (1 : Int)) = (rd t14.2 (0 : Int)))))) else (none)) else (none)) else (some (false))) else (none)) else (none)) else (some (false))) else (some (false))) else (some (false)))))) else (some (true)))) else (some (false))))) else (some (false)))))) else (some (false))) else (some (false))))) else (none)) else (none))) else (none)) else (none))))
end
def laws_FnSerial.f (k : Nat) (l0 : List Int) (l1 : List Int) : Option (Bool) := if (((l0.length : Nat) : Int) > (1048576 : Int)) then (some (true)) else (if (((l1.length : Nat) : Int) > (1048576 : Int)) then (some (true)) else ((spec_DrawSerialAll.f k l0).bind fun t0 => ((impl_SerialAll.f k t0.1 t0.2).bind fun t1 => ((spec_SerialAll.f k t0.1 t0.2).bind fun t2 => ((impl_BoxSame.f k t1.1 t2.1).bind fun t3 => (if t3 = true then (if ((((t1.2).length : Nat) : Int) = (((t2.2).length : Nat) : Int)) then (laws_FnSerial.l0 k l1 (0 : Int) t0.1 t0.2 t1.1 t1.2 t2.2) else (some (false))) else (some (false))))))))
open Go Go.Proofs Am
def tau : TypeId → Type
  | 3 => Int
  | 5 => Int
  | 37 => S37
  | 39 => S39
  | 60 => (List S95)
  | 82 => S82
  | 95 => S95
  | _ => Unit
def tabL : List (TypeId × TI) := [(2, ⟨[.int .i64], .scal⟩), (3, ⟨[.int .i64], .scal⟩), (4, ⟨[.bool], .scal⟩), (5, ⟨[.int .u8], .scal⟩), (6, ⟨[.int .u8], .scal⟩), (9, ⟨[.str], .scal⟩), (10, ⟨[.str], .scal⟩), (22, ⟨[.sl 5], .sl 5⟩), (23, ⟨[.sl 39], .sl 39⟩), (24, ⟨[.sl 82], .sl 82⟩), (26, ⟨[.sl 39, .sl 82, .int .i64, .int .i64], .st [(0, 23), (1, 24), (2, 3), (3, 3)]⟩), (29, ⟨[.sl 37], .sl 37⟩), (37, ⟨[.int .i64, .int .i64], .st [(0, 3), (1, 3)]⟩), (39, ⟨[.int .i64, .int .i64], .st [(0, 3), (1, 3)]⟩), (45, ⟨[.sl 3], .sl 3⟩), (49, ⟨[.sl 60], .sl 60⟩), (60, ⟨[.sl 95], .sl 95⟩), (82, ⟨[.int .i64, .int .i64], .st [(0, 3), (1, 3)]⟩), (95, ⟨[.int .i64, .int .i64, .int .i64, .int .i64], .st [(0, 3), (1, 3), (2, 3), (3, 3)]⟩), (158, ⟨[.int .i64, .int .i64, .int .i64, .int .i64], .arr 4 3⟩), (172, ⟨[.sl 5, .int .i64], .st [(0, 22), (1, 3)]⟩), (173, ⟨[.bool, .bool, .bool, .bool], .arr 4 4⟩)]
def rowT : (e : TypeId) → tau e → List (Lf tau)
  | 3, (x : Int) => [.i x]
  | 5, (x : Int) => [.i x]
  | 37, (x : S37) => [.i x.f0, .i x.f1]
  | 39, (x : S39) => [.i x.f0, .i x.f1]
  | 60, (x : (List S95)) => [.l 95 x]
  | 82, (x : S82) => [.i x.f0, .i x.f1]
  | 95, (x : S95) => [.i x.f0, .i x.f1, .i x.f2, .i x.f3]
  | _, _ => []
instance : (e : TypeId) → Inhabited (tau e) := fun e => by unfold tau; split <;> first | exact ⟨(0 : Int)⟩ | exact ⟨false⟩ | exact ⟨(default : ByteArray)⟩ | exact ⟨[]⟩ | exact ⟨()⟩ | exact ⟨z37⟩ | exact ⟨z39⟩ | exact ⟨z82⟩ | exact ⟨z95⟩
def of3 : List (Lf tau) → Int
  | [(.i y0)] => y0
  | _ => (0 : Int)
def of5 : List (Lf tau) → Int
  | [(.i y0)] => y0
  | _ => (0 : Int)
def of37 : List (Lf tau) → S37
  | [(.i y0), (.i y1)] => (⟨y0, y1⟩ : S37)
  | _ => z37
def of39 : List (Lf tau) → S39
  | [(.i y0), (.i y1)] => (⟨y0, y1⟩ : S39)
  | _ => z39
def of60 : List (Lf tau) → (List S95)
  | [(.l 95 y0)] => y0
  | _ => []
def of82 : List (Lf tau) → S82
  | [(.i y0), (.i y1)] => (⟨y0, y1⟩ : S82)
  | _ => z82
def of95 : List (Lf tau) → S95
  | [(.i y0), (.i y1), (.i y2), (.i y3)] => (⟨y0, y1, y2, y3⟩ : S95)
  | _ => z95
def ofT : (e : TypeId) → List (Lf tau) → tau e
  | 3, l => of3 l
  | 5, l => of5 l
  | 37, l => of37 l
  | 39, l => of39 l
  | 60, l => of60 l
  | 82, l => of82 l
  | 95, l => of95 l
  | _, _ => default
def TT : Tab tau := ⟨fun t => lookN t tabL, rowT, ofT, fun t => memN t [3, 5, 37, 39, 60, 82, 95]⟩
def byT : TypeId → Nat := fun t => lookD 1 t [(2, 8), (3, 8), (4, 1), (5, 1), (6, 1), (9, 16), (10, 16), (22, 24), (23, 24), (24, 24), (26, 64), (29, 24), (37, 16), (39, 16), (45, 24), (49, 24), (60, 24), (82, 16), (95, 32), (158, 32), (172, 32), (173, 4)]
def modeL : List (Nat × Nat) := [(78, 1), (79, 1), (145, 1), (98, 1), (150, 1), (99, 1), (100, 1), (38, 1)]
def shpL : List (Nat × List PS) := [(84, [.one .any]), (22, [.one (.sl 37)]), (89, [.one (.sl 37)]), (85, [.one .any]), (170, [.one .any]), (153, [.agg [.any, .any, .any, .any]]), (106, [.one (.sl 95)]), (86, [.one (.sl 39), .one .any]), (87, [.one (.sl 82), .one .any]), (175, [.one (.sl 37), .agg [.own 39, .own 82, .any, .any], .one .any]), (176, [.agg [.own 39, .own 82, .any, .any], .one .any, .one .any]), (166, [.one (.sl 37), .agg [.own 39, .own 82, .any, .any], .one (.own 3), .agg [.any, .any, .any, .any]]), (144, [.one (.sl 37), .one (.sl 95)]), (167, [.one .any, .one .any]), (146, [.one (.own 37), .agg [.sl 39, .sl 82, .any, .any]]), (90, [.one (.sl 37), .one (.sl 95)]), (26, [.one (.sl 37), .one (.sl 60)]), (122, [.one .any, .one .any, .one .any]), (82, [.one (.sl 37)]), (168, [.one .any]), (169, [.one .any]), (151, [.agg [.any, .any, .any, .any]]), (102, [.one (.sl 95)]), (126, [.agg [.sl 39, .sl 82, .any, .any], .one .any]), (127, [.agg [.sl 39, .sl 82, .any, .any], .one .any]), (128, [.one (.sl 39)]), (129, [.one (.sl 82)]), (61, [.one (.sl 37), .one (.sl 95)]), (83, [.agg [.sl 39, .sl 82, .any, .any]]), (93, [.one (.sl 37)]), (117, [.one (.sl 37), .agg [.sl 39, .sl 82, .any, .any]]), (63, [.one (.sl 37), .one (.sl 95)]), (94, [.one (.sl 3)]), (29, [.one (.sl 37), .one (.sl 60)]), (78, [.one (.sl 5)]), (79, [.one .any, .one .any]), (145, [.one .any, .one (.own 3)]), (149, []), (98, [.one .any]), (150, [.one .any]), (99, [.one .any]), (100, [.one .any]), (38, [.one (.sl 5)]), (101, [.one (.sl 37), .one (.sl 37)]), (39, [.one (.sl 37), .one (.sl 37)]), (40, [.one (.sl 5)]), (152, [.agg [.any, .any, .any, .any]]), (103, [.one (.sl 95)]), (104, [.one (.sl 3), .one (.sl 3)]), (105, [.one (.sl 95)]), (41, [.one (.sl 95), .one (.sl 95)]), (107, [.one (.sl 3), .one (.sl 3)]), (154, [.one (.sl 95), .one .any]), (108, [.one (.sl 95)]), (109, [.one (.sl 95)]), (42, [.one (.sl 95), .one (.sl 95)]), (5, [.one (.sl 5), .one (.sl 5)])]
def persL : List (Nat × List Nat) := [(175, [1]), (176, [0]), (166, [2, 1]), (146, [0]), (145, [1])]
def pnL : List (Nat × Nat) := [(166, 1), (145, 1)]
def pnT : FuncId → Nat := fun f => lookD 0 f pnL
def mkE (keep : List (Nat × List (Nat × PS))) (res : List PS) (nb : NB) : Env tau := { T := TT, by_ := byT, mode := fun f => lookD 0 f modeL, shp := fun f => lookD [] f shpL, keep := fun i => lookN i keep, res := res, pers := fun f => lookD [] f persL, pn := pnT, nb := nb }
theorem asked : Asked Try.prog byT tabL := ⟨by kernel_rfl, by kernel_rfl, by kernel_rfl, by kernel_rfl⟩
theorem el_3 : ElOk TT 3 := by
 intro ti h
 replace h : some (⟨[.int .i64], .scal⟩ : TI) = some ti := h
 cases h
 refine ⟨fun x => rfl, fun l hl => ?_⟩
 obtain ⟨y0, l0, e0, h0⟩ := wts_i hl
 have e1 := wts_nil h0
 subst e1
 subst e0
 rfl
theorem el_5 : ElOk TT 5 := by
 intro ti h
 replace h : some (⟨[.int .u8], .scal⟩ : TI) = some ti := h
 cases h
 refine ⟨fun x => rfl, fun l hl => ?_⟩
 obtain ⟨y0, l0, e0, h0⟩ := wts_i hl
 have e1 := wts_nil h0
 subst e1
 subst e0
 rfl
theorem el_37 : ElOk TT 37 := by
 intro ti h
 replace h : some (⟨[.int .i64, .int .i64], .st [(0, 3), (1, 3)]⟩ : TI) = some ti := h
 cases h
 refine ⟨fun x => rfl, fun l hl => ?_⟩
 obtain ⟨y0, l0, e0, h0⟩ := wts_i hl
 obtain ⟨y1, l1, e1, h1⟩ := wts_i h0
 have e2 := wts_nil h1
 subst e2
 subst e1
 subst e0
 rfl
theorem el_39 : ElOk TT 39 := by
 intro ti h
 replace h : some (⟨[.int .i64, .int .i64], .st [(0, 3), (1, 3)]⟩ : TI) = some ti := h
 cases h
 refine ⟨fun x => rfl, fun l hl => ?_⟩
 obtain ⟨y0, l0, e0, h0⟩ := wts_i hl
 obtain ⟨y1, l1, e1, h1⟩ := wts_i h0
 have e2 := wts_nil h1
 subst e2
 subst e1
 subst e0
 rfl
theorem el_60 : ElOk TT 60 := by
 intro ti h
 replace h : some (⟨[.sl 95], .sl 95⟩ : TI) = some ti := h
 cases h
 refine ⟨fun x => rfl, fun l hl => ?_⟩
 obtain ⟨y0, l0, e0, h0⟩ := wts_l hl
 have e1 := wts_nil h0
 subst e1
 subst e0
 rfl
theorem el_82 : ElOk TT 82 := by
 intro ti h
 replace h : some (⟨[.int .i64, .int .i64], .st [(0, 3), (1, 3)]⟩ : TI) = some ti := h
 cases h
 refine ⟨fun x => rfl, fun l hl => ?_⟩
 obtain ⟨y0, l0, e0, h0⟩ := wts_i hl
 obtain ⟨y1, l1, e1, h1⟩ := wts_i h0
 have e2 := wts_nil h1
 subst e2
 subst e1
 subst e0
 rfl
theorem el_95 : ElOk TT 95 := by
 intro ti h
 replace h : some (⟨[.int .i64, .int .i64, .int .i64, .int .i64], .st [(0, 3), (1, 3), (2, 3), (3, 3)]⟩ : TI) = some ti := h
 cases h
 refine ⟨fun x => rfl, fun l hl => ?_⟩
 obtain ⟨y0, l0, e0, h0⟩ := wts_i hl
 obtain ⟨y1, l1, e1, h1⟩ := wts_i h0
 obtain ⟨y2, l2, e2, h2⟩ := wts_i h1
 obtain ⟨y3, l3, e3, h3⟩ := wts_i h2
 have e4 := wts_nil h3
 subst e4
 subst e3
 subst e2
 subst e1
 subst e0
 rfl
theorem pq : PQ Try.prog TT byT := pq_of asked rfl (fun e he => by
 have h := memN_iff.1 he
 simp only [List.mem_cons, List.not_mem_nil, or_false] at h
 rcases h with rfl | rfl | rfl | rfl | rfl | rfl | rfl
 · exact el_3
 · exact el_5
 · exact el_37
 · exact el_39
 · exact el_60
 · exact el_82
 · exact el_95)
theorem hmix : Try.prog.follows .mixedOrders = true := by kernel_rfl
noncomputable def c_84 (args : List (AV tau)) (m : Mem tau) (κ : AV tau → Mem tau → Option Unit) : Option Unit := match args, m.bx, m.rw with
  | [b0], [], [] => bO (asI .i64 b0) fun a0 => callX (fun n => spec_l1Num.f a0) fun t => κ (.bool (t)) ⟨[], []⟩
  | _, _, _ => none
def E_84 : Env tau := mkE [(0, [(0, .one .any)]), (1, [(0, .one .any)])] [.one .any] ⟨0, 0⟩
noncomputable def c_22 (args : List (AV tau)) (m : Mem tau) (κ : AV tau → Mem tau → Option Unit) : Option Unit := match args, m.bx, m.rw with
  | [b0], [], [] => bO (asSl 37 b0) fun l0 => callX (fun n => spec_BoxOk.f n l0) fun t => κ (.bool (t)) ⟨[], []⟩
  | _, _, _ => none
def E_22 : Env tau := mkE [(0, [(0, .one (.own 37))]), (1, [(0, .one (.own 37))]), (2, []), (3, [(0, .one (.own 37))]), (4, [(0, .one (.own 37)), (3, .one .any)]), (5, [(0, .one (.own 37)), (3, .one .any)]), (6, [(0, .one (.own 37)), (3, .one .any)]), (7, []), (8, [])] [.one .any] ⟨0, 0⟩
noncomputable def c_89 (args : List (AV tau)) (m : Mem tau) (κ : AV tau → Mem tau → Option Unit) : Option Unit := match args, m.bx, m.rw with
  | [b0], [], [] => bO (asSl 37 b0) fun l0 => callX (fun n => spec_l1Copy.f l0) fun t => κ (.own 0 0) ⟨[], [some ⟨37, t, 0⟩]⟩
  | _, _, _ => none
def E_89 : Env tau := mkE [(0, [(0, .one (.own 37))]), (1, [(0, .one (.own 37))])] [.one (.own 37)] ⟨0, 0⟩
noncomputable def c_85 (args : List (AV tau)) (m : Mem tau) (κ : AV tau → Mem tau → Option Unit) : Option Unit := match args, m.bx, m.rw with
  | [b0], [], [] => bO (asI .i64 b0) fun a0 => callX (fun n => spec_l2Box.f a0) fun t => κ (.bool (t)) ⟨[], []⟩
  | _, _, _ => none
def E_85 : Env tau := mkE [(0, [(0, .one .any)]), (1, [(0, .one .any)])] [.one .any] ⟨0, 0⟩
noncomputable def c_170 (args : List (AV tau)) (m : Mem tau) (κ : AV tau → Mem tau → Option Unit) : Option Unit := match args, m.bx, m.rw with
  | [b0], [], [] => bO (asI .i64 b0) fun a0 => callX (fun n => spec_l2Reg.f a0) fun t => κ (.bool (t)) ⟨[], []⟩
  | _, _, _ => none
def E_170 : Env tau := mkE [(0, [(0, .one .any)]), (1, [(0, .one .any)])] [.one .any] ⟨0, 0⟩
noncomputable def c_153 (args : List (AV tau)) (m : Mem tau) (κ : AV tau → Mem tau → Option Unit) : Option Unit := match args, m.bx, m.rw with
  | [.agg [b0, b1, b2, b3]], [], [] => bO (asI .i64 b0) fun a0_0 => bO (asI .i64 b1) fun a0_1 => bO (asI .i64 b2) fun a0_2 => bO (asI .i64 b3) fun a0_3 => callX (fun n => spec_l2Ins.f n a0_0 a0_1 a0_2 a0_3) fun t => κ (.bool (t)) ⟨[], []⟩
  | _, _, _ => none
def E_153 : Env tau := mkE [(0, [(0, .agg [.any, .any, .any, .any])]), (1, [(1, .one .any)]), (2, [(1, .one .any), (4, .one .any)]), (3, [(1, .one .any)]), (4, [(1, .one .any), (4, .one .any)]), (5, [(1, .one .any)]), (6, [(1, .one .any), (4, .one .any)]), (7, [(1, .one .any)]), (8, [(1, .one .any), (4, .one .any)]), (9, [(1, .one .any), (4, .one .any)]), (10, [(1, .one .any)]), (11, [(1, .one .any), (4, .one .any)]), (12, [(1, .one .any)]), (13, [(1, .one .any), (4, .one .any)]), (14, [(1, .one .any)]), (15, [])] [.one .any] ⟨0, 0⟩
noncomputable def c_106 (args : List (AV tau)) (m : Mem tau) (κ : AV tau → Mem tau → Option Unit) : Option Unit := match args, m.bx, m.rw with
  | [b0], [], [] => bO (asSl 95 b0) fun l0 => callX (fun n => spec_ProgOk.f n l0) fun t => κ (.bool (t)) ⟨[], []⟩
  | _, _, _ => none
def E_106 : Env tau := mkE [(0, [(0, .one (.own 95))]), (1, [(0, .one (.own 95))]), (2, []), (3, [(0, .one (.own 95))]), (4, [(0, .one (.own 95)), (3, .one .any)]), (5, [(0, .one (.own 95)), (3, .one .any)]), (6, [(0, .one (.own 95)), (3, .one .any)]), (7, []), (8, [])] [.one .any] ⟨0, 0⟩
noncomputable def c_86 (args : List (AV tau)) (m : Mem tau) (κ : AV tau → Mem tau → Option Unit) : Option Unit := match args, m.bx, m.rw with
  | [b0, b1], [], [] => bO (asSl 39 b0) fun l0 => bO (asI .i64 b1) fun a1 => callX (fun n => spec_l3Saw.f n l0 a1) fun t => κ (.bool (t)) ⟨[], []⟩
  | _, _, _ => none
def E_86 : Env tau := mkE [(0, [(0, .one (.own 39)), (1, .one .any)]), (1, [(0, .one (.own 39)), (1, .one .any)]), (2, [(0, .one (.own 39)), (1, .one .any), (5, .one .any)]), (3, [(0, .one (.own 39)), (1, .one .any), (5, .one .any)]), (4, [(0, .one (.own 39)), (1, .one .any), (5, .one .any)]), (5, []), (6, [])] [.one .any] ⟨0, 0⟩
noncomputable def c_87 (args : List (AV tau)) (m : Mem tau) (κ : AV tau → Mem tau → Option Unit) : Option Unit := match args, m.bx, m.rw with
  | [b0, b1], [], [] => bO (asSl 82 b0) fun l0 => bO (asI .i64 b1) fun a1 => callX (fun n => spec_l3At.f n l0 a1) fun t => κ (.int .i64 (t)) ⟨[], []⟩
  | _, _, _ => none
def E_87 : Env tau := mkE [(0, [(0, .one (.own 82)), (1, .one .any)]), (1, [(0, .one (.own 82)), (1, .one .any)]), (2, [(0, .one (.own 82)), (1, .one .any), (5, .one .any)]), (3, [(0, .one (.own 82)), (1, .one .any), (5, .one .any)]), (4, [(0, .one (.own 82)), (1, .one .any), (5, .one .any)]), (5, [(5, .one .any)]), (6, [])] [.one .any] ⟨0, 0⟩
noncomputable def c_175 (args : List (AV tau)) (m : Mem tau) (κ : AV tau → Mem tau → Option Unit) : Option Unit := match args, m.bx, m.rw with
  | [b0, .agg [b1, b2, b3, b4], b5], [], [r0, r1] => bO (asSl 37 b0) fun l0 => bO (asOwn 0 b1) fun _ => bO (asRow 39 r0) fun l1_0 => bO (asOwn 1 b2) fun _ => bO (asRow 82 r1) fun l1_1 => bO (asI .i64 b3) fun a1_2 => bO (asI .i64 b4) fun a1_3 => bO (asI .i64 b5) fun a2 => callX (fun n => spec_l3Look.f n l0 l1_0 l1_1 a1_2 a1_3 a2) fun t => κ (.tup [.int .i64 (t.1), .agg [.own 0 0, .own 1 0, .int .i64 (t.2.2.2.1), .int .i64 (t.2.2.2.2)]]) ⟨[], [some ⟨39, t.2.1, 0⟩, some ⟨82, t.2.2.1, 0⟩]⟩
  | _, _, _ => none
def E_175 : Env tau := mkE [(0, [(0, .one (.own 37)), (1, .agg [.own 39, .own 82, .any, .any]), (2, .one .any)]), (1, [(0, .one (.own 37)), (2, .one .any), (4, .one .any), (7, .one .any)]), (2, [(0, .one (.own 37)), (2, .one .any), (4, .one .any), (7, .one .any), (8, .one .any)]), (3, [(4, .one .any), (7, .one .any), (8, .one .any)]), (4, [(0, .one (.own 37)), (2, .one .any), (4, .one .any), (7, .one .any)]), (5, [(0, .one (.own 37)), (2, .one .any), (4, .one .any), (7, .one .any)]), (6, [(0, .one (.own 37)), (2, .one .any), (4, .one .any), (7, .one .any)])] [.one .any, .agg [.own 39, .own 82, .any, .any]] ⟨0, 0⟩
noncomputable def c_176 (args : List (AV tau)) (m : Mem tau) (κ : AV tau → Mem tau → Option Unit) : Option Unit := match args, m.bx, m.rw with
  | [.agg [b0, b1, b2, b3], b4, b5], [], [r0, r1] => bO (asOwn 0 b0) fun _ => bO (asRow 39 r0) fun l0_0 => bO (asOwn 1 b1) fun _ => bO (asRow 82 r1) fun l0_1 => bO (asI .i64 b2) fun a0_2 => bO (asI .i64 b3) fun a0_3 => bO (asI .i64 b4) fun a1 => bO (asI .i64 b5) fun a2 => callX (fun n => spec_l3Put.f n l0_0 l0_1 a0_2 a0_3 a1 a2) fun t => κ (.agg [.own 0 0, .own 1 0, .int .i64 (t.2.2.1), .int .i64 (t.2.2.2)]) ⟨[], [some ⟨39, t.1, 0⟩, some ⟨82, t.2.1, 0⟩]⟩
  | _, _, _ => none
def E_176 : Env tau := mkE [(0, [(0, .agg [.own 39, .own 82, .any, .any]), (1, .one .any), (2, .one .any)]), (1, [(1, .one .any), (2, .one .any), (3, .one .any), (6, .one .any)]), (2, [(1, .one .any), (2, .one .any), (3, .one .any), (6, .one .any), (7, .one .any)]), (3, [(2, .one .any), (3, .one .any), (6, .one .any), (7, .one .any)]), (4, [(3, .one .any), (6, .one .any)]), (5, [(1, .one .any), (2, .one .any), (3, .one .any), (6, .one .any)]), (6, [(3, .one .any), (6, .one .any)])] [.agg [.own 39, .own 82, .any, .any]] ⟨0, 0⟩
noncomputable def c_166 (args : List (AV tau)) (m : Mem tau) (κ : AV tau → Mem tau → Option Unit) : Option Unit := match args, m.bx, m.rw with
  | [b0, .agg [b1, b2, b3, b4], b5, .agg [b6, b7, b8, b9]], [], [r0, r1, r2] => bO (asSl 37 b0) fun l0 => bO (asOwn 1 b1) fun _ => bO (asRow 39 r1) fun l1_0 => bO (asOwn 2 b2) fun _ => bO (asRow 82 r2) fun l1_1 => bO (asI .i64 b3) fun a1_2 => bO (asI .i64 b4) fun a1_3 => bO (asOwn 0 b5) fun _ => bO (asRow 3 r0) fun l2 => bO (asI .i64 b6) fun a3_0 => bO (asI .i64 b7) fun a3_1 => bO (asI .i64 b8) fun a3_2 => bO (asI .i64 b9) fun a3_3 => callX (fun n => spec_l3Step.f n l0 l1_0 l1_1 a1_2 a1_3 l2 a3_0 a3_1 a3_2 a3_3) fun t => κ (.agg [.own 1 0, .own 2 0, .int .i64 (t.2.2.1), .int .i64 (t.2.2.2.1)]) ⟨[], [some ⟨3, t.2.2.2.2, 0⟩, some ⟨39, t.1, 0⟩, some ⟨82, t.2.1, 0⟩]⟩
  | _, _, _ => none
def E_166 : Env tau := mkE [(0, [(0, .one (.own 37)), (1, .agg [.own 39, .own 82, .any, .any]), (2, .one (.own 3)), (3, .agg [.any, .any, .any, .any])]), (1, [(0, .one (.own 37)), (2, .one (.own 3)), (5, .one .any), (7, .one .any), (8, .one .any)]), (2, [(0, .one (.own 37)), (2, .one (.own 3)), (5, .one .any), (7, .one .any), (8, .one .any), (12, .one .any)]), (3, [(0, .one (.own 37)), (2, .one (.own 3)), (5, .one .any), (7, .one .any), (8, .one .any)]), (4, [(2, .one (.own 3)), (5, .one .any), (7, .one .any), (8, .one .any), (9, .one .any), (10, .one .any)]), (5, [(2, .one (.own 3)), (5, .one .any), (7, .one .any), (8, .one .any), (10, .one .any)]), (6, [(2, .one (.own 3)), (5, .one .any), (7, .one .any), (8, .one .any), (12, .one .any)]), (7, [(2, .one (.own 3)), (5, .one .any), (7, .one .any), (8, .one .any)]), (8, [(2, .one (.own 3)), (5, .one .any), (7, .one .any), (8, .one .any), (12, .one .any)]), (9, [(2, .one (.own 3)), (5, .one .any), (7, .one .any), (8, .one .any)]), (10, [(2, .one (.own 3)), (5, .one .any), (7, .one .any), (8, .one .any), (12, .one .any)]), (11, [(2, .one (.own 3)), (5, .one .any), (7, .one .any), (8, .one .any)]), (12, [(2, .one (.own 3)), (5, .one .any), (7, .one .any), (8, .one .any), (12, .one .any)]), (13, [(2, .one (.own 3)), (5, .one .any), (7, .one .any), (8, .one .any)]), (14, [(2, .one (.own 3)), (5, .one .any), (7, .one .any), (8, .one .any), (12, .one .any)]), (15, [(2, .one (.own 3)), (5, .one .any), (7, .one .any), (8, .one .any)]), (16, [(2, .one (.own 3)), (5, .one .any), (7, .one .any), (8, .one .any)]), (17, [(5, .one .any), (8, .one .any)]), (18, [(5, .one .any), (8, .one .any)])] [.agg [.own 39, .own 82, .any, .any]] ⟨0, 1⟩
noncomputable def c_144 (args : List (AV tau)) (m : Mem tau) (κ : AV tau → Mem tau → Option Unit) : Option Unit := match args, m.bx, m.rw with
  | [b0, b1], [], [] => bO (asSl 37 b0) fun l0 => bO (asSl 95 b1) fun l1 => callX (fun n => spec_ExecRun.f n l0 l1) fun t => κ (.agg [.own 0 0, .own 1 0, .int .i64 (t.2.2.1), .int .i64 (t.2.2.2)]) ⟨[], [some ⟨39, t.1, 0⟩, some ⟨82, t.2.1, 0⟩]⟩
  | _, _, _ => none
def E_144 : Env tau := mkE [(0, [(0, .one (.own 37)), (1, .one (.own 95))]), (1, [(0, .one (.own 37)), (1, .one (.own 95)), (4, .one .any)]), (2, [(4, .one .any)]), (3, [(0, .one (.own 37)), (1, .one (.own 95)), (4, .one .any)]), (4, [(0, .one (.own 37)), (1, .one (.own 95)), (4, .one .any), (5, .one .any)]), (5, [(0, .one (.own 37)), (1, .one (.own 95)), (4, .one .any), (5, .one .any), (6, .one (.own 3))]), (6, [(0, .one (.own 37)), (1, .one (.own 95)), (4, .one .any), (5, .one .any), (6, .one (.own 3)), (7, .one .any)]), (7, [(0, .one (.own 37)), (1, .one (.own 95)), (4, .one .any), (5, .one .any), (6, .one (.own 3)), (7, .one .any)]), (8, [(0, .one (.own 37)), (1, .one (.own 95)), (4, .one .any), (5, .one .any), (6, .one (.own 3)), (7, .one .any)]), (9, [(0, .one (.own 37)), (1, .one (.own 95)), (4, .one .any), (5, .one .any), (6, .one (.own 3)), (7, .one .any), (8, .one .any)]), (10, [(0, .one (.own 37)), (1, .one (.own 95)), (4, .one .any), (5, .one .any), (6, .one (.own 3)), (7, .one .any), (8, .one .any)]), (11, [(0, .one (.own 37)), (1, .one (.own 95)), (4, .one .any), (5, .one .any), (6, .one (.own 3)), (7, .one .any), (8, .one .any)]), (12, [(0, .one (.own 37)), (1, .one (.own 95)), (4, .one .any), (5, .one .any), (6, .one (.own 3)), (7, .one .any), (8, .one .any)]), (13, [(4, .one .any), (5, .one .any), (6, .one (.own 3))]), (14, [(4, .one .any), (5, .one .any)]), (15, [(4, .one .any), (5, .one .any)]), (16, [(4, .one .any), (5, .one .any), (6, .one (.own 3))]), (17, [(4, .one .any), (5, .one .any)])] [.agg [.own 39, .own 82, .any, .any]] ⟨0, 0⟩
noncomputable def c_167 (args : List (AV tau)) (m : Mem tau) (κ : AV tau → Mem tau → Option Unit) : Option Unit := match args, m.bx, m.rw with
  | [b0, b1], [], [] => bO (asI .i64 b0) fun a0 => bO (asI .i64 b1) fun a1 => callX (fun n => spec_l1Min.f a0 a1) fun t => κ (.int .i64 (t)) ⟨[], []⟩
  | _, _, _ => none
def E_167 : Env tau := mkE [(0, [(0, .one .any), (1, .one .any)]), (1, [(0, .one .any), (1, .one .any)]), (2, [(0, .one .any)]), (3, [(1, .one .any)])] [.one .any] ⟨0, 0⟩
noncomputable def c_146 (args : List (AV tau)) (m : Mem tau) (κ : AV tau → Mem tau → Option Unit) : Option Unit := match args, m.bx, m.rw with
  | [b0, .agg [b1, b2, b3, b4]], [], [r0] => bO (asOwn 0 b0) fun _ => bO (asRow 37 r0) fun l0 => bO (asSl 39 b1) fun l1_0 => bO (asSl 82 b2) fun l1_1 => bO (asI .i64 b3) fun a1_2 => bO (asI .i64 b4) fun a1_3 => callX (fun n => spec_l3Do.f n l0 l1_0 l1_1 a1_2 a1_3) fun t => κ (.own 0 0) ⟨[], [some ⟨37, t, 0⟩]⟩
  | _, _, _ => none
def E_146 : Env tau := mkE [(0, [(0, .one (.own 37)), (1, .agg [.own 39, .own 82, .any, .any])]), (1, [(0, .one (.own 37)), (3, .one .any)]), (2, [(0, .one (.own 37)), (3, .one .any), (5, .one .any)]), (3, [(0, .one (.own 37)), (3, .one .any), (5, .one .any)]), (4, [(0, .one (.own 37)), (3, .one .any), (5, .one .any)]), (5, [(0, .one (.own 37)), (3, .one .any), (5, .one .any), (6, .one .any)]), (6, [(0, .one (.own 37))])] [.one (.own 37)] ⟨0, 0⟩
noncomputable def c_90 (args : List (AV tau)) (m : Mem tau) (κ : AV tau → Mem tau → Option Unit) : Option Unit := match args, m.bx, m.rw with
  | [b0, b1], [], [] => bO (asSl 37 b0) fun l0 => bO (asSl 95 b1) fun l1 => callX (fun n => spec_SerialOne.f n l0 l1) fun t => κ (.tup [.own 0 0, .int .i64 (t.2.1), .int .i64 (t.2.2)]) ⟨[], [some ⟨37, t.1, 0⟩]⟩
  | _, _, _ => none
def E_90 : Env tau := mkE [(0, [(0, .one (.own 37)), (1, .one (.own 95))]), (1, [(0, .one (.own 37)), (1, .one (.own 95))]), (2, [(0, .one (.own 37)), (7, .one .any)]), (3, []), (4, [(0, .one (.own 37)), (7, .one .any)])] [.one (.own 37), .one .any, .one .any] ⟨0, 0⟩
noncomputable def c_26 (args : List (AV tau)) (m : Mem tau) (κ : AV tau → Mem tau → Option Unit) : Option Unit := match args, m.bx, m.rw with
  | [b0, b1], [], [] => bO (asSl 37 b0) fun l0 => bO (asSl 60 b1) fun l1 => callX (fun n => spec_SerialAll.f n l0 l1) fun t => κ (.tup [.own 0 0, .own 1 0]) ⟨[], [some ⟨37, t.1, 0⟩, some ⟨3, t.2, 0⟩]⟩
  | _, _, _ => none
def E_26 : Env tau := mkE [(0, [(0, .one (.own 37)), (1, .one (.own 60))]), (1, [(0, .one (.own 37)), (1, .one (.own 60))]), (2, []), (3, [(0, .one (.own 37)), (1, .one (.own 60))]), (4, [(0, .one (.own 37)), (1, .one (.own 60)), (6, .one (.own 3))]), (5, [(1, .one (.own 60)), (6, .one (.own 3)), (7, .one (.own 37))]), (6, [(1, .one (.own 60)), (6, .one (.own 3)), (7, .one (.own 37)), (8, .one .any)]), (7, [(1, .one (.own 60)), (6, .one (.own 3)), (7, .one (.own 37)), (8, .one .any)]), (8, [(1, .one (.own 60)), (6, .one (.own 3)), (7, .one (.own 37)), (8, .one .any)]), (9, [(1, .one (.own 60)), (6, .one (.own 3)), (8, .one .any), (9, .one (.own 37)), (10, .one .any), (11, .one .any)]), (10, []), (11, [(1, .one (.own 60)), (6, .one (.own 3)), (8, .one .any), (9, .one (.own 37)), (10, .one .any)]), (12, [(1, .one (.own 60)), (6, .one (.own 3)), (7, .one (.own 37)), (8, .one .any), (10, .one .any)]), (13, [(6, .one (.own 3)), (7, .one (.own 37))])] [.one (.own 37), .one (.own 3)] ⟨0, 0⟩
noncomputable def c_122 (args : List (AV tau)) (m : Mem tau) (κ : AV tau → Mem tau → Option Unit) : Option Unit := match args, m.bx, m.rw with
  | [b0, b1, b2], [], [] => bO (asI .i64 b0) fun a0 => bO (asI .i64 b1) fun a1 => bO (asI .i64 b2) fun a2 => callX (fun n => impl_in.f a0 a1 a2) fun t => κ (.bool (t)) ⟨[], []⟩
  | _, _, _ => none
def E_122 : Env tau := mkE [(0, [(0, .one .any), (1, .one .any), (2, .one .any)]), (1, [(0, .one .any), (1, .one .any), (2, .one .any)])] [.one .any] ⟨0, 0⟩
noncomputable def c_82 (args : List (AV tau)) (m : Mem tau) (κ : AV tau → Mem tau → Option Unit) : Option Unit := match args, m.bx, m.rw with
  | [b0], [], [] => bO (asSl 37 b0) fun l0 => callX (fun n => impl_BoxOk.f n l0) fun t => κ (.bool (t)) ⟨[], []⟩
  | _, _, _ => none
def E_82 : Env tau := mkE [(0, [(0, .one (.own 37))]), (1, [(0, .one (.own 37))]), (2, [(0, .one (.own 37)), (5, .one (.own 37)), (6, .one .any), (7, .one .any)]), (3, [(0, .one (.own 37)), (5, .one (.own 37)), (6, .one .any), (7, .one .any)]), (4, [(0, .one (.own 37)), (4, .one .any), (5, .one (.own 37)), (6, .one .any), (7, .one .any)]), (5, []), (6, [(0, .one (.own 37)), (5, .one (.own 37)), (6, .one .any), (7, .one .any)]), (7, [(0, .one (.own 37))])] [.one .any] ⟨0, 0⟩
noncomputable def c_168 (args : List (AV tau)) (m : Mem tau) (κ : AV tau → Mem tau → Option Unit) : Option Unit := match args, m.bx, m.rw with
  | [b0], [], [] => bO (asI .i64 b0) fun a0 => callX (fun n => impl_insOk_1.f a0) fun t => κ (.bool (t)) ⟨[], []⟩
  | _, _, _ => none
def E_168 : Env tau := mkE [(0, [(0, .one .any)]), (1, [(0, .one .any)])] [.one .any] ⟨0, 0⟩
noncomputable def c_169 (args : List (AV tau)) (m : Mem tau) (κ : AV tau → Mem tau → Option Unit) : Option Unit := match args, m.bx, m.rw with
  | [b0], [], [] => bO (asI .i64 b0) fun a0 => callX (fun n => impl_insOk_2.f a0) fun t => κ (.bool (t)) ⟨[], []⟩
  | _, _, _ => none
def E_169 : Env tau := mkE [(0, [(0, .one .any)]), (1, [(0, .one .any)])] [.one .any] ⟨0, 0⟩
noncomputable def c_151 (args : List (AV tau)) (m : Mem tau) (κ : AV tau → Mem tau → Option Unit) : Option Unit := match args, m.bx, m.rw with
  | [.agg [b0, b1, b2, b3]], [], [] => bO (asI .i64 b0) fun a0_0 => bO (asI .i64 b1) fun a0_1 => bO (asI .i64 b2) fun a0_2 => bO (asI .i64 b3) fun a0_3 => callX (fun n => impl_insOk.f n a0_0 a0_1 a0_2 a0_3) fun t => κ (.bool (t)) ⟨[], []⟩
  | _, _, _ => none
def E_151 : Env tau := mkE [(0, [(0, .agg [.any, .any, .any, .any])]), (1, [(1, .one .any)]), (2, [(1, .one .any), (3, .one .any)]), (3, [(1, .one .any), (3, .one .any), (4, .one .any)]), (4, [(1, .one .any), (3, .one .any), (4, .one .any), (6, .one .any)]), (5, [(1, .one .any), (3, .one .any), (4, .one .any)]), (6, [(1, .one .any), (3, .one .any), (4, .one .any), (6, .one .any)]), (7, [(1, .one .any), (3, .one .any), (4, .one .any)]), (8, [(1, .one .any), (3, .one .any), (6, .one .any)]), (9, [(1, .one .any), (3, .one .any)]), (10, [(1, .one .any), (3, .one .any), (6, .one .any)]), (11, [(1, .one .any), (3, .one .any), (6, .one .any)]), (12, [(1, .one .any), (3, .one .any)]), (13, [(1, .one .any), (3, .one .any), (6, .one .any)]), (14, [(1, .one .any), (3, .one .any)]), (15, [(1, .one .any), (6, .one .any)]), (16, [(1, .one .any)]), (17, [])] [.one .any] ⟨0, 0⟩
noncomputable def c_102 (args : List (AV tau)) (m : Mem tau) (κ : AV tau → Mem tau → Option Unit) : Option Unit := match args, m.bx, m.rw with
  | [b0], [], [] => bO (asSl 95 b0) fun l0 => callX (fun n => impl_ProgOk.f n l0) fun t => κ (.bool (t)) ⟨[], []⟩
  | _, _, _ => none
def E_102 : Env tau := mkE [(0, [(0, .one (.own 95))]), (1, [(0, .one (.own 95))]), (2, [(0, .one (.own 95)), (5, .one (.own 95)), (6, .one .any), (7, .one .any)]), (3, [(0, .one (.own 95)), (5, .one (.own 95)), (6, .one .any), (7, .one .any)]), (4, [(0, .one (.own 95)), (4, .one .any), (5, .one (.own 95)), (6, .one .any), (7, .one .any)]), (5, []), (6, [(0, .one (.own 95)), (5, .one (.own 95)), (6, .one .any), (7, .one .any)]), (7, [(0, .one (.own 95))])] [.one .any] ⟨0, 0⟩
noncomputable def c_126 (args : List (AV tau)) (m : Mem tau) (κ : AV tau → Mem tau → Option Unit) : Option Unit := match args, m.bx, m.rw with
  | [.agg [b0, b1, b2, b3], b4], [], [] => bO (asSl 39 b0) fun l0_0 => bO (asSl 82 b1) fun l0_1 => bO (asI .i64 b2) fun a0_2 => bO (asI .i64 b3) fun a0_3 => bO (asI .i64 b4) fun a1 => callX (fun n => impl_putAt.f n l0_0 l0_1 a0_2 a0_3 a1) fun t => κ (.int .i64 (t)) ⟨[], []⟩
  | _, _, _ => none
def E_126 : Env tau := mkE [(0, [(0, .agg [.own 39, .own 82, .any, .any]), (1, .one .any)]), (1, [(1, .one .any), (2, .one .any)]), (2, [(1, .one .any), (8, .one (.own 82)), (9, .one .any), (10, .one .any)]), (3, [(1, .one .any), (8, .one (.own 82)), (9, .one .any), (10, .one .any)]), (4, [(1, .one .any), (5, .one .any), (6, .one .any), (8, .one (.own 82)), (9, .one .any), (10, .one .any)]), (5, [(5, .one .any)]), (6, [(1, .one .any), (8, .one (.own 82)), (9, .one .any), (10, .one .any)]), (7, [])] [.one .any] ⟨0, 0⟩
noncomputable def c_127 (args : List (AV tau)) (m : Mem tau) (κ : AV tau → Mem tau → Option Unit) : Option Unit := match args, m.bx, m.rw with
  | [.agg [b0, b1, b2, b3], b4], [], [] => bO (asSl 39 b0) fun l0_0 => bO (asSl 82 b1) fun l0_1 => bO (asI .i64 b2) fun a0_2 => bO (asI .i64 b3) fun a0_3 => bO (asI .i64 b4) fun a1 => callX (fun n => impl_readAt.f n l0_0 l0_1 a0_2 a0_3 a1) fun t => κ (.int .i64 (t)) ⟨[], []⟩
  | _, _, _ => none
def E_127 : Env tau := mkE [(0, [(0, .agg [.own 39, .own 82, .any, .any]), (1, .one .any)]), (1, [(1, .one .any), (2, .one .any)]), (2, [(1, .one .any), (8, .one (.own 39)), (9, .one .any), (10, .one .any)]), (3, [(1, .one .any), (8, .one (.own 39)), (9, .one .any), (10, .one .any)]), (4, [(1, .one .any), (5, .one .any), (6, .one .any), (8, .one (.own 39)), (9, .one .any), (10, .one .any)]), (5, [(5, .one .any)]), (6, [(1, .one .any), (8, .one (.own 39)), (9, .one .any), (10, .one .any)]), (7, [])] [.one .any] ⟨0, 0⟩
noncomputable def c_128 (args : List (AV tau)) (m : Mem tau) (κ : AV tau → Mem tau → Option Unit) : Option Unit := match args, m.bx, m.rw with
  | [b0], [], [] => bO (asSl 39 b0) fun l0 => callX (fun n => impl_copied_impl_Read.f l0) fun t => κ (.own 0 0) ⟨[], [some ⟨39, t, 0⟩]⟩
  | _, _, _ => none
def E_128 : Env tau := mkE [(0, [(0, .one (.own 39))]), (1, [(0, .one (.own 39))]), (2, []), (3, [(0, .one (.own 39))]), (4, [(0, .one (.own 39)), (3, .one (.own 39))]), (5, [(3, .one (.own 39))])] [.one (.own 39)] ⟨0, 0⟩
noncomputable def c_129 (args : List (AV tau)) (m : Mem tau) (κ : AV tau → Mem tau → Option Unit) : Option Unit := match args, m.bx, m.rw with
  | [b0], [], [] => bO (asSl 82 b0) fun l0 => callX (fun n => impl_copied_impl_Put.f l0) fun t => κ (.own 0 0) ⟨[], [some ⟨82, t, 0⟩]⟩
  | _, _, _ => none
def E_129 : Env tau := mkE [(0, [(0, .one (.own 82))]), (1, [(0, .one (.own 82))]), (2, []), (3, [(0, .one (.own 82))]), (4, [(0, .one (.own 82)), (3, .one (.own 82))]), (5, [(3, .one (.own 82))])] [.one (.own 82)] ⟨0, 0⟩
noncomputable def c_61 (args : List (AV tau)) (m : Mem tau) (κ : AV tau → Mem tau → Option Unit) : Option Unit := match args, m.bx, m.rw with
  | [b0, b1], [], [] => bO (asSl 37 b0) fun l0 => bO (asSl 95 b1) fun l1 => callX (fun n => impl_ExecRun.f n l0 l1) fun t => κ (.agg [.own 0 0, .own 1 0, .int .i64 (t.2.2.1), .int .i64 (t.2.2.2)]) ⟨[], [some ⟨39, t.1, 0⟩, some ⟨82, t.2.1, 0⟩]⟩
  | _, _, _ => none
def E_61 : Env tau := mkE [(0, [(0, .one (.own 37)), (1, .one (.own 95))]), (1, [(0, .one (.own 37)), (1, .one (.own 95)), (4, .one .any)]), (2, [(4, .one .any)]), (3, [(0, .one (.own 37)), (1, .one (.own 95)), (4, .one .any)]), (4, [(0, .one (.own 37)), (1, .one (.own 95)), (4, .one .any), (5, .one .any)]), (5, [(0, .one (.own 37)), (1, .one (.own 95)), (4, .one .any), (5, .one .any), (6, .one .any)]), (6, [(0, .one (.own 37)), (1, .one (.own 95)), (4, .one .any), (5, .one .any), (6, .one .any), (7, .one .any)]), (7, [(0, .one (.own 37)), (1, .one (.own 95)), (4, .one .any), (5, .one .any), (6, .one .any), (7, .one .any)]), (8, [(0, .one (.own 37)), (1, .one (.own 95)), (4, .one .any), (5, .one .any), (6, .one .any), (7, .one .any)]), (9, [(0, .one (.own 37)), (1, .one (.own 95)), (4, .one .any), (5, .one .any), (6, .one .any), (7, .one .any), (8, .one .any)]), (10, [(0, .one (.own 37)), (1, .one (.own 95)), (4, .one .any), (5, .one .any), (6, .one .any), (7, .one .any), (8, .one .any), (34, .one .any)]), (11, [(0, .one (.own 37)), (1, .one (.own 95)), (4, .one .any), (5, .one .any), (6, .one .any), (7, .one .any), (8, .one .any)]), (12, [(0, .one (.own 37)), (1, .one (.own 95)), (4, .one .any), (5, .one .any), (6, .one .any), (7, .one .any), (8, .one .any), (9, .one .any)]), (13, [(0, .one (.own 37)), (1, .one (.own 95)), (4, .one .any), (5, .one .any), (6, .one .any), (7, .one .any), (8, .one .any), (9, .one .any)]), (14, [(0, .one (.own 37)), (1, .one (.own 95)), (4, .one .any), (5, .one .any), (6, .one .any), (7, .one .any), (8, .one .any)]), (15, [(0, .one (.own 37)), (1, .one (.own 95)), (4, .one .any), (5, .one .any), (6, .one .any), (7, .one .any), (8, .one .any)]), (16, [(0, .one (.own 37)), (1, .one (.own 95)), (4, .one .any), (5, .one .any), (6, .one .any), (7, .one .any), (8, .one .any)]), (17, [(0, .one (.own 37)), (1, .one (.own 95)), (4, .one .any), (5, .one .any), (6, .one .any), (7, .one .any), (8, .one .any), (34, .one .any)]), (18, [(0, .one (.own 37)), (1, .one (.own 95)), (4, .one .any), (5, .one .any), (6, .one .any), (7, .one .any), (8, .one .any)]), (19, [(0, .one (.own 37)), (1, .one (.own 95)), (4, .one .any), (5, .one .any), (6, .one .any), (7, .one .any), (8, .one .any), (10, .one .any)]), (20, [(0, .one (.own 37)), (1, .one (.own 95)), (4, .one .any), (5, .one .any), (6, .one .any), (7, .one .any), (8, .one .any), (10, .one .any)]), (21, [(0, .one (.own 37)), (1, .one (.own 95)), (4, .one .any), (5, .one .any), (6, .one .any), (7, .one .any), (8, .one .any)]), (22, [(0, .one (.own 37)), (1, .one (.own 95)), (4, .one .any), (5, .one .any), (6, .one .any), (7, .one .any), (8, .one .any), (34, .one .any)]), (23, [(0, .one (.own 37)), (1, .one (.own 95)), (4, .one .any), (5, .one .any), (6, .one .any), (7, .one .any), (8, .one .any)]), (24, [(0, .one (.own 37)), (1, .one (.own 95)), (4, .one .any), (5, .one .any), (6, .one .any), (7, .one .any), (8, .one .any), (34, .one .any)]), (25, [(0, .one (.own 37)), (1, .one (.own 95)), (4, .one .any), (5, .one .any), (6, .one .any), (7, .one .any), (8, .one .any)]), (26, [(0, .one (.own 37)), (1, .one (.own 95)), (4, .one .any), (5, .one .any), (6, .one .any), (7, .one .any), (8, .one .any), (34, .one .any)]), (27, [(0, .one (.own 37)), (1, .one (.own 95)), (4, .one .any), (5, .one .any), (6, .one .any), (7, .one .any), (8, .one .any)]), (28, [(0, .one (.own 37)), (1, .one (.own 95)), (4, .one .any), (5, .one .any), (6, .one .any), (7, .one .any), (8, .one .any), (34, .one .any)]), (29, [(0, .one (.own 37)), (1, .one (.own 95)), (4, .one .any), (5, .one .any), (6, .one .any), (7, .one .any), (8, .one .any)]), (30, [(0, .one (.own 37)), (1, .one (.own 95)), (4, .one .any), (5, .one .any), (6, .one .any), (7, .one .any), (8, .one .any)]), (31, [(0, .one (.own 37)), (1, .one (.own 95)), (4, .one .any), (5, .one .any), (6, .one .any), (7, .one .any), (34, .one .any)]), (32, [(4, .one .any), (6, .one .any)]), (33, [(0, .one (.own 37)), (1, .one (.own 95)), (4, .one .any), (5, .one .any), (6, .one .any), (7, .one .any)]), (34, [(0, .one (.own 37)), (1, .one (.own 95)), (4, .one .any), (5, .one .any), (6, .one .any), (7, .one .any), (161, .agg [.any, .any, .any, .any]), (162, .one .any)]), (35, [(0, .one (.own 37)), (1, .one (.own 95)), (4, .one .any), (5, .one .any), (6, .one .any), (7, .one .any), (161, .agg [.any, .any, .any, .any]), (162, .one .any)]), (36, [(0, .one (.own 37)), (1, .one (.own 95)), (4, .one .any), (5, .one .any), (6, .one .any), (7, .one .any), (12, .one .any), (161, .agg [.any, .any, .any, .any]), (162, .one .any)]), (37, [(4, .one .any), (6, .one .any)]), (38, [(0, .one (.own 37)), (1, .one (.own 95)), (4, .one .any), (5, .one .any), (6, .one .any), (7, .one .any), (161, .agg [.any, .any, .any, .any]), (162, .one .any)]), (39, [(4, .one .any), (5, .one .any), (6, .one .any)])] [.agg [.own 39, .own 82, .any, .any]] ⟨0, 0⟩
noncomputable def c_83 (args : List (AV tau)) (m : Mem tau) (κ : AV tau → Mem tau → Option Unit) : Option Unit := match args, m.bx, m.rw with
  | [.agg [b0, b1, b2, b3]], [], [] => bO (asSl 39 b0) fun l0_0 => bO (asSl 82 b1) fun l0_1 => bO (asI .i64 b2) fun a0_2 => bO (asI .i64 b3) fun a0_3 => callX (fun n => impl_ExecOk.f n l0_0 l0_1 a0_2 a0_3) fun t => κ (.bool (t)) ⟨[], []⟩
  | _, _, _ => none
def E_83 : Env tau := mkE [(0, [(0, .agg [.own 39, .own 82, .any, .any])]), (1, [(1, .one .any)]), (2, []), (3, [(1, .one .any)]), (4, [(1, .one .any), (3, .one .any), (4, .one .any)]), (5, [(1, .one .any), (3, .one .any), (4, .one .any), (47, .one (.own 39)), (48, .one .any), (49, .one .any)]), (6, [(1, .one .any), (3, .one .any), (4, .one .any), (47, .one (.own 39)), (48, .one .any), (49, .one .any)]), (7, [(1, .one .any), (3, .one .any), (4, .one .any), (6, .one .any), (47, .one (.own 39)), (48, .one .any), (49, .one .any)]), (8, []), (9, [(1, .one .any), (3, .one .any), (4, .one .any), (6, .one .any), (47, .one (.own 39)), (48, .one .any), (49, .one .any)]), (10, [(1, .one .any), (3, .one .any), (4, .one .any), (47, .one (.own 39)), (48, .one .any), (49, .one .any)]), (11, [(1, .one .any), (4, .one .any)]), (12, [(4, .one .any), (74, .one (.own 82)), (75, .one .any), (76, .one .any)]), (13, [(4, .one .any), (74, .one (.own 82)), (75, .one .any), (76, .one .any)]), (14, [(4, .one .any), (8, .one .any), (74, .one (.own 82)), (75, .one .any), (76, .one .any)]), (15, []), (16, [(4, .one .any), (8, .one .any), (74, .one (.own 82)), (75, .one .any), (76, .one .any)]), (17, [(4, .one .any), (74, .one (.own 82)), (75, .one .any), (76, .one .any)]), (18, [])] [.one .any] ⟨0, 0⟩
noncomputable def c_93 (args : List (AV tau)) (m : Mem tau) (κ : AV tau → Mem tau → Option Unit) : Option Unit := match args, m.bx, m.rw with
  | [b0], [], [] => bO (asSl 37 b0) fun l0 => callX (fun n => impl_copied_impl_Box.f l0) fun t => κ (.own 0 0) ⟨[], [some ⟨37, t, 0⟩]⟩
  | _, _, _ => none
def E_93 : Env tau := mkE [(0, [(0, .one (.own 37))]), (1, [(0, .one (.own 37))]), (2, []), (3, [(0, .one (.own 37))]), (4, [(0, .one (.own 37)), (3, .one (.own 37))]), (5, [(3, .one (.own 37))])] [.one (.own 37)] ⟨0, 0⟩
noncomputable def c_117 (args : List (AV tau)) (m : Mem tau) (κ : AV tau → Mem tau → Option Unit) : Option Unit := match args, m.bx, m.rw with
  | [b0, .agg [b1, b2, b3, b4]], [], [] => bO (asSl 37 b0) fun l0 => bO (asSl 39 b1) fun l1_0 => bO (asSl 82 b2) fun l1_1 => bO (asI .i64 b3) fun a1_2 => bO (asI .i64 b4) fun a1_3 => callX (fun n => impl_ExecDo.f n l0 l1_0 l1_1 a1_2 a1_3) fun t => κ (.own 0 0) ⟨[], [some ⟨37, t, 0⟩]⟩
  | _, _, _ => none
def E_117 : Env tau := mkE [(0, [(0, .one (.own 37)), (1, .agg [.own 39, .own 82, .any, .any])]), (1, [(0, .one (.own 37)), (3, .one .any)]), (2, []), (3, [(0, .one (.own 37)), (3, .one .any)]), (4, [(3, .one .any), (5, .one (.own 37))]), (5, [(5, .one (.own 37)), (19, .one (.own 82)), (20, .one .any), (21, .one .any)]), (6, [(5, .one (.own 37)), (19, .one (.own 82)), (20, .one .any), (21, .one .any)]), (7, [(5, .one (.own 37)), (7, .one .any), (19, .one (.own 82)), (20, .one .any), (21, .one .any)]), (8, [(5, .one (.own 37)), (19, .one (.own 82)), (20, .one .any), (21, .one .any)]), (9, [(5, .one (.own 37))])] [.one (.own 37)] ⟨0, 0⟩
noncomputable def c_63 (args : List (AV tau)) (m : Mem tau) (κ : AV tau → Mem tau → Option Unit) : Option Unit := match args, m.bx, m.rw with
  | [b0, b1], [], [] => bO (asSl 37 b0) fun l0 => bO (asSl 95 b1) fun l1 => callX (fun n => impl_SerialOne.f n l0 l1) fun t => κ (.tup [.own 0 0, .int .i64 (t.2.1), .int .i64 (t.2.2)]) ⟨[], [some ⟨37, t.1, 0⟩]⟩
  | _, _, _ => none
def E_63 : Env tau := mkE [(0, [(0, .one (.own 37)), (1, .one (.own 95))]), (1, [(0, .one (.own 37)), (1, .one (.own 95))]), (2, [(0, .one (.own 37)), (7, .one .any)]), (3, []), (4, [(0, .one (.own 37)), (7, .one .any)])] [.one (.own 37), .one .any, .one .any] ⟨0, 0⟩
noncomputable def c_94 (args : List (AV tau)) (m : Mem tau) (κ : AV tau → Mem tau → Option Unit) : Option Unit := match args, m.bx, m.rw with
  | [b0], [], [] => bO (asSl 3 b0) fun l0 => callX (fun n => impl_copied_int.f l0) fun t => κ (.own 0 0) ⟨[], [some ⟨3, t, 0⟩]⟩
  | _, _, _ => none
def E_94 : Env tau := mkE [(0, [(0, .one (.own 3))]), (1, [(0, .one (.own 3))]), (2, []), (3, [(0, .one (.own 3))]), (4, [(0, .one (.own 3)), (3, .one (.own 3))]), (5, [(3, .one (.own 3))])] [.one (.own 3)] ⟨0, 0⟩
noncomputable def c_29 (args : List (AV tau)) (m : Mem tau) (κ : AV tau → Mem tau → Option Unit) : Option Unit := match args, m.bx, m.rw with
  | [b0, b1], [], [] => bO (asSl 37 b0) fun l0 => bO (asSl 60 b1) fun l1 => callX (fun n => impl_SerialAll.f n l0 l1) fun t => κ (.tup [.own 0 0, .own 1 0]) ⟨[], [some ⟨37, t.1, 0⟩, some ⟨3, t.2, 0⟩]⟩
  | _, _, _ => none
def E_29 : Env tau := mkE [(0, [(0, .one (.own 37)), (1, .one (.own 60))]), (1, [(0, .one (.own 37)), (1, .one (.own 60))]), (2, []), (3, [(0, .one (.own 37)), (1, .one (.own 60))]), (4, [(1, .one (.own 60)), (6, .one (.own 37))]), (5, [(1, .one (.own 60)), (6, .one (.own 37)), (7, .one (.own 3))]), (6, [(6, .one (.own 37)), (7, .one (.own 3)), (23, .one (.own 60)), (24, .one .any), (25, .one .any)]), (7, [(6, .one (.own 37)), (7, .one (.own 3)), (23, .one (.own 60)), (24, .one .any), (25, .one .any)]), (8, [(6, .one (.own 37)), (7, .one (.own 3)), (9, .one (.own 95)), (23, .one (.own 60)), (24, .one .any), (25, .one .any)]), (9, [(7, .one (.own 3)), (10, .one (.own 37)), (11, .one .any), (12, .one .any), (23, .one (.own 60)), (24, .one .any), (25, .one .any)]), (10, []), (11, [(7, .one (.own 3)), (10, .one (.own 37)), (11, .one .any), (23, .one (.own 60)), (24, .one .any), (25, .one .any)]), (12, [(6, .one (.own 37)), (7, .one (.own 3)), (11, .one .any), (23, .one (.own 60)), (24, .one .any), (25, .one .any)]), (13, [(6, .one (.own 37)), (7, .one (.own 3)), (23, .one (.own 60)), (24, .one .any), (25, .one .any)]), (14, [(6, .one (.own 37)), (7, .one (.own 3))])] [.one (.own 37), .one (.own 3)] ⟨0, 0⟩
noncomputable def c_78 (args : List (AV tau)) (m : Mem tau) (κ : AV tau → Mem tau → Option Unit) : Option Unit := match args, m.bx, m.rw with
  | [b0], [], [] => bO (asSl 5 b0) fun l0 => callX (fun n => spec_l15Open.f l0) fun t => κ (.ptr 0 0) ⟨[some (172, [.sl 5 (t.1), .int .i64 (t.2)])], []⟩
  | _, _, _ => none
def E_78 : Env tau := mkE [(0, [(0, .one (.own 5))]), (1, [(0, .one (.own 5))]), (2, [(0, .one (.own 5))]), (3, [(0, .one (.own 5))])] [.one .any] ⟨0, 0⟩
noncomputable def c_79 (args : List (AV tau)) (m : Mem tau) (κ : AV tau → Mem tau → Option Unit) : Option Unit := match args, m.bx, m.rw with
  | [p0, b0], [some (t0_, [c0_0, c0_1])], [] => bO (asPtr 0 p0) fun _ => bO (asT 172 t0_) fun _ => bO (asSl 5 c0_0) fun s0_0 => bO (asI .i64 c0_1) fun s0_1 => bO (asI .i64 b0) fun a1 => callX (fun n => spec_l15Rd_pick.f n s0_0 s0_1 a1) fun t => κ (.int .i64 (t.1)) ⟨[some (172, [.sl 5 (s0_0), .int .i64 (t.2)])], []⟩
  | _, _, _ => none
def E_79 : Env tau := mkE [(0, [(0, .one .any), (1, .one .any)]), (1, [(0, .one .any), (1, .one .any)]), (2, [(0, .one .any), (1, .one .any)]), (3, []), (4, [(0, .one .any), (1, .one .any)]), (5, [(0, .one .any), (1, .one .any), (5, .one .any)]), (6, [(0, .one .any), (1, .one .any), (5, .one .any)]), (7, [(0, .one .any), (1, .one .any), (5, .one .any)]), (8, [(1, .one .any), (6, .one .any)]), (9, [(1, .one .any), (6, .one .any)])] [.one .any] ⟨1, 0⟩
noncomputable def c_145 (args : List (AV tau)) (m : Mem tau) (κ : AV tau → Mem tau → Option Unit) : Option Unit := match args, m.bx, m.rw with
  | [p0, b0], [some (t0_, [c0_0, c0_1])], [r0] => bO (asPtr 0 p0) fun _ => bO (asT 172 t0_) fun _ => bO (asSl 5 c0_0) fun s0_0 => bO (asI .i64 c0_1) fun s0_1 => bO (asOwn 0 b0) fun _ => bO (asRow 3 r0) fun l1 => callX (fun n => spec_l15Rd_num.f n s0_0 s0_1 l1) fun t => κ (.int .i64 (t.1)) ⟨[some (172, [.sl 5 (s0_0), .int .i64 (t.2)])], [some ⟨3, l1, 0⟩]⟩
  | _, _, _ => none
def E_145 : Env tau := mkE [(0, [(0, .one .any), (1, .one (.own 3))]), (1, [(0, .one .any), (1, .one (.own 3))])] [.one .any] ⟨1, 1⟩
noncomputable def c_149 (args : List (AV tau)) (m : Mem tau) (κ : AV tau → Mem tau → Option Unit) : Option Unit := match args, m.bx, m.rw with
  | [], [], [] => callX (fun n => spec_BoxOpen.f) fun t => κ (.own 0 0) ⟨[], [some ⟨37, t, 0⟩]⟩
  | _, _, _ => none
def E_149 : Env tau := mkE [(0, []), (1, [])] [.one (.own 37)] ⟨0, 0⟩
noncomputable def c_98 (args : List (AV tau)) (m : Mem tau) (κ : AV tau → Mem tau → Option Unit) : Option Unit := match args, m.bx, m.rw with
  | [p0], [some (t0_, [c0_0, c0_1])], [] => bO (asPtr 0 p0) fun _ => bO (asT 172 t0_) fun _ => bO (asSl 5 c0_0) fun s0_0 => bO (asI .i64 c0_1) fun s0_1 => callX (fun n => spec_l1Boxes.f n s0_0 s0_1) fun t => κ (.own 0 0) ⟨[some (172, [.sl 5 (s0_0), .int .i64 (t.2)])], [some ⟨37, t.1, 0⟩]⟩
  | _, _, _ => none
def E_98 : Env tau := mkE [(0, [(0, .one .any)]), (1, [(0, .one .any)]), (2, [(0, .one .any), (3, .one (.own 37))]), (3, [(0, .one .any), (3, .one (.own 37)), (4, .one .any)]), (4, [(0, .one .any), (3, .one (.own 37)), (4, .one .any)]), (5, [(0, .one .any), (3, .one (.own 37)), (4, .one .any)]), (6, [(0, .one .any), (3, .one (.own 37))]), (7, [(0, .one .any), (3, .one (.own 37)), (22, .one .any)]), (8, [(3, .one (.own 37))]), (9, [(0, .one .any), (3, .one (.own 37)), (22, .one .any)]), (10, [(0, .one .any), (3, .one (.own 37))]), (11, [(0, .one .any), (3, .one (.own 37)), (22, .one .any)]), (12, [(0, .one .any), (3, .one (.own 37))]), (13, [(3, .one (.own 37))])] [.one (.own 37)] ⟨1, 0⟩
noncomputable def c_150 (args : List (AV tau)) (m : Mem tau) (κ : AV tau → Mem tau → Option Unit) : Option Unit := match args, m.bx, m.rw with
  | [p0], [some (t0_, [c0_0, c0_1])], [] => bO (asPtr 0 p0) fun _ => bO (asT 172 t0_) fun _ => bO (asSl 5 c0_0) fun s0_0 => bO (asI .i64 c0_1) fun s0_1 => callX (fun n => spec_l2Any.f n s0_0 s0_1) fun t => κ (.agg [.int .i64 (t.1), .int .i64 (t.2.1), .int .i64 (t.2.2.1), .int .i64 (t.2.2.2.1)]) ⟨[some (172, [.sl 5 (s0_0), .int .i64 (t.2.2.2.2)])], []⟩
  | _, _, _ => none
def E_150 : Env tau := mkE [(0, [(0, .one .any)]), (1, [(0, .one .any), (2, .one .any)]), (2, [(0, .one .any), (2, .one .any), (3, .one .any)]), (3, [(0, .one .any), (2, .one .any), (3, .one .any), (13, .one .any)]), (4, [(0, .one .any), (2, .one .any), (3, .one .any)]), (5, [(0, .one .any), (2, .one .any), (3, .one .any)]), (6, [(0, .one .any), (2, .one .any), (3, .one .any), (13, .one .any)]), (7, [(0, .one .any), (2, .one .any), (3, .one .any)]), (8, [(0, .one .any), (2, .one .any), (3, .one .any), (13, .one .any)]), (9, [(0, .one .any), (2, .one .any), (3, .one .any)]), (10, [(0, .one .any), (2, .one .any)]), (11, [(2, .one .any), (3, .one .any)]), (12, [(2, .one .any), (3, .one .any)]), (13, [(2, .one .any), (3, .one .any)])] [.agg [.any, .any, .any, .any]] ⟨1, 0⟩
noncomputable def c_99 (args : List (AV tau)) (m : Mem tau) (κ : AV tau → Mem tau → Option Unit) : Option Unit := match args, m.bx, m.rw with
  | [p0], [some (t0_, [c0_0, c0_1])], [] => bO (asPtr 0 p0) fun _ => bO (asT 172 t0_) fun _ => bO (asSl 5 c0_0) fun s0_0 => bO (asI .i64 c0_1) fun s0_1 => callX (fun n => spec_l2Prog.f n s0_0 s0_1) fun t => κ (.own 0 0) ⟨[some (172, [.sl 5 (s0_0), .int .i64 (t.2)])], [some ⟨95, t.1, 0⟩]⟩
  | _, _, _ => none
def E_99 : Env tau := mkE [(0, [(0, .one .any)]), (1, [(0, .one .any)]), (2, [(0, .one .any)]), (3, [(0, .one .any), (3, .one .any)]), (4, [(0, .one .any), (3, .one .any), (4, .one .any)]), (5, [(0, .one .any)]), (6, [(0, .one .any), (5, .one (.own 95))]), (7, [(0, .one .any), (5, .one (.own 95)), (6, .one .any)]), (8, [(0, .one .any), (5, .one (.own 95)), (6, .one .any)]), (9, [(0, .one .any), (5, .one (.own 95)), (6, .one .any)]), (10, [(5, .one (.own 95))])] [.one (.own 95)] ⟨1, 0⟩
noncomputable def c_100 (args : List (AV tau)) (m : Mem tau) (κ : AV tau → Mem tau → Option Unit) : Option Unit := match args, m.bx, m.rw with
  | [p0], [some (t0_, [c0_0, c0_1])], [] => bO (asPtr 0 p0) fun _ => bO (asT 172 t0_) fun _ => bO (asSl 5 c0_0) fun s0_0 => bO (asI .i64 c0_1) fun s0_1 => callX (fun n => spec_l2Bent.f n s0_0 s0_1) fun t => κ (.own 0 0) ⟨[some (172, [.sl 5 (s0_0), .int .i64 (t.2)])], [some ⟨95, t.1, 0⟩]⟩
  | _, _, _ => none
def E_100 : Env tau := mkE [(0, [(0, .one .any)]), (1, [(0, .one .any)]), (2, [(0, .one .any), (3, .one (.own 95))]), (3, [(3, .one (.own 95))]), (4, [(0, .one .any), (3, .one (.own 95))]), (5, [(0, .one .any), (3, .one (.own 95)), (4, .one .any)]), (6, [(0, .one .any), (3, .one (.own 95)), (4, .one .any), (16, .one .any)]), (7, [(0, .one .any), (3, .one (.own 95)), (4, .one .any)]), (8, [(0, .one .any), (3, .one (.own 95)), (4, .one .any), (16, .one .any)]), (9, [(0, .one .any), (3, .one (.own 95)), (4, .one .any)]), (10, [(0, .one .any), (3, .one (.own 95)), (4, .one .any), (16, .one .any)]), (11, [(0, .one .any), (3, .one (.own 95)), (4, .one .any)]), (12, [(3, .one (.own 95)), (4, .one .any), (16, .one .any)]), (13, [(3, .one (.own 95)), (4, .one .any)]), (14, [(3, .one (.own 95)), (4, .one .any)]), (15, [(3, .one (.own 95))])] [.one (.own 95)] ⟨1, 0⟩
noncomputable def c_38 (args : List (AV tau)) (m : Mem tau) (κ : AV tau → Mem tau → Option Unit) : Option Unit := match args, m.bx, m.rw with
  | [b0], [], [] => bO (asSl 5 b0) fun l0 => callX (fun n => spec_DrawSerialAll.f n l0) fun t => κ (.tup [.own 0 0, .own 1 0]) ⟨[], [some ⟨37, t.1, 0⟩, some ⟨60, t.2, 0⟩]⟩
  | _, _, _ => none
def E_38 : Env tau := mkE [(0, [(0, .one (.own 5))]), (1, [(0, .one (.own 5))]), (2, [(4, .one .any)]), (3, [(4, .one .any), (5, .one (.own 37))]), (4, [(4, .one .any), (5, .one (.own 37)), (6, .one (.own 60))]), (5, [(4, .one .any), (5, .one (.own 37)), (6, .one (.own 60)), (7, .one .any)]), (6, [(4, .one .any), (5, .one (.own 37)), (6, .one (.own 60)), (7, .one .any)]), (7, [(4, .one .any), (5, .one (.own 37)), (6, .one (.own 60)), (7, .one .any)]), (8, [(4, .one .any), (5, .one (.own 37)), (6, .one (.own 60))]), (9, [(4, .one .any), (5, .one (.own 37)), (6, .one (.own 60))]), (10, [(5, .one (.own 37)), (6, .one (.own 60))])] [.one (.own 37), .one (.own 60)] ⟨0, 0⟩
noncomputable def c_101 (args : List (AV tau)) (m : Mem tau) (κ : AV tau → Mem tau → Option Unit) : Option Unit := match args, m.bx, m.rw with
  | [b0, b1], [], [] => bO (asSl 37 b0) fun l0 => bO (asSl 37 b1) fun l1 => callX (fun n => impl_same_impl_Box.f n l0 l1) fun t => κ (.bool (t)) ⟨[], []⟩
  | _, _, _ => none
def E_101 : Env tau := mkE [(0, [(0, .one (.own 37)), (1, .one (.own 37))]), (1, [(0, .one (.own 37)), (1, .one (.own 37))]), (2, []), (3, [(0, .one (.own 37)), (1, .one (.own 37))]), (4, [(0, .one (.own 37)), (1, .one (.own 37)), (12, .one .any), (13, .one .any)]), (5, [(0, .one (.own 37)), (1, .one (.own 37)), (12, .one .any), (13, .one .any)]), (6, [(0, .one (.own 37)), (1, .one (.own 37)), (5, .one .any), (12, .one .any), (13, .one .any)]), (7, []), (8, [(0, .one (.own 37)), (1, .one (.own 37)), (12, .one .any), (13, .one .any)]), (9, [])] [.one .any] ⟨0, 0⟩
noncomputable def c_39 (args : List (AV tau)) (m : Mem tau) (κ : AV tau → Mem tau → Option Unit) : Option Unit := match args, m.bx, m.rw with
  | [b0, b1], [], [] => bO (asSl 37 b0) fun l0 => bO (asSl 37 b1) fun l1 => callX (fun n => impl_BoxSame.f n l0 l1) fun t => κ (.bool (t)) ⟨[], []⟩
  | _, _, _ => none
def E_39 : Env tau := mkE [(0, [(0, .one (.own 37)), (1, .one (.own 37))]), (1, [(0, .one (.own 37)), (1, .one (.own 37))])] [.one .any] ⟨0, 0⟩
noncomputable def c_40 (args : List (AV tau)) (m : Mem tau) (κ : AV tau → Mem tau → Option Unit) : Option Unit := match args, m.bx, m.rw with
  | [b0], [], [] => bO (asSl 5 b0) fun l0 => callX (fun n => spec_DrawSerialFree.f n l0) fun t => κ (.tup [.own 0 0, .own 1 0]) ⟨[], [some ⟨95, t.1, 0⟩, some ⟨95, t.2, 0⟩]⟩
  | _, _, _ => none
def E_40 : Env tau := mkE [(0, [(0, .one (.own 5))]), (1, [(0, .one (.own 5))]), (2, [(4, .one .any)]), (3, [(4, .one .any), (5, .one (.own 95))])] [.one (.own 95), .one (.own 95)] ⟨0, 0⟩
noncomputable def c_152 (args : List (AV tau)) (m : Mem tau) (κ : AV tau → Mem tau → Option Unit) : Option Unit := match args, m.bx, m.rw with
  | [.agg [b0, b1, b2, b3]], [], [] => bO (asB b0) fun a0_0 => bO (asB b1) fun a0_1 => bO (asB b2) fun a0_2 => bO (asB b3) fun a0_3 => callX (fun n => impl_boxesOf.f n a0_0 a0_1 a0_2 a0_3) fun t => κ (.own 0 0) ⟨[], [some ⟨3, t, 0⟩]⟩
  | _, _, _ => none
def E_152 : Env tau := mkE [(0, [(0, .agg [.any, .any, .any, .any])]), (1, [(1, .one .any)]), (2, [(1, .one .any), (3, .one (.own 3))]), (3, [(3, .one (.own 3)), (6, .agg [.any, .any, .any, .any]), (7, .one .any)]), (4, [(3, .one (.own 3)), (6, .agg [.any, .any, .any, .any]), (7, .one .any)]), (5, [(3, .one (.own 3)), (4, .one .any), (5, .one .any), (6, .agg [.any, .any, .any, .any]), (7, .one .any)]), (6, [(3, .one (.own 3)), (4, .one .any), (6, .agg [.any, .any, .any, .any]), (7, .one .any)]), (7, [(3, .one (.own 3)), (6, .agg [.any, .any, .any, .any]), (7, .one .any)]), (8, [(3, .one (.own 3))])] [.one (.own 3)] ⟨0, 0⟩
noncomputable def c_103 (args : List (AV tau)) (m : Mem tau) (κ : AV tau → Mem tau → Option Unit) : Option Unit := match args, m.bx, m.rw with
  | [b0], [], [] => bO (asSl 95 b0) fun l0 => callX (fun n => impl_ProgPuts.f n l0) fun t => κ (.own 0 0) ⟨[], [some ⟨3, t, 0⟩]⟩
  | _, _, _ => none
def E_103 : Env tau := mkE [(0, [(0, .one (.own 95))]), (1, [(0, .one (.own 95))]), (2, [(0, .one (.own 95)), (3, .one .any)]), (3, [(3, .one .any), (6, .one (.own 95)), (7, .one .any), (8, .one .any)]), (4, [(3, .one .any), (6, .one (.own 95)), (7, .one .any), (8, .one .any)]), (5, [(3, .one .any), (5, .one .any), (6, .one (.own 95)), (7, .one .any), (8, .one .any)]), (6, [(3, .one .any), (5, .one .any), (6, .one (.own 95)), (7, .one .any), (8, .one .any)]), (7, [(3, .one .any), (6, .one (.own 95)), (7, .one .any), (8, .one .any)]), (8, [(3, .one .any)])] [.one (.own 3)] ⟨0, 0⟩
noncomputable def c_104 (args : List (AV tau)) (m : Mem tau) (κ : AV tau → Mem tau → Option Unit) : Option Unit := match args, m.bx, m.rw with
  | [b0, b1], [], [] => bO (asSl 3 b0) fun l0 => bO (asSl 3 b1) fun l1 => callX (fun n => impl_meets.f n l0 l1) fun t => κ (.bool (t)) ⟨[], []⟩
  | _, _, _ => none
def E_104 : Env tau := mkE [(0, [(0, .one (.own 3)), (1, .one (.own 3))]), (1, [(0, .one (.own 3)), (1, .one (.own 3))]), (2, [(1, .one (.own 3)), (9, .one (.own 3)), (10, .one .any), (11, .one .any)]), (3, [(1, .one (.own 3)), (9, .one (.own 3)), (10, .one .any), (11, .one .any)]), (4, [(1, .one (.own 3)), (6, .one .any), (9, .one (.own 3)), (10, .one .any), (11, .one .any)]), (5, [(1, .one (.own 3)), (6, .one .any), (9, .one (.own 3)), (10, .one .any), (11, .one .any), (15, .one (.own 3)), (16, .one .any), (17, .one .any)]), (6, [(1, .one (.own 3)), (6, .one .any), (9, .one (.own 3)), (10, .one .any), (11, .one .any), (15, .one (.own 3)), (16, .one .any), (17, .one .any)]), (7, [(1, .one (.own 3)), (6, .one .any), (8, .one .any), (9, .one (.own 3)), (10, .one .any), (11, .one .any), (15, .one (.own 3)), (16, .one .any), (17, .one .any)]), (8, []), (9, [(1, .one (.own 3)), (6, .one .any), (9, .one (.own 3)), (10, .one .any), (11, .one .any), (15, .one (.own 3)), (16, .one .any), (17, .one .any)]), (10, [(1, .one (.own 3)), (9, .one (.own 3)), (10, .one .any), (11, .one .any)]), (11, [])] [.one .any] ⟨0, 0⟩
noncomputable def c_105 (args : List (AV tau)) (m : Mem tau) (κ : AV tau → Mem tau → Option Unit) : Option Unit := match args, m.bx, m.rw with
  | [b0], [], [] => bO (asSl 95 b0) fun l0 => callX (fun n => impl_ProgLoads.f n l0) fun t => κ (.own 0 0) ⟨[], [some ⟨3, t, 0⟩]⟩
  | _, _, _ => none
def E_105 : Env tau := mkE [(0, [(0, .one (.own 95))]), (1, [(0, .one (.own 95))]), (2, [(0, .one (.own 95)), (3, .one .any)]), (3, [(3, .one .any), (6, .one (.own 95)), (7, .one .any), (8, .one .any)]), (4, [(3, .one .any), (6, .one (.own 95)), (7, .one .any), (8, .one .any)]), (5, [(3, .one .any), (5, .one .any), (6, .one (.own 95)), (7, .one .any), (8, .one .any)]), (6, [(3, .one .any), (5, .one .any), (6, .one (.own 95)), (7, .one .any), (8, .one .any)]), (7, [(3, .one .any), (6, .one (.own 95)), (7, .one .any), (8, .one .any)]), (8, [(3, .one .any)])] [.one (.own 3)] ⟨0, 0⟩
noncomputable def c_41 (args : List (AV tau)) (m : Mem tau) (κ : AV tau → Mem tau → Option Unit) : Option Unit := match args, m.bx, m.rw with
  | [b0, b1], [], [] => bO (asSl 95 b0) fun l0 => bO (asSl 95 b1) fun l1 => callX (fun n => impl_SerialFree.f n l0 l1) fun t => κ (.bool (t)) ⟨[], []⟩
  | _, _, _ => none
def E_41 : Env tau := mkE [(0, [(0, .one (.own 95)), (1, .one (.own 95))]), (1, [(0, .one (.own 95)), (1, .one (.own 95))]), (2, []), (3, [(0, .one (.own 95)), (1, .one (.own 95))]), (4, [(0, .one (.own 95)), (1, .one (.own 95)), (5, .one (.own 3)), (6, .one (.own 3))])] [.one .any] ⟨0, 0⟩
noncomputable def c_107 (args : List (AV tau)) (m : Mem tau) (κ : AV tau → Mem tau → Option Unit) : Option Unit := match args, m.bx, m.rw with
  | [b0, b1], [], [] => bO (asSl 3 b0) fun l0 => bO (asSl 3 b1) fun l1 => callX (fun n => spec_l4Meet.f n l0 l1) fun t => κ (.bool (t)) ⟨[], []⟩
  | _, _, _ => none
def E_107 : Env tau := mkE [(0, [(0, .one (.own 3)), (1, .one (.own 3))]), (1, [(0, .one (.own 3)), (1, .one (.own 3))]), (2, [(0, .one (.own 3)), (1, .one (.own 3)), (5, .one .any)]), (3, [(0, .one (.own 3)), (1, .one (.own 3)), (5, .one .any)]), (4, [(0, .one (.own 3)), (1, .one (.own 3)), (5, .one .any)]), (5, [(0, .one (.own 3)), (1, .one (.own 3)), (5, .one .any), (6, .one .any)]), (6, [(0, .one (.own 3)), (1, .one (.own 3)), (5, .one .any), (6, .one .any)]), (7, [(0, .one (.own 3)), (1, .one (.own 3)), (5, .one .any), (6, .one .any)]), (8, []), (9, [])] [.one .any] ⟨0, 0⟩
noncomputable def c_154 (args : List (AV tau)) (m : Mem tau) (κ : AV tau → Mem tau → Option Unit) : Option Unit := match args, m.bx, m.rw with
  | [b0, b1], [], [] => bO (asSl 95 b0) fun l0 => bO (asI .i64 b1) fun a1 => callX (fun n => spec_l2Boxes.f n l0 a1) fun t => κ (.own 0 0) ⟨[], [some ⟨3, t, 0⟩]⟩
  | _, _, _ => none
def E_154 : Env tau := mkE [(0, [(0, .one (.own 95)), (1, .one .any)]), (1, [(0, .one (.own 95)), (1, .one .any)]), (2, [(0, .one (.own 95)), (1, .one .any), (5, .one (.own 3))]), (3, [(0, .one (.own 95)), (1, .one .any), (5, .one (.own 3)), (6, .one .any)]), (4, [(0, .one (.own 95)), (1, .one .any), (5, .one (.own 3)), (6, .one .any)]), (5, [(0, .one (.own 95)), (1, .one .any), (5, .one (.own 3)), (6, .one .any)]), (6, [(0, .one (.own 95)), (1, .one .any), (5, .one (.own 3)), (6, .one .any), (7, .one .any)]), (7, [(0, .one (.own 95)), (1, .one .any), (5, .one (.own 3)), (6, .one .any), (7, .one .any), (8, .one .any)]), (8, [(0, .one (.own 95)), (1, .one .any), (5, .one (.own 3)), (6, .one .any), (7, .one .any), (8, .one .any)]), (9, [(0, .one (.own 95)), (1, .one .any), (5, .one (.own 3)), (6, .one .any), (7, .one .any), (8, .one .any)]), (10, [(0, .one (.own 95)), (1, .one .any), (5, .one (.own 3)), (6, .one .any), (7, .one .any)]), (11, [(0, .one (.own 95)), (1, .one .any), (5, .one (.own 3)), (6, .one .any)]), (12, [(5, .one (.own 3))])] [.one (.own 3)] ⟨0, 0⟩
noncomputable def c_108 (args : List (AV tau)) (m : Mem tau) (κ : AV tau → Mem tau → Option Unit) : Option Unit := match args, m.bx, m.rw with
  | [b0], [], [] => bO (asSl 95 b0) fun l0 => callX (fun n => spec_ProgPuts.f n l0) fun t => κ (.own 0 0) ⟨[], [some ⟨3, t, 0⟩]⟩
  | _, _, _ => none
def E_108 : Env tau := mkE [(0, [(0, .one (.own 95))]), (1, [(0, .one (.own 95))])] [.one (.own 3)] ⟨0, 0⟩
noncomputable def c_109 (args : List (AV tau)) (m : Mem tau) (κ : AV tau → Mem tau → Option Unit) : Option Unit := match args, m.bx, m.rw with
  | [b0], [], [] => bO (asSl 95 b0) fun l0 => callX (fun n => spec_ProgLoads.f n l0) fun t => κ (.own 0 0) ⟨[], [some ⟨3, t, 0⟩]⟩
  | _, _, _ => none
def E_109 : Env tau := mkE [(0, [(0, .one (.own 95))]), (1, [(0, .one (.own 95))])] [.one (.own 3)] ⟨0, 0⟩
noncomputable def c_42 (args : List (AV tau)) (m : Mem tau) (κ : AV tau → Mem tau → Option Unit) : Option Unit := match args, m.bx, m.rw with
  | [b0, b1], [], [] => bO (asSl 95 b0) fun l0 => bO (asSl 95 b1) fun l1 => callX (fun n => spec_SerialFree.f n l0 l1) fun t => κ (.bool (t)) ⟨[], []⟩
  | _, _, _ => none
def E_42 : Env tau := mkE [(0, [(0, .one (.own 95)), (1, .one (.own 95))]), (1, [(0, .one (.own 95)), (1, .one (.own 95))])] [.one .any] ⟨0, 0⟩
noncomputable def c_5 (args : List (AV tau)) (m : Mem tau) (κ : AV tau → Mem tau → Option Unit) : Option Unit := match args, m.bx, m.rw with
  | [b0, b1], [], [] => bO (asSl 5 b0) fun l0 => bO (asSl 5 b1) fun l1 => callX (fun n => laws_FnSerial.f n l0 l1) fun t => κ (.bool (t)) ⟨[], []⟩
  | _, _, _ => none
def E_5 : Env tau := mkE [(0, [(0, .one (.own 5)), (1, .one (.own 5))]), (1, [(0, .one (.own 5)), (1, .one (.own 5))]), (2, []), (3, [(0, .one (.own 5)), (1, .one (.own 5))]), (4, [(1, .one (.own 5)), (5, .one (.own 37)), (6, .one (.own 60))]), (5, [(1, .one (.own 5)), (5, .one (.own 37)), (6, .one (.own 60)), (7, .one (.own 37)), (8, .one (.own 3))]), (6, [(1, .one (.own 5)), (5, .one (.own 37)), (6, .one (.own 60)), (7, .one (.own 37)), (8, .one (.own 3)), (9, .one (.own 37)), (10, .one (.own 3))]), (7, []), (8, [(1, .one (.own 5)), (5, .one (.own 37)), (6, .one (.own 60)), (7, .one (.own 37)), (8, .one (.own 3)), (10, .one (.own 3))]), (9, [(1, .one (.own 5)), (5, .one (.own 37)), (6, .one (.own 60)), (7, .one (.own 37)), (8, .one (.own 3)), (10, .one (.own 3)), (11, .one .any)]), (10, [(1, .one (.own 5)), (5, .one (.own 37)), (6, .one (.own 60)), (7, .one (.own 37)), (8, .one (.own 3)), (10, .one (.own 3)), (11, .one .any)]), (11, [(1, .one (.own 5)), (5, .one (.own 37)), (6, .one (.own 60)), (7, .one (.own 37)), (8, .one (.own 3)), (10, .one (.own 3)), (11, .one .any)]), (12, []), (13, [(1, .one (.own 5)), (5, .one (.own 37)), (6, .one (.own 60)), (7, .one (.own 37)), (8, .one (.own 3))]), (14, [(8, .one (.own 3))]), (15, [(1, .one (.own 5)), (5, .one (.own 37)), (6, .one (.own 60)), (7, .one (.own 37)), (8, .one (.own 3))]), (16, [(1, .one (.own 5)), (5, .one (.own 37)), (6, .one (.own 60)), (7, .one (.own 37)), (8, .one (.own 3)), (12, .one .any)]), (17, [(1, .one (.own 5)), (6, .one (.own 60)), (7, .one (.own 37)), (8, .one (.own 3)), (12, .one .any), (13, .one (.own 37)), (14, .one (.own 3))]), (18, [(1, .one (.own 5)), (7, .one (.own 37)), (8, .one (.own 3)), (14, .one (.own 3)), (15, .one (.own 37)), (16, .one (.own 3))]), (19, []), (20, [(1, .one (.own 5)), (7, .one (.own 37))]), (21, [(7, .one (.own 37)), (17, .one (.own 95)), (18, .one (.own 95))]), (22, []), (23, [(7, .one (.own 37)), (17, .one (.own 95)), (18, .one (.own 95))]), (24, []), (25, [(7, .one (.own 37)), (17, .one (.own 95)), (18, .one (.own 95))]), (26, [(7, .one (.own 37)), (17, .one (.own 95)), (18, .one (.own 95)), (19, .one (.own 37)), (20, .one (.own 3))]), (27, [(19, .one (.own 37)), (20, .one (.own 3)), (21, .one (.own 37)), (22, .one (.own 3))])] [.one .any] ⟨0, 0⟩
end Go.Proofs.Ytkkmhlfpombgfaa.PFnSerial