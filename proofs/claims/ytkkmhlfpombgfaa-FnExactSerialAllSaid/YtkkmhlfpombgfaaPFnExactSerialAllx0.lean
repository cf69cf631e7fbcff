/- The machine's texts of FnExactSerialAll (definitions, table, contracts). Conditions: none. -/
import Derived.Test.YtkkmhlfpombgfaaProg
import Derived.Test.YtkkmhlfpombgfaaSWFnExactSerialAll
import Derived.Test.YtkkmhlfpombgfaaAm38
import Derived.RowKit
import Derived.KernelRfl
set_option linter.unusedVariables false
set_option maxRecDepth 100000
namespace Go.Proofs.Ytkkmhlfpombgfaa.PFnExactSerialAll
open Go.RowKit Go.Proofs.YtkkmhlfpombgfaaW.PrintWords Go.Proofs.YtkkmhlfpombgfaaW.PrintLast Go.Proofs.YtkkmhlfpombgfaaW.PrintMore
def errW : Option Int → Value
  | none => .nilIface
  | some c => .iface 0 (.int .i64 c)
structure S136 where
  f0 : Int
  f1 : Int
def z136 : S136 := ⟨(0 : Int), (0 : Int)⟩
def rd_T136 (xs : List S136) (i : Int) : S136 := xs.getD i.toNat z136
structure S175 where
  f0 : Int
  f1 : Int
  f2 : Int
  f3 : Int
def z175 : S175 := ⟨(0 : Int), (0 : Int), (0 : Int), (0 : Int)⟩
def rd_T175 (xs : List S175) (i : Int) : S175 := xs.getD i.toNat z175
def rd_L3 (xs : List (List S175)) (i : Int) : (List S175) := xs.getD i.toNat ([] : List S175)
structure S37 where
  f0 : Int
  f1 : Int
def z37 : S37 := ⟨(0 : Int), (0 : Int)⟩
def rd_T37 (xs : List S37) (i : Int) : S37 := xs.getD i.toNat z37
structure S95 where
  f0 : Int
  f1 : Int
  f2 : Int
  f3 : Int
def z95 : S95 := ⟨(0 : Int), (0 : Int), (0 : Int), (0 : Int)⟩
def rd_T95 (xs : List S95) (i : Int) : S95 := xs.getD i.toNat z95
structure S39 where
  f0 : Int
  f1 : Int
def z39 : S39 := ⟨(0 : Int), (0 : Int)⟩
def rd_T39 (xs : List S39) (i : Int) : S39 := xs.getD i.toNat z39
structure S82 where
  f0 : Int
  f1 : Int
def z82 : S82 := ⟨(0 : Int), (0 : Int)⟩
def rd_T82 (xs : List S82) (i : Int) : S82 := xs.getD i.toNat z82
def rd_L8 (xs : List (List S95)) (i : Int) : (List S95) := xs.getD i.toNat ([] : List S95)
def laws_szBoxS.f (l0 : List (S136)) (a1 : Int) : Option (Int) := if (wrap64 (a1 - (l0.length : Int))) < 0 then (some (-1)) else (some (wrap64 (a1 - (l0.length : Int))))
def laws_szInsS.f (l0 : List (S175)) (a1 : Int) : Option (Int) := if (wrap64 (a1 - (l0.length : Int))) < 0 then (some (-1)) else (some (wrap64 (a1 - (l0.length : Int))))
def laws_szInsSS.l0 : Nat → List (List (S175)) → Int → Int → Option (Int)
  | 0, _, _, _ => none
  | k + 1, x0, x1, x5 => if x5 < (x0.length : Int) then (if 0 ≤ x5 then ((laws_szInsS.f (rd_L3 x0 x5) x1).bind fun t102 => (if t102 < 0 then (some (-1)) else (laws_szInsSS.l0 k x0 t102 (wrap64 (x5 + 1))))) else (none)) else (some x1)
def laws_szInsSS.f (k : Nat) (l0 : List (List (S175))) (a1 : Int) : Option (Int) := if (wrap64 (a1 - (l0.length : Int))) < 0 then (some (-1)) else (laws_szInsSS.l0 k l0 (wrap64 (a1 - (l0.length : Int))) 0)
def spec_l1Num.f (a0 : Int) : Option (Bool) := if a0 ≥ (-1000000) then (some (decide (a0 ≤ 1000000))) else (some false)
def spec_BoxOk.l0 : Nat → List (S37) → Int → Option (Bool)
  | 0, _, _ => none
  | k + 1, x0, x3 => if x3 < (x0.length : Int) then (if 0 ≤ x3 then (if ((rd_T37 x0 x3).f0) < 0 then (some false) else (if ((rd_T37 x0 x3).f0) > 1000000 then (some false) else ((spec_l1Num.f ((rd_T37 x0 x3).f1)).bind fun t106 => (if t106 = true then (spec_BoxOk.l0 k x0 (wrap64 (x3 + 1))) else (some false))))) else (none)) else (some true)
def spec_BoxOk.f (k : Nat) (l0 : List (S37)) : Option (Bool) := if (l0.length : Int) = 4 then (spec_BoxOk.l0 k l0 0) else (some false)
def spec_l1Copy.f (l0 : List (S37)) : Option ((List (S37))) := (some (([] : List (S37)) : List (S37))).bind fun y107 => (if y107.length + l0.length < 8796093022208 then (some (y107 ++ l0)) else (none))
def spec_l2Box.f (a0 : Int) : Option (Bool) := if a0 ≥ 0 then (some (decide (a0 < 4))) else (some false)
def spec_l2Reg.f (a0 : Int) : Option (Bool) := if a0 ≥ 0 then (some (decide (a0 < 4))) else (some false)
def spec_l2Ins.j0 : Nat → Int → Bool → Int → Int → Int → Int → Option (Bool)
  | 0, _, _, _, _, _, _ => none
  | k + 1, x4, x50, x114000, x114001, x114002, x114003 => if x50 = true then ((spec_l2Reg.f x114001).bind fun t120 => (if t120 = true then ((spec_l2Reg.f x114002).bind fun t121 => (if t121 = true then (some (x114003 == 0)) else (some false))) else (some false))) else (if x4 = 6 then ((spec_l2Reg.f x114001).bind fun t122 => (if t122 = true then ((spec_l2Reg.f x114002).bind fun t123 => (if t123 = true then (if x114003 ≥ 1 then (some (decide (x114003 ≤ 10))) else (some false)) else (some false))) else (some false))) else (if x4 = 7 then (if x114001 = 0 then (if x114002 = 0 then (some (x114003 == 0)) else (some false)) else (some false)) else (some false)))
def spec_l2Ins.f (k : Nat) (a0_0 : Int) (a0_1 : Int) (a0_2 : Int) (a0_3 : Int) : Option (Bool) := if a0_0 = 1 then ((spec_l2Reg.f a0_1).bind fun t114 => (if t114 = true then ((spec_l2Box.f a0_2).bind fun t115 => (if t115 = true then (some (a0_3 == 0)) else (some false))) else (some false))) else (if a0_0 = 2 then ((spec_l2Box.f a0_1).bind fun t116 => (if t116 = true then ((spec_l2Reg.f a0_2).bind fun t117 => (if t117 = true then (some (a0_3 == 0)) else (some false))) else (some false))) else (if a0_0 = 3 then ((spec_l2Reg.f a0_1).bind fun t118 => (if t118 = true then (if a0_2 = 0 then ((spec_l1Num.f a0_3).bind fun t119 => (some t119)) else (some false)) else (some false))) else (if a0_0 = 4 then (spec_l2Ins.j0 k a0_0 (a0_0 == 4) a0_0 a0_1 a0_2 a0_3) else (spec_l2Ins.j0 k a0_0 (a0_0 == 5) a0_0 a0_1 a0_2 a0_3))))
def spec_ProgOk.l0 : Nat → List (S95) → Int → Option (Bool)
  | 0, _, _ => none
  | k + 1, x0, x3 => if x3 < (x0.length : Int) then (if 0 ≤ x3 then ((spec_l2Ins.f k ((rd_T95 x0 x3).f0) ((rd_T95 x0 x3).f1) ((rd_T95 x0 x3).f2) ((rd_T95 x0 x3).f3)).bind fun t125 => (if t125 = true then (spec_ProgOk.l0 k x0 (wrap64 (x3 + 1))) else (some false))) else (none)) else (some true)
def spec_ProgOk.f (k : Nat) (l0 : List (S95)) : Option (Bool) := if (l0.length : Int) > 10 then (some false) else (spec_ProgOk.l0 k l0 0)
def spec_l3Saw.l0 : Nat → List (S39) → Int → Int → Option (Bool)
  | 0, _, _, _ => none
  | k + 1, x0, x1, x5 => if x5 < (x0.length : Int) then (if 0 ≤ x5 then (if ((rd_T39 x0 x5).f0) = x1 then (some true) else (spec_l3Saw.l0 k x0 x1 (wrap64 (x5 + 1)))) else (none)) else (some false)
def spec_l3Saw.f (k : Nat) (l0 : List (S39)) (a1 : Int) : Option (Bool) := spec_l3Saw.l0 k l0 a1 0
def spec_l3At.l0 : Nat → List (S82) → Int → Int → Option (Int)
  | 0, _, _, _ => none
  | k + 1, x0, x1, x5 => if x5 < (x0.length : Int) then (if 0 ≤ x5 then (if ((rd_T82 x0 x5).f0) = x1 then (some x5) else (spec_l3At.l0 k x0 x1 (wrap64 (x5 + 1)))) else (none)) else (some (-1))
def spec_l3At.f (k : Nat) (l0 : List (S82)) (a1 : Int) : Option (Int) := spec_l3At.l0 k l0 a1 0
def spec_l3Look.f (k : Nat) (l0 : List (S37)) (l1_0 : List (S39)) (l1_1 : List (S82)) (a1_2 : Int) (a1_3 : Int) (a2 : Int) : Option (Int × (List (S39)) × (List (S82)) × Int × Int) := (spec_l3At.f k l1_1 a2).bind fun t130 => (if t130 ≥ 0 then (if 0 ≤ t130 then (if t130 < (l1_1.length : Int) then (some ((rd_T82 l1_1 t130).f1, l1_0, l1_1, a1_2, a1_3)) else (none)) else (none)) else ((spec_l3Saw.f k l1_0 a2).bind fun t132 => (if t132 = true then (if 0 ≤ a2 then (if a2 < (l0.length : Int) then (some ((rd_T37 l0 a2).f1, l1_0, l1_1, a1_2, a1_3)) else (none)) else (none)) else (if 0 ≤ a2 then (if a2 < (l0.length : Int) then (if l1_0.length < 8796093022208 then (some ((rd_T37 l0 a2).f1, (l1_0 ++ [(⟨a2, (rd_T37 l0 a2).f0⟩ : S39)]), l1_1, a1_2, a1_3)) else (none)) else (none)) else (none)))))
def spec_l3Put.f (k : Nat) (l0_0 : List (S39)) (l0_1 : List (S82)) (a0_2 : Int) (a0_3 : Int) (a1 : Int) (a2 : Int) : Option ((List (S39)) × (List (S82)) × Int × Int) := (spec_l3At.f k l0_1 a1).bind fun t141 => (if t141 ≥ 0 then (if 0 ≤ t141 then (if t141 < (l0_1.length : Int) then (some (l0_0, (l0_1.set (t141 : Int).toNat (⟨(rd_T82 l0_1 t141).f0, a2⟩ : S82)), a0_2, a0_3)) else (none)) else (none)) else (if l0_1.length < 8796093022208 then (some (l0_0, (l0_1 ++ [(⟨a1, a2⟩ : S82)]), a0_2, a0_3)) else (none)))
def spec_l3Step.j0 : Nat → List Int → List (S39) → List (S82) → Int → Int → Int → Int → Int → Int → Option ((List (S39)) × (List (S82)) × Int × Int × List Int)
  | 0, _, _, _, _, _, _, _, _, _ => none
  | k + 1, x2, x147000, x147001, x147002, x147003, x148000, x148001, x148002, x148003 => if x148000 = 2 then (some (x147000, x147001, x147002, x147003, x2)) else (if 0 ≤ x148001 then (if x148001 < (x2.length : Int) then ((spec_l1Num.f (rd x2 x148001)).bind fun t177 => (if t177 = true then (some (x147000, x147001, x147002, x147003, x2)) else (some (x147000, x147001, x147002, 2, x2)))) else (none)) else (none))
def spec_l3Step.f (k : Nat) (l0 : List (S37)) (l1_0 : List (S39)) (l1_1 : List (S82)) (a1_2 : Int) (a1_3 : Int) (l2 : List Int) (a3_0 : Int) (a3_1 : Int) (a3_2 : Int) (a3_3 : Int) : Option ((List (S39)) × (List (S82)) × Int × Int × List Int) := if a3_0 = 1 then ((spec_l3Look.f k l0 l1_0 l1_1 a1_2 a1_3 a3_2).bind fun bt149 => (if 0 ≤ a3_1 then (if a3_1 < (l2.length : Int) then (spec_l3Step.j0 k (l2.set (a3_1 : Int).toNat bt149.1) bt149.2.1 bt149.2.2.1 bt149.2.2.2.1 bt149.2.2.2.2 a3_0 a3_1 a3_2 a3_3) else (none)) else (none))) else (if a3_0 = 2 then (if 0 ≤ a3_2 then (if a3_2 < (l2.length : Int) then ((spec_l3Put.f k l1_0 l1_1 a1_2 a1_3 a3_1 (rd l2 a3_2)).bind fun bt161 => (spec_l3Step.j0 k l2 bt161.1 bt161.2.1 bt161.2.2.1 bt161.2.2.2 a3_0 a3_1 a3_2 a3_3)) else (none)) else (none)) else (if a3_0 = 3 then (if 0 ≤ a3_1 then (if a3_1 < (l2.length : Int) then (spec_l3Step.j0 k (l2.set (a3_1 : Int).toNat a3_3) l1_0 l1_1 a1_2 a1_3 a3_0 a3_1 a3_2 a3_3) else (none)) else (none)) else (if a3_0 = 4 then (if 0 ≤ a3_1 then (if a3_1 < (l2.length : Int) then (if 0 ≤ a3_2 then (if a3_2 < (l2.length : Int) then (spec_l3Step.j0 k (l2.set (a3_1 : Int).toNat (wrap64 ((rd l2 a3_1) + (rd l2 a3_2)))) l1_0 l1_1 a1_2 a1_3 a3_0 a3_1 a3_2 a3_3) else (none)) else (none)) else (none)) else (none)) else (if a3_0 = 5 then (if 0 ≤ a3_1 then (if a3_1 < (l2.length : Int) then (if 0 ≤ a3_2 then (if a3_2 < (l2.length : Int) then (spec_l3Step.j0 k (l2.set (a3_1 : Int).toNat (wrap64 ((rd l2 a3_1) - (rd l2 a3_2)))) l1_0 l1_1 a1_2 a1_3 a3_0 a3_1 a3_2 a3_3) else (none)) else (none)) else (none)) else (none)) else (if a3_0 = 7 then (spec_l3Step.j0 k l2 l1_0 l1_1 a1_2 1 a3_0 a3_1 a3_2 a3_3) else (spec_l3Step.j0 k l2 l1_0 l1_1 a1_2 a1_3 a3_0 a3_1 a3_2 a3_3))))))
mutual
def spec_ExecRun.j0 : Nat → List (S37) → List (S95) → Bool → Option ((List (S39)) × (List (S82)) × Int × Int)
  | 0, _, _, _ => none
  | k + 1, x0, x1, x16 => if x16 = true then (some (([] : List (S39)), ([] : List (S82)), 0, 3)) else (if 4 ≤ 35184372088832 then (spec_ExecRun.l0 k x0 x1 (List.replicate 4 0) 0 ([] : List (S39)) ([] : List (S82)) 0 0) else (none))
def spec_ExecRun.l0 : Nat → List (S37) → List (S95) → List Int → Int → List (S39) → List (S82) → Int → Int → Option ((List (S39)) × (List (S82)) × Int × Int)
  | 0, _, _, _, _, _, _, _, _ => none
  | k + 1, x0, x1, x6, x7, x182000, x182001, x182002, x182003 => if x7 < (x1.length : Int) then (spec_ExecRun.j2 k x0 x1 x6 x7 (x182003 == 0) x182000 x182001 x182002 x182003) else (spec_ExecRun.j2 k x0 x1 x6 x7 false x182000 x182001 x182002 x182003)
def spec_ExecRun.j2 : Nat → List (S37) → List (S95) → List Int → Int → Bool → List (S39) → List (S82) → Int → Int → Option ((List (S39)) × (List (S82)) × Int × Int)
  | 0, _, _, _, _, _, _, _, _, _ => none
  | k + 1, x0, x1, x6, x7, x28, x182000, x182001, x182002, x182003 => if x28 = true then (if 0 ≤ x7 then (if x7 < (x1.length : Int) then (if ((rd_T95 x1 x7).f0) = 6 then (if 0 ≤ ((rd_T95 x1 x7).f1) then (if ((rd_T95 x1 x7).f1) < (x6.length : Int) then (if 0 ≤ ((rd_T95 x1 x7).f2) then (if ((rd_T95 x1 x7).f2) < (x6.length : Int) then (if (rd x6 ((rd_T95 x1 x7).f1)) < (rd x6 ((rd_T95 x1 x7).f2)) then (spec_ExecRun.l0 k x0 x1 x6 (wrap64 ((wrap64 (x7 + ((rd_T95 x1 x7).f3))) + 1)) x182000 x182001 x182002 x182003) else (spec_ExecRun.l0 k x0 x1 x6 (wrap64 (x7 + 1)) x182000 x182001 x182002 x182003)) else (none)) else (none)) else (none)) else (none)) else ((spec_l3Step.f k x0 x182000 x182001 x182002 x182003 x6 ((rd_T95 x1 x7).f0) ((rd_T95 x1 x7).f1) ((rd_T95 x1 x7).f2) ((rd_T95 x1 x7).f3)).bind fun bt190 => (spec_ExecRun.l0 k x0 x1 bt190.2.2.2.2 (wrap64 (x7 + 1)) bt190.1 bt190.2.1 bt190.2.2.1 bt190.2.2.2.1))) else (none)) else (none)) else (if x182003 = 0 then (if 0 < (x6.length : Int) then (some (x182000, x182001, rd x6 0, x182003)) else (none)) else (some (x182000, ([] : List (S82)), x182002, x182003)))
end
def spec_ExecRun.f (k : Nat) (l0 : List (S37)) (l1 : List (S95)) : Option ((List (S39)) × (List (S82)) × Int × Int) := (spec_BoxOk.f k l0).bind fun t179 => (if t179 = true then ((spec_ProgOk.f k l1).bind fun t180 => (spec_ExecRun.j0 k l0 l1 (!t180))) else (spec_ExecRun.j0 k l0 l1 true))
def spec_l1Min.f (a0 : Int) (a1 : Int) : Option (Int) := if a0 < a1 then (some a0) else (some a1)
def spec_l3Do.l0 : Nat → List (S37) → Int → List (S39) → List (S82) → Int → Int → Option ((List (S37)))
  | 0, _, _, _, _, _, _ => none
  | k + 1, x0, x5, x200000, x200001, x200002, x200003 => if x5 < (x200001.length : Int) then (if 0 ≤ x5 then (if 0 ≤ ((rd_T82 x200001 x5).f0) then (if ((rd_T82 x200001 x5).f0) < (x0.length : Int) then ((spec_l1Min.f 1000000 (wrap64 (((rd_T37 x0 ((rd_T82 x200001 x5).f0)).f0) + 1))).bind fun t202 => (spec_l3Do.l0 k (x0.set (((rd_T82 x200001 x5).f0) : Int).toNat (⟨t202, (rd_T82 x200001 x5).f1⟩ : S37)) (wrap64 (x5 + 1)) x200000 x200001 x200002 x200003)) else (none)) else (none)) else (none)) else (some x0)
def spec_l3Do.f (k : Nat) (l0 : List (S37)) (l1_0 : List (S39)) (l1_1 : List (S82)) (a1_2 : Int) (a1_3 : Int) : Option ((List (S37))) := spec_l3Do.l0 k l0 0 l1_0 l1_1 a1_2 a1_3
def spec_SerialOne.f (k : Nat) (l0 : List (S37)) (l1 : List (S95)) : Option ((List (S37)) × Int × Int) := (spec_ExecRun.f k l0 l1).bind fun bt205 => (if bt205.2.2.2 = 3 then (some ((([] : List (S37))), 0, 3)) else ((spec_l1Copy.f l0).bind fun t217 => ((spec_l3Do.f k t217 bt205.1 bt205.2.1 bt205.2.2.1 bt205.2.2.2).bind fun t220 => (some (t220, bt205.2.2.1, bt205.2.2.2)))))
mutual
def spec_SerialAll.j0 : Nat → List (S37) → List (List (S95)) → Bool → Option ((List (S37)) × List Int)
  | 0, _, _, _ => none
  | k + 1, x0, x1, x19 => if x19 = true then (some ((([] : List (S37))), (([] : List Int)))) else ((spec_l1Copy.f x0).bind fun t233 => (spec_SerialAll.l0 k x1 (([] : List Int)) t233 0))
def spec_SerialAll.l0 : Nat → List (List (S95)) → List Int → List (S37) → Int → Option ((List (S37)) × List Int)
  | 0, _, _, _, _ => none
  | k + 1, x1, x6, x7, x8 => if x8 < (x1.length : Int) then (if 0 ≤ x8 then ((spec_SerialOne.f k x7 (rd_L8 x1 x8)).bind fun bt237 => (if bt237.2.2 = 3 then (some ((([] : List (S37))), (([] : List Int)))) else (if x6.length < 17592186044416 then (spec_SerialAll.l0 k x1 (x6 ++ [bt237.2.1]) bt237.1 (wrap64 (x8 + 1))) else (none)))) else (none)) else (some (x7, x6))
end
def spec_SerialAll.f (k : Nat) (l0 : List (S37)) (l1 : List (List (S95))) : Option ((List (S37)) × List Int) := (spec_BoxOk.f k l0).bind fun t223 => (if t223 = true then (spec_SerialAll.j0 k l0 l1 (decide ((l1.length : Int) > 100))) else (spec_SerialAll.j0 k l0 l1 true))
def laws_toBox.f (a0_0 : Int) (a0_1 : Int) : Option (Int × Int) := some (a0_0, a0_1)
def laws_toBoxS.l0 : Nat → List (S136) → List (S37) → Int → Option ((List (S37)))
  | 0, _, _, _ => none
  | k + 1, x0, x3, x4 => if x4 < (x0.length : Int) then (if 0 ≤ x4 then ((laws_toBox.f ((rd_T136 x0 x4).f0) ((rd_T136 x0 x4).f1)).bind fun bt258 => (if x4 < (x3.length : Int) then (laws_toBoxS.l0 k x0 (x3.set (x4 : Int).toNat (⟨bt258.1, bt258.2⟩ : S37)) (wrap64 (x4 + 1))) else (none))) else (none)) else (some x3)
def laws_toBoxS.f (k : Nat) (l0 : List (S136)) : Option ((List (S37))) := if 0 ≤ (l0.length : Int) then (if ((l0.length : Int) : Int).toNat ≤ 17592186044416 then (laws_toBoxS.l0 k l0 (List.replicate ((l0.length : Int) : Int).toNat z37) 0) else (none)) else (none)
def laws_toIns.f (a0_0 : Int) (a0_1 : Int) (a0_2 : Int) (a0_3 : Int) : Option (Int × Int × Int × Int) := some (a0_0, a0_1, a0_2, a0_3)
def laws_toInsS.l0 : Nat → List (S175) → List (S95) → Int → Option ((List (S95)))
  | 0, _, _, _ => none
  | k + 1, x0, x3, x4 => if x4 < (x0.length : Int) then (if 0 ≤ x4 then ((laws_toIns.f ((rd_T175 x0 x4).f0) ((rd_T175 x0 x4).f1) ((rd_T175 x0 x4).f2) ((rd_T175 x0 x4).f3)).bind fun bt268 => (if x4 < (x3.length : Int) then (laws_toInsS.l0 k x0 (x3.set (x4 : Int).toNat (⟨bt268.1, bt268.2.1, bt268.2.2.1, bt268.2.2.2⟩ : S95)) (wrap64 (x4 + 1))) else (none))) else (none)) else (some x3)
def laws_toInsS.f (k : Nat) (l0 : List (S175)) : Option ((List (S95))) := if 0 ≤ (l0.length : Int) then (if ((l0.length : Int) : Int).toNat ≤ 8796093022208 then (laws_toInsS.l0 k l0 (List.replicate ((l0.length : Int) : Int).toNat z95) 0) else (none)) else (none)
def laws_toInsSS.l0 : Nat → List (List (S175)) → List (List (S95)) → Int → Option ((List (List (S95))))
  | 0, _, _, _ => none
  | k + 1, x0, x3, x4 => if x4 < (x0.length : Int) then (if 0 ≤ x4 then ((laws_toInsS.f k (rd_L3 x0 x4)).bind fun t277 => (if x4 < (x3.length : Int) then (laws_toInsSS.l0 k x0 (x3.set (x4 : Int).toNat t277) (wrap64 (x4 + 1))) else (none))) else (none)) else (some x3)
def laws_toInsSS.f (k : Nat) (l0 : List (List (S175))) : Option ((List (List (S95)))) := if 0 ≤ (l0.length : Int) then (if ((l0.length : Int) : Int).toNat ≤ 11728124029610 then (laws_toInsSS.l0 k l0 (List.replicate ((l0.length : Int) : Int).toNat []) 0) else (none)) else (none)
def impl_in.f (a0 : Int) (a1 : Int) (a2 : Int) : Option (Bool) := if a0 ≥ a1 then (some (decide (a0 ≤ a2))) else (some false)
def impl_BoxOk.l0 : Nat → List (S37) → List (S37) → Int → Int → Option (Bool)
  | 0, _, _, _, _ => none
  | k + 1, x0, x5, x6, x7 => if x7 < x6 then (if 0 ≤ x7 then (if x7 < (x5.length : Int) then ((impl_in.f ((rd_T37 x5 x7).f0) 0 1000000).bind fun t283 => (if t283 = true then ((impl_in.f ((rd_T37 x5 x7).f1) (-1000000) 1000000).bind fun t284 => (if t284 = true then (impl_BoxOk.l0 k x0 x5 x6 (wrap64 (x7 + 1))) else (some false))) else (some false))) else (none)) else (none)) else (some ((x0.length : Int) == 4))
def impl_BoxOk.f (k : Nat) (l0 : List (S37)) : Option (Bool) := impl_BoxOk.l0 k l0 l0 (l0.length : Int) 0
def impl_insOk_1.f (a0 : Int) : Option (Bool) := (impl_in.f a0 0 3).bind fun t285 => (some t285)
def impl_insOk_2.f (a0 : Int) : Option (Bool) := (impl_in.f a0 0 3).bind fun t286 => (some t286)
def impl_insOk.j0 : Nat → Int → Bool → Int → Int → Int → Int → Option (Bool)
  | 0, _, _, _, _, _, _ => none
  | k + 1, x6, x57, x288000, x288001, x288002, x288003 => if x57 = true then ((impl_insOk_1.f x288001).bind fun t294 => (if t294 = true then ((impl_insOk_1.f x288002).bind fun t295 => (if t295 = true then (some (x288003 == 0)) else (some false))) else (some false))) else (if x6 = 6 then ((impl_insOk_1.f x288001).bind fun t296 => (if t296 = true then ((impl_insOk_1.f x288002).bind fun t297 => (if t297 = true then ((impl_in.f x288003 1 10).bind fun t298 => (some t298)) else (some false))) else (some false))) else (if x6 = 7 then (if x288001 = 0 then (if x288002 = 0 then (some (x288003 == 0)) else (some false)) else (some false)) else (some false)))
def impl_insOk.f (k : Nat) (a0_0 : Int) (a0_1 : Int) (a0_2 : Int) (a0_3 : Int) : Option (Bool) := if a0_0 = 1 then ((impl_insOk_1.f a0_1).bind fun t288 => (if t288 = true then ((impl_insOk_2.f a0_2).bind fun t289 => (if t289 = true then (some (a0_3 == 0)) else (some false))) else (some false))) else (if a0_0 = 2 then ((impl_insOk_2.f a0_1).bind fun t290 => (if t290 = true then ((impl_insOk_1.f a0_2).bind fun t291 => (if t291 = true then (some (a0_3 == 0)) else (some false))) else (some false))) else (if a0_0 = 3 then ((impl_insOk_1.f a0_1).bind fun t292 => (if t292 = true then (if a0_2 = 0 then ((impl_in.f a0_3 (-1000000) 1000000).bind fun t293 => (some t293)) else (some false)) else (some false))) else (if a0_0 = 4 then (impl_insOk.j0 k a0_0 (a0_0 == 4) a0_0 a0_1 a0_2 a0_3) else (impl_insOk.j0 k a0_0 (a0_0 == 5) a0_0 a0_1 a0_2 a0_3))))
def impl_ProgOk.l0 : Nat → List (S95) → List (S95) → Int → Int → Option (Bool)
  | 0, _, _, _, _ => none
  | k + 1, x0, x5, x6, x7 => if x7 < x6 then (if 0 ≤ x7 then (if x7 < (x5.length : Int) then ((impl_insOk.f k ((rd_T95 x5 x7).f0) ((rd_T95 x5 x7).f1) ((rd_T95 x5 x7).f2) ((rd_T95 x5 x7).f3)).bind fun t301 => (if t301 = true then (impl_ProgOk.l0 k x0 x5 x6 (wrap64 (x7 + 1))) else (some false))) else (none)) else (none)) else (some (decide ((x0.length : Int) ≤ 10)))
def impl_ProgOk.f (k : Nat) (l0 : List (S95)) : Option (Bool) := impl_ProgOk.l0 k l0 l0 (l0.length : Int) 0
def impl_putAt.l0 : Nat → Int → List (S82) → Int → Int → Option (Int)
  | 0, _, _, _, _ => none
  | k + 1, x1, x8, x9, x10 => if x10 < x9 then (if 0 ≤ x10 then (if x10 < (x8.length : Int) then (if ((rd_T82 x8 x10).f0) = x1 then (some x10) else (impl_putAt.l0 k x1 x8 x9 (wrap64 (x10 + 1)))) else (none)) else (none)) else (some (-1))
def impl_putAt.f (k : Nat) (l0_0 : List (S39)) (l0_1 : List (S82)) (a0_2 : Int) (a0_3 : Int) (a1 : Int) : Option (Int) := impl_putAt.l0 k a1 l0_1 (l0_1.length : Int) 0
def impl_readAt.l0 : Nat → Int → List (S39) → Int → Int → Option (Int)
  | 0, _, _, _, _ => none
  | k + 1, x1, x8, x9, x10 => if x10 < x9 then (if 0 ≤ x10 then (if x10 < (x8.length : Int) then (if ((rd_T39 x8 x10).f0) = x1 then (some x10) else (impl_readAt.l0 k x1 x8 x9 (wrap64 (x10 + 1)))) else (none)) else (none)) else (some (-1))
def impl_readAt.f (k : Nat) (l0_0 : List (S39)) (l0_1 : List (S82)) (a0_2 : Int) (a0_3 : Int) (a1 : Int) : Option (Int) := impl_readAt.l0 k a1 l0_0 (l0_0.length : Int) 0
def impl_copied_impl_Read.f (l0 : List (S39)) : Option (List (S39)) := if l0.length ≤ 17592186044416 then some l0 else none
def impl_copied_impl_Put.f (l0 : List (S82)) : Option (List (S82)) := if l0.length ≤ 17592186044416 then some l0 else none
mutual
def impl_ExecRun.j0 : Nat → List (S37) → List (S95) → Bool → Option ((List (S39)) × (List (S82)) × Int × Int)
 | 0, _, _, _ => none
 | k + 1, x0, x1, x20 => if x20 = true then (some (([] : List (S39)), ([] : List (S82)), 0, 3)) else (impl_ExecRun.l0 k x0 x1 0 0 0 0 0 ([] : List (S39)) ([] : List (S82)) 0 0)
def impl_ExecRun.l0 : Nat → List (S37) → List (S95) → Int → Int → Int → Int → Int → List (S39) → List (S82) → Int → Int → Option ((List (S39)) × (List (S82)) × Int × Int)
 | 0, _, _, _, _, _, _, _, _, _, _, _ => none
 | k + 1, x0, x1, x7, x312000, x312001, x312002, x312003, x313000, x313001, x313002, x313003 => if x7 < (x1.length : Int) then (if 0 ≤ x7 then (if ((rd_T95 x1 x7).f0) = 1 then ((impl_putAt.f k x313000 x313001 x313002 x313003 ((rd_T95 x1 x7).f2)).bind fun t321 => (if t321 ≥ 0 then (if 0 ≤ t321 then (if t321 < (x313001.length : Int) then (if 0 ≤ ((rd_T95 x1 x7).f1) then (if ((rd_T95 x1 x7).f1) < 4 then (impl_ExecRun.j2 k x0 x1 x7 (ixI ((rd_T95 x1 x7).f1) 0 ((rd_T82 x313001 t321).f1) x312000) (ixI ((rd_T95 x1 x7).f1) 1 ((rd_T82 x313001 t321).f1) x312001) (ixI ((rd_T95 x1 x7).f1) 2 ((rd_T82 x313001 t321).f1) x312002) (ixI ((rd_T95 x1 x7).f1) 3 ((rd_T82 x313001 t321).f1) x312003) x313000 x313001 x313002 x313003) else (none)) else (none)) else (none)) else (none)) else ((impl_readAt.f k x313000 x313001 x313002 x313003 ((rd_T95 x1 x7).f2)).bind fun t323 => (if t323 < 0 then (if 0 ≤ ((rd_T95 x1 x7).f2) then (if ((rd_T95 x1 x7).f2) < (x0.length : Int) then (if x313000.length < 8796093022208 then (if 0 ≤ ((rd_T95 x1 x7).f1) then (if ((rd_T95 x1 x7).f1) < 4 then (impl_ExecRun.j2 k x0 x1 x7 (ixI ((rd_T95 x1 x7).f1) 0 ((rd_T37 x0 ((rd_T95 x1 x7).f2)).f1) x312000) (ixI ((rd_T95 x1 x7).f1) 1 ((rd_T37 x0 ((rd_T95 x1 x7).f2)).f1) x312001) (ixI ((rd_T95 x1 x7).f1) 2 ((rd_T37 x0 ((rd_T95 x1 x7).f2)).f1) x312002) (ixI ((rd_T95 x1 x7).f1) 3 ((rd_T37 x0 ((rd_T95 x1 x7).f2)).f1) x312003) (x313000 ++ [(⟨(rd_T95 x1 x7).f2, (rd_T37 x0 ((rd_T95 x1 x7).f2)).f0⟩ : S39)]) x313001 x313002 x313003) else (none)) else (none)) else (none)) else (none)) else (none)) else (if 0 ≤ ((rd_T95 x1 x7).f2) then (if ((rd_T95 x1 x7).f2) < (x0.length : Int) then (if 0 ≤ ((rd_T95 x1 x7).f1) then (if ((rd_T95 x1 x7).f1) < 4 then (impl_ExecRun.j2 k x0 x1 x7 (ixI ((rd_T95 x1 x7).f1) 0 ((rd_T37 x0 ((rd_T95 x1 x7).f2)).f1) x312000) (ixI ((rd_T95 x1 x7).f1) 1 ((rd_T37 x0 ((rd_T95 x1 x7).f2)).f1) x312001) (ixI ((rd_T95 x1 x7).f1) 2 ((rd_T37 x0 ((rd_T95 x1 x7).f2)).f1) x312002) (ixI ((rd_T95 x1 x7).f1) 3 ((rd_T37 x0 ((rd_T95 x1 x7).f2)).f1) x312003) x313000 x313001 x313002 x313003) else (none)) else (none)) else (none)) else (none)))))) else (if ((rd_T95 x1 x7).f0) = 2 then ((impl_putAt.f k x313000 x313001 x313002 x313003 ((rd_T95 x1 x7).f1)).bind fun t330 => (if t330 ≥ 0 then (if 0 ≤ ((rd_T95 x1 x7).f2) then (if ((rd_T95 x1 x7).f2) < 4 then (if 0 ≤ t330 then (if t330 < (x313001.length : Int) then (impl_ExecRun.j2 k x0 x1 x7 x312000 x312001 x312002 x312003 x313000 (x313001.set (t330 : Int).toNat (⟨(rd_T82 x313001 t330).f0, rd [x312000, x312001, x312002, x312003] ((rd_T95 x1 x7).f2)⟩ : S82)) x313002 x313003) else (none)) else (none)) else (none)) else (none)) else (if 0 ≤ ((rd_T95 x1 x7).f2) then (if ((rd_T95 x1 x7).f2) < 4 then (if x313001.length < 8796093022208 then (impl_ExecRun.j2 k x0 x1 x7 x312000 x312001 x312002 x312003 x313000 (x313001 ++ [(⟨(rd_T95 x1 x7).f1, rd [x312000, x312001, x312002, x312003] ((rd_T95 x1 x7).f2)⟩ : S82)]) x313002 x313003) else (none)) else (none)) else (none)))) else (if ((rd_T95 x1 x7).f0) = 3 then (if 0 ≤ ((rd_T95 x1 x7).f1) then (if ((rd_T95 x1 x7).f1) < 4 then (impl_ExecRun.j2 k x0 x1 x7 (ixI ((rd_T95 x1 x7).f1) 0 ((rd_T95 x1 x7).f3) x312000) (ixI ((rd_T95 x1 x7).f1) 1 ((rd_T95 x1 x7).f3) x312001) (ixI ((rd_T95 x1 x7).f1) 2 ((rd_T95 x1 x7).f3) x312002) (ixI ((rd_T95 x1 x7).f1) 3 ((rd_T95 x1 x7).f3) x312003) x313000 x313001 x313002 x313003) else (none)) else (none)) else (if ((rd_T95 x1 x7).f0) = 4 then (if 0 ≤ ((rd_T95 x1 x7).f1) then (if ((rd_T95 x1 x7).f1) < 4 then (if 0 ≤ ((rd_T95 x1 x7).f2) then (if ((rd_T95 x1 x7).f2) < 4 then (impl_ExecRun.j2 k x0 x1 x7 (ixI ((rd_T95 x1 x7).f1) 0 (wrap64 ((rd [x312000, x312001, x312002, x312003] ((rd_T95 x1 x7).f1)) + (rd [x312000, x312001, x312002, x312003] ((rd_T95 x1 x7).f2)))) x312000) (ixI ((rd_T95 x1 x7).f1) 1 (wrap64 ((rd [x312000, x312001, x312002, x312003] ((rd_T95 x1 x7).f1)) + (rd [x312000, x312001, x312002, x312003] ((rd_T95 x1 x7).f2)))) x312001) (ixI ((rd_T95 x1 x7).f1) 2 (wrap64 ((rd [x312000, x312001, x312002, x312003] ((rd_T95 x1 x7).f1)) + (rd [x312000, x312001, x312002, x312003] ((rd_T95 x1 x7).f2)))) x312002) (ixI ((rd_T95 x1 x7).f1) 3 (wrap64 ((rd [x312000, x312001, x312002, x312003] ((rd_T95 x1 x7).f1)) + (rd [x312000, x312001, x312002, x312003] ((rd_T95 x1 x7).f2)))) x312003) x313000 x313001 x313002 x313003) else (none)) else (none)) else (none)) else (none)) else (if ((rd_T95 x1 x7).f0) = 5 then (if 0 ≤ ((rd_T95 x1 x7).f1) then (if ((rd_T95 x1 x7).f1) < 4 then (if 0 ≤ ((rd_T95 x1 x7).f2) then (if ((rd_T95 x1 x7).f2) < 4 then (impl_ExecRun.j2 k x0 x1 x7 (ixI ((rd_T95 x1 x7).f1) 0 (wrap64 ((rd [x312000, x312001, x312002, x312003] ((rd_T95 x1 x7).f1)) - (rd [x312000, x312001, x312002, x312003] ((rd_T95 x1 x7).f2)))) x312000) (ixI ((rd_T95 x1 x7).f1) 1 (wrap64 ((rd [x312000, x312001, x312002, x312003] ((rd_T95 x1 x7).f1)) - (rd [x312000, x312001, x312002, x312003] ((rd_T95 x1 x7).f2)))) x312001) (ixI ((rd_T95 x1 x7).f1) 2 (wrap64 ((rd [x312000, x312001, x312002, x312003] ((rd_T95 x1 x7).f1)) - (rd [x312000, x312001, x312002, x312003] ((rd_T95 x1 x7).f2)))) x312002) (ixI ((rd_T95 x1 x7).f1) 3 (wrap64 ((rd [x312000, x312001, x312002, x312003] ((rd_T95 x1 x7).f1)) - (rd [x312000, x312001, x312002, x312003] ((rd_T95 x1 x7).f2)))) x312003) x313000 x313001 x313002 x313003) else (none)) else (none)) else (none)) else (none)) else (if ((rd_T95 x1 x7).f0) = 6 then (if 0 ≤ ((rd_T95 x1 x7).f1) then (if ((rd_T95 x1 x7).f1) < 4 then (if 0 ≤ ((rd_T95 x1 x7).f2) then (if ((rd_T95 x1 x7).f2) < 4 then (if (rd [x312000, x312001, x312002, x312003] ((rd_T95 x1 x7).f1)) < (rd [x312000, x312001, x312002, x312003] ((rd_T95 x1 x7).f2)) then (impl_ExecRun.j2 k x0 x1 (wrap64 (x7 + ((rd_T95 x1 x7).f3))) x312000 x312001 x312002 x312003 x313000 x313001 x313002 x313003) else (impl_ExecRun.j2 k x0 x1 x7 x312000 x312001 x312002 x312003 x313000 x313001 x313002 x313003)) else (none)) else (none)) else (none)) else (none)) else (if ((rd_T95 x1 x7).f0) = 7 then ((impl_copied_impl_Read.f x313000).bind fun t335 => (some (t335, ([] : List (S82)), 0, 1))) else (impl_ExecRun.j2 k x0 x1 x7 x312000 x312001 x312002 x312003 x313000 x313001 x313002 x313003)))))))) else (none)) else ((impl_copied_impl_Read.f x313000).bind fun t313 => ((impl_copied_impl_Put.f x313001).bind fun t316 => (some (t313, t316, x312000, 0))))
def impl_ExecRun.j2 : Nat → List (S37) → List (S95) → Int → Int → Int → Int → Int → List (S39) → List (S82) → Int → Int → Option ((List (S39)) × (List (S82)) × Int × Int)
 | 0, _, _, _, _, _, _, _, _, _, _, _ => none
 | k + 1, x0, x1, x7, x312000, x312001, x312002, x312003, x313000, x313001, x313002, x313003 => impl_ExecRun.l1 k x0 x1 x7 0 x312000 x312001 x312002 x312003 x313000 x313001 x313002 x313003 x312000 x312001 x312002 x312003
def impl_ExecRun.l1 : Nat → List (S37) → List (S95) → Int → Int → Int → Int → Int → Int → List (S39) → List (S82) → Int → Int → Int → Int → Int → Int → Option ((List (S39)) × (List (S82)) × Int × Int)
 | 0, _, _, _, _, _, _, _, _, _, _, _, _, _, _, _, _ => none
 | k + 1, x0, x1, x7, x162, x312000, x312001, x312002, x312003, x313000, x313001, x313002, x313003, x339000, x339001, x339002, x339003 => if x162 < 4 then (if 0 ≤ x162 then ((impl_in.f (rd [x339000, x339001, x339002, x339003] x162) (-1000000) 1000000).bind fun t339 => (if t339 = true then (impl_ExecRun.l1 k x0 x1 x7 (wrap64 (x162 + 1)) x312000 x312001 x312002 x312003 x313000 x313001 x313002 x313003 x339000 x339001 x339002 x339003) else ((impl_copied_impl_Read.f x313000).bind fun t340 => (some (t340, ([] : List (S82)), 0, 2))))) else (none)) else (impl_ExecRun.l0 k x0 x1 (wrap64 (x7 + 1)) x312000 x312001 x312002 x312003 x313000 x313001 x313002 x313003)
end
def impl_ExecRun.f (k : Nat) (l0 : List (S37)) (l1 : List (S95)) : Option ((List (S39)) × (List (S82)) × Int × Int) := (impl_BoxOk.f k l0).bind fun t309 => (if t309 = true then ((impl_ProgOk.f k l1).bind fun t310 => (impl_ExecRun.j0 k l0 l1 (!t310))) else (impl_ExecRun.j0 k l0 l1 true))
mutual
def impl_ExecOk.j0 : Nat → Bool → List (S39) → List (S82) → Int → Int → Option (Bool)
  | 0, _, _, _, _, _ => none
  | k + 1, x45, x344000, x344001, x344002, x344003 => if x45 = true then (some false) else (impl_ExecOk.l0 k x344000 (x344000.length : Int) 0 x344000 x344001 x344002 x344003 false false false false false false false false)
def impl_ExecOk.l0 : Nat → List (S39) → Int → Int → List (S39) → List (S82) → Int → Int → Bool → Bool → Bool → Bool → Bool → Bool → Bool → Bool → Option (Bool)
  | 0, _, _, _, _, _, _, _, _, _, _, _, _, _, _, _ => none
  | k + 1, x47, x48, x49, x344000, x344001, x344002, x344003, x347000, x347001, x347002, x347003, x348000, x348001, x348002, x348003 => if x49 < x48 then (if 0 ≤ x49 then (if x49 < (x47.length : Int) then ((impl_in.f ((rd_T39 x47 x49).f0) 0 3).bind fun t350 => (if t350 = true then (if 0 ≤ ((rd_T39 x47 x49).f0) then (if ((rd_T39 x47 x49).f0) < 4 then (if rdOf false [x347000, x347001, x347002, x347003] ((rd_T39 x47 x49).f0) = true then (some false) else ((impl_in.f ((rd_T39 x47 x49).f1) 0 1000000).bind fun t351 => (if t351 = true then (impl_ExecOk.l0 k x47 x48 (wrap64 (x49 + 1)) x344000 x344001 x344002 x344003 (ixB ((rd_T39 x47 x49).f0) 0 true x347000) (ixB ((rd_T39 x47 x49).f0) 1 true x347001) (ixB ((rd_T39 x47 x49).f0) 2 true x347002) (ixB ((rd_T39 x47 x49).f0) 3 true x347003) x348000 x348001 x348002 x348003) else (some false)))) else (none)) else (none)) else (some false))) else (none)) else (none)) else (impl_ExecOk.l1 k x344001 (x344001.length : Int) 0 x348000 x348001 x348002 x348003)
def impl_ExecOk.l1 : Nat → List (S82) → Int → Int → Bool → Bool → Bool → Bool → Option (Bool)
  | 0, _, _, _, _, _, _, _ => none
  | k + 1, x74, x75, x76, x348000, x348001, x348002, x348003 => if x76 < x75 then (if 0 ≤ x76 then (if x76 < (x74.length : Int) then ((impl_in.f ((rd_T82 x74 x76).f0) 0 3).bind fun t354 => (if t354 = true then (if 0 ≤ ((rd_T82 x74 x76).f0) then (if ((rd_T82 x74 x76).f0) < 4 then (if rdOf false [x348000, x348001, x348002, x348003] ((rd_T82 x74 x76).f0) = true then (some false) else ((impl_in.f ((rd_T82 x74 x76).f1) (-1000000) 1000000).bind fun t355 => (if t355 = true then (impl_ExecOk.l1 k x74 x75 (wrap64 (x76 + 1)) (ixB ((rd_T82 x74 x76).f0) 0 true x348000) (ixB ((rd_T82 x74 x76).f0) 1 true x348001) (ixB ((rd_T82 x74 x76).f0) 2 true x348002) (ixB ((rd_T82 x74 x76).f0) 3 true x348003)) else (some false)))) else (none)) else (none)) else (some false))) else (none)) else (none)) else (some true)
end
def impl_ExecOk.f (k : Nat) (l0_0 : List (S39)) (l0_1 : List (S82)) (a0_2 : Int) (a0_3 : Int) : Option (Bool) := (impl_in.f a0_3 0 3).bind fun t344 => (if t344 = true then ((impl_in.f a0_2 (-1000000) 1000000).bind fun t345 => (if t345 = true then (if a0_3 = 0 then (if a0_3 = 3 then (impl_ExecOk.j0 k (decide ((l0_0.length : Int) > 0)) l0_0 l0_1 a0_2 a0_3) else (impl_ExecOk.j0 k false l0_0 l0_1 a0_2 a0_3)) else (if a0_2 = 0 then (if (l0_1.length : Int) > 0 then (impl_ExecOk.j0 k true l0_0 l0_1 a0_2 a0_3) else (if a0_3 = 3 then (impl_ExecOk.j0 k (decide ((l0_0.length : Int) > 0)) l0_0 l0_1 a0_2 a0_3) else (impl_ExecOk.j0 k false l0_0 l0_1 a0_2 a0_3))) else (impl_ExecOk.j0 k true l0_0 l0_1 a0_2 a0_3))) else (impl_ExecOk.j0 k true l0_0 l0_1 a0_2 a0_3))) else (impl_ExecOk.j0 k true l0_0 l0_1 a0_2 a0_3))
def impl_copied_impl_Box.f (l0 : List (S37)) : Option (List (S37)) := if l0.length ≤ 17592186044416 then some l0 else none
mutual
def impl_ExecDo.j0 : Nat → List (S37) → Bool → List (S39) → List (S82) → Int → Int → Option ((List (S37)))
  | 0, _, _, _, _, _, _ => none
  | k + 1, x0, x15, x357000, x357001, x357002, x357003 => if x15 = true then (some ([] : List (S37))) else ((impl_copied_impl_Box.f x0).bind fun t359 => (impl_ExecDo.l0 k t359 x357001 (x357001.length : Int) 0))
def impl_ExecDo.l0 : Nat → List (S37) → List (S82) → Int → Int → Option ((List (S37)))
  | 0, _, _, _, _ => none
  | k + 1, x5, x19, x20, x21 => if x21 < x20 then (if 0 ≤ x21 then (if x21 < (x19.length : Int) then (if 0 ≤ ((rd_T82 x19 x21).f0) then (if ((rd_T82 x19 x21).f0) < (x5.length : Int) then (impl_ExecDo.l0 k (x5.set (((rd_T82 x19 x21).f0) : Int).toNat (⟨mn 1000000 (wrap64 (((rd_T37 x5 ((rd_T82 x19 x21).f0)).f0) + 1)), (rd_T82 x19 x21).f1⟩ : S37)) x19 x20 (wrap64 (x21 + 1))) else (none)) else (none)) else (none)) else (none)) else (some x5)
end
def impl_ExecDo.f (k : Nat) (l0 : List (S37)) (l1_0 : List (S39)) (l1_1 : List (S82)) (a1_2 : Int) (a1_3 : Int) : Option ((List (S37))) := (impl_BoxOk.f k l0).bind fun t357 => (if t357 = true then ((impl_ExecOk.f k l1_0 l1_1 a1_2 a1_3).bind fun t358 => (impl_ExecDo.j0 k l0 (!t358) l1_0 l1_1 a1_2 a1_3)) else (impl_ExecDo.j0 k l0 true l1_0 l1_1 a1_2 a1_3))
def impl_SerialOne.f (k : Nat) (l0 : List (S37)) (l1 : List (S95)) : Option ((List (S37)) × Int × Int) := (impl_ExecRun.f k l0 l1).bind fun bt366 => (if bt366.2.2.2 = 3 then (some (([] : List (S37)), 0, 3)) else ((impl_ExecDo.f k l0 bt366.1 bt366.2.1 bt366.2.2.1 bt366.2.2.2).bind fun t375 => (some (t375, bt366.2.2.1, bt366.2.2.2))))
def impl_copied_int.f (l0 : List Int) : Option (List Int) := if l0.length ≤ 35184372088832 then some l0 else none
mutual
def impl_SerialAll.j0 : Nat → List (S37) → List (List (S95)) → Bool → Option ((List (S37)) × List Int)
  | 0, _, _, _ => none
  | k + 1, x0, x1, x20 => if x20 = true then (some (([] : List (S37)), ([] : List Int))) else ((impl_copied_impl_Box.f x0).bind fun t379 => (impl_SerialAll.l0 k t379 ([] : List Int) x1 (x1.length : Int) 0))
def impl_SerialAll.l0 : Nat → List (S37) → List Int → List (List (S95)) → Int → Int → Option ((List (S37)) × List Int)
  | 0, _, _, _, _, _ => none
  | k + 1, x6, x7, x23, x24, x25 => if x25 < x24 then (if 0 ≤ x25 then (if x25 < (x23.length : Int) then ((impl_SerialOne.f k x6 (rd_L8 x23 x25)).bind fun bt383 => (if bt383.2.2 = 3 then (some (([] : List (S37)), ([] : List Int))) else (if x7.length < 17592186044416 then (impl_SerialAll.l0 k bt383.1 (x7 ++ [bt383.2.1]) x23 x24 (wrap64 (x25 + 1))) else (none)))) else (none)) else (none)) else ((impl_copied_int.f x7).bind fun t391 => (some (x6, t391)))
end
def impl_SerialAll.f (k : Nat) (l0 : List (S37)) (l1 : List (List (S95))) : Option ((List (S37)) × List Int) := (impl_BoxOk.f k l0).bind fun t378 => (if t378 = true then (impl_SerialAll.j0 k l0 l1 (decide ((l1.length : Int) > 100))) else (impl_SerialAll.j0 k l0 l1 true))
def laws_eqBox.f (a0_0 : Int) (a0_1 : Int) (a1_0 : Int) (a1_1 : Int) : Option (Bool) := if a0_0 = a1_0 then (if a0_1 = a1_1 then (some true) else (some false)) else (some false)
def laws_eqBoxS.l0 : Nat → List (S37) → List (S37) → Int → Option (Bool)
  | 0, _, _, _ => none
  | k + 1, x0, x1, x5 => if x5 < (x0.length : Int) then (if 0 ≤ x5 then (if x5 < (x1.length : Int) then ((laws_eqBox.f ((rd_T37 x0 x5).f0) ((rd_T37 x0 x5).f1) ((rd_T37 x1 x5).f0) ((rd_T37 x1 x5).f1)).bind fun t398 => (if t398 = true then (laws_eqBoxS.l0 k x0 x1 (wrap64 (x5 + 1))) else (some false))) else (none)) else (none)) else (some true)
def laws_eqBoxS.f (k : Nat) (l0 : List (S37)) (l1 : List (S37)) : Option (Bool) := if (l0.length : Int) = (l1.length : Int) then (laws_eqBoxS.l0 k l0 l1 0) else (some false)
def laws_eqIntS.l0 : Nat → List Int → List Int → Int → Option (Bool)
  | 0, _, _, _ => none
  | k + 1, x0, x1, x5 => if x5 < (x0.length : Int) then (if 0 ≤ x5 then (if x5 < (x1.length : Int) then (if (rd x0 x5) = (rd x1 x5) then (laws_eqIntS.l0 k x0 x1 (wrap64 (x5 + 1))) else (some false)) else (none)) else (none)) else (some true)
def laws_eqIntS.f (k : Nat) (l0 : List Int) (l1 : List Int) : Option (Bool) := if (l0.length : Int) = (l1.length : Int) then (laws_eqIntS.l0 k l0 l1 0) else (some false)
def laws_eqIns.f (a0_0 : Int) (a0_1 : Int) (a0_2 : Int) (a0_3 : Int) (a1_0 : Int) (a1_1 : Int) (a1_2 : Int) (a1_3 : Int) : Option (Bool) := if a0_0 = a1_0 then (if a0_1 = a1_1 then (if a0_2 = a1_2 then (if a0_3 = a1_3 then (some true) else (some false)) else (some false)) else (some false)) else (some false)
def laws_eqInsS.l0 : Nat → List (S95) → List (S95) → Int → Option (Bool)
  | 0, _, _, _ => none
  | k + 1, x0, x1, x5 => if x5 < (x0.length : Int) then (if 0 ≤ x5 then (if x5 < (x1.length : Int) then ((laws_eqIns.f ((rd_T95 x0 x5).f0) ((rd_T95 x0 x5).f1) ((rd_T95 x0 x5).f2) ((rd_T95 x0 x5).f3) ((rd_T95 x1 x5).f0) ((rd_T95 x1 x5).f1) ((rd_T95 x1 x5).f2) ((rd_T95 x1 x5).f3)).bind fun t405 => (if t405 = true then (laws_eqInsS.l0 k x0 x1 (wrap64 (x5 + 1))) else (some false))) else (none)) else (none)) else (some true)
def laws_eqInsS.f (k : Nat) (l0 : List (S95)) (l1 : List (S95)) : Option (Bool) := if (l0.length : Int) = (l1.length : Int) then (laws_eqInsS.l0 k l0 l1 0) else (some false)
def laws_eqInsSS.l0 : Nat → List (List (S95)) → List (List (S95)) → Int → Option (Bool)
  | 0, _, _, _ => none
  | k + 1, x0, x1, x5 => if x5 < (x0.length : Int) then (if 0 ≤ x5 then (if x5 < (x1.length : Int) then ((laws_eqInsS.f k (rd_L8 x0 x5) (rd_L8 x1 x5)).bind fun t408 => (if t408 = true then (laws_eqInsSS.l0 k x0 x1 (wrap64 (x5 + 1))) else (some false))) else (none)) else (none)) else (some true)
def laws_eqInsSS.f (k : Nat) (l0 : List (List (S95))) (l1 : List (List (S95))) : Option (Bool) := if (l0.length : Int) = (l1.length : Int) then (laws_eqInsSS.l0 k l0 l1 0) else (some false)
def laws_markBoxS.l0 : Nat → List (S37) → Int → Int → Option (Int × (List (S37)))
  | 0, _, _, _ => none
  | k + 1, x0, x1, x5 => if x5 < (x0.length : Int) then (if 0 ≤ x5 then ((some (x0.set (x5 : Int).toNat (⟨x1, (rd_T37 x0 x5).f1⟩ : S37) : List (S37))).bind fun y409 => (laws_markBoxS.l0 k (y409.set (x5 : Int).toNat (⟨(rd_T37 y409 x5).f0, wrap64 (x1 + 1)⟩ : S37)) (wrap64 ((wrap64 (x1 + 1)) + 1)) (wrap64 (x5 + 1)))) else (none)) else (some (x1, x0))
def laws_markBoxS.f (k : Nat) (l0 : List (S37)) (a1 : Int) : Option (Int × (List (S37))) := laws_markBoxS.l0 k l0 a1 0
def laws_markInsS.l0 : Nat → List (S95) → Int → Int → Option (Int × (List (S95)))
  | 0, _, _, _ => none
  | k + 1, x0, x1, x5 => if x5 < (x0.length : Int) then (if 0 ≤ x5 then ((some (x0.set (x5 : Int).toNat (⟨x1, (rd_T95 x0 x5).f1, (rd_T95 x0 x5).f2, (rd_T95 x0 x5).f3⟩ : S95) : List (S95))).bind fun y411 => ((some (y411.set (x5 : Int).toNat (⟨(rd_T95 y411 x5).f0, wrap64 (x1 + 1), (rd_T95 y411 x5).f2, (rd_T95 y411 x5).f3⟩ : S95) : List (S95))).bind fun y412 => ((some (y412.set (x5 : Int).toNat (⟨(rd_T95 y412 x5).f0, (rd_T95 y412 x5).f1, wrap64 ((wrap64 (x1 + 1)) + 1), (rd_T95 y412 x5).f3⟩ : S95) : List (S95))).bind fun y413 => (laws_markInsS.l0 k (y413.set (x5 : Int).toNat (⟨(rd_T95 y413 x5).f0, (rd_T95 y413 x5).f1, (rd_T95 y413 x5).f2, wrap64 ((wrap64 ((wrap64 (x1 + 1)) + 1)) + 1)⟩ : S95)) (wrap64 ((wrap64 ((wrap64 ((wrap64 (x1 + 1)) + 1)) + 1)) + 1)) (wrap64 (x5 + 1)))))) else (none)) else (some (x1, x0))
def laws_markInsS.f (k : Nat) (l0 : List (S95)) (a1 : Int) : Option (Int × (List (S95))) := laws_markInsS.l0 k l0 a1 0
def laws_markIntS.l0 : Nat → List Int → Int → Int → Option (Int × List Int)
  | 0, _, _, _ => none
  | k + 1, x0, x1, x5 => if x5 < (x0.length : Int) then (if 0 ≤ x5 then (laws_markIntS.l0 k (x0.set (x5 : Int).toNat x1) (wrap64 (x1 + 1)) (wrap64 (x5 + 1))) else (none)) else (some (x1, x0))
def laws_markIntS.f (k : Nat) (l0 : List Int) (a1 : Int) : Option (Int × List Int) := laws_markIntS.l0 k l0 a1 0
def laws_heldBoxS.l0 : Nat → List (S37) → Int → Int → Option (Int)
  | 0, _, _, _ => none
  | k + 1, x0, x1, x5 => if x5 < (x0.length : Int) then (if 0 ≤ x5 then (if ((rd_T37 x0 x5).f0) = x1 then (if ((rd_T37 x0 x5).f1) = (wrap64 (x1 + 1)) then (laws_heldBoxS.l0 k x0 (wrap64 ((wrap64 (x1 + 1)) + 1)) (wrap64 (x5 + 1))) else (some (-1))) else (some (-1))) else (none)) else (some x1)
def laws_heldBoxS.f (k : Nat) (l0 : List (S37)) (a1 : Int) : Option (Int) := laws_heldBoxS.l0 k l0 a1 0
def laws_heldIntS.l0 : Nat → List Int → Int → Int → Option (Int)
  | 0, _, _, _ => none
  | k + 1, x0, x1, x5 => if x5 < (x0.length : Int) then (if 0 ≤ x5 then (if (rd x0 x5) = x1 then (laws_heldIntS.l0 k x0 (wrap64 (x1 + 1)) (wrap64 (x5 + 1))) else (some (-1))) else (none)) else (some x1)
def laws_heldIntS.f (k : Nat) (l0 : List Int) (a1 : Int) : Option (Int) := laws_heldIntS.l0 k l0 a1 0

open Go Go.Proofs Am
def tau : TypeId → Type
  | 3 => Int
  | 37 => S37
  | 39 => S39
  | 60 => (List S95)
  | 82 => S82
  | 95 => S95
  | 133 => (List S175)
  | 136 => S136
  | 175 => S175
  | _ => Unit
def tabL : List (TypeId × TI) := [(2, ⟨[.int .i64], .scal⟩), (3, ⟨[.int .i64], .scal⟩), (4, ⟨[.bool], .scal⟩), (23, ⟨[.sl 39], .sl 39⟩), (24, ⟨[.sl 82], .sl 82⟩), (26, ⟨[.sl 39, .sl 82, .int .i64, .int .i64], .st [(0, 23), (1, 24), (2, 3), (3, 3)]⟩), (29, ⟨[.sl 37], .sl 37⟩), (37, ⟨[.int .i64, .int .i64], .st [(0, 3), (1, 3)]⟩), (39, ⟨[.int .i64, .int .i64], .st [(0, 3), (1, 3)]⟩), (41, ⟨[.sl 136], .sl 136⟩), (42, ⟨[.sl 133], .sl 133⟩), (45, ⟨[.sl 3], .sl 3⟩), (49, ⟨[.sl 60], .sl 60⟩), (60, ⟨[.sl 95], .sl 95⟩), (82, ⟨[.int .i64, .int .i64], .st [(0, 3), (1, 3)]⟩), (95, ⟨[.int .i64, .int .i64, .int .i64, .int .i64], .st [(0, 3), (1, 3), (2, 3), (3, 3)]⟩), (133, ⟨[.sl 175], .sl 175⟩), (136, ⟨[.int .i64, .int .i64], .st [(0, 3), (1, 3)]⟩), (158, ⟨[.int .i64, .int .i64, .int .i64, .int .i64], .arr 4 3⟩), (173, ⟨[.bool, .bool, .bool, .bool], .arr 4 4⟩), (175, ⟨[.int .i64, .int .i64, .int .i64, .int .i64], .st [(0, 3), (1, 3), (2, 3), (3, 3)]⟩)]
def rowT : (e : TypeId) → tau e → List (Lf tau)
  | 3, (x : Int) => [.i x]
  | 37, (x : S37) => [.i x.f0, .i x.f1]
  | 39, (x : S39) => [.i x.f0, .i x.f1]
  | 60, (x : (List S95)) => [.l 95 x]
  | 82, (x : S82) => [.i x.f0, .i x.f1]
  | 95, (x : S95) => [.i x.f0, .i x.f1, .i x.f2, .i x.f3]
  | 133, (x : (List S175)) => [.l 175 x]
  | 136, (x : S136) => [.i x.f0, .i x.f1]
  | 175, (x : S175) => [.i x.f0, .i x.f1, .i x.f2, .i x.f3]
  | _, _ => []
instance : (e : TypeId) → Inhabited (tau e) := fun e => by unfold tau; split <;> first | exact ⟨(0 : Int)⟩ | exact ⟨false⟩ | exact ⟨(default : ByteArray)⟩ | exact ⟨[]⟩ | exact ⟨()⟩ | exact ⟨z37⟩ | exact ⟨z39⟩ | exact ⟨z82⟩ | exact ⟨z95⟩ | exact ⟨z136⟩ | exact ⟨z175⟩
def of3 : List (Lf tau) → Int
  | [(.i y0)] => y0
  | _ => (0 : Int)
def of37 : List (Lf tau) → S37
  | [(.i y0), (.i y1)] => (⟨y0, y1⟩ : S37)
  | _ => z37
def of39 : List (Lf tau) → S39
  | [(.i y0), (.i y1)] => (⟨y0, y1⟩ : S39)
  | _ => z39
def of60 : List (Lf tau) → (List S95)
  | [(.l 95 y0)] => y0
  | _ => []
def of82 : List (Lf tau) → S82
  | [(.i y0), (.i y1)] => (⟨y0, y1⟩ : S82)
  | _ => z82
def of95 : List (Lf tau) → S95
  | [(.i y0), (.i y1), (.i y2), (.i y3)] => (⟨y0, y1, y2, y3⟩ : S95)
  | _ => z95
def of133 : List (Lf tau) → (List S175)
  | [(.l 175 y0)] => y0
  | _ => []
def of136 : List (Lf tau) → S136
  | [(.i y0), (.i y1)] => (⟨y0, y1⟩ : S136)
  | _ => z136
def of175 : List (Lf tau) → S175
  | [(.i y0), (.i y1), (.i y2), (.i y3)] => (⟨y0, y1, y2, y3⟩ : S175)
  | _ => z175
def ofT : (e : TypeId) → List (Lf tau) → tau e
  | 3, l => of3 l
  | 37, l => of37 l
  | 39, l => of39 l
  | 60, l => of60 l
  | 82, l => of82 l
  | 95, l => of95 l
  | 133, l => of133 l
  | 136, l => of136 l
  | 175, l => of175 l
  | _, _ => default
def TT : Tab tau := { get := fun t => lookN t tabL, row := rowT, of := ofT, el := fun t => memN t [3, 37, 39, 60, 82, 95, 133, 136, 175] }
def byT : TypeId → Nat := fun t => lookD 1 t [(2, 8), (3, 8), (4, 1), (23, 24), (24, 24), (26, 64), (29, 24), (37, 16), (39, 16), (41, 24), (42, 24), (45, 24), (49, 24), (60, 24), (82, 16), (95, 32), (133, 24), (136, 16), (158, 32), (173, 4), (175, 32)]
def modeL : List (Nat × Nat) := [(28, 1)]
def shpL : List (Nat × List PS) := [(24, [.one (.sl 136), .one .any]), (88, [.one (.sl 175), .one .any]), (25, [.one (.sl 133), .one .any]), (84, [.one .any]), (22, [.one (.sl 37)]), (89, [.one (.sl 37)]), (85, [.one .any]), (170, [.one .any]), (153, [.agg [.any, .any, .any, .any]]), (106, [.one (.sl 95)]), (86, [.one (.sl 39), .one .any]), (87, [.one (.sl 82), .one .any]), (175, [.one (.sl 37), .agg [.own 39, .own 82, .any, .any], .one .any]), (176, [.agg [.own 39, .own 82, .any, .any], .one .any, .one .any]), (166, [.one (.sl 37), .agg [.own 39, .own 82, .any, .any], .one (.own 3), .agg [.any, .any, .any, .any]]), (144, [.one (.sl 37), .one (.sl 95)]), (167, [.one .any, .one .any]), (146, [.one (.own 37), .agg [.sl 39, .sl 82, .any, .any]]), (90, [.one (.sl 37), .one (.sl 95)]), (26, [.one (.sl 37), .one (.sl 60)]), (91, [.agg [.any, .any]]), (27, [.one (.sl 136)]), (147, [.agg [.any, .any, .any, .any]]), (92, [.one (.sl 175)]), (28, [.one (.sl 133)]), (122, [.one .any, .one .any, .one .any]), (82, [.one (.sl 37)]), (168, [.one .any]), (169, [.one .any]), (151, [.agg [.any, .any, .any, .any]]), (102, [.one (.sl 95)]), (126, [.agg [.sl 39, .sl 82, .any, .any], .one .any]), (127, [.agg [.sl 39, .sl 82, .any, .any], .one .any]), (128, [.one (.sl 39)]), (129, [.one (.sl 82)]), (61, [.one (.sl 37), .one (.sl 95)]), (83, [.agg [.sl 39, .sl 82, .any, .any]]), (93, [.one (.sl 37)]), (117, [.one (.sl 37), .agg [.sl 39, .sl 82, .any, .any]]), (63, [.one (.sl 37), .one (.sl 95)]), (94, [.one (.sl 3)]), (29, [.one (.sl 37), .one (.sl 60)]), (95, [.agg [.any, .any], .agg [.any, .any]]), (30, [.one (.sl 37), .one (.sl 37)]), (31, [.one (.sl 3), .one (.sl 3)]), (148, [.agg [.any, .any, .any, .any], .agg [.any, .any, .any, .any]]), (96, [.one (.sl 95), .one (.sl 95)]), (32, [.one (.sl 60), .one (.sl 60)]), (33, [.one (.own 37), .one .any]), (97, [.one (.own 95), .one .any]), (35, [.one (.own 3), .one .any]), (36, [.one (.sl 37), .one .any]), (37, [.one (.sl 3), .one .any])]
def persL : List (Nat × List Nat) := [(175, [1]), (176, [0]), (166, [2, 1]), (146, [0]), (33, [0]), (97, [0]), (35, [0])]
def pnL : List (Nat × Nat) := [(166, 1), (33, 1), (97, 1), (35, 1)]
def pnT : FuncId → Nat := fun f => lookD 0 f pnL
def mkE (keep : List (Nat × List (Nat × PS))) (res : List PS) (nb : NB) : Env tau := { T := TT, by_ := byT, mode := fun f => lookD 0 f modeL, shp := fun f => lookD [] f shpL, keep := fun i => lookN i keep, res := res, pers := fun f => lookD [] f persL, pn := pnT, nb := nb }
theorem asked : Asked Try.prog byT tabL := ⟨by kernel_rfl, by kernel_rfl, by kernel_rfl, by kernel_rfl⟩
theorem el_3 : ElOk TT 3 := by
 intro ti h
 replace h : some (⟨[.int .i64], .scal⟩ : TI) = some ti := h
 cases h
 refine ⟨fun x => rfl, fun l hl => ?_⟩
 obtain ⟨y0, l0, e0, h0⟩ := wts_i hl
 have e1 := wts_nil h0
 subst e1
 subst e0
 rfl
theorem el_37 : ElOk TT 37 := by
 intro ti h
 replace h : some (⟨[.int .i64, .int .i64], .st [(0, 3), (1, 3)]⟩ : TI) = some ti := h
 cases h
 refine ⟨fun x => rfl, fun l hl => ?_⟩
 obtain ⟨y0, l0, e0, h0⟩ := wts_i hl
 obtain ⟨y1, l1, e1, h1⟩ := wts_i h0
 have e2 := wts_nil h1
 subst e2
 subst e1
 subst e0
 rfl
theorem el_39 : ElOk TT 39 := by
 intro ti h
 replace h : some (⟨[.int .i64, .int .i64], .st [(0, 3), (1, 3)]⟩ : TI) = some ti := h
 cases h
 refine ⟨fun x => rfl, fun l hl => ?_⟩
 obtain ⟨y0, l0, e0, h0⟩ := wts_i hl
 obtain ⟨y1, l1, e1, h1⟩ := wts_i h0
 have e2 := wts_nil h1
 subst e2
 subst e1
 subst e0
 rfl
theorem el_60 : ElOk TT 60 := by
 intro ti h
 replace h : some (⟨[.sl 95], .sl 95⟩ : TI) = some ti := h
 cases h
 refine ⟨fun x => rfl, fun l hl => ?_⟩
 obtain ⟨y0, l0, e0, h0⟩ := wts_l hl
 have e1 := wts_nil h0
 subst e1
 subst e0
 rfl
theorem el_82 : ElOk TT 82 := by
 intro ti h
 replace h : some (⟨[.int .i64, .int .i64], .st [(0, 3), (1, 3)]⟩ : TI) = some ti := h
 cases h
 refine ⟨fun x => rfl, fun l hl => ?_⟩
 obtain ⟨y0, l0, e0, h0⟩ := wts_i hl
 obtain ⟨y1, l1, e1, h1⟩ := wts_i h0
 have e2 := wts_nil h1
 subst e2
 subst e1
 subst e0
 rfl
theorem el_95 : ElOk TT 95 := by
 intro ti h
 replace h : some (⟨[.int .i64, .int .i64, .int .i64, .int .i64], .st [(0, 3), (1, 3), (2, 3), (3, 3)]⟩ : TI) = some ti := h
 cases h
 refine ⟨fun x => rfl, fun l hl => ?_⟩
 obtain ⟨y0, l0, e0, h0⟩ := wts_i hl
 obtain ⟨y1, l1, e1, h1⟩ := wts_i h0
 obtain ⟨y2, l2, e2, h2⟩ := wts_i h1
 obtain ⟨y3, l3, e3, h3⟩ := wts_i h2
 have e4 := wts_nil h3
 subst e4
 subst e3
 subst e2
 subst e1
 subst e0
 rfl
theorem el_133 : ElOk TT 133 := by
 intro ti h
 replace h : some (⟨[.sl 175], .sl 175⟩ : TI) = some ti := h
 cases h
 refine ⟨fun x => rfl, fun l hl => ?_⟩
 obtain ⟨y0, l0, e0, h0⟩ := wts_l hl
 have e1 := wts_nil h0
 subst e1
 subst e0
 rfl
theorem el_136 : ElOk TT 136 := by
 intro ti h
 replace h : some (⟨[.int .i64, .int .i64], .st [(0, 3), (1, 3)]⟩ : TI) = some ti := h
 cases h
 refine ⟨fun x => rfl, fun l hl => ?_⟩
 obtain ⟨y0, l0, e0, h0⟩ := wts_i hl
 obtain ⟨y1, l1, e1, h1⟩ := wts_i h0
 have e2 := wts_nil h1
 subst e2
 subst e1
 subst e0
 rfl
theorem el_175 : ElOk TT 175 := by
 intro ti h
 replace h : some (⟨[.int .i64, .int .i64, .int .i64, .int .i64], .st [(0, 3), (1, 3), (2, 3), (3, 3)]⟩ : TI) = some ti := h
 cases h
 refine ⟨fun x => rfl, fun l hl => ?_⟩
 obtain ⟨y0, l0, e0, h0⟩ := wts_i hl
 obtain ⟨y1, l1, e1, h1⟩ := wts_i h0
 obtain ⟨y2, l2, e2, h2⟩ := wts_i h1
 obtain ⟨y3, l3, e3, h3⟩ := wts_i h2
 have e4 := wts_nil h3
 subst e4
 subst e3
 subst e2
 subst e1
 subst e0
 rfl
theorem pq : PQ Try.prog TT byT := pq_of asked rfl (fun e he => by
 have h := memN_iff.1 he
 simp only [List.mem_cons, List.not_mem_nil, or_false] at h
 rcases h with rfl | rfl | rfl | rfl | rfl | rfl | rfl | rfl | rfl
 · exact el_3
 · exact el_37
 · exact el_39
 · exact el_60
 · exact el_82
 · exact el_95
 · exact el_133
 · exact el_136
 · exact el_175)
theorem hmix : Try.prog.follows .mixedOrders = true := by kernel_rfl
noncomputable def c_24 (args : List (AV tau)) (m : Mem tau) (κ : AV tau → Mem tau → Option Unit) : Option Unit := match args, m.bx, m.rw with
  | [b0, b1], [], [] => bO (asSl 136 b0) fun l0 => bO (asI .i64 b1) fun a1 => callX (fun n => laws_szBoxS.f l0 a1) fun t => κ (.int .i64 (t)) ⟨[], []⟩
  | _, _, _ => none
def E_24 : Env tau := mkE [(0, [(0, .one (.own 136)), (1, .one .any)]), (1, [(0, .one (.own 136)), (1, .one .any)]), (2, [(1, .one .any)]), (3, []), (4, [(1, .one .any)])] [.one .any] ⟨0, 0⟩
noncomputable def c_88 (args : List (AV tau)) (m : Mem tau) (κ : AV tau → Mem tau → Option Unit) : Option Unit := match args, m.bx, m.rw with
  | [b0, b1], [], [] => bO (asSl 175 b0) fun l0 => bO (asI .i64 b1) fun a1 => callX (fun n => laws_szInsS.f l0 a1) fun t => κ (.int .i64 (t)) ⟨[], []⟩
  | _, _, _ => none
def E_88 : Env tau := mkE [(0, [(0, .one (.own 175)), (1, .one .any)]), (1, [(0, .one (.own 175)), (1, .one .any)]), (2, [(1, .one .any)]), (3, []), (4, [(1, .one .any)])] [.one .any] ⟨0, 0⟩
noncomputable def c_25 (args : List (AV tau)) (m : Mem tau) (κ : AV tau → Mem tau → Option Unit) : Option Unit := match args, m.bx, m.rw with
  | [b0, b1], [], [] => bO (asSl 133 b0) fun l0 => bO (asI .i64 b1) fun a1 => callX (fun n => laws_szInsSS.f n l0 a1) fun t => κ (.int .i64 (t)) ⟨[], []⟩
  | _, _, _ => none
def E_25 : Env tau := mkE [(0, [(0, .one (.own 133)), (1, .one .any)]), (1, [(0, .one (.own 133)), (1, .one .any)]), (2, [(0, .one (.own 133)), (1, .one .any)]), (3, []), (4, [(0, .one (.own 133)), (1, .one .any)]), (5, [(0, .one (.own 133)), (1, .one .any), (5, .one .any)]), (6, [(0, .one (.own 133)), (1, .one .any), (5, .one .any)]), (7, [(0, .one (.own 133)), (1, .one .any), (5, .one .any)]), (8, [(0, .one (.own 133)), (1, .one .any), (5, .one .any)]), (9, []), (10, [(1, .one .any)])] [.one .any] ⟨0, 0⟩
noncomputable def c_84 (args : List (AV tau)) (m : Mem tau) (κ : AV tau → Mem tau → Option Unit) : Option Unit := match args, m.bx, m.rw with
  | [b0], [], [] => bO (asI .i64 b0) fun a0 => callX (fun n => spec_l1Num.f a0) fun t => κ (.bool (t)) ⟨[], []⟩
  | _, _, _ => none
def E_84 : Env tau := mkE [(0, [(0, .one .any)]), (1, [(0, .one .any)])] [.one .any] ⟨0, 0⟩
noncomputable def c_22 (args : List (AV tau)) (m : Mem tau) (κ : AV tau → Mem tau → Option Unit) : Option Unit := match args, m.bx, m.rw with
  | [b0], [], [] => bO (asSl 37 b0) fun l0 => callX (fun n => spec_BoxOk.f n l0) fun t => κ (.bool (t)) ⟨[], []⟩
  | _, _, _ => none
def E_22 : Env tau := mkE [(0, [(0, .one (.own 37))]), (1, [(0, .one (.own 37))]), (2, []), (3, [(0, .one (.own 37))]), (4, [(0, .one (.own 37)), (3, .one .any)]), (5, [(0, .one (.own 37)), (3, .one .any)]), (6, [(0, .one (.own 37)), (3, .one .any)]), (7, []), (8, [])] [.one .any] ⟨0, 0⟩
noncomputable def c_89 (args : List (AV tau)) (m : Mem tau) (κ : AV tau → Mem tau → Option Unit) : Option Unit := match args, m.bx, m.rw with
  | [b0], [], [] => bO (asSl 37 b0) fun l0 => callX (fun n => spec_l1Copy.f l0) fun t => κ (.own 0 0) ⟨[], [some ⟨37, t, 0⟩]⟩
  | _, _, _ => none
def E_89 : Env tau := mkE [(0, [(0, .one (.own 37))]), (1, [(0, .one (.own 37))])] [.one (.own 37)] ⟨0, 0⟩
noncomputable def c_85 (args : List (AV tau)) (m : Mem tau) (κ : AV tau → Mem tau → Option Unit) : Option Unit := match args, m.bx, m.rw with
  | [b0], [], [] => bO (asI .i64 b0) fun a0 => callX (fun n => spec_l2Box.f a0) fun t => κ (.bool (t)) ⟨[], []⟩
  | _, _, _ => none
def E_85 : Env tau := mkE [(0, [(0, .one .any)]), (1, [(0, .one .any)])] [.one .any] ⟨0, 0⟩
noncomputable def c_170 (args : List (AV tau)) (m : Mem tau) (κ : AV tau → Mem tau → Option Unit) : Option Unit := match args, m.bx, m.rw with
  | [b0], [], [] => bO (asI .i64 b0) fun a0 => callX (fun n => spec_l2Reg.f a0) fun t => κ (.bool (t)) ⟨[], []⟩
  | _, _, _ => none
def E_170 : Env tau := mkE [(0, [(0, .one .any)]), (1, [(0, .one .any)])] [.one .any] ⟨0, 0⟩
noncomputable def c_153 (args : List (AV tau)) (m : Mem tau) (κ : AV tau → Mem tau → Option Unit) : Option Unit := match args, m.bx, m.rw with
  | [.agg [b0, b1, b2, b3]], [], [] => bO (asI .i64 b0) fun a0_0 => bO (asI .i64 b1) fun a0_1 => bO (asI .i64 b2) fun a0_2 => bO (asI .i64 b3) fun a0_3 => callX (fun n => spec_l2Ins.f n a0_0 a0_1 a0_2 a0_3) fun t => κ (.bool (t)) ⟨[], []⟩
  | _, _, _ => none
def E_153 : Env tau := mkE [(0, [(0, .agg [.any, .any, .any, .any])]), (1, [(1, .one .any)]), (2, [(1, .one .any), (4, .one .any)]), (3, [(1, .one .any)]), (4, [(1, .one .any), (4, .one .any)]), (5, [(1, .one .any)]), (6, [(1, .one .any), (4, .one .any)]), (7, [(1, .one .any)]), (8, [(1, .one .any), (4, .one .any)]), (9, [(1, .one .any), (4, .one .any)]), (10, [(1, .one .any)]), (11, [(1, .one .any), (4, .one .any)]), (12, [(1, .one .any)]), (13, [(1, .one .any), (4, .one .any)]), (14, [(1, .one .any)]), (15, [])] [.one .any] ⟨0, 0⟩
noncomputable def c_106 (args : List (AV tau)) (m : Mem tau) (κ : AV tau → Mem tau → Option Unit) : Option Unit := match args, m.bx, m.rw with
  | [b0], [], [] => bO (asSl 95 b0) fun l0 => callX (fun n => spec_ProgOk.f n l0) fun t => κ (.bool (t)) ⟨[], []⟩
  | _, _, _ => none
def E_106 : Env tau := mkE [(0, [(0, .one (.own 95))]), (1, [(0, .one (.own 95))]), (2, []), (3, [(0, .one (.own 95))]), (4, [(0, .one (.own 95)), (3, .one .any)]), (5, [(0, .one (.own 95)), (3, .one .any)]), (6, [(0, .one (.own 95)), (3, .one .any)]), (7, []), (8, [])] [.one .any] ⟨0, 0⟩
noncomputable def c_86 (args : List (AV tau)) (m : Mem tau) (κ : AV tau → Mem tau → Option Unit) : Option Unit := match args, m.bx, m.rw with
  | [b0, b1], [], [] => bO (asSl 39 b0) fun l0 => bO (asI .i64 b1) fun a1 => callX (fun n => spec_l3Saw.f n l0 a1) fun t => κ (.bool (t)) ⟨[], []⟩
  | _, _, _ => none
def E_86 : Env tau := mkE [(0, [(0, .one (.own 39)), (1, .one .any)]), (1, [(0, .one (.own 39)), (1, .one .any)]), (2, [(0, .one (.own 39)), (1, .one .any), (5, .one .any)]), (3, [(0, .one (.own 39)), (1, .one .any), (5, .one .any)]), (4, [(0, .one (.own 39)), (1, .one .any), (5, .one .any)]), (5, []), (6, [])] [.one .any] ⟨0, 0⟩
noncomputable def c_87 (args : List (AV tau)) (m : Mem tau) (κ : AV tau → Mem tau → Option Unit) : Option Unit := match args, m.bx, m.rw with
  | [b0, b1], [], [] => bO (asSl 82 b0) fun l0 => bO (asI .i64 b1) fun a1 => callX (fun n => spec_l3At.f n l0 a1) fun t => κ (.int .i64 (t)) ⟨[], []⟩
  | _, _, _ => none
def E_87 : Env tau := mkE [(0, [(0, .one (.own 82)), (1, .one .any)]), (1, [(0, .one (.own 82)), (1, .one .any)]), (2, [(0, .one (.own 82)), (1, .one .any), (5, .one .any)]), (3, [(0, .one (.own 82)), (1, .one .any), (5, .one .any)]), (4, [(0, .one (.own 82)), (1, .one .any), (5, .one .any)]), (5, [(5, .one .any)]), (6, [])] [.one .any] ⟨0, 0⟩
noncomputable def c_175 (args : List (AV tau)) (m : Mem tau) (κ : AV tau → Mem tau → Option Unit) : Option Unit := match args, m.bx, m.rw with
  | [b0, .agg [b1, b2, b3, b4], b5], [], [r0, r1] => bO (asSl 37 b0) fun l0 => bO (asOwn 0 b1) fun _ => bO (asRow 39 r0) fun l1_0 => bO (asOwn 1 b2) fun _ => bO (asRow 82 r1) fun l1_1 => bO (asI .i64 b3) fun a1_2 => bO (asI .i64 b4) fun a1_3 => bO (asI .i64 b5) fun a2 => callX (fun n => spec_l3Look.f n l0 l1_0 l1_1 a1_2 a1_3 a2) fun t => κ (.tup [.int .i64 (t.1), .agg [.own 0 0, .own 1 0, .int .i64 (t.2.2.2.1), .int .i64 (t.2.2.2.2)]]) ⟨[], [some ⟨39, t.2.1, 0⟩, some ⟨82, t.2.2.1, 0⟩]⟩
  | _, _, _ => none
def E_175 : Env tau := mkE [(0, [(0, .one (.own 37)), (1, .agg [.own 39, .own 82, .any, .any]), (2, .one .any)]), (1, [(0, .one (.own 37)), (2, .one .any), (4, .one .any), (7, .one .any)]), (2, [(0, .one (.own 37)), (2, .one .any), (4, .one .any), (7, .one .any), (8, .one .any)]), (3, [(4, .one .any), (7, .one .any), (8, .one .any)]), (4, [(0, .one (.own 37)), (2, .one .any), (4, .one .any), (7, .one .any)]), (5, [(0, .one (.own 37)), (2, .one .any), (4, .one .any), (7, .one .any)]), (6, [(0, .one (.own 37)), (2, .one .any), (4, .one .any), (7, .one .any)])] [.one .any, .agg [.own 39, .own 82, .any, .any]] ⟨0, 0⟩
noncomputable def c_176 (args : List (AV tau)) (m : Mem tau) (κ : AV tau → Mem tau → Option Unit) : Option Unit := match args, m.bx, m.rw with
  | [.agg [b0, b1, b2, b3], b4, b5], [], [r0, r1] => bO (asOwn 0 b0) fun _ => bO (asRow 39 r0) fun l0_0 => bO (asOwn 1 b1) fun _ => bO (asRow 82 r1) fun l0_1 => bO (asI .i64 b2) fun a0_2 => bO (asI .i64 b3) fun a0_3 => bO (asI .i64 b4) fun a1 => bO (asI .i64 b5) fun a2 => callX (fun n => spec_l3Put.f n l0_0 l0_1 a0_2 a0_3 a1 a2) fun t => κ (.agg [.own 0 0, .own 1 0, .int .i64 (t.2.2.1), .int .i64 (t.2.2.2)]) ⟨[], [some ⟨39, t.1, 0⟩, some ⟨82, t.2.1, 0⟩]⟩
  | _, _, _ => none
def E_176 : Env tau := mkE [(0, [(0, .agg [.own 39, .own 82, .any, .any]), (1, .one .any), (2, .one .any)]), (1, [(1, .one .any), (2, .one .any), (3, .one .any), (6, .one .any)]), (2, [(1, .one .any), (2, .one .any), (3, .one .any), (6, .one .any), (7, .one .any)]), (3, [(2, .one .any), (3, .one .any), (6, .one .any), (7, .one .any)]), (4, [(3, .one .any), (6, .one .any)]), (5, [(1, .one .any), (2, .one .any), (3, .one .any), (6, .one .any)]), (6, [(3, .one .any), (6, .one .any)])] [.agg [.own 39, .own 82, .any, .any]] ⟨0, 0⟩
noncomputable def c_166 (args : List (AV tau)) (m : Mem tau) (κ : AV tau → Mem tau → Option Unit) : Option Unit := match args, m.bx, m.rw with
  | [b0, .agg [b1, b2, b3, b4], b5, .agg [b6, b7, b8, b9]], [], [r0, r1, r2] => bO (asSl 37 b0) fun l0 => bO (asOwn 1 b1) fun _ => bO (asRow 39 r1) fun l1_0 => bO (asOwn 2 b2) fun _ => bO (asRow 82 r2) fun l1_1 => bO (asI .i64 b3) fun a1_2 => bO (asI .i64 b4) fun a1_3 => bO (asOwn 0 b5) fun _ => bO (asRow 3 r0) fun l2 => bO (asI .i64 b6) fun a3_0 => bO (asI .i64 b7) fun a3_1 => bO (asI .i64 b8) fun a3_2 => bO (asI .i64 b9) fun a3_3 => callX (fun n => spec_l3Step.f n l0 l1_0 l1_1 a1_2 a1_3 l2 a3_0 a3_1 a3_2 a3_3) fun t => κ (.agg [.own 1 0, .own 2 0, .int .i64 (t.2.2.1), .int .i64 (t.2.2.2.1)]) ⟨[], [some ⟨3, t.2.2.2.2, 0⟩, some ⟨39, t.1, 0⟩, some ⟨82, t.2.1, 0⟩]⟩
  | _, _, _ => none
def E_166 : Env tau := mkE [(0, [(0, .one (.own 37)), (1, .agg [.own 39, .own 82, .any, .any]), (2, .one (.own 3)), (3, .agg [.any, .any, .any, .any])]), (1, [(0, .one (.own 37)), (2, .one (.own 3)), (5, .one .any), (7, .one .any), (8, .one .any)]), (2, [(0, .one (.own 37)), (2, .one (.own 3)), (5, .one .any), (7, .one .any), (8, .one .any), (12, .one .any)]), (3, [(0, .one (.own 37)), (2, .one (.own 3)), (5, .one .any), (7, .one .any), (8, .one .any)]), (4, [(2, .one (.own 3)), (5, .one .any), (7, .one .any), (8, .one .any), (9, .one .any), (10, .one .any)]), (5, [(2, .one (.own 3)), (5, .one .any), (7, .one .any), (8, .one .any), (10, .one .any)]), (6, [(2, .one (.own 3)), (5, .one .any), (7, .one .any), (8, .one .any), (12, .one .any)]), (7, [(2, .one (.own 3)), (5, .one .any), (7, .one .any), (8, .one .any)]), (8, [(2, .one (.own 3)), (5, .one .any), (7, .one .any), (8, .one .any), (12, .one .any)]), (9, [(2, .one (.own 3)), (5, .one .any), (7, .one .any), (8, .one .any)]), (10, [(2, .one (.own 3)), (5, .one .any), (7, .one .any), (8, .one .any), (12, .one .any)]), (11, [(2, .one (.own 3)), (5, .one .any), (7, .one .any), (8, .one .any)]), (12, [(2, .one (.own 3)), (5, .one .any), (7, .one .any), (8, .one .any), (12, .one .any)]), (13, [(2, .one (.own 3)), (5, .one .any), (7, .one .any), (8, .one .any)]), (14, [(2, .one (.own 3)), (5, .one .any), (7, .one .any), (8, .one .any), (12, .one .any)]), (15, [(2, .one (.own 3)), (5, .one .any), (7, .one .any), (8, .one .any)]), (16, [(2, .one (.own 3)), (5, .one .any), (7, .one .any), (8, .one .any)]), (17, [(5, .one .any), (8, .one .any)]), (18, [(5, .one .any), (8, .one .any)])] [.agg [.own 39, .own 82, .any, .any]] ⟨0, 1⟩
noncomputable def c_144 (args : List (AV tau)) (m : Mem tau) (κ : AV tau → Mem tau → Option Unit) : Option Unit := match args, m.bx, m.rw with
  | [b0, b1], [], [] => bO (asSl 37 b0) fun l0 => bO (asSl 95 b1) fun l1 => callX (fun n => spec_ExecRun.f n l0 l1) fun t => κ (.agg [.own 0 0, .own 1 0, .int .i64 (t.2.2.1), .int .i64 (t.2.2.2)]) ⟨[], [some ⟨39, t.1, 0⟩, some ⟨82, t.2.1, 0⟩]⟩
  | _, _, _ => none
def E_144 : Env tau := mkE [(0, [(0, .one (.own 37)), (1, .one (.own 95))]), (1, [(0, .one (.own 37)), (1, .one (.own 95)), (4, .one .any)]), (2, [(4, .one .any)]), (3, [(0, .one (.own 37)), (1, .one (.own 95)), (4, .one .any)]), (4, [(0, .one (.own 37)), (1, .one (.own 95)), (4, .one .any), (5, .one .any)]), (5, [(0, .one (.own 37)), (1, .one (.own 95)), (4, .one .any), (5, .one .any), (6, .one (.own 3))]), (6, [(0, .one (.own 37)), (1, .one (.own 95)), (4, .one .any), (5, .one .any), (6, .one (.own 3)), (7, .one .any)]), (7, [(0, .one (.own 37)), (1, .one (.own 95)), (4, .one .any), (5, .one .any), (6, .one (.own 3)), (7, .one .any)]), (8, [(0, .one (.own 37)), (1, .one (.own 95)), (4, .one .any), (5, .one .any), (6, .one (.own 3)), (7, .one .any)]), (9, [(0, .one (.own 37)), (1, .one (.own 95)), (4, .one .any), (5, .one .any), (6, .one (.own 3)), (7, .one .any), (8, .one .any)]), (10, [(0, .one (.own 37)), (1, .one (.own 95)), (4, .one .any), (5, .one .any), (6, .one (.own 3)), (7, .one .any), (8, .one .any)]), (11, [(0, .one (.own 37)), (1, .one (.own 95)), (4, .one .any), (5, .one .any), (6, .one (.own 3)), (7, .one .any), (8, .one .any)]), (12, [(0, .one (.own 37)), (1, .one (.own 95)), (4, .one .any), (5, .one .any), (6, .one (.own 3)), (7, .one .any), (8, .one .any)]), (13, [(4, .one .any), (5, .one .any), (6, .one (.own 3))]), (14, [(4, .one .any), (5, .one .any)]), (15, [(4, .one .any), (5, .one .any)]), (16, [(4, .one .any), (5, .one .any), (6, .one (.own 3))]), (17, [(4, .one .any), (5, .one .any)])] [.agg [.own 39, .own 82, .any, .any]] ⟨0, 0⟩
noncomputable def c_167 (args : List (AV tau)) (m : Mem tau) (κ : AV tau → Mem tau → Option Unit) : Option Unit := match args, m.bx, m.rw with
  | [b0, b1], [], [] => bO (asI .i64 b0) fun a0 => bO (asI .i64 b1) fun a1 => callX (fun n => spec_l1Min.f a0 a1) fun t => κ (.int .i64 (t)) ⟨[], []⟩
  | _, _, _ => none
def E_167 : Env tau := mkE [(0, [(0, .one .any), (1, .one .any)]), (1, [(0, .one .any), (1, .one .any)]), (2, [(0, .one .any)]), (3, [(1, .one .any)])] [.one .any] ⟨0, 0⟩
noncomputable def c_146 (args : List (AV tau)) (m : Mem tau) (κ : AV tau → Mem tau → Option Unit) : Option Unit := match args, m.bx, m.rw with
  | [b0, .agg [b1, b2, b3, b4]], [], [r0] => bO (asOwn 0 b0) fun _ => bO (asRow 37 r0) fun l0 => bO (asSl 39 b1) fun l1_0 => bO (asSl 82 b2) fun l1_1 => bO (asI .i64 b3) fun a1_2 => bO (asI .i64 b4) fun a1_3 => callX (fun n => spec_l3Do.f n l0 l1_0 l1_1 a1_2 a1_3) fun t => κ (.own 0 0) ⟨[], [some ⟨37, t, 0⟩]⟩
  | _, _, _ => none
def E_146 : Env tau := mkE [(0, [(0, .one (.own 37)), (1, .agg [.own 39, .own 82, .any, .any])]), (1, [(0, .one (.own 37)), (3, .one .any)]), (2, [(0, .one (.own 37)), (3, .one .any), (5, .one .any)]), (3, [(0, .one (.own 37)), (3, .one .any), (5, .one .any)]), (4, [(0, .one (.own 37)), (3, .one .any), (5, .one .any)]), (5, [(0, .one (.own 37)), (3, .one .any), (5, .one .any), (6, .one .any)]), (6, [(0, .one (.own 37))])] [.one (.own 37)] ⟨0, 0⟩
noncomputable def c_90 (args : List (AV tau)) (m : Mem tau) (κ : AV tau → Mem tau → Option Unit) : Option Unit := match args, m.bx, m.rw with
  | [b0, b1], [], [] => bO (asSl 37 b0) fun l0 => bO (asSl 95 b1) fun l1 => callX (fun n => spec_SerialOne.f n l0 l1) fun t => κ (.tup [.own 0 0, .int .i64 (t.2.1), .int .i64 (t.2.2)]) ⟨[], [some ⟨37, t.1, 0⟩]⟩
  | _, _, _ => none
def E_90 : Env tau := mkE [(0, [(0, .one (.own 37)), (1, .one (.own 95))]), (1, [(0, .one (.own 37)), (1, .one (.own 95))]), (2, [(0, .one (.own 37)), (7, .one .any)]), (3, []), (4, [(0, .one (.own 37)), (7, .one .any)])] [.one (.own 37), .one .any, .one .any] ⟨0, 0⟩
noncomputable def c_26 (args : List (AV tau)) (m : Mem tau) (κ : AV tau → Mem tau → Option Unit) : Option Unit := match args, m.bx, m.rw with
  | [b0, b1], [], [] => bO (asSl 37 b0) fun l0 => bO (asSl 60 b1) fun l1 => callX (fun n => spec_SerialAll.f n l0 l1) fun t => κ (.tup [.own 0 0, .own 1 0]) ⟨[], [some ⟨37, t.1, 0⟩, some ⟨3, t.2, 0⟩]⟩
  | _, _, _ => none
def E_26 : Env tau := mkE [(0, [(0, .one (.own 37)), (1, .one (.own 60))]), (1, [(0, .one (.own 37)), (1, .one (.own 60))]), (2, []), (3, [(0, .one (.own 37)), (1, .one (.own 60))]), (4, [(0, .one (.own 37)), (1, .one (.own 60)), (6, .one (.own 3))]), (5, [(1, .one (.own 60)), (6, .one (.own 3)), (7, .one (.own 37))]), (6, [(1, .one (.own 60)), (6, .one (.own 3)), (7, .one (.own 37)), (8, .one .any)]), (7, [(1, .one (.own 60)), (6, .one (.own 3)), (7, .one (.own 37)), (8, .one .any)]), (8, [(1, .one (.own 60)), (6, .one (.own 3)), (7, .one (.own 37)), (8, .one .any)]), (9, [(1, .one (.own 60)), (6, .one (.own 3)), (8, .one .any), (9, .one (.own 37)), (10, .one .any), (11, .one .any)]), (10, []), (11, [(1, .one (.own 60)), (6, .one (.own 3)), (8, .one .any), (9, .one (.own 37)), (10, .one .any)]), (12, [(1, .one (.own 60)), (6, .one (.own 3)), (7, .one (.own 37)), (8, .one .any), (10, .one .any)]), (13, [(6, .one (.own 3)), (7, .one (.own 37))])] [.one (.own 37), .one (.own 3)] ⟨0, 0⟩
noncomputable def c_91 (args : List (AV tau)) (m : Mem tau) (κ : AV tau → Mem tau → Option Unit) : Option Unit := match args, m.bx, m.rw with
  | [.agg [b0, b1]], [], [] => bO (asI .i64 b0) fun a0_0 => bO (asI .i64 b1) fun a0_1 => callX (fun n => laws_toBox.f a0_0 a0_1) fun t => κ (.agg [.int .i64 (t.1), .int .i64 (t.2)]) ⟨[], []⟩
  | _, _, _ => none
def E_91 : Env tau := mkE [(0, [(0, .agg [.any, .any])]), (1, [(1, .one .any), (2, .one .any)]), (2, [(1, .one .any), (2, .one .any), (3, .one .any)]), (3, [(1, .one .any), (2, .one .any), (3, .one .any)]), (4, [(2, .one .any), (3, .one .any)])] [.agg [.any, .any]] ⟨0, 0⟩
noncomputable def c_27 (args : List (AV tau)) (m : Mem tau) (κ : AV tau → Mem tau → Option Unit) : Option Unit := match args, m.bx, m.rw with
  | [b0], [], [] => bO (asSl 136 b0) fun l0 => callX (fun n => laws_toBoxS.f n l0) fun t => κ (.own 0 0) ⟨[], [some ⟨37, t, 0⟩]⟩
  | _, _, _ => none
def E_27 : Env tau := mkE [(0, [(0, .one (.own 136))]), (1, [(0, .one (.own 136))]), (2, [(0, .one (.own 136)), (3, .one (.own 37))]), (3, [(0, .one (.own 136)), (3, .one (.own 37)), (4, .one .any)]), (4, [(0, .one (.own 136)), (3, .one (.own 37)), (4, .one .any)]), (5, [(0, .one (.own 136)), (3, .one (.own 37)), (4, .one .any)]), (6, [(3, .one (.own 37))])] [.one (.own 37)] ⟨0, 0⟩
noncomputable def c_147 (args : List (AV tau)) (m : Mem tau) (κ : AV tau → Mem tau → Option Unit) : Option Unit := match args, m.bx, m.rw with
  | [.agg [b0, b1, b2, b3]], [], [] => bO (asI .i64 b0) fun a0_0 => bO (asI .i64 b1) fun a0_1 => bO (asI .i64 b2) fun a0_2 => bO (asI .i64 b3) fun a0_3 => callX (fun n => laws_toIns.f a0_0 a0_1 a0_2 a0_3) fun t => κ (.agg [.int .i64 (t.1), .int .i64 (t.2.1), .int .i64 (t.2.2.1), .int .i64 (t.2.2.2)]) ⟨[], []⟩
  | _, _, _ => none
def E_147 : Env tau := mkE [(0, [(0, .agg [.any, .any, .any, .any])]), (1, [(1, .one .any), (2, .one .any)]), (2, [(1, .one .any), (2, .one .any), (3, .one .any)]), (3, [(1, .one .any), (2, .one .any), (3, .one .any)]), (4, [(1, .one .any), (2, .one .any), (3, .one .any)]), (5, [(1, .one .any), (2, .one .any), (3, .one .any)]), (6, [(2, .one .any), (3, .one .any)])] [.agg [.any, .any, .any, .any]] ⟨0, 0⟩
noncomputable def c_92 (args : List (AV tau)) (m : Mem tau) (κ : AV tau → Mem tau → Option Unit) : Option Unit := match args, m.bx, m.rw with
  | [b0], [], [] => bO (asSl 175 b0) fun l0 => callX (fun n => laws_toInsS.f n l0) fun t => κ (.own 0 0) ⟨[], [some ⟨95, t, 0⟩]⟩
  | _, _, _ => none
def E_92 : Env tau := mkE [(0, [(0, .one (.own 175))]), (1, [(0, .one (.own 175))]), (2, [(0, .one (.own 175)), (3, .one (.own 95))]), (3, [(0, .one (.own 175)), (3, .one (.own 95)), (4, .one .any)]), (4, [(0, .one (.own 175)), (3, .one (.own 95)), (4, .one .any)]), (5, [(0, .one (.own 175)), (3, .one (.own 95)), (4, .one .any)]), (6, [(3, .one (.own 95))])] [.one (.own 95)] ⟨0, 0⟩
noncomputable def c_28 (args : List (AV tau)) (m : Mem tau) (κ : AV tau → Mem tau → Option Unit) : Option Unit := match args, m.bx, m.rw with
  | [b0], [], [] => bO (asSl 133 b0) fun l0 => callX (fun n => laws_toInsSS.f n l0) fun t => κ (.own 0 0) ⟨[], [some ⟨60, t, 0⟩]⟩
  | _, _, _ => none
def E_28 : Env tau := mkE [(0, [(0, .one (.own 133))]), (1, [(0, .one (.own 133))]), (2, [(0, .one (.own 133)), (3, .one (.own 60))]), (3, [(0, .one (.own 133)), (3, .one (.own 60)), (4, .one .any)]), (4, [(0, .one (.own 133)), (3, .one (.own 60)), (4, .one .any)]), (5, [(0, .one (.own 133)), (3, .one (.own 60)), (4, .one .any)]), (6, [(3, .one (.own 60))])] [.one (.own 60)] ⟨0, 0⟩
noncomputable def c_122 (args : List (AV tau)) (m : Mem tau) (κ : AV tau → Mem tau → Option Unit) : Option Unit := match args, m.bx, m.rw with
  | [b0, b1, b2], [], [] => bO (asI .i64 b0) fun a0 => bO (asI .i64 b1) fun a1 => bO (asI .i64 b2) fun a2 => callX (fun n => impl_in.f a0 a1 a2) fun t => κ (.bool (t)) ⟨[], []⟩
  | _, _, _ => none
def E_122 : Env tau := mkE [(0, [(0, .one .any), (1, .one .any), (2, .one .any)]), (1, [(0, .one .any), (1, .one .any), (2, .one .any)])] [.one .any] ⟨0, 0⟩
noncomputable def c_82 (args : List (AV tau)) (m : Mem tau) (κ : AV tau → Mem tau → Option Unit) : Option Unit := match args, m.bx, m.rw with
  | [b0], [], [] => bO (asSl 37 b0) fun l0 => callX (fun n => impl_BoxOk.f n l0) fun t => κ (.bool (t)) ⟨[], []⟩
  | _, _, _ => none
def E_82 : Env tau := mkE [(0, [(0, .one (.own 37))]), (1, [(0, .one (.own 37))]), (2, [(0, .one (.own 37)), (5, .one (.own 37)), (6, .one .any), (7, .one .any)]), (3, [(0, .one (.own 37)), (5, .one (.own 37)), (6, .one .any), (7, .one .any)]), (4, [(0, .one (.own 37)), (4, .one .any), (5, .one (.own 37)), (6, .one .any), (7, .one .any)]), (5, []), (6, [(0, .one (.own 37)), (5, .one (.own 37)), (6, .one .any), (7, .one .any)]), (7, [(0, .one (.own 37))])] [.one .any] ⟨0, 0⟩
noncomputable def c_168 (args : List (AV tau)) (m : Mem tau) (κ : AV tau → Mem tau → Option Unit) : Option Unit := match args, m.bx, m.rw with
  | [b0], [], [] => bO (asI .i64 b0) fun a0 => callX (fun n => impl_insOk_1.f a0) fun t => κ (.bool (t)) ⟨[], []⟩
  | _, _, _ => none
def E_168 : Env tau := mkE [(0, [(0, .one .any)]), (1, [(0, .one .any)])] [.one .any] ⟨0, 0⟩
noncomputable def c_169 (args : List (AV tau)) (m : Mem tau) (κ : AV tau → Mem tau → Option Unit) : Option Unit := match args, m.bx, m.rw with
  | [b0], [], [] => bO (asI .i64 b0) fun a0 => callX (fun n => impl_insOk_2.f a0) fun t => κ (.bool (t)) ⟨[], []⟩
  | _, _, _ => none
def E_169 : Env tau := mkE [(0, [(0, .one .any)]), (1, [(0, .one .any)])] [.one .any] ⟨0, 0⟩
noncomputable def c_151 (args : List (AV tau)) (m : Mem tau) (κ : AV tau → Mem tau → Option Unit) : Option Unit := match args, m.bx, m.rw with
  | [.agg [b0, b1, b2, b3]], [], [] => bO (asI .i64 b0) fun a0_0 => bO (asI .i64 b1) fun a0_1 => bO (asI .i64 b2) fun a0_2 => bO (asI .i64 b3) fun a0_3 => callX (fun n => impl_insOk.f n a0_0 a0_1 a0_2 a0_3) fun t => κ (.bool (t)) ⟨[], []⟩
  | _, _, _ => none
def E_151 : Env tau := mkE [(0, [(0, .agg [.any, .any, .any, .any])]), (1, [(1, .one .any)]), (2, [(1, .one .any), (3, .one .any)]), (3, [(1, .one .any), (3, .one .any), (4, .one .any)]), (4, [(1, .one .any), (3, .one .any), (4, .one .any), (6, .one .any)]), (5, [(1, .one .any), (3, .one .any), (4, .one .any)]), (6, [(1, .one .any), (3, .one .any), (4, .one .any), (6, .one .any)]), (7, [(1, .one .any), (3, .one .any), (4, .one .any)]), (8, [(1, .one .any), (3, .one .any), (6, .one .any)]), (9, [(1, .one .any), (3, .one .any)]), (10, [(1, .one .any), (3, .one .any), (6, .one .any)]), (11, [(1, .one .any), (3, .one .any), (6, .one .any)]), (12, [(1, .one .any), (3, .one .any)]), (13, [(1, .one .any), (3, .one .any), (6, .one .any)]), (14, [(1, .one .any), (3, .one .any)]), (15, [(1, .one .any), (6, .one .any)]), (16, [(1, .one .any)]), (17, [])] [.one .any] ⟨0, 0⟩
noncomputable def c_102 (args : List (AV tau)) (m : Mem tau) (κ : AV tau → Mem tau → Option Unit) : Option Unit := match args, m.bx, m.rw with
  | [b0], [], [] => bO (asSl 95 b0) fun l0 => callX (fun n => impl_ProgOk.f n l0) fun t => κ (.bool (t)) ⟨[], []⟩
  | _, _, _ => none
def E_102 : Env tau := mkE [(0, [(0, .one (.own 95))]), (1, [(0, .one (.own 95))]), (2, [(0, .one (.own 95)), (5, .one (.own 95)), (6, .one .any), (7, .one .any)]), (3, [(0, .one (.own 95)), (5, .one (.own 95)), (6, .one .any), (7, .one .any)]), (4, [(0, .one (.own 95)), (4, .one .any), (5, .one (.own 95)), (6, .one .any), (7, .one .any)]), (5, []), (6, [(0, .one (.own 95)), (5, .one (.own 95)), (6, .one .any), (7, .one .any)]), (7, [(0, .one (.own 95))])] [.one .any] ⟨0, 0⟩
noncomputable def c_126 (args : List (AV tau)) (m : Mem tau) (κ : AV tau → Mem tau → Option Unit) : Option Unit := match args, m.bx, m.rw with
  | [.agg [b0, b1, b2, b3], b4], [], [] => bO (asSl 39 b0) fun l0_0 => bO (asSl 82 b1) fun l0_1 => bO (asI .i64 b2) fun a0_2 => bO (asI .i64 b3) fun a0_3 => bO (asI .i64 b4) fun a1 => callX (fun n => impl_putAt.f n l0_0 l0_1 a0_2 a0_3 a1) fun t => κ (.int .i64 (t)) ⟨[], []⟩
  | _, _, _ => none
def E_126 : Env tau := mkE [(0, [(0, .agg [.own 39, .own 82, .any, .any]), (1, .one .any)]), (1, [(1, .one .any), (2, .one .any)]), (2, [(1, .one .any), (8, .one (.own 82)), (9, .one .any), (10, .one .any)]), (3, [(1, .one .any), (8, .one (.own 82)), (9, .one .any), (10, .one .any)]), (4, [(1, .one .any), (5, .one .any), (6, .one .any), (8, .one (.own 82)), (9, .one .any), (10, .one .any)]), (5, [(5, .one .any)]), (6, [(1, .one .any), (8, .one (.own 82)), (9, .one .any), (10, .one .any)]), (7, [])] [.one .any] ⟨0, 0⟩
noncomputable def c_127 (args : List (AV tau)) (m : Mem tau) (κ : AV tau → Mem tau → Option Unit) : Option Unit := match args, m.bx, m.rw with
  | [.agg [b0, b1, b2, b3], b4], [], [] => bO (asSl 39 b0) fun l0_0 => bO (asSl 82 b1) fun l0_1 => bO (asI .i64 b2) fun a0_2 => bO (asI .i64 b3) fun a0_3 => bO (asI .i64 b4) fun a1 => callX (fun n => impl_readAt.f n l0_0 l0_1 a0_2 a0_3 a1) fun t => κ (.int .i64 (t)) ⟨[], []⟩
  | _, _, _ => none
def E_127 : Env tau := mkE [(0, [(0, .agg [.own 39, .own 82, .any, .any]), (1, .one .any)]), (1, [(1, .one .any), (2, .one .any)]), (2, [(1, .one .any), (8, .one (.own 39)), (9, .one .any), (10, .one .any)]), (3, [(1, .one .any), (8, .one (.own 39)), (9, .one .any), (10, .one .any)]), (4, [(1, .one .any), (5, .one .any), (6, .one .any), (8, .one (.own 39)), (9, .one .any), (10, .one .any)]), (5, [(5, .one .any)]), (6, [(1, .one .any), (8, .one (.own 39)), (9, .one .any), (10, .one .any)]), (7, [])] [.one .any] ⟨0, 0⟩
noncomputable def c_128 (args : List (AV tau)) (m : Mem tau) (κ : AV tau → Mem tau → Option Unit) : Option Unit := match args, m.bx, m.rw with
  | [b0], [], [] => bO (asSl 39 b0) fun l0 => callX (fun n => impl_copied_impl_Read.f l0) fun t => κ (.own 0 0) ⟨[], [some ⟨39, t, 0⟩]⟩
  | _, _, _ => none
def E_128 : Env tau := mkE [(0, [(0, .one (.own 39))]), (1, [(0, .one (.own 39))]), (2, []), (3, [(0, .one (.own 39))]), (4, [(0, .one (.own 39)), (3, .one (.own 39))]), (5, [(3, .one (.own 39))])] [.one (.own 39)] ⟨0, 0⟩
noncomputable def c_129 (args : List (AV tau)) (m : Mem tau) (κ : AV tau → Mem tau → Option Unit) : Option Unit := match args, m.bx, m.rw with
  | [b0], [], [] => bO (asSl 82 b0) fun l0 => callX (fun n => impl_copied_impl_Put.f l0) fun t => κ (.own 0 0) ⟨[], [some ⟨82, t, 0⟩]⟩
  | _, _, _ => none
def E_129 : Env tau := mkE [(0, [(0, .one (.own 82))]), (1, [(0, .one (.own 82))]), (2, []), (3, [(0, .one (.own 82))]), (4, [(0, .one (.own 82)), (3, .one (.own 82))]), (5, [(3, .one (.own 82))])] [.one (.own 82)] ⟨0, 0⟩
noncomputable def c_61 (args : List (AV tau)) (m : Mem tau) (κ : AV tau → Mem tau → Option Unit) : Option Unit := match args, m.bx, m.rw with
  | [b0, b1], [], [] => bO (asSl 37 b0) fun l0 => bO (asSl 95 b1) fun l1 => callX (fun n => impl_ExecRun.f n l0 l1) fun t => κ (.agg [.own 0 0, .own 1 0, .int .i64 (t.2.2.1), .int .i64 (t.2.2.2)]) ⟨[], [some ⟨39, t.1, 0⟩, some ⟨82, t.2.1, 0⟩]⟩
  | _, _, _ => none
def E_61 : Env tau := mkE [(0, [(0, .one (.own 37)), (1, .one (.own 95))]), (1, [(0, .one (.own 37)), (1, .one (.own 95)), (4, .one .any)]), (2, [(4, .one .any)]), (3, [(0, .one (.own 37)), (1, .one (.own 95)), (4, .one .any)]), (4, [(0, .one (.own 37)), (1, .one (.own 95)), (4, .one .any), (5, .one .any)]), (5, [(0, .one (.own 37)), (1, .one (.own 95)), (4, .one .any), (5, .one .any), (6, .one .any)]), (6, [(0, .one (.own 37)), (1, .one (.own 95)), (4, .one .any), (5, .one .any), (6, .one .any), (7, .one .any)]), (7, [(0, .one (.own 37)), (1, .one (.own 95)), (4, .one .any), (5, .one .any), (6, .one .any), (7, .one .any)]), (8, [(0, .one (.own 37)), (1, .one (.own 95)), (4, .one .any), (5, .one .any), (6, .one .any), (7, .one .any)]), (9, [(0, .one (.own 37)), (1, .one (.own 95)), (4, .one .any), (5, .one .any), (6, .one .any), (7, .one .any), (8, .one .any)]), (10, [(0, .one (.own 37)), (1, .one (.own 95)), (4, .one .any), (5, .one .any), (6, .one .any), (7, .one .any), (8, .one .any), (34, .one .any)]), (11, [(0, .one (.own 37)), (1, .one (.own 95)), (4, .one .any), (5, .one .any), (6, .one .any), (7, .one .any), (8, .one .any)]), (12, [(0, .one (.own 37)), (1, .one (.own 95)), (4, .one .any), (5, .one .any), (6, .one .any), (7, .one .any), (8, .one .any), (9, .one .any)]), (13, [(0, .one (.own 37)), (1, .one (.own 95)), (4, .one .any), (5, .one .any), (6, .one .any), (7, .one .any), (8, .one .any), (9, .one .any)]), (14, [(0, .one (.own 37)), (1, .one (.own 95)), (4, .one .any), (5, .one .any), (6, .one .any), (7, .one .any), (8, .one .any)]), (15, [(0, .one (.own 37)), (1, .one (.own 95)), (4, .one .any), (5, .one .any), (6, .one .any), (7, .one .any), (8, .one .any)]), (16, [(0, .one (.own 37)), (1, .one (.own 95)), (4, .one .any), (5, .one .any), (6, .one .any), (7, .one .any), (8, .one .any)]), (17, [(0, .one (.own 37)), (1, .one (.own 95)), (4, .one .any), (5, .one .any), (6, .one .any), (7, .one .any), (8, .one .any), (34, .one .any)]), (18, [(0, .one (.own 37)), (1, .one (.own 95)), (4, .one .any), (5, .one .any), (6, .one .any), (7, .one .any), (8, .one .any)]), (19, [(0, .one (.own 37)), (1, .one (.own 95)), (4, .one .any), (5, .one .any), (6, .one .any), (7, .one .any), (8, .one .any), (10, .one .any)]), (20, [(0, .one (.own 37)), (1, .one (.own 95)), (4, .one .any), (5, .one .any), (6, .one .any), (7, .one .any), (8, .one .any), (10, .one .any)]), (21, [(0, .one (.own 37)), (1, .one (.own 95)), (4, .one .any), (5, .one .any), (6, .one .any), (7, .one .any), (8, .one .any)]), (22, [(0, .one (.own 37)), (1, .one (.own 95)), (4, .one .any), (5, .one .any), (6, .one .any), (7, .one .any), (8, .one .any), (34, .one .any)]), (23, [(0, .one (.own 37)), (1, .one (.own 95)), (4, .one .any), (5, .one .any), (6, .one .any), (7, .one .any), (8, .one .any)]), (24, [(0, .one (.own 37)), (1, .one (.own 95)), (4, .one .any), (5, .one .any), (6, .one .any), (7, .one .any), (8, .one .any), (34, .one .any)]), (25, [(0, .one (.own 37)), (1, .one (.own 95)), (4, .one .any), (5, .one .any), (6, .one .any), (7, .one .any), (8, .one .any)]), (26, [(0, .one (.own 37)), (1, .one (.own 95)), (4, .one .any), (5, .one .any), (6, .one .any), (7, .one .any), (8, .one .any), (34, .one .any)]), (27, [(0, .one (.own 37)), (1, .one (.own 95)), (4, .one .any), (5, .one .any), (6, .one .any), (7, .one .any), (8, .one .any)]), (28, [(0, .one (.own 37)), (1, .one (.own 95)), (4, .one .any), (5, .one .any), (6, .one .any), (7, .one .any), (8, .one .any), (34, .one .any)]), (29, [(0, .one (.own 37)), (1, .one (.own 95)), (4, .one .any), (5, .one .any), (6, .one .any), (7, .one .any), (8, .one .any)]), (30, [(0, .one (.own 37)), (1, .one (.own 95)), (4, .one .any), (5, .one .any), (6, .one .any), (7, .one .any), (8, .one .any)]), (31, [(0, .one (.own 37)), (1, .one (.own 95)), (4, .one .any), (5, .one .any), (6, .one .any), (7, .one .any), (34, .one .any)]), (32, [(4, .one .any), (6, .one .any)]), (33, [(0, .one (.own 37)), (1, .one (.own 95)), (4, .one .any), (5, .one .any), (6, .one .any), (7, .one .any)]), (34, [(0, .one (.own 37)), (1, .one (.own 95)), (4, .one .any), (5, .one .any), (6, .one .any), (7, .one .any), (161, .agg [.any, .any, .any, .any]), (162, .one .any)]), (35, [(0, .one (.own 37)), (1, .one (.own 95)), (4, .one .any), (5, .one .any), (6, .one .any), (7, .one .any), (161, .agg [.any, .any, .any, .any]), (162, .one .any)]), (36, [(0, .one (.own 37)), (1, .one (.own 95)), (4, .one .any), (5, .one .any), (6, .one .any), (7, .one .any), (12, .one .any), (161, .agg [.any, .any, .any, .any]), (162, .one .any)]), (37, [(4, .one .any), (6, .one .any)]), (38, [(0, .one (.own 37)), (1, .one (.own 95)), (4, .one .any), (5, .one .any), (6, .one .any), (7, .one .any), (161, .agg [.any, .any, .any, .any]), (162, .one .any)]), (39, [(4, .one .any), (5, .one .any), (6, .one .any)])] [.agg [.own 39, .own 82, .any, .any]] ⟨0, 0⟩
noncomputable def c_83 (args : List (AV tau)) (m : Mem tau) (κ : AV tau → Mem tau → Option Unit) : Option Unit := match args, m.bx, m.rw with
  | [.agg [b0, b1, b2, b3]], [], [] => bO (asSl 39 b0) fun l0_0 => bO (asSl 82 b1) fun l0_1 => bO (asI .i64 b2) fun a0_2 => bO (asI .i64 b3) fun a0_3 => callX (fun n => impl_ExecOk.f n l0_0 l0_1 a0_2 a0_3) fun t => κ (.bool (t)) ⟨[], []⟩
  | _, _, _ => none
def E_83 : Env tau := mkE [(0, [(0, .agg [.own 39, .own 82, .any, .any])]), (1, [(1, .one .any)]), (2, []), (3, [(1, .one .any)]), (4, [(1, .one .any), (3, .one .any), (4, .one .any)]), (5, [(1, .one .any), (3, .one .any), (4, .one .any), (47, .one (.own 39)), (48, .one .any), (49, .one .any)]), (6, [(1, .one .any), (3, .one .any), (4, .one .any), (47, .one (.own 39)), (48, .one .any), (49, .one .any)]), (7, [(1, .one .any), (3, .one .any), (4, .one .any), (6, .one .any), (47, .one (.own 39)), (48, .one .any), (49, .one .any)]), (8, []), (9, [(1, .one .any), (3, .one .any), (4, .one .any), (6, .one .any), (47, .one (.own 39)), (48, .one .any), (49, .one .any)]), (10, [(1, .one .any), (3, .one .any), (4, .one .any), (47, .one (.own 39)), (48, .one .any), (49, .one .any)]), (11, [(1, .one .any), (4, .one .any)]), (12, [(4, .one .any), (74, .one (.own 82)), (75, .one .any), (76, .one .any)]), (13, [(4, .one .any), (74, .one (.own 82)), (75, .one .any), (76, .one .any)]), (14, [(4, .one .any), (8, .one .any), (74, .one (.own 82)), (75, .one .any), (76, .one .any)]), (15, []), (16, [(4, .one .any), (8, .one .any), (74, .one (.own 82)), (75, .one .any), (76, .one .any)]), (17, [(4, .one .any), (74, .one (.own 82)), (75, .one .any), (76, .one .any)]), (18, [])] [.one .any] ⟨0, 0⟩
noncomputable def c_93 (args : List (AV tau)) (m : Mem tau) (κ : AV tau → Mem tau → Option Unit) : Option Unit := match args, m.bx, m.rw with
  | [b0], [], [] => bO (asSl 37 b0) fun l0 => callX (fun n => impl_copied_impl_Box.f l0) fun t => κ (.own 0 0) ⟨[], [some ⟨37, t, 0⟩]⟩
  | _, _, _ => none
def E_93 : Env tau := mkE [(0, [(0, .one (.own 37))]), (1, [(0, .one (.own 37))]), (2, []), (3, [(0, .one (.own 37))]), (4, [(0, .one (.own 37)), (3, .one (.own 37))]), (5, [(3, .one (.own 37))])] [.one (.own 37)] ⟨0, 0⟩
noncomputable def c_117 (args : List (AV tau)) (m : Mem tau) (κ : AV tau → Mem tau → Option Unit) : Option Unit := match args, m.bx, m.rw with
  | [b0, .agg [b1, b2, b3, b4]], [], [] => bO (asSl 37 b0) fun l0 => bO (asSl 39 b1) fun l1_0 => bO (asSl 82 b2) fun l1_1 => bO (asI .i64 b3) fun a1_2 => bO (asI .i64 b4) fun a1_3 => callX (fun n => impl_ExecDo.f n l0 l1_0 l1_1 a1_2 a1_3) fun t => κ (.own 0 0) ⟨[], [some ⟨37, t, 0⟩]⟩
  | _, _, _ => none
def E_117 : Env tau := mkE [(0, [(0, .one (.own 37)), (1, .agg [.own 39, .own 82, .any, .any])]), (1, [(0, .one (.own 37)), (3, .one .any)]), (2, []), (3, [(0, .one (.own 37)), (3, .one .any)]), (4, [(3, .one .any), (5, .one (.own 37))]), (5, [(5, .one (.own 37)), (19, .one (.own 82)), (20, .one .any), (21, .one .any)]), (6, [(5, .one (.own 37)), (19, .one (.own 82)), (20, .one .any), (21, .one .any)]), (7, [(5, .one (.own 37)), (7, .one .any), (19, .one (.own 82)), (20, .one .any), (21, .one .any)]), (8, [(5, .one (.own 37)), (19, .one (.own 82)), (20, .one .any), (21, .one .any)]), (9, [(5, .one (.own 37))])] [.one (.own 37)] ⟨0, 0⟩
noncomputable def c_63 (args : List (AV tau)) (m : Mem tau) (κ : AV tau → Mem tau → Option Unit) : Option Unit := match args, m.bx, m.rw with
  | [b0, b1], [], [] => bO (asSl 37 b0) fun l0 => bO (asSl 95 b1) fun l1 => callX (fun n => impl_SerialOne.f n l0 l1) fun t => κ (.tup [.own 0 0, .int .i64 (t.2.1), .int .i64 (t.2.2)]) ⟨[], [some ⟨37, t.1, 0⟩]⟩
  | _, _, _ => none
def E_63 : Env tau := mkE [(0, [(0, .one (.own 37)), (1, .one (.own 95))]), (1, [(0, .one (.own 37)), (1, .one (.own 95))]), (2, [(0, .one (.own 37)), (7, .one .any)]), (3, []), (4, [(0, .one (.own 37)), (7, .one .any)])] [.one (.own 37), .one .any, .one .any] ⟨0, 0⟩
noncomputable def c_94 (args : List (AV tau)) (m : Mem tau) (κ : AV tau → Mem tau → Option Unit) : Option Unit := match args, m.bx, m.rw with
  | [b0], [], [] => bO (asSl 3 b0) fun l0 => callX (fun n => impl_copied_int.f l0) fun t => κ (.own 0 0) ⟨[], [some ⟨3, t, 0⟩]⟩
  | _, _, _ => none
def E_94 : Env tau := mkE [(0, [(0, .one (.own 3))]), (1, [(0, .one (.own 3))]), (2, []), (3, [(0, .one (.own 3))]), (4, [(0, .one (.own 3)), (3, .one (.own 3))]), (5, [(3, .one (.own 3))])] [.one (.own 3)] ⟨0, 0⟩
noncomputable def c_29 (args : List (AV tau)) (m : Mem tau) (κ : AV tau → Mem tau → Option Unit) : Option Unit := match args, m.bx, m.rw with
  | [b0, b1], [], [] => bO (asSl 37 b0) fun l0 => bO (asSl 60 b1) fun l1 => callX (fun n => impl_SerialAll.f n l0 l1) fun t => κ (.tup [.own 0 0, .own 1 0]) ⟨[], [some ⟨37, t.1, 0⟩, some ⟨3, t.2, 0⟩]⟩
  | _, _, _ => none
def E_29 : Env tau := mkE [(0, [(0, .one (.own 37)), (1, .one (.own 60))]), (1, [(0, .one (.own 37)), (1, .one (.own 60))]), (2, []), (3, [(0, .one (.own 37)), (1, .one (.own 60))]), (4, [(1, .one (.own 60)), (6, .one (.own 37))]), (5, [(1, .one (.own 60)), (6, .one (.own 37)), (7, .one (.own 3))]), (6, [(6, .one (.own 37)), (7, .one (.own 3)), (23, .one (.own 60)), (24, .one .any), (25, .one .any)]), (7, [(6, .one (.own 37)), (7, .one (.own 3)), (23, .one (.own 60)), (24, .one .any), (25, .one .any)]), (8, [(6, .one (.own 37)), (7, .one (.own 3)), (9, .one (.own 95)), (23, .one (.own 60)), (24, .one .any), (25, .one .any)]), (9, [(7, .one (.own 3)), (10, .one (.own 37)), (11, .one .any), (12, .one .any), (23, .one (.own 60)), (24, .one .any), (25, .one .any)]), (10, []), (11, [(7, .one (.own 3)), (10, .one (.own 37)), (11, .one .any), (23, .one (.own 60)), (24, .one .any), (25, .one .any)]), (12, [(6, .one (.own 37)), (7, .one (.own 3)), (11, .one .any), (23, .one (.own 60)), (24, .one .any), (25, .one .any)]), (13, [(6, .one (.own 37)), (7, .one (.own 3)), (23, .one (.own 60)), (24, .one .any), (25, .one .any)]), (14, [(6, .one (.own 37)), (7, .one (.own 3))])] [.one (.own 37), .one (.own 3)] ⟨0, 0⟩
noncomputable def c_95 (args : List (AV tau)) (m : Mem tau) (κ : AV tau → Mem tau → Option Unit) : Option Unit := match args, m.bx, m.rw with
  | [.agg [b0, b1], .agg [b2, b3]], [], [] => bO (asI .i64 b0) fun a0_0 => bO (asI .i64 b1) fun a0_1 => bO (asI .i64 b2) fun a1_0 => bO (asI .i64 b3) fun a1_1 => callX (fun n => laws_eqBox.f a0_0 a0_1 a1_0 a1_1) fun t => κ (.bool (t)) ⟨[], []⟩
  | _, _, _ => none
def E_95 : Env tau := mkE [(0, [(0, .agg [.any, .any]), (1, .agg [.any, .any])]), (1, [(2, .one .any), (3, .one .any)]), (2, []), (3, [(2, .one .any), (3, .one .any)]), (4, []), (5, [])] [.one .any] ⟨0, 0⟩
noncomputable def c_30 (args : List (AV tau)) (m : Mem tau) (κ : AV tau → Mem tau → Option Unit) : Option Unit := match args, m.bx, m.rw with
  | [b0, b1], [], [] => bO (asSl 37 b0) fun l0 => bO (asSl 37 b1) fun l1 => callX (fun n => laws_eqBoxS.f n l0 l1) fun t => κ (.bool (t)) ⟨[], []⟩
  | _, _, _ => none
def E_30 : Env tau := mkE [(0, [(0, .one (.own 37)), (1, .one (.own 37))]), (1, [(0, .one (.own 37)), (1, .one (.own 37))]), (2, []), (3, [(0, .one (.own 37)), (1, .one (.own 37))]), (4, [(0, .one (.own 37)), (1, .one (.own 37)), (5, .one .any)]), (5, [(0, .one (.own 37)), (1, .one (.own 37)), (5, .one .any)]), (6, [(0, .one (.own 37)), (1, .one (.own 37)), (5, .one .any)]), (7, []), (8, [])] [.one .any] ⟨0, 0⟩
noncomputable def c_31 (args : List (AV tau)) (m : Mem tau) (κ : AV tau → Mem tau → Option Unit) : Option Unit := match args, m.bx, m.rw with
  | [b0, b1], [], [] => bO (asSl 3 b0) fun l0 => bO (asSl 3 b1) fun l1 => callX (fun n => laws_eqIntS.f n l0 l1) fun t => κ (.bool (t)) ⟨[], []⟩
  | _, _, _ => none
def E_31 : Env tau := mkE [(0, [(0, .one (.own 3)), (1, .one (.own 3))]), (1, [(0, .one (.own 3)), (1, .one (.own 3))]), (2, []), (3, [(0, .one (.own 3)), (1, .one (.own 3))]), (4, [(0, .one (.own 3)), (1, .one (.own 3)), (5, .one .any)]), (5, [(0, .one (.own 3)), (1, .one (.own 3)), (5, .one .any)]), (6, [(0, .one (.own 3)), (1, .one (.own 3)), (5, .one .any)]), (7, []), (8, [])] [.one .any] ⟨0, 0⟩
noncomputable def c_148 (args : List (AV tau)) (m : Mem tau) (κ : AV tau → Mem tau → Option Unit) : Option Unit := match args, m.bx, m.rw with
  | [.agg [b0, b1, b2, b3], .agg [b4, b5, b6, b7]], [], [] => bO (asI .i64 b0) fun a0_0 => bO (asI .i64 b1) fun a0_1 => bO (asI .i64 b2) fun a0_2 => bO (asI .i64 b3) fun a0_3 => bO (asI .i64 b4) fun a1_0 => bO (asI .i64 b5) fun a1_1 => bO (asI .i64 b6) fun a1_2 => bO (asI .i64 b7) fun a1_3 => callX (fun n => laws_eqIns.f a0_0 a0_1 a0_2 a0_3 a1_0 a1_1 a1_2 a1_3) fun t => κ (.bool (t)) ⟨[], []⟩
  | _, _, _ => none
def E_148 : Env tau := mkE [(0, [(0, .agg [.any, .any, .any, .any]), (1, .agg [.any, .any, .any, .any])]), (1, [(2, .one .any), (3, .one .any)]), (2, []), (3, [(2, .one .any), (3, .one .any)]), (4, []), (5, [(2, .one .any), (3, .one .any)]), (6, []), (7, [(2, .one .any), (3, .one .any)]), (8, []), (9, [])] [.one .any] ⟨0, 0⟩
noncomputable def c_96 (args : List (AV tau)) (m : Mem tau) (κ : AV tau → Mem tau → Option Unit) : Option Unit := match args, m.bx, m.rw with
  | [b0, b1], [], [] => bO (asSl 95 b0) fun l0 => bO (asSl 95 b1) fun l1 => callX (fun n => laws_eqInsS.f n l0 l1) fun t => κ (.bool (t)) ⟨[], []⟩
  | _, _, _ => none
def E_96 : Env tau := mkE [(0, [(0, .one (.own 95)), (1, .one (.own 95))]), (1, [(0, .one (.own 95)), (1, .one (.own 95))]), (2, []), (3, [(0, .one (.own 95)), (1, .one (.own 95))]), (4, [(0, .one (.own 95)), (1, .one (.own 95)), (5, .one .any)]), (5, [(0, .one (.own 95)), (1, .one (.own 95)), (5, .one .any)]), (6, [(0, .one (.own 95)), (1, .one (.own 95)), (5, .one .any)]), (7, []), (8, [])] [.one .any] ⟨0, 0⟩
noncomputable def c_32 (args : List (AV tau)) (m : Mem tau) (κ : AV tau → Mem tau → Option Unit) : Option Unit := match args, m.bx, m.rw with
  | [b0, b1], [], [] => bO (asSl 60 b0) fun l0 => bO (asSl 60 b1) fun l1 => callX (fun n => laws_eqInsSS.f n l0 l1) fun t => κ (.bool (t)) ⟨[], []⟩
  | _, _, _ => none
def E_32 : Env tau := mkE [(0, [(0, .one (.own 60)), (1, .one (.own 60))]), (1, [(0, .one (.own 60)), (1, .one (.own 60))]), (2, []), (3, [(0, .one (.own 60)), (1, .one (.own 60))]), (4, [(0, .one (.own 60)), (1, .one (.own 60)), (5, .one .any)]), (5, [(0, .one (.own 60)), (1, .one (.own 60)), (5, .one .any)]), (6, [(0, .one (.own 60)), (1, .one (.own 60)), (5, .one .any)]), (7, []), (8, [])] [.one .any] ⟨0, 0⟩
noncomputable def c_33 (args : List (AV tau)) (m : Mem tau) (κ : AV tau → Mem tau → Option Unit) : Option Unit := match args, m.bx, m.rw with
  | [b0, b1], [], [r0] => bO (asOwn 0 b0) fun _ => bO (asRow 37 r0) fun l0 => bO (asI .i64 b1) fun a1 => callX (fun n => laws_markBoxS.f n l0 a1) fun t => κ (.int .i64 (t.1)) ⟨[], [some ⟨37, t.2, 0⟩]⟩
  | _, _, _ => none
def E_33 : Env tau := mkE [(0, [(0, .one (.own 37)), (1, .one .any)]), (1, [(0, .one (.own 37)), (1, .one .any)]), (2, [(0, .one (.own 37)), (1, .one .any), (5, .one .any)]), (3, [(0, .one (.own 37)), (1, .one .any), (5, .one .any)]), (4, [(0, .one (.own 37)), (1, .one .any), (5, .one .any)]), (5, [(0, .one (.own 37)), (1, .one .any), (5, .one .any)]), (6, [(0, .one (.own 37)), (1, .one .any), (5, .one .any)]), (7, [(0, .one (.own 37)), (1, .one .any), (5, .one .any)]), (8, [(1, .one .any)])] [.one .any] ⟨0, 1⟩
noncomputable def c_97 (args : List (AV tau)) (m : Mem tau) (κ : AV tau → Mem tau → Option Unit) : Option Unit := match args, m.bx, m.rw with
  | [b0, b1], [], [r0] => bO (asOwn 0 b0) fun _ => bO (asRow 95 r0) fun l0 => bO (asI .i64 b1) fun a1 => callX (fun n => laws_markInsS.f n l0 a1) fun t => κ (.int .i64 (t.1)) ⟨[], [some ⟨95, t.2, 0⟩]⟩
  | _, _, _ => none
def E_97 : Env tau := mkE [(0, [(0, .one (.own 95)), (1, .one .any)]), (1, [(0, .one (.own 95)), (1, .one .any)]), (2, [(0, .one (.own 95)), (1, .one .any), (5, .one .any)]), (3, [(0, .one (.own 95)), (1, .one .any), (5, .one .any)]), (4, [(0, .one (.own 95)), (1, .one .any), (5, .one .any)]), (5, [(0, .one (.own 95)), (1, .one .any), (5, .one .any)]), (6, [(0, .one (.own 95)), (1, .one .any), (5, .one .any)]), (7, [(0, .one (.own 95)), (1, .one .any), (5, .one .any)]), (8, [(0, .one (.own 95)), (1, .one .any), (5, .one .any)]), (9, [(0, .one (.own 95)), (1, .one .any), (5, .one .any)]), (10, [(0, .one (.own 95)), (1, .one .any), (5, .one .any)]), (11, [(0, .one (.own 95)), (1, .one .any), (5, .one .any)]), (12, [(1, .one .any)])] [.one .any] ⟨0, 1⟩
noncomputable def c_35 (args : List (AV tau)) (m : Mem tau) (κ : AV tau → Mem tau → Option Unit) : Option Unit := match args, m.bx, m.rw with
  | [b0, b1], [], [r0] => bO (asOwn 0 b0) fun _ => bO (asRow 3 r0) fun l0 => bO (asI .i64 b1) fun a1 => callX (fun n => laws_markIntS.f n l0 a1) fun t => κ (.int .i64 (t.1)) ⟨[], [some ⟨3, t.2, 0⟩]⟩
  | _, _, _ => none
def E_35 : Env tau := mkE [(0, [(0, .one (.own 3)), (1, .one .any)]), (1, [(0, .one (.own 3)), (1, .one .any)]), (2, [(0, .one (.own 3)), (1, .one .any), (5, .one .any)]), (3, [(0, .one (.own 3)), (1, .one .any), (5, .one .any)]), (4, [(0, .one (.own 3)), (1, .one .any), (5, .one .any)]), (5, [(0, .one (.own 3)), (1, .one .any), (5, .one .any)]), (6, [(1, .one .any)])] [.one .any] ⟨0, 1⟩
noncomputable def c_36 (args : List (AV tau)) (m : Mem tau) (κ : AV tau → Mem tau → Option Unit) : Option Unit := match args, m.bx, m.rw with
  | [b0, b1], [], [] => bO (asSl 37 b0) fun l0 => bO (asI .i64 b1) fun a1 => callX (fun n => laws_heldBoxS.f n l0 a1) fun t => κ (.int .i64 (t)) ⟨[], []⟩
  | _, _, _ => none
def E_36 : Env tau := mkE [(0, [(0, .one (.own 37)), (1, .one .any)]), (1, [(0, .one (.own 37)), (1, .one .any)]), (2, [(0, .one (.own 37)), (1, .one .any), (5, .one .any)]), (3, [(0, .one (.own 37)), (1, .one .any), (5, .one .any)]), (4, [(0, .one (.own 37)), (1, .one .any), (5, .one .any)]), (5, []), (6, [(0, .one (.own 37)), (1, .one .any), (5, .one .any)]), (7, [(0, .one (.own 37)), (1, .one .any), (5, .one .any)]), (8, []), (9, [(0, .one (.own 37)), (1, .one .any), (5, .one .any)]), (10, [(1, .one .any)])] [.one .any] ⟨0, 0⟩
noncomputable def c_37 (args : List (AV tau)) (m : Mem tau) (κ : AV tau → Mem tau → Option Unit) : Option Unit := match args, m.bx, m.rw with
  | [b0, b1], [], [] => bO (asSl 3 b0) fun l0 => bO (asI .i64 b1) fun a1 => callX (fun n => laws_heldIntS.f n l0 a1) fun t => κ (.int .i64 (t)) ⟨[], []⟩
  | _, _, _ => none
def E_37 : Env tau := mkE [(0, [(0, .one (.own 3)), (1, .one .any)]), (1, [(0, .one (.own 3)), (1, .one .any)]), (2, [(0, .one (.own 3)), (1, .one .any), (5, .one .any)]), (3, [(0, .one (.own 3)), (1, .one .any), (5, .one .any)]), (4, [(0, .one (.own 3)), (1, .one .any), (5, .one .any)]), (5, []), (6, [(0, .one (.own 3)), (1, .one .any), (5, .one .any)]), (7, [(1, .one .any)])] [.one .any] ⟨0, 0⟩
end Go.Proofs.Ytkkmhlfpombgfaa.PFnExactSerialAll