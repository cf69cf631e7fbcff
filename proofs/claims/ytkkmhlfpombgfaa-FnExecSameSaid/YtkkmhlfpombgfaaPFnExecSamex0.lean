/- The machine's texts of FnExecSame (definitions, table, contracts). Conditions: none. -/
import Derived.Test.YtkkmhlfpombgfaaProg
import Derived.Test.YtkkmhlfpombgfaaSWFnExecSame
import Derived.Test.YtkkmhlfpombgfaaAm38
import Derived.RowKit
import Derived.KernelRfl
set_option linter.unusedVariables false
set_option maxRecDepth 100000
namespace Go.Proofs.Ytkkmhlfpombgfaa.PFnExecSame
open Go.RowKit Go.Proofs.YtkkmhlfpombgfaaW.PrintWords Go.Proofs.YtkkmhlfpombgfaaW.PrintLast Go.Proofs.YtkkmhlfpombgfaaW.PrintMore
def errW : Option Int → Value
  | none => .nilIface
  | some c => .iface 0 (.int .i64 c)
structure S37 where
  f0 : Int
  f1 : Int
def z37 : S37 := ⟨(0 : Int), (0 : Int)⟩
def rd_T37 (xs : List S37) (i : Int) : S37 := xs.getD i.toNat z37
structure S95 where
  f0 : Int
  f1 : Int
  f2 : Int
  f3 : Int
def z95 : S95 := ⟨(0 : Int), (0 : Int), (0 : Int), (0 : Int)⟩
def rd_T95 (xs : List S95) (i : Int) : S95 := xs.getD i.toNat z95
structure S39 where
  f0 : Int
  f1 : Int
def z39 : S39 := ⟨(0 : Int), (0 : Int)⟩
def rd_T39 (xs : List S39) (i : Int) : S39 := xs.getD i.toNat z39
structure S82 where
  f0 : Int
  f1 : Int
def z82 : S82 := ⟨(0 : Int), (0 : Int)⟩
def rd_T82 (xs : List S82) (i : Int) : S82 := xs.getD i.toNat z82
def spec_l15Rd_pick.j0 : Nat → Int → Bool → List Int → Int → Option (Int × Int)
  | 0, _, _, _, _ => none
  | k + 1, x1, x24, x1000, x1001 => if x24 = true then (some (0, x1001)) else (if (wrap64 (x1001 - 1)) < (x1000.length : Int) then (if 0 ≤ (wrap64 (x1001 - 1)) then (if x1 = 0 then (none) else (some (Int.tmod (wrap64 (rd x1000 (wrap64 (x1001 - 1)))) x1, x1001))) else (none)) else (if (x1000.length : Int) = 0 then (none) else (if 0 ≤ (Int.tmod (wrap64 (x1001 - 1)) (x1000.length : Int)) then (if (Int.tmod (wrap64 (x1001 - 1)) (x1000.length : Int)) < (x1000.length : Int) then (if 0 ≤ (Int.tmod (wrap64 ((wrap64 ((wrap64 (x1001 - 1)) * 7)) + 3)) (x1000.length : Int)) then (if (Int.tmod (wrap64 ((wrap64 ((wrap64 (x1001 - 1)) * 7)) + 3)) (x1000.length : Int)) < (x1000.length : Int) then (if x1 = 0 then (none) else (some (Int.tmod (Go.bits .xor .i64 (wrap64 ((wrap64 ((wrap64 ((wrap64 ((wrap64 (rd x1000 (Int.tmod (wrap64 (x1001 - 1)) (x1000.length : Int)))) * 131)) + (wrap64 ((wrap64 (rd x1000 (Int.tmod (wrap64 ((wrap64 ((wrap64 (x1001 - 1)) * 7)) + 3)) (x1000.length : Int)))) * 1117)))) + (wrap64 ((wrap64 (x1001 - 1)) * 29)))) + (wrap64 ((wrap64 (Int.tdiv (wrap64 (x1001 - 1)) (x1000.length : Int))) * 53)))) (wrap64 (Int.tdiv (wrap64 ((wrap64 ((wrap64 ((wrap64 ((wrap64 (rd x1000 (Int.tmod (wrap64 (x1001 - 1)) (x1000.length : Int)))) * 131)) + (wrap64 ((wrap64 (rd x1000 (Int.tmod (wrap64 ((wrap64 ((wrap64 (x1001 - 1)) * 7)) + 3)) (x1000.length : Int)))) * 1117)))) + (wrap64 ((wrap64 (x1001 - 1)) * 29)))) + (wrap64 ((wrap64 (Int.tdiv (wrap64 (x1001 - 1)) (x1000.length : Int))) * 53)))) 64))) x1, x1001))) else (none)) else (none)) else (none)) else (none))))
def spec_l15Rd_pick.f (k : Nat) (s0_0 : List Int) (s0_1 : Int) (a1 : Int) : Option (Int × Int) := if a1 < 1 then (spec_l15Rd_pick.j0 k a1 true s0_0 (wrap64 (s0_1 + 1))) else (spec_l15Rd_pick.j0 k a1 ((s0_0.length : Int) == 0) s0_0 (wrap64 (s0_1 + 1)))
def spec_l15Rd_num.f (k : Nat) (s0_0 : List Int) (s0_1 : Int) (l1 : List Int) : Option (Int × Int) := (spec_l15Rd_pick.f k s0_0 s0_1 (l1.length : Int)).bind fun bt104 => (if 0 ≤ bt104.1 then (if bt104.1 < (l1.length : Int) then (some (rd l1 bt104.1, bt104.2)) else (none)) else (none))
def spec_BoxOpen.f  : Option ((List (S37))) := if 4 ≤ 17592186044416 then (some (List.replicate 4 z37)) else (none)
def spec_l1Boxes.l0 : Nat → List (S37) → Int → List Int → Int → Option ((List (S37)) × Int)
  | 0, _, _, _, _ => none
  | k + 1, x3, x4, x1000, x1001 => if x4 < (x3.length : Int) then ((spec_l15Rd_pick.f k x1000 x1001 5).bind fun bt113 => ((spec_l15Rd_num.f k x1000 bt113.2 (([0, 1, 2, 5, (-3), 7, 100, 1000000, (-1000000)] : List Int))).bind fun bt118 => (if 0 ≤ x4 then (spec_l1Boxes.l0 k (x3.set (x4 : Int).toNat (⟨bt113.1, bt118.1⟩ : S37)) (wrap64 (x4 + 1)) x1000 bt118.2) else (none)))) else ((spec_l15Rd_pick.f k x1000 x1001 30).bind fun bt121 => (if bt121.1 = 0 then (if 3 ≤ (x3.length : Int) then (some ((x3.take (3 : Int).toNat), bt121.2)) else (none)) else (if bt121.1 = 1 then ((spec_l15Rd_pick.f k x1000 bt121.2 4).bind fun bt126 => ((spec_l15Rd_num.f k x1000 bt126.2 (([(-1), 1000001] : List Int))).bind fun bt131 => (if 0 ≤ bt126.1 then (if bt126.1 < (x3.length : Int) then (some ((x3.set (bt126.1 : Int).toNat (⟨bt131.1, (rd_T37 x3 bt126.1).f1⟩ : S37)), bt131.2)) else (none)) else (none)))) else (if bt121.1 = 2 then ((spec_l15Rd_pick.f k x1000 bt121.2 4).bind fun bt134 => ((spec_l15Rd_num.f k x1000 bt134.2 (([1000001, (-1000001)] : List Int))).bind fun bt139 => (if 0 ≤ bt134.1 then (if bt134.1 < (x3.length : Int) then (some ((x3.set (bt134.1 : Int).toNat (⟨(rd_T37 x3 bt134.1).f0, bt139.1⟩ : S37)), bt139.2)) else (none)) else (none)))) else (some (x3, bt121.2))))))
def spec_l1Boxes.f (k : Nat) (s0_0 : List Int) (s0_1 : Int) : Option ((List (S37)) × Int) := (spec_BoxOpen.f).bind fun t110 => (spec_l1Boxes.l0 k t110 0 s0_0 s0_1)
def spec_l2Any.f (k : Nat) (s0_0 : List Int) (s0_1 : Int) : Option (Int × Int × Int × Int × Int) := (spec_l15Rd_num.f k s0_0 s0_1 (([1, 1, 2, 2, 3, 4, 4, 5, 6, 7] : List Int))).bind fun bt146 => ((spec_l15Rd_pick.f k s0_0 bt146.2 3).bind fun bt148 => ((spec_l15Rd_pick.f k s0_0 bt148.2 3).bind fun bt150 => (if bt146.1 = 3 then ((spec_l15Rd_num.f k s0_0 bt150.2 (([0, 1, 5, (-2), 100, 1000000] : List Int))).bind fun bt156 => (some (bt146.1, bt148.1, 0, bt156.1, bt156.2))) else (if bt146.1 = 6 then ((spec_l15Rd_pick.f k s0_0 bt150.2 3).bind fun bt158 => (some (bt146.1, bt148.1, bt150.1, wrap64 (1 + bt158.1), bt158.2))) else (if bt146.1 = 7 then ((spec_l15Rd_pick.f k s0_0 bt150.2 3).bind fun bt160 => (if bt160.1 > 0 then ((spec_l15Rd_pick.f k s0_0 bt160.2 4).bind fun bt162 => ((spec_l15Rd_pick.f k s0_0 bt162.2 4).bind fun bt164 => (some (4, bt162.1, bt164.1, 0, bt164.2)))) else (some (bt146.1, 0, 0, 0, bt160.2)))) else (some (bt146.1, bt148.1, bt150.1, 0, bt150.2)))))))
def spec_l2Prog.l0 : Nat → List (S95) → Int → List Int → Int → Option ((List (S95)) × Int)
  | 0, _, _, _, _ => none
  | k + 1, x5, x6, x1000, x1001 => if x6 > 0 then ((spec_l2Any.f k x1000 x1001).bind fun bt182 => (if x5.length < 4398046511104 then (spec_l2Prog.l0 k (x5 ++ [(⟨bt182.1, bt182.2.1, bt182.2.2.1, bt182.2.2.2.1⟩ : S95)]) (wrap64 (x6 - 1)) x1000 bt182.2.2.2.2) else (none))) else (some (x5, x1001))
def spec_l2Prog.f (k : Nat) (s0_0 : List Int) (s0_1 : Int) : Option ((List (S95)) × Int) := (spec_l15Rd_pick.f k s0_0 s0_1 3).bind fun bt166 => (if bt166.1 = 0 then ((spec_l15Rd_pick.f k s0_0 bt166.2 3).bind fun bt168 => ((spec_l15Rd_pick.f k s0_0 bt168.2 3).bind fun bt170 => ((spec_l15Rd_pick.f k s0_0 bt170.2 3).bind fun bt172 => (some ((([(⟨1, 0, bt168.1, 0⟩ : S95), (⟨3, 1, 0, wrap64 (1 + bt172.1)⟩ : S95), (⟨4, 0, 1, 0⟩ : S95), (⟨2, bt170.1, 0, 0⟩ : S95)] : List (S95))), bt172.2))))) else ((spec_l15Rd_pick.f k s0_0 bt166.2 8).bind fun bt180 => (spec_l2Prog.l0 k (([] : List (S95))) bt180.1 s0_0 bt180.2)))
def spec_l2Bent.l0 : Nat → List (S95) → Int → List Int → Int → Option ((List (S95)) × Int)
  | 0, _, _, _, _ => none
  | k + 1, x3, x4, x1000, x1001 => if (x3.length : Int) < 11 then (if 0 ≤ x4 then (if x4 < (x3.length : Int) then (if x3.length < 4398046511104 then (spec_l2Bent.l0 k (x3 ++ [(⟨(rd_T95 x3 x4).f0, (rd_T95 x3 x4).f1, (rd_T95 x3 x4).f2, (rd_T95 x3 x4).f3⟩ : S95)]) x4 x1000 x1001) else (none)) else (none)) else (none)) else (some (x3, x1001))
def spec_l2Bent.f (k : Nat) (s0_0 : List Int) (s0_1 : Int) : Option ((List (S95)) × Int) := (spec_l2Prog.f k s0_0 s0_1).bind fun bt190 => (if (bt190.1.length : Int) = 0 then (some (bt190.1, bt190.2)) else ((spec_l15Rd_pick.f k s0_0 bt190.2 (bt190.1.length : Int)).bind fun bt194 => ((spec_l15Rd_pick.f k s0_0 bt194.2 40).bind fun bt196 => (if bt196.1 = 0 then ((spec_l15Rd_num.f k s0_0 bt196.2 (([0, 8] : List Int))).bind fun bt201 => (if 0 ≤ bt194.1 then (if bt194.1 < (bt190.1.length : Int) then (some ((bt190.1.set (bt194.1 : Int).toNat (⟨bt201.1, (rd_T95 bt190.1 bt194.1).f1, (rd_T95 bt190.1 bt194.1).f2, (rd_T95 bt190.1 bt194.1).f3⟩ : S95)), bt201.2)) else (none)) else (none))) else (if bt196.1 = 1 then ((spec_l15Rd_num.f k s0_0 bt196.2 (([(-1), 4] : List Int))).bind fun bt207 => (if 0 ≤ bt194.1 then (if bt194.1 < (bt190.1.length : Int) then (some ((bt190.1.set (bt194.1 : Int).toNat (⟨(rd_T95 bt190.1 bt194.1).f0, bt207.1, (rd_T95 bt190.1 bt194.1).f2, (rd_T95 bt190.1 bt194.1).f3⟩ : S95)), bt207.2)) else (none)) else (none))) else (if bt196.1 = 2 then ((spec_l15Rd_num.f k s0_0 bt196.2 (([(-1), 11, 2000000] : List Int))).bind fun bt213 => (if 0 ≤ bt194.1 then (if bt194.1 < (bt190.1.length : Int) then (some ((bt190.1.set (bt194.1 : Int).toNat (⟨(rd_T95 bt190.1 bt194.1).f0, (rd_T95 bt190.1 bt194.1).f1, (rd_T95 bt190.1 bt194.1).f2, bt213.1⟩ : S95)), bt213.2)) else (none)) else (none))) else (if bt196.1 = 3 then (spec_l2Bent.l0 k bt190.1 bt194.1 s0_0 bt196.2) else (some (bt190.1, bt196.2)))))))))
def spec_l1Num.f (a0 : Int) : Option (Bool) := if a0 ≥ (-1000000) then (some (decide (a0 ≤ 1000000))) else (some false)
def spec_BoxOk.l0 : Nat → List (S37) → Int → Option (Bool)
  | 0, _, _ => none
  | k + 1, x0, x3 => if x3 < (x0.length : Int) then (if 0 ≤ x3 then (if ((rd_T37 x0 x3).f0) < 0 then (some false) else (if ((rd_T37 x0 x3).f0) > 1000000 then (some false) else ((spec_l1Num.f ((rd_T37 x0 x3).f1)).bind fun t223 => (if t223 = true then (spec_BoxOk.l0 k x0 (wrap64 (x3 + 1))) else (some false))))) else (none)) else (some true)
def spec_BoxOk.f (k : Nat) (l0 : List (S37)) : Option (Bool) := if (l0.length : Int) = 4 then (spec_BoxOk.l0 k l0 0) else (some false)
def spec_l2Box.f (a0 : Int) : Option (Bool) := if a0 ≥ 0 then (some (decide (a0 < 4))) else (some false)
def spec_l2Reg.f (a0 : Int) : Option (Bool) := if a0 ≥ 0 then (some (decide (a0 < 4))) else (some false)
def spec_l2Ins.j0 : Nat → Int → Bool → Int → Int → Int → Int → Option (Bool)
  | 0, _, _, _, _, _, _ => none
  | k + 1, x4, x50, x225000, x225001, x225002, x225003 => if x50 = true then ((spec_l2Reg.f x225001).bind fun t231 => (if t231 = true then ((spec_l2Reg.f x225002).bind fun t232 => (if t232 = true then (some (x225003 == 0)) else (some false))) else (some false))) else (if x4 = 6 then ((spec_l2Reg.f x225001).bind fun t233 => (if t233 = true then ((spec_l2Reg.f x225002).bind fun t234 => (if t234 = true then (if x225003 ≥ 1 then (some (decide (x225003 ≤ 10))) else (some false)) else (some false))) else (some false))) else (if x4 = 7 then (if x225001 = 0 then (if x225002 = 0 then (some (x225003 == 0)) else (some false)) else (some false)) else (some false)))
def spec_l2Ins.f (k : Nat) (a0_0 : Int) (a0_1 : Int) (a0_2 : Int) (a0_3 : Int) : Option (Bool) := if a0_0 = 1 then ((spec_l2Reg.f a0_1).bind fun t225 => (if t225 = true then ((spec_l2Box.f a0_2).bind fun t226 => (if t226 = true then (some (a0_3 == 0)) else (some false))) else (some false))) else (if a0_0 = 2 then ((spec_l2Box.f a0_1).bind fun t227 => (if t227 = true then ((spec_l2Reg.f a0_2).bind fun t228 => (if t228 = true then (some (a0_3 == 0)) else (some false))) else (some false))) else (if a0_0 = 3 then ((spec_l2Reg.f a0_1).bind fun t229 => (if t229 = true then (if a0_2 = 0 then ((spec_l1Num.f a0_3).bind fun t230 => (some t230)) else (some false)) else (some false))) else (if a0_0 = 4 then (spec_l2Ins.j0 k a0_0 (a0_0 == 4) a0_0 a0_1 a0_2 a0_3) else (spec_l2Ins.j0 k a0_0 (a0_0 == 5) a0_0 a0_1 a0_2 a0_3))))
def spec_ProgOk.l0 : Nat → List (S95) → Int → Option (Bool)
  | 0, _, _ => none
  | k + 1, x0, x3 => if x3 < (x0.length : Int) then (if 0 ≤ x3 then ((spec_l2Ins.f k ((rd_T95 x0 x3).f0) ((rd_T95 x0 x3).f1) ((rd_T95 x0 x3).f2) ((rd_T95 x0 x3).f3)).bind fun t236 => (if t236 = true then (spec_ProgOk.l0 k x0 (wrap64 (x3 + 1))) else (some false))) else (none)) else (some true)
def spec_ProgOk.f (k : Nat) (l0 : List (S95)) : Option (Bool) := if (l0.length : Int) > 10 then (some false) else (spec_ProgOk.l0 k l0 0)
def spec_l3Saw.l0 : Nat → List (S39) → Int → Int → Option (Bool)
  | 0, _, _, _ => none
  | k + 1, x0, x1, x5 => if x5 < (x0.length : Int) then (if 0 ≤ x5 then (if ((rd_T39 x0 x5).f0) = x1 then (some true) else (spec_l3Saw.l0 k x0 x1 (wrap64 (x5 + 1)))) else (none)) else (some false)
def spec_l3Saw.f (k : Nat) (l0 : List (S39)) (a1 : Int) : Option (Bool) := spec_l3Saw.l0 k l0 a1 0
def spec_l3At.l0 : Nat → List (S82) → Int → Int → Option (Int)
  | 0, _, _, _ => none
  | k + 1, x0, x1, x5 => if x5 < (x0.length : Int) then (if 0 ≤ x5 then (if ((rd_T82 x0 x5).f0) = x1 then (some x5) else (spec_l3At.l0 k x0 x1 (wrap64 (x5 + 1)))) else (none)) else (some (-1))
def spec_l3At.f (k : Nat) (l0 : List (S82)) (a1 : Int) : Option (Int) := spec_l3At.l0 k l0 a1 0
def spec_l3Look.f (k : Nat) (l0 : List (S37)) (l1_0 : List (S39)) (l1_1 : List (S82)) (a1_2 : Int) (a1_3 : Int) (a2 : Int) : Option (Int × (List (S39)) × (List (S82)) × Int × Int) := (spec_l3At.f k l1_1 a2).bind fun t241 => (if t241 ≥ 0 then (if 0 ≤ t241 then (if t241 < (l1_1.length : Int) then (some ((rd_T82 l1_1 t241).f1, l1_0, l1_1, a1_2, a1_3)) else (none)) else (none)) else ((spec_l3Saw.f k l1_0 a2).bind fun t243 => (if t243 = true then (if 0 ≤ a2 then (if a2 < (l0.length : Int) then (some ((rd_T37 l0 a2).f1, l1_0, l1_1, a1_2, a1_3)) else (none)) else (none)) else (if 0 ≤ a2 then (if a2 < (l0.length : Int) then (if l1_0.length < 8796093022208 then (some ((rd_T37 l0 a2).f1, (l1_0 ++ [(⟨a2, (rd_T37 l0 a2).f0⟩ : S39)]), l1_1, a1_2, a1_3)) else (none)) else (none)) else (none)))))
def spec_l3Put.f (k : Nat) (l0_0 : List (S39)) (l0_1 : List (S82)) (a0_2 : Int) (a0_3 : Int) (a1 : Int) (a2 : Int) : Option ((List (S39)) × (List (S82)) × Int × Int) := (spec_l3At.f k l0_1 a1).bind fun t252 => (if t252 ≥ 0 then (if 0 ≤ t252 then (if t252 < (l0_1.length : Int) then (some (l0_0, (l0_1.set (t252 : Int).toNat (⟨(rd_T82 l0_1 t252).f0, a2⟩ : S82)), a0_2, a0_3)) else (none)) else (none)) else (if l0_1.length < 8796093022208 then (some (l0_0, (l0_1 ++ [(⟨a1, a2⟩ : S82)]), a0_2, a0_3)) else (none)))
def spec_l3Step.j0 : Nat → List Int → List (S39) → List (S82) → Int → Int → Int → Int → Int → Int → Option ((List (S39)) × (List (S82)) × Int × Int × List Int)
  | 0, _, _, _, _, _, _, _, _, _ => none
  | k + 1, x2, x258000, x258001, x258002, x258003, x259000, x259001, x259002, x259003 => if x259000 = 2 then (some (x258000, x258001, x258002, x258003, x2)) else (if 0 ≤ x259001 then (if x259001 < (x2.length : Int) then ((spec_l1Num.f (rd x2 x259001)).bind fun t288 => (if t288 = true then (some (x258000, x258001, x258002, x258003, x2)) else (some (x258000, x258001, x258002, 2, x2)))) else (none)) else (none))
def spec_l3Step.f (k : Nat) (l0 : List (S37)) (l1_0 : List (S39)) (l1_1 : List (S82)) (a1_2 : Int) (a1_3 : Int) (l2 : List Int) (a3_0 : Int) (a3_1 : Int) (a3_2 : Int) (a3_3 : Int) : Option ((List (S39)) × (List (S82)) × Int × Int × List Int) := if a3_0 = 1 then ((spec_l3Look.f k l0 l1_0 l1_1 a1_2 a1_3 a3_2).bind fun bt260 => (if 0 ≤ a3_1 then (if a3_1 < (l2.length : Int) then (spec_l3Step.j0 k (l2.set (a3_1 : Int).toNat bt260.1) bt260.2.1 bt260.2.2.1 bt260.2.2.2.1 bt260.2.2.2.2 a3_0 a3_1 a3_2 a3_3) else (none)) else (none))) else (if a3_0 = 2 then (if 0 ≤ a3_2 then (if a3_2 < (l2.length : Int) then ((spec_l3Put.f k l1_0 l1_1 a1_2 a1_3 a3_1 (rd l2 a3_2)).bind fun bt272 => (spec_l3Step.j0 k l2 bt272.1 bt272.2.1 bt272.2.2.1 bt272.2.2.2 a3_0 a3_1 a3_2 a3_3)) else (none)) else (none)) else (if a3_0 = 3 then (if 0 ≤ a3_1 then (if a3_1 < (l2.length : Int) then (spec_l3Step.j0 k (l2.set (a3_1 : Int).toNat a3_3) l1_0 l1_1 a1_2 a1_3 a3_0 a3_1 a3_2 a3_3) else (none)) else (none)) else (if a3_0 = 4 then (if 0 ≤ a3_1 then (if a3_1 < (l2.length : Int) then (if 0 ≤ a3_2 then (if a3_2 < (l2.length : Int) then (spec_l3Step.j0 k (l2.set (a3_1 : Int).toNat (wrap64 ((rd l2 a3_1) + (rd l2 a3_2)))) l1_0 l1_1 a1_2 a1_3 a3_0 a3_1 a3_2 a3_3) else (none)) else (none)) else (none)) else (none)) else (if a3_0 = 5 then (if 0 ≤ a3_1 then (if a3_1 < (l2.length : Int) then (if 0 ≤ a3_2 then (if a3_2 < (l2.length : Int) then (spec_l3Step.j0 k (l2.set (a3_1 : Int).toNat (wrap64 ((rd l2 a3_1) - (rd l2 a3_2)))) l1_0 l1_1 a1_2 a1_3 a3_0 a3_1 a3_2 a3_3) else (none)) else (none)) else (none)) else (none)) else (if a3_0 = 7 then (spec_l3Step.j0 k l2 l1_0 l1_1 a1_2 1 a3_0 a3_1 a3_2 a3_3) else (spec_l3Step.j0 k l2 l1_0 l1_1 a1_2 a1_3 a3_0 a3_1 a3_2 a3_3))))))
mutual
def spec_ExecRun.j0 : Nat → List (S37) → List (S95) → Bool → Option ((List (S39)) × (List (S82)) × Int × Int)
  | 0, _, _, _ => none
  | k + 1, x0, x1, x16 => if x16 = true then (some (([] : List (S39)), ([] : List (S82)), 0, 3)) else (if 4 ≤ 35184372088832 then (spec_ExecRun.l0 k x0 x1 (List.replicate 4 0) 0 ([] : List (S39)) ([] : List (S82)) 0 0) else (none))
def spec_ExecRun.l0 : Nat → List (S37) → List (S95) → List Int → Int → List (S39) → List (S82) → Int → Int → Option ((List (S39)) × (List (S82)) × Int × Int)
  | 0, _, _, _, _, _, _, _, _ => none
  | k + 1, x0, x1, x6, x7, x293000, x293001, x293002, x293003 => if x7 < (x1.length : Int) then (spec_ExecRun.j2 k x0 x1 x6 x7 (x293003 == 0) x293000 x293001 x293002 x293003) else (spec_ExecRun.j2 k x0 x1 x6 x7 false x293000 x293001 x293002 x293003)
def spec_ExecRun.j2 : Nat → List (S37) → List (S95) → List Int → Int → Bool → List (S39) → List (S82) → Int → Int → Option ((List (S39)) × (List (S82)) × Int × Int)
  | 0, _, _, _, _, _, _, _, _, _ => none
  | k + 1, x0, x1, x6, x7, x28, x293000, x293001, x293002, x293003 => if x28 = true then (if 0 ≤ x7 then (if x7 < (x1.length : Int) then (if ((rd_T95 x1 x7).f0) = 6 then (if 0 ≤ ((rd_T95 x1 x7).f1) then (if ((rd_T95 x1 x7).f1) < (x6.length : Int) then (if 0 ≤ ((rd_T95 x1 x7).f2) then (if ((rd_T95 x1 x7).f2) < (x6.length : Int) then (if (rd x6 ((rd_T95 x1 x7).f1)) < (rd x6 ((rd_T95 x1 x7).f2)) then (spec_ExecRun.l0 k x0 x1 x6 (wrap64 ((wrap64 (x7 + ((rd_T95 x1 x7).f3))) + 1)) x293000 x293001 x293002 x293003) else (spec_ExecRun.l0 k x0 x1 x6 (wrap64 (x7 + 1)) x293000 x293001 x293002 x293003)) else (none)) else (none)) else (none)) else (none)) else ((spec_l3Step.f k x0 x293000 x293001 x293002 x293003 x6 ((rd_T95 x1 x7).f0) ((rd_T95 x1 x7).f1) ((rd_T95 x1 x7).f2) ((rd_T95 x1 x7).f3)).bind fun bt301 => (spec_ExecRun.l0 k x0 x1 bt301.2.2.2.2 (wrap64 (x7 + 1)) bt301.1 bt301.2.1 bt301.2.2.1 bt301.2.2.2.1))) else (none)) else (none)) else (if x293003 = 0 then (if 0 < (x6.length : Int) then (some (x293000, x293001, rd x6 0, x293003)) else (none)) else (some (x293000, ([] : List (S82)), x293002, x293003)))
end
def spec_ExecRun.f (k : Nat) (l0 : List (S37)) (l1 : List (S95)) : Option ((List (S39)) × (List (S82)) × Int × Int) := (spec_BoxOk.f k l0).bind fun t290 => (if t290 = true then ((spec_ProgOk.f k l1).bind fun t291 => (spec_ExecRun.j0 k l0 l1 (!t291))) else (spec_ExecRun.j0 k l0 l1 true))
def spec_l3Run.f (k : Nat) (s0_0 : List Int) (s0_1 : Int) : Option ((List (S37)) × (List (S39)) × (List (S82)) × Int × Int × Int) := (spec_l1Boxes.f k s0_0 s0_1).bind fun bt311 => ((spec_l2Bent.f k s0_0 bt311.2).bind fun bt315 => ((spec_ExecRun.f k bt311.1 bt315.1).bind fun bt319 => ((spec_l15Rd_pick.f k s0_0 bt315.2 40).bind fun bt328 => (if bt328.1 = 0 then ((spec_l15Rd_num.f k s0_0 bt328.2 (([(-1), 4, 1] : List Int))).bind fun bt333 => (some (bt311.1, bt319.1, bt319.2.1, bt319.2.2.1, bt333.1, bt333.2))) else (if bt328.1 = 1 then ((spec_l15Rd_pick.f k s0_0 bt328.2 5).bind fun bt335 => (if bt319.1.length < 8796093022208 then (some (bt311.1, (bt319.1 ++ [(⟨bt335.1, 0⟩ : S39)]), bt319.2.1, bt319.2.2.1, bt319.2.2.2, bt335.2)) else (none))) else (if bt328.1 = 2 then ((spec_l15Rd_pick.f k s0_0 bt328.2 6).bind fun bt340 => (if bt319.2.1.length < 8796093022208 then (some (bt311.1, bt319.1, (bt319.2.1 ++ [(⟨wrap64 (bt340.1 - 1), 0⟩ : S82)]), bt319.2.2.1, bt319.2.2.2, bt340.2)) else (none))) else (if bt328.1 = 3 then (some (bt311.1, bt319.1, bt319.2.1, 1000001, bt319.2.2.2, bt328.2)) else (some (bt311.1, bt319.1, bt319.2.1, bt319.2.2.1, bt319.2.2.2, bt328.2)))))))))
def spec_l15Open.f (l0 : List Int) : Option (List Int × Int) := if (l0.length : Int) > 2000 then (if 2000 ≤ (l0.length : Int) then (some (l0.take 2000, 0)) else (none)) else (some (l0, 0))
def spec_DrawExecFresh.f (k : Nat) (l0 : List Int) : Option ((List (S37)) × (List (S39)) × (List (S82)) × Int × Int) := (spec_l15Open.f l0).bind fun bt384 => ((spec_l3Run.f k bt384.1 bt384.2).bind fun bt387 => (if (bt387.1.length : Int) > 0 then ((spec_l15Rd_pick.f k bt384.1 bt387.2.2.2.2.2 2).bind fun bt400 => (if bt400.1 = 0 then ((spec_l15Rd_pick.f k bt384.1 bt400.2 (bt387.1.length : Int)).bind fun bt402 => (if 0 ≤ bt402.1 then (if bt402.1 < (bt387.1.length : Int) then (some ((bt387.1.set (bt402.1 : Int).toNat (⟨wrap64 (((rd_T37 bt387.1 bt402.1).f0) + 1), (rd_T37 bt387.1 bt402.1).f1⟩ : S37)), bt387.2.1, bt387.2.2.1, bt387.2.2.2.1, bt387.2.2.2.2.1)) else (none)) else (none))) else (some (bt387.1, bt387.2.1, bt387.2.2.1, bt387.2.2.2.1, bt387.2.2.2.2.1)))) else (some (bt387.1, bt387.2.1, bt387.2.2.1, bt387.2.2.2.1, bt387.2.2.2.2.1))))
def impl_same_impl_Read.l0 : Nat → List (S39) → List (S39) → Int → Int → Option (Bool)
  | 0, _, _, _, _ => none
  | k + 1, x0, x1, x12, x13 => if x13 < x12 then (if 0 ≤ x13 then (if x13 < (x0.length : Int) then (if x13 < (x1.length : Int) then (if (!(((rd_T39 x0 x13).f0) == ((rd_T39 x1 x13).f0)) || (!(((rd_T39 x0 x13).f1) == ((rd_T39 x1 x13).f1)))) = true then (some false) else (impl_same_impl_Read.l0 k x0 x1 x12 (wrap64 (x13 + 1)))) else (none)) else (none)) else (none)) else (some true)
def impl_same_impl_Read.f (k : Nat) (l0 : List (S39)) (l1 : List (S39)) : Option (Bool) := if (l0.length : Int) = (l1.length : Int) then (impl_same_impl_Read.l0 k l0 l1 (l0.length : Int) 0) else (some false)
def impl_same_impl_Put.l0 : Nat → List (S82) → List (S82) → Int → Int → Option (Bool)
  | 0, _, _, _, _ => none
  | k + 1, x0, x1, x12, x13 => if x13 < x12 then (if 0 ≤ x13 then (if x13 < (x0.length : Int) then (if x13 < (x1.length : Int) then (if (!(((rd_T82 x0 x13).f0) == ((rd_T82 x1 x13).f0)) || (!(((rd_T82 x0 x13).f1) == ((rd_T82 x1 x13).f1)))) = true then (some false) else (impl_same_impl_Put.l0 k x0 x1 x12 (wrap64 (x13 + 1)))) else (none)) else (none)) else (none)) else (some true)
def impl_same_impl_Put.f (k : Nat) (l0 : List (S82)) (l1 : List (S82)) : Option (Bool) := if (l0.length : Int) = (l1.length : Int) then (impl_same_impl_Put.l0 k l0 l1 (l0.length : Int) 0) else (some false)
def impl_ExecSame.f (k : Nat) (l0_0 : List (S39)) (l0_1 : List (S82)) (a0_2 : Int) (a0_3 : Int) (l1_0 : List (S39)) (l1_1 : List (S82)) (a1_2 : Int) (a1_3 : Int) : Option (Bool) := (impl_same_impl_Read.f k l0_0 l1_0).bind fun t412 => (if t412 = true then ((impl_same_impl_Put.f k l0_1 l1_1).bind fun t413 => (if t413 = true then (if a0_2 = a1_2 then (some (a0_3 == a1_3)) else (some false)) else (some false))) else (some false))
mutual
def spec_ExecSame.j0 : Nat → Bool → List (S39) → List (S82) → Int → Int → List (S39) → List (S82) → Int → Int → Option (Bool)
  | 0, _, _, _, _, _, _, _, _, _ => none
  | k + 1, x36, x415000, x415001, x415002, x415003, x416000, x416001, x416002, x416003 => if x36 = true then (some false) else (spec_ExecSame.l0 k 0 x415000 x415001 x415002 x415003 x416000 x416001 x416002 x416003)
def spec_ExecSame.l0 : Nat → Int → List (S39) → List (S82) → Int → Int → List (S39) → List (S82) → Int → Int → Option (Bool)
  | 0, _, _, _, _, _, _, _, _, _ => none
  | k + 1, x5, x415000, x415001, x415002, x415003, x416000, x416001, x416002, x416003 => if x5 < (x415000.length : Int) then (if 0 ≤ x5 then (if x5 < (x416000.length : Int) then (if (!(((rd_T39 x415000 x5).f0) == ((rd_T39 x416000 x5).f0)) || (!(((rd_T39 x415000 x5).f1) == ((rd_T39 x416000 x5).f1)))) = true then (some false) else (spec_ExecSame.l0 k (wrap64 (x5 + 1)) x415000 x415001 x415002 x415003 x416000 x416001 x416002 x416003)) else (none)) else (none)) else (spec_ExecSame.l1 k 0 x415000 x415001 x415002 x415003 x416000 x416001 x416002 x416003)
def spec_ExecSame.l1 : Nat → Int → List (S39) → List (S82) → Int → Int → List (S39) → List (S82) → Int → Int → Option (Bool)
  | 0, _, _, _, _, _, _, _, _, _ => none
  | k + 1, x6, x415000, x415001, x415002, x415003, x416000, x416001, x416002, x416003 => if x6 < (x415001.length : Int) then (if 0 ≤ x6 then (if x6 < (x416001.length : Int) then (if (!(((rd_T82 x415001 x6).f0) == ((rd_T82 x416001 x6).f0)) || (!(((rd_T82 x415001 x6).f1) == ((rd_T82 x416001 x6).f1)))) = true then (some false) else (spec_ExecSame.l1 k (wrap64 (x6 + 1)) x415000 x415001 x415002 x415003 x416000 x416001 x416002 x416003)) else (none)) else (none)) else (some true)
end
def spec_ExecSame.f (k : Nat) (l0_0 : List (S39)) (l0_1 : List (S82)) (a0_2 : Int) (a0_3 : Int) (l1_0 : List (S39)) (l1_1 : List (S82)) (a1_2 : Int) (a1_3 : Int) : Option (Bool) := if a0_2 = a1_2 then (if a0_3 = a1_3 then (if (l0_0.length : Int) = (l1_0.length : Int) then (spec_ExecSame.j0 k ((l0_1.length : Int) != (l1_1.length : Int)) l0_0 l0_1 a0_2 a0_3 l1_0 l1_1 a1_2 a1_3) else (spec_ExecSame.j0 k true l0_0 l0_1 a0_2 a0_3 l1_0 l1_1 a1_2 a1_3)) else (spec_ExecSame.j0 k true l0_0 l0_1 a0_2 a0_3 l1_0 l1_1 a1_2 a1_3)) else (spec_ExecSame.j0 k true l0_0 l0_1 a0_2 a0_3 l1_0 l1_1 a1_2 a1_3)
def impl_in.f (a0 : Int) (a1 : Int) (a2 : Int) : Option (Bool) := if a0 ≥ a1 then (some (decide (a0 ≤ a2))) else (some false)
def impl_BoxOk.l0 : Nat → List (S37) → List (S37) → Int → Int → Option (Bool)
  | 0, _, _, _, _ => none
  | k + 1, x0, x5, x6, x7 => if x7 < x6 then (if 0 ≤ x7 then (if x7 < (x5.length : Int) then ((impl_in.f ((rd_T37 x5 x7).f0) 0 1000000).bind fun t422 => (if t422 = true then ((impl_in.f ((rd_T37 x5 x7).f1) (-1000000) 1000000).bind fun t423 => (if t423 = true then (impl_BoxOk.l0 k x0 x5 x6 (wrap64 (x7 + 1))) else (some false))) else (some false))) else (none)) else (none)) else (some ((x0.length : Int) == 4))
def impl_BoxOk.f (k : Nat) (l0 : List (S37)) : Option (Bool) := impl_BoxOk.l0 k l0 l0 (l0.length : Int) 0
mutual
def impl_ExecOk.j0 : Nat → Bool → List (S39) → List (S82) → Int → Int → Option (Bool)
  | 0, _, _, _, _, _ => none
  | k + 1, x45, x425000, x425001, x425002, x425003 => if x45 = true then (some false) else (impl_ExecOk.l0 k x425000 (x425000.length : Int) 0 x425000 x425001 x425002 x425003 false false false false false false false false)
def impl_ExecOk.l0 : Nat → List (S39) → Int → Int → List (S39) → List (S82) → Int → Int → Bool → Bool → Bool → Bool → Bool → Bool → Bool → Bool → Option (Bool)
  | 0, _, _, _, _, _, _, _, _, _, _, _, _, _, _, _ => none
  | k + 1, x47, x48, x49, x425000, x425001, x425002, x425003, x428000, x428001, x428002, x428003, x429000, x429001, x429002, x429003 => if x49 < x48 then (if 0 ≤ x49 then (if x49 < (x47.length : Int) then ((impl_in.f ((rd_T39 x47 x49).f0) 0 3).bind fun t431 => (if t431 = true then (if 0 ≤ ((rd_T39 x47 x49).f0) then (if ((rd_T39 x47 x49).f0) < 4 then (if rdOf false [x428000, x428001, x428002, x428003] ((rd_T39 x47 x49).f0) = true then (some false) else ((impl_in.f ((rd_T39 x47 x49).f1) 0 1000000).bind fun t432 => (if t432 = true then (impl_ExecOk.l0 k x47 x48 (wrap64 (x49 + 1)) x425000 x425001 x425002 x425003 (ixB ((rd_T39 x47 x49).f0) 0 true x428000) (ixB ((rd_T39 x47 x49).f0) 1 true x428001) (ixB ((rd_T39 x47 x49).f0) 2 true x428002) (ixB ((rd_T39 x47 x49).f0) 3 true x428003) x429000 x429001 x429002 x429003) else (some false)))) else (none)) else (none)) else (some false))) else (none)) else (none)) else (impl_ExecOk.l1 k x425001 (x425001.length : Int) 0 x429000 x429001 x429002 x429003)
def impl_ExecOk.l1 : Nat → List (S82) → Int → Int → Bool → Bool → Bool → Bool → Option (Bool)
  | 0, _, _, _, _, _, _, _ => none
  | k + 1, x74, x75, x76, x429000, x429001, x429002, x429003 => if x76 < x75 then (if 0 ≤ x76 then (if x76 < (x74.length : Int) then ((impl_in.f ((rd_T82 x74 x76).f0) 0 3).bind fun t435 => (if t435 = true then (if 0 ≤ ((rd_T82 x74 x76).f0) then (if ((rd_T82 x74 x76).f0) < 4 then (if rdOf false [x429000, x429001, x429002, x429003] ((rd_T82 x74 x76).f0) = true then (some false) else ((impl_in.f ((rd_T82 x74 x76).f1) (-1000000) 1000000).bind fun t436 => (if t436 = true then (impl_ExecOk.l1 k x74 x75 (wrap64 (x76 + 1)) (ixB ((rd_T82 x74 x76).f0) 0 true x429000) (ixB ((rd_T82 x74 x76).f0) 1 true x429001) (ixB ((rd_T82 x74 x76).f0) 2 true x429002) (ixB ((rd_T82 x74 x76).f0) 3 true x429003)) else (some false)))) else (none)) else (none)) else (some false))) else (none)) else (none)) else (some true)
end
def impl_ExecOk.f (k : Nat) (l0_0 : List (S39)) (l0_1 : List (S82)) (a0_2 : Int) (a0_3 : Int) : Option (Bool) := (impl_in.f a0_3 0 3).bind fun t425 => (if t425 = true then ((impl_in.f a0_2 (-1000000) 1000000).bind fun t426 => (if t426 = true then (if a0_3 = 0 then (if a0_3 = 3 then (impl_ExecOk.j0 k (decide ((l0_0.length : Int) > 0)) l0_0 l0_1 a0_2 a0_3) else (impl_ExecOk.j0 k false l0_0 l0_1 a0_2 a0_3)) else (if a0_2 = 0 then (if (l0_1.length : Int) > 0 then (impl_ExecOk.j0 k true l0_0 l0_1 a0_2 a0_3) else (if a0_3 = 3 then (impl_ExecOk.j0 k (decide ((l0_0.length : Int) > 0)) l0_0 l0_1 a0_2 a0_3) else (impl_ExecOk.j0 k false l0_0 l0_1 a0_2 a0_3))) else (impl_ExecOk.j0 k true l0_0 l0_1 a0_2 a0_3))) else (impl_ExecOk.j0 k true l0_0 l0_1 a0_2 a0_3))) else (impl_ExecOk.j0 k true l0_0 l0_1 a0_2 a0_3))
mutual
def impl_ExecFresh.j0 : Nat → List (S37) → Bool → List (S39) → List (S82) → Int → Int → Option (Bool)
  | 0, _, _, _, _, _, _ => none
  | k + 1, x0, x14, x438000, x438001, x438002, x438003 => if x14 = true then (some false) else (impl_ExecFresh.l0 k x0 x438000 (x438000.length : Int) 0)
def impl_ExecFresh.l0 : Nat → List (S37) → List (S39) → Int → Int → Option (Bool)
  | 0, _, _, _, _ => none
  | k + 1, x0, x16, x17, x18 => if x18 < x17 then (if 0 ≤ x18 then (if x18 < (x16.length : Int) then (if 0 ≤ ((rd_T39 x16 x18).f0) then (if ((rd_T39 x16 x18).f0) < (x0.length : Int) then (if ((rd_T37 x0 ((rd_T39 x16 x18).f0)).f0) = ((rd_T39 x16 x18).f1) then (impl_ExecFresh.l0 k x0 x16 x17 (wrap64 (x18 + 1))) else (some false)) else (none)) else (none)) else (none)) else (none)) else (some true)
end
def impl_ExecFresh.f (k : Nat) (l0 : List (S37)) (l1_0 : List (S39)) (l1_1 : List (S82)) (a1_2 : Int) (a1_3 : Int) : Option (Bool) := (impl_BoxOk.f k l0).bind fun t438 => (if t438 = true then ((impl_ExecOk.f k l1_0 l1_1 a1_2 a1_3).bind fun t439 => (impl_ExecFresh.j0 k l0 (!t439) l1_0 l1_1 a1_2 a1_3)) else (impl_ExecFresh.j0 k l0 true l1_0 l1_1 a1_2 a1_3))
mutual
def spec_ExecOk.j0 : Nat → Bool → List (S39) → List (S82) → Int → Int → Option (Bool)
  | 0, _, _, _, _, _ => none
  | k + 1, x45, x444000, x444001, x444002, x444003 => if x45 = true then (some false) else (spec_ExecOk.l0 k 0 x444000 x444001 x444002 x444003)
def spec_ExecOk.l0 : Nat → Int → List (S39) → List (S82) → Int → Int → Option (Bool)
  | 0, _, _, _, _, _ => none
  | k + 1, x3, x444000, x444001, x444002, x444003 => if x3 < (x444000.length : Int) then (if 0 ≤ x3 then ((spec_l2Box.f ((rd_T39 x444000 x3).f0)).bind fun t446 => (if t446 = true then (if ((rd_T39 x444000 x3).f1) < 0 then (some false) else (if ((rd_T39 x444000 x3).f1) > 1000000 then (some false) else (if x3 ≤ (x444000.length : Int) then ((spec_l3Saw.f k (x444000.take (x3 : Int).toNat) ((rd_T39 x444000 x3).f0)).bind fun t454 => (if t454 = true then (some false) else (spec_ExecOk.l0 k (wrap64 (x3 + 1)) x444000 x444001 x444002 x444003))) else (none)))) else (some false))) else (none)) else (spec_ExecOk.l1 k 0 x444000 x444001 x444002 x444003)
def spec_ExecOk.l1 : Nat → Int → List (S39) → List (S82) → Int → Int → Option (Bool)
  | 0, _, _, _, _, _ => none
  | k + 1, x4, x444000, x444001, x444002, x444003 => if x4 < (x444001.length : Int) then (if 0 ≤ x4 then ((spec_l2Box.f ((rd_T82 x444001 x4).f0)).bind fun t456 => (if t456 = true then ((spec_l1Num.f ((rd_T82 x444001 x4).f1)).bind fun t458 => (if t458 = true then (if x4 ≤ (x444001.length : Int) then ((spec_l3At.f k (x444001.take (x4 : Int).toNat) ((rd_T82 x444001 x4).f0)).bind fun t464 => (if t464 ≥ 0 then (some false) else (spec_ExecOk.l1 k (wrap64 (x4 + 1)) x444000 x444001 x444002 x444003))) else (none)) else (some false))) else (some false))) else (none)) else (some true)
end
def spec_ExecOk.f (k : Nat) (l0_0 : List (S39)) (l0_1 : List (S82)) (a0_2 : Int) (a0_3 : Int) : Option (Bool) := if a0_3 < 0 then (spec_ExecOk.j0 k true l0_0 l0_1 a0_2 a0_3) else (if a0_3 > 3 then (spec_ExecOk.j0 k true l0_0 l0_1 a0_2 a0_3) else ((spec_l1Num.f a0_2).bind fun t444 => (if t444 = true then (if a0_3 = 0 then (if a0_3 = 3 then (spec_ExecOk.j0 k (decide ((l0_0.length : Int) > 0)) l0_0 l0_1 a0_2 a0_3) else (spec_ExecOk.j0 k false l0_0 l0_1 a0_2 a0_3)) else (if a0_2 = 0 then (if (l0_1.length : Int) > 0 then (spec_ExecOk.j0 k true l0_0 l0_1 a0_2 a0_3) else (if a0_3 = 3 then (spec_ExecOk.j0 k (decide ((l0_0.length : Int) > 0)) l0_0 l0_1 a0_2 a0_3) else (spec_ExecOk.j0 k false l0_0 l0_1 a0_2 a0_3))) else (spec_ExecOk.j0 k true l0_0 l0_1 a0_2 a0_3))) else (spec_ExecOk.j0 k true l0_0 l0_1 a0_2 a0_3))))
mutual
def spec_ExecFresh.j0 : Nat → List (S37) → Bool → List (S39) → List (S82) → Int → Int → Option (Bool)
  | 0, _, _, _, _, _, _ => none
  | k + 1, x0, x13, x466000, x466001, x466002, x466003 => if x13 = true then (some false) else (spec_ExecFresh.l0 k x0 0 x466000 x466001 x466002 x466003)
def spec_ExecFresh.l0 : Nat → List (S37) → Int → List (S39) → List (S82) → Int → Int → Option (Bool)
  | 0, _, _, _, _, _, _ => none
  | k + 1, x0, x5, x466000, x466001, x466002, x466003 => if x5 < (x466000.length : Int) then (if 0 ≤ x5 then (if 0 ≤ ((rd_T39 x466000 x5).f0) then (if ((rd_T39 x466000 x5).f0) < (x0.length : Int) then (if ((rd_T37 x0 ((rd_T39 x466000 x5).f0)).f0) = ((rd_T39 x466000 x5).f1) then (spec_ExecFresh.l0 k x0 (wrap64 (x5 + 1)) x466000 x466001 x466002 x466003) else (some false)) else (none)) else (none)) else (none)) else (some true)
end
def spec_ExecFresh.f (k : Nat) (l0 : List (S37)) (l1_0 : List (S39)) (l1_1 : List (S82)) (a1_2 : Int) (a1_3 : Int) : Option (Bool) := (spec_BoxOk.f k l0).bind fun t466 => (if t466 = true then ((spec_ExecOk.f k l1_0 l1_1 a1_2 a1_3).bind fun t467 => (spec_ExecFresh.j0 k l0 (!t467) l1_0 l1_1 a1_2 a1_3)) else (spec_ExecFresh.j0 k l0 true l1_0 l1_1 a1_2 a1_3))
def spec_DrawExecSame.f (k : Nat) (l0 : List Int) : Option ((List S39) × (List S82) × Int × Int × (List S39) × (List S82) × Int × Int) := (spec_l15Open.f l0).bind fun t0 => ((spec_l3Run.f k t0.1 t0.2).bind fun t1 => ((spec_l15Open.f l0).bind fun t2 => ((spec_l3Run.f k t2.1 t2.2).bind fun t3 => (if (((l0.length : Nat) : Int) > (0 : Int)) then (if ((0 : Int) < ((l0.length : Nat) : Int)) then (if ((Int.tmod (rd l0 (0 : Int)) (2 : Int)) = (1 : Int)) then (some ((t1.2).1, ((t1.2).2).1, (((t1.2).2).2).1, ((((t1.2).2).2).2).1, (t3.2).1, ((t3.2).2).1, (wrap64 ((((t3.2).2).2).1 + (1 : Int))), ((((t3.2).2).2).2).1)) else (some ((t1.2).1, ((t1.2).2).1, (((t1.2).2).2).1, ((((t1.2).2).2).2).1, (t3.2).1, ((t3.2).2).1, (((t3.2).2).2).1, ((((t3.2).2).2).2).1))) else (none)) else (some ((t1.2).1, ((t1.2).2).1, (((t1.2).2).2).1, ((((t1.2).2).2).2).1, (t3.2).1, ((t3.2).2).1, (((t3.2).2).2).1, ((((t3.2).2).2).2).1))))))
mutual
def laws_FnExecSame.l0 : Nat → Bool → Bool → Int → Int → Int → (List S37) → (List S39) → (List S82) → Option (Bool)
  | 0, _, _, _, _, _, _, _, _ => none
  | k + 1, x0, x1, x2, x3, x4, x5, x6, x7 => if (x2 < ((x6.length : Nat) : Int)) then (if x1 = true then (if ((0 : Int) ≤ x2) then (if (x2 < ((x6.length : Nat) : Int)) then (if ((0 : Int) ≤ ((rd_T39 x6 x2)).f0) then (if (((rd_T39 x6 x2)).f0 < ((x5.length : Nat) : Int)) then (if ((0 : Int) ≤ x2) then (if (x2 < ((x6.length : Nat) : Int)) then (laws_FnExecSame.l0 k x0 (decide (((rd_T37 x5 ((rd_T39 x6 x2)).f0)).f0 = ((rd_T39 x6 x2)).f1)) (wrap64 (x2 + (1 : Int))) x3 x4 x5 x6 x7) else (none)) else (none)) else (none)) else (none)) else (none)) else (none)) else (laws_FnExecSame.l0 k x0 false (wrap64 (x2 + (1 : Int))) x3 x4 x5 x6 x7)) else (some ((x0 == x1)))
end
def laws_FnExecSame.f (k : Nat) (l0 : List Int) : Option (Bool) := if (((l0.length : Nat) : Int) > (1048576 : Int)) then (some (true)) else ((spec_DrawExecSame.f k l0).bind fun t0 => ((spec_DrawExecFresh.f k l0).bind fun t1 => ((impl_ExecSame.f k t0.1 (t0.2).1 ((t0.2).2).1 (((t0.2).2).2).1 ((((t0.2).2).2).2).1 (((((t0.2).2).2).2).2).1 ((((((t0.2).2).2).2).2).2).1 ((((((t0.2).2).2).2).2).2).2).bind fun t2 => ((spec_ExecSame.f k t0.1 (t0.2).1 ((t0.2).2).1 (((t0.2).2).2).1 ((((t0.2).2).2).2).1 (((((t0.2).2).2).2).2).1 ((((((t0.2).2).2).2).2).2).1 ((((((t0.2).2).2).2).2).2).2).bind fun t3 => (if (t2 == t3) = true then ((impl_ExecSame.f k t0.1 (t0.2).1 ((t0.2).2).1 (((t0.2).2).2).1 t0.1 (t0.2).1 ((t0.2).2).1 (((t0.2).2).2).1).bind fun t4 => (if t4 = true then ((impl_ExecSame.f k t0.1 (t0.2).1 ((t0.2).2).1 (((t0.2).2).2).1 ((((t0.2).2).2).2).1 (((((t0.2).2).2).2).2).1 ((((((t0.2).2).2).2).2).2).1 ((((((t0.2).2).2).2).2).2).2).bind fun t5 => ((impl_ExecSame.f k ((((t0.2).2).2).2).1 (((((t0.2).2).2).2).2).1 ((((((t0.2).2).2).2).2).2).1 ((((((t0.2).2).2).2).2).2).2 t0.1 (t0.2).1 ((t0.2).2).1 (((t0.2).2).2).1).bind fun t6 => (if (t5 == t6) = true then ((impl_ExecFresh.f k t1.1 (t1.2).1 ((t1.2).2).1 (((t1.2).2).2).1 (((t1.2).2).2).2).bind fun t7 => ((spec_ExecFresh.f k t1.1 (t1.2).1 ((t1.2).2).1 (((t1.2).2).2).1 (((t1.2).2).2).2).bind fun t8 => (if (t7 == t8) = true then ((spec_BoxOk.f k t1.1).bind fun t10 => (if t10 = true then ((spec_ExecOk.f k (t1.2).1 ((t1.2).2).1 (((t1.2).2).2).1 (((t1.2).2).2).2).bind fun t12 => (if t12 = true then (laws_FnExecSame.l0 k t7 true (0 : Int) (((t1.2).2).2).1 (((t1.2).2).2).2 t1.1 (t1.2).1 ((t1.2).2).1) else ((spec_ExecFresh.f k t1.1 (t1.2).1 ((t1.2).2).1 (((t1.2).2).2).1 (((t1.2).2).2).2).bind fun t13 => (some ((t7 == t13)))))) else ((spec_ExecFresh.f k t1.1 (t1.2).1 ((t1.2).2).1 (((t1.2).2).2).1 (((t1.2).2).2).2).bind fun t11 => (some ((t7 == t11)))))) else ((spec_ExecFresh.f k t1.1 (t1.2).1 ((t1.2).2).1 (((t1.2).2).2).1 (((t1.2).2).2).2).bind fun t9 => (some ((t7 == t9))))))) else (some (false))))) else (some (false)))) else (some (false)))))))
open Go Go.Proofs Am
def tau : TypeId → Type
  | 3 => Int
  | 5 => Int
  | 37 => S37
  | 39 => S39
  | 82 => S82
  | 95 => S95
  | _ => Unit
def tabL : List (TypeId × TI) := [(2, ⟨[.int .i64], .scal⟩), (3, ⟨[.int .i64], .scal⟩), (4, ⟨[.bool], .scal⟩), (5, ⟨[.int .u8], .scal⟩), (6, ⟨[.int .u8], .scal⟩), (9, ⟨[.str], .scal⟩), (10, ⟨[.str], .scal⟩), (22, ⟨[.sl 5], .sl 5⟩), (23, ⟨[.sl 39], .sl 39⟩), (24, ⟨[.sl 82], .sl 82⟩), (26, ⟨[.sl 39, .sl 82, .int .i64, .int .i64], .st [(0, 23), (1, 24), (2, 3), (3, 3)]⟩), (29, ⟨[.sl 37], .sl 37⟩), (37, ⟨[.int .i64, .int .i64], .st [(0, 3), (1, 3)]⟩), (39, ⟨[.int .i64, .int .i64], .st [(0, 3), (1, 3)]⟩), (45, ⟨[.sl 3], .sl 3⟩), (60, ⟨[.sl 95], .sl 95⟩), (82, ⟨[.int .i64, .int .i64], .st [(0, 3), (1, 3)]⟩), (95, ⟨[.int .i64, .int .i64, .int .i64, .int .i64], .st [(0, 3), (1, 3), (2, 3), (3, 3)]⟩), (172, ⟨[.sl 5, .int .i64], .st [(0, 22), (1, 3)]⟩), (173, ⟨[.bool, .bool, .bool, .bool], .arr 4 4⟩)]
def rowT : (e : TypeId) → tau e → List (Lf tau)
  | 3, (x : Int) => [.i x]
  | 5, (x : Int) => [.i x]
  | 37, (x : S37) => [.i x.f0, .i x.f1]
  | 39, (x : S39) => [.i x.f0, .i x.f1]
  | 82, (x : S82) => [.i x.f0, .i x.f1]
  | 95, (x : S95) => [.i x.f0, .i x.f1, .i x.f2, .i x.f3]
  | _, _ => []
instance : (e : TypeId) → Inhabited (tau e) := fun e => by unfold tau; split <;> first | exact ⟨(0 : Int)⟩ | exact ⟨false⟩ | exact ⟨(default : ByteArray)⟩ | exact ⟨[]⟩ | exact ⟨()⟩ | exact ⟨z37⟩ | exact ⟨z39⟩ | exact ⟨z82⟩ | exact ⟨z95⟩
def of3 : List (Lf tau) → Int
  | [(.i y0)] => y0
  | _ => (0 : Int)
def of5 : List (Lf tau) → Int
  | [(.i y0)] => y0
  | _ => (0 : Int)
def of37 : List (Lf tau) → S37
  | [(.i y0), (.i y1)] => (⟨y0, y1⟩ : S37)
  | _ => z37
def of39 : List (Lf tau) → S39
  | [(.i y0), (.i y1)] => (⟨y0, y1⟩ : S39)
  | _ => z39
def of82 : List (Lf tau) → S82
  | [(.i y0), (.i y1)] => (⟨y0, y1⟩ : S82)
  | _ => z82
def of95 : List (Lf tau) → S95
  | [(.i y0), (.i y1), (.i y2), (.i y3)] => (⟨y0, y1, y2, y3⟩ : S95)
  | _ => z95
def ofT : (e : TypeId) → List (Lf tau) → tau e
  | 3, l => of3 l
  | 5, l => of5 l
  | 37, l => of37 l
  | 39, l => of39 l
  | 82, l => of82 l
  | 95, l => of95 l
  | _, _ => default
def TT : Tab tau := ⟨fun t => lookN t tabL, rowT, ofT, fun t => memN t [3, 5, 37, 39, 82, 95]⟩
def byT : TypeId → Nat := fun t => lookD 1 t [(2, 8), (3, 8), (4, 1), (5, 1), (6, 1), (9, 16), (10, 16), (22, 24), (23, 24), (24, 24), (26, 64), (29, 24), (37, 16), (39, 16), (45, 24), (60, 24), (82, 16), (95, 32), (172, 32), (173, 4)]
def modeL : List (Nat × Nat) := [(79, 1), (145, 1), (98, 1), (150, 1), (99, 1), (100, 1), (77, 1), (78, 1)]
def shpL : List (Nat × List PS) := [(79, [.one .any, .one .any]), (145, [.one .any, .one (.own 3)]), (149, []), (98, [.one .any]), (150, [.one .any]), (99, [.one .any]), (100, [.one .any]), (84, [.one .any]), (22, [.one (.sl 37)]), (85, [.one .any]), (170, [.one .any]), (153, [.agg [.any, .any, .any, .any]]), (106, [.one (.sl 95)]), (86, [.one (.sl 39), .one .any]), (87, [.one (.sl 82), .one .any]), (175, [.one (.sl 37), .agg [.own 39, .own 82, .any, .any], .one .any]), (176, [.agg [.own 39, .own 82, .any, .any], .one .any, .one .any]), (166, [.one (.sl 37), .agg [.own 39, .own 82, .any, .any], .one (.own 3), .agg [.any, .any, .any, .any]]), (144, [.one (.sl 37), .one (.sl 95)]), (77, [.one .any]), (78, [.one (.sl 5)]), (17, [.one (.sl 5)]), (80, [.one (.sl 39), .one (.sl 39)]), (81, [.one (.sl 82), .one (.sl 82)]), (18, [.agg [.sl 39, .sl 82, .any, .any], .agg [.sl 39, .sl 82, .any, .any]]), (19, [.agg [.sl 39, .sl 82, .any, .any], .agg [.sl 39, .sl 82, .any, .any]]), (122, [.one .any, .one .any, .one .any]), (82, [.one (.sl 37)]), (83, [.agg [.sl 39, .sl 82, .any, .any]]), (20, [.one (.sl 37), .agg [.sl 39, .sl 82, .any, .any]]), (23, [.agg [.sl 39, .sl 82, .any, .any]]), (21, [.one (.sl 37), .agg [.sl 39, .sl 82, .any, .any]]), (16, [.one (.sl 5)]), (3, [.one (.sl 5)])]
def persL : List (Nat × List Nat) := [(145, [1]), (175, [1]), (176, [0]), (166, [2, 1])]
def pnL : List (Nat × Nat) := [(145, 1), (166, 1)]
def pnT : FuncId → Nat := fun f => lookD 0 f pnL
def mkE (keep : List (Nat × List (Nat × PS))) (res : List PS) (nb : NB) : Env tau := { T := TT, by_ := byT, mode := fun f => lookD 0 f modeL, shp := fun f => lookD [] f shpL, keep := fun i => lookN i keep, res := res, pers := fun f => lookD [] f persL, pn := pnT, nb := nb }
theorem asked : Asked Try.prog byT tabL := ⟨by kernel_rfl, by kernel_rfl, by kernel_rfl, by kernel_rfl⟩
theorem el_3 : ElOk TT 3 := by
 intro ti h
 replace h : some (⟨[.int .i64], .scal⟩ : TI) = some ti := h
 cases h
 refine ⟨fun x => rfl, fun l hl => ?_⟩
 obtain ⟨y0, l0, e0, h0⟩ := wts_i hl
 have e1 := wts_nil h0
 subst e1
 subst e0
 rfl
theorem el_5 : ElOk TT 5 := by
 intro ti h
 replace h : some (⟨[.int .u8], .scal⟩ : TI) = some ti := h
 cases h
 refine ⟨fun x => rfl, fun l hl => ?_⟩
 obtain ⟨y0, l0, e0, h0⟩ := wts_i hl
 have e1 := wts_nil h0
 subst e1
 subst e0
 rfl
theorem el_37 : ElOk TT 37 := by
 intro ti h
 replace h : some (⟨[.int .i64, .int .i64], .st [(0, 3), (1, 3)]⟩ : TI) = some ti := h
 cases h
 refine ⟨fun x => rfl, fun l hl => ?_⟩
 obtain ⟨y0, l0, e0, h0⟩ := wts_i hl
 obtain ⟨y1, l1, e1, h1⟩ := wts_i h0
 have e2 := wts_nil h1
 subst e2
 subst e1
 subst e0
 rfl
theorem el_39 : ElOk TT 39 := by
 intro ti h
 replace h : some (⟨[.int .i64, .int .i64], .st [(0, 3), (1, 3)]⟩ : TI) = some ti := h
 cases h
 refine ⟨fun x => rfl, fun l hl => ?_⟩
 obtain ⟨y0, l0, e0, h0⟩ := wts_i hl
 obtain ⟨y1, l1, e1, h1⟩ := wts_i h0
 have e2 := wts_nil h1
 subst e2
 subst e1
 subst e0
 rfl
theorem el_82 : ElOk TT 82 := by
 intro ti h
 replace h : some (⟨[.int .i64, .int .i64], .st [(0, 3), (1, 3)]⟩ : TI) = some ti := h
 cases h
 refine ⟨fun x => rfl, fun l hl => ?_⟩
 obtain ⟨y0, l0, e0, h0⟩ := wts_i hl
 obtain ⟨y1, l1, e1, h1⟩ := wts_i h0
 have e2 := wts_nil h1
 subst e2
 subst e1
 subst e0
 rfl
theorem el_95 : ElOk TT 95 := by
 intro ti h
 replace h : some (⟨[.int .i64, .int .i64, .int .i64, .int .i64], .st [(0, 3), (1, 3), (2, 3), (3, 3)]⟩ : TI) = some ti := h
 cases h
 refine ⟨fun x => rfl, fun l hl => ?_⟩
 obtain ⟨y0, l0, e0, h0⟩ := wts_i hl
 obtain ⟨y1, l1, e1, h1⟩ := wts_i h0
 obtain ⟨y2, l2, e2, h2⟩ := wts_i h1
 obtain ⟨y3, l3, e3, h3⟩ := wts_i h2
 have e4 := wts_nil h3
 subst e4
 subst e3
 subst e2
 subst e1
 subst e0
 rfl
theorem pq : PQ Try.prog TT byT := pq_of asked rfl (fun e he => by
 have h := memN_iff.1 he
 simp only [List.mem_cons, List.not_mem_nil, or_false] at h
 rcases h with rfl | rfl | rfl | rfl | rfl | rfl
 · exact el_3
 · exact el_5
 · exact el_37
 · exact el_39
 · exact el_82
 · exact el_95)
theorem hmix : Try.prog.follows .mixedOrders = true := by kernel_rfl
noncomputable def c_79 (args : List (AV tau)) (m : Mem tau) (κ : AV tau → Mem tau → Option Unit) : Option Unit := match args, m.bx, m.rw with
  | [p0, b0], [some (t0_, [c0_0, c0_1])], [] => bO (asPtr 0 p0) fun _ => bO (asT 172 t0_) fun _ => bO (asSl 5 c0_0) fun s0_0 => bO (asI .i64 c0_1) fun s0_1 => bO (asI .i64 b0) fun a1 => callX (fun n => spec_l15Rd_pick.f n s0_0 s0_1 a1) fun t => κ (.int .i64 (t.1)) ⟨[some (172, [.sl 5 (s0_0), .int .i64 (t.2)])], []⟩
  | _, _, _ => none
def E_79 : Env tau := mkE [(0, [(0, .one .any), (1, .one .any)]), (1, [(0, .one .any), (1, .one .any)]), (2, [(0, .one .any), (1, .one .any)]), (3, []), (4, [(0, .one .any), (1, .one .any)]), (5, [(0, .one .any), (1, .one .any), (5, .one .any)]), (6, [(0, .one .any), (1, .one .any), (5, .one .any)]), (7, [(0, .one .any), (1, .one .any), (5, .one .any)]), (8, [(1, .one .any), (6, .one .any)]), (9, [(1, .one .any), (6, .one .any)])] [.one .any] ⟨1, 0⟩
noncomputable def c_145 (args : List (AV tau)) (m : Mem tau) (κ : AV tau → Mem tau → Option Unit) : Option Unit := match args, m.bx, m.rw with
  | [p0, b0], [some (t0_, [c0_0, c0_1])], [r0] => bO (asPtr 0 p0) fun _ => bO (asT 172 t0_) fun _ => bO (asSl 5 c0_0) fun s0_0 => bO (asI .i64 c0_1) fun s0_1 => bO (asOwn 0 b0) fun _ => bO (asRow 3 r0) fun l1 => callX (fun n => spec_l15Rd_num.f n s0_0 s0_1 l1) fun t => κ (.int .i64 (t.1)) ⟨[some (172, [.sl 5 (s0_0), .int .i64 (t.2)])], [some ⟨3, l1, 0⟩]⟩
  | _, _, _ => none
def E_145 : Env tau := mkE [(0, [(0, .one .any), (1, .one (.own 3))]), (1, [(0, .one .any), (1, .one (.own 3))])] [.one .any] ⟨1, 1⟩
noncomputable def c_149 (args : List (AV tau)) (m : Mem tau) (κ : AV tau → Mem tau → Option Unit) : Option Unit := match args, m.bx, m.rw with
  | [], [], [] => callX (fun n => spec_BoxOpen.f) fun t => κ (.own 0 0) ⟨[], [some ⟨37, t, 0⟩]⟩
  | _, _, _ => none
def E_149 : Env tau := mkE [(0, []), (1, [])] [.one (.own 37)] ⟨0, 0⟩
noncomputable def c_98 (args : List (AV tau)) (m : Mem tau) (κ : AV tau → Mem tau → Option Unit) : Option Unit := match args, m.bx, m.rw with
  | [p0], [some (t0_, [c0_0, c0_1])], [] => bO (asPtr 0 p0) fun _ => bO (asT 172 t0_) fun _ => bO (asSl 5 c0_0) fun s0_0 => bO (asI .i64 c0_1) fun s0_1 => callX (fun n => spec_l1Boxes.f n s0_0 s0_1) fun t => κ (.own 0 0) ⟨[some (172, [.sl 5 (s0_0), .int .i64 (t.2)])], [some ⟨37, t.1, 0⟩]⟩
  | _, _, _ => none
def E_98 : Env tau := mkE [(0, [(0, .one .any)]), (1, [(0, .one .any)]), (2, [(0, .one .any), (3, .one (.own 37))]), (3, [(0, .one .any), (3, .one (.own 37)), (4, .one .any)]), (4, [(0, .one .any), (3, .one (.own 37)), (4, .one .any)]), (5, [(0, .one .any), (3, .one (.own 37)), (4, .one .any)]), (6, [(0, .one .any), (3, .one (.own 37))]), (7, [(0, .one .any), (3, .one (.own 37)), (22, .one .any)]), (8, [(3, .one (.own 37))]), (9, [(0, .one .any), (3, .one (.own 37)), (22, .one .any)]), (10, [(0, .one .any), (3, .one (.own 37))]), (11, [(0, .one .any), (3, .one (.own 37)), (22, .one .any)]), (12, [(0, .one .any), (3, .one (.own 37))]), (13, [(3, .one (.own 37))])] [.one (.own 37)] ⟨1, 0⟩
noncomputable def c_150 (args : List (AV tau)) (m : Mem tau) (κ : AV tau → Mem tau → Option Unit) : Option Unit := match args, m.bx, m.rw with
  | [p0], [some (t0_, [c0_0, c0_1])], [] => bO (asPtr 0 p0) fun _ => bO (asT 172 t0_) fun _ => bO (asSl 5 c0_0) fun s0_0 => bO (asI .i64 c0_1) fun s0_1 => callX (fun n => spec_l2Any.f n s0_0 s0_1) fun t => κ (.agg [.int .i64 (t.1), .int .i64 (t.2.1), .int .i64 (t.2.2.1), .int .i64 (t.2.2.2.1)]) ⟨[some (172, [.sl 5 (s0_0), .int .i64 (t.2.2.2.2)])], []⟩
  | _, _, _ => none
def E_150 : Env tau := mkE [(0, [(0, .one .any)]), (1, [(0, .one .any), (2, .one .any)]), (2, [(0, .one .any), (2, .one .any), (3, .one .any)]), (3, [(0, .one .any), (2, .one .any), (3, .one .any), (13, .one .any)]), (4, [(0, .one .any), (2, .one .any), (3, .one .any)]), (5, [(0, .one .any), (2, .one .any), (3, .one .any)]), (6, [(0, .one .any), (2, .one .any), (3, .one .any), (13, .one .any)]), (7, [(0, .one .any), (2, .one .any), (3, .one .any)]), (8, [(0, .one .any), (2, .one .any), (3, .one .any), (13, .one .any)]), (9, [(0, .one .any), (2, .one .any), (3, .one .any)]), (10, [(0, .one .any), (2, .one .any)]), (11, [(2, .one .any), (3, .one .any)]), (12, [(2, .one .any), (3, .one .any)]), (13, [(2, .one .any), (3, .one .any)])] [.agg [.any, .any, .any, .any]] ⟨1, 0⟩
noncomputable def c_99 (args : List (AV tau)) (m : Mem tau) (κ : AV tau → Mem tau → Option Unit) : Option Unit := match args, m.bx, m.rw with
  | [p0], [some (t0_, [c0_0, c0_1])], [] => bO (asPtr 0 p0) fun _ => bO (asT 172 t0_) fun _ => bO (asSl 5 c0_0) fun s0_0 => bO (asI .i64 c0_1) fun s0_1 => callX (fun n => spec_l2Prog.f n s0_0 s0_1) fun t => κ (.own 0 0) ⟨[some (172, [.sl 5 (s0_0), .int .i64 (t.2)])], [some ⟨95, t.1, 0⟩]⟩
  | _, _, _ => none
def E_99 : Env tau := mkE [(0, [(0, .one .any)]), (1, [(0, .one .any)]), (2, [(0, .one .any)]), (3, [(0, .one .any), (3, .one .any)]), (4, [(0, .one .any), (3, .one .any), (4, .one .any)]), (5, [(0, .one .any)]), (6, [(0, .one .any), (5, .one (.own 95))]), (7, [(0, .one .any), (5, .one (.own 95)), (6, .one .any)]), (8, [(0, .one .any), (5, .one (.own 95)), (6, .one .any)]), (9, [(0, .one .any), (5, .one (.own 95)), (6, .one .any)]), (10, [(5, .one (.own 95))])] [.one (.own 95)] ⟨1, 0⟩
noncomputable def c_100 (args : List (AV tau)) (m : Mem tau) (κ : AV tau → Mem tau → Option Unit) : Option Unit := match args, m.bx, m.rw with
  | [p0], [some (t0_, [c0_0, c0_1])], [] => bO (asPtr 0 p0) fun _ => bO (asT 172 t0_) fun _ => bO (asSl 5 c0_0) fun s0_0 => bO (asI .i64 c0_1) fun s0_1 => callX (fun n => spec_l2Bent.f n s0_0 s0_1) fun t => κ (.own 0 0) ⟨[some (172, [.sl 5 (s0_0), .int .i64 (t.2)])], [some ⟨95, t.1, 0⟩]⟩
  | _, _, _ => none
def E_100 : Env tau := mkE [(0, [(0, .one .any)]), (1, [(0, .one .any)]), (2, [(0, .one .any), (3, .one (.own 95))]), (3, [(3, .one (.own 95))]), (4, [(0, .one .any), (3, .one (.own 95))]), (5, [(0, .one .any), (3, .one (.own 95)), (4, .one .any)]), (6, [(0, .one .any), (3, .one (.own 95)), (4, .one .any), (16, .one .any)]), (7, [(0, .one .any), (3, .one (.own 95)), (4, .one .any)]), (8, [(0, .one .any), (3, .one (.own 95)), (4, .one .any), (16, .one .any)]), (9, [(0, .one .any), (3, .one (.own 95)), (4, .one .any)]), (10, [(0, .one .any), (3, .one (.own 95)), (4, .one .any), (16, .one .any)]), (11, [(0, .one .any), (3, .one (.own 95)), (4, .one .any)]), (12, [(3, .one (.own 95)), (4, .one .any), (16, .one .any)]), (13, [(3, .one (.own 95)), (4, .one .any)]), (14, [(3, .one (.own 95)), (4, .one .any)]), (15, [(3, .one (.own 95))])] [.one (.own 95)] ⟨1, 0⟩
noncomputable def c_84 (args : List (AV tau)) (m : Mem tau) (κ : AV tau → Mem tau → Option Unit) : Option Unit := match args, m.bx, m.rw with
  | [b0], [], [] => bO (asI .i64 b0) fun a0 => callX (fun n => spec_l1Num.f a0) fun t => κ (.bool (t)) ⟨[], []⟩
  | _, _, _ => none
def E_84 : Env tau := mkE [(0, [(0, .one .any)]), (1, [(0, .one .any)])] [.one .any] ⟨0, 0⟩
noncomputable def c_22 (args : List (AV tau)) (m : Mem tau) (κ : AV tau → Mem tau → Option Unit) : Option Unit := match args, m.bx, m.rw with
  | [b0], [], [] => bO (asSl 37 b0) fun l0 => callX (fun n => spec_BoxOk.f n l0) fun t => κ (.bool (t)) ⟨[], []⟩
  | _, _, _ => none
def E_22 : Env tau := mkE [(0, [(0, .one (.own 37))]), (1, [(0, .one (.own 37))]), (2, []), (3, [(0, .one (.own 37))]), (4, [(0, .one (.own 37)), (3, .one .any)]), (5, [(0, .one (.own 37)), (3, .one .any)]), (6, [(0, .one (.own 37)), (3, .one .any)]), (7, []), (8, [])] [.one .any] ⟨0, 0⟩
noncomputable def c_85 (args : List (AV tau)) (m : Mem tau) (κ : AV tau → Mem tau → Option Unit) : Option Unit := match args, m.bx, m.rw with
  | [b0], [], [] => bO (asI .i64 b0) fun a0 => callX (fun n => spec_l2Box.f a0) fun t => κ (.bool (t)) ⟨[], []⟩
  | _, _, _ => none
def E_85 : Env tau := mkE [(0, [(0, .one .any)]), (1, [(0, .one .any)])] [.one .any] ⟨0, 0⟩
noncomputable def c_170 (args : List (AV tau)) (m : Mem tau) (κ : AV tau → Mem tau → Option Unit) : Option Unit := match args, m.bx, m.rw with
  | [b0], [], [] => bO (asI .i64 b0) fun a0 => callX (fun n => spec_l2Reg.f a0) fun t => κ (.bool (t)) ⟨[], []⟩
  | _, _, _ => none
def E_170 : Env tau := mkE [(0, [(0, .one .any)]), (1, [(0, .one .any)])] [.one .any] ⟨0, 0⟩
noncomputable def c_153 (args : List (AV tau)) (m : Mem tau) (κ : AV tau → Mem tau → Option Unit) : Option Unit := match args, m.bx, m.rw with
  | [.agg [b0, b1, b2, b3]], [], [] => bO (asI .i64 b0) fun a0_0 => bO (asI .i64 b1) fun a0_1 => bO (asI .i64 b2) fun a0_2 => bO (asI .i64 b3) fun a0_3 => callX (fun n => spec_l2Ins.f n a0_0 a0_1 a0_2 a0_3) fun t => κ (.bool (t)) ⟨[], []⟩
  | _, _, _ => none
def E_153 : Env tau := mkE [(0, [(0, .agg [.any, .any, .any, .any])]), (1, [(1, .one .any)]), (2, [(1, .one .any), (4, .one .any)]), (3, [(1, .one .any)]), (4, [(1, .one .any), (4, .one .any)]), (5, [(1, .one .any)]), (6, [(1, .one .any), (4, .one .any)]), (7, [(1, .one .any)]), (8, [(1, .one .any), (4, .one .any)]), (9, [(1, .one .any), (4, .one .any)]), (10, [(1, .one .any)]), (11, [(1, .one .any), (4, .one .any)]), (12, [(1, .one .any)]), (13, [(1, .one .any), (4, .one .any)]), (14, [(1, .one .any)]), (15, [])] [.one .any] ⟨0, 0⟩
noncomputable def c_106 (args : List (AV tau)) (m : Mem tau) (κ : AV tau → Mem tau → Option Unit) : Option Unit := match args, m.bx, m.rw with
  | [b0], [], [] => bO (asSl 95 b0) fun l0 => callX (fun n => spec_ProgOk.f n l0) fun t => κ (.bool (t)) ⟨[], []⟩
  | _, _, _ => none
def E_106 : Env tau := mkE [(0, [(0, .one (.own 95))]), (1, [(0, .one (.own 95))]), (2, []), (3, [(0, .one (.own 95))]), (4, [(0, .one (.own 95)), (3, .one .any)]), (5, [(0, .one (.own 95)), (3, .one .any)]), (6, [(0, .one (.own 95)), (3, .one .any)]), (7, []), (8, [])] [.one .any] ⟨0, 0⟩
noncomputable def c_86 (args : List (AV tau)) (m : Mem tau) (κ : AV tau → Mem tau → Option Unit) : Option Unit := match args, m.bx, m.rw with
  | [b0, b1], [], [] => bO (asSl 39 b0) fun l0 => bO (asI .i64 b1) fun a1 => callX (fun n => spec_l3Saw.f n l0 a1) fun t => κ (.bool (t)) ⟨[], []⟩
  | _, _, _ => none
def E_86 : Env tau := mkE [(0, [(0, .one (.own 39)), (1, .one .any)]), (1, [(0, .one (.own 39)), (1, .one .any)]), (2, [(0, .one (.own 39)), (1, .one .any), (5, .one .any)]), (3, [(0, .one (.own 39)), (1, .one .any), (5, .one .any)]), (4, [(0, .one (.own 39)), (1, .one .any), (5, .one .any)]), (5, []), (6, [])] [.one .any] ⟨0, 0⟩
noncomputable def c_87 (args : List (AV tau)) (m : Mem tau) (κ : AV tau → Mem tau → Option Unit) : Option Unit := match args, m.bx, m.rw with
  | [b0, b1], [], [] => bO (asSl 82 b0) fun l0 => bO (asI .i64 b1) fun a1 => callX (fun n => spec_l3At.f n l0 a1) fun t => κ (.int .i64 (t)) ⟨[], []⟩
  | _, _, _ => none
def E_87 : Env tau := mkE [(0, [(0, .one (.own 82)), (1, .one .any)]), (1, [(0, .one (.own 82)), (1, .one .any)]), (2, [(0, .one (.own 82)), (1, .one .any), (5, .one .any)]), (3, [(0, .one (.own 82)), (1, .one .any), (5, .one .any)]), (4, [(0, .one (.own 82)), (1, .one .any), (5, .one .any)]), (5, [(5, .one .any)]), (6, [])] [.one .any] ⟨0, 0⟩
noncomputable def c_175 (args : List (AV tau)) (m : Mem tau) (κ : AV tau → Mem tau → Option Unit) : Option Unit := match args, m.bx, m.rw with
  | [b0, .agg [b1, b2, b3, b4], b5], [], [r0, r1] => bO (asSl 37 b0) fun l0 => bO (asOwn 0 b1) fun _ => bO (asRow 39 r0) fun l1_0 => bO (asOwn 1 b2) fun _ => bO (asRow 82 r1) fun l1_1 => bO (asI .i64 b3) fun a1_2 => bO (asI .i64 b4) fun a1_3 => bO (asI .i64 b5) fun a2 => callX (fun n => spec_l3Look.f n l0 l1_0 l1_1 a1_2 a1_3 a2) fun t => κ (.tup [.int .i64 (t.1), .agg [.own 0 0, .own 1 0, .int .i64 (t.2.2.2.1), .int .i64 (t.2.2.2.2)]]) ⟨[], [some ⟨39, t.2.1, 0⟩, some ⟨82, t.2.2.1, 0⟩]⟩
  | _, _, _ => none
def E_175 : Env tau := mkE [(0, [(0, .one (.own 37)), (1, .agg [.own 39, .own 82, .any, .any]), (2, .one .any)]), (1, [(0, .one (.own 37)), (2, .one .any), (4, .one .any), (7, .one .any)]), (2, [(0, .one (.own 37)), (2, .one .any), (4, .one .any), (7, .one .any), (8, .one .any)]), (3, [(4, .one .any), (7, .one .any), (8, .one .any)]), (4, [(0, .one (.own 37)), (2, .one .any), (4, .one .any), (7, .one .any)]), (5, [(0, .one (.own 37)), (2, .one .any), (4, .one .any), (7, .one .any)]), (6, [(0, .one (.own 37)), (2, .one .any), (4, .one .any), (7, .one .any)])] [.one .any, .agg [.own 39, .own 82, .any, .any]] ⟨0, 0⟩
noncomputable def c_176 (args : List (AV tau)) (m : Mem tau) (κ : AV tau → Mem tau → Option Unit) : Option Unit := match args, m.bx, m.rw with
  | [.agg [b0, b1, b2, b3], b4, b5], [], [r0, r1] => bO (asOwn 0 b0) fun _ => bO (asRow 39 r0) fun l0_0 => bO (asOwn 1 b1) fun _ => bO (asRow 82 r1) fun l0_1 => bO (asI .i64 b2) fun a0_2 => bO (asI .i64 b3) fun a0_3 => bO (asI .i64 b4) fun a1 => bO (asI .i64 b5) fun a2 => callX (fun n => spec_l3Put.f n l0_0 l0_1 a0_2 a0_3 a1 a2) fun t => κ (.agg [.own 0 0, .own 1 0, .int .i64 (t.2.2.1), .int .i64 (t.2.2.2)]) ⟨[], [some ⟨39, t.1, 0⟩, some ⟨82, t.2.1, 0⟩]⟩
  | _, _, _ => none
def E_176 : Env tau := mkE [(0, [(0, .agg [.own 39, .own 82, .any, .any]), (1, .one .any), (2, .one .any)]), (1, [(1, .one .any), (2, .one .any), (3, .one .any), (6, .one .any)]), (2, [(1, .one .any), (2, .one .any), (3, .one .any), (6, .one .any), (7, .one .any)]), (3, [(2, .one .any), (3, .one .any), (6, .one .any), (7, .one .any)]), (4, [(3, .one .any), (6, .one .any)]), (5, [(1, .one .any), (2, .one .any), (3, .one .any), (6, .one .any)]), (6, [(3, .one .any), (6, .one .any)])] [.agg [.own 39, .own 82, .any, .any]] ⟨0, 0⟩
noncomputable def c_166 (args : List (AV tau)) (m : Mem tau) (κ : AV tau → Mem tau → Option Unit) : Option Unit := match args, m.bx, m.rw with
  | [b0, .agg [b1, b2, b3, b4], b5, .agg [b6, b7, b8, b9]], [], [r0, r1, r2] => bO (asSl 37 b0) fun l0 => bO (asOwn 1 b1) fun _ => bO (asRow 39 r1) fun l1_0 => bO (asOwn 2 b2) fun _ => bO (asRow 82 r2) fun l1_1 => bO (asI .i64 b3) fun a1_2 => bO (asI .i64 b4) fun a1_3 => bO (asOwn 0 b5) fun _ => bO (asRow 3 r0) fun l2 => bO (asI .i64 b6) fun a3_0 => bO (asI .i64 b7) fun a3_1 => bO (asI .i64 b8) fun a3_2 => bO (asI .i64 b9) fun a3_3 => callX (fun n => spec_l3Step.f n l0 l1_0 l1_1 a1_2 a1_3 l2 a3_0 a3_1 a3_2 a3_3) fun t => κ (.agg [.own 1 0, .own 2 0, .int .i64 (t.2.2.1), .int .i64 (t.2.2.2.1)]) ⟨[], [some ⟨3, t.2.2.2.2, 0⟩, some ⟨39, t.1, 0⟩, some ⟨82, t.2.1, 0⟩]⟩
  | _, _, _ => none
def E_166 : Env tau := mkE [(0, [(0, .one (.own 37)), (1, .agg [.own 39, .own 82, .any, .any]), (2, .one (.own 3)), (3, .agg [.any, .any, .any, .any])]), (1, [(0, .one (.own 37)), (2, .one (.own 3)), (5, .one .any), (7, .one .any), (8, .one .any)]), (2, [(0, .one (.own 37)), (2, .one (.own 3)), (5, .one .any), (7, .one .any), (8, .one .any), (12, .one .any)]), (3, [(0, .one (.own 37)), (2, .one (.own 3)), (5, .one .any), (7, .one .any), (8, .one .any)]), (4, [(2, .one (.own 3)), (5, .one .any), (7, .one .any), (8, .one .any), (9, .one .any), (10, .one .any)]), (5, [(2, .one (.own 3)), (5, .one .any), (7, .one .any), (8, .one .any), (10, .one .any)]), (6, [(2, .one (.own 3)), (5, .one .any), (7, .one .any), (8, .one .any), (12, .one .any)]), (7, [(2, .one (.own 3)), (5, .one .any), (7, .one .any), (8, .one .any)]), (8, [(2, .one (.own 3)), (5, .one .any), (7, .one .any), (8, .one .any), (12, .one .any)]), (9, [(2, .one (.own 3)), (5, .one .any), (7, .one .any), (8, .one .any)]), (10, [(2, .one (.own 3)), (5, .one .any), (7, .one .any), (8, .one .any), (12, .one .any)]), (11, [(2, .one (.own 3)), (5, .one .any), (7, .one .any), (8, .one .any)]), (12, [(2, .one (.own 3)), (5, .one .any), (7, .one .any), (8, .one .any), (12, .one .any)]), (13, [(2, .one (.own 3)), (5, .one .any), (7, .one .any), (8, .one .any)]), (14, [(2, .one (.own 3)), (5, .one .any), (7, .one .any), (8, .one .any), (12, .one .any)]), (15, [(2, .one (.own 3)), (5, .one .any), (7, .one .any), (8, .one .any)]), (16, [(2, .one (.own 3)), (5, .one .any), (7, .one .any), (8, .one .any)]), (17, [(5, .one .any), (8, .one .any)]), (18, [(5, .one .any), (8, .one .any)])] [.agg [.own 39, .own 82, .any, .any]] ⟨0, 1⟩
noncomputable def c_144 (args : List (AV tau)) (m : Mem tau) (κ : AV tau → Mem tau → Option Unit) : Option Unit := match args, m.bx, m.rw with
  | [b0, b1], [], [] => bO (asSl 37 b0) fun l0 => bO (asSl 95 b1) fun l1 => callX (fun n => spec_ExecRun.f n l0 l1) fun t => κ (.agg [.own 0 0, .own 1 0, .int .i64 (t.2.2.1), .int .i64 (t.2.2.2)]) ⟨[], [some ⟨39, t.1, 0⟩, some ⟨82, t.2.1, 0⟩]⟩
  | _, _, _ => none
def E_144 : Env tau := mkE [(0, [(0, .one (.own 37)), (1, .one (.own 95))]), (1, [(0, .one (.own 37)), (1, .one (.own 95)), (4, .one .any)]), (2, [(4, .one .any)]), (3, [(0, .one (.own 37)), (1, .one (.own 95)), (4, .one .any)]), (4, [(0, .one (.own 37)), (1, .one (.own 95)), (4, .one .any), (5, .one .any)]), (5, [(0, .one (.own 37)), (1, .one (.own 95)), (4, .one .any), (5, .one .any), (6, .one (.own 3))]), (6, [(0, .one (.own 37)), (1, .one (.own 95)), (4, .one .any), (5, .one .any), (6, .one (.own 3)), (7, .one .any)]), (7, [(0, .one (.own 37)), (1, .one (.own 95)), (4, .one .any), (5, .one .any), (6, .one (.own 3)), (7, .one .any)]), (8, [(0, .one (.own 37)), (1, .one (.own 95)), (4, .one .any), (5, .one .any), (6, .one (.own 3)), (7, .one .any)]), (9, [(0, .one (.own 37)), (1, .one (.own 95)), (4, .one .any), (5, .one .any), (6, .one (.own 3)), (7, .one .any), (8, .one .any)]), (10, [(0, .one (.own 37)), (1, .one (.own 95)), (4, .one .any), (5, .one .any), (6, .one (.own 3)), (7, .one .any), (8, .one .any)]), (11, [(0, .one (.own 37)), (1, .one (.own 95)), (4, .one .any), (5, .one .any), (6, .one (.own 3)), (7, .one .any), (8, .one .any)]), (12, [(0, .one (.own 37)), (1, .one (.own 95)), (4, .one .any), (5, .one .any), (6, .one (.own 3)), (7, .one .any), (8, .one .any)]), (13, [(4, .one .any), (5, .one .any), (6, .one (.own 3))]), (14, [(4, .one .any), (5, .one .any)]), (15, [(4, .one .any), (5, .one .any)]), (16, [(4, .one .any), (5, .one .any), (6, .one (.own 3))]), (17, [(4, .one .any), (5, .one .any)])] [.agg [.own 39, .own 82, .any, .any]] ⟨0, 0⟩
noncomputable def c_77 (args : List (AV tau)) (m : Mem tau) (κ : AV tau → Mem tau → Option Unit) : Option Unit := match args, m.bx, m.rw with
  | [p0], [some (t0_, [c0_0, c0_1])], [] => bO (asPtr 0 p0) fun _ => bO (asT 172 t0_) fun _ => bO (asSl 5 c0_0) fun s0_0 => bO (asI .i64 c0_1) fun s0_1 => callX (fun n => spec_l3Run.f n s0_0 s0_1) fun t => κ (.tup [.own 0 0, .agg [.own 1 0, .own 2 0, .int .i64 (t.2.2.2.1), .int .i64 (t.2.2.2.2.1)]]) ⟨[some (172, [.sl 5 (s0_0), .int .i64 (t.2.2.2.2.2)])], [some ⟨37, t.1, 0⟩, some ⟨39, t.2.1, 0⟩, some ⟨82, t.2.2.1, 0⟩]⟩
  | _, _, _ => none
def E_77 : Env tau := mkE [(0, [(0, .one .any)]), (1, [(0, .one .any), (3, .one .any)]), (2, [(0, .one .any), (3, .one .any), (4, .one (.own 37))]), (3, [(0, .one .any), (3, .one .any), (4, .one (.own 37)), (5, .one .any)]), (4, [(0, .one .any), (3, .one .any), (4, .one (.own 37)), (5, .one .any), (13, .one .any)]), (5, [(0, .one .any), (3, .one .any), (4, .one (.own 37)), (5, .one .any)]), (6, [(0, .one .any), (3, .one .any), (4, .one (.own 37)), (5, .one .any), (13, .one .any)]), (7, [(0, .one .any), (3, .one .any), (4, .one (.own 37)), (5, .one .any)]), (8, [(0, .one .any), (3, .one .any), (4, .one (.own 37)), (5, .one .any), (13, .one .any)]), (9, [(0, .one .any), (3, .one .any), (4, .one (.own 37)), (5, .one .any)]), (10, [(3, .one .any), (4, .one (.own 37)), (5, .one .any), (13, .one .any)]), (11, [(3, .one .any), (4, .one (.own 37)), (5, .one .any)]), (12, [(3, .one .any), (4, .one (.own 37)), (5, .one .any)])] [.one (.own 37), .agg [.own 39, .own 82, .any, .any]] ⟨1, 0⟩
noncomputable def c_78 (args : List (AV tau)) (m : Mem tau) (κ : AV tau → Mem tau → Option Unit) : Option Unit := match args, m.bx, m.rw with
  | [b0], [], [] => bO (asSl 5 b0) fun l0 => callX (fun n => spec_l15Open.f l0) fun t => κ (.ptr 0 0) ⟨[some (172, [.sl 5 (t.1), .int .i64 (t.2)])], []⟩
  | _, _, _ => none
def E_78 : Env tau := mkE [(0, [(0, .one (.own 5))]), (1, [(0, .one (.own 5))]), (2, [(0, .one (.own 5))]), (3, [(0, .one (.own 5))])] [.one .any] ⟨0, 0⟩
noncomputable def c_17 (args : List (AV tau)) (m : Mem tau) (κ : AV tau → Mem tau → Option Unit) : Option Unit := match args, m.bx, m.rw with
  | [b0], [], [] => bO (asSl 5 b0) fun l0 => callX (fun n => spec_DrawExecFresh.f n l0) fun t => κ (.tup [.own 0 0, .agg [.own 1 0, .own 2 0, .int .i64 (t.2.2.2.1), .int .i64 (t.2.2.2.2)]]) ⟨[], [some ⟨37, t.1, 0⟩, some ⟨39, t.2.1, 0⟩, some ⟨82, t.2.2.1, 0⟩]⟩
  | _, _, _ => none
def E_17 : Env tau := mkE [(0, [(0, .one (.own 5))]), (1, [(0, .one (.own 5)), (3, .one .any)]), (2, [(3, .one .any), (4, .one .any)]), (3, [(3, .one .any), (4, .one .any), (5, .one (.own 37)), (6, .one .any)]), (4, [(3, .one .any), (4, .one .any), (5, .one (.own 37)), (6, .one .any)]), (5, [(3, .one .any), (5, .one (.own 37)), (6, .one .any), (7, .one .any)]), (6, [(3, .one .any), (5, .one (.own 37)), (6, .one .any)])] [.one (.own 37), .agg [.own 39, .own 82, .any, .any]] ⟨0, 0⟩
noncomputable def c_80 (args : List (AV tau)) (m : Mem tau) (κ : AV tau → Mem tau → Option Unit) : Option Unit := match args, m.bx, m.rw with
  | [b0, b1], [], [] => bO (asSl 39 b0) fun l0 => bO (asSl 39 b1) fun l1 => callX (fun n => impl_same_impl_Read.f n l0 l1) fun t => κ (.bool (t)) ⟨[], []⟩
  | _, _, _ => none
def E_80 : Env tau := mkE [(0, [(0, .one (.own 39)), (1, .one (.own 39))]), (1, [(0, .one (.own 39)), (1, .one (.own 39))]), (2, []), (3, [(0, .one (.own 39)), (1, .one (.own 39))]), (4, [(0, .one (.own 39)), (1, .one (.own 39)), (12, .one .any), (13, .one .any)]), (5, [(0, .one (.own 39)), (1, .one (.own 39)), (12, .one .any), (13, .one .any)]), (6, [(0, .one (.own 39)), (1, .one (.own 39)), (5, .one .any), (12, .one .any), (13, .one .any)]), (7, []), (8, [(0, .one (.own 39)), (1, .one (.own 39)), (12, .one .any), (13, .one .any)]), (9, [])] [.one .any] ⟨0, 0⟩
noncomputable def c_81 (args : List (AV tau)) (m : Mem tau) (κ : AV tau → Mem tau → Option Unit) : Option Unit := match args, m.bx, m.rw with
  | [b0, b1], [], [] => bO (asSl 82 b0) fun l0 => bO (asSl 82 b1) fun l1 => callX (fun n => impl_same_impl_Put.f n l0 l1) fun t => κ (.bool (t)) ⟨[], []⟩
  | _, _, _ => none
def E_81 : Env tau := mkE [(0, [(0, .one (.own 82)), (1, .one (.own 82))]), (1, [(0, .one (.own 82)), (1, .one (.own 82))]), (2, []), (3, [(0, .one (.own 82)), (1, .one (.own 82))]), (4, [(0, .one (.own 82)), (1, .one (.own 82)), (12, .one .any), (13, .one .any)]), (5, [(0, .one (.own 82)), (1, .one (.own 82)), (12, .one .any), (13, .one .any)]), (6, [(0, .one (.own 82)), (1, .one (.own 82)), (5, .one .any), (12, .one .any), (13, .one .any)]), (7, []), (8, [(0, .one (.own 82)), (1, .one (.own 82)), (12, .one .any), (13, .one .any)]), (9, [])] [.one .any] ⟨0, 0⟩
noncomputable def c_18 (args : List (AV tau)) (m : Mem tau) (κ : AV tau → Mem tau → Option Unit) : Option Unit := match args, m.bx, m.rw with
  | [.agg [b0, b1, b2, b3], .agg [b4, b5, b6, b7]], [], [] => bO (asSl 39 b0) fun l0_0 => bO (asSl 82 b1) fun l0_1 => bO (asI .i64 b2) fun a0_2 => bO (asI .i64 b3) fun a0_3 => bO (asSl 39 b4) fun l1_0 => bO (asSl 82 b5) fun l1_1 => bO (asI .i64 b6) fun a1_2 => bO (asI .i64 b7) fun a1_3 => callX (fun n => impl_ExecSame.f n l0_0 l0_1 a0_2 a0_3 l1_0 l1_1 a1_2 a1_3) fun t => κ (.bool (t)) ⟨[], []⟩
  | _, _, _ => none
def E_18 : Env tau := mkE [(0, [(0, .agg [.own 39, .own 82, .any, .any]), (1, .agg [.own 39, .own 82, .any, .any])]), (1, [(2, .one .any), (3, .one .any)])] [.one .any] ⟨0, 0⟩
noncomputable def c_19 (args : List (AV tau)) (m : Mem tau) (κ : AV tau → Mem tau → Option Unit) : Option Unit := match args, m.bx, m.rw with
  | [.agg [b0, b1, b2, b3], .agg [b4, b5, b6, b7]], [], [] => bO (asSl 39 b0) fun l0_0 => bO (asSl 82 b1) fun l0_1 => bO (asI .i64 b2) fun a0_2 => bO (asI .i64 b3) fun a0_3 => bO (asSl 39 b4) fun l1_0 => bO (asSl 82 b5) fun l1_1 => bO (asI .i64 b6) fun a1_2 => bO (asI .i64 b7) fun a1_3 => callX (fun n => spec_ExecSame.f n l0_0 l0_1 a0_2 a0_3 l1_0 l1_1 a1_2 a1_3) fun t => κ (.bool (t)) ⟨[], []⟩
  | _, _, _ => none
def E_19 : Env tau := mkE [(0, [(0, .agg [.own 39, .own 82, .any, .any]), (1, .agg [.own 39, .own 82, .any, .any])]), (1, [(2, .one .any), (3, .one .any)]), (2, []), (3, [(2, .one .any), (3, .one .any)]), (4, [(2, .one .any), (3, .one .any), (5, .one .any)]), (5, [(2, .one .any), (3, .one .any), (5, .one .any)]), (6, [(2, .one .any), (3, .one .any), (5, .one .any)]), (7, []), (8, [(2, .one .any), (3, .one .any)]), (9, [(2, .one .any), (3, .one .any), (6, .one .any)]), (10, [(2, .one .any), (3, .one .any), (6, .one .any)]), (11, [(2, .one .any), (3, .one .any), (6, .one .any)]), (12, []), (13, [])] [.one .any] ⟨0, 0⟩
noncomputable def c_122 (args : List (AV tau)) (m : Mem tau) (κ : AV tau → Mem tau → Option Unit) : Option Unit := match args, m.bx, m.rw with
  | [b0, b1, b2], [], [] => bO (asI .i64 b0) fun a0 => bO (asI .i64 b1) fun a1 => bO (asI .i64 b2) fun a2 => callX (fun n => impl_in.f a0 a1 a2) fun t => κ (.bool (t)) ⟨[], []⟩
  | _, _, _ => none
def E_122 : Env tau := mkE [(0, [(0, .one .any), (1, .one .any), (2, .one .any)]), (1, [(0, .one .any), (1, .one .any), (2, .one .any)])] [.one .any] ⟨0, 0⟩
noncomputable def c_82 (args : List (AV tau)) (m : Mem tau) (κ : AV tau → Mem tau → Option Unit) : Option Unit := match args, m.bx, m.rw with
  | [b0], [], [] => bO (asSl 37 b0) fun l0 => callX (fun n => impl_BoxOk.f n l0) fun t => κ (.bool (t)) ⟨[], []⟩
  | _, _, _ => none
def E_82 : Env tau := mkE [(0, [(0, .one (.own 37))]), (1, [(0, .one (.own 37))]), (2, [(0, .one (.own 37)), (5, .one (.own 37)), (6, .one .any), (7, .one .any)]), (3, [(0, .one (.own 37)), (5, .one (.own 37)), (6, .one .any), (7, .one .any)]), (4, [(0, .one (.own 37)), (4, .one .any), (5, .one (.own 37)), (6, .one .any), (7, .one .any)]), (5, []), (6, [(0, .one (.own 37)), (5, .one (.own 37)), (6, .one .any), (7, .one .any)]), (7, [(0, .one (.own 37))])] [.one .any] ⟨0, 0⟩
noncomputable def c_83 (args : List (AV tau)) (m : Mem tau) (κ : AV tau → Mem tau → Option Unit) : Option Unit := match args, m.bx, m.rw with
  | [.agg [b0, b1, b2, b3]], [], [] => bO (asSl 39 b0) fun l0_0 => bO (asSl 82 b1) fun l0_1 => bO (asI .i64 b2) fun a0_2 => bO (asI .i64 b3) fun a0_3 => callX (fun n => impl_ExecOk.f n l0_0 l0_1 a0_2 a0_3) fun t => κ (.bool (t)) ⟨[], []⟩
  | _, _, _ => none
def E_83 : Env tau := mkE [(0, [(0, .agg [.own 39, .own 82, .any, .any])]), (1, [(1, .one .any)]), (2, []), (3, [(1, .one .any)]), (4, [(1, .one .any), (3, .one .any), (4, .one .any)]), (5, [(1, .one .any), (3, .one .any), (4, .one .any), (47, .one (.own 39)), (48, .one .any), (49, .one .any)]), (6, [(1, .one .any), (3, .one .any), (4, .one .any), (47, .one (.own 39)), (48, .one .any), (49, .one .any)]), (7, [(1, .one .any), (3, .one .any), (4, .one .any), (6, .one .any), (47, .one (.own 39)), (48, .one .any), (49, .one .any)]), (8, []), (9, [(1, .one .any), (3, .one .any), (4, .one .any), (6, .one .any), (47, .one (.own 39)), (48, .one .any), (49, .one .any)]), (10, [(1, .one .any), (3, .one .any), (4, .one .any), (47, .one (.own 39)), (48, .one .any), (49, .one .any)]), (11, [(1, .one .any), (4, .one .any)]), (12, [(4, .one .any), (74, .one (.own 82)), (75, .one .any), (76, .one .any)]), (13, [(4, .one .any), (74, .one (.own 82)), (75, .one .any), (76, .one .any)]), (14, [(4, .one .any), (8, .one .any), (74, .one (.own 82)), (75, .one .any), (76, .one .any)]), (15, []), (16, [(4, .one .any), (8, .one .any), (74, .one (.own 82)), (75, .one .any), (76, .one .any)]), (17, [(4, .one .any), (74, .one (.own 82)), (75, .one .any), (76, .one .any)]), (18, [])] [.one .any] ⟨0, 0⟩
noncomputable def c_20 (args : List (AV tau)) (m : Mem tau) (κ : AV tau → Mem tau → Option Unit) : Option Unit := match args, m.bx, m.rw with
  | [b0, .agg [b1, b2, b3, b4]], [], [] => bO (asSl 37 b0) fun l0 => bO (asSl 39 b1) fun l1_0 => bO (asSl 82 b2) fun l1_1 => bO (asI .i64 b3) fun a1_2 => bO (asI .i64 b4) fun a1_3 => callX (fun n => impl_ExecFresh.f n l0 l1_0 l1_1 a1_2 a1_3) fun t => κ (.bool (t)) ⟨[], []⟩
  | _, _, _ => none
def E_20 : Env tau := mkE [(0, [(0, .one (.own 37)), (1, .agg [.own 39, .own 82, .any, .any])]), (1, [(0, .one (.own 37)), (3, .one .any)]), (2, []), (3, [(0, .one (.own 37)), (3, .one .any)]), (4, [(0, .one (.own 37)), (16, .one (.own 39)), (17, .one .any), (18, .one .any)]), (5, [(0, .one (.own 37)), (16, .one (.own 39)), (17, .one .any), (18, .one .any)]), (6, [(0, .one (.own 37)), (6, .one .any), (16, .one (.own 39)), (17, .one .any), (18, .one .any)]), (7, []), (8, [(0, .one (.own 37)), (16, .one (.own 39)), (17, .one .any), (18, .one .any)]), (9, [])] [.one .any] ⟨0, 0⟩
noncomputable def c_23 (args : List (AV tau)) (m : Mem tau) (κ : AV tau → Mem tau → Option Unit) : Option Unit := match args, m.bx, m.rw with
  | [.agg [b0, b1, b2, b3]], [], [] => bO (asSl 39 b0) fun l0_0 => bO (asSl 82 b1) fun l0_1 => bO (asI .i64 b2) fun a0_2 => bO (asI .i64 b3) fun a0_3 => callX (fun n => spec_ExecOk.f n l0_0 l0_1 a0_2 a0_3) fun t => κ (.bool (t)) ⟨[], []⟩
  | _, _, _ => none
def E_23 : Env tau := mkE [(0, [(0, .agg [.own 39, .own 82, .any, .any])]), (1, [(1, .one .any)]), (2, []), (3, [(1, .one .any)]), (4, [(1, .one .any), (3, .one .any)]), (5, [(1, .one .any), (3, .one .any)]), (6, [(1, .one .any), (3, .one .any)]), (7, []), (8, [(1, .one .any)]), (9, [(1, .one .any), (4, .one .any)]), (10, [(1, .one .any), (4, .one .any)]), (11, [(1, .one .any), (4, .one .any)]), (12, []), (13, [])] [.one .any] ⟨0, 0⟩
noncomputable def c_21 (args : List (AV tau)) (m : Mem tau) (κ : AV tau → Mem tau → Option Unit) : Option Unit := match args, m.bx, m.rw with
  | [b0, .agg [b1, b2, b3, b4]], [], [] => bO (asSl 37 b0) fun l0 => bO (asSl 39 b1) fun l1_0 => bO (asSl 82 b2) fun l1_1 => bO (asI .i64 b3) fun a1_2 => bO (asI .i64 b4) fun a1_3 => callX (fun n => spec_ExecFresh.f n l0 l1_0 l1_1 a1_2 a1_3) fun t => κ (.bool (t)) ⟨[], []⟩
  | _, _, _ => none
def E_21 : Env tau := mkE [(0, [(0, .one (.own 37)), (1, .agg [.own 39, .own 82, .any, .any])]), (1, [(0, .one (.own 37)), (3, .one .any)]), (2, []), (3, [(0, .one (.own 37)), (3, .one .any)]), (4, [(0, .one (.own 37)), (3, .one .any), (5, .one .any)]), (5, [(0, .one (.own 37)), (3, .one .any), (5, .one .any)]), (6, [(0, .one (.own 37)), (3, .one .any), (5, .one .any)]), (7, []), (8, [])] [.one .any] ⟨0, 0⟩
noncomputable def c_16 (args : List (AV tau)) (m : Mem tau) (κ : AV tau → Mem tau → Option Unit) : Option Unit := match args, m.bx, m.rw with
  | [b0], [], [] => bO (asSl 5 b0) fun l0 => callX (fun n => spec_DrawExecSame.f n l0) fun t => κ (.tup [.agg [.own 0 0, .own 1 0, .int .i64 (t.2.2.1), .int .i64 (t.2.2.2.1)], .agg [.own 2 0, .own 3 0, .int .i64 (t.2.2.2.2.2.2.1), .int .i64 (t.2.2.2.2.2.2.2)]]) ⟨[], [some ⟨39, t.1, 0⟩, some ⟨82, t.2.1, 0⟩, some ⟨39, t.2.2.2.2.1, 0⟩, some ⟨82, t.2.2.2.2.2.1, 0⟩]⟩
  | _, _, _ => none
def E_16 : Env tau := mkE [(0, [(0, .one (.own 5))]), (1, [(0, .one (.own 5)), (2, .one .any), (3, .one .any)]), (2, [(0, .one (.own 5)), (2, .one .any), (3, .one .any), (5, .one .any)]), (3, [(0, .one (.own 5)), (2, .one .any), (3, .one .any), (5, .one .any), (7, .one .any)]), (4, [(2, .one .any), (3, .one .any), (5, .one .any), (7, .one .any)]), (5, [(2, .one .any), (3, .one .any), (5, .one .any), (7, .one .any)])] [.agg [.own 39, .own 82, .any, .any], .agg [.own 39, .own 82, .any, .any]] ⟨0, 0⟩
noncomputable def c_3 (args : List (AV tau)) (m : Mem tau) (κ : AV tau → Mem tau → Option Unit) : Option Unit := match args, m.bx, m.rw with
  | [b0], [], [] => bO (asSl 5 b0) fun l0 => callX (fun n => laws_FnExecSame.f n l0) fun t => κ (.bool (t)) ⟨[], []⟩
  | _, _, _ => none
def E_3 : Env tau := mkE [(0, [(0, .one (.own 5))]), (1, [(0, .one (.own 5))]), (2, []), (3, [(0, .one (.own 5))]), (4, [(0, .one (.own 5)), (3, .one .any), (4, .one .any)]), (5, [(3, .one .any), (4, .one .any), (5, .one (.own 37)), (6, .one .any)]), (6, []), (7, [(5, .one (.own 37)), (6, .one .any)]), (8, [(5, .one (.own 37)), (6, .one .any), (7, .one .any)]), (9, [(5, .one (.own 37)), (6, .one .any), (7, .one .any)]), (10, [(5, .one (.own 37)), (6, .one .any), (7, .one .any)]), (11, [(5, .one (.own 37)), (6, .one .any), (7, .one .any), (8, .one .any)]), (12, [(5, .one (.own 37)), (6, .one .any), (7, .one .any), (8, .one .any), (9, .one .any)]), (13, [(5, .one (.own 37)), (6, .one .any), (7, .one .any), (8, .one .any), (9, .one .any)]), (14, [(5, .one (.own 37)), (6, .one .any), (7, .one .any), (8, .one .any), (9, .one .any)]), (15, [(7, .one .any), (8, .one .any)])] [.one .any] ⟨0, 0⟩
end Go.Proofs.Ytkkmhlfpombgfaa.PFnExecSame