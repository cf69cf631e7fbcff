/- The machine's texts of FnCertFold (definitions, table, contracts). Conditions: none. -/
import Derived.Test.YtkkmhlfpombgfaaProg
import Derived.Test.YtkkmhlfpombgfaaSWFnCertFold
import Derived.Test.YtkkmhlfpombgfaaAm38
import Derived.RowKit
import Derived.KernelRfl
set_option linter.unusedVariables false
set_option maxRecDepth 100000
namespace Go.Proofs.Ytkkmhlfpombgfaa.PFnCertFold
open Go.RowKit Go.Proofs.YtkkmhlfpombgfaaW.PrintWords Go.Proofs.YtkkmhlfpombgfaaW.PrintLast Go.Proofs.YtkkmhlfpombgfaaW.PrintMore
def errW : Option Int → Value
  | none => .nilIface
  | some c => .iface 0 (.int .i64 c)
structure S39 where
  f0 : Int
  f1 : Int
def z39 : S39 := ⟨(0 : Int), (0 : Int)⟩
def rd_T39 (xs : List S39) (i : Int) : S39 := xs.getD i.toNat z39
structure S82 where
  f0 : Int
  f1 : Int
def z82 : S82 := ⟨(0 : Int), (0 : Int)⟩
def rd_T82 (xs : List S82) (i : Int) : S82 := xs.getD i.toNat z82
structure S37 where
  f0 : Int
  f1 : Int
def z37 : S37 := ⟨(0 : Int), (0 : Int)⟩
def rd_T37 (xs : List S37) (i : Int) : S37 := xs.getD i.toNat z37
structure S75 where
  f0 : Int
  f1 : Int
def z75 : S75 := ⟨(0 : Int), (0 : Int)⟩
def rd_T75 (xs : List S75) (i : Int) : S75 := xs.getD i.toNat z75
structure S84 where
  f0 : S75
  f1 : Int
  f2 : Int
def z84 : S84 := ⟨z75, (0 : Int), (0 : Int)⟩
def rd_T84 (xs : List S84) (i : Int) : S84 := xs.getD i.toNat z84
structure S95 where
  f0 : Int
  f1 : Int
  f2 : Int
  f3 : Int
def z95 : S95 := ⟨(0 : Int), (0 : Int), (0 : Int), (0 : Int)⟩
def rd_T95 (xs : List S95) (i : Int) : S95 := xs.getD i.toNat z95
def rd_L9 (xs : List (List S39)) (i : Int) : (List S39) := xs.getD i.toNat ([] : List S39)
def rd_L10 (xs : List (List S82)) (i : Int) : (List S82) := xs.getD i.toNat ([] : List S82)
structure S26 where
  f0 : (List S39)
  f1 : (List S82)
  f2 : Int
  f3 : Int
def z26 : S26 := ⟨([] : List S39), ([] : List S82), (0 : Int), (0 : Int)⟩
def rd_T26 (xs : List S26) (i : Int) : S26 := xs.getD i.toNat z26
structure S77 where
  f0 : Bool
  f1 : S75
  f2 : S26
def z77 : S77 := ⟨false, z75, z26⟩
def rd_T77 (xs : List S77) (i : Int) : S77 := xs.getD i.toNat z77
def spec_l15Open.f (l0 : List Int) : Option (List Int × Int) := if (l0.length : Int) > 2000 then (if 2000 ≤ (l0.length : Int) then (some (l0.take 2000, 0)) else (none)) else (some (l0, 0))
mutual
def spec_ExecSame.j0 : Nat → Bool → List (S39) → List (S82) → Int → Int → List (S39) → List (S82) → Int → Int → Option (Bool)
  | 0, _, _, _, _, _, _, _, _, _ => none
  | k + 1, x36, x105000, x105001, x105002, x105003, x106000, x106001, x106002, x106003 => if x36 = true then (some false) else (spec_ExecSame.l0 k 0 x105000 x105001 x105002 x105003 x106000 x106001 x106002 x106003)
def spec_ExecSame.l0 : Nat → Int → List (S39) → List (S82) → Int → Int → List (S39) → List (S82) → Int → Int → Option (Bool)
  | 0, _, _, _, _, _, _, _, _, _ => none
  | k + 1, x5, x105000, x105001, x105002, x105003, x106000, x106001, x106002, x106003 => if x5 < (x105000.length : Int) then (if 0 ≤ x5 then (if x5 < (x106000.length : Int) then (if (!(((rd_T39 x105000 x5).f0) == ((rd_T39 x106000 x5).f0)) || (!(((rd_T39 x105000 x5).f1) == ((rd_T39 x106000 x5).f1)))) = true then (some false) else (spec_ExecSame.l0 k (wrap64 (x5 + 1)) x105000 x105001 x105002 x105003 x106000 x106001 x106002 x106003)) else (none)) else (none)) else (spec_ExecSame.l1 k 0 x105000 x105001 x105002 x105003 x106000 x106001 x106002 x106003)
def spec_ExecSame.l1 : Nat → Int → List (S39) → List (S82) → Int → Int → List (S39) → List (S82) → Int → Int → Option (Bool)
  | 0, _, _, _, _, _, _, _, _, _ => none
  | k + 1, x6, x105000, x105001, x105002, x105003, x106000, x106001, x106002, x106003 => if x6 < (x105001.length : Int) then (if 0 ≤ x6 then (if x6 < (x106001.length : Int) then (if (!(((rd_T82 x105001 x6).f0) == ((rd_T82 x106001 x6).f0)) || (!(((rd_T82 x105001 x6).f1) == ((rd_T82 x106001 x6).f1)))) = true then (some false) else (spec_ExecSame.l1 k (wrap64 (x6 + 1)) x105000 x105001 x105002 x105003 x106000 x106001 x106002 x106003)) else (none)) else (none)) else (some true)
end
def spec_ExecSame.f (k : Nat) (l0_0 : List (S39)) (l0_1 : List (S82)) (a0_2 : Int) (a0_3 : Int) (l1_0 : List (S39)) (l1_1 : List (S82)) (a1_2 : Int) (a1_3 : Int) : Option (Bool) := if a0_2 = a1_2 then (if a0_3 = a1_3 then (if (l0_0.length : Int) = (l1_0.length : Int) then (spec_ExecSame.j0 k ((l0_1.length : Int) != (l1_1.length : Int)) l0_0 l0_1 a0_2 a0_3 l1_0 l1_1 a1_2 a1_3) else (spec_ExecSame.j0 k true l0_0 l0_1 a0_2 a0_3 l1_0 l1_1 a1_2 a1_3)) else (spec_ExecSame.j0 k true l0_0 l0_1 a0_2 a0_3 l1_0 l1_1 a1_2 a1_3)) else (spec_ExecSame.j0 k true l0_0 l0_1 a0_2 a0_3 l1_0 l1_1 a1_2 a1_3)
def spec_l1Num.f (a0 : Int) : Option (Bool) := if a0 ≥ (-1000000) then (some (decide (a0 ≤ 1000000))) else (some false)
def spec_l2Box.f (a0 : Int) : Option (Bool) := if a0 ≥ 0 then (some (decide (a0 < 4))) else (some false)
def spec_l3Saw.l0 : Nat → List (S39) → Int → Int → Option (Bool)
  | 0, _, _, _ => none
  | k + 1, x0, x1, x5 => if x5 < (x0.length : Int) then (if 0 ≤ x5 then (if ((rd_T39 x0 x5).f0) = x1 then (some true) else (spec_l3Saw.l0 k x0 x1 (wrap64 (x5 + 1)))) else (none)) else (some false)
def spec_l3Saw.f (k : Nat) (l0 : List (S39)) (a1 : Int) : Option (Bool) := spec_l3Saw.l0 k l0 a1 0
def spec_l3At.l0 : Nat → List (S82) → Int → Int → Option (Int)
  | 0, _, _, _ => none
  | k + 1, x0, x1, x5 => if x5 < (x0.length : Int) then (if 0 ≤ x5 then (if ((rd_T82 x0 x5).f0) = x1 then (some x5) else (spec_l3At.l0 k x0 x1 (wrap64 (x5 + 1)))) else (none)) else (some (-1))
def spec_l3At.f (k : Nat) (l0 : List (S82)) (a1 : Int) : Option (Int) := spec_l3At.l0 k l0 a1 0
mutual
def spec_ExecOk.j0 : Nat → Bool → List (S39) → List (S82) → Int → Int → Option (Bool)
  | 0, _, _, _, _, _ => none
  | k + 1, x45, x113000, x113001, x113002, x113003 => if x45 = true then (some false) else (spec_ExecOk.l0 k 0 x113000 x113001 x113002 x113003)
def spec_ExecOk.l0 : Nat → Int → List (S39) → List (S82) → Int → Int → Option (Bool)
  | 0, _, _, _, _, _ => none
  | k + 1, x3, x113000, x113001, x113002, x113003 => if x3 < (x113000.length : Int) then (if 0 ≤ x3 then ((spec_l2Box.f ((rd_T39 x113000 x3).f0)).bind fun t115 => (if t115 = true then (if ((rd_T39 x113000 x3).f1) < 0 then (some false) else (if ((rd_T39 x113000 x3).f1) > 1000000 then (some false) else (if x3 ≤ (x113000.length : Int) then ((spec_l3Saw.f k (x113000.take (x3 : Int).toNat) ((rd_T39 x113000 x3).f0)).bind fun t123 => (if t123 = true then (some false) else (spec_ExecOk.l0 k (wrap64 (x3 + 1)) x113000 x113001 x113002 x113003))) else (none)))) else (some false))) else (none)) else (spec_ExecOk.l1 k 0 x113000 x113001 x113002 x113003)
def spec_ExecOk.l1 : Nat → Int → List (S39) → List (S82) → Int → Int → Option (Bool)
  | 0, _, _, _, _, _ => none
  | k + 1, x4, x113000, x113001, x113002, x113003 => if x4 < (x113001.length : Int) then (if 0 ≤ x4 then ((spec_l2Box.f ((rd_T82 x113001 x4).f0)).bind fun t125 => (if t125 = true then ((spec_l1Num.f ((rd_T82 x113001 x4).f1)).bind fun t127 => (if t127 = true then (if x4 ≤ (x113001.length : Int) then ((spec_l3At.f k (x113001.take (x4 : Int).toNat) ((rd_T82 x113001 x4).f0)).bind fun t133 => (if t133 ≥ 0 then (some false) else (spec_ExecOk.l1 k (wrap64 (x4 + 1)) x113000 x113001 x113002 x113003))) else (none)) else (some false))) else (some false))) else (none)) else (some true)
end
def spec_ExecOk.f (k : Nat) (l0_0 : List (S39)) (l0_1 : List (S82)) (a0_2 : Int) (a0_3 : Int) : Option (Bool) := if a0_3 < 0 then (spec_ExecOk.j0 k true l0_0 l0_1 a0_2 a0_3) else (if a0_3 > 3 then (spec_ExecOk.j0 k true l0_0 l0_1 a0_2 a0_3) else ((spec_l1Num.f a0_2).bind fun t113 => (if t113 = true then (if a0_3 = 0 then (if a0_3 = 3 then (spec_ExecOk.j0 k (decide ((l0_0.length : Int) > 0)) l0_0 l0_1 a0_2 a0_3) else (spec_ExecOk.j0 k false l0_0 l0_1 a0_2 a0_3)) else (if a0_2 = 0 then (if (l0_1.length : Int) > 0 then (spec_ExecOk.j0 k true l0_0 l0_1 a0_2 a0_3) else (if a0_3 = 3 then (spec_ExecOk.j0 k (decide ((l0_0.length : Int) > 0)) l0_0 l0_1 a0_2 a0_3) else (spec_ExecOk.j0 k false l0_0 l0_1 a0_2 a0_3))) else (spec_ExecOk.j0 k true l0_0 l0_1 a0_2 a0_3))) else (spec_ExecOk.j0 k true l0_0 l0_1 a0_2 a0_3))))
def spec_l5Req.f (a0_0 : Int) (a0_1 : Int) : Option (Bool) := if a0_0 ≥ 0 then (if a0_0 < 3 then (if a0_1 ≥ 1 then (some (decide (a0_1 ≤ 1000))) else (some false)) else (some false)) else (some false)
def spec_CertEntry.f (k : Nat) (a0_0 : Bool) (a0_1 : Int) (a0_2 : Int) (l0_3 : List (S39)) (l0_4 : List (S82)) (a0_5 : Int) (a0_6 : Int) : Option (Bool) := if a0_0 = true then (if (a0_1 == 0 && (a0_2 == 0)) = true then ((spec_ExecSame.f k l0_3 l0_4 a0_5 a0_6 ([] : List (S39)) ([] : List (S82)) 0 0).bind fun t136 => (some t136)) else (some false)) else ((spec_l5Req.f a0_1 a0_2).bind fun t137 => (if t137 = true then ((spec_ExecOk.f k l0_3 l0_4 a0_5 a0_6).bind fun t138 => (if t138 = true then (some (a0_6 != 3)) else (some false))) else (some false)))
def spec_l15Rd_pick.j0 : Nat → Int → Bool → List Int → Int → Option (Int × Int)
  | 0, _, _, _, _ => none
  | k + 1, x1, x24, x1000, x1001 => if x24 = true then (some (0, x1001)) else (if (wrap64 (x1001 - 1)) < (x1000.length : Int) then (if 0 ≤ (wrap64 (x1001 - 1)) then (if x1 = 0 then (none) else (some (Int.tmod (wrap64 (rd x1000 (wrap64 (x1001 - 1)))) x1, x1001))) else (none)) else (if (x1000.length : Int) = 0 then (none) else (if 0 ≤ (Int.tmod (wrap64 (x1001 - 1)) (x1000.length : Int)) then (if (Int.tmod (wrap64 (x1001 - 1)) (x1000.length : Int)) < (x1000.length : Int) then (if 0 ≤ (Int.tmod (wrap64 ((wrap64 ((wrap64 (x1001 - 1)) * 7)) + 3)) (x1000.length : Int)) then (if (Int.tmod (wrap64 ((wrap64 ((wrap64 (x1001 - 1)) * 7)) + 3)) (x1000.length : Int)) < (x1000.length : Int) then (if x1 = 0 then (none) else (some (Int.tmod (Go.bits .xor .i64 (wrap64 ((wrap64 ((wrap64 ((wrap64 ((wrap64 (rd x1000 (Int.tmod (wrap64 (x1001 - 1)) (x1000.length : Int)))) * 131)) + (wrap64 ((wrap64 (rd x1000 (Int.tmod (wrap64 ((wrap64 ((wrap64 (x1001 - 1)) * 7)) + 3)) (x1000.length : Int)))) * 1117)))) + (wrap64 ((wrap64 (x1001 - 1)) * 29)))) + (wrap64 ((wrap64 (Int.tdiv (wrap64 (x1001 - 1)) (x1000.length : Int))) * 53)))) (wrap64 (Int.tdiv (wrap64 ((wrap64 ((wrap64 ((wrap64 ((wrap64 (rd x1000 (Int.tmod (wrap64 (x1001 - 1)) (x1000.length : Int)))) * 131)) + (wrap64 ((wrap64 (rd x1000 (Int.tmod (wrap64 ((wrap64 ((wrap64 (x1001 - 1)) * 7)) + 3)) (x1000.length : Int)))) * 1117)))) + (wrap64 ((wrap64 (x1001 - 1)) * 29)))) + (wrap64 ((wrap64 (Int.tdiv (wrap64 (x1001 - 1)) (x1000.length : Int))) * 53)))) 64))) x1, x1001))) else (none)) else (none)) else (none)) else (none))))
def spec_l15Rd_pick.f (k : Nat) (s0_0 : List Int) (s0_1 : Int) (a1 : Int) : Option (Int × Int) := if a1 < 1 then (spec_l15Rd_pick.j0 k a1 true s0_0 (wrap64 (s0_1 + 1))) else (spec_l15Rd_pick.j0 k a1 ((s0_0.length : Int) == 0) s0_0 (wrap64 (s0_1 + 1)))
def spec_BoxOpen.f  : Option ((List (S37))) := if 4 ≤ 17592186044416 then (some (List.replicate 4 z37)) else (none)
def spec_CertOpen.f  : Option (Int × (List (S37)) × (List (S84))) := (spec_BoxOpen.f).bind fun t146 => (some (0, t146, ([] : List (S84))))
def spec_BoxOk.l0 : Nat → List (S37) → Int → Option (Bool)
  | 0, _, _ => none
  | k + 1, x0, x3 => if x3 < (x0.length : Int) then (if 0 ≤ x3 then (if ((rd_T37 x0 x3).f0) < 0 then (some false) else (if ((rd_T37 x0 x3).f0) > 1000000 then (some false) else ((spec_l1Num.f ((rd_T37 x0 x3).f1)).bind fun t152 => (if t152 = true then (spec_BoxOk.l0 k x0 (wrap64 (x3 + 1))) else (some false))))) else (none)) else (some true)
def spec_BoxOk.f (k : Nat) (l0 : List (S37)) : Option (Bool) := if (l0.length : Int) = 4 then (spec_BoxOk.l0 k l0 0) else (some false)
mutual
def spec_ExecFresh.j0 : Nat → List (S37) → Bool → List (S39) → List (S82) → Int → Int → Option (Bool)
  | 0, _, _, _, _, _, _ => none
  | k + 1, x0, x13, x154000, x154001, x154002, x154003 => if x13 = true then (some false) else (spec_ExecFresh.l0 k x0 0 x154000 x154001 x154002 x154003)
def spec_ExecFresh.l0 : Nat → List (S37) → Int → List (S39) → List (S82) → Int → Int → Option (Bool)
  | 0, _, _, _, _, _, _ => none
  | k + 1, x0, x5, x154000, x154001, x154002, x154003 => if x5 < (x154000.length : Int) then (if 0 ≤ x5 then (if 0 ≤ ((rd_T39 x154000 x5).f0) then (if ((rd_T39 x154000 x5).f0) < (x0.length : Int) then (if ((rd_T37 x0 ((rd_T39 x154000 x5).f0)).f0) = ((rd_T39 x154000 x5).f1) then (spec_ExecFresh.l0 k x0 (wrap64 (x5 + 1)) x154000 x154001 x154002 x154003) else (some false)) else (none)) else (none)) else (none)) else (some true)
end
def spec_ExecFresh.f (k : Nat) (l0 : List (S37)) (l1_0 : List (S39)) (l1_1 : List (S82)) (a1_2 : Int) (a1_3 : Int) : Option (Bool) := (spec_BoxOk.f k l0).bind fun t154 => (if t154 = true then ((spec_ExecOk.f k l1_0 l1_1 a1_2 a1_3).bind fun t155 => (spec_ExecFresh.j0 k l0 (!t155) l1_0 l1_1 a1_2 a1_3)) else (spec_ExecFresh.j0 k l0 true l1_0 l1_1 a1_2 a1_3))
def spec_l1Min.f (a0 : Int) (a1 : Int) : Option (Int) := if a0 < a1 then (some a0) else (some a1)
def spec_l3Do.l0 : Nat → List (S37) → Int → List (S39) → List (S82) → Int → Int → Option ((List (S37)))
  | 0, _, _, _, _, _, _ => none
  | k + 1, x0, x5, x160000, x160001, x160002, x160003 => if x5 < (x160001.length : Int) then (if 0 ≤ x5 then (if 0 ≤ ((rd_T82 x160001 x5).f0) then (if ((rd_T82 x160001 x5).f0) < (x0.length : Int) then ((spec_l1Min.f 1000000 (wrap64 (((rd_T37 x0 ((rd_T82 x160001 x5).f0)).f0) + 1))).bind fun t162 => (spec_l3Do.l0 k (x0.set (((rd_T82 x160001 x5).f0) : Int).toNat (⟨t162, (rd_T82 x160001 x5).f1⟩ : S37)) (wrap64 (x5 + 1)) x160000 x160001 x160002 x160003)) else (none)) else (none)) else (none)) else (some x0)
def spec_l3Do.f (k : Nat) (l0 : List (S37)) (l1_0 : List (S39)) (l1_1 : List (S82)) (a1_2 : Int) (a1_3 : Int) : Option ((List (S37))) := spec_l3Do.l0 k l0 0 l1_0 l1_1 a1_2 a1_3
def spec_l5Last.l0 : Nat → Int → Int → Int → List (S37) → List (S84) → Option (Int × Int × Int × Int × Bool)
  | 0, _, _, _, _, _ => none
  | k + 1, x1, x6, x166000, x166001, x166002 => if x6 < (x166002.length : Int) then (if 0 ≤ x6 then (if ((rd_T84 x166002 x6).f0.f0) = x1 then (some ((rd_T84 x166002 x6).f0.f0, (rd_T84 x166002 x6).f0.f1, (rd_T84 x166002 x6).f1, (rd_T84 x166002 x6).f2, true)) else (spec_l5Last.l0 k x1 (wrap64 (x6 + 1)) x166000 x166001 x166002)) else (none)) else (some (0, 0, 0, 0, false))
def spec_l5Last.f (k : Nat) (a0_0 : Int) (l0_1 : List (S37)) (l0_2 : List (S84)) (a1 : Int) : Option (Int × Int × Int × Int × Bool) := spec_l5Last.l0 k a1 0 a0_0 l0_1 l0_2
mutual
def spec_l5Put.l0 : Nat → List (S84) → List (S84) → Bool → Int → Int → Int → Int → Int → Option ((List (S84)))
  | 0, _, _, _, _, _, _, _, _ => none
  | k + 1, x0, x5, x6, x7, x170000, x170001, x170002, x170003 => if x7 < (x0.length : Int) then (if x6 = true then (spec_l5Put.j1 k x0 x5 x6 x7 false x170000 x170001 x170002 x170003) else (if 0 ≤ x7 then (spec_l5Put.j1 k x0 x5 x6 x7 (decide (((rd_T84 x0 x7).f0.f0) ≥ x170000)) x170000 x170001 x170002 x170003) else (none))) else (if x6 = true then (some x5) else (if x5.length < 4398046511104 then (some (x5 ++ [(⟨(⟨x170000, x170001⟩ : S75), x170002, x170003⟩ : S84)])) else (none)))
def spec_l5Put.j1 : Nat → List (S84) → List (S84) → Bool → Int → Bool → Int → Int → Int → Int → Option ((List (S84)))
  | 0, _, _, _, _, _, _, _, _, _ => none
  | k + 1, x0, x5, x6, x7, x28, x170000, x170001, x170002, x170003 => if x28 = true then (if x5.length < 4398046511104 then ((some (x5 ++ [(⟨(⟨x170000, x170001⟩ : S75), x170002, x170003⟩ : S84)] : List (S84))).bind fun y177 => (if 0 ≤ x7 then (if x7 < (x0.length : Int) then (if ((rd_T84 x0 x7).f0.f0) = x170000 then (spec_l5Put.l0 k x0 y177 true (wrap64 (x7 + 1)) x170000 x170001 x170002 x170003) else (if y177.length < 4398046511104 then (spec_l5Put.l0 k x0 (y177 ++ [(⟨(⟨(rd_T84 x0 x7).f0.f0, (rd_T84 x0 x7).f0.f1⟩ : S75), (rd_T84 x0 x7).f1, (rd_T84 x0 x7).f2⟩ : S84)]) true (wrap64 (x7 + 1)) x170000 x170001 x170002 x170003) else (none))) else (none)) else (none))) else (none)) else (if 0 ≤ x7 then (if x7 < (x0.length : Int) then (if ((rd_T84 x0 x7).f0.f0) = x170000 then (spec_l5Put.l0 k x0 x5 x6 (wrap64 (x7 + 1)) x170000 x170001 x170002 x170003) else (if x5.length < 4398046511104 then (spec_l5Put.l0 k x0 (x5 ++ [(⟨(⟨(rd_T84 x0 x7).f0.f0, (rd_T84 x0 x7).f0.f1⟩ : S75), (rd_T84 x0 x7).f1, (rd_T84 x0 x7).f2⟩ : S84)]) x6 (wrap64 (x7 + 1)) x170000 x170001 x170002 x170003) else (none))) else (none)) else (none))
end
def spec_l5Put.f (k : Nat) (l0 : List (S84)) (a1_0 : Int) (a1_1 : Int) (a1_2 : Int) (a1_3 : Int) : Option ((List (S84))) := spec_l5Put.l0 k l0 (([] : List (S84))) false 0 a1_0 a1_1 a1_2 a1_3
mutual
def spec_l5Apply.j1 : Nat → Int → List (S37) → List (S84) → Bool → Int → Int → List (S39) → List (S82) → Int → Int → Option (Int × (List (S37)) × (List (S84)) × Int)
  | 0, _, _, _, _, _, _, _, _, _, _ => none
  | k + 1, x191000, x191001, x191002, x192000, x192001, x192002, x192003, x192004, x192005, x192006 => (spec_ExecFresh.f k x191001 x192003 x192004 x192005 x192006).bind fun t200 => (if t200 = true then (spec_l5Apply.j2 k x191000 x191001 x191002 x192000 x192001 x192002 x192003 x192004 x192005 x192006 x192001 x192002 2 0) else (spec_l5Apply.j2 k x191000 x191001 x191002 x192000 x192001 x192002 x192003 x192004 x192005 x192006 x192001 x192002 1 0))
def spec_l5Apply.j2 : Nat → Int → List (S37) → List (S84) → Bool → Int → Int → List (S39) → List (S82) → Int → Int → Int → Int → Int → Int → Option (Int × (List (S37)) × (List (S84)) × Int)
  | 0, _, _, _, _, _, _, _, _, _, _, _, _, _, _ => none
  | k + 1, x191000, x191001, x191002, x192000, x192001, x192002, x192003, x192004, x192005, x192006, x200000, x200001, x200002, x200003 => if x200002 = 2 then (spec_l5Apply.j3 k (x192006 == 0) x191000 x191001 x191002 x192000 x192001 x192002 x192003 x192004 x192005 x192006 x200000 x200001 x200002 x200003) else (spec_l5Apply.j3 k false x191000 x191001 x191002 x192000 x192001 x192002 x192003 x192004 x192005 x192006 x200000 x200001 x200002 x200003)
def spec_l5Apply.j3 : Nat → Bool → Int → List (S37) → List (S84) → Bool → Int → Int → List (S39) → List (S82) → Int → Int → Int → Int → Int → Int → Option (Int × (List (S37)) × (List (S84)) × Int)
  | 0, _, _, _, _, _, _, _, _, _, _, _, _, _, _, _ => none
  | k + 1, x63, x191000, x191001, x191002, x192000, x192001, x192002, x192003, x192004, x192005, x192006, x200000, x200001, x200002, x200003 => if x63 = true then ((spec_l3Do.f k x191001 x192003 x192004 x192005 x192006).bind fun t201 => ((spec_l5Put.f k x191002 x200000 x200001 0 x192005).bind fun t204 => (some (x191000, t201, t204, 0)))) else ((spec_l5Put.f k x191002 x200000 x200001 x200002 x200003).bind fun t207 => (some (x191000, x191001, t207, x200002)))
def spec_l5Apply.j0 : Nat → Bool → Bool → Int → List (S37) → List (S84) → Bool → Int → Int → List (S39) → List (S82) → Int → Int → Int → Int → Int → Int → Option (Int × (List (S37)) × (List (S84)) × Int)
  | 0, _, _, _, _, _, _, _, _, _, _, _, _, _, _, _, _ => none
  | k + 1, x7, x24, x191000, x191001, x191002, x192000, x192001, x192002, x192003, x192004, x192005, x192006, x199000, x199001, x199002, x199003 => if x24 = true then (some (x191000, x191001, x191002, 3)) else (if x7 = true then (if x199001 > x192002 then (some (x191000, x191001, x191002, 4)) else (spec_l5Apply.j1 k x191000 x191001 x191002 x192000 x192001 x192002 x192003 x192004 x192005 x192006)) else (spec_l5Apply.j1 k x191000 x191001 x191002 x192000 x192001 x192002 x192003 x192004 x192005 x192006))
end
def spec_l5Apply.f (k : Nat) (a0_0 : Int) (l0_1 : List (S37)) (l0_2 : List (S84)) (a1_0 : Bool) (a1_1 : Int) (a1_2 : Int) (l1_3 : List (S39)) (l1_4 : List (S82)) (a1_5 : Int) (a1_6 : Int) : Option (Int × (List (S37)) × (List (S84)) × Int) := if a1_0 = true then (some (wrap64 (a0_0 + 1), l0_1, l0_2, 5)) else ((spec_l5Last.f k (wrap64 (a0_0 + 1)) l0_1 l0_2 a1_1).bind fun bt193 => (if bt193.2.2.2.2 = true then (spec_l5Apply.j0 k bt193.2.2.2.2 (bt193.1 == a1_1 && (bt193.2.1 == a1_2)) (wrap64 (a0_0 + 1)) l0_1 l0_2 a1_0 a1_1 a1_2 l1_3 l1_4 a1_5 a1_6 bt193.1 bt193.2.1 bt193.2.2.1 bt193.2.2.2.1) else (spec_l5Apply.j0 k bt193.2.2.2.2 false (wrap64 (a0_0 + 1)) l0_1 l0_2 a1_0 a1_1 a1_2 l1_3 l1_4 a1_5 a1_6 bt193.1 bt193.2.1 bt193.2.2.1 bt193.2.2.2.1)))
def spec_l15Rd_num.f (k : Nat) (s0_0 : List Int) (s0_1 : Int) (l1 : List Int) : Option (Int × Int) := (spec_l15Rd_pick.f k s0_0 s0_1 (l1.length : Int)).bind fun bt210 => (if 0 ≤ bt210.1 then (if bt210.1 < (l1.length : Int) then (some (rd l1 bt210.1, bt210.2)) else (none)) else (none))
def spec_l2Any.f (k : Nat) (s0_0 : List Int) (s0_1 : Int) : Option (Int × Int × Int × Int × Int) := (spec_l15Rd_num.f k s0_0 s0_1 (([1, 1, 2, 2, 3, 4, 4, 5, 6, 7] : List Int))).bind fun bt217 => ((spec_l15Rd_pick.f k s0_0 bt217.2 3).bind fun bt219 => ((spec_l15Rd_pick.f k s0_0 bt219.2 3).bind fun bt221 => (if bt217.1 = 3 then ((spec_l15Rd_num.f k s0_0 bt221.2 (([0, 1, 5, (-2), 100, 1000000] : List Int))).bind fun bt227 => (some (bt217.1, bt219.1, 0, bt227.1, bt227.2))) else (if bt217.1 = 6 then ((spec_l15Rd_pick.f k s0_0 bt221.2 3).bind fun bt229 => (some (bt217.1, bt219.1, bt221.1, wrap64 (1 + bt229.1), bt229.2))) else (if bt217.1 = 7 then ((spec_l15Rd_pick.f k s0_0 bt221.2 3).bind fun bt231 => (if bt231.1 > 0 then ((spec_l15Rd_pick.f k s0_0 bt231.2 4).bind fun bt233 => ((spec_l15Rd_pick.f k s0_0 bt233.2 4).bind fun bt235 => (some (4, bt233.1, bt235.1, 0, bt235.2)))) else (some (bt217.1, 0, 0, 0, bt231.2)))) else (some (bt217.1, bt219.1, bt221.1, 0, bt221.2)))))))
def spec_l2Prog.l0 : Nat → List (S95) → Int → List Int → Int → Option ((List (S95)) × Int)
  | 0, _, _, _, _ => none
  | k + 1, x5, x6, x1000, x1001 => if x6 > 0 then ((spec_l2Any.f k x1000 x1001).bind fun bt253 => (if x5.length < 4398046511104 then (spec_l2Prog.l0 k (x5 ++ [(⟨bt253.1, bt253.2.1, bt253.2.2.1, bt253.2.2.2.1⟩ : S95)]) (wrap64 (x6 - 1)) x1000 bt253.2.2.2.2) else (none))) else (some (x5, x1001))
def spec_l2Prog.f (k : Nat) (s0_0 : List Int) (s0_1 : Int) : Option ((List (S95)) × Int) := (spec_l15Rd_pick.f k s0_0 s0_1 3).bind fun bt237 => (if bt237.1 = 0 then ((spec_l15Rd_pick.f k s0_0 bt237.2 3).bind fun bt239 => ((spec_l15Rd_pick.f k s0_0 bt239.2 3).bind fun bt241 => ((spec_l15Rd_pick.f k s0_0 bt241.2 3).bind fun bt243 => (some ((([(⟨1, 0, bt239.1, 0⟩ : S95), (⟨3, 1, 0, wrap64 (1 + bt243.1)⟩ : S95), (⟨4, 0, 1, 0⟩ : S95), (⟨2, bt241.1, 0, 0⟩ : S95)] : List (S95))), bt243.2))))) else ((spec_l15Rd_pick.f k s0_0 bt237.2 8).bind fun bt251 => (spec_l2Prog.l0 k (([] : List (S95))) bt251.1 s0_0 bt251.2)))
def spec_l2Reg.f (a0 : Int) : Option (Bool) := if a0 ≥ 0 then (some (decide (a0 < 4))) else (some false)
def spec_l2Ins.j0 : Nat → Int → Bool → Int → Int → Int → Int → Option (Bool)
  | 0, _, _, _, _, _, _ => none
  | k + 1, x4, x50, x262000, x262001, x262002, x262003 => if x50 = true then ((spec_l2Reg.f x262001).bind fun t268 => (if t268 = true then ((spec_l2Reg.f x262002).bind fun t269 => (if t269 = true then (some (x262003 == 0)) else (some false))) else (some false))) else (if x4 = 6 then ((spec_l2Reg.f x262001).bind fun t270 => (if t270 = true then ((spec_l2Reg.f x262002).bind fun t271 => (if t271 = true then (if x262003 ≥ 1 then (some (decide (x262003 ≤ 10))) else (some false)) else (some false))) else (some false))) else (if x4 = 7 then (if x262001 = 0 then (if x262002 = 0 then (some (x262003 == 0)) else (some false)) else (some false)) else (some false)))
def spec_l2Ins.f (k : Nat) (a0_0 : Int) (a0_1 : Int) (a0_2 : Int) (a0_3 : Int) : Option (Bool) := if a0_0 = 1 then ((spec_l2Reg.f a0_1).bind fun t262 => (if t262 = true then ((spec_l2Box.f a0_2).bind fun t263 => (if t263 = true then (some (a0_3 == 0)) else (some false))) else (some false))) else (if a0_0 = 2 then ((spec_l2Box.f a0_1).bind fun t264 => (if t264 = true then ((spec_l2Reg.f a0_2).bind fun t265 => (if t265 = true then (some (a0_3 == 0)) else (some false))) else (some false))) else (if a0_0 = 3 then ((spec_l2Reg.f a0_1).bind fun t266 => (if t266 = true then (if a0_2 = 0 then ((spec_l1Num.f a0_3).bind fun t267 => (some t267)) else (some false)) else (some false))) else (if a0_0 = 4 then (spec_l2Ins.j0 k a0_0 (a0_0 == 4) a0_0 a0_1 a0_2 a0_3) else (spec_l2Ins.j0 k a0_0 (a0_0 == 5) a0_0 a0_1 a0_2 a0_3))))
def spec_ProgOk.l0 : Nat → List (S95) → Int → Option (Bool)
  | 0, _, _ => none
  | k + 1, x0, x3 => if x3 < (x0.length : Int) then (if 0 ≤ x3 then ((spec_l2Ins.f k ((rd_T95 x0 x3).f0) ((rd_T95 x0 x3).f1) ((rd_T95 x0 x3).f2) ((rd_T95 x0 x3).f3)).bind fun t273 => (if t273 = true then (spec_ProgOk.l0 k x0 (wrap64 (x3 + 1))) else (some false))) else (none)) else (some true)
def spec_ProgOk.f (k : Nat) (l0 : List (S95)) : Option (Bool) := if (l0.length : Int) > 10 then (some false) else (spec_ProgOk.l0 k l0 0)
def spec_l3Look.f (k : Nat) (l0 : List (S37)) (l1_0 : List (S39)) (l1_1 : List (S82)) (a1_2 : Int) (a1_3 : Int) (a2 : Int) : Option (Int × (List (S39)) × (List (S82)) × Int × Int) := (spec_l3At.f k l1_1 a2).bind fun t276 => (if t276 ≥ 0 then (if 0 ≤ t276 then (if t276 < (l1_1.length : Int) then (some ((rd_T82 l1_1 t276).f1, l1_0, l1_1, a1_2, a1_3)) else (none)) else (none)) else ((spec_l3Saw.f k l1_0 a2).bind fun t278 => (if t278 = true then (if 0 ≤ a2 then (if a2 < (l0.length : Int) then (some ((rd_T37 l0 a2).f1, l1_0, l1_1, a1_2, a1_3)) else (none)) else (none)) else (if 0 ≤ a2 then (if a2 < (l0.length : Int) then (if l1_0.length < 8796093022208 then (some ((rd_T37 l0 a2).f1, (l1_0 ++ [(⟨a2, (rd_T37 l0 a2).f0⟩ : S39)]), l1_1, a1_2, a1_3)) else (none)) else (none)) else (none)))))
def spec_l3Put.f (k : Nat) (l0_0 : List (S39)) (l0_1 : List (S82)) (a0_2 : Int) (a0_3 : Int) (a1 : Int) (a2 : Int) : Option ((List (S39)) × (List (S82)) × Int × Int) := (spec_l3At.f k l0_1 a1).bind fun t287 => (if t287 ≥ 0 then (if 0 ≤ t287 then (if t287 < (l0_1.length : Int) then (some (l0_0, (l0_1.set (t287 : Int).toNat (⟨(rd_T82 l0_1 t287).f0, a2⟩ : S82)), a0_2, a0_3)) else (none)) else (none)) else (if l0_1.length < 8796093022208 then (some (l0_0, (l0_1 ++ [(⟨a1, a2⟩ : S82)]), a0_2, a0_3)) else (none)))
def spec_l3Step.j0 : Nat → List Int → List (S39) → List (S82) → Int → Int → Int → Int → Int → Int → Option ((List (S39)) × (List (S82)) × Int × Int × List Int)
  | 0, _, _, _, _, _, _, _, _, _ => none
  | k + 1, x2, x293000, x293001, x293002, x293003, x294000, x294001, x294002, x294003 => if x294000 = 2 then (some (x293000, x293001, x293002, x293003, x2)) else (if 0 ≤ x294001 then (if x294001 < (x2.length : Int) then ((spec_l1Num.f (rd x2 x294001)).bind fun t323 => (if t323 = true then (some (x293000, x293001, x293002, x293003, x2)) else (some (x293000, x293001, x293002, 2, x2)))) else (none)) else (none))
def spec_l3Step.f (k : Nat) (l0 : List (S37)) (l1_0 : List (S39)) (l1_1 : List (S82)) (a1_2 : Int) (a1_3 : Int) (l2 : List Int) (a3_0 : Int) (a3_1 : Int) (a3_2 : Int) (a3_3 : Int) : Option ((List (S39)) × (List (S82)) × Int × Int × List Int) := if a3_0 = 1 then ((spec_l3Look.f k l0 l1_0 l1_1 a1_2 a1_3 a3_2).bind fun bt295 => (if 0 ≤ a3_1 then (if a3_1 < (l2.length : Int) then (spec_l3Step.j0 k (l2.set (a3_1 : Int).toNat bt295.1) bt295.2.1 bt295.2.2.1 bt295.2.2.2.1 bt295.2.2.2.2 a3_0 a3_1 a3_2 a3_3) else (none)) else (none))) else (if a3_0 = 2 then (if 0 ≤ a3_2 then (if a3_2 < (l2.length : Int) then ((spec_l3Put.f k l1_0 l1_1 a1_2 a1_3 a3_1 (rd l2 a3_2)).bind fun bt307 => (spec_l3Step.j0 k l2 bt307.1 bt307.2.1 bt307.2.2.1 bt307.2.2.2 a3_0 a3_1 a3_2 a3_3)) else (none)) else (none)) else (if a3_0 = 3 then (if 0 ≤ a3_1 then (if a3_1 < (l2.length : Int) then (spec_l3Step.j0 k (l2.set (a3_1 : Int).toNat a3_3) l1_0 l1_1 a1_2 a1_3 a3_0 a3_1 a3_2 a3_3) else (none)) else (none)) else (if a3_0 = 4 then (if 0 ≤ a3_1 then (if a3_1 < (l2.length : Int) then (if 0 ≤ a3_2 then (if a3_2 < (l2.length : Int) then (spec_l3Step.j0 k (l2.set (a3_1 : Int).toNat (wrap64 ((rd l2 a3_1) + (rd l2 a3_2)))) l1_0 l1_1 a1_2 a1_3 a3_0 a3_1 a3_2 a3_3) else (none)) else (none)) else (none)) else (none)) else (if a3_0 = 5 then (if 0 ≤ a3_1 then (if a3_1 < (l2.length : Int) then (if 0 ≤ a3_2 then (if a3_2 < (l2.length : Int) then (spec_l3Step.j0 k (l2.set (a3_1 : Int).toNat (wrap64 ((rd l2 a3_1) - (rd l2 a3_2)))) l1_0 l1_1 a1_2 a1_3 a3_0 a3_1 a3_2 a3_3) else (none)) else (none)) else (none)) else (none)) else (if a3_0 = 7 then (spec_l3Step.j0 k l2 l1_0 l1_1 a1_2 1 a3_0 a3_1 a3_2 a3_3) else (spec_l3Step.j0 k l2 l1_0 l1_1 a1_2 a1_3 a3_0 a3_1 a3_2 a3_3))))))
mutual
def spec_ExecRun.j0 : Nat → List (S37) → List (S95) → Bool → Option ((List (S39)) × (List (S82)) × Int × Int)
  | 0, _, _, _ => none
  | k + 1, x0, x1, x16 => if x16 = true then (some (([] : List (S39)), ([] : List (S82)), 0, 3)) else (if 4 ≤ 35184372088832 then (spec_ExecRun.l0 k x0 x1 (List.replicate 4 0) 0 ([] : List (S39)) ([] : List (S82)) 0 0) else (none))
def spec_ExecRun.l0 : Nat → List (S37) → List (S95) → List Int → Int → List (S39) → List (S82) → Int → Int → Option ((List (S39)) × (List (S82)) × Int × Int)
  | 0, _, _, _, _, _, _, _, _ => none
  | k + 1, x0, x1, x6, x7, x328000, x328001, x328002, x328003 => if x7 < (x1.length : Int) then (spec_ExecRun.j2 k x0 x1 x6 x7 (x328003 == 0) x328000 x328001 x328002 x328003) else (spec_ExecRun.j2 k x0 x1 x6 x7 false x328000 x328001 x328002 x328003)
def spec_ExecRun.j2 : Nat → List (S37) → List (S95) → List Int → Int → Bool → List (S39) → List (S82) → Int → Int → Option ((List (S39)) × (List (S82)) × Int × Int)
  | 0, _, _, _, _, _, _, _, _, _ => none
  | k + 1, x0, x1, x6, x7, x28, x328000, x328001, x328002, x328003 => if x28 = true then (if 0 ≤ x7 then (if x7 < (x1.length : Int) then (if ((rd_T95 x1 x7).f0) = 6 then (if 0 ≤ ((rd_T95 x1 x7).f1) then (if ((rd_T95 x1 x7).f1) < (x6.length : Int) then (if 0 ≤ ((rd_T95 x1 x7).f2) then (if ((rd_T95 x1 x7).f2) < (x6.length : Int) then (if (rd x6 ((rd_T95 x1 x7).f1)) < (rd x6 ((rd_T95 x1 x7).f2)) then (spec_ExecRun.l0 k x0 x1 x6 (wrap64 ((wrap64 (x7 + ((rd_T95 x1 x7).f3))) + 1)) x328000 x328001 x328002 x328003) else (spec_ExecRun.l0 k x0 x1 x6 (wrap64 (x7 + 1)) x328000 x328001 x328002 x328003)) else (none)) else (none)) else (none)) else (none)) else ((spec_l3Step.f k x0 x328000 x328001 x328002 x328003 x6 ((rd_T95 x1 x7).f0) ((rd_T95 x1 x7).f1) ((rd_T95 x1 x7).f2) ((rd_T95 x1 x7).f3)).bind fun bt336 => (spec_ExecRun.l0 k x0 x1 bt336.2.2.2.2 (wrap64 (x7 + 1)) bt336.1 bt336.2.1 bt336.2.2.1 bt336.2.2.2.1))) else (none)) else (none)) else (if x328003 = 0 then (if 0 < (x6.length : Int) then (some (x328000, x328001, rd x6 0, x328003)) else (none)) else (some (x328000, ([] : List (S82)), x328002, x328003)))
end
def spec_ExecRun.f (k : Nat) (l0 : List (S37)) (l1 : List (S95)) : Option ((List (S39)) × (List (S82)) × Int × Int) := (spec_BoxOk.f k l0).bind fun t325 => (if t325 = true then ((spec_ProgOk.f k l1).bind fun t326 => (spec_ExecRun.j0 k l0 l1 (!t326))) else (spec_ExecRun.j0 k l0 l1 true))
def spec_l5Any.f (k : Nat) (s0_0 : List Int) (s0_1 : Int) (l1 : List (S37)) : Option (Bool × Int × Int × (List (S39)) × (List (S82)) × Int × Int × Int) := (spec_l15Rd_pick.f k s0_0 s0_1 8).bind fun bt346 => (if bt346.1 = 0 then (some (true, 0, 0, ([] : List (S39)), ([] : List (S82)), 0, 0, bt346.2)) else ((spec_l15Rd_pick.f k s0_0 bt346.2 3).bind fun bt348 => ((spec_l15Rd_pick.f k s0_0 bt348.2 6).bind fun bt350 => ((spec_l2Prog.f k s0_0 bt350.2).bind fun bt352 => ((spec_ExecRun.f k l1 bt352.1).bind fun bt356 => ((spec_l15Rd_pick.f k s0_0 bt352.2 40).bind fun bt365 => (if bt365.1 = 0 then ((spec_l15Rd_num.f k s0_0 bt365.2 (([0, 1001] : List Int))).bind fun bt370 => (some (false, bt348.1, bt370.1, bt356.1, bt356.2.1, bt356.2.2.1, bt356.2.2.2, bt370.2))) else (if bt365.1 = 1 then (some (true, bt348.1, wrap64 (1 + bt350.1), bt356.1, bt356.2.1, bt356.2.2.1, bt356.2.2.2, bt365.2)) else (if bt365.1 = 2 then (some (false, bt348.1, wrap64 (1 + bt350.1), bt356.1, bt356.2.1, bt356.2.2.1, 3, bt365.2)) else (some (false, bt348.1, wrap64 (1 + bt350.1), bt356.1, bt356.2.1, bt356.2.2.1, bt356.2.2.2, bt365.2)))))))))))
mutual
def spec_l5List.l0 : Nat → List (S77) → Int → List Int → Int → Int → List (S37) → List (S84) → Option ((List (S77)) × Int)
  | 0, _, _, _, _, _, _, _ => none
  | k + 1, x3, x5, x1000, x1001, x383000, x383001, x383002 => if x5 > 0 then ((spec_l5Any.f k x1000 x1001 x383001).bind fun bt388 => (if x3.length < 1599289640401 then ((some (x3 ++ [(⟨bt388.1, (⟨bt388.2.1, bt388.2.2.1⟩ : S75), (⟨bt388.2.2.2.1, bt388.2.2.2.2.1, bt388.2.2.2.2.2.1, bt388.2.2.2.2.2.2.1⟩ : S26)⟩ : S77)] : List (S77))).bind fun y401 => ((spec_CertEntry.f k bt388.1 bt388.2.1 bt388.2.2.1 bt388.2.2.2.1 bt388.2.2.2.2.1 bt388.2.2.2.2.2.1 bt388.2.2.2.2.2.2.1).bind fun t404 => (if t404 = true then ((spec_l15Rd_pick.f k x1000 bt388.2.2.2.2.2.2.2 3).bind fun bt405 => (if bt405.1 > 0 then ((spec_l5Apply.f k x383000 x383001 x383002 bt388.1 bt388.2.1 bt388.2.2.1 bt388.2.2.2.1 bt388.2.2.2.2.1 bt388.2.2.2.2.2.1 bt388.2.2.2.2.2.2.1).bind fun bt407 => (spec_l5List.l0 k y401 (wrap64 (x5 - 1)) x1000 bt405.2 bt407.1 bt407.2.1 bt407.2.2.1)) else (spec_l5List.l0 k y401 (wrap64 (x5 - 1)) x1000 bt405.2 x383000 x383001 x383002))) else (spec_l5List.l0 k y401 (wrap64 (x5 - 1)) x1000 bt388.2.2.2.2.2.2.2 x383000 x383001 x383002)))) else (none))) else ((spec_l15Rd_pick.f k x1000 x1001 30).bind fun bt416 => (if bt416.1 = 0 then (spec_l5List.l1 k x3 x1000 bt416.2) else (some (x3, bt416.2))))
def spec_l5List.l1 : Nat → List (S77) → List Int → Int → Option ((List (S77)) × Int)
  | 0, _, _, _ => none
  | k + 1, x3, x1000, x1001 => if (x3.length : Int) < 41 then (if x3.length < 1599289640401 then (spec_l5List.l1 k (x3 ++ [(⟨true, (⟨0, 0⟩ : S75), (⟨([] : List (S39)), ([] : List (S82)), 0, 0⟩ : S26)⟩ : S77)]) x1000 x1001) else (none)) else (some (x3, x1001))
end
def spec_l5List.f (k : Nat) (s0_0 : List Int) (s0_1 : Int) : Option ((List (S77)) × Int) := (spec_CertOpen.f).bind fun bt375 => ((spec_l15Rd_num.f k s0_0 s0_1 (([0, 3, 8, 12] : List Int))).bind fun bt386 => (spec_l5List.l0 k (([] : List (S77))) bt386.1 s0_0 bt386.2 bt375.1 bt375.2.1 bt375.2.2))
def spec_DrawCertFold.f (k : Nat) (l0 : List Int) : Option ((List (S77))) := (spec_l15Open.f l0).bind fun bt421 => ((spec_l5List.f k bt421.1 bt421.2).bind fun bt424 => (some bt424.1))
def impl_same_impl_Read.l0 : Nat → List (S39) → List (S39) → Int → Int → Option (Bool)
  | 0, _, _, _, _ => none
  | k + 1, x0, x1, x12, x13 => if x13 < x12 then (if 0 ≤ x13 then (if x13 < (x0.length : Int) then (if x13 < (x1.length : Int) then (if (!(((rd_T39 x0 x13).f0) == ((rd_T39 x1 x13).f0)) || (!(((rd_T39 x0 x13).f1) == ((rd_T39 x1 x13).f1)))) = true then (some false) else (impl_same_impl_Read.l0 k x0 x1 x12 (wrap64 (x13 + 1)))) else (none)) else (none)) else (none)) else (some true)
def impl_same_impl_Read.f (k : Nat) (l0 : List (S39)) (l1 : List (S39)) : Option (Bool) := if (l0.length : Int) = (l1.length : Int) then (impl_same_impl_Read.l0 k l0 l1 (l0.length : Int) 0) else (some false)
def impl_same_impl_Put.l0 : Nat → List (S82) → List (S82) → Int → Int → Option (Bool)
  | 0, _, _, _, _ => none
  | k + 1, x0, x1, x12, x13 => if x13 < x12 then (if 0 ≤ x13 then (if x13 < (x0.length : Int) then (if x13 < (x1.length : Int) then (if (!(((rd_T82 x0 x13).f0) == ((rd_T82 x1 x13).f0)) || (!(((rd_T82 x0 x13).f1) == ((rd_T82 x1 x13).f1)))) = true then (some false) else (impl_same_impl_Put.l0 k x0 x1 x12 (wrap64 (x13 + 1)))) else (none)) else (none)) else (none)) else (some true)
def impl_same_impl_Put.f (k : Nat) (l0 : List (S82)) (l1 : List (S82)) : Option (Bool) := if (l0.length : Int) = (l1.length : Int) then (impl_same_impl_Put.l0 k l0 l1 (l0.length : Int) 0) else (some false)
def impl_ExecSame.f (k : Nat) (l0_0 : List (S39)) (l0_1 : List (S82)) (a0_2 : Int) (a0_3 : Int) (l1_0 : List (S39)) (l1_1 : List (S82)) (a1_2 : Int) (a1_3 : Int) : Option (Bool) := (impl_same_impl_Read.f k l0_0 l1_0).bind fun t434 => (if t434 = true then ((impl_same_impl_Put.f k l0_1 l1_1).bind fun t435 => (if t435 = true then (if a0_2 = a1_2 then (some (a0_3 == a1_3)) else (some false)) else (some false))) else (some false))
def impl_CertLike.f (k : Nat) (a0_0 : Bool) (a0_1 : Int) (a0_2 : Int) (l0_3 : List (S39)) (l0_4 : List (S82)) (a0_5 : Int) (a0_6 : Int) (a1_0 : Bool) (a1_1 : Int) (a1_2 : Int) (l1_3 : List (S39)) (l1_4 : List (S82)) (a1_5 : Int) (a1_6 : Int) : Option (Bool) := if (a0_0 == a1_0) = true then (if (a0_1 == a1_1 && (a0_2 == a1_2)) = true then ((impl_ExecSame.f k l0_3 l0_4 a0_5 a0_6 l1_3 l1_4 a1_5 a1_6).bind fun t438 => (some t438)) else (some false)) else (some false)
def impl_in.f (a0 : Int) (a1 : Int) (a2 : Int) : Option (Bool) := if a0 ≥ a1 then (some (decide (a0 ≤ a2))) else (some false)
mutual
def impl_ExecOk.j0 : Nat → Bool → List (S39) → List (S82) → Int → Int → Option (Bool)
  | 0, _, _, _, _, _ => none
  | k + 1, x45, x440000, x440001, x440002, x440003 => if x45 = true then (some false) else (impl_ExecOk.l0 k x440000 (x440000.length : Int) 0 x440000 x440001 x440002 x440003 false false false false false false false false)
def impl_ExecOk.l0 : Nat → List (S39) → Int → Int → List (S39) → List (S82) → Int → Int → Bool → Bool → Bool → Bool → Bool → Bool → Bool → Bool → Option (Bool)
  | 0, _, _, _, _, _, _, _, _, _, _, _, _, _, _, _ => none
  | k + 1, x47, x48, x49, x440000, x440001, x440002, x440003, x443000, x443001, x443002, x443003, x444000, x444001, x444002, x444003 => if x49 < x48 then (if 0 ≤ x49 then (if x49 < (x47.length : Int) then ((impl_in.f ((rd_T39 x47 x49).f0) 0 3).bind fun t446 => (if t446 = true then (if 0 ≤ ((rd_T39 x47 x49).f0) then (if ((rd_T39 x47 x49).f0) < 4 then (if rdOf false [x443000, x443001, x443002, x443003] ((rd_T39 x47 x49).f0) = true then (some false) else ((impl_in.f ((rd_T39 x47 x49).f1) 0 1000000).bind fun t447 => (if t447 = true then (impl_ExecOk.l0 k x47 x48 (wrap64 (x49 + 1)) x440000 x440001 x440002 x440003 (ixB ((rd_T39 x47 x49).f0) 0 true x443000) (ixB ((rd_T39 x47 x49).f0) 1 true x443001) (ixB ((rd_T39 x47 x49).f0) 2 true x443002) (ixB ((rd_T39 x47 x49).f0) 3 true x443003) x444000 x444001 x444002 x444003) else (some false)))) else (none)) else (none)) else (some false))) else (none)) else (none)) else (impl_ExecOk.l1 k x440001 (x440001.length : Int) 0 x444000 x444001 x444002 x444003)
def impl_ExecOk.l1 : Nat → List (S82) → Int → Int → Bool → Bool → Bool → Bool → Option (Bool)
  | 0, _, _, _, _, _, _, _ => none
  | k + 1, x74, x75, x76, x444000, x444001, x444002, x444003 => if x76 < x75 then (if 0 ≤ x76 then (if x76 < (x74.length : Int) then ((impl_in.f ((rd_T82 x74 x76).f0) 0 3).bind fun t450 => (if t450 = true then (if 0 ≤ ((rd_T82 x74 x76).f0) then (if ((rd_T82 x74 x76).f0) < 4 then (if rdOf false [x444000, x444001, x444002, x444003] ((rd_T82 x74 x76).f0) = true then (some false) else ((impl_in.f ((rd_T82 x74 x76).f1) (-1000000) 1000000).bind fun t451 => (if t451 = true then (impl_ExecOk.l1 k x74 x75 (wrap64 (x76 + 1)) (ixB ((rd_T82 x74 x76).f0) 0 true x444000) (ixB ((rd_T82 x74 x76).f0) 1 true x444001) (ixB ((rd_T82 x74 x76).f0) 2 true x444002) (ixB ((rd_T82 x74 x76).f0) 3 true x444003)) else (some false)))) else (none)) else (none)) else (some false))) else (none)) else (none)) else (some true)
end
def impl_ExecOk.f (k : Nat) (l0_0 : List (S39)) (l0_1 : List (S82)) (a0_2 : Int) (a0_3 : Int) : Option (Bool) := (impl_in.f a0_3 0 3).bind fun t440 => (if t440 = true then ((impl_in.f a0_2 (-1000000) 1000000).bind fun t441 => (if t441 = true then (if a0_3 = 0 then (if a0_3 = 3 then (impl_ExecOk.j0 k (decide ((l0_0.length : Int) > 0)) l0_0 l0_1 a0_2 a0_3) else (impl_ExecOk.j0 k false l0_0 l0_1 a0_2 a0_3)) else (if a0_2 = 0 then (if (l0_1.length : Int) > 0 then (impl_ExecOk.j0 k true l0_0 l0_1 a0_2 a0_3) else (if a0_3 = 3 then (impl_ExecOk.j0 k (decide ((l0_0.length : Int) > 0)) l0_0 l0_1 a0_2 a0_3) else (impl_ExecOk.j0 k false l0_0 l0_1 a0_2 a0_3))) else (impl_ExecOk.j0 k true l0_0 l0_1 a0_2 a0_3))) else (impl_ExecOk.j0 k true l0_0 l0_1 a0_2 a0_3))) else (impl_ExecOk.j0 k true l0_0 l0_1 a0_2 a0_3))
def impl_reqOk.f (a0_0 : Int) (a0_1 : Int) : Option (Bool) := (impl_in.f a0_0 0 2).bind fun t453 => (if t453 = true then ((impl_in.f a0_1 1 1000).bind fun t454 => (some t454)) else (some false))
def impl_CertEntry.f (k : Nat) (a0_0 : Bool) (a0_1 : Int) (a0_2 : Int) (l0_3 : List (S39)) (l0_4 : List (S82)) (a0_5 : Int) (a0_6 : Int) : Option (Bool) := if a0_0 = true then ((impl_CertLike.f k a0_0 a0_1 a0_2 l0_3 l0_4 a0_5 a0_6 true 0 0 ([] : List (S39)) ([] : List (S82)) 0 0).bind fun t456 => (some t456)) else ((impl_reqOk.f a0_1 a0_2).bind fun t457 => (if t457 = true then ((impl_ExecOk.f k l0_3 l0_4 a0_5 a0_6).bind fun t458 => (if t458 = true then (some (a0_6 != 3)) else (some false))) else (some false)))
def impl_listOk.l0 : Nat → List (S77) → List (S77) → Int → Int → Option (Bool)
  | 0, _, _, _, _ => none
  | k + 1, x0, x5, x6, x7 => if x7 < x6 then (if 0 ≤ x7 then (if x7 < (x5.length : Int) then ((impl_CertEntry.f k ((rd_T77 x5 x7).f0) ((rd_T77 x5 x7).f1.f0) ((rd_T77 x5 x7).f1.f1) ((rd_T77 x5 x7).f2.f0) ((rd_T77 x5 x7).f2.f1) ((rd_T77 x5 x7).f2.f2) ((rd_T77 x5 x7).f2.f3)).bind fun t461 => (if t461 = true then (impl_listOk.l0 k x0 x5 x6 (wrap64 (x7 + 1))) else (some false))) else (none)) else (none)) else (some (decide ((x0.length : Int) ≤ 40)))
def impl_listOk.f (k : Nat) (l0 : List (S77)) : Option (Bool) := impl_listOk.l0 k l0 l0 (l0.length : Int) 0
def impl_BoxOk.l0 : Nat → List (S37) → List (S37) → Int → Int → Option (Bool)
  | 0, _, _, _, _ => none
  | k + 1, x0, x5, x6, x7 => if x7 < x6 then (if 0 ≤ x7 then (if x7 < (x5.length : Int) then ((impl_in.f ((rd_T37 x5 x7).f0) 0 1000000).bind fun t464 => (if t464 = true then ((impl_in.f ((rd_T37 x5 x7).f1) (-1000000) 1000000).bind fun t465 => (if t465 = true then (impl_BoxOk.l0 k x0 x5 x6 (wrap64 (x7 + 1))) else (some false))) else (some false))) else (none)) else (none)) else (some ((x0.length : Int) == 4))
def impl_BoxOk.f (k : Nat) (l0 : List (S37)) : Option (Bool) := impl_BoxOk.l0 k l0 l0 (l0.length : Int) 0
mutual
def impl_ExecFresh.j0 : Nat → List (S37) → Bool → List (S39) → List (S82) → Int → Int → Option (Bool)
  | 0, _, _, _, _, _, _ => none
  | k + 1, x0, x14, x467000, x467001, x467002, x467003 => if x14 = true then (some false) else (impl_ExecFresh.l0 k x0 x467000 (x467000.length : Int) 0)
def impl_ExecFresh.l0 : Nat → List (S37) → List (S39) → Int → Int → Option (Bool)
  | 0, _, _, _, _ => none
  | k + 1, x0, x16, x17, x18 => if x18 < x17 then (if 0 ≤ x18 then (if x18 < (x16.length : Int) then (if 0 ≤ ((rd_T39 x16 x18).f0) then (if ((rd_T39 x16 x18).f0) < (x0.length : Int) then (if ((rd_T37 x0 ((rd_T39 x16 x18).f0)).f0) = ((rd_T39 x16 x18).f1) then (impl_ExecFresh.l0 k x0 x16 x17 (wrap64 (x18 + 1))) else (some false)) else (none)) else (none)) else (none)) else (none)) else (some true)
end
def impl_ExecFresh.f (k : Nat) (l0 : List (S37)) (l1_0 : List (S39)) (l1_1 : List (S82)) (a1_2 : Int) (a1_3 : Int) : Option (Bool) := (impl_BoxOk.f k l0).bind fun t467 => (if t467 = true then ((impl_ExecOk.f k l1_0 l1_1 a1_2 a1_3).bind fun t468 => (impl_ExecFresh.j0 k l0 (!t468) l1_0 l1_1 a1_2 a1_3)) else (impl_ExecFresh.j0 k l0 true l1_0 l1_1 a1_2 a1_3))
mutual
def impl_CertOk.l0 : Nat → List (S84) → Int → Int → Int → List (S37) → List (S84) → Option (Bool)
 | 0, _, _, _, _, _, _ => none
 | k + 1, x6, x7, x8, x473000, x473001, x473002 => if x8 < x7 then (if 0 ≤ x8 then (if x8 < (x6.length : Int) then (if x8 > 0 then (if 0 ≤ (wrap64 (x8 - 1)) then (if (wrap64 (x8 - 1)) < (x473002.length : Int) then (if ((rd_T84 x473002 (wrap64 (x8 - 1))).f0.f0) ≥ ((rd_T84 x6 x8).f0.f0) then (impl_CertOk.j1 k x6 x7 x8 true x473000 x473001 x473002) else ((impl_reqOk.f ((rd_T84 x6 x8).f0.f0) ((rd_T84 x6 x8).f0.f1)).bind fun t476 => (if t476 = true then ((impl_in.f ((rd_T84 x6 x8).f1) 0 2).bind fun t477 => (if t477 = true then ((impl_in.f ((rd_T84 x6 x8).f2) (-1000000) 1000000).bind fun t478 => (if t478 = true then (if ((rd_T84 x6 x8).f1) = 0 then (impl_CertOk.j1 k x6 x7 x8 false x473000 x473001 x473002) else (impl_CertOk.j1 k x6 x7 x8 (((rd_T84 x6 x8).f2) != 0) x473000 x473001 x473002)) else (impl_CertOk.j1 k x6 x7 x8 true x473000 x473001 x473002))) else (impl_CertOk.j1 k x6 x7 x8 true x473000 x473001 x473002))) else (impl_CertOk.j1 k x6 x7 x8 true x473000 x473001 x473002)))) else (none)) else (none)) else ((impl_reqOk.f ((rd_T84 x6 x8).f0.f0) ((rd_T84 x6 x8).f0.f1)).bind fun t479 => (if t479 = true then ((impl_in.f ((rd_T84 x6 x8).f1) 0 2).bind fun t480 => (if t480 = true then ((impl_in.f ((rd_T84 x6 x8).f2) (-1000000) 1000000).bind fun t481 => (if t481 = true then (if ((rd_T84 x6 x8).f1) = 0 then (impl_CertOk.j1 k x6 x7 x8 false x473000 x473001 x473002) else (impl_CertOk.j1 k x6 x7 x8 (((rd_T84 x6 x8).f2) != 0) x473000 x473001 x473002)) else (impl_CertOk.j1 k x6 x7 x8 true x473000 x473001 x473002))) else (impl_CertOk.j1 k x6 x7 x8 true x473000 x473001 x473002))) else (impl_CertOk.j1 k x6 x7 x8 true x473000 x473001 x473002)))) else (none)) else (none)) else ((impl_in.f x473000 0 40).bind fun t482 => (if t482 = true then ((impl_BoxOk.f k x473001).bind fun t483 => (some t483)) else (some false)))
def impl_CertOk.j1 : Nat → List (S84) → Int → Int → Bool → Int → List (S37) → List (S84) → Option (Bool)
 | 0, _, _, _, _, _, _, _ => none
 | k + 1, x6, x7, x8, x56, x473000, x473001, x473002 => if x56 = true then (some false) else (impl_CertOk.l0 k x6 x7 (wrap64 (x8 + 1)) x473000 x473001 x473002)
end
def impl_CertOk.f (k : Nat) (a0_0 : Int) (l0_1 : List (S37)) (l0_2 : List (S84)) : Option (Bool) := impl_CertOk.l0 k l0_2 (l0_2.length : Int) 0 a0_0 l0_1 l0_2
def impl_copied_impl_Box.f (l0 : List (S37)) : Option (List (S37)) := if l0.length ≤ 17592186044416 then some l0 else none
def impl_copied_impl_Done.f (l0 : List (S84)) : Option (List (S84)) := if l0.length ≤ 8796093022208 then some l0 else none
mutual
def impl_ExecDo.j0 : Nat → List (S37) → Bool → List (S39) → List (S82) → Int → Int → Option ((List (S37)))
  | 0, _, _, _, _, _, _ => none
  | k + 1, x0, x15, x485000, x485001, x485002, x485003 => if x15 = true then (some ([] : List (S37))) else ((impl_copied_impl_Box.f x0).bind fun t487 => (impl_ExecDo.l0 k t487 x485001 (x485001.length : Int) 0))
def impl_ExecDo.l0 : Nat → List (S37) → List (S82) → Int → Int → Option ((List (S37)))
  | 0, _, _, _, _ => none
  | k + 1, x5, x19, x20, x21 => if x21 < x20 then (if 0 ≤ x21 then (if x21 < (x19.length : Int) then (if 0 ≤ ((rd_T82 x19 x21).f0) then (if ((rd_T82 x19 x21).f0) < (x5.length : Int) then (impl_ExecDo.l0 k (x5.set (((rd_T82 x19 x21).f0) : Int).toNat (⟨mn 1000000 (wrap64 (((rd_T37 x5 ((rd_T82 x19 x21).f0)).f0) + 1)), (rd_T82 x19 x21).f1⟩ : S37)) x19 x20 (wrap64 (x21 + 1))) else (none)) else (none)) else (none)) else (none)) else (some x5)
end
def impl_ExecDo.f (k : Nat) (l0 : List (S37)) (l1_0 : List (S39)) (l1_1 : List (S82)) (a1_2 : Int) (a1_3 : Int) : Option ((List (S37))) := (impl_BoxOk.f k l0).bind fun t485 => (if t485 = true then ((impl_ExecOk.f k l1_0 l1_1 a1_2 a1_3).bind fun t486 => (impl_ExecDo.j0 k l0 (!t486) l1_0 l1_1 a1_2 a1_3)) else (impl_ExecDo.j0 k l0 true l1_0 l1_1 a1_2 a1_3))
mutual
def impl_CertApply.j0 : Nat → Bool → Int → List (S37) → List (S84) → Bool → Int → Int → List (S39) → List (S82) → Int → Int → Option (Int × (List (S37)) × (List (S84)) × Int)
 | 0, _, _, _, _, _, _, _, _, _, _, _ => none
 | k + 1, x26, x495000, x495001, x495002, x496000, x496001, x496002, x496003, x496004, x496005, x496006 => if x26 = true then (some (0, ([] : List (S37)), ([] : List (S84)), (-1))) else ((impl_copied_impl_Box.f x495001).bind fun t499 => (if x496000 = true then ((impl_copied_impl_Done.f x495002).bind fun t503 => (some (wrap64 (x495000 + 1), t499, t503, 5))) else (impl_CertApply.l0 k x495002 (x495002.length : Int) 0 x495000 x495001 x495002 x496000 x496001 x496002 x496003 x496004 x496005 x496006 (wrap64 (x495000 + 1)) t499)))
def impl_CertApply.l0 : Nat → List (S84) → Int → Int → Int → List (S37) → List (S84) → Bool → Int → Int → List (S39) → List (S82) → Int → Int → Int → List (S37) → Option (Int × (List (S37)) × (List (S84)) × Int)
 | 0, _, _, _, _, _, _, _, _, _, _, _, _, _, _, _ => none
 | k + 1, x43, x44, x45, x495000, x495001, x495002, x496000, x496001, x496002, x496003, x496004, x496005, x496006, x503000, x503001 => if x45 < x44 then (if 0 ≤ x45 then (if x45 < (x43.length : Int) then (if ((rd_T84 x43 x45).f0.f0) = x496001 then (impl_CertApply.j2 k x43 x44 x45 (decide (((rd_T84 x43 x45).f0.f1) ≥ x496002)) x495000 x495001 x495002 x496000 x496001 x496002 x496003 x496004 x496005 x496006 x503000 x503001 ((rd_T84 x43 x45).f0.f0) ((rd_T84 x43 x45).f0.f1) ((rd_T84 x43 x45).f1) ((rd_T84 x43 x45).f2)) else (impl_CertApply.j2 k x43 x44 x45 false x495000 x495001 x495002 x496000 x496001 x496002 x496003 x496004 x496005 x496006 x503000 x503001 ((rd_T84 x43 x45).f0.f0) ((rd_T84 x43 x45).f0.f1) ((rd_T84 x43 x45).f1) ((rd_T84 x43 x45).f2))) else (none)) else (none)) else ((impl_ExecFresh.f k x495001 x496003 x496004 x496005 x496006).bind fun t512 => (if t512 = true then (if x496006 = 0 then ((impl_ExecDo.f k x495001 x496003 x496004 x496005 x496006).bind fun t513 => (impl_CertApply.j3 k x495000 x495001 x495002 x503000 t513 x496001 x496002 0 x496005)) else (impl_CertApply.j3 k x495000 x495001 x495002 x503000 x503001 x496001 x496002 2 0)) else (impl_CertApply.j3 k x495000 x495001 x495002 x503000 x503001 x496001 x496002 1 0)))
def impl_CertApply.j2 : Nat → List (S84) → Int → Int → Bool → Int → List (S37) → List (S84) → Bool → Int → Int → List (S39) → List (S82) → Int → Int → Int → List (S37) → Int → Int → Int → Int → Option (Int × (List (S37)) × (List (S84)) × Int)
 | 0, _, _, _, _, _, _, _, _, _, _, _, _, _, _, _, _, _, _, _, _ => none
 | k + 1, x43, x44, x45, x64, x495000, x495001, x495002, x496000, x496001, x496002, x496003, x496004, x496005, x496006, x503000, x503001, x508000, x508001, x508002, x508003 => if x64 = true then ((impl_copied_impl_Done.f x495002).bind fun t508 => (if x508001 = x496002 then (some (x503000, x503001, t508, 3)) else (some (x503000, x503001, t508, 4)))) else (impl_CertApply.l0 k x43 x44 (wrap64 (x45 + 1)) x495000 x495001 x495002 x496000 x496001 x496002 x496003 x496004 x496005 x496006 x503000 x503001)
def impl_CertApply.j3 : Nat → Int → List (S37) → List (S84) → Int → List (S37) → Int → Int → Int → Int → Option (Int × (List (S37)) × (List (S84)) × Int)
 | 0, _, _, _, _, _, _, _, _, _ => none
 | k + 1, x495000, x495001, x495002, x503000, x503001, x512000, x512001, x512002, x512003 => impl_CertApply.l1 k ([] : List (S84)) false x495002 (x495002.length : Int) 0 x503000 x503001 x512000 x512001 x512002 x512003
def impl_CertApply.l1 : Nat → List (S84) → Bool → List (S84) → Int → Int → Int → List (S37) → Int → Int → Int → Int → Option (Int × (List (S37)) × (List (S84)) × Int)
 | 0, _, _, _, _, _, _, _, _, _, _, _ => none
 | k + 1, x10, x11, x107, x108, x109, x503000, x503001, x512000, x512001, x512002, x512003 => if x109 < x108 then (if 0 ≤ x109 then (if x109 < (x107.length : Int) then (if x11 = true then (impl_CertApply.j5 k x10 x11 x107 x108 x109 false x503000 x503001 x512000 x512001 x512002 x512003 ((rd_T84 x107 x109).f0.f0) ((rd_T84 x107 x109).f0.f1) ((rd_T84 x107 x109).f1) ((rd_T84 x107 x109).f2)) else (impl_CertApply.j5 k x10 x11 x107 x108 x109 (decide (((rd_T84 x107 x109).f0.f0) ≥ x512000)) x503000 x503001 x512000 x512001 x512002 x512003 ((rd_T84 x107 x109).f0.f0) ((rd_T84 x107 x109).f0.f1) ((rd_T84 x107 x109).f1) ((rd_T84 x107 x109).f2))) else (none)) else (none)) else (if x11 = true then ((impl_copied_impl_Done.f x10).bind fun t516 => (some (x503000, x503001, t516, x512002))) else (if x10.length < 4398046511104 then ((impl_copied_impl_Done.f (x10 ++ [(⟨(⟨x512000, x512001⟩ : S75), x512002, x512003⟩ : S84)])).bind fun t522 => (some (x503000, x503001, t522, x512002))) else (none)))
def impl_CertApply.j5 : Nat → List (S84) → Bool → List (S84) → Int → Int → Bool → Int → List (S37) → Int → Int → Int → Int → Int → Int → Int → Int → Option (Int × (List (S37)) × (List (S84)) × Int)
 | 0, _, _, _, _, _, _, _, _, _, _, _, _, _, _, _, _ => none
 | k + 1, x10, x11, x107, x108, x109, x123, x503000, x503001, x512000, x512001, x512002, x512003, x527000, x527001, x527002, x527003 => if x123 = true then (if x10.length < 4398046511104 then ((some (x10 ++ [(⟨(⟨x512000, x512001⟩ : S75), x512002, x512003⟩ : S84)] : List (S84))).bind fun y527 => (if x527000 = x512000 then (impl_CertApply.l1 k y527 true x107 x108 (wrap64 (x109 + 1)) x503000 x503001 x512000 x512001 x512002 x512003) else (if y527.length < 4398046511104 then (impl_CertApply.l1 k (y527 ++ [(⟨(⟨x527000, x527001⟩ : S75), x527002, x527003⟩ : S84)]) true x107 x108 (wrap64 (x109 + 1)) x503000 x503001 x512000 x512001 x512002 x512003) else (none)))) else (none)) else (if x527000 = x512000 then (impl_CertApply.l1 k x10 x11 x107 x108 (wrap64 (x109 + 1)) x503000 x503001 x512000 x512001 x512002 x512003) else (if x10.length < 4398046511104 then (impl_CertApply.l1 k (x10 ++ [(⟨(⟨x527000, x527001⟩ : S75), x527002, x527003⟩ : S84)]) x11 x107 x108 (wrap64 (x109 + 1)) x503000 x503001 x512000 x512001 x512002 x512003) else (none)))
end
def impl_CertApply.f (k : Nat) (a0_0 : Int) (l0_1 : List (S37)) (l0_2 : List (S84)) (a1_0 : Bool) (a1_1 : Int) (a1_2 : Int) (l1_3 : List (S39)) (l1_4 : List (S82)) (a1_5 : Int) (a1_6 : Int) : Option (Int × (List (S37)) × (List (S84)) × Int) := (impl_CertOk.f k a0_0 l0_1 l0_2).bind fun t497 => (if t497 = true then ((impl_CertEntry.f k a1_0 a1_1 a1_2 l1_3 l1_4 a1_5 a1_6).bind fun t498 => (if t498 = true then (impl_CertApply.j0 k (a0_0 == 40) a0_0 l0_1 l0_2 a1_0 a1_1 a1_2 l1_3 l1_4 a1_5 a1_6) else (impl_CertApply.j0 k true a0_0 l0_1 l0_2 a1_0 a1_1 a1_2 l1_3 l1_4 a1_5 a1_6))) else (impl_CertApply.j0 k true a0_0 l0_1 l0_2 a1_0 a1_1 a1_2 l1_3 l1_4 a1_5 a1_6))
def impl_BoxOpen.f  : Option ((List (S37))) := if 4 ≤ 17592186044416 then (some (List.replicate 4 z37)) else (none)
def impl_CertOpen.f  : Option (Int × (List (S37)) × (List (S84))) := (impl_BoxOpen.f).bind fun t540 => (some (0, t540, ([] : List (S84))))
def impl_folded.l0 : Nat → List Int → List (S77) → Int → Int → Int → List (S37) → List (S84) → Option (Int × (List (S37)) × (List (S84)) × List Int)
  | 0, _, _, _, _, _, _, _ => none
  | k + 1, x5, x11, x12, x13, x552000, x552001, x552002 => if x13 < x12 then (if 0 ≤ x13 then (if x13 < (x11.length : Int) then ((impl_CertApply.f k x552000 x552001 x552002 ((rd_T77 x11 x13).f0) ((rd_T77 x11 x13).f1.f0) ((rd_T77 x11 x13).f1.f1) ((rd_T77 x11 x13).f2.f0) ((rd_T77 x11 x13).f2.f1) ((rd_T77 x11 x13).f2.f2) ((rd_T77 x11 x13).f2.f3)).bind fun bt554 => (if x5.length < 17592186044416 then (impl_folded.l0 k (x5 ++ [bt554.2.2.2]) x11 x12 (wrap64 (x13 + 1)) bt554.1 bt554.2.1 bt554.2.2.1) else (none))) else (none)) else (none)) else (some (x552000, x552001, x552002, x5))
def impl_folded.f (k : Nat) (l0 : List (S77)) : Option (Int × (List (S37)) × (List (S84)) × List Int) := (impl_CertOpen.f).bind fun bt544 => (impl_folded.l0 k ([] : List Int) l0 (l0.length : Int) 0 bt544.1 bt544.2.1 bt544.2.2)
def impl_CertFold.f (k : Nat) (l0 : List (S77)) : Option (Int × (List (S37)) × (List (S84))) := (impl_listOk.f k l0).bind fun t567 => (if t567 = true then ((impl_folded.f k l0).bind fun bt568 => (some (bt568.1, bt568.2.1, bt568.2.2.1))) else (some (0, ([] : List (S37)), ([] : List (S84)))))
def impl_same_impl_Box.l0 : Nat → List (S37) → List (S37) → Int → Int → Option (Bool)
  | 0, _, _, _, _ => none
  | k + 1, x0, x1, x12, x13 => if x13 < x12 then (if 0 ≤ x13 then (if x13 < (x0.length : Int) then (if x13 < (x1.length : Int) then (if (!(((rd_T37 x0 x13).f0) == ((rd_T37 x1 x13).f0)) || (!(((rd_T37 x0 x13).f1) == ((rd_T37 x1 x13).f1)))) = true then (some false) else (impl_same_impl_Box.l0 k x0 x1 x12 (wrap64 (x13 + 1)))) else (none)) else (none)) else (none)) else (some true)
def impl_same_impl_Box.f (k : Nat) (l0 : List (S37)) (l1 : List (S37)) : Option (Bool) := if (l0.length : Int) = (l1.length : Int) then (impl_same_impl_Box.l0 k l0 l1 (l0.length : Int) 0) else (some false)
def impl_BoxSame.f (k : Nat) (l0 : List (S37)) (l1 : List (S37)) : Option (Bool) := (impl_same_impl_Box.f k l0 l1).bind fun t581 => (some t581)
def impl_same_impl_Done.l0 : Nat → List (S84) → List (S84) → Int → Int → Option (Bool)
  | 0, _, _, _, _ => none
  | k + 1, x0, x1, x12, x13 => if x13 < x12 then (if 0 ≤ x13 then (if x13 < (x0.length : Int) then (if x13 < (x1.length : Int) then (if ((!(((rd_T84 x0 x13).f0.f0) == ((rd_T84 x1 x13).f0.f0)) || (!(((rd_T84 x0 x13).f0.f1) == ((rd_T84 x1 x13).f0.f1)))) || (!(((rd_T84 x0 x13).f1) == ((rd_T84 x1 x13).f1)) || (!(((rd_T84 x0 x13).f2) == ((rd_T84 x1 x13).f2))))) = true then (some false) else (impl_same_impl_Done.l0 k x0 x1 x12 (wrap64 (x13 + 1)))) else (none)) else (none)) else (none)) else (some true)
def impl_same_impl_Done.f (k : Nat) (l0 : List (S84)) (l1 : List (S84)) : Option (Bool) := if (l0.length : Int) = (l1.length : Int) then (impl_same_impl_Done.l0 k l0 l1 (l0.length : Int) 0) else (some false)
def impl_CertSame.f (k : Nat) (a0_0 : Int) (l0_1 : List (S37)) (l0_2 : List (S84)) (a1_0 : Int) (l1_1 : List (S37)) (l1_2 : List (S84)) : Option (Bool) := if a0_0 = a1_0 then ((impl_BoxSame.f k l0_1 l1_1).bind fun t586 => (if t586 = true then ((impl_same_impl_Done.f k l0_2 l1_2).bind fun t587 => (some t587)) else (some false))) else (some false)
def spec_CertFold.l0 : Nat → List (S77) → Int → Int → List (S37) → List (S84) → Option (Int × (List (S37)) × (List (S84)))
  | 0, _, _, _, _, _ => none
  | k + 1, x0, x4, x597000, x597001, x597002 => if x4 < (x0.length : Int) then (if 0 ≤ x4 then ((spec_CertEntry.f k ((rd_T77 x0 x4).f0) ((rd_T77 x0 x4).f1.f0) ((rd_T77 x0 x4).f1.f1) ((rd_T77 x0 x4).f2.f0) ((rd_T77 x0 x4).f2.f1) ((rd_T77 x0 x4).f2.f2) ((rd_T77 x0 x4).f2.f3)).bind fun t598 => (if t598 = true then ((spec_l5Apply.f k x597000 x597001 x597002 ((rd_T77 x0 x4).f0) ((rd_T77 x0 x4).f1.f0) ((rd_T77 x0 x4).f1.f1) ((rd_T77 x0 x4).f2.f0) ((rd_T77 x0 x4).f2.f1) ((rd_T77 x0 x4).f2.f2) ((rd_T77 x0 x4).f2.f3)).bind fun bt600 => (spec_CertFold.l0 k x0 (wrap64 (x4 + 1)) bt600.1 bt600.2.1 bt600.2.2.1)) else (some (0, ([] : List (S37)), ([] : List (S84)))))) else (none)) else (some (x597000, x597001, x597002))
def spec_CertFold.f (k : Nat) (l0 : List (S77)) : Option (Int × (List (S37)) × (List (S84))) := (spec_CertOpen.f).bind fun bt589 => (if (l0.length : Int) > 40 then (some (0, ([] : List (S37)), ([] : List (S84)))) else (spec_CertFold.l0 k l0 0 bt589.1 bt589.2.1 bt589.2.2))
def laws_FnCertFold.l0 : Nat → List (S77) → Int → Int → Int → List (S37) → List (S84) → Int → List (S37) → List (S84) → Option (Bool)
 | 0, _, _, _, _, _, _, _, _, _ => none
 | k + 1, x5, x7, x9, x620000, x620001, x620002, x641000, x641001, x641002 => if x9 < (x5.length : Int) then (if 0 ≤ x9 then ((impl_CertApply.f k x641000 x641001 x641002 ((rd_T77 x5 x9).f0) ((rd_T77 x5 x9).f1.f0) ((rd_T77 x5 x9).f1.f1) ((rd_T77 x5 x9).f2.f0) ((rd_T77 x5 x9).f2.f1) ((rd_T77 x5 x9).f2.f2) ((rd_T77 x5 x9).f2.f3)).bind fun bt642 => (if bt642.2.2.2 < 0 then (some false) else (laws_FnCertFold.l0 k x5 x7 (wrap64 (x9 + 1)) x620000 x620001 x620002 bt642.1 bt642.2.1 bt642.2.2.1))) else (none)) else ((impl_CertSame.f k x641000 x641001 x641002 x620000 x620001 x620002).bind fun t651 => (if t651 = true then (if (x5.length : Int) = 40 then ((impl_CertSame.f k x641000 x641001 x641002 x620000 x620001 x620002).bind fun t652 => (some t652)) else ((some (([] : List (S77)) : List (S77))).bind fun y653 => (if 0 ≤ x7 then (if x7 ≤ (x5.length : Int) then ((some (x5.take (x7 : Int).toNat : List (S77))).bind fun y656 => (if y653.length + y656.length < 1599289640401 then ((some (y653 ++ y656 : List (S77))).bind fun y661 => (if y661.length < 1599289640401 then ((some (y661 ++ [(⟨true, (⟨0, 0⟩ : S75), (⟨([] : List (S39)), ([] : List (S82)), 0, 0⟩ : S26)⟩ : S77)] : List (S77))).bind fun y664 => ((some (x5.drop (x7 : Int).toNat : List (S77))).bind fun y667 => (if y664.length + y667.length < 1599289640401 then ((impl_CertFold.f k (y664 ++ y667)).bind fun bt675 => ((impl_CertSame.f k x620000 bt675.2.1 bt675.2.2 x620000 x620001 x620002).bind fun t683 => (some t683))) else (none)))) else (none))) else (none))) else (none)) else (none)))) else ((impl_CertSame.f k x641000 x641001 x641002 x620000 x620001 x620002).bind fun t684 => (some t684))))
def laws_FnCertFold.f (k : Nat) (l0 : List Int) (l1 : List Int) : Option (Bool) := if (l0.length : Int) > 1048576 then (some true) else (if (l1.length : Int) > 1048576 then (some true) else ((spec_DrawCertFold.f k l0).bind fun t609 => ((impl_CertFold.f k t609).bind fun bt612 => ((spec_CertFold.f k t609).bind fun bt620 => ((impl_CertSame.f k bt612.1 bt612.2.1 bt612.2.2 bt620.1 bt620.2.1 bt620.2.2).bind fun t627 => (if t627 = true then (if (bt612.2.1.length : Int) = 0 then (some true) else (if (wrap64 ((t609.length : Int) + 1)) = 0 then (none) else (if 0 ≤ ((l1.length : Int) % (wrap64 ((t609.length : Int) + 1))) then (if ((l1.length : Int) % (wrap64 ((t609.length : Int) + 1))) ≤ (t609.length : Int) then ((impl_CertFold.f k (t609.take (((l1.length : Int) % (wrap64 ((t609.length : Int) + 1))) : Int).toNat)).bind fun bt633 => (laws_FnCertFold.l0 k t609 ((l1.length : Int) % (wrap64 ((t609.length : Int) + 1))) ((l1.length : Int) % (wrap64 ((t609.length : Int) + 1))) bt612.1 bt612.2.1 bt612.2.2 bt633.1 bt633.2.1 bt633.2.2)) else (none)) else (none)))) else (some false)))))))

open Go Go.Proofs Am
def tau : TypeId → Type
  | 3 => Int
  | 5 => Int
  | 37 => S37
  | 39 => S39
  | 77 => S77
  | 82 => S82
  | 84 => S84
  | 95 => S95
  | _ => Unit
def tabL : List (TypeId × TI) := [(2, ⟨[.int .i64], .scal⟩), (3, ⟨[.int .i64], .scal⟩), (4, ⟨[.bool], .scal⟩), (5, ⟨[.int .u8], .scal⟩), (6, ⟨[.int .u8], .scal⟩), (10, ⟨[.str], .scal⟩), (22, ⟨[.sl 5], .sl 5⟩), (23, ⟨[.sl 39], .sl 39⟩), (24, ⟨[.sl 82], .sl 82⟩), (26, ⟨[.sl 39, .sl 82, .int .i64, .int .i64], .st [(0, 23), (1, 24), (2, 3), (3, 3)]⟩), (29, ⟨[.sl 37], .sl 37⟩), (37, ⟨[.int .i64, .int .i64], .st [(0, 3), (1, 3)]⟩), (39, ⟨[.int .i64, .int .i64], .st [(0, 3), (1, 3)]⟩), (45, ⟨[.sl 3], .sl 3⟩), (60, ⟨[.sl 95], .sl 95⟩), (65, ⟨[.sl 77], .sl 77⟩), (67, ⟨[.sl 84], .sl 84⟩), (69, ⟨[.int .i64, .sl 37, .sl 84], .st [(0, 3), (1, 29), (2, 67)]⟩), (75, ⟨[.int .i64, .int .i64], .st [(0, 3), (1, 3)]⟩), (77, ⟨[.bool, .int .i64, .int .i64, .sl 39, .sl 82, .int .i64, .int .i64], .st [(0, 4), (1, 75), (3, 26)]⟩), (82, ⟨[.int .i64, .int .i64], .st [(0, 3), (1, 3)]⟩), (84, ⟨[.int .i64, .int .i64, .int .i64, .int .i64], .st [(0, 75), (2, 3), (3, 3)]⟩), (95, ⟨[.int .i64, .int .i64, .int .i64, .int .i64], .st [(0, 3), (1, 3), (2, 3), (3, 3)]⟩), (172, ⟨[.sl 5, .int .i64], .st [(0, 22), (1, 3)]⟩), (173, ⟨[.bool, .bool, .bool, .bool], .arr 4 4⟩)]
def rowT : (e : TypeId) → tau e → List (Lf tau)
  | 3, (x : Int) => [.i x]
  | 5, (x : Int) => [.i x]
  | 37, (x : S37) => [.i x.f0, .i x.f1]
  | 39, (x : S39) => [.i x.f0, .i x.f1]
  | 77, (x : S77) => [.b x.f0, .i x.f1.f0, .i x.f1.f1, .l 39 x.f2.f0, .l 82 x.f2.f1, .i x.f2.f2, .i x.f2.f3]
  | 82, (x : S82) => [.i x.f0, .i x.f1]
  | 84, (x : S84) => [.i x.f0.f0, .i x.f0.f1, .i x.f1, .i x.f2]
  | 95, (x : S95) => [.i x.f0, .i x.f1, .i x.f2, .i x.f3]
  | _, _ => []
instance : (e : TypeId) → Inhabited (tau e) := fun e => by unfold tau; split <;> first | exact ⟨(0 : Int)⟩ | exact ⟨false⟩ | exact ⟨(default : ByteArray)⟩ | exact ⟨[]⟩ | exact ⟨()⟩ | exact ⟨z37⟩ | exact ⟨z39⟩ | exact ⟨z77⟩ | exact ⟨z82⟩ | exact ⟨z84⟩ | exact ⟨z95⟩
def of3 : List (Lf tau) → Int
  | [(.i y0)] => y0
  | _ => (0 : Int)
def of5 : List (Lf tau) → Int
  | [(.i y0)] => y0
  | _ => (0 : Int)
def of37 : List (Lf tau) → S37
  | [(.i y0), (.i y1)] => (⟨y0, y1⟩ : S37)
  | _ => z37
def of39 : List (Lf tau) → S39
  | [(.i y0), (.i y1)] => (⟨y0, y1⟩ : S39)
  | _ => z39
def of77 : List (Lf tau) → S77
  | [(.b y0), (.i y1), (.i y2), (.l 39 y3), (.l 82 y4), (.i y5), (.i y6)] => (⟨y0, (⟨y1, y2⟩ : S75), (⟨y3, y4, y5, y6⟩ : S26)⟩ : S77)
  | _ => z77
def of82 : List (Lf tau) → S82
  | [(.i y0), (.i y1)] => (⟨y0, y1⟩ : S82)
  | _ => z82
def of84 : List (Lf tau) → S84
  | [(.i y0), (.i y1), (.i y2), (.i y3)] => (⟨(⟨y0, y1⟩ : S75), y2, y3⟩ : S84)
  | _ => z84
def of95 : List (Lf tau) → S95
  | [(.i y0), (.i y1), (.i y2), (.i y3)] => (⟨y0, y1, y2, y3⟩ : S95)
  | _ => z95
def ofT : (e : TypeId) → List (Lf tau) → tau e
  | 3, l => of3 l
  | 5, l => of5 l
  | 37, l => of37 l
  | 39, l => of39 l
  | 77, l => of77 l
  | 82, l => of82 l
  | 84, l => of84 l
  | 95, l => of95 l
  | _, _ => default
def TT : Tab tau := ⟨fun t => lookN t tabL, rowT, ofT, fun t => memN t [3, 5, 37, 39, 77, 82, 84, 95]⟩
def byT : TypeId → Nat := fun t => lookD 1 t [(2, 8), (3, 8), (4, 1), (5, 1), (6, 1), (10, 16), (22, 24), (23, 24), (24, 24), (26, 64), (29, 24), (37, 16), (39, 16), (45, 24), (60, 24), (65, 24), (67, 24), (69, 56), (75, 16), (77, 88), (82, 16), (84, 32), (95, 32), (172, 32), (173, 4)]
def modeL : List (Nat × Nat) := [(78, 1), (79, 1), (145, 1), (150, 1), (99, 1), (119, 1), (110, 1), (43, 1)]
def shpL : List (Nat × List PS) := [(78, [.one (.sl 5)]), (19, [.agg [.sl 39, .sl 82, .any, .any], .agg [.sl 39, .sl 82, .any, .any]]), (84, [.one .any]), (85, [.one .any]), (86, [.one (.sl 39), .one .any]), (87, [.one (.sl 82), .one .any]), (23, [.agg [.sl 39, .sl 82, .any, .any]]), (120, [.agg [.any, .any]]), (53, [.agg [.any, .any, .any, .sl 39, .sl 82, .any, .any]]), (79, [.one .any, .one .any]), (149, []), (114, []), (22, [.one (.sl 37)]), (21, [.one (.sl 37), .agg [.sl 39, .sl 82, .any, .any]]), (167, [.one .any, .one .any]), (146, [.one (.own 37), .agg [.sl 39, .sl 82, .any, .any]]), (155, [.agg [.any, .sl 37, .sl 84], .one .any]), (156, [.one (.sl 84), .agg [.any, .any, .any, .any]]), (115, [.agg [.any, .own 37, .own 84], .agg [.any, .any, .any, .sl 39, .sl 82, .any, .any]]), (145, [.one .any, .one (.own 3)]), (150, [.one .any]), (99, [.one .any]), (170, [.one .any]), (153, [.agg [.any, .any, .any, .any]]), (106, [.one (.sl 95)]), (175, [.one (.sl 37), .agg [.own 39, .own 82, .any, .any], .one .any]), (176, [.agg [.own 39, .own 82, .any, .any], .one .any, .one .any]), (166, [.one (.sl 37), .agg [.own 39, .own 82, .any, .any], .one (.own 3), .agg [.any, .any, .any, .any]]), (144, [.one (.sl 37), .one (.sl 95)]), (119, [.one .any, .one (.own 37)]), (110, [.one .any]), (43, [.one (.sl 5)]), (80, [.one (.sl 39), .one (.sl 39)]), (81, [.one (.sl 82), .one (.sl 82)]), (18, [.agg [.sl 39, .sl 82, .any, .any], .agg [.sl 39, .sl 82, .any, .any]]), (57, [.agg [.any, .any, .any, .sl 39, .sl 82, .any, .any], .agg [.any, .any, .any, .sl 39, .sl 82, .any, .any]]), (122, [.one .any, .one .any, .one .any]), (83, [.agg [.sl 39, .sl 82, .any, .any]]), (121, [.agg [.any, .any]]), (52, [.agg [.any, .any, .any, .sl 39, .sl 82, .any, .any]]), (111, [.one (.sl 77)]), (82, [.one (.sl 37)]), (20, [.one (.sl 37), .agg [.sl 39, .sl 82, .any, .any]]), (50, [.agg [.any, .sl 37, .sl 84]]), (93, [.one (.sl 37)]), (116, [.one (.sl 84)]), (117, [.one (.sl 37), .agg [.sl 39, .sl 82, .any, .any]]), (47, [.agg [.any, .sl 37, .sl 84], .agg [.any, .any, .any, .sl 39, .sl 82, .any, .any]]), (125, []), (60, []), (112, [.one (.sl 77)]), (44, [.one (.sl 77)]), (101, [.one (.sl 37), .one (.sl 37)]), (39, [.one (.sl 37), .one (.sl 37)]), (113, [.one (.sl 84), .one (.sl 84)]), (45, [.agg [.any, .sl 37, .sl 84], .agg [.any, .sl 37, .sl 84]]), (46, [.one (.sl 77)]), (6, [.one (.sl 5), .one (.sl 5)])]
def persL : List (Nat × List Nat) := [(146, [0]), (115, [0]), (145, [1]), (175, [1]), (176, [0]), (166, [2, 1]), (119, [1])]
def pnL : List (Nat × Nat) := [(145, 1), (166, 1), (119, 1)]
def pnT : FuncId → Nat := fun f => lookD 0 f pnL
def mkE (keep : List (Nat × List (Nat × PS))) (res : List PS) (nb : NB) : Env tau := { T := TT, by_ := byT, mode := fun f => lookD 0 f modeL, shp := fun f => lookD [] f shpL, keep := fun i => lookN i keep, res := res, pers := fun f => lookD [] f persL, pn := pnT, nb := nb }
theorem asked : Asked Try.prog byT tabL := ⟨by kernel_rfl, by kernel_rfl, by kernel_rfl, by kernel_rfl⟩
theorem el_3 : ElOk TT 3 := by
 intro ti h
 replace h : some (⟨[.int .i64], .scal⟩ : TI) = some ti := h
 cases h
 refine ⟨fun x => rfl, fun l hl => ?_⟩
 obtain ⟨y0, l0, e0, h0⟩ := wts_i hl
 have e1 := wts_nil h0
 subst e1
 subst e0
 rfl
theorem el_5 : ElOk TT 5 := by
 intro ti h
 replace h : some (⟨[.int .u8], .scal⟩ : TI) = some ti := h
 cases h
 refine ⟨fun x => rfl, fun l hl => ?_⟩
 obtain ⟨y0, l0, e0, h0⟩ := wts_i hl
 have e1 := wts_nil h0
 subst e1
 subst e0
 rfl
theorem el_37 : ElOk TT 37 := by
 intro ti h
 replace h : some (⟨[.int .i64, .int .i64], .st [(0, 3), (1, 3)]⟩ : TI) = some ti := h
 cases h
 refine ⟨fun x => rfl, fun l hl => ?_⟩
 obtain ⟨y0, l0, e0, h0⟩ := wts_i hl
 obtain ⟨y1, l1, e1, h1⟩ := wts_i h0
 have e2 := wts_nil h1
 subst e2
 subst e1
 subst e0
 rfl
theorem el_39 : ElOk TT 39 := by
 intro ti h
 replace h : some (⟨[.int .i64, .int .i64], .st [(0, 3), (1, 3)]⟩ : TI) = some ti := h
 cases h
 refine ⟨fun x => rfl, fun l hl => ?_⟩
 obtain ⟨y0, l0, e0, h0⟩ := wts_i hl
 obtain ⟨y1, l1, e1, h1⟩ := wts_i h0
 have e2 := wts_nil h1
 subst e2
 subst e1
 subst e0
 rfl
theorem el_77 : ElOk TT 77 := by
 intro ti h
 replace h : some (⟨[.bool, .int .i64, .int .i64, .sl 39, .sl 82, .int .i64, .int .i64], .st [(0, 4), (1, 75), (3, 26)]⟩ : TI) = some ti := h
 cases h
 refine ⟨fun x => rfl, fun l hl => ?_⟩
 obtain ⟨y0, l0, e0, h0⟩ := wts_b hl
 obtain ⟨y1, l1, e1, h1⟩ := wts_i h0
 obtain ⟨y2, l2, e2, h2⟩ := wts_i h1
 obtain ⟨y3, l3, e3, h3⟩ := wts_l h2
 obtain ⟨y4, l4, e4, h4⟩ := wts_l h3
 obtain ⟨y5, l5, e5, h5⟩ := wts_i h4
 obtain ⟨y6, l6, e6, h6⟩ := wts_i h5
 have e7 := wts_nil h6
 subst e7
 subst e6
 subst e5
 subst e4
 subst e3
 subst e2
 subst e1
 subst e0
 rfl
theorem el_82 : ElOk TT 82 := by
 intro ti h
 replace h : some (⟨[.int .i64, .int .i64], .st [(0, 3), (1, 3)]⟩ : TI) = some ti := h
 cases h
 refine ⟨fun x => rfl, fun l hl => ?_⟩
 obtain ⟨y0, l0, e0, h0⟩ := wts_i hl
 obtain ⟨y1, l1, e1, h1⟩ := wts_i h0
 have e2 := wts_nil h1
 subst e2
 subst e1
 subst e0
 rfl
theorem el_84 : ElOk TT 84 := by
 intro ti h
 replace h : some (⟨[.int .i64, .int .i64, .int .i64, .int .i64], .st [(0, 75), (2, 3), (3, 3)]⟩ : TI) = some ti := h
 cases h
 refine ⟨fun x => rfl, fun l hl => ?_⟩
 obtain ⟨y0, l0, e0, h0⟩ := wts_i hl
 obtain ⟨y1, l1, e1, h1⟩ := wts_i h0
 obtain ⟨y2, l2, e2, h2⟩ := wts_i h1
 obtain ⟨y3, l3, e3, h3⟩ := wts_i h2
 have e4 := wts_nil h3
 subst e4
 subst e3
 subst e2
 subst e1
 subst e0
 rfl
theorem el_95 : ElOk TT 95 := by
 intro ti h
 replace h : some (⟨[.int .i64, .int .i64, .int .i64, .int .i64], .st [(0, 3), (1, 3), (2, 3), (3, 3)]⟩ : TI) = some ti := h
 cases h
 refine ⟨fun x => rfl, fun l hl => ?_⟩
 obtain ⟨y0, l0, e0, h0⟩ := wts_i hl
 obtain ⟨y1, l1, e1, h1⟩ := wts_i h0
 obtain ⟨y2, l2, e2, h2⟩ := wts_i h1
 obtain ⟨y3, l3, e3, h3⟩ := wts_i h2
 have e4 := wts_nil h3
 subst e4
 subst e3
 subst e2
 subst e1
 subst e0
 rfl
theorem pq : PQ Try.prog TT byT := pq_of asked rfl (fun e he => by
 have h := memN_iff.1 he
 simp only [List.mem_cons, List.not_mem_nil, or_false] at h
 rcases h with rfl | rfl | rfl | rfl | rfl | rfl | rfl | rfl
 · exact el_3
 · exact el_5
 · exact el_37
 · exact el_39
 · exact el_77
 · exact el_82
 · exact el_84
 · exact el_95)
theorem hmix : Try.prog.follows .mixedOrders = true := by kernel_rfl
noncomputable def c_78 (args : List (AV tau)) (m : Mem tau) (κ : AV tau → Mem tau → Option Unit) : Option Unit := match args, m.bx, m.rw with
  | [b0], [], [] => bO (asSl 5 b0) fun l0 => callX (fun n => spec_l15Open.f l0) fun t => κ (.ptr 0 0) ⟨[some (172, [.sl 5 (t.1), .int .i64 (t.2)])], []⟩
  | _, _, _ => none
def E_78 : Env tau := mkE [(0, [(0, .one (.own 5))]), (1, [(0, .one (.own 5))]), (2, [(0, .one (.own 5))]), (3, [(0, .one (.own 5))])] [.one .any] ⟨0, 0⟩
noncomputable def c_19 (args : List (AV tau)) (m : Mem tau) (κ : AV tau → Mem tau → Option Unit) : Option Unit := match args, m.bx, m.rw with
  | [.agg [b0, b1, b2, b3], .agg [b4, b5, b6, b7]], [], [] => bO (asSl 39 b0) fun l0_0 => bO (asSl 82 b1) fun l0_1 => bO (asI .i64 b2) fun a0_2 => bO (asI .i64 b3) fun a0_3 => bO (asSl 39 b4) fun l1_0 => bO (asSl 82 b5) fun l1_1 => bO (asI .i64 b6) fun a1_2 => bO (asI .i64 b7) fun a1_3 => callX (fun n => spec_ExecSame.f n l0_0 l0_1 a0_2 a0_3 l1_0 l1_1 a1_2 a1_3) fun t => κ (.bool (t)) ⟨[], []⟩
  | _, _, _ => none
def E_19 : Env tau := mkE [(0, [(0, .agg [.own 39, .own 82, .any, .any]), (1, .agg [.own 39, .own 82, .any, .any])]), (1, [(2, .one .any), (3, .one .any)]), (2, []), (3, [(2, .one .any), (3, .one .any)]), (4, [(2, .one .any), (3, .one .any), (5, .one .any)]), (5, [(2, .one .any), (3, .one .any), (5, .one .any)]), (6, [(2, .one .any), (3, .one .any), (5, .one .any)]), (7, []), (8, [(2, .one .any), (3, .one .any)]), (9, [(2, .one .any), (3, .one .any), (6, .one .any)]), (10, [(2, .one .any), (3, .one .any), (6, .one .any)]), (11, [(2, .one .any), (3, .one .any), (6, .one .any)]), (12, []), (13, [])] [.one .any] ⟨0, 0⟩
noncomputable def c_84 (args : List (AV tau)) (m : Mem tau) (κ : AV tau → Mem tau → Option Unit) : Option Unit := match args, m.bx, m.rw with
  | [b0], [], [] => bO (asI .i64 b0) fun a0 => callX (fun n => spec_l1Num.f a0) fun t => κ (.bool (t)) ⟨[], []⟩
  | _, _, _ => none
def E_84 : Env tau := mkE [(0, [(0, .one .any)]), (1, [(0, .one .any)])] [.one .any] ⟨0, 0⟩
noncomputable def c_85 (args : List (AV tau)) (m : Mem tau) (κ : AV tau → Mem tau → Option Unit) : Option Unit := match args, m.bx, m.rw with
  | [b0], [], [] => bO (asI .i64 b0) fun a0 => callX (fun n => spec_l2Box.f a0) fun t => κ (.bool (t)) ⟨[], []⟩
  | _, _, _ => none
def E_85 : Env tau := mkE [(0, [(0, .one .any)]), (1, [(0, .one .any)])] [.one .any] ⟨0, 0⟩
noncomputable def c_86 (args : List (AV tau)) (m : Mem tau) (κ : AV tau → Mem tau → Option Unit) : Option Unit := match args, m.bx, m.rw with
  | [b0, b1], [], [] => bO (asSl 39 b0) fun l0 => bO (asI .i64 b1) fun a1 => callX (fun n => spec_l3Saw.f n l0 a1) fun t => κ (.bool (t)) ⟨[], []⟩
  | _, _, _ => none
def E_86 : Env tau := mkE [(0, [(0, .one (.own 39)), (1, .one .any)]), (1, [(0, .one (.own 39)), (1, .one .any)]), (2, [(0, .one (.own 39)), (1, .one .any), (5, .one .any)]), (3, [(0, .one (.own 39)), (1, .one .any), (5, .one .any)]), (4, [(0, .one (.own 39)), (1, .one .any), (5, .one .any)]), (5, []), (6, [])] [.one .any] ⟨0, 0⟩
noncomputable def c_87 (args : List (AV tau)) (m : Mem tau) (κ : AV tau → Mem tau → Option Unit) : Option Unit := match args, m.bx, m.rw with
  | [b0, b1], [], [] => bO (asSl 82 b0) fun l0 => bO (asI .i64 b1) fun a1 => callX (fun n => spec_l3At.f n l0 a1) fun t => κ (.int .i64 (t)) ⟨[], []⟩
  | _, _, _ => none
def E_87 : Env tau := mkE [(0, [(0, .one (.own 82)), (1, .one .any)]), (1, [(0, .one (.own 82)), (1, .one .any)]), (2, [(0, .one (.own 82)), (1, .one .any), (5, .one .any)]), (3, [(0, .one (.own 82)), (1, .one .any), (5, .one .any)]), (4, [(0, .one (.own 82)), (1, .one .any), (5, .one .any)]), (5, [(5, .one .any)]), (6, [])] [.one .any] ⟨0, 0⟩
noncomputable def c_23 (args : List (AV tau)) (m : Mem tau) (κ : AV tau → Mem tau → Option Unit) : Option Unit := match args, m.bx, m.rw with
  | [.agg [b0, b1, b2, b3]], [], [] => bO (asSl 39 b0) fun l0_0 => bO (asSl 82 b1) fun l0_1 => bO (asI .i64 b2) fun a0_2 => bO (asI .i64 b3) fun a0_3 => callX (fun n => spec_ExecOk.f n l0_0 l0_1 a0_2 a0_3) fun t => κ (.bool (t)) ⟨[], []⟩
  | _, _, _ => none
def E_23 : Env tau := mkE [(0, [(0, .agg [.own 39, .own 82, .any, .any])]), (1, [(1, .one .any)]), (2, []), (3, [(1, .one .any)]), (4, [(1, .one .any), (3, .one .any)]), (5, [(1, .one .any), (3, .one .any)]), (6, [(1, .one .any), (3, .one .any)]), (7, []), (8, [(1, .one .any)]), (9, [(1, .one .any), (4, .one .any)]), (10, [(1, .one .any), (4, .one .any)]), (11, [(1, .one .any), (4, .one .any)]), (12, []), (13, [])] [.one .any] ⟨0, 0⟩
noncomputable def c_120 (args : List (AV tau)) (m : Mem tau) (κ : AV tau → Mem tau → Option Unit) : Option Unit := match args, m.bx, m.rw with
  | [.agg [b0, b1]], [], [] => bO (asI .i64 b0) fun a0_0 => bO (asI .i64 b1) fun a0_1 => callX (fun n => spec_l5Req.f a0_0 a0_1) fun t => κ (.bool (t)) ⟨[], []⟩
  | _, _, _ => none
def E_120 : Env tau := mkE [(0, [(0, .agg [.any, .any])]), (1, [(1, .one .any)])] [.one .any] ⟨0, 0⟩
noncomputable def c_53 (args : List (AV tau)) (m : Mem tau) (κ : AV tau → Mem tau → Option Unit) : Option Unit := match args, m.bx, m.rw with
  | [.agg [b0, b1, b2, b3, b4, b5, b6]], [], [] => bO (asB b0) fun a0_0 => bO (asI .i64 b1) fun a0_1 => bO (asI .i64 b2) fun a0_2 => bO (asSl 39 b3) fun l0_3 => bO (asSl 82 b4) fun l0_4 => bO (asI .i64 b5) fun a0_5 => bO (asI .i64 b6) fun a0_6 => callX (fun n => spec_CertEntry.f n a0_0 a0_1 a0_2 l0_3 l0_4 a0_5 a0_6) fun t => κ (.bool (t)) ⟨[], []⟩
  | _, _, _ => none
def E_53 : Env tau := mkE [(0, [(0, .agg [.any, .any, .any, .own 39, .own 82, .any, .any])]), (1, [(1, .one .any)]), (2, [(1, .one .any)]), (3, [(1, .one .any)])] [.one .any] ⟨0, 0⟩
noncomputable def c_79 (args : List (AV tau)) (m : Mem tau) (κ : AV tau → Mem tau → Option Unit) : Option Unit := match args, m.bx, m.rw with
  | [p0, b0], [some (t0_, [c0_0, c0_1])], [] => bO (asPtr 0 p0) fun _ => bO (asT 172 t0_) fun _ => bO (asSl 5 c0_0) fun s0_0 => bO (asI .i64 c0_1) fun s0_1 => bO (asI .i64 b0) fun a1 => callX (fun n => spec_l15Rd_pick.f n s0_0 s0_1 a1) fun t => κ (.int .i64 (t.1)) ⟨[some (172, [.sl 5 (s0_0), .int .i64 (t.2)])], []⟩
  | _, _, _ => none
def E_79 : Env tau := mkE [(0, [(0, .one .any), (1, .one .any)]), (1, [(0, .one .any), (1, .one .any)]), (2, [(0, .one .any), (1, .one .any)]), (3, []), (4, [(0, .one .any), (1, .one .any)]), (5, [(0, .one .any), (1, .one .any), (5, .one .any)]), (6, [(0, .one .any), (1, .one .any), (5, .one .any)]), (7, [(0, .one .any), (1, .one .any), (5, .one .any)]), (8, [(1, .one .any), (6, .one .any)]), (9, [(1, .one .any), (6, .one .any)])] [.one .any] ⟨1, 0⟩
noncomputable def c_149 (args : List (AV tau)) (m : Mem tau) (κ : AV tau → Mem tau → Option Unit) : Option Unit := match args, m.bx, m.rw with
  | [], [], [] => callX (fun n => spec_BoxOpen.f) fun t => κ (.own 0 0) ⟨[], [some ⟨37, t, 0⟩]⟩
  | _, _, _ => none
def E_149 : Env tau := mkE [(0, []), (1, [])] [.one (.own 37)] ⟨0, 0⟩
noncomputable def c_114 (args : List (AV tau)) (m : Mem tau) (κ : AV tau → Mem tau → Option Unit) : Option Unit := match args, m.bx, m.rw with
  | [], [], [] => callX (fun n => spec_CertOpen.f) fun t => κ (.agg [.int .i64 (t.1), .own 0 0, .own 1 0]) ⟨[], [some ⟨37, t.2.1, 0⟩, some ⟨84, t.2.2, 0⟩]⟩
  | _, _, _ => none
def E_114 : Env tau := mkE [(0, []), (1, [(0, .one .any)])] [.agg [.any, .own 37, .own 84]] ⟨0, 0⟩
noncomputable def c_22 (args : List (AV tau)) (m : Mem tau) (κ : AV tau → Mem tau → Option Unit) : Option Unit := match args, m.bx, m.rw with
  | [b0], [], [] => bO (asSl 37 b0) fun l0 => callX (fun n => spec_BoxOk.f n l0) fun t => κ (.bool (t)) ⟨[], []⟩
  | _, _, _ => none
def E_22 : Env tau := mkE [(0, [(0, .one (.own 37))]), (1, [(0, .one (.own 37))]), (2, []), (3, [(0, .one (.own 37))]), (4, [(0, .one (.own 37)), (3, .one .any)]), (5, [(0, .one (.own 37)), (3, .one .any)]), (6, [(0, .one (.own 37)), (3, .one .any)]), (7, []), (8, [])] [.one .any] ⟨0, 0⟩
noncomputable def c_21 (args : List (AV tau)) (m : Mem tau) (κ : AV tau → Mem tau → Option Unit) : Option Unit := match args, m.bx, m.rw with
  | [b0, .agg [b1, b2, b3, b4]], [], [] => bO (asSl 37 b0) fun l0 => bO (asSl 39 b1) fun l1_0 => bO (asSl 82 b2) fun l1_1 => bO (asI .i64 b3) fun a1_2 => bO (asI .i64 b4) fun a1_3 => callX (fun n => spec_ExecFresh.f n l0 l1_0 l1_1 a1_2 a1_3) fun t => κ (.bool (t)) ⟨[], []⟩
  | _, _, _ => none
def E_21 : Env tau := mkE [(0, [(0, .one (.own 37)), (1, .agg [.own 39, .own 82, .any, .any])]), (1, [(0, .one (.own 37)), (3, .one .any)]), (2, []), (3, [(0, .one (.own 37)), (3, .one .any)]), (4, [(0, .one (.own 37)), (3, .one .any), (5, .one .any)]), (5, [(0, .one (.own 37)), (3, .one .any), (5, .one .any)]), (6, [(0, .one (.own 37)), (3, .one .any), (5, .one .any)]), (7, []), (8, [])] [.one .any] ⟨0, 0⟩
noncomputable def c_167 (args : List (AV tau)) (m : Mem tau) (κ : AV tau → Mem tau → Option Unit) : Option Unit := match args, m.bx, m.rw with
  | [b0, b1], [], [] => bO (asI .i64 b0) fun a0 => bO (asI .i64 b1) fun a1 => callX (fun n => spec_l1Min.f a0 a1) fun t => κ (.int .i64 (t)) ⟨[], []⟩
  | _, _, _ => none
def E_167 : Env tau := mkE [(0, [(0, .one .any), (1, .one .any)]), (1, [(0, .one .any), (1, .one .any)]), (2, [(0, .one .any)]), (3, [(1, .one .any)])] [.one .any] ⟨0, 0⟩
noncomputable def c_146 (args : List (AV tau)) (m : Mem tau) (κ : AV tau → Mem tau → Option Unit) : Option Unit := match args, m.bx, m.rw with
  | [b0, .agg [b1, b2, b3, b4]], [], [r0] => bO (asOwn 0 b0) fun _ => bO (asRow 37 r0) fun l0 => bO (asSl 39 b1) fun l1_0 => bO (asSl 82 b2) fun l1_1 => bO (asI .i64 b3) fun a1_2 => bO (asI .i64 b4) fun a1_3 => callX (fun n => spec_l3Do.f n l0 l1_0 l1_1 a1_2 a1_3) fun t => κ (.own 0 0) ⟨[], [some ⟨37, t, 0⟩]⟩
  | _, _, _ => none
def E_146 : Env tau := mkE [(0, [(0, .one (.own 37)), (1, .agg [.own 39, .own 82, .any, .any])]), (1, [(0, .one (.own 37)), (3, .one .any)]), (2, [(0, .one (.own 37)), (3, .one .any), (5, .one .any)]), (3, [(0, .one (.own 37)), (3, .one .any), (5, .one .any)]), (4, [(0, .one (.own 37)), (3, .one .any), (5, .one .any)]), (5, [(0, .one (.own 37)), (3, .one .any), (5, .one .any), (6, .one .any)]), (6, [(0, .one (.own 37))])] [.one (.own 37)] ⟨0, 0⟩
noncomputable def c_155 (args : List (AV tau)) (m : Mem tau) (κ : AV tau → Mem tau → Option Unit) : Option Unit := match args, m.bx, m.rw with
  | [.agg [b0, b1, b2], b3], [], [] => bO (asI .i64 b0) fun a0_0 => bO (asSl 37 b1) fun l0_1 => bO (asSl 84 b2) fun l0_2 => bO (asI .i64 b3) fun a1 => callX (fun n => spec_l5Last.f n a0_0 l0_1 l0_2 a1) fun t => κ (.tup [.agg [.int .i64 (t.1), .int .i64 (t.2.1), .int .i64 (t.2.2.1), .int .i64 (t.2.2.2.1)], .bool (t.2.2.2.2)]) ⟨[], []⟩
  | _, _, _ => none
def E_155 : Env tau := mkE [(0, [(0, .agg [.any, .own 37, .own 84]), (1, .one .any)]), (1, [(1, .one .any), (2, .one .any), (4, .one .any)]), (2, [(1, .one .any), (2, .one .any), (4, .one .any), (6, .one .any)]), (3, [(1, .one .any), (2, .one .any), (4, .one .any), (6, .one .any)]), (4, [(1, .one .any), (2, .one .any), (4, .one .any), (6, .one .any)]), (5, [(2, .one .any), (4, .one .any), (6, .one .any)]), (6, [(4, .one .any)])] [.agg [.any, .any, .any, .any], .one .any] ⟨0, 0⟩
noncomputable def c_156 (args : List (AV tau)) (m : Mem tau) (κ : AV tau → Mem tau → Option Unit) : Option Unit := match args, m.bx, m.rw with
  | [b0, .agg [b1, b2, b3, b4]], [], [] => bO (asSl 84 b0) fun l0 => bO (asI .i64 b1) fun a1_0 => bO (asI .i64 b2) fun a1_1 => bO (asI .i64 b3) fun a1_2 => bO (asI .i64 b4) fun a1_3 => callX (fun n => spec_l5Put.f n l0 a1_0 a1_1 a1_2 a1_3) fun t => κ (.own 0 0) ⟨[], [some ⟨84, t, 0⟩]⟩
  | _, _, _ => none
def E_156 : Env tau := mkE [(0, [(0, .one (.own 84)), (1, .agg [.any, .any, .any, .any])]), (1, [(0, .one (.own 84)), (3, .one .any)]), (2, [(0, .one (.own 84)), (3, .one .any), (5, .one (.own 84))]), (3, [(0, .one (.own 84)), (3, .one .any), (5, .one (.own 84)), (6, .one .any)]), (4, [(0, .one (.own 84)), (3, .one .any), (5, .one (.own 84)), (6, .one .any), (7, .one .any)]), (5, [(0, .one (.own 84)), (3, .one .any), (5, .one (.own 84)), (6, .one .any), (7, .one .any)]), (6, [(0, .one (.own 84)), (3, .one .any), (5, .one (.own 84)), (6, .one .any), (7, .one .any)]), (7, [(0, .one (.own 84)), (3, .one .any), (5, .one (.own 84)), (7, .one .any)]), (8, [(0, .one (.own 84)), (3, .one .any), (5, .one (.own 84)), (7, .one .any)]), (9, [(0, .one (.own 84)), (3, .one .any), (5, .one (.own 84)), (6, .one .any), (7, .one .any)]), (10, [(0, .one (.own 84)), (3, .one .any), (5, .one (.own 84)), (6, .one .any), (7, .one .any)]), (11, [(3, .one .any), (5, .one (.own 84)), (6, .one .any)]), (12, [(3, .one .any), (5, .one (.own 84))]), (13, [(5, .one (.own 84))])] [.one (.own 84)] ⟨0, 0⟩
noncomputable def c_115 (args : List (AV tau)) (m : Mem tau) (κ : AV tau → Mem tau → Option Unit) : Option Unit := match args, m.bx, m.rw with
  | [.agg [b0, b1, b2], .agg [b3, b4, b5, b6, b7, b8, b9]], [], [r0, r1] => bO (asI .i64 b0) fun a0_0 => bO (asOwn 0 b1) fun _ => bO (asRow 37 r0) fun l0_1 => bO (asOwn 1 b2) fun _ => bO (asRow 84 r1) fun l0_2 => bO (asB b3) fun a1_0 => bO (asI .i64 b4) fun a1_1 => bO (asI .i64 b5) fun a1_2 => bO (asSl 39 b6) fun l1_3 => bO (asSl 82 b7) fun l1_4 => bO (asI .i64 b8) fun a1_5 => bO (asI .i64 b9) fun a1_6 => callX (fun n => spec_l5Apply.f n a0_0 l0_1 l0_2 a1_0 a1_1 a1_2 l1_3 l1_4 a1_5 a1_6) fun t => κ (.tup [.agg [.int .i64 (t.1), .own 0 0, .own 1 0], .int .i64 (t.2.2.2)]) ⟨[], [some ⟨37, t.2.1, 0⟩, some ⟨84, t.2.2.1, 0⟩]⟩
  | _, _, _ => none
def E_115 : Env tau := mkE [(0, [(0, .agg [.any, .own 37, .own 84]), (1, .agg [.any, .any, .any, .own 39, .own 82, .any, .any])]), (1, [(2, .one .any), (3, .one .any), (4, .one .any)]), (2, [(2, .one .any), (3, .one .any), (4, .one .any)]), (3, [(2, .one .any), (4, .one .any)]), (4, [(2, .one .any), (3, .one .any), (4, .one .any)]), (5, [(2, .one .any), (3, .one .any), (4, .one .any), (6, .one .any), (7, .one .any)]), (6, [(2, .one .any), (4, .one .any)]), (7, [(2, .one .any), (3, .one .any), (4, .one .any), (6, .one .any), (7, .one .any)]), (8, [(2, .one .any), (4, .one .any)]), (9, [(2, .one .any), (3, .one .any), (4, .one .any)]), (10, [(2, .one .any), (3, .one .any), (4, .one .any), (8, .one .any)]), (11, [(2, .one .any), (3, .one .any), (4, .one .any), (8, .one .any)]), (12, [(2, .one .any), (3, .one .any), (4, .one .any), (8, .one .any)]), (13, [(2, .one .any), (3, .one .any), (4, .one .any), (8, .one .any)]), (14, [(2, .one .any), (3, .one .any), (4, .one .any), (8, .one .any)]), (15, [(2, .one .any), (3, .one .any), (4, .one .any), (8, .one .any)]), (16, [(2, .one .any), (4, .one .any), (8, .one .any)]), (17, [(2, .one .any), (4, .one .any), (8, .one .any)])] [.agg [.any, .own 37, .own 84], .one .any] ⟨0, 0⟩
noncomputable def c_145 (args : List (AV tau)) (m : Mem tau) (κ : AV tau → Mem tau → Option Unit) : Option Unit := match args, m.bx, m.rw with
  | [p0, b0], [some (t0_, [c0_0, c0_1])], [r0] => bO (asPtr 0 p0) fun _ => bO (asT 172 t0_) fun _ => bO (asSl 5 c0_0) fun s0_0 => bO (asI .i64 c0_1) fun s0_1 => bO (asOwn 0 b0) fun _ => bO (asRow 3 r0) fun l1 => callX (fun n => spec_l15Rd_num.f n s0_0 s0_1 l1) fun t => κ (.int .i64 (t.1)) ⟨[some (172, [.sl 5 (s0_0), .int .i64 (t.2)])], [some ⟨3, l1, 0⟩]⟩
  | _, _, _ => none
def E_145 : Env tau := mkE [(0, [(0, .one .any), (1, .one (.own 3))]), (1, [(0, .one .any), (1, .one (.own 3))])] [.one .any] ⟨1, 1⟩
noncomputable def c_150 (args : List (AV tau)) (m : Mem tau) (κ : AV tau → Mem tau → Option Unit) : Option Unit := match args, m.bx, m.rw with
  | [p0], [some (t0_, [c0_0, c0_1])], [] => bO (asPtr 0 p0) fun _ => bO (asT 172 t0_) fun _ => bO (asSl 5 c0_0) fun s0_0 => bO (asI .i64 c0_1) fun s0_1 => callX (fun n => spec_l2Any.f n s0_0 s0_1) fun t => κ (.agg [.int .i64 (t.1), .int .i64 (t.2.1), .int .i64 (t.2.2.1), .int .i64 (t.2.2.2.1)]) ⟨[some (172, [.sl 5 (s0_0), .int .i64 (t.2.2.2.2)])], []⟩
  | _, _, _ => none
def E_150 : Env tau := mkE [(0, [(0, .one .any)]), (1, [(0, .one .any), (2, .one .any)]), (2, [(0, .one .any), (2, .one .any), (3, .one .any)]), (3, [(0, .one .any), (2, .one .any), (3, .one .any), (13, .one .any)]), (4, [(0, .one .any), (2, .one .any), (3, .one .any)]), (5, [(0, .one .any), (2, .one .any), (3, .one .any)]), (6, [(0, .one .any), (2, .one .any), (3, .one .any), (13, .one .any)]), (7, [(0, .one .any), (2, .one .any), (3, .one .any)]), (8, [(0, .one .any), (2, .one .any), (3, .one .any), (13, .one .any)]), (9, [(0, .one .any), (2, .one .any), (3, .one .any)]), (10, [(0, .one .any), (2, .one .any)]), (11, [(2, .one .any), (3, .one .any)]), (12, [(2, .one .any), (3, .one .any)]), (13, [(2, .one .any), (3, .one .any)])] [.agg [.any, .any, .any, .any]] ⟨1, 0⟩
noncomputable def c_99 (args : List (AV tau)) (m : Mem tau) (κ : AV tau → Mem tau → Option Unit) : Option Unit := match args, m.bx, m.rw with
  | [p0], [some (t0_, [c0_0, c0_1])], [] => bO (asPtr 0 p0) fun _ => bO (asT 172 t0_) fun _ => bO (asSl 5 c0_0) fun s0_0 => bO (asI .i64 c0_1) fun s0_1 => callX (fun n => spec_l2Prog.f n s0_0 s0_1) fun t => κ (.own 0 0) ⟨[some (172, [.sl 5 (s0_0), .int .i64 (t.2)])], [some ⟨95, t.1, 0⟩]⟩
  | _, _, _ => none
def E_99 : Env tau := mkE [(0, [(0, .one .any)]), (1, [(0, .one .any)]), (2, [(0, .one .any)]), (3, [(0, .one .any), (3, .one .any)]), (4, [(0, .one .any), (3, .one .any), (4, .one .any)]), (5, [(0, .one .any)]), (6, [(0, .one .any), (5, .one (.own 95))]), (7, [(0, .one .any), (5, .one (.own 95)), (6, .one .any)]), (8, [(0, .one .any), (5, .one (.own 95)), (6, .one .any)]), (9, [(0, .one .any), (5, .one (.own 95)), (6, .one .any)]), (10, [(5, .one (.own 95))])] [.one (.own 95)] ⟨1, 0⟩
noncomputable def c_170 (args : List (AV tau)) (m : Mem tau) (κ : AV tau → Mem tau → Option Unit) : Option Unit := match args, m.bx, m.rw with
  | [b0], [], [] => bO (asI .i64 b0) fun a0 => callX (fun n => spec_l2Reg.f a0) fun t => κ (.bool (t)) ⟨[], []⟩
  | _, _, _ => none
def E_170 : Env tau := mkE [(0, [(0, .one .any)]), (1, [(0, .one .any)])] [.one .any] ⟨0, 0⟩
noncomputable def c_153 (args : List (AV tau)) (m : Mem tau) (κ : AV tau → Mem tau → Option Unit) : Option Unit := match args, m.bx, m.rw with
  | [.agg [b0, b1, b2, b3]], [], [] => bO (asI .i64 b0) fun a0_0 => bO (asI .i64 b1) fun a0_1 => bO (asI .i64 b2) fun a0_2 => bO (asI .i64 b3) fun a0_3 => callX (fun n => spec_l2Ins.f n a0_0 a0_1 a0_2 a0_3) fun t => κ (.bool (t)) ⟨[], []⟩
  | _, _, _ => none
def E_153 : Env tau := mkE [(0, [(0, .agg [.any, .any, .any, .any])]), (1, [(1, .one .any)]), (2, [(1, .one .any), (4, .one .any)]), (3, [(1, .one .any)]), (4, [(1, .one .any), (4, .one .any)]), (5, [(1, .one .any)]), (6, [(1, .one .any), (4, .one .any)]), (7, [(1, .one .any)]), (8, [(1, .one .any), (4, .one .any)]), (9, [(1, .one .any), (4, .one .any)]), (10, [(1, .one .any)]), (11, [(1, .one .any), (4, .one .any)]), (12, [(1, .one .any)]), (13, [(1, .one .any), (4, .one .any)]), (14, [(1, .one .any)]), (15, [])] [.one .any] ⟨0, 0⟩
noncomputable def c_106 (args : List (AV tau)) (m : Mem tau) (κ : AV tau → Mem tau → Option Unit) : Option Unit := match args, m.bx, m.rw with
  | [b0], [], [] => bO (asSl 95 b0) fun l0 => callX (fun n => spec_ProgOk.f n l0) fun t => κ (.bool (t)) ⟨[], []⟩
  | _, _, _ => none
def E_106 : Env tau := mkE [(0, [(0, .one (.own 95))]), (1, [(0, .one (.own 95))]), (2, []), (3, [(0, .one (.own 95))]), (4, [(0, .one (.own 95)), (3, .one .any)]), (5, [(0, .one (.own 95)), (3, .one .any)]), (6, [(0, .one (.own 95)), (3, .one .any)]), (7, []), (8, [])] [.one .any] ⟨0, 0⟩
noncomputable def c_175 (args : List (AV tau)) (m : Mem tau) (κ : AV tau → Mem tau → Option Unit) : Option Unit := match args, m.bx, m.rw with
  | [b0, .agg [b1, b2, b3, b4], b5], [], [r0, r1] => bO (asSl 37 b0) fun l0 => bO (asOwn 0 b1) fun _ => bO (asRow 39 r0) fun l1_0 => bO (asOwn 1 b2) fun _ => bO (asRow 82 r1) fun l1_1 => bO (asI .i64 b3) fun a1_2 => bO (asI .i64 b4) fun a1_3 => bO (asI .i64 b5) fun a2 => callX (fun n => spec_l3Look.f n l0 l1_0 l1_1 a1_2 a1_3 a2) fun t => κ (.tup [.int .i64 (t.1), .agg [.own 0 0, .own 1 0, .int .i64 (t.2.2.2.1), .int .i64 (t.2.2.2.2)]]) ⟨[], [some ⟨39, t.2.1, 0⟩, some ⟨82, t.2.2.1, 0⟩]⟩
  | _, _, _ => none
def E_175 : Env tau := mkE [(0, [(0, .one (.own 37)), (1, .agg [.own 39, .own 82, .any, .any]), (2, .one .any)]), (1, [(0, .one (.own 37)), (2, .one .any), (4, .one .any), (7, .one .any)]), (2, [(0, .one (.own 37)), (2, .one .any), (4, .one .any), (7, .one .any), (8, .one .any)]), (3, [(4, .one .any), (7, .one .any), (8, .one .any)]), (4, [(0, .one (.own 37)), (2, .one .any), (4, .one .any), (7, .one .any)]), (5, [(0, .one (.own 37)), (2, .one .any), (4, .one .any), (7, .one .any)]), (6, [(0, .one (.own 37)), (2, .one .any), (4, .one .any), (7, .one .any)])] [.one .any, .agg [.own 39, .own 82, .any, .any]] ⟨0, 0⟩
noncomputable def c_176 (args : List (AV tau)) (m : Mem tau) (κ : AV tau → Mem tau → Option Unit) : Option Unit := match args, m.bx, m.rw with
  | [.agg [b0, b1, b2, b3], b4, b5], [], [r0, r1] => bO (asOwn 0 b0) fun _ => bO (asRow 39 r0) fun l0_0 => bO (asOwn 1 b1) fun _ => bO (asRow 82 r1) fun l0_1 => bO (asI .i64 b2) fun a0_2 => bO (asI .i64 b3) fun a0_3 => bO (asI .i64 b4) fun a1 => bO (asI .i64 b5) fun a2 => callX (fun n => spec_l3Put.f n l0_0 l0_1 a0_2 a0_3 a1 a2) fun t => κ (.agg [.own 0 0, .own 1 0, .int .i64 (t.2.2.1), .int .i64 (t.2.2.2)]) ⟨[], [some ⟨39, t.1, 0⟩, some ⟨82, t.2.1, 0⟩]⟩
  | _, _, _ => none
def E_176 : Env tau := mkE [(0, [(0, .agg [.own 39, .own 82, .any, .any]), (1, .one .any), (2, .one .any)]), (1, [(1, .one .any), (2, .one .any), (3, .one .any), (6, .one .any)]), (2, [(1, .one .any), (2, .one .any), (3, .one .any), (6, .one .any), (7, .one .any)]), (3, [(2, .one .any), (3, .one .any), (6, .one .any), (7, .one .any)]), (4, [(3, .one .any), (6, .one .any)]), (5, [(1, .one .any), (2, .one .any), (3, .one .any), (6, .one .any)]), (6, [(3, .one .any), (6, .one .any)])] [.agg [.own 39, .own 82, .any, .any]] ⟨0, 0⟩
noncomputable def c_166 (args : List (AV tau)) (m : Mem tau) (κ : AV tau → Mem tau → Option Unit) : Option Unit := match args, m.bx, m.rw with
  | [b0, .agg [b1, b2, b3, b4], b5, .agg [b6, b7, b8, b9]], [], [r0, r1, r2] => bO (asSl 37 b0) fun l0 => bO (asOwn 1 b1) fun _ => bO (asRow 39 r1) fun l1_0 => bO (asOwn 2 b2) fun _ => bO (asRow 82 r2) fun l1_1 => bO (asI .i64 b3) fun a1_2 => bO (asI .i64 b4) fun a1_3 => bO (asOwn 0 b5) fun _ => bO (asRow 3 r0) fun l2 => bO (asI .i64 b6) fun a3_0 => bO (asI .i64 b7) fun a3_1 => bO (asI .i64 b8) fun a3_2 => bO (asI .i64 b9) fun a3_3 => callX (fun n => spec_l3Step.f n l0 l1_0 l1_1 a1_2 a1_3 l2 a3_0 a3_1 a3_2 a3_3) fun t => κ (.agg [.own 1 0, .own 2 0, .int .i64 (t.2.2.1), .int .i64 (t.2.2.2.1)]) ⟨[], [some ⟨3, t.2.2.2.2, 0⟩, some ⟨39, t.1, 0⟩, some ⟨82, t.2.1, 0⟩]⟩
  | _, _, _ => none
def E_166 : Env tau := mkE [(0, [(0, .one (.own 37)), (1, .agg [.own 39, .own 82, .any, .any]), (2, .one (.own 3)), (3, .agg [.any, .any, .any, .any])]), (1, [(0, .one (.own 37)), (2, .one (.own 3)), (5, .one .any), (7, .one .any), (8, .one .any)]), (2, [(0, .one (.own 37)), (2, .one (.own 3)), (5, .one .any), (7, .one .any), (8, .one .any), (12, .one .any)]), (3, [(0, .one (.own 37)), (2, .one (.own 3)), (5, .one .any), (7, .one .any), (8, .one .any)]), (4, [(2, .one (.own 3)), (5, .one .any), (7, .one .any), (8, .one .any), (9, .one .any), (10, .one .any)]), (5, [(2, .one (.own 3)), (5, .one .any), (7, .one .any), (8, .one .any), (10, .one .any)]), (6, [(2, .one (.own 3)), (5, .one .any), (7, .one .any), (8, .one .any), (12, .one .any)]), (7, [(2, .one (.own 3)), (5, .one .any), (7, .one .any), (8, .one .any)]), (8, [(2, .one (.own 3)), (5, .one .any), (7, .one .any), (8, .one .any), (12, .one .any)]), (9, [(2, .one (.own 3)), (5, .one .any), (7, .one .any), (8, .one .any)]), (10, [(2, .one (.own 3)), (5, .one .any), (7, .one .any), (8, .one .any), (12, .one .any)]), (11, [(2, .one (.own 3)), (5, .one .any), (7, .one .any), (8, .one .any)]), (12, [(2, .one (.own 3)), (5, .one .any), (7, .one .any), (8, .one .any), (12, .one .any)]), (13, [(2, .one (.own 3)), (5, .one .any), (7, .one .any), (8, .one .any)]), (14, [(2, .one (.own 3)), (5, .one .any), (7, .one .any), (8, .one .any), (12, .one .any)]), (15, [(2, .one (.own 3)), (5, .one .any), (7, .one .any), (8, .one .any)]), (16, [(2, .one (.own 3)), (5, .one .any), (7, .one .any), (8, .one .any)]), (17, [(5, .one .any), (8, .one .any)]), (18, [(5, .one .any), (8, .one .any)])] [.agg [.own 39, .own 82, .any, .any]] ⟨0, 1⟩
noncomputable def c_144 (args : List (AV tau)) (m : Mem tau) (κ : AV tau → Mem tau → Option Unit) : Option Unit := match args, m.bx, m.rw with
  | [b0, b1], [], [] => bO (asSl 37 b0) fun l0 => bO (asSl 95 b1) fun l1 => callX (fun n => spec_ExecRun.f n l0 l1) fun t => κ (.agg [.own 0 0, .own 1 0, .int .i64 (t.2.2.1), .int .i64 (t.2.2.2)]) ⟨[], [some ⟨39, t.1, 0⟩, some ⟨82, t.2.1, 0⟩]⟩
  | _, _, _ => none
def E_144 : Env tau := mkE [(0, [(0, .one (.own 37)), (1, .one (.own 95))]), (1, [(0, .one (.own 37)), (1, .one (.own 95)), (4, .one .any)]), (2, [(4, .one .any)]), (3, [(0, .one (.own 37)), (1, .one (.own 95)), (4, .one .any)]), (4, [(0, .one (.own 37)), (1, .one (.own 95)), (4, .one .any), (5, .one .any)]), (5, [(0, .one (.own 37)), (1, .one (.own 95)), (4, .one .any), (5, .one .any), (6, .one (.own 3))]), (6, [(0, .one (.own 37)), (1, .one (.own 95)), (4, .one .any), (5, .one .any), (6, .one (.own 3)), (7, .one .any)]), (7, [(0, .one (.own 37)), (1, .one (.own 95)), (4, .one .any), (5, .one .any), (6, .one (.own 3)), (7, .one .any)]), (8, [(0, .one (.own 37)), (1, .one (.own 95)), (4, .one .any), (5, .one .any), (6, .one (.own 3)), (7, .one .any)]), (9, [(0, .one (.own 37)), (1, .one (.own 95)), (4, .one .any), (5, .one .any), (6, .one (.own 3)), (7, .one .any), (8, .one .any)]), (10, [(0, .one (.own 37)), (1, .one (.own 95)), (4, .one .any), (5, .one .any), (6, .one (.own 3)), (7, .one .any), (8, .one .any)]), (11, [(0, .one (.own 37)), (1, .one (.own 95)), (4, .one .any), (5, .one .any), (6, .one (.own 3)), (7, .one .any), (8, .one .any)]), (12, [(0, .one (.own 37)), (1, .one (.own 95)), (4, .one .any), (5, .one .any), (6, .one (.own 3)), (7, .one .any), (8, .one .any)]), (13, [(4, .one .any), (5, .one .any), (6, .one (.own 3))]), (14, [(4, .one .any), (5, .one .any)]), (15, [(4, .one .any), (5, .one .any)]), (16, [(4, .one .any), (5, .one .any), (6, .one (.own 3))]), (17, [(4, .one .any), (5, .one .any)])] [.agg [.own 39, .own 82, .any, .any]] ⟨0, 0⟩
noncomputable def c_119 (args : List (AV tau)) (m : Mem tau) (κ : AV tau → Mem tau → Option Unit) : Option Unit := match args, m.bx, m.rw with
  | [p0, b0], [some (t0_, [c0_0, c0_1])], [r0] => bO (asPtr 0 p0) fun _ => bO (asT 172 t0_) fun _ => bO (asSl 5 c0_0) fun s0_0 => bO (asI .i64 c0_1) fun s0_1 => bO (asOwn 0 b0) fun _ => bO (asRow 37 r0) fun l1 => callX (fun n => spec_l5Any.f n s0_0 s0_1 l1) fun t => κ (.agg [.bool (t.1), .int .i64 (t.2.1), .int .i64 (t.2.2.1), .own 1 0, .own 2 0, .int .i64 (t.2.2.2.2.2.1), .int .i64 (t.2.2.2.2.2.2.1)]) ⟨[some (172, [.sl 5 (s0_0), .int .i64 (t.2.2.2.2.2.2.2)])], [some ⟨37, l1, 0⟩, some ⟨39, t.2.2.2.1, 0⟩, some ⟨82, t.2.2.2.2.1, 0⟩]⟩
  | _, _, _ => none
def E_119 : Env tau := mkE [(0, [(0, .one .any), (1, .one (.own 37))]), (1, [(0, .one .any), (1, .one (.own 37)), (4, .one .any)]), (2, [(4, .one .any)]), (3, [(0, .one .any), (1, .one (.own 37)), (4, .one .any)]), (4, [(0, .one .any), (4, .one .any), (5, .one .any)]), (5, [(0, .one .any), (4, .one .any), (5, .one .any), (22, .one .any)]), (6, [(0, .one .any), (4, .one .any), (5, .one .any)]), (7, [(4, .one .any), (5, .one .any), (22, .one .any)]), (8, [(4, .one .any), (5, .one .any)]), (9, [(4, .one .any), (5, .one .any), (22, .one .any)]), (10, [(4, .one .any), (5, .one .any)]), (11, [(4, .one .any), (5, .one .any)])] [.agg [.any, .any, .any, .own 39, .own 82, .any, .any]] ⟨1, 1⟩
noncomputable def c_110 (args : List (AV tau)) (m : Mem tau) (κ : AV tau → Mem tau → Option Unit) : Option Unit := match args, m.bx, m.rw with
  | [p0], [some (t0_, [c0_0, c0_1])], [] => bO (asPtr 0 p0) fun _ => bO (asT 172 t0_) fun _ => bO (asSl 5 c0_0) fun s0_0 => bO (asI .i64 c0_1) fun s0_1 => callX (fun n => spec_l5List.f n s0_0 s0_1) fun t => κ (.own 0 0) ⟨[some (172, [.sl 5 (s0_0), .int .i64 (t.2)])], [some ⟨77, t.1, 0⟩]⟩
  | _, _, _ => none
def E_110 : Env tau := mkE [(0, [(0, .one .any)]), (1, [(0, .one .any)]), (2, [(0, .one .any), (3, .one (.own 77))]), (3, [(0, .one .any), (3, .one (.own 77)), (4, .one .any)]), (4, [(0, .one .any), (3, .one (.own 77)), (4, .one .any), (5, .one .any)]), (5, [(0, .one .any), (3, .one (.own 77)), (4, .one .any), (5, .one .any)]), (6, [(0, .one .any), (3, .one (.own 77)), (4, .one .any), (5, .one .any)]), (7, [(0, .one .any), (3, .one (.own 77)), (4, .one .any), (5, .one .any), (6, .one .any)]), (8, [(0, .one .any), (3, .one (.own 77)), (4, .one .any), (5, .one .any), (6, .one .any)]), (9, [(0, .one .any), (3, .one (.own 77)), (4, .one .any), (5, .one .any), (6, .one .any)]), (10, [(0, .one .any), (3, .one (.own 77)), (4, .one .any), (5, .one .any), (7, .one .any)]), (11, [(0, .one .any), (3, .one (.own 77))]), (12, [(3, .one (.own 77))]), (13, [(3, .one (.own 77))]), (14, [(3, .one (.own 77))])] [.one (.own 77)] ⟨1, 0⟩
noncomputable def c_43 (args : List (AV tau)) (m : Mem tau) (κ : AV tau → Mem tau → Option Unit) : Option Unit := match args, m.bx, m.rw with
  | [b0], [], [] => bO (asSl 5 b0) fun l0 => callX (fun n => spec_DrawCertFold.f n l0) fun t => κ (.own 0 0) ⟨[], [some ⟨77, t, 0⟩]⟩
  | _, _, _ => none
def E_43 : Env tau := mkE [(0, [(0, .one (.own 5))]), (1, [(0, .one (.own 5))])] [.one (.own 77)] ⟨0, 0⟩
noncomputable def c_80 (args : List (AV tau)) (m : Mem tau) (κ : AV tau → Mem tau → Option Unit) : Option Unit := match args, m.bx, m.rw with
  | [b0, b1], [], [] => bO (asSl 39 b0) fun l0 => bO (asSl 39 b1) fun l1 => callX (fun n => impl_same_impl_Read.f n l0 l1) fun t => κ (.bool (t)) ⟨[], []⟩
  | _, _, _ => none
def E_80 : Env tau := mkE [(0, [(0, .one (.own 39)), (1, .one (.own 39))]), (1, [(0, .one (.own 39)), (1, .one (.own 39))]), (2, []), (3, [(0, .one (.own 39)), (1, .one (.own 39))]), (4, [(0, .one (.own 39)), (1, .one (.own 39)), (12, .one .any), (13, .one .any)]), (5, [(0, .one (.own 39)), (1, .one (.own 39)), (12, .one .any), (13, .one .any)]), (6, [(0, .one (.own 39)), (1, .one (.own 39)), (5, .one .any), (12, .one .any), (13, .one .any)]), (7, []), (8, [(0, .one (.own 39)), (1, .one (.own 39)), (12, .one .any), (13, .one .any)]), (9, [])] [.one .any] ⟨0, 0⟩
noncomputable def c_81 (args : List (AV tau)) (m : Mem tau) (κ : AV tau → Mem tau → Option Unit) : Option Unit := match args, m.bx, m.rw with
  | [b0, b1], [], [] => bO (asSl 82 b0) fun l0 => bO (asSl 82 b1) fun l1 => callX (fun n => impl_same_impl_Put.f n l0 l1) fun t => κ (.bool (t)) ⟨[], []⟩
  | _, _, _ => none
def E_81 : Env tau := mkE [(0, [(0, .one (.own 82)), (1, .one (.own 82))]), (1, [(0, .one (.own 82)), (1, .one (.own 82))]), (2, []), (3, [(0, .one (.own 82)), (1, .one (.own 82))]), (4, [(0, .one (.own 82)), (1, .one (.own 82)), (12, .one .any), (13, .one .any)]), (5, [(0, .one (.own 82)), (1, .one (.own 82)), (12, .one .any), (13, .one .any)]), (6, [(0, .one (.own 82)), (1, .one (.own 82)), (5, .one .any), (12, .one .any), (13, .one .any)]), (7, []), (8, [(0, .one (.own 82)), (1, .one (.own 82)), (12, .one .any), (13, .one .any)]), (9, [])] [.one .any] ⟨0, 0⟩
noncomputable def c_18 (args : List (AV tau)) (m : Mem tau) (κ : AV tau → Mem tau → Option Unit) : Option Unit := match args, m.bx, m.rw with
  | [.agg [b0, b1, b2, b3], .agg [b4, b5, b6, b7]], [], [] => bO (asSl 39 b0) fun l0_0 => bO (asSl 82 b1) fun l0_1 => bO (asI .i64 b2) fun a0_2 => bO (asI .i64 b3) fun a0_3 => bO (asSl 39 b4) fun l1_0 => bO (asSl 82 b5) fun l1_1 => bO (asI .i64 b6) fun a1_2 => bO (asI .i64 b7) fun a1_3 => callX (fun n => impl_ExecSame.f n l0_0 l0_1 a0_2 a0_3 l1_0 l1_1 a1_2 a1_3) fun t => κ (.bool (t)) ⟨[], []⟩
  | _, _, _ => none
def E_18 : Env tau := mkE [(0, [(0, .agg [.own 39, .own 82, .any, .any]), (1, .agg [.own 39, .own 82, .any, .any])]), (1, [(2, .one .any), (3, .one .any)])] [.one .any] ⟨0, 0⟩
noncomputable def c_57 (args : List (AV tau)) (m : Mem tau) (κ : AV tau → Mem tau → Option Unit) : Option Unit := match args, m.bx, m.rw with
  | [.agg [b0, b1, b2, b3, b4, b5, b6], .agg [b7, b8, b9, b10, b11, b12, b13]], [], [] => bO (asB b0) fun a0_0 => bO (asI .i64 b1) fun a0_1 => bO (asI .i64 b2) fun a0_2 => bO (asSl 39 b3) fun l0_3 => bO (asSl 82 b4) fun l0_4 => bO (asI .i64 b5) fun a0_5 => bO (asI .i64 b6) fun a0_6 => bO (asB b7) fun a1_0 => bO (asI .i64 b8) fun a1_1 => bO (asI .i64 b9) fun a1_2 => bO (asSl 39 b10) fun l1_3 => bO (asSl 82 b11) fun l1_4 => bO (asI .i64 b12) fun a1_5 => bO (asI .i64 b13) fun a1_6 => callX (fun n => impl_CertLike.f n a0_0 a0_1 a0_2 l0_3 l0_4 a0_5 a0_6 a1_0 a1_1 a1_2 l1_3 l1_4 a1_5 a1_6) fun t => κ (.bool (t)) ⟨[], []⟩
  | _, _, _ => none
def E_57 : Env tau := mkE [(0, [(0, .agg [.any, .any, .any, .own 39, .own 82, .any, .any]), (1, .agg [.any, .any, .any, .own 39, .own 82, .any, .any])]), (1, [(2, .one .any), (3, .one .any)])] [.one .any] ⟨0, 0⟩
noncomputable def c_122 (args : List (AV tau)) (m : Mem tau) (κ : AV tau → Mem tau → Option Unit) : Option Unit := match args, m.bx, m.rw with
  | [b0, b1, b2], [], [] => bO (asI .i64 b0) fun a0 => bO (asI .i64 b1) fun a1 => bO (asI .i64 b2) fun a2 => callX (fun n => impl_in.f a0 a1 a2) fun t => κ (.bool (t)) ⟨[], []⟩
  | _, _, _ => none
def E_122 : Env tau := mkE [(0, [(0, .one .any), (1, .one .any), (2, .one .any)]), (1, [(0, .one .any), (1, .one .any), (2, .one .any)])] [.one .any] ⟨0, 0⟩
noncomputable def c_83 (args : List (AV tau)) (m : Mem tau) (κ : AV tau → Mem tau → Option Unit) : Option Unit := match args, m.bx, m.rw with
  | [.agg [b0, b1, b2, b3]], [], [] => bO (asSl 39 b0) fun l0_0 => bO (asSl 82 b1) fun l0_1 => bO (asI .i64 b2) fun a0_2 => bO (asI .i64 b3) fun a0_3 => callX (fun n => impl_ExecOk.f n l0_0 l0_1 a0_2 a0_3) fun t => κ (.bool (t)) ⟨[], []⟩
  | _, _, _ => none
def E_83 : Env tau := mkE [(0, [(0, .agg [.own 39, .own 82, .any, .any])]), (1, [(1, .one .any)]), (2, []), (3, [(1, .one .any)]), (4, [(1, .one .any), (3, .one .any), (4, .one .any)]), (5, [(1, .one .any), (3, .one .any), (4, .one .any), (47, .one (.own 39)), (48, .one .any), (49, .one .any)]), (6, [(1, .one .any), (3, .one .any), (4, .one .any), (47, .one (.own 39)), (48, .one .any), (49, .one .any)]), (7, [(1, .one .any), (3, .one .any), (4, .one .any), (6, .one .any), (47, .one (.own 39)), (48, .one .any), (49, .one .any)]), (8, []), (9, [(1, .one .any), (3, .one .any), (4, .one .any), (6, .one .any), (47, .one (.own 39)), (48, .one .any), (49, .one .any)]), (10, [(1, .one .any), (3, .one .any), (4, .one .any), (47, .one (.own 39)), (48, .one .any), (49, .one .any)]), (11, [(1, .one .any), (4, .one .any)]), (12, [(4, .one .any), (74, .one (.own 82)), (75, .one .any), (76, .one .any)]), (13, [(4, .one .any), (74, .one (.own 82)), (75, .one .any), (76, .one .any)]), (14, [(4, .one .any), (8, .one .any), (74, .one (.own 82)), (75, .one .any), (76, .one .any)]), (15, []), (16, [(4, .one .any), (8, .one .any), (74, .one (.own 82)), (75, .one .any), (76, .one .any)]), (17, [(4, .one .any), (74, .one (.own 82)), (75, .one .any), (76, .one .any)]), (18, [])] [.one .any] ⟨0, 0⟩
noncomputable def c_121 (args : List (AV tau)) (m : Mem tau) (κ : AV tau → Mem tau → Option Unit) : Option Unit := match args, m.bx, m.rw with
  | [.agg [b0, b1]], [], [] => bO (asI .i64 b0) fun a0_0 => bO (asI .i64 b1) fun a0_1 => callX (fun n => impl_reqOk.f a0_0 a0_1) fun t => κ (.bool (t)) ⟨[], []⟩
  | _, _, _ => none
def E_121 : Env tau := mkE [(0, [(0, .agg [.any, .any])]), (1, [(1, .one .any)])] [.one .any] ⟨0, 0⟩
noncomputable def c_52 (args : List (AV tau)) (m : Mem tau) (κ : AV tau → Mem tau → Option Unit) : Option Unit := match args, m.bx, m.rw with
  | [.agg [b0, b1, b2, b3, b4, b5, b6]], [], [] => bO (asB b0) fun a0_0 => bO (asI .i64 b1) fun a0_1 => bO (asI .i64 b2) fun a0_2 => bO (asSl 39 b3) fun l0_3 => bO (asSl 82 b4) fun l0_4 => bO (asI .i64 b5) fun a0_5 => bO (asI .i64 b6) fun a0_6 => callX (fun n => impl_CertEntry.f n a0_0 a0_1 a0_2 l0_3 l0_4 a0_5 a0_6) fun t => κ (.bool (t)) ⟨[], []⟩
  | _, _, _ => none
def E_52 : Env tau := mkE [(0, [(0, .agg [.any, .any, .any, .own 39, .own 82, .any, .any])]), (1, [(1, .one .any)]), (2, [(1, .one .any)]), (3, [(1, .one .any)])] [.one .any] ⟨0, 0⟩
noncomputable def c_111 (args : List (AV tau)) (m : Mem tau) (κ : AV tau → Mem tau → Option Unit) : Option Unit := match args, m.bx, m.rw with
  | [b0], [], [] => bO (asSl 77 b0) fun l0 => callX (fun n => impl_listOk.f n l0) fun t => κ (.bool (t)) ⟨[], []⟩
  | _, _, _ => none
def E_111 : Env tau := mkE [(0, [(0, .one (.own 77))]), (1, [(0, .one (.own 77))]), (2, [(0, .one (.own 77)), (5, .one (.own 77)), (6, .one .any), (7, .one .any)]), (3, [(0, .one (.own 77)), (5, .one (.own 77)), (6, .one .any), (7, .one .any)]), (4, [(0, .one (.own 77)), (4, .one .any), (5, .one (.own 77)), (6, .one .any), (7, .one .any)]), (5, []), (6, [(0, .one (.own 77)), (5, .one (.own 77)), (6, .one .any), (7, .one .any)]), (7, [(0, .one (.own 77))])] [.one .any] ⟨0, 0⟩
noncomputable def c_82 (args : List (AV tau)) (m : Mem tau) (κ : AV tau → Mem tau → Option Unit) : Option Unit := match args, m.bx, m.rw with
  | [b0], [], [] => bO (asSl 37 b0) fun l0 => callX (fun n => impl_BoxOk.f n l0) fun t => κ (.bool (t)) ⟨[], []⟩
  | _, _, _ => none
def E_82 : Env tau := mkE [(0, [(0, .one (.own 37))]), (1, [(0, .one (.own 37))]), (2, [(0, .one (.own 37)), (5, .one (.own 37)), (6, .one .any), (7, .one .any)]), (3, [(0, .one (.own 37)), (5, .one (.own 37)), (6, .one .any), (7, .one .any)]), (4, [(0, .one (.own 37)), (4, .one .any), (5, .one (.own 37)), (6, .one .any), (7, .one .any)]), (5, []), (6, [(0, .one (.own 37)), (5, .one (.own 37)), (6, .one .any), (7, .one .any)]), (7, [(0, .one (.own 37))])] [.one .any] ⟨0, 0⟩
noncomputable def c_20 (args : List (AV tau)) (m : Mem tau) (κ : AV tau → Mem tau → Option Unit) : Option Unit := match args, m.bx, m.rw with
  | [b0, .agg [b1, b2, b3, b4]], [], [] => bO (asSl 37 b0) fun l0 => bO (asSl 39 b1) fun l1_0 => bO (asSl 82 b2) fun l1_1 => bO (asI .i64 b3) fun a1_2 => bO (asI .i64 b4) fun a1_3 => callX (fun n => impl_ExecFresh.f n l0 l1_0 l1_1 a1_2 a1_3) fun t => κ (.bool (t)) ⟨[], []⟩
  | _, _, _ => none
def E_20 : Env tau := mkE [(0, [(0, .one (.own 37)), (1, .agg [.own 39, .own 82, .any, .any])]), (1, [(0, .one (.own 37)), (3, .one .any)]), (2, []), (3, [(0, .one (.own 37)), (3, .one .any)]), (4, [(0, .one (.own 37)), (16, .one (.own 39)), (17, .one .any), (18, .one .any)]), (5, [(0, .one (.own 37)), (16, .one (.own 39)), (17, .one .any), (18, .one .any)]), (6, [(0, .one (.own 37)), (6, .one .any), (16, .one (.own 39)), (17, .one .any), (18, .one .any)]), (7, []), (8, [(0, .one (.own 37)), (16, .one (.own 39)), (17, .one .any), (18, .one .any)]), (9, [])] [.one .any] ⟨0, 0⟩
noncomputable def c_50 (args : List (AV tau)) (m : Mem tau) (κ : AV tau → Mem tau → Option Unit) : Option Unit := match args, m.bx, m.rw with
  | [.agg [b0, b1, b2]], [], [] => bO (asI .i64 b0) fun a0_0 => bO (asSl 37 b1) fun l0_1 => bO (asSl 84 b2) fun l0_2 => callX (fun n => impl_CertOk.f n a0_0 l0_1 l0_2) fun t => κ (.bool (t)) ⟨[], []⟩
  | _, _, _ => none
def E_50 : Env tau := mkE [(0, [(0, .agg [.any, .own 37, .own 84])]), (1, [(1, .one .any)]), (2, [(1, .one .any), (6, .one (.own 84)), (7, .one .any), (8, .one .any)]), (3, [(1, .one .any), (6, .one (.own 84)), (7, .one .any), (8, .one .any)]), (4, [(1, .one .any), (3, .one .any), (4, .one .any), (6, .one (.own 84)), (7, .one .any), (8, .one .any)]), (5, []), (6, [(1, .one .any), (6, .one (.own 84)), (7, .one .any), (8, .one .any)]), (7, [(1, .one .any)])] [.one .any] ⟨0, 0⟩
noncomputable def c_93 (args : List (AV tau)) (m : Mem tau) (κ : AV tau → Mem tau → Option Unit) : Option Unit := match args, m.bx, m.rw with
  | [b0], [], [] => bO (asSl 37 b0) fun l0 => callX (fun n => impl_copied_impl_Box.f l0) fun t => κ (.own 0 0) ⟨[], [some ⟨37, t, 0⟩]⟩
  | _, _, _ => none
def E_93 : Env tau := mkE [(0, [(0, .one (.own 37))]), (1, [(0, .one (.own 37))]), (2, []), (3, [(0, .one (.own 37))]), (4, [(0, .one (.own 37)), (3, .one (.own 37))]), (5, [(3, .one (.own 37))])] [.one (.own 37)] ⟨0, 0⟩
noncomputable def c_116 (args : List (AV tau)) (m : Mem tau) (κ : AV tau → Mem tau → Option Unit) : Option Unit := match args, m.bx, m.rw with
  | [b0], [], [] => bO (asSl 84 b0) fun l0 => callX (fun n => impl_copied_impl_Done.f l0) fun t => κ (.own 0 0) ⟨[], [some ⟨84, t, 0⟩]⟩
  | _, _, _ => none
def E_116 : Env tau := mkE [(0, [(0, .one (.own 84))]), (1, [(0, .one (.own 84))]), (2, []), (3, [(0, .one (.own 84))]), (4, [(0, .one (.own 84)), (3, .one (.own 84))]), (5, [(3, .one (.own 84))])] [.one (.own 84)] ⟨0, 0⟩
noncomputable def c_117 (args : List (AV tau)) (m : Mem tau) (κ : AV tau → Mem tau → Option Unit) : Option Unit := match args, m.bx, m.rw with
  | [b0, .agg [b1, b2, b3, b4]], [], [] => bO (asSl 37 b0) fun l0 => bO (asSl 39 b1) fun l1_0 => bO (asSl 82 b2) fun l1_1 => bO (asI .i64 b3) fun a1_2 => bO (asI .i64 b4) fun a1_3 => callX (fun n => impl_ExecDo.f n l0 l1_0 l1_1 a1_2 a1_3) fun t => κ (.own 0 0) ⟨[], [some ⟨37, t, 0⟩]⟩
  | _, _, _ => none
def E_117 : Env tau := mkE [(0, [(0, .one (.own 37)), (1, .agg [.own 39, .own 82, .any, .any])]), (1, [(0, .one (.own 37)), (3, .one .any)]), (2, []), (3, [(0, .one (.own 37)), (3, .one .any)]), (4, [(3, .one .any), (5, .one (.own 37))]), (5, [(5, .one (.own 37)), (19, .one (.own 82)), (20, .one .any), (21, .one .any)]), (6, [(5, .one (.own 37)), (19, .one (.own 82)), (20, .one .any), (21, .one .any)]), (7, [(5, .one (.own 37)), (7, .one .any), (19, .one (.own 82)), (20, .one .any), (21, .one .any)]), (8, [(5, .one (.own 37)), (19, .one (.own 82)), (20, .one .any), (21, .one .any)]), (9, [(5, .one (.own 37))])] [.one (.own 37)] ⟨0, 0⟩
noncomputable def c_47 (args : List (AV tau)) (m : Mem tau) (κ : AV tau → Mem tau → Option Unit) : Option Unit := match args, m.bx, m.rw with
  | [.agg [b0, b1, b2], .agg [b3, b4, b5, b6, b7, b8, b9]], [], [] => bO (asI .i64 b0) fun a0_0 => bO (asSl 37 b1) fun l0_1 => bO (asSl 84 b2) fun l0_2 => bO (asB b3) fun a1_0 => bO (asI .i64 b4) fun a1_1 => bO (asI .i64 b5) fun a1_2 => bO (asSl 39 b6) fun l1_3 => bO (asSl 82 b7) fun l1_4 => bO (asI .i64 b8) fun a1_5 => bO (asI .i64 b9) fun a1_6 => callX (fun n => impl_CertApply.f n a0_0 l0_1 l0_2 a1_0 a1_1 a1_2 l1_3 l1_4 a1_5 a1_6) fun t => κ (.tup [.agg [.int .i64 (t.1), .own 0 0, .own 1 0], .int .i64 (t.2.2.2)]) ⟨[], [some ⟨37, t.2.1, 0⟩, some ⟨84, t.2.2.1, 0⟩]⟩
  | _, _, _ => none
def E_47 : Env tau := mkE [(0, [(0, .agg [.any, .own 37, .own 84]), (1, .agg [.any, .any, .any, .own 39, .own 82, .any, .any])]), (1, [(2, .one .any), (3, .one .any), (4, .one .any)]), (2, [(4, .one .any)]), (3, [(2, .one .any), (3, .one .any), (4, .one .any)]), (4, [(2, .one .any), (3, .one .any), (4, .one .any), (6, .one .any)]), (5, [(2, .one .any), (4, .one .any), (6, .one .any)]), (6, [(4, .one .any), (6, .one .any)]), (7, [(2, .one .any), (3, .one .any), (4, .one .any), (6, .one .any)]), (8, [(2, .one .any), (3, .one .any), (4, .one .any), (6, .one .any), (43, .one (.own 84)), (44, .one .any), (45, .one .any)]), (9, [(2, .one .any), (3, .one .any), (4, .one .any), (6, .one .any), (43, .one (.own 84)), (44, .one .any), (45, .one .any)]), (10, [(2, .one .any), (3, .one .any), (4, .one .any), (6, .one .any), (8, .one .any), (43, .one (.own 84)), (44, .one .any), (45, .one .any)]), (11, [(2, .one .any), (3, .one .any), (4, .one .any), (6, .one .any), (8, .one .any)]), (12, [(3, .one .any), (4, .one .any), (6, .one .any), (8, .one .any)]), (13, [(4, .one .any), (6, .one .any)]), (14, [(4, .one .any), (6, .one .any)]), (15, [(2, .one .any), (3, .one .any), (4, .one .any), (6, .one .any), (43, .one (.own 84)), (44, .one .any), (45, .one .any)]), (16, [(2, .one .any), (3, .one .any), (4, .one .any), (6, .one .any)]), (17, [(2, .one .any), (3, .one .any), (4, .one .any), (6, .one .any), (9, .one .any)]), (18, [(2, .one .any), (3, .one .any), (4, .one .any), (6, .one .any), (9, .one .any)]), (19, [(2, .one .any), (3, .one .any), (4, .one .any), (6, .one .any), (9, .one .any)]), (20, [(2, .one .any), (4, .one .any), (6, .one .any), (9, .one .any)]), (21, [(2, .one .any), (3, .one .any), (4, .one .any), (6, .one .any), (9, .one .any)]), (22, [(2, .one .any), (4, .one .any), (6, .one .any), (9, .one .any)]), (23, [(2, .one .any), (4, .one .any), (6, .one .any), (9, .one .any)]), (24, [(2, .one .any), (4, .one .any), (6, .one .any), (9, .one .any), (10, .one (.own 84))]), (25, [(2, .one .any), (4, .one .any), (6, .one .any), (9, .one .any), (10, .one (.own 84)), (11, .one .any)]), (26, [(4, .one .any), (6, .one .any), (9, .one .any), (10, .one (.own 84)), (11, .one .any), (107, .one (.own 84)), (108, .one .any), (109, .one .any)]), (27, [(4, .one .any), (6, .one .any), (9, .one .any), (10, .one (.own 84)), (11, .one .any), (107, .one (.own 84)), (108, .one .any), (109, .one .any)]), (28, [(4, .one .any), (6, .one .any), (9, .one .any), (10, .one (.own 84)), (11, .one .any), (13, .one .any), (107, .one (.own 84)), (108, .one .any), (109, .one .any)]), (29, [(4, .one .any), (6, .one .any), (9, .one .any), (10, .one (.own 84)), (13, .one .any), (107, .one (.own 84)), (108, .one .any), (109, .one .any)]), (30, [(4, .one .any), (6, .one .any), (9, .one .any), (10, .one (.own 84)), (13, .one .any), (107, .one (.own 84)), (108, .one .any), (109, .one .any)]), (31, [(4, .one .any), (6, .one .any), (9, .one .any), (10, .one (.own 84)), (11, .one .any), (13, .one .any), (107, .one (.own 84)), (108, .one .any), (109, .one .any)]), (32, [(4, .one .any), (6, .one .any), (9, .one .any), (10, .one (.own 84)), (11, .one .any), (13, .one .any), (107, .one (.own 84)), (108, .one .any), (109, .one .any)]), (33, [(4, .one .any), (6, .one .any), (9, .one .any), (10, .one (.own 84)), (11, .one .any), (107, .one (.own 84)), (108, .one .any), (109, .one .any)]), (34, [(4, .one .any), (6, .one .any), (9, .one .any), (10, .one (.own 84)), (11, .one .any)]), (35, [(4, .one .any), (6, .one .any), (9, .one .any), (10, .one (.own 84))]), (36, [(4, .one .any), (6, .one .any), (9, .one .any), (10, .one (.own 84))]), (37, [(4, .one .any), (6, .one .any), (9, .one .any)])] [.agg [.any, .own 37, .own 84], .one .any] ⟨0, 0⟩
noncomputable def c_125 (args : List (AV tau)) (m : Mem tau) (κ : AV tau → Mem tau → Option Unit) : Option Unit := match args, m.bx, m.rw with
  | [], [], [] => callX (fun n => impl_BoxOpen.f) fun t => κ (.own 0 0) ⟨[], [some ⟨37, t, 0⟩]⟩
  | _, _, _ => none
def E_125 : Env tau := mkE [(0, []), (1, [])] [.one (.own 37)] ⟨0, 0⟩
noncomputable def c_60 (args : List (AV tau)) (m : Mem tau) (κ : AV tau → Mem tau → Option Unit) : Option Unit := match args, m.bx, m.rw with
  | [], [], [] => callX (fun n => impl_CertOpen.f) fun t => κ (.agg [.int .i64 (t.1), .own 0 0, .own 1 0]) ⟨[], [some ⟨37, t.2.1, 0⟩, some ⟨84, t.2.2, 0⟩]⟩
  | _, _, _ => none
def E_60 : Env tau := mkE [(0, []), (1, [(0, .one .any)])] [.agg [.any, .own 37, .own 84]] ⟨0, 0⟩
noncomputable def c_112 (args : List (AV tau)) (m : Mem tau) (κ : AV tau → Mem tau → Option Unit) : Option Unit := match args, m.bx, m.rw with
  | [b0], [], [] => bO (asSl 77 b0) fun l0 => callX (fun n => impl_folded.f n l0) fun t => κ (.tup [.agg [.int .i64 (t.1), .own 0 0, .own 1 0], .own 2 0]) ⟨[], [some ⟨37, t.2.1, 0⟩, some ⟨84, t.2.2.1, 0⟩, some ⟨3, t.2.2.2, 0⟩]⟩
  | _, _, _ => none
def E_112 : Env tau := mkE [(0, [(0, .one (.own 77))]), (1, [(0, .one (.own 77)), (2, .one .any)]), (2, [(0, .one (.own 77)), (2, .one .any), (4, .one .any)]), (3, [(0, .one (.own 77)), (2, .one .any), (4, .one .any), (5, .one (.own 3))]), (4, [(2, .one .any), (4, .one .any), (5, .one (.own 3)), (11, .one (.own 77)), (12, .one .any), (13, .one .any)]), (5, [(2, .one .any), (4, .one .any), (5, .one (.own 3)), (11, .one (.own 77)), (12, .one .any), (13, .one .any)]), (6, [(2, .one .any), (4, .one .any), (5, .one (.own 3)), (7, .one .any), (11, .one (.own 77)), (12, .one .any), (13, .one .any)]), (7, [(2, .one .any), (4, .one .any), (5, .one (.own 3)), (8, .one .any), (9, .one .any), (11, .one (.own 77)), (12, .one .any), (13, .one .any)]), (8, [(2, .one .any), (4, .one .any), (5, .one (.own 3)), (9, .one .any), (11, .one (.own 77)), (12, .one .any), (13, .one .any)]), (9, [(2, .one .any), (4, .one .any), (5, .one (.own 3)), (11, .one (.own 77)), (12, .one .any), (13, .one .any)]), (10, [(2, .one .any), (4, .one .any), (5, .one (.own 3))])] [.agg [.any, .own 37, .own 84], .one (.own 3)] ⟨0, 0⟩
noncomputable def c_44 (args : List (AV tau)) (m : Mem tau) (κ : AV tau → Mem tau → Option Unit) : Option Unit := match args, m.bx, m.rw with
  | [b0], [], [] => bO (asSl 77 b0) fun l0 => callX (fun n => impl_CertFold.f n l0) fun t => κ (.agg [.int .i64 (t.1), .own 0 0, .own 1 0]) ⟨[], [some ⟨37, t.2.1, 0⟩, some ⟨84, t.2.2, 0⟩]⟩
  | _, _, _ => none
def E_44 : Env tau := mkE [(0, [(0, .one (.own 77))]), (1, [(0, .one (.own 77)), (2, .one .any)]), (2, [(2, .one .any)]), (3, [(0, .one (.own 77)), (2, .one .any)]), (4, [(2, .one .any), (3, .one .any)])] [.agg [.any, .own 37, .own 84]] ⟨0, 0⟩
noncomputable def c_101 (args : List (AV tau)) (m : Mem tau) (κ : AV tau → Mem tau → Option Unit) : Option Unit := match args, m.bx, m.rw with
  | [b0, b1], [], [] => bO (asSl 37 b0) fun l0 => bO (asSl 37 b1) fun l1 => callX (fun n => impl_same_impl_Box.f n l0 l1) fun t => κ (.bool (t)) ⟨[], []⟩
  | _, _, _ => none
def E_101 : Env tau := mkE [(0, [(0, .one (.own 37)), (1, .one (.own 37))]), (1, [(0, .one (.own 37)), (1, .one (.own 37))]), (2, []), (3, [(0, .one (.own 37)), (1, .one (.own 37))]), (4, [(0, .one (.own 37)), (1, .one (.own 37)), (12, .one .any), (13, .one .any)]), (5, [(0, .one (.own 37)), (1, .one (.own 37)), (12, .one .any), (13, .one .any)]), (6, [(0, .one (.own 37)), (1, .one (.own 37)), (5, .one .any), (12, .one .any), (13, .one .any)]), (7, []), (8, [(0, .one (.own 37)), (1, .one (.own 37)), (12, .one .any), (13, .one .any)]), (9, [])] [.one .any] ⟨0, 0⟩
noncomputable def c_39 (args : List (AV tau)) (m : Mem tau) (κ : AV tau → Mem tau → Option Unit) : Option Unit := match args, m.bx, m.rw with
  | [b0, b1], [], [] => bO (asSl 37 b0) fun l0 => bO (asSl 37 b1) fun l1 => callX (fun n => impl_BoxSame.f n l0 l1) fun t => κ (.bool (t)) ⟨[], []⟩
  | _, _, _ => none
def E_39 : Env tau := mkE [(0, [(0, .one (.own 37)), (1, .one (.own 37))]), (1, [(0, .one (.own 37)), (1, .one (.own 37))])] [.one .any] ⟨0, 0⟩
noncomputable def c_113 (args : List (AV tau)) (m : Mem tau) (κ : AV tau → Mem tau → Option Unit) : Option Unit := match args, m.bx, m.rw with
  | [b0, b1], [], [] => bO (asSl 84 b0) fun l0 => bO (asSl 84 b1) fun l1 => callX (fun n => impl_same_impl_Done.f n l0 l1) fun t => κ (.bool (t)) ⟨[], []⟩
  | _, _, _ => none
def E_113 : Env tau := mkE [(0, [(0, .one (.own 84)), (1, .one (.own 84))]), (1, [(0, .one (.own 84)), (1, .one (.own 84))]), (2, []), (3, [(0, .one (.own 84)), (1, .one (.own 84))]), (4, [(0, .one (.own 84)), (1, .one (.own 84)), (12, .one .any), (13, .one .any)]), (5, [(0, .one (.own 84)), (1, .one (.own 84)), (12, .one .any), (13, .one .any)]), (6, [(0, .one (.own 84)), (1, .one (.own 84)), (5, .one .any), (12, .one .any), (13, .one .any)]), (7, []), (8, [(0, .one (.own 84)), (1, .one (.own 84)), (12, .one .any), (13, .one .any)]), (9, [])] [.one .any] ⟨0, 0⟩
noncomputable def c_45 (args : List (AV tau)) (m : Mem tau) (κ : AV tau → Mem tau → Option Unit) : Option Unit := match args, m.bx, m.rw with
  | [.agg [b0, b1, b2], .agg [b3, b4, b5]], [], [] => bO (asI .i64 b0) fun a0_0 => bO (asSl 37 b1) fun l0_1 => bO (asSl 84 b2) fun l0_2 => bO (asI .i64 b3) fun a1_0 => bO (asSl 37 b4) fun l1_1 => bO (asSl 84 b5) fun l1_2 => callX (fun n => impl_CertSame.f n a0_0 l0_1 l0_2 a1_0 l1_1 l1_2) fun t => κ (.bool (t)) ⟨[], []⟩
  | _, _, _ => none
def E_45 : Env tau := mkE [(0, [(0, .agg [.any, .own 37, .own 84]), (1, .agg [.any, .own 37, .own 84])]), (1, [(2, .one .any), (3, .one .any)])] [.one .any] ⟨0, 0⟩
noncomputable def c_46 (args : List (AV tau)) (m : Mem tau) (κ : AV tau → Mem tau → Option Unit) : Option Unit := match args, m.bx, m.rw with
  | [b0], [], [] => bO (asSl 77 b0) fun l0 => callX (fun n => spec_CertFold.f n l0) fun t => κ (.agg [.int .i64 (t.1), .own 0 0, .own 1 0]) ⟨[], [some ⟨37, t.2.1, 0⟩, some ⟨84, t.2.2, 0⟩]⟩
  | _, _, _ => none
def E_46 : Env tau := mkE [(0, [(0, .one (.own 77))]), (1, [(0, .one (.own 77)), (2, .one .any)]), (2, [(0, .one (.own 77)), (2, .one .any), (3, .one .any)]), (3, [(2, .one .any)]), (4, [(0, .one (.own 77)), (2, .one .any), (3, .one .any)]), (5, [(0, .one (.own 77)), (2, .one .any), (3, .one .any), (4, .one .any)]), (6, [(0, .one (.own 77)), (2, .one .any), (3, .one .any), (4, .one .any)]), (7, [(0, .one (.own 77)), (2, .one .any), (3, .one .any), (4, .one .any)]), (8, [(2, .one .any)]), (9, [(0, .one (.own 77)), (2, .one .any), (3, .one .any), (4, .one .any)]), (10, [(0, .one (.own 77)), (2, .one .any), (3, .one .any), (4, .one .any), (5, .one .any)]), (11, [(2, .one .any), (3, .one .any)])] [.agg [.any, .own 37, .own 84]] ⟨0, 0⟩
noncomputable def c_6 (args : List (AV tau)) (m : Mem tau) (κ : AV tau → Mem tau → Option Unit) : Option Unit := match args, m.bx, m.rw with
  | [b0, b1], [], [] => bO (asSl 5 b0) fun l0 => bO (asSl 5 b1) fun l1 => callX (fun n => laws_FnCertFold.f n l0 l1) fun t => κ (.bool (t)) ⟨[], []⟩
  | _, _, _ => none
def E_6 : Env tau := mkE [(0, [(0, .one (.own 5)), (1, .one (.own 5))]), (1, [(0, .one (.own 5)), (1, .one (.own 5))]), (2, []), (3, [(0, .one (.own 5)), (1, .one (.own 5))]), (4, [(1, .one (.own 5)), (5, .one (.own 77))]), (5, [(1, .one (.own 5)), (5, .one (.own 77)), (6, .one .any)]), (6, []), (7, [(1, .one (.own 5)), (5, .one (.own 77)), (6, .one .any)]), (8, []), (9, [(1, .one (.own 5)), (5, .one (.own 77)), (6, .one .any)]), (10, [(5, .one (.own 77)), (6, .one .any), (7, .one .any)]), (11, [(5, .one (.own 77)), (6, .one .any), (7, .one .any), (8, .one .any)]), (12, [(5, .one (.own 77)), (6, .one .any), (7, .one .any), (8, .one .any), (9, .one .any)]), (13, [(5, .one (.own 77)), (6, .one .any), (7, .one .any), (8, .one .any), (9, .one .any)]), (14, [(5, .one (.own 77)), (6, .one .any), (7, .one .any), (8, .one .any), (9, .one .any)]), (15, [(5, .one (.own 77)), (6, .one .any), (7, .one .any), (8, .one .any), (9, .one .any), (10, .one .any), (11, .one .any)]), (16, []), (17, [(5, .one (.own 77)), (6, .one .any), (7, .one .any), (8, .one .any), (9, .one .any), (10, .one .any)]), (18, [(5, .one (.own 77)), (6, .one .any), (7, .one .any), (8, .one .any)]), (19, [(6, .one .any), (8, .one .any)]), (20, [(5, .one (.own 77)), (6, .one .any), (7, .one .any)]), (21, [(5, .one (.own 77)), (6, .one .any), (7, .one .any), (12, .one (.own 77))]), (22, [(6, .one .any), (13, .one .any)]), (23, [(6, .one .any), (13, .one .any)])] [.one .any] ⟨0, 0⟩
end Go.Proofs.Ytkkmhlfpombgfaa.PFnCertFold