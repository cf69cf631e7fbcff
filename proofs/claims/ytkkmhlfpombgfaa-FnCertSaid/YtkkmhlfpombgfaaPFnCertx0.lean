/- The machine's texts of FnCert (definitions, table, contracts). Conditions: none. -/
import Derived.Test.YtkkmhlfpombgfaaProg
import Derived.Test.YtkkmhlfpombgfaaSWFnCert
import Derived.Test.YtkkmhlfpombgfaaAm38
import Derived.RowKit
import Derived.KernelRfl
set_option linter.unusedVariables false
set_option maxRecDepth 100000
namespace Go.Proofs.Ytkkmhlfpombgfaa.PFnCert
open Go.RowKit Go.Proofs.YtkkmhlfpombgfaaW.PrintWords Go.Proofs.YtkkmhlfpombgfaaW.PrintLast Go.Proofs.YtkkmhlfpombgfaaW.PrintMore
def errW : Option Int → Value
  | none => .nilIface
  | some c => .iface 0 (.int .i64 c)
structure S37 where
  f0 : Int
  f1 : Int
def z37 : S37 := ⟨(0 : Int), (0 : Int)⟩
def rd_T37 (xs : List S37) (i : Int) : S37 := xs.getD i.toNat z37
structure S39 where
  f0 : Int
  f1 : Int
def z39 : S39 := ⟨(0 : Int), (0 : Int)⟩
def rd_T39 (xs : List S39) (i : Int) : S39 := xs.getD i.toNat z39
structure S82 where
  f0 : Int
  f1 : Int
def z82 : S82 := ⟨(0 : Int), (0 : Int)⟩
def rd_T82 (xs : List S82) (i : Int) : S82 := xs.getD i.toNat z82
structure S75 where
  f0 : Int
  f1 : Int
def z75 : S75 := ⟨(0 : Int), (0 : Int)⟩
def rd_T75 (xs : List S75) (i : Int) : S75 := xs.getD i.toNat z75
structure S84 where
  f0 : S75
  f1 : Int
  f2 : Int
def z84 : S84 := ⟨z75, (0 : Int), (0 : Int)⟩
def rd_T84 (xs : List S84) (i : Int) : S84 := xs.getD i.toNat z84
structure S95 where
  f0 : Int
  f1 : Int
  f2 : Int
  f3 : Int
def z95 : S95 := ⟨(0 : Int), (0 : Int), (0 : Int), (0 : Int)⟩
def rd_T95 (xs : List S95) (i : Int) : S95 := xs.getD i.toNat z95
def rd_L9 (xs : List (List S39)) (i : Int) : (List S39) := xs.getD i.toNat ([] : List S39)
def rd_L10 (xs : List (List S82)) (i : Int) : (List S82) := xs.getD i.toNat ([] : List S82)
structure S26 where
  f0 : (List S39)
  f1 : (List S82)
  f2 : Int
  f3 : Int
def z26 : S26 := ⟨([] : List S39), ([] : List S82), (0 : Int), (0 : Int)⟩
def rd_T26 (xs : List S26) (i : Int) : S26 := xs.getD i.toNat z26
structure S77 where
  f0 : Bool
  f1 : S75
  f2 : S26
def z77 : S77 := ⟨false, z75, z26⟩
def rd_T77 (xs : List S77) (i : Int) : S77 := xs.getD i.toNat z77
def impl_same_impl_Box.l0 : Nat → List (S37) → List (S37) → Int → Int → Option (Bool)
  | 0, _, _, _, _ => none
  | k + 1, x0, x1, x12, x13 => if x13 < x12 then (if 0 ≤ x13 then (if x13 < (x0.length : Int) then (if x13 < (x1.length : Int) then (if (!(((rd_T37 x0 x13).f0) == ((rd_T37 x1 x13).f0)) || (!(((rd_T37 x0 x13).f1) == ((rd_T37 x1 x13).f1)))) = true then (some false) else (impl_same_impl_Box.l0 k x0 x1 x12 (wrap64 (x13 + 1)))) else (none)) else (none)) else (none)) else (some true)
def impl_same_impl_Box.f (k : Nat) (l0 : List (S37)) (l1 : List (S37)) : Option (Bool) := if (l0.length : Int) = (l1.length : Int) then (impl_same_impl_Box.l0 k l0 l1 (l0.length : Int) 0) else (some false)
def impl_BoxSame.f (k : Nat) (l0 : List (S37)) (l1 : List (S37)) : Option (Bool) := (impl_same_impl_Box.f k l0 l1).bind fun t103 => (some t103)
def spec_l15Open.f (l0 : List Int) : Option (List Int × Int) := if (l0.length : Int) > 2000 then (if 2000 ≤ (l0.length : Int) then (some (l0.take 2000, 0)) else (none)) else (some (l0, 0))
mutual
def spec_ExecSame.j0 : Nat → Bool → List (S39) → List (S82) → Int → Int → List (S39) → List (S82) → Int → Int → Option (Bool)
  | 0, _, _, _, _, _, _, _, _, _ => none
  | k + 1, x36, x108000, x108001, x108002, x108003, x109000, x109001, x109002, x109003 => if x36 = true then (some false) else (spec_ExecSame.l0 k 0 x108000 x108001 x108002 x108003 x109000 x109001 x109002 x109003)
def spec_ExecSame.l0 : Nat → Int → List (S39) → List (S82) → Int → Int → List (S39) → List (S82) → Int → Int → Option (Bool)
  | 0, _, _, _, _, _, _, _, _, _ => none
  | k + 1, x5, x108000, x108001, x108002, x108003, x109000, x109001, x109002, x109003 => if x5 < (x108000.length : Int) then (if 0 ≤ x5 then (if x5 < (x109000.length : Int) then (if (!(((rd_T39 x108000 x5).f0) == ((rd_T39 x109000 x5).f0)) || (!(((rd_T39 x108000 x5).f1) == ((rd_T39 x109000 x5).f1)))) = true then (some false) else (spec_ExecSame.l0 k (wrap64 (x5 + 1)) x108000 x108001 x108002 x108003 x109000 x109001 x109002 x109003)) else (none)) else (none)) else (spec_ExecSame.l1 k 0 x108000 x108001 x108002 x108003 x109000 x109001 x109002 x109003)
def spec_ExecSame.l1 : Nat → Int → List (S39) → List (S82) → Int → Int → List (S39) → List (S82) → Int → Int → Option (Bool)
  | 0, _, _, _, _, _, _, _, _, _ => none
  | k + 1, x6, x108000, x108001, x108002, x108003, x109000, x109001, x109002, x109003 => if x6 < (x108001.length : Int) then (if 0 ≤ x6 then (if x6 < (x109001.length : Int) then (if (!(((rd_T82 x108001 x6).f0) == ((rd_T82 x109001 x6).f0)) || (!(((rd_T82 x108001 x6).f1) == ((rd_T82 x109001 x6).f1)))) = true then (some false) else (spec_ExecSame.l1 k (wrap64 (x6 + 1)) x108000 x108001 x108002 x108003 x109000 x109001 x109002 x109003)) else (none)) else (none)) else (some true)
end
def spec_ExecSame.f (k : Nat) (l0_0 : List (S39)) (l0_1 : List (S82)) (a0_2 : Int) (a0_3 : Int) (l1_0 : List (S39)) (l1_1 : List (S82)) (a1_2 : Int) (a1_3 : Int) : Option (Bool) := if a0_2 = a1_2 then (if a0_3 = a1_3 then (if (l0_0.length : Int) = (l1_0.length : Int) then (spec_ExecSame.j0 k ((l0_1.length : Int) != (l1_1.length : Int)) l0_0 l0_1 a0_2 a0_3 l1_0 l1_1 a1_2 a1_3) else (spec_ExecSame.j0 k true l0_0 l0_1 a0_2 a0_3 l1_0 l1_1 a1_2 a1_3)) else (spec_ExecSame.j0 k true l0_0 l0_1 a0_2 a0_3 l1_0 l1_1 a1_2 a1_3)) else (spec_ExecSame.j0 k true l0_0 l0_1 a0_2 a0_3 l1_0 l1_1 a1_2 a1_3)
def spec_l1Num.f (a0 : Int) : Option (Bool) := if a0 ≥ (-1000000) then (some (decide (a0 ≤ 1000000))) else (some false)
def spec_l2Box.f (a0 : Int) : Option (Bool) := if a0 ≥ 0 then (some (decide (a0 < 4))) else (some false)
def spec_l3Saw.l0 : Nat → List (S39) → Int → Int → Option (Bool)
  | 0, _, _, _ => none
  | k + 1, x0, x1, x5 => if x5 < (x0.length : Int) then (if 0 ≤ x5 then (if ((rd_T39 x0 x5).f0) = x1 then (some true) else (spec_l3Saw.l0 k x0 x1 (wrap64 (x5 + 1)))) else (none)) else (some false)
def spec_l3Saw.f (k : Nat) (l0 : List (S39)) (a1 : Int) : Option (Bool) := spec_l3Saw.l0 k l0 a1 0
def spec_l3At.l0 : Nat → List (S82) → Int → Int → Option (Int)
  | 0, _, _, _ => none
  | k + 1, x0, x1, x5 => if x5 < (x0.length : Int) then (if 0 ≤ x5 then (if ((rd_T82 x0 x5).f0) = x1 then (some x5) else (spec_l3At.l0 k x0 x1 (wrap64 (x5 + 1)))) else (none)) else (some (-1))
def spec_l3At.f (k : Nat) (l0 : List (S82)) (a1 : Int) : Option (Int) := spec_l3At.l0 k l0 a1 0
mutual
def spec_ExecOk.j0 : Nat → Bool → List (S39) → List (S82) → Int → Int → Option (Bool)
  | 0, _, _, _, _, _ => none
  | k + 1, x45, x116000, x116001, x116002, x116003 => if x45 = true then (some false) else (spec_ExecOk.l0 k 0 x116000 x116001 x116002 x116003)
def spec_ExecOk.l0 : Nat → Int → List (S39) → List (S82) → Int → Int → Option (Bool)
  | 0, _, _, _, _, _ => none
  | k + 1, x3, x116000, x116001, x116002, x116003 => if x3 < (x116000.length : Int) then (if 0 ≤ x3 then ((spec_l2Box.f ((rd_T39 x116000 x3).f0)).bind fun t118 => (if t118 = true then (if ((rd_T39 x116000 x3).f1) < 0 then (some false) else (if ((rd_T39 x116000 x3).f1) > 1000000 then (some false) else (if x3 ≤ (x116000.length : Int) then ((spec_l3Saw.f k (x116000.take (x3 : Int).toNat) ((rd_T39 x116000 x3).f0)).bind fun t126 => (if t126 = true then (some false) else (spec_ExecOk.l0 k (wrap64 (x3 + 1)) x116000 x116001 x116002 x116003))) else (none)))) else (some false))) else (none)) else (spec_ExecOk.l1 k 0 x116000 x116001 x116002 x116003)
def spec_ExecOk.l1 : Nat → Int → List (S39) → List (S82) → Int → Int → Option (Bool)
  | 0, _, _, _, _, _ => none
  | k + 1, x4, x116000, x116001, x116002, x116003 => if x4 < (x116001.length : Int) then (if 0 ≤ x4 then ((spec_l2Box.f ((rd_T82 x116001 x4).f0)).bind fun t128 => (if t128 = true then ((spec_l1Num.f ((rd_T82 x116001 x4).f1)).bind fun t130 => (if t130 = true then (if x4 ≤ (x116001.length : Int) then ((spec_l3At.f k (x116001.take (x4 : Int).toNat) ((rd_T82 x116001 x4).f0)).bind fun t136 => (if t136 ≥ 0 then (some false) else (spec_ExecOk.l1 k (wrap64 (x4 + 1)) x116000 x116001 x116002 x116003))) else (none)) else (some false))) else (some false))) else (none)) else (some true)
end
def spec_ExecOk.f (k : Nat) (l0_0 : List (S39)) (l0_1 : List (S82)) (a0_2 : Int) (a0_3 : Int) : Option (Bool) := if a0_3 < 0 then (spec_ExecOk.j0 k true l0_0 l0_1 a0_2 a0_3) else (if a0_3 > 3 then (spec_ExecOk.j0 k true l0_0 l0_1 a0_2 a0_3) else ((spec_l1Num.f a0_2).bind fun t116 => (if t116 = true then (if a0_3 = 0 then (if a0_3 = 3 then (spec_ExecOk.j0 k (decide ((l0_0.length : Int) > 0)) l0_0 l0_1 a0_2 a0_3) else (spec_ExecOk.j0 k false l0_0 l0_1 a0_2 a0_3)) else (if a0_2 = 0 then (if (l0_1.length : Int) > 0 then (spec_ExecOk.j0 k true l0_0 l0_1 a0_2 a0_3) else (if a0_3 = 3 then (spec_ExecOk.j0 k (decide ((l0_0.length : Int) > 0)) l0_0 l0_1 a0_2 a0_3) else (spec_ExecOk.j0 k false l0_0 l0_1 a0_2 a0_3))) else (spec_ExecOk.j0 k true l0_0 l0_1 a0_2 a0_3))) else (spec_ExecOk.j0 k true l0_0 l0_1 a0_2 a0_3))))
def spec_l5Req.f (a0_0 : Int) (a0_1 : Int) : Option (Bool) := if a0_0 ≥ 0 then (if a0_0 < 3 then (if a0_1 ≥ 1 then (some (decide (a0_1 ≤ 1000))) else (some false)) else (some false)) else (some false)
def spec_CertEntry.f (k : Nat) (a0_0 : Bool) (a0_1 : Int) (a0_2 : Int) (l0_3 : List (S39)) (l0_4 : List (S82)) (a0_5 : Int) (a0_6 : Int) : Option (Bool) := if a0_0 = true then (if (a0_1 == 0 && (a0_2 == 0)) = true then ((spec_ExecSame.f k l0_3 l0_4 a0_5 a0_6 ([] : List (S39)) ([] : List (S82)) 0 0).bind fun t139 => (some t139)) else (some false)) else ((spec_l5Req.f a0_1 a0_2).bind fun t140 => (if t140 = true then ((spec_ExecOk.f k l0_3 l0_4 a0_5 a0_6).bind fun t141 => (if t141 = true then (some (a0_6 != 3)) else (some false))) else (some false)))
def spec_l15Rd_pick.j0 : Nat → Int → Bool → List Int → Int → Option (Int × Int)
  | 0, _, _, _, _ => none
  | k + 1, x1, x24, x1000, x1001 => if x24 = true then (some (0, x1001)) else (if (wrap64 (x1001 - 1)) < (x1000.length : Int) then (if 0 ≤ (wrap64 (x1001 - 1)) then (if x1 = 0 then (none) else (some (Int.tmod (wrap64 (rd x1000 (wrap64 (x1001 - 1)))) x1, x1001))) else (none)) else (if (x1000.length : Int) = 0 then (none) else (if 0 ≤ (Int.tmod (wrap64 (x1001 - 1)) (x1000.length : Int)) then (if (Int.tmod (wrap64 (x1001 - 1)) (x1000.length : Int)) < (x1000.length : Int) then (if 0 ≤ (Int.tmod (wrap64 ((wrap64 ((wrap64 (x1001 - 1)) * 7)) + 3)) (x1000.length : Int)) then (if (Int.tmod (wrap64 ((wrap64 ((wrap64 (x1001 - 1)) * 7)) + 3)) (x1000.length : Int)) < (x1000.length : Int) then (if x1 = 0 then (none) else (some (Int.tmod (Go.bits .xor .i64 (wrap64 ((wrap64 ((wrap64 ((wrap64 ((wrap64 (rd x1000 (Int.tmod (wrap64 (x1001 - 1)) (x1000.length : Int)))) * 131)) + (wrap64 ((wrap64 (rd x1000 (Int.tmod (wrap64 ((wrap64 ((wrap64 (x1001 - 1)) * 7)) + 3)) (x1000.length : Int)))) * 1117)))) + (wrap64 ((wrap64 (x1001 - 1)) * 29)))) + (wrap64 ((wrap64 (Int.tdiv (wrap64 (x1001 - 1)) (x1000.length : Int))) * 53)))) (wrap64 (Int.tdiv (wrap64 ((wrap64 ((wrap64 ((wrap64 ((wrap64 (rd x1000 (Int.tmod (wrap64 (x1001 - 1)) (x1000.length : Int)))) * 131)) + (wrap64 ((wrap64 (rd x1000 (Int.tmod (wrap64 ((wrap64 ((wrap64 (x1001 - 1)) * 7)) + 3)) (x1000.length : Int)))) * 1117)))) + (wrap64 ((wrap64 (x1001 - 1)) * 29)))) + (wrap64 ((wrap64 (Int.tdiv (wrap64 (x1001 - 1)) (x1000.length : Int))) * 53)))) 64))) x1, x1001))) else (none)) else (none)) else (none)) else (none))))
def spec_l15Rd_pick.f (k : Nat) (s0_0 : List Int) (s0_1 : Int) (a1 : Int) : Option (Int × Int) := if a1 < 1 then (spec_l15Rd_pick.j0 k a1 true s0_0 (wrap64 (s0_1 + 1))) else (spec_l15Rd_pick.j0 k a1 ((s0_0.length : Int) == 0) s0_0 (wrap64 (s0_1 + 1)))
def spec_BoxOpen.f  : Option ((List (S37))) := if 4 ≤ 17592186044416 then (some (List.replicate 4 z37)) else (none)
def spec_CertOpen.f  : Option (Int × (List (S37)) × (List (S84))) := (spec_BoxOpen.f).bind fun t149 => (some (0, t149, ([] : List (S84))))
def spec_BoxOk.l0 : Nat → List (S37) → Int → Option (Bool)
  | 0, _, _ => none
  | k + 1, x0, x3 => if x3 < (x0.length : Int) then (if 0 ≤ x3 then (if ((rd_T37 x0 x3).f0) < 0 then (some false) else (if ((rd_T37 x0 x3).f0) > 1000000 then (some false) else ((spec_l1Num.f ((rd_T37 x0 x3).f1)).bind fun t155 => (if t155 = true then (spec_BoxOk.l0 k x0 (wrap64 (x3 + 1))) else (some false))))) else (none)) else (some true)
def spec_BoxOk.f (k : Nat) (l0 : List (S37)) : Option (Bool) := if (l0.length : Int) = 4 then (spec_BoxOk.l0 k l0 0) else (some false)
mutual
def spec_ExecFresh.j0 : Nat → List (S37) → Bool → List (S39) → List (S82) → Int → Int → Option (Bool)
  | 0, _, _, _, _, _, _ => none
  | k + 1, x0, x13, x157000, x157001, x157002, x157003 => if x13 = true then (some false) else (spec_ExecFresh.l0 k x0 0 x157000 x157001 x157002 x157003)
def spec_ExecFresh.l0 : Nat → List (S37) → Int → List (S39) → List (S82) → Int → Int → Option (Bool)
  | 0, _, _, _, _, _, _ => none
  | k + 1, x0, x5, x157000, x157001, x157002, x157003 => if x5 < (x157000.length : Int) then (if 0 ≤ x5 then (if 0 ≤ ((rd_T39 x157000 x5).f0) then (if ((rd_T39 x157000 x5).f0) < (x0.length : Int) then (if ((rd_T37 x0 ((rd_T39 x157000 x5).f0)).f0) = ((rd_T39 x157000 x5).f1) then (spec_ExecFresh.l0 k x0 (wrap64 (x5 + 1)) x157000 x157001 x157002 x157003) else (some false)) else (none)) else (none)) else (none)) else (some true)
end
def spec_ExecFresh.f (k : Nat) (l0 : List (S37)) (l1_0 : List (S39)) (l1_1 : List (S82)) (a1_2 : Int) (a1_3 : Int) : Option (Bool) := (spec_BoxOk.f k l0).bind fun t157 => (if t157 = true then ((spec_ExecOk.f k l1_0 l1_1 a1_2 a1_3).bind fun t158 => (spec_ExecFresh.j0 k l0 (!t158) l1_0 l1_1 a1_2 a1_3)) else (spec_ExecFresh.j0 k l0 true l1_0 l1_1 a1_2 a1_3))
def spec_l1Min.f (a0 : Int) (a1 : Int) : Option (Int) := if a0 < a1 then (some a0) else (some a1)
def spec_l3Do.l0 : Nat → List (S37) → Int → List (S39) → List (S82) → Int → Int → Option ((List (S37)))
  | 0, _, _, _, _, _, _ => none
  | k + 1, x0, x5, x163000, x163001, x163002, x163003 => if x5 < (x163001.length : Int) then (if 0 ≤ x5 then (if 0 ≤ ((rd_T82 x163001 x5).f0) then (if ((rd_T82 x163001 x5).f0) < (x0.length : Int) then ((spec_l1Min.f 1000000 (wrap64 (((rd_T37 x0 ((rd_T82 x163001 x5).f0)).f0) + 1))).bind fun t165 => (spec_l3Do.l0 k (x0.set (((rd_T82 x163001 x5).f0) : Int).toNat (⟨t165, (rd_T82 x163001 x5).f1⟩ : S37)) (wrap64 (x5 + 1)) x163000 x163001 x163002 x163003)) else (none)) else (none)) else (none)) else (some x0)
def spec_l3Do.f (k : Nat) (l0 : List (S37)) (l1_0 : List (S39)) (l1_1 : List (S82)) (a1_2 : Int) (a1_3 : Int) : Option ((List (S37))) := spec_l3Do.l0 k l0 0 l1_0 l1_1 a1_2 a1_3
def spec_l5Last.l0 : Nat → Int → Int → Int → List (S37) → List (S84) → Option (Int × Int × Int × Int × Bool)
  | 0, _, _, _, _, _ => none
  | k + 1, x1, x6, x169000, x169001, x169002 => if x6 < (x169002.length : Int) then (if 0 ≤ x6 then (if ((rd_T84 x169002 x6).f0.f0) = x1 then (some ((rd_T84 x169002 x6).f0.f0, (rd_T84 x169002 x6).f0.f1, (rd_T84 x169002 x6).f1, (rd_T84 x169002 x6).f2, true)) else (spec_l5Last.l0 k x1 (wrap64 (x6 + 1)) x169000 x169001 x169002)) else (none)) else (some (0, 0, 0, 0, false))
def spec_l5Last.f (k : Nat) (a0_0 : Int) (l0_1 : List (S37)) (l0_2 : List (S84)) (a1 : Int) : Option (Int × Int × Int × Int × Bool) := spec_l5Last.l0 k a1 0 a0_0 l0_1 l0_2
mutual
def spec_l5Put.l0 : Nat → List (S84) → List (S84) → Bool → Int → Int → Int → Int → Int → Option ((List (S84)))
  | 0, _, _, _, _, _, _, _, _ => none
  | k + 1, x0, x5, x6, x7, x173000, x173001, x173002, x173003 => if x7 < (x0.length : Int) then (if x6 = true then (spec_l5Put.j1 k x0 x5 x6 x7 false x173000 x173001 x173002 x173003) else (if 0 ≤ x7 then (spec_l5Put.j1 k x0 x5 x6 x7 (decide (((rd_T84 x0 x7).f0.f0) ≥ x173000)) x173000 x173001 x173002 x173003) else (none))) else (if x6 = true then (some x5) else (if x5.length < 4398046511104 then (some (x5 ++ [(⟨(⟨x173000, x173001⟩ : S75), x173002, x173003⟩ : S84)])) else (none)))
def spec_l5Put.j1 : Nat → List (S84) → List (S84) → Bool → Int → Bool → Int → Int → Int → Int → Option ((List (S84)))
  | 0, _, _, _, _, _, _, _, _, _ => none
  | k + 1, x0, x5, x6, x7, x28, x173000, x173001, x173002, x173003 => if x28 = true then (if x5.length < 4398046511104 then ((some (x5 ++ [(⟨(⟨x173000, x173001⟩ : S75), x173002, x173003⟩ : S84)] : List (S84))).bind fun y180 => (if 0 ≤ x7 then (if x7 < (x0.length : Int) then (if ((rd_T84 x0 x7).f0.f0) = x173000 then (spec_l5Put.l0 k x0 y180 true (wrap64 (x7 + 1)) x173000 x173001 x173002 x173003) else (if y180.length < 4398046511104 then (spec_l5Put.l0 k x0 (y180 ++ [(⟨(⟨(rd_T84 x0 x7).f0.f0, (rd_T84 x0 x7).f0.f1⟩ : S75), (rd_T84 x0 x7).f1, (rd_T84 x0 x7).f2⟩ : S84)]) true (wrap64 (x7 + 1)) x173000 x173001 x173002 x173003) else (none))) else (none)) else (none))) else (none)) else (if 0 ≤ x7 then (if x7 < (x0.length : Int) then (if ((rd_T84 x0 x7).f0.f0) = x173000 then (spec_l5Put.l0 k x0 x5 x6 (wrap64 (x7 + 1)) x173000 x173001 x173002 x173003) else (if x5.length < 4398046511104 then (spec_l5Put.l0 k x0 (x5 ++ [(⟨(⟨(rd_T84 x0 x7).f0.f0, (rd_T84 x0 x7).f0.f1⟩ : S75), (rd_T84 x0 x7).f1, (rd_T84 x0 x7).f2⟩ : S84)]) x6 (wrap64 (x7 + 1)) x173000 x173001 x173002 x173003) else (none))) else (none)) else (none))
end
def spec_l5Put.f (k : Nat) (l0 : List (S84)) (a1_0 : Int) (a1_1 : Int) (a1_2 : Int) (a1_3 : Int) : Option ((List (S84))) := spec_l5Put.l0 k l0 (([] : List (S84))) false 0 a1_0 a1_1 a1_2 a1_3
mutual
def spec_l5Apply.j1 : Nat → Int → List (S37) → List (S84) → Bool → Int → Int → List (S39) → List (S82) → Int → Int → Option (Int × (List (S37)) × (List (S84)) × Int)
  | 0, _, _, _, _, _, _, _, _, _, _ => none
  | k + 1, x194000, x194001, x194002, x195000, x195001, x195002, x195003, x195004, x195005, x195006 => (spec_ExecFresh.f k x194001 x195003 x195004 x195005 x195006).bind fun t203 => (if t203 = true then (spec_l5Apply.j2 k x194000 x194001 x194002 x195000 x195001 x195002 x195003 x195004 x195005 x195006 x195001 x195002 2 0) else (spec_l5Apply.j2 k x194000 x194001 x194002 x195000 x195001 x195002 x195003 x195004 x195005 x195006 x195001 x195002 1 0))
def spec_l5Apply.j2 : Nat → Int → List (S37) → List (S84) → Bool → Int → Int → List (S39) → List (S82) → Int → Int → Int → Int → Int → Int → Option (Int × (List (S37)) × (List (S84)) × Int)
  | 0, _, _, _, _, _, _, _, _, _, _, _, _, _, _ => none
  | k + 1, x194000, x194001, x194002, x195000, x195001, x195002, x195003, x195004, x195005, x195006, x203000, x203001, x203002, x203003 => if x203002 = 2 then (spec_l5Apply.j3 k (x195006 == 0) x194000 x194001 x194002 x195000 x195001 x195002 x195003 x195004 x195005 x195006 x203000 x203001 x203002 x203003) else (spec_l5Apply.j3 k false x194000 x194001 x194002 x195000 x195001 x195002 x195003 x195004 x195005 x195006 x203000 x203001 x203002 x203003)
def spec_l5Apply.j3 : Nat → Bool → Int → List (S37) → List (S84) → Bool → Int → Int → List (S39) → List (S82) → Int → Int → Int → Int → Int → Int → Option (Int × (List (S37)) × (List (S84)) × Int)
  | 0, _, _, _, _, _, _, _, _, _, _, _, _, _, _, _ => none
  | k + 1, x63, x194000, x194001, x194002, x195000, x195001, x195002, x195003, x195004, x195005, x195006, x203000, x203001, x203002, x203003 => if x63 = true then ((spec_l3Do.f k x194001 x195003 x195004 x195005 x195006).bind fun t204 => ((spec_l5Put.f k x194002 x203000 x203001 0 x195005).bind fun t207 => (some (x194000, t204, t207, 0)))) else ((spec_l5Put.f k x194002 x203000 x203001 x203002 x203003).bind fun t210 => (some (x194000, x194001, t210, x203002)))
def spec_l5Apply.j0 : Nat → Bool → Bool → Int → List (S37) → List (S84) → Bool → Int → Int → List (S39) → List (S82) → Int → Int → Int → Int → Int → Int → Option (Int × (List (S37)) × (List (S84)) × Int)
  | 0, _, _, _, _, _, _, _, _, _, _, _, _, _, _, _, _ => none
  | k + 1, x7, x24, x194000, x194001, x194002, x195000, x195001, x195002, x195003, x195004, x195005, x195006, x202000, x202001, x202002, x202003 => if x24 = true then (some (x194000, x194001, x194002, 3)) else (if x7 = true then (if x202001 > x195002 then (some (x194000, x194001, x194002, 4)) else (spec_l5Apply.j1 k x194000 x194001 x194002 x195000 x195001 x195002 x195003 x195004 x195005 x195006)) else (spec_l5Apply.j1 k x194000 x194001 x194002 x195000 x195001 x195002 x195003 x195004 x195005 x195006))
end
def spec_l5Apply.f (k : Nat) (a0_0 : Int) (l0_1 : List (S37)) (l0_2 : List (S84)) (a1_0 : Bool) (a1_1 : Int) (a1_2 : Int) (l1_3 : List (S39)) (l1_4 : List (S82)) (a1_5 : Int) (a1_6 : Int) : Option (Int × (List (S37)) × (List (S84)) × Int) := if a1_0 = true then (some (wrap64 (a0_0 + 1), l0_1, l0_2, 5)) else ((spec_l5Last.f k (wrap64 (a0_0 + 1)) l0_1 l0_2 a1_1).bind fun bt196 => (if bt196.2.2.2.2 = true then (spec_l5Apply.j0 k bt196.2.2.2.2 (bt196.1 == a1_1 && (bt196.2.1 == a1_2)) (wrap64 (a0_0 + 1)) l0_1 l0_2 a1_0 a1_1 a1_2 l1_3 l1_4 a1_5 a1_6 bt196.1 bt196.2.1 bt196.2.2.1 bt196.2.2.2.1) else (spec_l5Apply.j0 k bt196.2.2.2.2 false (wrap64 (a0_0 + 1)) l0_1 l0_2 a1_0 a1_1 a1_2 l1_3 l1_4 a1_5 a1_6 bt196.1 bt196.2.1 bt196.2.2.1 bt196.2.2.2.1)))
def spec_l15Rd_num.f (k : Nat) (s0_0 : List Int) (s0_1 : Int) (l1 : List Int) : Option (Int × Int) := (spec_l15Rd_pick.f k s0_0 s0_1 (l1.length : Int)).bind fun bt213 => (if 0 ≤ bt213.1 then (if bt213.1 < (l1.length : Int) then (some (rd l1 bt213.1, bt213.2)) else (none)) else (none))
def spec_l2Any.f (k : Nat) (s0_0 : List Int) (s0_1 : Int) : Option (Int × Int × Int × Int × Int) := (spec_l15Rd_num.f k s0_0 s0_1 (([1, 1, 2, 2, 3, 4, 4, 5, 6, 7] : List Int))).bind fun bt220 => ((spec_l15Rd_pick.f k s0_0 bt220.2 3).bind fun bt222 => ((spec_l15Rd_pick.f k s0_0 bt222.2 3).bind fun bt224 => (if bt220.1 = 3 then ((spec_l15Rd_num.f k s0_0 bt224.2 (([0, 1, 5, (-2), 100, 1000000] : List Int))).bind fun bt230 => (some (bt220.1, bt222.1, 0, bt230.1, bt230.2))) else (if bt220.1 = 6 then ((spec_l15Rd_pick.f k s0_0 bt224.2 3).bind fun bt232 => (some (bt220.1, bt222.1, bt224.1, wrap64 (1 + bt232.1), bt232.2))) else (if bt220.1 = 7 then ((spec_l15Rd_pick.f k s0_0 bt224.2 3).bind fun bt234 => (if bt234.1 > 0 then ((spec_l15Rd_pick.f k s0_0 bt234.2 4).bind fun bt236 => ((spec_l15Rd_pick.f k s0_0 bt236.2 4).bind fun bt238 => (some (4, bt236.1, bt238.1, 0, bt238.2)))) else (some (bt220.1, 0, 0, 0, bt234.2)))) else (some (bt220.1, bt222.1, bt224.1, 0, bt224.2)))))))
def spec_l2Prog.l0 : Nat → List (S95) → Int → List Int → Int → Option ((List (S95)) × Int)
  | 0, _, _, _, _ => none
  | k + 1, x5, x6, x1000, x1001 => if x6 > 0 then ((spec_l2Any.f k x1000 x1001).bind fun bt256 => (if x5.length < 4398046511104 then (spec_l2Prog.l0 k (x5 ++ [(⟨bt256.1, bt256.2.1, bt256.2.2.1, bt256.2.2.2.1⟩ : S95)]) (wrap64 (x6 - 1)) x1000 bt256.2.2.2.2) else (none))) else (some (x5, x1001))
def spec_l2Prog.f (k : Nat) (s0_0 : List Int) (s0_1 : Int) : Option ((List (S95)) × Int) := (spec_l15Rd_pick.f k s0_0 s0_1 3).bind fun bt240 => (if bt240.1 = 0 then ((spec_l15Rd_pick.f k s0_0 bt240.2 3).bind fun bt242 => ((spec_l15Rd_pick.f k s0_0 bt242.2 3).bind fun bt244 => ((spec_l15Rd_pick.f k s0_0 bt244.2 3).bind fun bt246 => (some ((([(⟨1, 0, bt242.1, 0⟩ : S95), (⟨3, 1, 0, wrap64 (1 + bt246.1)⟩ : S95), (⟨4, 0, 1, 0⟩ : S95), (⟨2, bt244.1, 0, 0⟩ : S95)] : List (S95))), bt246.2))))) else ((spec_l15Rd_pick.f k s0_0 bt240.2 8).bind fun bt254 => (spec_l2Prog.l0 k (([] : List (S95))) bt254.1 s0_0 bt254.2)))
def spec_l2Reg.f (a0 : Int) : Option (Bool) := if a0 ≥ 0 then (some (decide (a0 < 4))) else (some false)
def spec_l2Ins.j0 : Nat → Int → Bool → Int → Int → Int → Int → Option (Bool)
  | 0, _, _, _, _, _, _ => none
  | k + 1, x4, x50, x265000, x265001, x265002, x265003 => if x50 = true then ((spec_l2Reg.f x265001).bind fun t271 => (if t271 = true then ((spec_l2Reg.f x265002).bind fun t272 => (if t272 = true then (some (x265003 == 0)) else (some false))) else (some false))) else (if x4 = 6 then ((spec_l2Reg.f x265001).bind fun t273 => (if t273 = true then ((spec_l2Reg.f x265002).bind fun t274 => (if t274 = true then (if x265003 ≥ 1 then (some (decide (x265003 ≤ 10))) else (some false)) else (some false))) else (some false))) else (if x4 = 7 then (if x265001 = 0 then (if x265002 = 0 then (some (x265003 == 0)) else (some false)) else (some false)) else (some false)))
def spec_l2Ins.f (k : Nat) (a0_0 : Int) (a0_1 : Int) (a0_2 : Int) (a0_3 : Int) : Option (Bool) := if a0_0 = 1 then ((spec_l2Reg.f a0_1).bind fun t265 => (if t265 = true then ((spec_l2Box.f a0_2).bind fun t266 => (if t266 = true then (some (a0_3 == 0)) else (some false))) else (some false))) else (if a0_0 = 2 then ((spec_l2Box.f a0_1).bind fun t267 => (if t267 = true then ((spec_l2Reg.f a0_2).bind fun t268 => (if t268 = true then (some (a0_3 == 0)) else (some false))) else (some false))) else (if a0_0 = 3 then ((spec_l2Reg.f a0_1).bind fun t269 => (if t269 = true then (if a0_2 = 0 then ((spec_l1Num.f a0_3).bind fun t270 => (some t270)) else (some false)) else (some false))) else (if a0_0 = 4 then (spec_l2Ins.j0 k a0_0 (a0_0 == 4) a0_0 a0_1 a0_2 a0_3) else (spec_l2Ins.j0 k a0_0 (a0_0 == 5) a0_0 a0_1 a0_2 a0_3))))
def spec_ProgOk.l0 : Nat → List (S95) → Int → Option (Bool)
  | 0, _, _ => none
  | k + 1, x0, x3 => if x3 < (x0.length : Int) then (if 0 ≤ x3 then ((spec_l2Ins.f k ((rd_T95 x0 x3).f0) ((rd_T95 x0 x3).f1) ((rd_T95 x0 x3).f2) ((rd_T95 x0 x3).f3)).bind fun t276 => (if t276 = true then (spec_ProgOk.l0 k x0 (wrap64 (x3 + 1))) else (some false))) else (none)) else (some true)
def spec_ProgOk.f (k : Nat) (l0 : List (S95)) : Option (Bool) := if (l0.length : Int) > 10 then (some false) else (spec_ProgOk.l0 k l0 0)
def spec_l3Look.f (k : Nat) (l0 : List (S37)) (l1_0 : List (S39)) (l1_1 : List (S82)) (a1_2 : Int) (a1_3 : Int) (a2 : Int) : Option (Int × (List (S39)) × (List (S82)) × Int × Int) := (spec_l3At.f k l1_1 a2).bind fun t279 => (if t279 ≥ 0 then (if 0 ≤ t279 then (if t279 < (l1_1.length : Int) then (some ((rd_T82 l1_1 t279).f1, l1_0, l1_1, a1_2, a1_3)) else (none)) else (none)) else ((spec_l3Saw.f k l1_0 a2).bind fun t281 => (if t281 = true then (if 0 ≤ a2 then (if a2 < (l0.length : Int) then (some ((rd_T37 l0 a2).f1, l1_0, l1_1, a1_2, a1_3)) else (none)) else (none)) else (if 0 ≤ a2 then (if a2 < (l0.length : Int) then (if l1_0.length < 8796093022208 then (some ((rd_T37 l0 a2).f1, (l1_0 ++ [(⟨a2, (rd_T37 l0 a2).f0⟩ : S39)]), l1_1, a1_2, a1_3)) else (none)) else (none)) else (none)))))
def spec_l3Put.f (k : Nat) (l0_0 : List (S39)) (l0_1 : List (S82)) (a0_2 : Int) (a0_3 : Int) (a1 : Int) (a2 : Int) : Option ((List (S39)) × (List (S82)) × Int × Int) := (spec_l3At.f k l0_1 a1).bind fun t290 => (if t290 ≥ 0 then (if 0 ≤ t290 then (if t290 < (l0_1.length : Int) then (some (l0_0, (l0_1.set (t290 : Int).toNat (⟨(rd_T82 l0_1 t290).f0, a2⟩ : S82)), a0_2, a0_3)) else (none)) else (none)) else (if l0_1.length < 8796093022208 then (some (l0_0, (l0_1 ++ [(⟨a1, a2⟩ : S82)]), a0_2, a0_3)) else (none)))
def spec_l3Step.j0 : Nat → List Int → List (S39) → List (S82) → Int → Int → Int → Int → Int → Int → Option ((List (S39)) × (List (S82)) × Int × Int × List Int)
  | 0, _, _, _, _, _, _, _, _, _ => none
  | k + 1, x2, x296000, x296001, x296002, x296003, x297000, x297001, x297002, x297003 => if x297000 = 2 then (some (x296000, x296001, x296002, x296003, x2)) else (if 0 ≤ x297001 then (if x297001 < (x2.length : Int) then ((spec_l1Num.f (rd x2 x297001)).bind fun t326 => (if t326 = true then (some (x296000, x296001, x296002, x296003, x2)) else (some (x296000, x296001, x296002, 2, x2)))) else (none)) else (none))
def spec_l3Step.f (k : Nat) (l0 : List (S37)) (l1_0 : List (S39)) (l1_1 : List (S82)) (a1_2 : Int) (a1_3 : Int) (l2 : List Int) (a3_0 : Int) (a3_1 : Int) (a3_2 : Int) (a3_3 : Int) : Option ((List (S39)) × (List (S82)) × Int × Int × List Int) := if a3_0 = 1 then ((spec_l3Look.f k l0 l1_0 l1_1 a1_2 a1_3 a3_2).bind fun bt298 => (if 0 ≤ a3_1 then (if a3_1 < (l2.length : Int) then (spec_l3Step.j0 k (l2.set (a3_1 : Int).toNat bt298.1) bt298.2.1 bt298.2.2.1 bt298.2.2.2.1 bt298.2.2.2.2 a3_0 a3_1 a3_2 a3_3) else (none)) else (none))) else (if a3_0 = 2 then (if 0 ≤ a3_2 then (if a3_2 < (l2.length : Int) then ((spec_l3Put.f k l1_0 l1_1 a1_2 a1_3 a3_1 (rd l2 a3_2)).bind fun bt310 => (spec_l3Step.j0 k l2 bt310.1 bt310.2.1 bt310.2.2.1 bt310.2.2.2 a3_0 a3_1 a3_2 a3_3)) else (none)) else (none)) else (if a3_0 = 3 then (if 0 ≤ a3_1 then (if a3_1 < (l2.length : Int) then (spec_l3Step.j0 k (l2.set (a3_1 : Int).toNat a3_3) l1_0 l1_1 a1_2 a1_3 a3_0 a3_1 a3_2 a3_3) else (none)) else (none)) else (if a3_0 = 4 then (if 0 ≤ a3_1 then (if a3_1 < (l2.length : Int) then (if 0 ≤ a3_2 then (if a3_2 < (l2.length : Int) then (spec_l3Step.j0 k (l2.set (a3_1 : Int).toNat (wrap64 ((rd l2 a3_1) + (rd l2 a3_2)))) l1_0 l1_1 a1_2 a1_3 a3_0 a3_1 a3_2 a3_3) else (none)) else (none)) else (none)) else (none)) else (if a3_0 = 5 then (if 0 ≤ a3_1 then (if a3_1 < (l2.length : Int) then (if 0 ≤ a3_2 then (if a3_2 < (l2.length : Int) then (spec_l3Step.j0 k (l2.set (a3_1 : Int).toNat (wrap64 ((rd l2 a3_1) - (rd l2 a3_2)))) l1_0 l1_1 a1_2 a1_3 a3_0 a3_1 a3_2 a3_3) else (none)) else (none)) else (none)) else (none)) else (if a3_0 = 7 then (spec_l3Step.j0 k l2 l1_0 l1_1 a1_2 1 a3_0 a3_1 a3_2 a3_3) else (spec_l3Step.j0 k l2 l1_0 l1_1 a1_2 a1_3 a3_0 a3_1 a3_2 a3_3))))))
mutual
def spec_ExecRun.j0 : Nat → List (S37) → List (S95) → Bool → Option ((List (S39)) × (List (S82)) × Int × Int)
  | 0, _, _, _ => none
  | k + 1, x0, x1, x16 => if x16 = true then (some (([] : List (S39)), ([] : List (S82)), 0, 3)) else (if 4 ≤ 35184372088832 then (spec_ExecRun.l0 k x0 x1 (List.replicate 4 0) 0 ([] : List (S39)) ([] : List (S82)) 0 0) else (none))
def spec_ExecRun.l0 : Nat → List (S37) → List (S95) → List Int → Int → List (S39) → List (S82) → Int → Int → Option ((List (S39)) × (List (S82)) × Int × Int)
  | 0, _, _, _, _, _, _, _, _ => none
  | k + 1, x0, x1, x6, x7, x331000, x331001, x331002, x331003 => if x7 < (x1.length : Int) then (spec_ExecRun.j2 k x0 x1 x6 x7 (x331003 == 0) x331000 x331001 x331002 x331003) else (spec_ExecRun.j2 k x0 x1 x6 x7 false x331000 x331001 x331002 x331003)
def spec_ExecRun.j2 : Nat → List (S37) → List (S95) → List Int → Int → Bool → List (S39) → List (S82) → Int → Int → Option ((List (S39)) × (List (S82)) × Int × Int)
  | 0, _, _, _, _, _, _, _, _, _ => none
  | k + 1, x0, x1, x6, x7, x28, x331000, x331001, x331002, x331003 => if x28 = true then (if 0 ≤ x7 then (if x7 < (x1.length : Int) then (if ((rd_T95 x1 x7).f0) = 6 then (if 0 ≤ ((rd_T95 x1 x7).f1) then (if ((rd_T95 x1 x7).f1) < (x6.length : Int) then (if 0 ≤ ((rd_T95 x1 x7).f2) then (if ((rd_T95 x1 x7).f2) < (x6.length : Int) then (if (rd x6 ((rd_T95 x1 x7).f1)) < (rd x6 ((rd_T95 x1 x7).f2)) then (spec_ExecRun.l0 k x0 x1 x6 (wrap64 ((wrap64 (x7 + ((rd_T95 x1 x7).f3))) + 1)) x331000 x331001 x331002 x331003) else (spec_ExecRun.l0 k x0 x1 x6 (wrap64 (x7 + 1)) x331000 x331001 x331002 x331003)) else (none)) else (none)) else (none)) else (none)) else ((spec_l3Step.f k x0 x331000 x331001 x331002 x331003 x6 ((rd_T95 x1 x7).f0) ((rd_T95 x1 x7).f1) ((rd_T95 x1 x7).f2) ((rd_T95 x1 x7).f3)).bind fun bt339 => (spec_ExecRun.l0 k x0 x1 bt339.2.2.2.2 (wrap64 (x7 + 1)) bt339.1 bt339.2.1 bt339.2.2.1 bt339.2.2.2.1))) else (none)) else (none)) else (if x331003 = 0 then (if 0 < (x6.length : Int) then (some (x331000, x331001, rd x6 0, x331003)) else (none)) else (some (x331000, ([] : List (S82)), x331002, x331003)))
end
def spec_ExecRun.f (k : Nat) (l0 : List (S37)) (l1 : List (S95)) : Option ((List (S39)) × (List (S82)) × Int × Int) := (spec_BoxOk.f k l0).bind fun t328 => (if t328 = true then ((spec_ProgOk.f k l1).bind fun t329 => (spec_ExecRun.j0 k l0 l1 (!t329))) else (spec_ExecRun.j0 k l0 l1 true))
def spec_l5Any.f (k : Nat) (s0_0 : List Int) (s0_1 : Int) (l1 : List (S37)) : Option (Bool × Int × Int × (List (S39)) × (List (S82)) × Int × Int × Int) := (spec_l15Rd_pick.f k s0_0 s0_1 8).bind fun bt349 => (if bt349.1 = 0 then (some (true, 0, 0, ([] : List (S39)), ([] : List (S82)), 0, 0, bt349.2)) else ((spec_l15Rd_pick.f k s0_0 bt349.2 3).bind fun bt351 => ((spec_l15Rd_pick.f k s0_0 bt351.2 6).bind fun bt353 => ((spec_l2Prog.f k s0_0 bt353.2).bind fun bt355 => ((spec_ExecRun.f k l1 bt355.1).bind fun bt359 => ((spec_l15Rd_pick.f k s0_0 bt355.2 40).bind fun bt368 => (if bt368.1 = 0 then ((spec_l15Rd_num.f k s0_0 bt368.2 (([0, 1001] : List Int))).bind fun bt373 => (some (false, bt351.1, bt373.1, bt359.1, bt359.2.1, bt359.2.2.1, bt359.2.2.2, bt373.2))) else (if bt368.1 = 1 then (some (true, bt351.1, wrap64 (1 + bt353.1), bt359.1, bt359.2.1, bt359.2.2.1, bt359.2.2.2, bt368.2)) else (if bt368.1 = 2 then (some (false, bt351.1, wrap64 (1 + bt353.1), bt359.1, bt359.2.1, bt359.2.2.1, 3, bt368.2)) else (some (false, bt351.1, wrap64 (1 + bt353.1), bt359.1, bt359.2.1, bt359.2.2.1, bt359.2.2.2, bt368.2)))))))))))
mutual
def spec_l5List.l0 : Nat → List (S77) → Int → List Int → Int → Int → List (S37) → List (S84) → Option ((List (S77)) × Int)
  | 0, _, _, _, _, _, _, _ => none
  | k + 1, x3, x5, x1000, x1001, x386000, x386001, x386002 => if x5 > 0 then ((spec_l5Any.f k x1000 x1001 x386001).bind fun bt391 => (if x3.length < 1599289640401 then ((some (x3 ++ [(⟨bt391.1, (⟨bt391.2.1, bt391.2.2.1⟩ : S75), (⟨bt391.2.2.2.1, bt391.2.2.2.2.1, bt391.2.2.2.2.2.1, bt391.2.2.2.2.2.2.1⟩ : S26)⟩ : S77)] : List (S77))).bind fun y404 => ((spec_CertEntry.f k bt391.1 bt391.2.1 bt391.2.2.1 bt391.2.2.2.1 bt391.2.2.2.2.1 bt391.2.2.2.2.2.1 bt391.2.2.2.2.2.2.1).bind fun t407 => (if t407 = true then ((spec_l15Rd_pick.f k x1000 bt391.2.2.2.2.2.2.2 3).bind fun bt408 => (if bt408.1 > 0 then ((spec_l5Apply.f k x386000 x386001 x386002 bt391.1 bt391.2.1 bt391.2.2.1 bt391.2.2.2.1 bt391.2.2.2.2.1 bt391.2.2.2.2.2.1 bt391.2.2.2.2.2.2.1).bind fun bt410 => (spec_l5List.l0 k y404 (wrap64 (x5 - 1)) x1000 bt408.2 bt410.1 bt410.2.1 bt410.2.2.1)) else (spec_l5List.l0 k y404 (wrap64 (x5 - 1)) x1000 bt408.2 x386000 x386001 x386002))) else (spec_l5List.l0 k y404 (wrap64 (x5 - 1)) x1000 bt391.2.2.2.2.2.2.2 x386000 x386001 x386002)))) else (none))) else ((spec_l15Rd_pick.f k x1000 x1001 30).bind fun bt419 => (if bt419.1 = 0 then (spec_l5List.l1 k x3 x1000 bt419.2) else (some (x3, bt419.2))))
def spec_l5List.l1 : Nat → List (S77) → List Int → Int → Option ((List (S77)) × Int)
  | 0, _, _, _ => none
  | k + 1, x3, x1000, x1001 => if (x3.length : Int) < 41 then (if x3.length < 1599289640401 then (spec_l5List.l1 k (x3 ++ [(⟨true, (⟨0, 0⟩ : S75), (⟨([] : List (S39)), ([] : List (S82)), 0, 0⟩ : S26)⟩ : S77)]) x1000 x1001) else (none)) else (some (x3, x1001))
end
def spec_l5List.f (k : Nat) (s0_0 : List Int) (s0_1 : Int) : Option ((List (S77)) × Int) := (spec_CertOpen.f).bind fun bt378 => ((spec_l15Rd_num.f k s0_0 s0_1 (([0, 3, 8, 12] : List Int))).bind fun bt389 => (spec_l5List.l0 k (([] : List (S77))) bt389.1 s0_0 bt389.2 bt378.1 bt378.2.1 bt378.2.2))
def spec_DrawCertFold.f (k : Nat) (l0 : List Int) : Option ((List (S77))) := (spec_l15Open.f l0).bind fun bt424 => ((spec_l5List.f k bt424.1 bt424.2).bind fun bt427 => (some bt427.1))
def impl_same_impl_Read.l0 : Nat → List (S39) → List (S39) → Int → Int → Option (Bool)
  | 0, _, _, _, _ => none
  | k + 1, x0, x1, x12, x13 => if x13 < x12 then (if 0 ≤ x13 then (if x13 < (x0.length : Int) then (if x13 < (x1.length : Int) then (if (!(((rd_T39 x0 x13).f0) == ((rd_T39 x1 x13).f0)) || (!(((rd_T39 x0 x13).f1) == ((rd_T39 x1 x13).f1)))) = true then (some false) else (impl_same_impl_Read.l0 k x0 x1 x12 (wrap64 (x13 + 1)))) else (none)) else (none)) else (none)) else (some true)
def impl_same_impl_Read.f (k : Nat) (l0 : List (S39)) (l1 : List (S39)) : Option (Bool) := if (l0.length : Int) = (l1.length : Int) then (impl_same_impl_Read.l0 k l0 l1 (l0.length : Int) 0) else (some false)
def impl_same_impl_Put.l0 : Nat → List (S82) → List (S82) → Int → Int → Option (Bool)
  | 0, _, _, _, _ => none
  | k + 1, x0, x1, x12, x13 => if x13 < x12 then (if 0 ≤ x13 then (if x13 < (x0.length : Int) then (if x13 < (x1.length : Int) then (if (!(((rd_T82 x0 x13).f0) == ((rd_T82 x1 x13).f0)) || (!(((rd_T82 x0 x13).f1) == ((rd_T82 x1 x13).f1)))) = true then (some false) else (impl_same_impl_Put.l0 k x0 x1 x12 (wrap64 (x13 + 1)))) else (none)) else (none)) else (none)) else (some true)
def impl_same_impl_Put.f (k : Nat) (l0 : List (S82)) (l1 : List (S82)) : Option (Bool) := if (l0.length : Int) = (l1.length : Int) then (impl_same_impl_Put.l0 k l0 l1 (l0.length : Int) 0) else (some false)
def impl_ExecSame.f (k : Nat) (l0_0 : List (S39)) (l0_1 : List (S82)) (a0_2 : Int) (a0_3 : Int) (l1_0 : List (S39)) (l1_1 : List (S82)) (a1_2 : Int) (a1_3 : Int) : Option (Bool) := (impl_same_impl_Read.f k l0_0 l1_0).bind fun t437 => (if t437 = true then ((impl_same_impl_Put.f k l0_1 l1_1).bind fun t438 => (if t438 = true then (if a0_2 = a1_2 then (some (a0_3 == a1_3)) else (some false)) else (some false))) else (some false))
def impl_CertLike.f (k : Nat) (a0_0 : Bool) (a0_1 : Int) (a0_2 : Int) (l0_3 : List (S39)) (l0_4 : List (S82)) (a0_5 : Int) (a0_6 : Int) (a1_0 : Bool) (a1_1 : Int) (a1_2 : Int) (l1_3 : List (S39)) (l1_4 : List (S82)) (a1_5 : Int) (a1_6 : Int) : Option (Bool) := if (a0_0 == a1_0) = true then (if (a0_1 == a1_1 && (a0_2 == a1_2)) = true then ((impl_ExecSame.f k l0_3 l0_4 a0_5 a0_6 l1_3 l1_4 a1_5 a1_6).bind fun t441 => (some t441)) else (some false)) else (some false)
def impl_in.f (a0 : Int) (a1 : Int) (a2 : Int) : Option (Bool) := if a0 ≥ a1 then (some (decide (a0 ≤ a2))) else (some false)
mutual
def impl_ExecOk.j0 : Nat → Bool → List (S39) → List (S82) → Int → Int → Option (Bool)
  | 0, _, _, _, _, _ => none
  | k + 1, x45, x443000, x443001, x443002, x443003 => if x45 = true then (some false) else (impl_ExecOk.l0 k x443000 (x443000.length : Int) 0 x443000 x443001 x443002 x443003 false false false false false false false false)
def impl_ExecOk.l0 : Nat → List (S39) → Int → Int → List (S39) → List (S82) → Int → Int → Bool → Bool → Bool → Bool → Bool → Bool → Bool → Bool → Option (Bool)
  | 0, _, _, _, _, _, _, _, _, _, _, _, _, _, _, _ => none
  | k + 1, x47, x48, x49, x443000, x443001, x443002, x443003, x446000, x446001, x446002, x446003, x447000, x447001, x447002, x447003 => if x49 < x48 then (if 0 ≤ x49 then (if x49 < (x47.length : Int) then ((impl_in.f ((rd_T39 x47 x49).f0) 0 3).bind fun t449 => (if t449 = true then (if 0 ≤ ((rd_T39 x47 x49).f0) then (if ((rd_T39 x47 x49).f0) < 4 then (if rdOf false [x446000, x446001, x446002, x446003] ((rd_T39 x47 x49).f0) = true then (some false) else ((impl_in.f ((rd_T39 x47 x49).f1) 0 1000000).bind fun t450 => (if t450 = true then (impl_ExecOk.l0 k x47 x48 (wrap64 (x49 + 1)) x443000 x443001 x443002 x443003 (ixB ((rd_T39 x47 x49).f0) 0 true x446000) (ixB ((rd_T39 x47 x49).f0) 1 true x446001) (ixB ((rd_T39 x47 x49).f0) 2 true x446002) (ixB ((rd_T39 x47 x49).f0) 3 true x446003) x447000 x447001 x447002 x447003) else (some false)))) else (none)) else (none)) else (some false))) else (none)) else (none)) else (impl_ExecOk.l1 k x443001 (x443001.length : Int) 0 x447000 x447001 x447002 x447003)
def impl_ExecOk.l1 : Nat → List (S82) → Int → Int → Bool → Bool → Bool → Bool → Option (Bool)
  | 0, _, _, _, _, _, _, _ => none
  | k + 1, x74, x75, x76, x447000, x447001, x447002, x447003 => if x76 < x75 then (if 0 ≤ x76 then (if x76 < (x74.length : Int) then ((impl_in.f ((rd_T82 x74 x76).f0) 0 3).bind fun t453 => (if t453 = true then (if 0 ≤ ((rd_T82 x74 x76).f0) then (if ((rd_T82 x74 x76).f0) < 4 then (if rdOf false [x447000, x447001, x447002, x447003] ((rd_T82 x74 x76).f0) = true then (some false) else ((impl_in.f ((rd_T82 x74 x76).f1) (-1000000) 1000000).bind fun t454 => (if t454 = true then (impl_ExecOk.l1 k x74 x75 (wrap64 (x76 + 1)) (ixB ((rd_T82 x74 x76).f0) 0 true x447000) (ixB ((rd_T82 x74 x76).f0) 1 true x447001) (ixB ((rd_T82 x74 x76).f0) 2 true x447002) (ixB ((rd_T82 x74 x76).f0) 3 true x447003)) else (some false)))) else (none)) else (none)) else (some false))) else (none)) else (none)) else (some true)
end
def impl_ExecOk.f (k : Nat) (l0_0 : List (S39)) (l0_1 : List (S82)) (a0_2 : Int) (a0_3 : Int) : Option (Bool) := (impl_in.f a0_3 0 3).bind fun t443 => (if t443 = true then ((impl_in.f a0_2 (-1000000) 1000000).bind fun t444 => (if t444 = true then (if a0_3 = 0 then (if a0_3 = 3 then (impl_ExecOk.j0 k (decide ((l0_0.length : Int) > 0)) l0_0 l0_1 a0_2 a0_3) else (impl_ExecOk.j0 k false l0_0 l0_1 a0_2 a0_3)) else (if a0_2 = 0 then (if (l0_1.length : Int) > 0 then (impl_ExecOk.j0 k true l0_0 l0_1 a0_2 a0_3) else (if a0_3 = 3 then (impl_ExecOk.j0 k (decide ((l0_0.length : Int) > 0)) l0_0 l0_1 a0_2 a0_3) else (impl_ExecOk.j0 k false l0_0 l0_1 a0_2 a0_3))) else (impl_ExecOk.j0 k true l0_0 l0_1 a0_2 a0_3))) else (impl_ExecOk.j0 k true l0_0 l0_1 a0_2 a0_3))) else (impl_ExecOk.j0 k true l0_0 l0_1 a0_2 a0_3))
def impl_reqOk.f (a0_0 : Int) (a0_1 : Int) : Option (Bool) := (impl_in.f a0_0 0 2).bind fun t456 => (if t456 = true then ((impl_in.f a0_1 1 1000).bind fun t457 => (some t457)) else (some false))
def impl_CertEntry.f (k : Nat) (a0_0 : Bool) (a0_1 : Int) (a0_2 : Int) (l0_3 : List (S39)) (l0_4 : List (S82)) (a0_5 : Int) (a0_6 : Int) : Option (Bool) := if a0_0 = true then ((impl_CertLike.f k a0_0 a0_1 a0_2 l0_3 l0_4 a0_5 a0_6 true 0 0 ([] : List (S39)) ([] : List (S82)) 0 0).bind fun t459 => (some t459)) else ((impl_reqOk.f a0_1 a0_2).bind fun t460 => (if t460 = true then ((impl_ExecOk.f k l0_3 l0_4 a0_5 a0_6).bind fun t461 => (if t461 = true then (some (a0_6 != 3)) else (some false))) else (some false)))
def impl_listOk.l0 : Nat → List (S77) → List (S77) → Int → Int → Option (Bool)
  | 0, _, _, _, _ => none
  | k + 1, x0, x5, x6, x7 => if x7 < x6 then (if 0 ≤ x7 then (if x7 < (x5.length : Int) then ((impl_CertEntry.f k ((rd_T77 x5 x7).f0) ((rd_T77 x5 x7).f1.f0) ((rd_T77 x5 x7).f1.f1) ((rd_T77 x5 x7).f2.f0) ((rd_T77 x5 x7).f2.f1) ((rd_T77 x5 x7).f2.f2) ((rd_T77 x5 x7).f2.f3)).bind fun t464 => (if t464 = true then (impl_listOk.l0 k x0 x5 x6 (wrap64 (x7 + 1))) else (some false))) else (none)) else (none)) else (some (decide ((x0.length : Int) ≤ 40)))
def impl_listOk.f (k : Nat) (l0 : List (S77)) : Option (Bool) := impl_listOk.l0 k l0 l0 (l0.length : Int) 0
def impl_BoxOk.l0 : Nat → List (S37) → List (S37) → Int → Int → Option (Bool)
  | 0, _, _, _, _ => none
  | k + 1, x0, x5, x6, x7 => if x7 < x6 then (if 0 ≤ x7 then (if x7 < (x5.length : Int) then ((impl_in.f ((rd_T37 x5 x7).f0) 0 1000000).bind fun t467 => (if t467 = true then ((impl_in.f ((rd_T37 x5 x7).f1) (-1000000) 1000000).bind fun t468 => (if t468 = true then (impl_BoxOk.l0 k x0 x5 x6 (wrap64 (x7 + 1))) else (some false))) else (some false))) else (none)) else (none)) else (some ((x0.length : Int) == 4))
def impl_BoxOk.f (k : Nat) (l0 : List (S37)) : Option (Bool) := impl_BoxOk.l0 k l0 l0 (l0.length : Int) 0
mutual
def impl_ExecFresh.j0 : Nat → List (S37) → Bool → List (S39) → List (S82) → Int → Int → Option (Bool)
  | 0, _, _, _, _, _, _ => none
  | k + 1, x0, x14, x470000, x470001, x470002, x470003 => if x14 = true then (some false) else (impl_ExecFresh.l0 k x0 x470000 (x470000.length : Int) 0)
def impl_ExecFresh.l0 : Nat → List (S37) → List (S39) → Int → Int → Option (Bool)
  | 0, _, _, _, _ => none
  | k + 1, x0, x16, x17, x18 => if x18 < x17 then (if 0 ≤ x18 then (if x18 < (x16.length : Int) then (if 0 ≤ ((rd_T39 x16 x18).f0) then (if ((rd_T39 x16 x18).f0) < (x0.length : Int) then (if ((rd_T37 x0 ((rd_T39 x16 x18).f0)).f0) = ((rd_T39 x16 x18).f1) then (impl_ExecFresh.l0 k x0 x16 x17 (wrap64 (x18 + 1))) else (some false)) else (none)) else (none)) else (none)) else (none)) else (some true)
end
def impl_ExecFresh.f (k : Nat) (l0 : List (S37)) (l1_0 : List (S39)) (l1_1 : List (S82)) (a1_2 : Int) (a1_3 : Int) : Option (Bool) := (impl_BoxOk.f k l0).bind fun t470 => (if t470 = true then ((impl_ExecOk.f k l1_0 l1_1 a1_2 a1_3).bind fun t471 => (impl_ExecFresh.j0 k l0 (!t471) l1_0 l1_1 a1_2 a1_3)) else (impl_ExecFresh.j0 k l0 true l1_0 l1_1 a1_2 a1_3))
mutual
def impl_CertOk.l0 : Nat → List (S84) → Int → Int → Int → List (S37) → List (S84) → Option (Bool)
 | 0, _, _, _, _, _, _ => none
 | k + 1, x6, x7, x8, x476000, x476001, x476002 => if x8 < x7 then (if 0 ≤ x8 then (if x8 < (x6.length : Int) then (if x8 > 0 then (if 0 ≤ (wrap64 (x8 - 1)) then (if (wrap64 (x8 - 1)) < (x476002.length : Int) then (if ((rd_T84 x476002 (wrap64 (x8 - 1))).f0.f0) ≥ ((rd_T84 x6 x8).f0.f0) then (impl_CertOk.j1 k x6 x7 x8 true x476000 x476001 x476002) else ((impl_reqOk.f ((rd_T84 x6 x8).f0.f0) ((rd_T84 x6 x8).f0.f1)).bind fun t479 => (if t479 = true then ((impl_in.f ((rd_T84 x6 x8).f1) 0 2).bind fun t480 => (if t480 = true then ((impl_in.f ((rd_T84 x6 x8).f2) (-1000000) 1000000).bind fun t481 => (if t481 = true then (if ((rd_T84 x6 x8).f1) = 0 then (impl_CertOk.j1 k x6 x7 x8 false x476000 x476001 x476002) else (impl_CertOk.j1 k x6 x7 x8 (((rd_T84 x6 x8).f2) != 0) x476000 x476001 x476002)) else (impl_CertOk.j1 k x6 x7 x8 true x476000 x476001 x476002))) else (impl_CertOk.j1 k x6 x7 x8 true x476000 x476001 x476002))) else (impl_CertOk.j1 k x6 x7 x8 true x476000 x476001 x476002)))) else (none)) else (none)) else ((impl_reqOk.f ((rd_T84 x6 x8).f0.f0) ((rd_T84 x6 x8).f0.f1)).bind fun t482 => (if t482 = true then ((impl_in.f ((rd_T84 x6 x8).f1) 0 2).bind fun t483 => (if t483 = true then ((impl_in.f ((rd_T84 x6 x8).f2) (-1000000) 1000000).bind fun t484 => (if t484 = true then (if ((rd_T84 x6 x8).f1) = 0 then (impl_CertOk.j1 k x6 x7 x8 false x476000 x476001 x476002) else (impl_CertOk.j1 k x6 x7 x8 (((rd_T84 x6 x8).f2) != 0) x476000 x476001 x476002)) else (impl_CertOk.j1 k x6 x7 x8 true x476000 x476001 x476002))) else (impl_CertOk.j1 k x6 x7 x8 true x476000 x476001 x476002))) else (impl_CertOk.j1 k x6 x7 x8 true x476000 x476001 x476002)))) else (none)) else (none)) else ((impl_in.f x476000 0 40).bind fun t485 => (if t485 = true then ((impl_BoxOk.f k x476001).bind fun t486 => (some t486)) else (some false)))
def impl_CertOk.j1 : Nat → List (S84) → Int → Int → Bool → Int → List (S37) → List (S84) → Option (Bool)
 | 0, _, _, _, _, _, _, _ => none
 | k + 1, x6, x7, x8, x56, x476000, x476001, x476002 => if x56 = true then (some false) else (impl_CertOk.l0 k x6 x7 (wrap64 (x8 + 1)) x476000 x476001 x476002)
end
def impl_CertOk.f (k : Nat) (a0_0 : Int) (l0_1 : List (S37)) (l0_2 : List (S84)) : Option (Bool) := impl_CertOk.l0 k l0_2 (l0_2.length : Int) 0 a0_0 l0_1 l0_2
def impl_copied_impl_Box.f (l0 : List (S37)) : Option (List (S37)) := if l0.length ≤ 17592186044416 then some l0 else none
def impl_copied_impl_Done.f (l0 : List (S84)) : Option (List (S84)) := if l0.length ≤ 8796093022208 then some l0 else none
mutual
def impl_ExecDo.j0 : Nat → List (S37) → Bool → List (S39) → List (S82) → Int → Int → Option ((List (S37)))
  | 0, _, _, _, _, _, _ => none
  | k + 1, x0, x15, x488000, x488001, x488002, x488003 => if x15 = true then (some ([] : List (S37))) else ((impl_copied_impl_Box.f x0).bind fun t490 => (impl_ExecDo.l0 k t490 x488001 (x488001.length : Int) 0))
def impl_ExecDo.l0 : Nat → List (S37) → List (S82) → Int → Int → Option ((List (S37)))
  | 0, _, _, _, _ => none
  | k + 1, x5, x19, x20, x21 => if x21 < x20 then (if 0 ≤ x21 then (if x21 < (x19.length : Int) then (if 0 ≤ ((rd_T82 x19 x21).f0) then (if ((rd_T82 x19 x21).f0) < (x5.length : Int) then (impl_ExecDo.l0 k (x5.set (((rd_T82 x19 x21).f0) : Int).toNat (⟨mn 1000000 (wrap64 (((rd_T37 x5 ((rd_T82 x19 x21).f0)).f0) + 1)), (rd_T82 x19 x21).f1⟩ : S37)) x19 x20 (wrap64 (x21 + 1))) else (none)) else (none)) else (none)) else (none)) else (some x5)
end
def impl_ExecDo.f (k : Nat) (l0 : List (S37)) (l1_0 : List (S39)) (l1_1 : List (S82)) (a1_2 : Int) (a1_3 : Int) : Option ((List (S37))) := (impl_BoxOk.f k l0).bind fun t488 => (if t488 = true then ((impl_ExecOk.f k l1_0 l1_1 a1_2 a1_3).bind fun t489 => (impl_ExecDo.j0 k l0 (!t489) l1_0 l1_1 a1_2 a1_3)) else (impl_ExecDo.j0 k l0 true l1_0 l1_1 a1_2 a1_3))
mutual
def impl_CertApply.j0 : Nat → Bool → Int → List (S37) → List (S84) → Bool → Int → Int → List (S39) → List (S82) → Int → Int → Option (Int × (List (S37)) × (List (S84)) × Int)
 | 0, _, _, _, _, _, _, _, _, _, _, _ => none
 | k + 1, x26, x498000, x498001, x498002, x499000, x499001, x499002, x499003, x499004, x499005, x499006 => if x26 = true then (some (0, ([] : List (S37)), ([] : List (S84)), (-1))) else ((impl_copied_impl_Box.f x498001).bind fun t502 => (if x499000 = true then ((impl_copied_impl_Done.f x498002).bind fun t506 => (some (wrap64 (x498000 + 1), t502, t506, 5))) else (impl_CertApply.l0 k x498002 (x498002.length : Int) 0 x498000 x498001 x498002 x499000 x499001 x499002 x499003 x499004 x499005 x499006 (wrap64 (x498000 + 1)) t502)))
def impl_CertApply.l0 : Nat → List (S84) → Int → Int → Int → List (S37) → List (S84) → Bool → Int → Int → List (S39) → List (S82) → Int → Int → Int → List (S37) → Option (Int × (List (S37)) × (List (S84)) × Int)
 | 0, _, _, _, _, _, _, _, _, _, _, _, _, _, _, _ => none
 | k + 1, x43, x44, x45, x498000, x498001, x498002, x499000, x499001, x499002, x499003, x499004, x499005, x499006, x506000, x506001 => if x45 < x44 then (if 0 ≤ x45 then (if x45 < (x43.length : Int) then (if ((rd_T84 x43 x45).f0.f0) = x499001 then (impl_CertApply.j2 k x43 x44 x45 (decide (((rd_T84 x43 x45).f0.f1) ≥ x499002)) x498000 x498001 x498002 x499000 x499001 x499002 x499003 x499004 x499005 x499006 x506000 x506001 ((rd_T84 x43 x45).f0.f0) ((rd_T84 x43 x45).f0.f1) ((rd_T84 x43 x45).f1) ((rd_T84 x43 x45).f2)) else (impl_CertApply.j2 k x43 x44 x45 false x498000 x498001 x498002 x499000 x499001 x499002 x499003 x499004 x499005 x499006 x506000 x506001 ((rd_T84 x43 x45).f0.f0) ((rd_T84 x43 x45).f0.f1) ((rd_T84 x43 x45).f1) ((rd_T84 x43 x45).f2))) else (none)) else (none)) else ((impl_ExecFresh.f k x498001 x499003 x499004 x499005 x499006).bind fun t515 => (if t515 = true then (if x499006 = 0 then ((impl_ExecDo.f k x498001 x499003 x499004 x499005 x499006).bind fun t516 => (impl_CertApply.j3 k x498000 x498001 x498002 x506000 t516 x499001 x499002 0 x499005)) else (impl_CertApply.j3 k x498000 x498001 x498002 x506000 x506001 x499001 x499002 2 0)) else (impl_CertApply.j3 k x498000 x498001 x498002 x506000 x506001 x499001 x499002 1 0)))
def impl_CertApply.j2 : Nat → List (S84) → Int → Int → Bool → Int → List (S37) → List (S84) → Bool → Int → Int → List (S39) → List (S82) → Int → Int → Int → List (S37) → Int → Int → Int → Int → Option (Int × (List (S37)) × (List (S84)) × Int)
 | 0, _, _, _, _, _, _, _, _, _, _, _, _, _, _, _, _, _, _, _, _ => none
 | k + 1, x43, x44, x45, x64, x498000, x498001, x498002, x499000, x499001, x499002, x499003, x499004, x499005, x499006, x506000, x506001, x511000, x511001, x511002, x511003 => if x64 = true then ((impl_copied_impl_Done.f x498002).bind fun t511 => (if x511001 = x499002 then (some (x506000, x506001, t511, 3)) else (some (x506000, x506001, t511, 4)))) else (impl_CertApply.l0 k x43 x44 (wrap64 (x45 + 1)) x498000 x498001 x498002 x499000 x499001 x499002 x499003 x499004 x499005 x499006 x506000 x506001)
def impl_CertApply.j3 : Nat → Int → List (S37) → List (S84) → Int → List (S37) → Int → Int → Int → Int → Option (Int × (List (S37)) × (List (S84)) × Int)
 | 0, _, _, _, _, _, _, _, _, _ => none
 | k + 1, x498000, x498001, x498002, x506000, x506001, x515000, x515001, x515002, x515003 => impl_CertApply.l1 k ([] : List (S84)) false x498002 (x498002.length : Int) 0 x506000 x506001 x515000 x515001 x515002 x515003
def impl_CertApply.l1 : Nat → List (S84) → Bool → List (S84) → Int → Int → Int → List (S37) → Int → Int → Int → Int → Option (Int × (List (S37)) × (List (S84)) × Int)
 | 0, _, _, _, _, _, _, _, _, _, _, _ => none
 | k + 1, x10, x11, x107, x108, x109, x506000, x506001, x515000, x515001, x515002, x515003 => if x109 < x108 then (if 0 ≤ x109 then (if x109 < (x107.length : Int) then (if x11 = true then (impl_CertApply.j5 k x10 x11 x107 x108 x109 false x506000 x506001 x515000 x515001 x515002 x515003 ((rd_T84 x107 x109).f0.f0) ((rd_T84 x107 x109).f0.f1) ((rd_T84 x107 x109).f1) ((rd_T84 x107 x109).f2)) else (impl_CertApply.j5 k x10 x11 x107 x108 x109 (decide (((rd_T84 x107 x109).f0.f0) ≥ x515000)) x506000 x506001 x515000 x515001 x515002 x515003 ((rd_T84 x107 x109).f0.f0) ((rd_T84 x107 x109).f0.f1) ((rd_T84 x107 x109).f1) ((rd_T84 x107 x109).f2))) else (none)) else (none)) else (if x11 = true then ((impl_copied_impl_Done.f x10).bind fun t519 => (some (x506000, x506001, t519, x515002))) else (if x10.length < 4398046511104 then ((impl_copied_impl_Done.f (x10 ++ [(⟨(⟨x515000, x515001⟩ : S75), x515002, x515003⟩ : S84)])).bind fun t525 => (some (x506000, x506001, t525, x515002))) else (none)))
def impl_CertApply.j5 : Nat → List (S84) → Bool → List (S84) → Int → Int → Bool → Int → List (S37) → Int → Int → Int → Int → Int → Int → Int → Int → Option (Int × (List (S37)) × (List (S84)) × Int)
 | 0, _, _, _, _, _, _, _, _, _, _, _, _, _, _, _, _ => none
 | k + 1, x10, x11, x107, x108, x109, x123, x506000, x506001, x515000, x515001, x515002, x515003, x530000, x530001, x530002, x530003 => if x123 = true then (if x10.length < 4398046511104 then ((some (x10 ++ [(⟨(⟨x515000, x515001⟩ : S75), x515002, x515003⟩ : S84)] : List (S84))).bind fun y530 => (if x530000 = x515000 then (impl_CertApply.l1 k y530 true x107 x108 (wrap64 (x109 + 1)) x506000 x506001 x515000 x515001 x515002 x515003) else (if y530.length < 4398046511104 then (impl_CertApply.l1 k (y530 ++ [(⟨(⟨x530000, x530001⟩ : S75), x530002, x530003⟩ : S84)]) true x107 x108 (wrap64 (x109 + 1)) x506000 x506001 x515000 x515001 x515002 x515003) else (none)))) else (none)) else (if x530000 = x515000 then (impl_CertApply.l1 k x10 x11 x107 x108 (wrap64 (x109 + 1)) x506000 x506001 x515000 x515001 x515002 x515003) else (if x10.length < 4398046511104 then (impl_CertApply.l1 k (x10 ++ [(⟨(⟨x530000, x530001⟩ : S75), x530002, x530003⟩ : S84)]) x11 x107 x108 (wrap64 (x109 + 1)) x506000 x506001 x515000 x515001 x515002 x515003) else (none)))
end
def impl_CertApply.f (k : Nat) (a0_0 : Int) (l0_1 : List (S37)) (l0_2 : List (S84)) (a1_0 : Bool) (a1_1 : Int) (a1_2 : Int) (l1_3 : List (S39)) (l1_4 : List (S82)) (a1_5 : Int) (a1_6 : Int) : Option (Int × (List (S37)) × (List (S84)) × Int) := (impl_CertOk.f k a0_0 l0_1 l0_2).bind fun t500 => (if t500 = true then ((impl_CertEntry.f k a1_0 a1_1 a1_2 l1_3 l1_4 a1_5 a1_6).bind fun t501 => (if t501 = true then (impl_CertApply.j0 k (a0_0 == 40) a0_0 l0_1 l0_2 a1_0 a1_1 a1_2 l1_3 l1_4 a1_5 a1_6) else (impl_CertApply.j0 k true a0_0 l0_1 l0_2 a1_0 a1_1 a1_2 l1_3 l1_4 a1_5 a1_6))) else (impl_CertApply.j0 k true a0_0 l0_1 l0_2 a1_0 a1_1 a1_2 l1_3 l1_4 a1_5 a1_6))
def impl_BoxOpen.f  : Option ((List (S37))) := if 4 ≤ 17592186044416 then (some (List.replicate 4 z37)) else (none)
def impl_CertOpen.f  : Option (Int × (List (S37)) × (List (S84))) := (impl_BoxOpen.f).bind fun t543 => (some (0, t543, ([] : List (S84))))
def impl_folded.l0 : Nat → List Int → List (S77) → Int → Int → Int → List (S37) → List (S84) → Option (Int × (List (S37)) × (List (S84)) × List Int)
  | 0, _, _, _, _, _, _, _ => none
  | k + 1, x5, x11, x12, x13, x555000, x555001, x555002 => if x13 < x12 then (if 0 ≤ x13 then (if x13 < (x11.length : Int) then ((impl_CertApply.f k x555000 x555001 x555002 ((rd_T77 x11 x13).f0) ((rd_T77 x11 x13).f1.f0) ((rd_T77 x11 x13).f1.f1) ((rd_T77 x11 x13).f2.f0) ((rd_T77 x11 x13).f2.f1) ((rd_T77 x11 x13).f2.f2) ((rd_T77 x11 x13).f2.f3)).bind fun bt557 => (if x5.length < 17592186044416 then (impl_folded.l0 k (x5 ++ [bt557.2.2.2]) x11 x12 (wrap64 (x13 + 1)) bt557.1 bt557.2.1 bt557.2.2.1) else (none))) else (none)) else (none)) else (some (x555000, x555001, x555002, x5))
def impl_folded.f (k : Nat) (l0 : List (S77)) : Option (Int × (List (S37)) × (List (S84)) × List Int) := (impl_CertOpen.f).bind fun bt547 => (impl_folded.l0 k ([] : List Int) l0 (l0.length : Int) 0 bt547.1 bt547.2.1 bt547.2.2)
def impl_CertFold.f (k : Nat) (l0 : List (S77)) : Option (Int × (List (S37)) × (List (S84))) := (impl_listOk.f k l0).bind fun t570 => (if t570 = true then ((impl_folded.f k l0).bind fun bt571 => (some (bt571.1, bt571.2.1, bt571.2.2.1))) else (some (0, ([] : List (S37)), ([] : List (S84)))))
def impl_same_impl_Done.l0 : Nat → List (S84) → List (S84) → Int → Int → Option (Bool)
  | 0, _, _, _, _ => none
  | k + 1, x0, x1, x12, x13 => if x13 < x12 then (if 0 ≤ x13 then (if x13 < (x0.length : Int) then (if x13 < (x1.length : Int) then (if ((!(((rd_T84 x0 x13).f0.f0) == ((rd_T84 x1 x13).f0.f0)) || (!(((rd_T84 x0 x13).f0.f1) == ((rd_T84 x1 x13).f0.f1)))) || (!(((rd_T84 x0 x13).f1) == ((rd_T84 x1 x13).f1)) || (!(((rd_T84 x0 x13).f2) == ((rd_T84 x1 x13).f2))))) = true then (some false) else (impl_same_impl_Done.l0 k x0 x1 x12 (wrap64 (x13 + 1)))) else (none)) else (none)) else (none)) else (some true)
def impl_same_impl_Done.f (k : Nat) (l0 : List (S84)) (l1 : List (S84)) : Option (Bool) := if (l0.length : Int) = (l1.length : Int) then (impl_same_impl_Done.l0 k l0 l1 (l0.length : Int) 0) else (some false)
def impl_CertSame.f (k : Nat) (a0_0 : Int) (l0_1 : List (S37)) (l0_2 : List (S84)) (a1_0 : Int) (l1_1 : List (S37)) (l1_2 : List (S84)) : Option (Bool) := if a0_0 = a1_0 then ((impl_BoxSame.f k l0_1 l1_1).bind fun t586 => (if t586 = true then ((impl_same_impl_Done.f k l0_2 l1_2).bind fun t587 => (some t587)) else (some false))) else (some false)
def spec_CertFold.l0 : Nat → List (S77) → Int → Int → List (S37) → List (S84) → Option (Int × (List (S37)) × (List (S84)))
  | 0, _, _, _, _, _ => none
  | k + 1, x0, x4, x597000, x597001, x597002 => if x4 < (x0.length : Int) then (if 0 ≤ x4 then ((spec_CertEntry.f k ((rd_T77 x0 x4).f0) ((rd_T77 x0 x4).f1.f0) ((rd_T77 x0 x4).f1.f1) ((rd_T77 x0 x4).f2.f0) ((rd_T77 x0 x4).f2.f1) ((rd_T77 x0 x4).f2.f2) ((rd_T77 x0 x4).f2.f3)).bind fun t598 => (if t598 = true then ((spec_l5Apply.f k x597000 x597001 x597002 ((rd_T77 x0 x4).f0) ((rd_T77 x0 x4).f1.f0) ((rd_T77 x0 x4).f1.f1) ((rd_T77 x0 x4).f2.f0) ((rd_T77 x0 x4).f2.f1) ((rd_T77 x0 x4).f2.f2) ((rd_T77 x0 x4).f2.f3)).bind fun bt600 => (spec_CertFold.l0 k x0 (wrap64 (x4 + 1)) bt600.1 bt600.2.1 bt600.2.2.1)) else (some (0, ([] : List (S37)), ([] : List (S84)))))) else (none)) else (some (x597000, x597001, x597002))
def spec_CertFold.f (k : Nat) (l0 : List (S77)) : Option (Int × (List (S37)) × (List (S84))) := (spec_CertOpen.f).bind fun bt589 => (if (l0.length : Int) > 40 then (some (0, ([] : List (S37)), ([] : List (S84)))) else (spec_CertFold.l0 k l0 0 bt589.1 bt589.2.1 bt589.2.2))
def impl_insOk_1.f (a0 : Int) : Option (Bool) := (impl_in.f a0 0 3).bind fun t609 => (some t609)
def impl_insOk_2.f (a0 : Int) : Option (Bool) := (impl_in.f a0 0 3).bind fun t610 => (some t610)
def impl_insOk.j0 : Nat → Int → Bool → Int → Int → Int → Int → Option (Bool)
  | 0, _, _, _, _, _, _ => none
  | k + 1, x6, x57, x612000, x612001, x612002, x612003 => if x57 = true then ((impl_insOk_1.f x612001).bind fun t618 => (if t618 = true then ((impl_insOk_1.f x612002).bind fun t619 => (if t619 = true then (some (x612003 == 0)) else (some false))) else (some false))) else (if x6 = 6 then ((impl_insOk_1.f x612001).bind fun t620 => (if t620 = true then ((impl_insOk_1.f x612002).bind fun t621 => (if t621 = true then ((impl_in.f x612003 1 10).bind fun t622 => (some t622)) else (some false))) else (some false))) else (if x6 = 7 then (if x612001 = 0 then (if x612002 = 0 then (some (x612003 == 0)) else (some false)) else (some false)) else (some false)))
def impl_insOk.f (k : Nat) (a0_0 : Int) (a0_1 : Int) (a0_2 : Int) (a0_3 : Int) : Option (Bool) := if a0_0 = 1 then ((impl_insOk_1.f a0_1).bind fun t612 => (if t612 = true then ((impl_insOk_2.f a0_2).bind fun t613 => (if t613 = true then (some (a0_3 == 0)) else (some false))) else (some false))) else (if a0_0 = 2 then ((impl_insOk_2.f a0_1).bind fun t614 => (if t614 = true then ((impl_insOk_1.f a0_2).bind fun t615 => (if t615 = true then (some (a0_3 == 0)) else (some false))) else (some false))) else (if a0_0 = 3 then ((impl_insOk_1.f a0_1).bind fun t616 => (if t616 = true then (if a0_2 = 0 then ((impl_in.f a0_3 (-1000000) 1000000).bind fun t617 => (some t617)) else (some false)) else (some false))) else (if a0_0 = 4 then (impl_insOk.j0 k a0_0 (a0_0 == 4) a0_0 a0_1 a0_2 a0_3) else (impl_insOk.j0 k a0_0 (a0_0 == 5) a0_0 a0_1 a0_2 a0_3))))
def impl_ProgOk.l0 : Nat → List (S95) → List (S95) → Int → Int → Option (Bool)
  | 0, _, _, _, _ => none
  | k + 1, x0, x5, x6, x7 => if x7 < x6 then (if 0 ≤ x7 then (if x7 < (x5.length : Int) then ((impl_insOk.f k ((rd_T95 x5 x7).f0) ((rd_T95 x5 x7).f1) ((rd_T95 x5 x7).f2) ((rd_T95 x5 x7).f3)).bind fun t625 => (if t625 = true then (impl_ProgOk.l0 k x0 x5 x6 (wrap64 (x7 + 1))) else (some false))) else (none)) else (none)) else (some (decide ((x0.length : Int) ≤ 10)))
def impl_ProgOk.f (k : Nat) (l0 : List (S95)) : Option (Bool) := impl_ProgOk.l0 k l0 l0 (l0.length : Int) 0
def impl_putAt.l0 : Nat → Int → List (S82) → Int → Int → Option (Int)
  | 0, _, _, _, _ => none
  | k + 1, x1, x8, x9, x10 => if x10 < x9 then (if 0 ≤ x10 then (if x10 < (x8.length : Int) then (if ((rd_T82 x8 x10).f0) = x1 then (some x10) else (impl_putAt.l0 k x1 x8 x9 (wrap64 (x10 + 1)))) else (none)) else (none)) else (some (-1))
def impl_putAt.f (k : Nat) (l0_0 : List (S39)) (l0_1 : List (S82)) (a0_2 : Int) (a0_3 : Int) (a1 : Int) : Option (Int) := impl_putAt.l0 k a1 l0_1 (l0_1.length : Int) 0
def impl_readAt.l0 : Nat → Int → List (S39) → Int → Int → Option (Int)
  | 0, _, _, _, _ => none
  | k + 1, x1, x8, x9, x10 => if x10 < x9 then (if 0 ≤ x10 then (if x10 < (x8.length : Int) then (if ((rd_T39 x8 x10).f0) = x1 then (some x10) else (impl_readAt.l0 k x1 x8 x9 (wrap64 (x10 + 1)))) else (none)) else (none)) else (some (-1))
def impl_readAt.f (k : Nat) (l0_0 : List (S39)) (l0_1 : List (S82)) (a0_2 : Int) (a0_3 : Int) (a1 : Int) : Option (Int) := impl_readAt.l0 k a1 l0_0 (l0_0.length : Int) 0
def impl_copied_impl_Read.f (l0 : List (S39)) : Option (List (S39)) := if l0.length ≤ 17592186044416 then some l0 else none
def impl_copied_impl_Put.f (l0 : List (S82)) : Option (List (S82)) := if l0.length ≤ 17592186044416 then some l0 else none
mutual
def impl_ExecRun.j0 : Nat → List (S37) → List (S95) → Bool → Option ((List (S39)) × (List (S82)) × Int × Int)
 | 0, _, _, _ => none
 | k + 1, x0, x1, x20 => if x20 = true then (some (([] : List (S39)), ([] : List (S82)), 0, 3)) else (impl_ExecRun.l0 k x0 x1 0 0 0 0 0 ([] : List (S39)) ([] : List (S82)) 0 0)
def impl_ExecRun.l0 : Nat → List (S37) → List (S95) → Int → Int → Int → Int → Int → List (S39) → List (S82) → Int → Int → Option ((List (S39)) × (List (S82)) × Int × Int)
 | 0, _, _, _, _, _, _, _, _, _, _, _ => none
 | k + 1, x0, x1, x7, x636000, x636001, x636002, x636003, x637000, x637001, x637002, x637003 => if x7 < (x1.length : Int) then (if 0 ≤ x7 then (if ((rd_T95 x1 x7).f0) = 1 then ((impl_putAt.f k x637000 x637001 x637002 x637003 ((rd_T95 x1 x7).f2)).bind fun t645 => (if t645 ≥ 0 then (if 0 ≤ t645 then (if t645 < (x637001.length : Int) then (if 0 ≤ ((rd_T95 x1 x7).f1) then (if ((rd_T95 x1 x7).f1) < 4 then (impl_ExecRun.j2 k x0 x1 x7 (ixI ((rd_T95 x1 x7).f1) 0 ((rd_T82 x637001 t645).f1) x636000) (ixI ((rd_T95 x1 x7).f1) 1 ((rd_T82 x637001 t645).f1) x636001) (ixI ((rd_T95 x1 x7).f1) 2 ((rd_T82 x637001 t645).f1) x636002) (ixI ((rd_T95 x1 x7).f1) 3 ((rd_T82 x637001 t645).f1) x636003) x637000 x637001 x637002 x637003) else (none)) else (none)) else (none)) else (none)) else ((impl_readAt.f k x637000 x637001 x637002 x637003 ((rd_T95 x1 x7).f2)).bind fun t647 => (if t647 < 0 then (if 0 ≤ ((rd_T95 x1 x7).f2) then (if ((rd_T95 x1 x7).f2) < (x0.length : Int) then (if x637000.length < 8796093022208 then (if 0 ≤ ((rd_T95 x1 x7).f1) then (if ((rd_T95 x1 x7).f1) < 4 then (impl_ExecRun.j2 k x0 x1 x7 (ixI ((rd_T95 x1 x7).f1) 0 ((rd_T37 x0 ((rd_T95 x1 x7).f2)).f1) x636000) (ixI ((rd_T95 x1 x7).f1) 1 ((rd_T37 x0 ((rd_T95 x1 x7).f2)).f1) x636001) (ixI ((rd_T95 x1 x7).f1) 2 ((rd_T37 x0 ((rd_T95 x1 x7).f2)).f1) x636002) (ixI ((rd_T95 x1 x7).f1) 3 ((rd_T37 x0 ((rd_T95 x1 x7).f2)).f1) x636003) (x637000 ++ [(⟨(rd_T95 x1 x7).f2, (rd_T37 x0 ((rd_T95 x1 x7).f2)).f0⟩ : S39)]) x637001 x637002 x637003) else (none)) else (none)) else (none)) else (none)) else (none)) else (if 0 ≤ ((rd_T95 x1 x7).f2) then (if ((rd_T95 x1 x7).f2) < (x0.length : Int) then (if 0 ≤ ((rd_T95 x1 x7).f1) then (if ((rd_T95 x1 x7).f1) < 4 then (impl_ExecRun.j2 k x0 x1 x7 (ixI ((rd_T95 x1 x7).f1) 0 ((rd_T37 x0 ((rd_T95 x1 x7).f2)).f1) x636000) (ixI ((rd_T95 x1 x7).f1) 1 ((rd_T37 x0 ((rd_T95 x1 x7).f2)).f1) x636001) (ixI ((rd_T95 x1 x7).f1) 2 ((rd_T37 x0 ((rd_T95 x1 x7).f2)).f1) x636002) (ixI ((rd_T95 x1 x7).f1) 3 ((rd_T37 x0 ((rd_T95 x1 x7).f2)).f1) x636003) x637000 x637001 x637002 x637003) else (none)) else (none)) else (none)) else (none)))))) else (if ((rd_T95 x1 x7).f0) = 2 then ((impl_putAt.f k x637000 x637001 x637002 x637003 ((rd_T95 x1 x7).f1)).bind fun t654 => (if t654 ≥ 0 then (if 0 ≤ ((rd_T95 x1 x7).f2) then (if ((rd_T95 x1 x7).f2) < 4 then (if 0 ≤ t654 then (if t654 < (x637001.length : Int) then (impl_ExecRun.j2 k x0 x1 x7 x636000 x636001 x636002 x636003 x637000 (x637001.set (t654 : Int).toNat (⟨(rd_T82 x637001 t654).f0, rd [x636000, x636001, x636002, x636003] ((rd_T95 x1 x7).f2)⟩ : S82)) x637002 x637003) else (none)) else (none)) else (none)) else (none)) else (if 0 ≤ ((rd_T95 x1 x7).f2) then (if ((rd_T95 x1 x7).f2) < 4 then (if x637001.length < 8796093022208 then (impl_ExecRun.j2 k x0 x1 x7 x636000 x636001 x636002 x636003 x637000 (x637001 ++ [(⟨(rd_T95 x1 x7).f1, rd [x636000, x636001, x636002, x636003] ((rd_T95 x1 x7).f2)⟩ : S82)]) x637002 x637003) else (none)) else (none)) else (none)))) else (if ((rd_T95 x1 x7).f0) = 3 then (if 0 ≤ ((rd_T95 x1 x7).f1) then (if ((rd_T95 x1 x7).f1) < 4 then (impl_ExecRun.j2 k x0 x1 x7 (ixI ((rd_T95 x1 x7).f1) 0 ((rd_T95 x1 x7).f3) x636000) (ixI ((rd_T95 x1 x7).f1) 1 ((rd_T95 x1 x7).f3) x636001) (ixI ((rd_T95 x1 x7).f1) 2 ((rd_T95 x1 x7).f3) x636002) (ixI ((rd_T95 x1 x7).f1) 3 ((rd_T95 x1 x7).f3) x636003) x637000 x637001 x637002 x637003) else (none)) else (none)) else (if ((rd_T95 x1 x7).f0) = 4 then (if 0 ≤ ((rd_T95 x1 x7).f1) then (if ((rd_T95 x1 x7).f1) < 4 then (if 0 ≤ ((rd_T95 x1 x7).f2) then (if ((rd_T95 x1 x7).f2) < 4 then (impl_ExecRun.j2 k x0 x1 x7 (ixI ((rd_T95 x1 x7).f1) 0 (wrap64 ((rd [x636000, x636001, x636002, x636003] ((rd_T95 x1 x7).f1)) + (rd [x636000, x636001, x636002, x636003] ((rd_T95 x1 x7).f2)))) x636000) (ixI ((rd_T95 x1 x7).f1) 1 (wrap64 ((rd [x636000, x636001, x636002, x636003] ((rd_T95 x1 x7).f1)) + (rd [x636000, x636001, x636002, x636003] ((rd_T95 x1 x7).f2)))) x636001) (ixI ((rd_T95 x1 x7).f1) 2 (wrap64 ((rd [x636000, x636001, x636002, x636003] ((rd_T95 x1 x7).f1)) + (rd [x636000, x636001, x636002, x636003] ((rd_T95 x1 x7).f2)))) x636002) (ixI ((rd_T95 x1 x7).f1) 3 (wrap64 ((rd [x636000, x636001, x636002, x636003] ((rd_T95 x1 x7).f1)) + (rd [x636000, x636001, x636002, x636003] ((rd_T95 x1 x7).f2)))) x636003) x637000 x637001 x637002 x637003) else (none)) else (none)) else (none)) else (none)) else (if ((rd_T95 x1 x7).f0) = 5 then (if 0 ≤ ((rd_T95 x1 x7).f1) then (if ((rd_T95 x1 x7).f1) < 4 then (if 0 ≤ ((rd_T95 x1 x7).f2) then (if ((rd_T95 x1 x7).f2) < 4 then (impl_ExecRun.j2 k x0 x1 x7 (ixI ((rd_T95 x1 x7).f1) 0 (wrap64 ((rd [x636000, x636001, x636002, x636003] ((rd_T95 x1 x7).f1)) - (rd [x636000, x636001, x636002, x636003] ((rd_T95 x1 x7).f2)))) x636000) (ixI ((rd_T95 x1 x7).f1) 1 (wrap64 ((rd [x636000, x636001, x636002, x636003] ((rd_T95 x1 x7).f1)) - (rd [x636000, x636001, x636002, x636003] ((rd_T95 x1 x7).f2)))) x636001) (ixI ((rd_T95 x1 x7).f1) 2 (wrap64 ((rd [x636000, x636001, x636002, x636003] ((rd_T95 x1 x7).f1)) - (rd [x636000, x636001, x636002, x636003] ((rd_T95 x1 x7).f2)))) x636002) (ixI ((rd_T95 x1 x7).f1) 3 (wrap64 ((rd [x636000, x636001, x636002, x636003] ((rd_T95 x1 x7).f1)) - (rd [x636000, x636001, x636002, x636003] ((rd_T95 x1 x7).f2)))) x636003) x637000 x637001 x637002 x637003) else (none)) else (none)) else (none)) else (none)) else (if ((rd_T95 x1 x7).f0) = 6 then (if 0 ≤ ((rd_T95 x1 x7).f1) then (if ((rd_T95 x1 x7).f1) < 4 then (if 0 ≤ ((rd_T95 x1 x7).f2) then (if ((rd_T95 x1 x7).f2) < 4 then (if (rd [x636000, x636001, x636002, x636003] ((rd_T95 x1 x7).f1)) < (rd [x636000, x636001, x636002, x636003] ((rd_T95 x1 x7).f2)) then (impl_ExecRun.j2 k x0 x1 (wrap64 (x7 + ((rd_T95 x1 x7).f3))) x636000 x636001 x636002 x636003 x637000 x637001 x637002 x637003) else (impl_ExecRun.j2 k x0 x1 x7 x636000 x636001 x636002 x636003 x637000 x637001 x637002 x637003)) else (none)) else (none)) else (none)) else (none)) else (if ((rd_T95 x1 x7).f0) = 7 then ((impl_copied_impl_Read.f x637000).bind fun t659 => (some (t659, ([] : List (S82)), 0, 1))) else (impl_ExecRun.j2 k x0 x1 x7 x636000 x636001 x636002 x636003 x637000 x637001 x637002 x637003)))))))) else (none)) else ((impl_copied_impl_Read.f x637000).bind fun t637 => ((impl_copied_impl_Put.f x637001).bind fun t640 => (some (t637, t640, x636000, 0))))
def impl_ExecRun.j2 : Nat → List (S37) → List (S95) → Int → Int → Int → Int → Int → List (S39) → List (S82) → Int → Int → Option ((List (S39)) × (List (S82)) × Int × Int)
 | 0, _, _, _, _, _, _, _, _, _, _, _ => none
 | k + 1, x0, x1, x7, x636000, x636001, x636002, x636003, x637000, x637001, x637002, x637003 => impl_ExecRun.l1 k x0 x1 x7 0 x636000 x636001 x636002 x636003 x637000 x637001 x637002 x637003 x636000 x636001 x636002 x636003
def impl_ExecRun.l1 : Nat → List (S37) → List (S95) → Int → Int → Int → Int → Int → Int → List (S39) → List (S82) → Int → Int → Int → Int → Int → Int → Option ((List (S39)) × (List (S82)) × Int × Int)
 | 0, _, _, _, _, _, _, _, _, _, _, _, _, _, _, _, _ => none
 | k + 1, x0, x1, x7, x162, x636000, x636001, x636002, x636003, x637000, x637001, x637002, x637003, x663000, x663001, x663002, x663003 => if x162 < 4 then (if 0 ≤ x162 then ((impl_in.f (rd [x663000, x663001, x663002, x663003] x162) (-1000000) 1000000).bind fun t663 => (if t663 = true then (impl_ExecRun.l1 k x0 x1 x7 (wrap64 (x162 + 1)) x636000 x636001 x636002 x636003 x637000 x637001 x637002 x637003 x663000 x663001 x663002 x663003) else ((impl_copied_impl_Read.f x637000).bind fun t664 => (some (t664, ([] : List (S82)), 0, 2))))) else (none)) else (impl_ExecRun.l0 k x0 x1 (wrap64 (x7 + 1)) x636000 x636001 x636002 x636003 x637000 x637001 x637002 x637003)
end
def impl_ExecRun.f (k : Nat) (l0 : List (S37)) (l1 : List (S95)) : Option ((List (S39)) × (List (S82)) × Int × Int) := (impl_BoxOk.f k l0).bind fun t633 => (if t633 = true then ((impl_ProgOk.f k l1).bind fun t634 => (impl_ExecRun.j0 k l0 l1 (!t634))) else (impl_ExecRun.j0 k l0 l1 true))
def spec_l1Boxes.l0 : Nat → List (S37) → Int → List Int → Int → Option ((List (S37)) × Int)
  | 0, _, _, _, _ => none
  | k + 1, x3, x4, x1000, x1001 => if x4 < (x3.length : Int) then ((spec_l15Rd_pick.f k x1000 x1001 5).bind fun bt670 => ((spec_l15Rd_num.f k x1000 bt670.2 (([0, 1, 2, 5, (-3), 7, 100, 1000000, (-1000000)] : List Int))).bind fun bt675 => (if 0 ≤ x4 then (spec_l1Boxes.l0 k (x3.set (x4 : Int).toNat (⟨bt670.1, bt675.1⟩ : S37)) (wrap64 (x4 + 1)) x1000 bt675.2) else (none)))) else ((spec_l15Rd_pick.f k x1000 x1001 30).bind fun bt678 => (if bt678.1 = 0 then (if 3 ≤ (x3.length : Int) then (some ((x3.take (3 : Int).toNat), bt678.2)) else (none)) else (if bt678.1 = 1 then ((spec_l15Rd_pick.f k x1000 bt678.2 4).bind fun bt683 => ((spec_l15Rd_num.f k x1000 bt683.2 (([(-1), 1000001] : List Int))).bind fun bt688 => (if 0 ≤ bt683.1 then (if bt683.1 < (x3.length : Int) then (some ((x3.set (bt683.1 : Int).toNat (⟨bt688.1, (rd_T37 x3 bt683.1).f1⟩ : S37)), bt688.2)) else (none)) else (none)))) else (if bt678.1 = 2 then ((spec_l15Rd_pick.f k x1000 bt678.2 4).bind fun bt691 => ((spec_l15Rd_num.f k x1000 bt691.2 (([1000001, (-1000001)] : List Int))).bind fun bt696 => (if 0 ≤ bt691.1 then (if bt691.1 < (x3.length : Int) then (some ((x3.set (bt691.1 : Int).toNat (⟨(rd_T37 x3 bt691.1).f0, bt696.1⟩ : S37)), bt696.2)) else (none)) else (none)))) else (some (x3, bt678.2))))))
def spec_l1Boxes.f (k : Nat) (s0_0 : List Int) (s0_1 : Int) : Option ((List (S37)) × Int) := (spec_BoxOpen.f).bind fun t667 => (spec_l1Boxes.l0 k t667 0 s0_0 s0_1)
def spec_l2Bent.l0 : Nat → List (S95) → Int → List Int → Int → Option ((List (S95)) × Int)
  | 0, _, _, _, _ => none
  | k + 1, x3, x4, x1000, x1001 => if (x3.length : Int) < 11 then (if 0 ≤ x4 then (if x4 < (x3.length : Int) then (if x3.length < 4398046511104 then (spec_l2Bent.l0 k (x3 ++ [(⟨(rd_T95 x3 x4).f0, (rd_T95 x3 x4).f1, (rd_T95 x3 x4).f2, (rd_T95 x3 x4).f3⟩ : S95)]) x4 x1000 x1001) else (none)) else (none)) else (none)) else (some (x3, x1001))
def spec_l2Bent.f (k : Nat) (s0_0 : List Int) (s0_1 : Int) : Option ((List (S95)) × Int) := (spec_l2Prog.f k s0_0 s0_1).bind fun bt699 => (if (bt699.1.length : Int) = 0 then (some (bt699.1, bt699.2)) else ((spec_l15Rd_pick.f k s0_0 bt699.2 (bt699.1.length : Int)).bind fun bt703 => ((spec_l15Rd_pick.f k s0_0 bt703.2 40).bind fun bt705 => (if bt705.1 = 0 then ((spec_l15Rd_num.f k s0_0 bt705.2 (([0, 8] : List Int))).bind fun bt710 => (if 0 ≤ bt703.1 then (if bt703.1 < (bt699.1.length : Int) then (some ((bt699.1.set (bt703.1 : Int).toNat (⟨bt710.1, (rd_T95 bt699.1 bt703.1).f1, (rd_T95 bt699.1 bt703.1).f2, (rd_T95 bt699.1 bt703.1).f3⟩ : S95)), bt710.2)) else (none)) else (none))) else (if bt705.1 = 1 then ((spec_l15Rd_num.f k s0_0 bt705.2 (([(-1), 4] : List Int))).bind fun bt716 => (if 0 ≤ bt703.1 then (if bt703.1 < (bt699.1.length : Int) then (some ((bt699.1.set (bt703.1 : Int).toNat (⟨(rd_T95 bt699.1 bt703.1).f0, bt716.1, (rd_T95 bt699.1 bt703.1).f2, (rd_T95 bt699.1 bt703.1).f3⟩ : S95)), bt716.2)) else (none)) else (none))) else (if bt705.1 = 2 then ((spec_l15Rd_num.f k s0_0 bt705.2 (([(-1), 11, 2000000] : List Int))).bind fun bt722 => (if 0 ≤ bt703.1 then (if bt703.1 < (bt699.1.length : Int) then (some ((bt699.1.set (bt703.1 : Int).toNat (⟨(rd_T95 bt699.1 bt703.1).f0, (rd_T95 bt699.1 bt703.1).f1, (rd_T95 bt699.1 bt703.1).f2, bt722.1⟩ : S95)), bt722.2)) else (none)) else (none))) else (if bt705.1 = 3 then (spec_l2Bent.l0 k bt699.1 bt703.1 s0_0 bt705.2) else (some (bt699.1, bt705.2)))))))))
def spec_DrawExecRun.f (k : Nat) (l0 : List Int) : Option ((List (S37)) × (List (S95))) := (spec_l15Open.f l0).bind fun bt729 => ((spec_l1Boxes.f k bt729.1 bt729.2).bind fun bt732 => ((spec_l2Bent.f k bt729.1 bt732.2).bind fun bt736 => (some (bt732.1, bt736.1))))
def spec_DrawSerialOne.f (k : Nat) (l0 : List Int) : Option ((List (S37)) × (List (S95))) := (spec_DrawExecRun.f k l0).bind fun bt740 => (some (bt740.1, bt740.2))
def impl_SerialOne.f (k : Nat) (l0 : List (S37)) (l1 : List (S95)) : Option ((List (S37)) × Int × Int) := (impl_ExecRun.f k l0 l1).bind fun bt746 => (if bt746.2.2.2 = 3 then (some (([] : List (S37)), 0, 3)) else ((impl_ExecDo.f k l0 bt746.1 bt746.2.1 bt746.2.2.1 bt746.2.2.2).bind fun t755 => (some (t755, bt746.2.2.1, bt746.2.2.2))))
mutual
def laws_FnCert.l0 : Nat → (List Int) → Int → Int → Int → Int → (List S37) → (List S95) → (List S84) → (List S39) → (List S82) → Option (Bool)
  | 0, _, _, _, _, _, _, _, _, _, _ => none
  | k + 1, x0, x1, x2, x3, x4, x5, x6, x7, x8, x9 => if (x1 < ((x8.length : Nat) : Int)) then (if ((0 : Int) ≤ x1) then (if (x1 < ((x8.length : Nat) : Int)) then (if ((0 : Int) ≤ ((rd_T39 x8 x1)).f0) then (if (((rd_T39 x8 x1)).f0 < ((x5.length : Nat) : Int)) then (if ((0 : Int) ≤ ((rd_T39 x8 x1)).f0) then (if (((rd_T39 x8 x1)).f0 < ((x5.length : Nat) : Int)) then (if (((rd_T37 x5 ((rd_T39 x8 x1)).f0)).f0 = ((rd_T37 x5 ((rd_T39 x8 x1)).f0)).f0) then (if ((0 : Int) ≤ ((rd_T39 x8 x1)).f0) then (if (((rd_T39 x8 x1)).f0 < ((x5.length : Nat) : Int)) then (if ((0 : Int) ≤ ((rd_T39 x8 x1)).f0) then (if (((rd_T39 x8 x1)).f0 < ((x5.length : Nat) : Int)) then (if ((((rd_T37 x5 ((rd_T39 x8 x1)).f0)).f0 == ((rd_T37 x5 ((rd_T39 x8 x1)).f0)).f0) && (((rd_T37 x5 ((rd_T39 x8 x1)).f0)).f1 == ((rd_T37 x5 ((rd_T39 x8 x1)).f0)).f1)) = true then (laws_FnCert.l0 k x0 (wrap64 (x1 + (1 : Int))) x2 x3 x4 x5 x6 x7 x8 x9) else (some (true))) else (none)) else (none)) else (none)) else (none)) else (laws_FnCert.l0 k x0 (wrap64 (x1 + (1 : Int))) x2 x3 x4 x5 x6 x7 x8 x9)) else (none)) else (none)) else (none)) else (none)) else (none)) else (none)) else ((impl_CertApply.f k x2 x5 x7 false (Int.tmod ((x0.length : Nat) : Int) (3 : Int)) (900 : Int) x8 x9 x3 x4).bind fun t7 => ((impl_SerialOne.f k x5 x6).bind fun t8 => (if (((t7.2).2).2 = (0 : Int)) then ((impl_BoxSame.f k (t7.2).1 t8.1).bind fun t9 => (if t9 = true then (if ((t8.2).2 = (0 : Int)) then (if ((t8.2).1 = x3) then (some ((decide (t7.1 = (wrap64 (x2 + (1 : Int))))))) else (some (false))) else (some (false))) else (some (false)))) else (if (((t7.2).2).2 = (2 : Int)) then ((impl_BoxSame.f k (t7.2).1 x5).bind fun t10 => (if t10 = true then (some ((decide ((t8.2).2 = x4)))) else (some (false)))) else (if (((t7.2).2).2 = (1 : Int)) then ((impl_BoxSame.f k (t7.2).1 x5).bind fun t11 => (some (t11))) else (some (false)))))))
def laws_FnCert.l1 : Nat → (List Int) → Int → Int → Int → Int → (List S37) → (List S95) → (List S37) → (List S84) → (List S39) → (List S82) → Option (Bool)
  | 0, _, _, _, _, _, _, _, _, _, _, _ => none
  | k + 1, x0, x1, x2, x3, x4, x5, x6, x7, x8, x9, x10 => if (x1 < ((x9.length : Nat) : Int)) then (if ((0 : Int) ≤ x1) then (if (x1 < ((x9.length : Nat) : Int)) then (if ((0 : Int) ≤ ((rd_T39 x9 x1)).f0) then (if (((rd_T39 x9 x1)).f0 < ((x5.length : Nat) : Int)) then (if ((0 : Int) ≤ ((rd_T39 x9 x1)).f0) then (if (((rd_T39 x9 x1)).f0 < ((x7.length : Nat) : Int)) then (if (((rd_T37 x5 ((rd_T39 x9 x1)).f0)).f0 = ((rd_T37 x7 ((rd_T39 x9 x1)).f0)).f0) then (if ((0 : Int) ≤ ((rd_T39 x9 x1)).f0) then (if (((rd_T39 x9 x1)).f0 < ((x5.length : Nat) : Int)) then (if ((0 : Int) ≤ ((rd_T39 x9 x1)).f0) then (if (((rd_T39 x9 x1)).f0 < ((x7.length : Nat) : Int)) then (if ((((rd_T37 x5 ((rd_T39 x9 x1)).f0)).f0 == ((rd_T37 x7 ((rd_T39 x9 x1)).f0)).f0) && (((rd_T37 x5 ((rd_T39 x9 x1)).f0)).f1 == ((rd_T37 x7 ((rd_T39 x9 x1)).f0)).f1)) = true then (laws_FnCert.l1 k x0 (wrap64 (x1 + (1 : Int))) x2 x3 x4 x5 x6 x7 x8 x9 x10) else (some (true))) else (none)) else (none)) else (none)) else (none)) else (laws_FnCert.l1 k x0 (wrap64 (x1 + (1 : Int))) x2 x3 x4 x5 x6 x7 x8 x9 x10)) else (none)) else (none)) else (none)) else (none)) else (none)) else (none)) else ((impl_CertApply.f k x2 x7 x8 false (Int.tmod ((x0.length : Nat) : Int) (3 : Int)) (900 : Int) x9 x10 x3 x4).bind fun t12 => ((impl_SerialOne.f k x7 x6).bind fun t13 => (if (((t12.2).2).2 = (0 : Int)) then ((impl_BoxSame.f k (t12.2).1 t13.1).bind fun t14 => (if t14 = true then (if ((t13.2).2 = (0 : Int)) then (if ((t13.2).1 = x3) then (some ((decide (t12.1 = (wrap64 (x2 + (1 : Int))))))) else (some (false))) else (some (false))) else (some (false)))) else (if (((t12.2).2).2 = (2 : Int)) then ((impl_BoxSame.f k (t12.2).1 x7).bind fun t15 => (if t15 = true then (some ((decide ((t13.2).2 = x4)))) else (some (false)))) else (if (((t12.2).2).2 = (1 : Int)) then ((impl_BoxSame.f k (t12.2).1 x7).bind fun t16 => (some (t16))) else (some (false)))))))
end
def laws_FnCert.f (k : Nat) (l0 : List Int) (l1 : List Int) : Option (Bool) := if (((l0.length : Nat) : Int) > (1048576 : Int)) then (some (true)) else (if (((l1.length : Nat) : Int) > (1048576 : Int)) then (some (true)) else ((spec_DrawCertFold.f k l0).bind fun t0 => ((impl_CertFold.f k t0).bind fun t1 => ((spec_CertFold.f k t0).bind fun t2 => ((impl_CertSame.f k t1.1 (t1.2).1 (t1.2).2 t2.1 (t2.2).1 (t2.2).2).bind fun t3 => (if t3 = true then (if (((((t1.2).1).length : Nat) : Int) = (0 : Int)) then (some (true)) else ((spec_DrawSerialOne.f k l1).bind fun t4 => (if ((Int.tmod ((l1.length : Nat) : Int) (2 : Int)) = (0 : Int)) then ((impl_ExecRun.f k (t1.2).1 t4.2).bind fun t5 => (if (((t5.2).2).2 = (3 : Int)) then (some (true)) else (if (t1.1 = (40 : Int)) then (some (true)) else (if (((((t1.2).1).length : Nat) : Int) = (4 : Int)) then (laws_FnCert.l0 k l1 (0 : Int) t1.1 ((t5.2).2).1 ((t5.2).2).2 (t1.2).1 t4.2 (t1.2).2 t5.1 (t5.2).1) else (some (true)))))) else ((impl_ExecRun.f k t4.1 t4.2).bind fun t6 => (if (((t6.2).2).2 = (3 : Int)) then (some (true)) else (if (t1.1 = (40 : Int)) then (some (true)) else (if ((((t4.1).length : Nat) : Int) = (4 : Int)) then (laws_FnCert.l1 k l1 (0 : Int) t1.1 ((t6.2).2).1 ((t6.2).2).2 t4.1 t4.2 (t1.2).1 (t1.2).2 t6.1 (t6.2).1) else (some (true))))))))) else (some (false))))))))
open Go Go.Proofs Am
def tau : TypeId → Type
  | 3 => Int
  | 5 => Int
  | 37 => S37
  | 39 => S39
  | 77 => S77
  | 82 => S82
  | 84 => S84
  | 95 => S95
  | _ => Unit
def tabL : List (TypeId × TI) := [(2, ⟨[.int .i64], .scal⟩), (3, ⟨[.int .i64], .scal⟩), (4, ⟨[.bool], .scal⟩), (5, ⟨[.int .u8], .scal⟩), (6, ⟨[.int .u8], .scal⟩), (9, ⟨[.str], .scal⟩), (10, ⟨[.str], .scal⟩), (22, ⟨[.sl 5], .sl 5⟩), (23, ⟨[.sl 39], .sl 39⟩), (24, ⟨[.sl 82], .sl 82⟩), (26, ⟨[.sl 39, .sl 82, .int .i64, .int .i64], .st [(0, 23), (1, 24), (2, 3), (3, 3)]⟩), (29, ⟨[.sl 37], .sl 37⟩), (37, ⟨[.int .i64, .int .i64], .st [(0, 3), (1, 3)]⟩), (39, ⟨[.int .i64, .int .i64], .st [(0, 3), (1, 3)]⟩), (45, ⟨[.sl 3], .sl 3⟩), (60, ⟨[.sl 95], .sl 95⟩), (65, ⟨[.sl 77], .sl 77⟩), (67, ⟨[.sl 84], .sl 84⟩), (69, ⟨[.int .i64, .sl 37, .sl 84], .st [(0, 3), (1, 29), (2, 67)]⟩), (75, ⟨[.int .i64, .int .i64], .st [(0, 3), (1, 3)]⟩), (77, ⟨[.bool, .int .i64, .int .i64, .sl 39, .sl 82, .int .i64, .int .i64], .st [(0, 4), (1, 75), (3, 26)]⟩), (82, ⟨[.int .i64, .int .i64], .st [(0, 3), (1, 3)]⟩), (84, ⟨[.int .i64, .int .i64, .int .i64, .int .i64], .st [(0, 75), (2, 3), (3, 3)]⟩), (95, ⟨[.int .i64, .int .i64, .int .i64, .int .i64], .st [(0, 3), (1, 3), (2, 3), (3, 3)]⟩), (158, ⟨[.int .i64, .int .i64, .int .i64, .int .i64], .arr 4 3⟩), (172, ⟨[.sl 5, .int .i64], .st [(0, 22), (1, 3)]⟩), (173, ⟨[.bool, .bool, .bool, .bool], .arr 4 4⟩)]
def rowT : (e : TypeId) → tau e → List (Lf tau)
  | 3, (x : Int) => [.i x]
  | 5, (x : Int) => [.i x]
  | 37, (x : S37) => [.i x.f0, .i x.f1]
  | 39, (x : S39) => [.i x.f0, .i x.f1]
  | 77, (x : S77) => [.b x.f0, .i x.f1.f0, .i x.f1.f1, .l 39 x.f2.f0, .l 82 x.f2.f1, .i x.f2.f2, .i x.f2.f3]
  | 82, (x : S82) => [.i x.f0, .i x.f1]
  | 84, (x : S84) => [.i x.f0.f0, .i x.f0.f1, .i x.f1, .i x.f2]
  | 95, (x : S95) => [.i x.f0, .i x.f1, .i x.f2, .i x.f3]
  | _, _ => []
instance : (e : TypeId) → Inhabited (tau e) := fun e => by unfold tau; split <;> first | exact ⟨(0 : Int)⟩ | exact ⟨false⟩ | exact ⟨(default : ByteArray)⟩ | exact ⟨[]⟩ | exact ⟨()⟩ | exact ⟨z37⟩ | exact ⟨z39⟩ | exact ⟨z77⟩ | exact ⟨z82⟩ | exact ⟨z84⟩ | exact ⟨z95⟩
def of3 : List (Lf tau) → Int
  | [(.i y0)] => y0
  | _ => (0 : Int)
def of5 : List (Lf tau) → Int
  | [(.i y0)] => y0
  | _ => (0 : Int)
def of37 : List (Lf tau) → S37
  | [(.i y0), (.i y1)] => (⟨y0, y1⟩ : S37)
  | _ => z37
def of39 : List (Lf tau) → S39
  | [(.i y0), (.i y1)] => (⟨y0, y1⟩ : S39)
  | _ => z39
def of77 : List (Lf tau) → S77
  | [(.b y0), (.i y1), (.i y2), (.l 39 y3), (.l 82 y4), (.i y5), (.i y6)] => (⟨y0, (⟨y1, y2⟩ : S75), (⟨y3, y4, y5, y6⟩ : S26)⟩ : S77)
  | _ => z77
def of82 : List (Lf tau) → S82
  | [(.i y0), (.i y1)] => (⟨y0, y1⟩ : S82)
  | _ => z82
def of84 : List (Lf tau) → S84
  | [(.i y0), (.i y1), (.i y2), (.i y3)] => (⟨(⟨y0, y1⟩ : S75), y2, y3⟩ : S84)
  | _ => z84
def of95 : List (Lf tau) → S95
  | [(.i y0), (.i y1), (.i y2), (.i y3)] => (⟨y0, y1, y2, y3⟩ : S95)
  | _ => z95
def ofT : (e : TypeId) → List (Lf tau) → tau e
  | 3, l => of3 l
  | 5, l => of5 l
  | 37, l => of37 l
  | 39, l => of39 l
  | 77, l => of77 l
  | 82, l => of82 l
  | 84, l => of84 l
  | 95, l => of95 l
  | _, _ => default
def TT : Tab tau := ⟨fun t => lookN t tabL, rowT, ofT, fun t => memN t [3, 5, 37, 39, 77, 82, 84, 95]⟩
def byT : TypeId → Nat := fun t => lookD 1 t [(2, 8), (3, 8), (4, 1), (5, 1), (6, 1), (9, 16), (10, 16), (22, 24), (23, 24), (24, 24), (26, 64), (29, 24), (37, 16), (39, 16), (45, 24), (60, 24), (65, 24), (67, 24), (69, 56), (75, 16), (77, 88), (82, 16), (84, 32), (95, 32), (158, 32), (172, 32), (173, 4)]
def modeL : List (Nat × Nat) := [(78, 1), (79, 1), (145, 1), (150, 1), (99, 1), (119, 1), (110, 1), (43, 1), (98, 1), (100, 1)]
def shpL : List (Nat × List PS) := [(101, [.one (.sl 37), .one (.sl 37)]), (39, [.one (.sl 37), .one (.sl 37)]), (78, [.one (.sl 5)]), (19, [.agg [.sl 39, .sl 82, .any, .any], .agg [.sl 39, .sl 82, .any, .any]]), (84, [.one .any]), (85, [.one .any]), (86, [.one (.sl 39), .one .any]), (87, [.one (.sl 82), .one .any]), (23, [.agg [.sl 39, .sl 82, .any, .any]]), (120, [.agg [.any, .any]]), (53, [.agg [.any, .any, .any, .sl 39, .sl 82, .any, .any]]), (79, [.one .any, .one .any]), (149, []), (114, []), (22, [.one (.sl 37)]), (21, [.one (.sl 37), .agg [.sl 39, .sl 82, .any, .any]]), (167, [.one .any, .one .any]), (146, [.one (.own 37), .agg [.sl 39, .sl 82, .any, .any]]), (155, [.agg [.any, .sl 37, .sl 84], .one .any]), (156, [.one (.sl 84), .agg [.any, .any, .any, .any]]), (115, [.agg [.any, .own 37, .own 84], .agg [.any, .any, .any, .sl 39, .sl 82, .any, .any]]), (145, [.one .any, .one (.own 3)]), (150, [.one .any]), (99, [.one .any]), (170, [.one .any]), (153, [.agg [.any, .any, .any, .any]]), (106, [.one (.sl 95)]), (175, [.one (.sl 37), .agg [.own 39, .own 82, .any, .any], .one .any]), (176, [.agg [.own 39, .own 82, .any, .any], .one .any, .one .any]), (166, [.one (.sl 37), .agg [.own 39, .own 82, .any, .any], .one (.own 3), .agg [.any, .any, .any, .any]]), (144, [.one (.sl 37), .one (.sl 95)]), (119, [.one .any, .one (.own 37)]), (110, [.one .any]), (43, [.one (.sl 5)]), (80, [.one (.sl 39), .one (.sl 39)]), (81, [.one (.sl 82), .one (.sl 82)]), (18, [.agg [.sl 39, .sl 82, .any, .any], .agg [.sl 39, .sl 82, .any, .any]]), (57, [.agg [.any, .any, .any, .sl 39, .sl 82, .any, .any], .agg [.any, .any, .any, .sl 39, .sl 82, .any, .any]]), (122, [.one .any, .one .any, .one .any]), (83, [.agg [.sl 39, .sl 82, .any, .any]]), (121, [.agg [.any, .any]]), (52, [.agg [.any, .any, .any, .sl 39, .sl 82, .any, .any]]), (111, [.one (.sl 77)]), (82, [.one (.sl 37)]), (20, [.one (.sl 37), .agg [.sl 39, .sl 82, .any, .any]]), (50, [.agg [.any, .sl 37, .sl 84]]), (93, [.one (.sl 37)]), (116, [.one (.sl 84)]), (117, [.one (.sl 37), .agg [.sl 39, .sl 82, .any, .any]]), (47, [.agg [.any, .sl 37, .sl 84], .agg [.any, .any, .any, .sl 39, .sl 82, .any, .any]]), (125, []), (60, []), (112, [.one (.sl 77)]), (44, [.one (.sl 77)]), (113, [.one (.sl 84), .one (.sl 84)]), (45, [.agg [.any, .sl 37, .sl 84], .agg [.any, .sl 37, .sl 84]]), (46, [.one (.sl 77)]), (168, [.one .any]), (169, [.one .any]), (151, [.agg [.any, .any, .any, .any]]), (102, [.one (.sl 95)]), (126, [.agg [.sl 39, .sl 82, .any, .any], .one .any]), (127, [.agg [.sl 39, .sl 82, .any, .any], .one .any]), (128, [.one (.sl 39)]), (129, [.one (.sl 82)]), (61, [.one (.sl 37), .one (.sl 95)]), (98, [.one .any]), (100, [.one .any]), (130, [.one (.sl 5)]), (62, [.one (.sl 5)]), (63, [.one (.sl 37), .one (.sl 95)]), (13, [.one (.sl 5), .one (.sl 5)])]
def persL : List (Nat × List Nat) := [(146, [0]), (115, [0]), (145, [1]), (175, [1]), (176, [0]), (166, [2, 1]), (119, [1])]
def pnL : List (Nat × Nat) := [(145, 1), (166, 1), (119, 1)]
def pnT : FuncId → Nat := fun f => lookD 0 f pnL
def mkE (keep : List (Nat × List (Nat × PS))) (res : List PS) (nb : NB) : Env tau := { T := TT, by_ := byT, mode := fun f => lookD 0 f modeL, shp := fun f => lookD [] f shpL, keep := fun i => lookN i keep, res := res, pers := fun f => lookD [] f persL, pn := pnT, nb := nb }
theorem asked : Asked Try.prog byT tabL := ⟨by kernel_rfl, by kernel_rfl, by kernel_rfl, by kernel_rfl⟩
theorem el_3 : ElOk TT 3 := by
 intro ti h
 replace h : some (⟨[.int .i64], .scal⟩ : TI) = some ti := h
 cases h
 refine ⟨fun x => rfl, fun l hl => ?_⟩
 obtain ⟨y0, l0, e0, h0⟩ := wts_i hl
 have e1 := wts_nil h0
 subst e1
 subst e0
 rfl
theorem el_5 : ElOk TT 5 := by
 intro ti h
 replace h : some (⟨[.int .u8], .scal⟩ : TI) = some ti := h
 cases h
 refine ⟨fun x => rfl, fun l hl => ?_⟩
 obtain ⟨y0, l0, e0, h0⟩ := wts_i hl
 have e1 := wts_nil h0
 subst e1
 subst e0
 rfl
theorem el_37 : ElOk TT 37 := by
 intro ti h
 replace h : some (⟨[.int .i64, .int .i64], .st [(0, 3), (1, 3)]⟩ : TI) = some ti := h
 cases h
 refine ⟨fun x => rfl, fun l hl => ?_⟩
 obtain ⟨y0, l0, e0, h0⟩ := wts_i hl
 obtain ⟨y1, l1, e1, h1⟩ := wts_i h0
 have e2 := wts_nil h1
 subst e2
 subst e1
 subst e0
 rfl
theorem el_39 : ElOk TT 39 := by
 intro ti h
 replace h : some (⟨[.int .i64, .int .i64], .st [(0, 3), (1, 3)]⟩ : TI) = some ti := h
 cases h
 refine ⟨fun x => rfl, fun l hl => ?_⟩
 obtain ⟨y0, l0, e0, h0⟩ := wts_i hl
 obtain ⟨y1, l1, e1, h1⟩ := wts_i h0
 have e2 := wts_nil h1
 subst e2
 subst e1
 subst e0
 rfl
theorem el_77 : ElOk TT 77 := by
 intro ti h
 replace h : some (⟨[.bool, .int .i64, .int .i64, .sl 39, .sl 82, .int .i64, .int .i64], .st [(0, 4), (1, 75), (3, 26)]⟩ : TI) = some ti := h
 cases h
 refine ⟨fun x => rfl, fun l hl => ?_⟩
 obtain ⟨y0, l0, e0, h0⟩ := wts_b hl
 obtain ⟨y1, l1, e1, h1⟩ := wts_i h0
 obtain ⟨y2, l2, e2, h2⟩ := wts_i h1
 obtain ⟨y3, l3, e3, h3⟩ := wts_l h2
 obtain ⟨y4, l4, e4, h4⟩ := wts_l h3
 obtain ⟨y5, l5, e5, h5⟩ := wts_i h4
 obtain ⟨y6, l6, e6, h6⟩ := wts_i h5
 have e7 := wts_nil h6
 subst e7
 subst e6
 subst e5
 subst e4
 subst e3
 subst e2
 subst e1
 subst e0
 rfl
theorem el_82 : ElOk TT 82 := by
 intro ti h
 replace h : some (⟨[.int .i64, .int .i64], .st [(0, 3), (1, 3)]⟩ : TI) = some ti := h
 cases h
 refine ⟨fun x => rfl, fun l hl => ?_⟩
 obtain ⟨y0, l0, e0, h0⟩ := wts_i hl
 obtain ⟨y1, l1, e1, h1⟩ := wts_i h0
 have e2 := wts_nil h1
 subst e2
 subst e1
 subst e0
 rfl
theorem el_84 : ElOk TT 84 := by
 intro ti h
 replace h : some (⟨[.int .i64, .int .i64, .int .i64, .int .i64], .st [(0, 75), (2, 3), (3, 3)]⟩ : TI) = some ti := h
 cases h
 refine ⟨fun x => rfl, fun l hl => ?_⟩
 obtain ⟨y0, l0, e0, h0⟩ := wts_i hl
 obtain ⟨y1, l1, e1, h1⟩ := wts_i h0
 obtain ⟨y2, l2, e2, h2⟩ := wts_i h1
 obtain ⟨y3, l3, e3, h3⟩ := wts_i h2
 have e4 := wts_nil h3
 subst e4
 subst e3
 subst e2
 subst e1
 subst e0
 rfl
theorem el_95 : ElOk TT 95 := by
 intro ti h
 replace h : some (⟨[.int .i64, .int .i64, .int .i64, .int .i64], .st [(0, 3), (1, 3), (2, 3), (3, 3)]⟩ : TI) = some ti := h
 cases h
 refine ⟨fun x => rfl, fun l hl => ?_⟩
 obtain ⟨y0, l0, e0, h0⟩ := wts_i hl
 obtain ⟨y1, l1, e1, h1⟩ := wts_i h0
 obtain ⟨y2, l2, e2, h2⟩ := wts_i h1
 obtain ⟨y3, l3, e3, h3⟩ := wts_i h2
 have e4 := wts_nil h3
 subst e4
 subst e3
 subst e2
 subst e1
 subst e0
 rfl
theorem pq : PQ Try.prog TT byT := pq_of asked rfl (fun e he => by
 have h := memN_iff.1 he
 simp only [List.mem_cons, List.not_mem_nil, or_false] at h
 rcases h with rfl | rfl | rfl | rfl | rfl | rfl | rfl | rfl
 · exact el_3
 · exact el_5
 · exact el_37
 · exact el_39
 · exact el_77
 · exact el_82
 · exact el_84
 · exact el_95)
theorem hmix : Try.prog.follows .mixedOrders = true := by kernel_rfl
noncomputable def c_101 (args : List (AV tau)) (m : Mem tau) (κ : AV tau → Mem tau → Option Unit) : Option Unit := match args, m.bx, m.rw with
  | [b0, b1], [], [] => bO (asSl 37 b0) fun l0 => bO (asSl 37 b1) fun l1 => callX (fun n => impl_same_impl_Box.f n l0 l1) fun t => κ (.bool (t)) ⟨[], []⟩
  | _, _, _ => none
def E_101 : Env tau := mkE [(0, [(0, .one (.own 37)), (1, .one (.own 37))]), (1, [(0, .one (.own 37)), (1, .one (.own 37))]), (2, []), (3, [(0, .one (.own 37)), (1, .one (.own 37))]), (4, [(0, .one (.own 37)), (1, .one (.own 37)), (12, .one .any), (13, .one .any)]), (5, [(0, .one (.own 37)), (1, .one (.own 37)), (12, .one .any), (13, .one .any)]), (6, [(0, .one (.own 37)), (1, .one (.own 37)), (5, .one .any), (12, .one .any), (13, .one .any)]), (7, []), (8, [(0, .one (.own 37)), (1, .one (.own 37)), (12, .one .any), (13, .one .any)]), (9, [])] [.one .any] ⟨0, 0⟩
noncomputable def c_39 (args : List (AV tau)) (m : Mem tau) (κ : AV tau → Mem tau → Option Unit) : Option Unit := match args, m.bx, m.rw with
  | [b0, b1], [], [] => bO (asSl 37 b0) fun l0 => bO (asSl 37 b1) fun l1 => callX (fun n => impl_BoxSame.f n l0 l1) fun t => κ (.bool (t)) ⟨[], []⟩
  | _, _, _ => none
def E_39 : Env tau := mkE [(0, [(0, .one (.own 37)), (1, .one (.own 37))]), (1, [(0, .one (.own 37)), (1, .one (.own 37))])] [.one .any] ⟨0, 0⟩
noncomputable def c_78 (args : List (AV tau)) (m : Mem tau) (κ : AV tau → Mem tau → Option Unit) : Option Unit := match args, m.bx, m.rw with
  | [b0], [], [] => bO (asSl 5 b0) fun l0 => callX (fun n => spec_l15Open.f l0) fun t => κ (.ptr 0 0) ⟨[some (172, [.sl 5 (t.1), .int .i64 (t.2)])], []⟩
  | _, _, _ => none
def E_78 : Env tau := mkE [(0, [(0, .one (.own 5))]), (1, [(0, .one (.own 5))]), (2, [(0, .one (.own 5))]), (3, [(0, .one (.own 5))])] [.one .any] ⟨0, 0⟩
noncomputable def c_19 (args : List (AV tau)) (m : Mem tau) (κ : AV tau → Mem tau → Option Unit) : Option Unit := match args, m.bx, m.rw with
  | [.agg [b0, b1, b2, b3], .agg [b4, b5, b6, b7]], [], [] => bO (asSl 39 b0) fun l0_0 => bO (asSl 82 b1) fun l0_1 => bO (asI .i64 b2) fun a0_2 => bO (asI .i64 b3) fun a0_3 => bO (asSl 39 b4) fun l1_0 => bO (asSl 82 b5) fun l1_1 => bO (asI .i64 b6) fun a1_2 => bO (asI .i64 b7) fun a1_3 => callX (fun n => spec_ExecSame.f n l0_0 l0_1 a0_2 a0_3 l1_0 l1_1 a1_2 a1_3) fun t => κ (.bool (t)) ⟨[], []⟩
  | _, _, _ => none
def E_19 : Env tau := mkE [(0, [(0, .agg [.own 39, .own 82, .any, .any]), (1, .agg [.own 39, .own 82, .any, .any])]), (1, [(2, .one .any), (3, .one .any)]), (2, []), (3, [(2, .one .any), (3, .one .any)]), (4, [(2, .one .any), (3, .one .any), (5, .one .any)]), (5, [(2, .one .any), (3, .one .any), (5, .one .any)]), (6, [(2, .one .any), (3, .one .any), (5, .one .any)]), (7, []), (8, [(2, .one .any), (3, .one .any)]), (9, [(2, .one .any), (3, .one .any), (6, .one .any)]), (10, [(2, .one .any), (3, .one .any), (6, .one .any)]), (11, [(2, .one .any), (3, .one .any), (6, .one .any)]), (12, []), (13, [])] [.one .any] ⟨0, 0⟩
noncomputable def c_84 (args : List (AV tau)) (m : Mem tau) (κ : AV tau → Mem tau → Option Unit) : Option Unit := match args, m.bx, m.rw with
  | [b0], [], [] => bO (asI .i64 b0) fun a0 => callX (fun n => spec_l1Num.f a0) fun t => κ (.bool (t)) ⟨[], []⟩
  | _, _, _ => none
def E_84 : Env tau := mkE [(0, [(0, .one .any)]), (1, [(0, .one .any)])] [.one .any] ⟨0, 0⟩
noncomputable def c_85 (args : List (AV tau)) (m : Mem tau) (κ : AV tau → Mem tau → Option Unit) : Option Unit := match args, m.bx, m.rw with
  | [b0], [], [] => bO (asI .i64 b0) fun a0 => callX (fun n => spec_l2Box.f a0) fun t => κ (.bool (t)) ⟨[], []⟩
  | _, _, _ => none
def E_85 : Env tau := mkE [(0, [(0, .one .any)]), (1, [(0, .one .any)])] [.one .any] ⟨0, 0⟩
noncomputable def c_86 (args : List (AV tau)) (m : Mem tau) (κ : AV tau → Mem tau → Option Unit) : Option Unit := match args, m.bx, m.rw with
  | [b0, b1], [], [] => bO (asSl 39 b0) fun l0 => bO (asI .i64 b1) fun a1 => callX (fun n => spec_l3Saw.f n l0 a1) fun t => κ (.bool (t)) ⟨[], []⟩
  | _, _, _ => none
def E_86 : Env tau := mkE [(0, [(0, .one (.own 39)), (1, .one .any)]), (1, [(0, .one (.own 39)), (1, .one .any)]), (2, [(0, .one (.own 39)), (1, .one .any), (5, .one .any)]), (3, [(0, .one (.own 39)), (1, .one .any), (5, .one .any)]), (4, [(0, .one (.own 39)), (1, .one .any), (5, .one .any)]), (5, []), (6, [])] [.one .any] ⟨0, 0⟩
noncomputable def c_87 (args : List (AV tau)) (m : Mem tau) (κ : AV tau → Mem tau → Option Unit) : Option Unit := match args, m.bx, m.rw with
  | [b0, b1], [], [] => bO (asSl 82 b0) fun l0 => bO (asI .i64 b1) fun a1 => callX (fun n => spec_l3At.f n l0 a1) fun t => κ (.int .i64 (t)) ⟨[], []⟩
  | _, _, _ => none
def E_87 : Env tau := mkE [(0, [(0, .one (.own 82)), (1, .one .any)]), (1, [(0, .one (.own 82)), (1, .one .any)]), (2, [(0, .one (.own 82)), (1, .one .any), (5, .one .any)]), (3, [(0, .one (.own 82)), (1, .one .any), (5, .one .any)]), (4, [(0, .one (.own 82)), (1, .one .any), (5, .one .any)]), (5, [(5, .one .any)]), (6, [])] [.one .any] ⟨0, 0⟩
noncomputable def c_23 (args : List (AV tau)) (m : Mem tau) (κ : AV tau → Mem tau → Option Unit) : Option Unit := match args, m.bx, m.rw with
  | [.agg [b0, b1, b2, b3]], [], [] => bO (asSl 39 b0) fun l0_0 => bO (asSl 82 b1) fun l0_1 => bO (asI .i64 b2) fun a0_2 => bO (asI .i64 b3) fun a0_3 => callX (fun n => spec_ExecOk.f n l0_0 l0_1 a0_2 a0_3) fun t => κ (.bool (t)) ⟨[], []⟩
  | _, _, _ => none
def E_23 : Env tau := mkE [(0, [(0, .agg [.own 39, .own 82, .any, .any])]), (1, [(1, .one .any)]), (2, []), (3, [(1, .one .any)]), (4, [(1, .one .any), (3, .one .any)]), (5, [(1, .one .any), (3, .one .any)]), (6, [(1, .one .any), (3, .one .any)]), (7, []), (8, [(1, .one .any)]), (9, [(1, .one .any), (4, .one .any)]), (10, [(1, .one .any), (4, .one .any)]), (11, [(1, .one .any), (4, .one .any)]), (12, []), (13, [])] [.one .any] ⟨0, 0⟩
noncomputable def c_120 (args : List (AV tau)) (m : Mem tau) (κ : AV tau → Mem tau → Option Unit) : Option Unit := match args, m.bx, m.rw with
  | [.agg [b0, b1]], [], [] => bO (asI .i64 b0) fun a0_0 => bO (asI .i64 b1) fun a0_1 => callX (fun n => spec_l5Req.f a0_0 a0_1) fun t => κ (.bool (t)) ⟨[], []⟩
  | _, _, _ => none
def E_120 : Env tau := mkE [(0, [(0, .agg [.any, .any])]), (1, [(1, .one .any)])] [.one .any] ⟨0, 0⟩
noncomputable def c_53 (args : List (AV tau)) (m : Mem tau) (κ : AV tau → Mem tau → Option Unit) : Option Unit := match args, m.bx, m.rw with
  | [.agg [b0, b1, b2, b3, b4, b5, b6]], [], [] => bO (asB b0) fun a0_0 => bO (asI .i64 b1) fun a0_1 => bO (asI .i64 b2) fun a0_2 => bO (asSl 39 b3) fun l0_3 => bO (asSl 82 b4) fun l0_4 => bO (asI .i64 b5) fun a0_5 => bO (asI .i64 b6) fun a0_6 => callX (fun n => spec_CertEntry.f n a0_0 a0_1 a0_2 l0_3 l0_4 a0_5 a0_6) fun t => κ (.bool (t)) ⟨[], []⟩
  | _, _, _ => none
def E_53 : Env tau := mkE [(0, [(0, .agg [.any, .any, .any, .own 39, .own 82, .any, .any])]), (1, [(1, .one .any)]), (2, [(1, .one .any)]), (3, [(1, .one .any)])] [.one .any] ⟨0, 0⟩
noncomputable def c_79 (args : List (AV tau)) (m : Mem tau) (κ : AV tau → Mem tau → Option Unit) : Option Unit := match args, m.bx, m.rw with
  | [p0, b0], [some (t0_, [c0_0, c0_1])], [] => bO (asPtr 0 p0) fun _ => bO (asT 172 t0_) fun _ => bO (asSl 5 c0_0) fun s0_0 => bO (asI .i64 c0_1) fun s0_1 => bO (asI .i64 b0) fun a1 => callX (fun n => spec_l15Rd_pick.f n s0_0 s0_1 a1) fun t => κ (.int .i64 (t.1)) ⟨[some (172, [.sl 5 (s0_0), .int .i64 (t.2)])], []⟩
  | _, _, _ => none
def E_79 : Env tau := mkE [(0, [(0, .one .any), (1, .one .any)]), (1, [(0, .one .any), (1, .one .any)]), (2, [(0, .one .any), (1, .one .any)]), (3, []), (4, [(0, .one .any), (1, .one .any)]), (5, [(0, .one .any), (1, .one .any), (5, .one .any)]), (6, [(0, .one .any), (1, .one .any), (5, .one .any)]), (7, [(0, .one .any), (1, .one .any), (5, .one .any)]), (8, [(1, .one .any), (6, .one .any)]), (9, [(1, .one .any), (6, .one .any)])] [.one .any] ⟨1, 0⟩
noncomputable def c_149 (args : List (AV tau)) (m : Mem tau) (κ : AV tau → Mem tau → Option Unit) : Option Unit := match args, m.bx, m.rw with
  | [], [], [] => callX (fun n => spec_BoxOpen.f) fun t => κ (.own 0 0) ⟨[], [some ⟨37, t, 0⟩]⟩
  | _, _, _ => none
def E_149 : Env tau := mkE [(0, []), (1, [])] [.one (.own 37)] ⟨0, 0⟩
noncomputable def c_114 (args : List (AV tau)) (m : Mem tau) (κ : AV tau → Mem tau → Option Unit) : Option Unit := match args, m.bx, m.rw with
  | [], [], [] => callX (fun n => spec_CertOpen.f) fun t => κ (.agg [.int .i64 (t.1), .own 0 0, .own 1 0]) ⟨[], [some ⟨37, t.2.1, 0⟩, some ⟨84, t.2.2, 0⟩]⟩
  | _, _, _ => none
def E_114 : Env tau := mkE [(0, []), (1, [(0, .one .any)])] [.agg [.any, .own 37, .own 84]] ⟨0, 0⟩
noncomputable def c_22 (args : List (AV tau)) (m : Mem tau) (κ : AV tau → Mem tau → Option Unit) : Option Unit := match args, m.bx, m.rw with
  | [b0], [], [] => bO (asSl 37 b0) fun l0 => callX (fun n => spec_BoxOk.f n l0) fun t => κ (.bool (t)) ⟨[], []⟩
  | _, _, _ => none
def E_22 : Env tau := mkE [(0, [(0, .one (.own 37))]), (1, [(0, .one (.own 37))]), (2, []), (3, [(0, .one (.own 37))]), (4, [(0, .one (.own 37)), (3, .one .any)]), (5, [(0, .one (.own 37)), (3, .one .any)]), (6, [(0, .one (.own 37)), (3, .one .any)]), (7, []), (8, [])] [.one .any] ⟨0, 0⟩
noncomputable def c_21 (args : List (AV tau)) (m : Mem tau) (κ : AV tau → Mem tau → Option Unit) : Option Unit := match args, m.bx, m.rw with
  | [b0, .agg [b1, b2, b3, b4]], [], [] => bO (asSl 37 b0) fun l0 => bO (asSl 39 b1) fun l1_0 => bO (asSl 82 b2) fun l1_1 => bO (asI .i64 b3) fun a1_2 => bO (asI .i64 b4) fun a1_3 => callX (fun n => spec_ExecFresh.f n l0 l1_0 l1_1 a1_2 a1_3) fun t => κ (.bool (t)) ⟨[], []⟩
  | _, _, _ => none
def E_21 : Env tau := mkE [(0, [(0, .one (.own 37)), (1, .agg [.own 39, .own 82, .any, .any])]), (1, [(0, .one (.own 37)), (3, .one .any)]), (2, []), (3, [(0, .one (.own 37)), (3, .one .any)]), (4, [(0, .one (.own 37)), (3, .one .any), (5, .one .any)]), (5, [(0, .one (.own 37)), (3, .one .any), (5, .one .any)]), (6, [(0, .one (.own 37)), (3, .one .any), (5, .one .any)]), (7, []), (8, [])] [.one .any] ⟨0, 0⟩
noncomputable def c_167 (args : List (AV tau)) (m : Mem tau) (κ : AV tau → Mem tau → Option Unit) : Option Unit := match args, m.bx, m.rw with
  | [b0, b1], [], [] => bO (asI .i64 b0) fun a0 => bO (asI .i64 b1) fun a1 => callX (fun n => spec_l1Min.f a0 a1) fun t => κ (.int .i64 (t)) ⟨[], []⟩
  | _, _, _ => none
def E_167 : Env tau := mkE [(0, [(0, .one .any), (1, .one .any)]), (1, [(0, .one .any), (1, .one .any)]), (2, [(0, .one .any)]), (3, [(1, .one .any)])] [.one .any] ⟨0, 0⟩
noncomputable def c_146 (args : List (AV tau)) (m : Mem tau) (κ : AV tau → Mem tau → Option Unit) : Option Unit := match args, m.bx, m.rw with
  | [b0, .agg [b1, b2, b3, b4]], [], [r0] => bO (asOwn 0 b0) fun _ => bO (asRow 37 r0) fun l0 => bO (asSl 39 b1) fun l1_0 => bO (asSl 82 b2) fun l1_1 => bO (asI .i64 b3) fun a1_2 => bO (asI .i64 b4) fun a1_3 => callX (fun n => spec_l3Do.f n l0 l1_0 l1_1 a1_2 a1_3) fun t => κ (.own 0 0) ⟨[], [some ⟨37, t, 0⟩]⟩
  | _, _, _ => none
def E_146 : Env tau := mkE [(0, [(0, .one (.own 37)), (1, .agg [.own 39, .own 82, .any, .any])]), (1, [(0, .one (.own 37)), (3, .one .any)]), (2, [(0, .one (.own 37)), (3, .one .any), (5, .one .any)]), (3, [(0, .one (.own 37)), (3, .one .any), (5, .one .any)]), (4, [(0, .one (.own 37)), (3, .one .any), (5, .one .any)]), (5, [(0, .one (.own 37)), (3, .one .any), (5, .one .any), (6, .one .any)]), (6, [(0, .one (.own 37))])] [.one (.own 37)] ⟨0, 0⟩
noncomputable def c_155 (args : List (AV tau)) (m : Mem tau) (κ : AV tau → Mem tau → Option Unit) : Option Unit := match args, m.bx, m.rw with
  | [.agg [b0, b1, b2], b3], [], [] => bO (asI .i64 b0) fun a0_0 => bO (asSl 37 b1) fun l0_1 => bO (asSl 84 b2) fun l0_2 => bO (asI .i64 b3) fun a1 => callX (fun n => spec_l5Last.f n a0_0 l0_1 l0_2 a1) fun t => κ (.tup [.agg [.int .i64 (t.1), .int .i64 (t.2.1), .int .i64 (t.2.2.1), .int .i64 (t.2.2.2.1)], .bool (t.2.2.2.2)]) ⟨[], []⟩
  | _, _, _ => none
def E_155 : Env tau := mkE [(0, [(0, .agg [.any, .own 37, .own 84]), (1, .one .any)]), (1, [(1, .one .any), (2, .one .any), (4, .one .any)]), (2, [(1, .one .any), (2, .one .any), (4, .one .any), (6, .one .any)]), (3, [(1, .one .any), (2, .one .any), (4, .one .any), (6, .one .any)]), (4, [(1, .one .any), (2, .one .any), (4, .one .any), (6, .one .any)]), (5, [(2, .one .any), (4, .one .any), (6, .one .any)]), (6, [(4, .one .any)])] [.agg [.any, .any, .any, .any], .one .any] ⟨0, 0⟩
noncomputable def c_156 (args : List (AV tau)) (m : Mem tau) (κ : AV tau → Mem tau → Option Unit) : Option Unit := match args, m.bx, m.rw with
  | [b0, .agg [b1, b2, b3, b4]], [], [] => bO (asSl 84 b0) fun l0 => bO (asI .i64 b1) fun a1_0 => bO (asI .i64 b2) fun a1_1 => bO (asI .i64 b3) fun a1_2 => bO (asI .i64 b4) fun a1_3 => callX (fun n => spec_l5Put.f n l0 a1_0 a1_1 a1_2 a1_3) fun t => κ (.own 0 0) ⟨[], [some ⟨84, t, 0⟩]⟩
  | _, _, _ => none
def E_156 : Env tau := mkE [(0, [(0, .one (.own 84)), (1, .agg [.any, .any, .any, .any])]), (1, [(0, .one (.own 84)), (3, .one .any)]), (2, [(0, .one (.own 84)), (3, .one .any), (5, .one (.own 84))]), (3, [(0, .one (.own 84)), (3, .one .any), (5, .one (.own 84)), (6, .one .any)]), (4, [(0, .one (.own 84)), (3, .one .any), (5, .one (.own 84)), (6, .one .any), (7, .one .any)]), (5, [(0, .one (.own 84)), (3, .one .any), (5, .one (.own 84)), (6, .one .any), (7, .one .any)]), (6, [(0, .one (.own 84)), (3, .one .any), (5, .one (.own 84)), (6, .one .any), (7, .one .any)]), (7, [(0, .one (.own 84)), (3, .one .any), (5, .one (.own 84)), (7, .one .any)]), (8, [(0, .one (.own 84)), (3, .one .any), (5, .one (.own 84)), (7, .one .any)]), (9, [(0, .one (.own 84)), (3, .one .any), (5, .one (.own 84)), (6, .one .any), (7, .one .any)]), (10, [(0, .one (.own 84)), (3, .one .any), (5, .one (.own 84)), (6, .one .any), (7, .one .any)]), (11, [(3, .one .any), (5, .one (.own 84)), (6, .one .any)]), (12, [(3, .one .any), (5, .one (.own 84))]), (13, [(5, .one (.own 84))])] [.one (.own 84)] ⟨0, 0⟩
noncomputable def c_115 (args : List (AV tau)) (m : Mem tau) (κ : AV tau → Mem tau → Option Unit) : Option Unit := match args, m.bx, m.rw with
  | [.agg [b0, b1, b2], .agg [b3, b4, b5, b6, b7, b8, b9]], [], [r0, r1] => bO (asI .i64 b0) fun a0_0 => bO (asOwn 0 b1) fun _ => bO (asRow 37 r0) fun l0_1 => bO (asOwn 1 b2) fun _ => bO (asRow 84 r1) fun l0_2 => bO (asB b3) fun a1_0 => bO (asI .i64 b4) fun a1_1 => bO (asI .i64 b5) fun a1_2 => bO (asSl 39 b6) fun l1_3 => bO (asSl 82 b7) fun l1_4 => bO (asI .i64 b8) fun a1_5 => bO (asI .i64 b9) fun a1_6 => callX (fun n => spec_l5Apply.f n a0_0 l0_1 l0_2 a1_0 a1_1 a1_2 l1_3 l1_4 a1_5 a1_6) fun t => κ (.tup [.agg [.int .i64 (t.1), .own 0 0, .own 1 0], .int .i64 (t.2.2.2)]) ⟨[], [some ⟨37, t.2.1, 0⟩, some ⟨84, t.2.2.1, 0⟩]⟩
  | _, _, _ => none
def E_115 : Env tau := mkE [(0, [(0, .agg [.any, .own 37, .own 84]), (1, .agg [.any, .any, .any, .own 39, .own 82, .any, .any])]), (1, [(2, .one .any), (3, .one .any), (4, .one .any)]), (2, [(2, .one .any), (3, .one .any), (4, .one .any)]), (3, [(2, .one .any), (4, .one .any)]), (4, [(2, .one .any), (3, .one .any), (4, .one .any)]), (5, [(2, .one .any), (3, .one .any), (4, .one .any), (6, .one .any), (7, .one .any)]), (6, [(2, .one .any), (4, .one .any)]), (7, [(2, .one .any), (3, .one .any), (4, .one .any), (6, .one .any), (7, .one .any)]), (8, [(2, .one .any), (4, .one .any)]), (9, [(2, .one .any), (3, .one .any), (4, .one .any)]), (10, [(2, .one .any), (3, .one .any), (4, .one .any), (8, .one .any)]), (11, [(2, .one .any), (3, .one .any), (4, .one .any), (8, .one .any)]), (12, [(2, .one .any), (3, .one .any), (4, .one .any), (8, .one .any)]), (13, [(2, .one .any), (3, .one .any), (4, .one .any), (8, .one .any)]), (14, [(2, .one .any), (3, .one .any), (4, .one .any), (8, .one .any)]), (15, [(2, .one .any), (3, .one .any), (4, .one .any), (8, .one .any)]), (16, [(2, .one .any), (4, .one .any), (8, .one .any)]), (17, [(2, .one .any), (4, .one .any), (8, .one .any)])] [.agg [.any, .own 37, .own 84], .one .any] ⟨0, 0⟩
noncomputable def c_145 (args : List (AV tau)) (m : Mem tau) (κ : AV tau → Mem tau → Option Unit) : Option Unit := match args, m.bx, m.rw with
  | [p0, b0], [some (t0_, [c0_0, c0_1])], [r0] => bO (asPtr 0 p0) fun _ => bO (asT 172 t0_) fun _ => bO (asSl 5 c0_0) fun s0_0 => bO (asI .i64 c0_1) fun s0_1 => bO (asOwn 0 b0) fun _ => bO (asRow 3 r0) fun l1 => callX (fun n => spec_l15Rd_num.f n s0_0 s0_1 l1) fun t => κ (.int .i64 (t.1)) ⟨[some (172, [.sl 5 (s0_0), .int .i64 (t.2)])], [some ⟨3, l1, 0⟩]⟩
  | _, _, _ => none
def E_145 : Env tau := mkE [(0, [(0, .one .any), (1, .one (.own 3))]), (1, [(0, .one .any), (1, .one (.own 3))])] [.one .any] ⟨1, 1⟩
noncomputable def c_150 (args : List (AV tau)) (m : Mem tau) (κ : AV tau → Mem tau → Option Unit) : Option Unit := match args, m.bx, m.rw with
  | [p0], [some (t0_, [c0_0, c0_1])], [] => bO (asPtr 0 p0) fun _ => bO (asT 172 t0_) fun _ => bO (asSl 5 c0_0) fun s0_0 => bO (asI .i64 c0_1) fun s0_1 => callX (fun n => spec_l2Any.f n s0_0 s0_1) fun t => κ (.agg [.int .i64 (t.1), .int .i64 (t.2.1), .int .i64 (t.2.2.1), .int .i64 (t.2.2.2.1)]) ⟨[some (172, [.sl 5 (s0_0), .int .i64 (t.2.2.2.2)])], []⟩
  | _, _, _ => none
def E_150 : Env tau := mkE [(0, [(0, .one .any)]), (1, [(0, .one .any), (2, .one .any)]), (2, [(0, .one .any), (2, .one .any), (3, .one .any)]), (3, [(0, .one .any), (2, .one .any), (3, .one .any), (13, .one .any)]), (4, [(0, .one .any), (2, .one .any), (3, .one .any)]), (5, [(0, .one .any), (2, .one .any), (3, .one .any)]), (6, [(0, .one .any), (2, .one .any), (3, .one .any), (13, .one .any)]), (7, [(0, .one .any), (2, .one .any), (3, .one .any)]), (8, [(0, .one .any), (2, .one .any), (3, .one .any), (13, .one .any)]), (9, [(0, .one .any), (2, .one .any), (3, .one .any)]), (10, [(0, .one .any), (2, .one .any)]), (11, [(2, .one .any), (3, .one .any)]), (12, [(2, .one .any), (3, .one .any)]), (13, [(2, .one .any), (3, .one .any)])] [.agg [.any, .any, .any, .any]] ⟨1, 0⟩
noncomputable def c_99 (args : List (AV tau)) (m : Mem tau) (κ : AV tau → Mem tau → Option Unit) : Option Unit := match args, m.bx, m.rw with
  | [p0], [some (t0_, [c0_0, c0_1])], [] => bO (asPtr 0 p0) fun _ => bO (asT 172 t0_) fun _ => bO (asSl 5 c0_0) fun s0_0 => bO (asI .i64 c0_1) fun s0_1 => callX (fun n => spec_l2Prog.f n s0_0 s0_1) fun t => κ (.own 0 0) ⟨[some (172, [.sl 5 (s0_0), .int .i64 (t.2)])], [some ⟨95, t.1, 0⟩]⟩
  | _, _, _ => none
def E_99 : Env tau := mkE [(0, [(0, .one .any)]), (1, [(0, .one .any)]), (2, [(0, .one .any)]), (3, [(0, .one .any), (3, .one .any)]), (4, [(0, .one .any), (3, .one .any), (4, .one .any)]), (5, [(0, .one .any)]), (6, [(0, .one .any), (5, .one (.own 95))]), (7, [(0, .one .any), (5, .one (.own 95)), (6, .one .any)]), (8, [(0, .one .any), (5, .one (.own 95)), (6, .one .any)]), (9, [(0, .one .any), (5, .one (.own 95)), (6, .one .any)]), (10, [(5, .one (.own 95))])] [.one (.own 95)] ⟨1, 0⟩
noncomputable def c_170 (args : List (AV tau)) (m : Mem tau) (κ : AV tau → Mem tau → Option Unit) : Option Unit := match args, m.bx, m.rw with
  | [b0], [], [] => bO (asI .i64 b0) fun a0 => callX (fun n => spec_l2Reg.f a0) fun t => κ (.bool (t)) ⟨[], []⟩
  | _, _, _ => none
def E_170 : Env tau := mkE [(0, [(0, .one .any)]), (1, [(0, .one .any)])] [.one .any] ⟨0, 0⟩
noncomputable def c_153 (args : List (AV tau)) (m : Mem tau) (κ : AV tau → Mem tau → Option Unit) : Option Unit := match args, m.bx, m.rw with
  | [.agg [b0, b1, b2, b3]], [], [] => bO (asI .i64 b0) fun a0_0 => bO (asI .i64 b1) fun a0_1 => bO (asI .i64 b2) fun a0_2 => bO (asI .i64 b3) fun a0_3 => callX (fun n => spec_l2Ins.f n a0_0 a0_1 a0_2 a0_3) fun t => κ (.bool (t)) ⟨[], []⟩
  | _, _, _ => none
def E_153 : Env tau := mkE [(0, [(0, .agg [.any, .any, .any, .any])]), (1, [(1, .one .any)]), (2, [(1, .one .any), (4, .one .any)]), (3, [(1, .one .any)]), (4, [(1, .one .any), (4, .one .any)]), (5, [(1, .one .any)]), (6, [(1, .one .any), (4, .one .any)]), (7, [(1, .one .any)]), (8, [(1, .one .any), (4, .one .any)]), (9, [(1, .one .any), (4, .one .any)]), (10, [(1, .one .any)]), (11, [(1, .one .any), (4, .one .any)]), (12, [(1, .one .any)]), (13, [(1, .one .any), (4, .one .any)]), (14, [(1, .one .any)]), (15, [])] [.one .any] ⟨0, 0⟩
noncomputable def c_106 (args : List (AV tau)) (m : Mem tau) (κ : AV tau → Mem tau → Option Unit) : Option Unit := match args, m.bx, m.rw with
  | [b0], [], [] => bO (asSl 95 b0) fun l0 => callX (fun n => spec_ProgOk.f n l0) fun t => κ (.bool (t)) ⟨[], []⟩
  | _, _, _ => none
def E_106 : Env tau := mkE [(0, [(0, .one (.own 95))]), (1, [(0, .one (.own 95))]), (2, []), (3, [(0, .one (.own 95))]), (4, [(0, .one (.own 95)), (3, .one .any)]), (5, [(0, .one (.own 95)), (3, .one .any)]), (6, [(0, .one (.own 95)), (3, .one .any)]), (7, []), (8, [])] [.one .any] ⟨0, 0⟩
noncomputable def c_175 (args : List (AV tau)) (m : Mem tau) (κ : AV tau → Mem tau → Option Unit) : Option Unit := match args, m.bx, m.rw with
  | [b0, .agg [b1, b2, b3, b4], b5], [], [r0, r1] => bO (asSl 37 b0) fun l0 => bO (asOwn 0 b1) fun _ => bO (asRow 39 r0) fun l1_0 => bO (asOwn 1 b2) fun _ => bO (asRow 82 r1) fun l1_1 => bO (asI .i64 b3) fun a1_2 => bO (asI .i64 b4) fun a1_3 => bO (asI .i64 b5) fun a2 => callX (fun n => spec_l3Look.f n l0 l1_0 l1_1 a1_2 a1_3 a2) fun t => κ (.tup [.int .i64 (t.1), .agg [.own 0 0, .own 1 0, .int .i64 (t.2.2.2.1), .int .i64 (t.2.2.2.2)]]) ⟨[], [some ⟨39, t.2.1, 0⟩, some ⟨82, t.2.2.1, 0⟩]⟩
  | _, _, _ => none
def E_175 : Env tau := mkE [(0, [(0, .one (.own 37)), (1, .agg [.own 39, .own 82, .any, .any]), (2, .one .any)]), (1, [(0, .one (.own 37)), (2, .one .any), (4, .one .any), (7, .one .any)]), (2, [(0, .one (.own 37)), (2, .one .any), (4, .one .any), (7, .one .any), (8, .one .any)]), (3, [(4, .one .any), (7, .one .any), (8, .one .any)]), (4, [(0, .one (.own 37)), (2, .one .any), (4, .one .any), (7, .one .any)]), (5, [(0, .one (.own 37)), (2, .one .any), (4, .one .any), (7, .one .any)]), (6, [(0, .one (.own 37)), (2, .one .any), (4, .one .any), (7, .one .any)])] [.one .any, .agg [.own 39, .own 82, .any, .any]] ⟨0, 0⟩
noncomputable def c_176 (args : List (AV tau)) (m : Mem tau) (κ : AV tau → Mem tau → Option Unit) : Option Unit := match args, m.bx, m.rw with
  | [.agg [b0, b1, b2, b3], b4, b5], [], [r0, r1] => bO (asOwn 0 b0) fun _ => bO (asRow 39 r0) fun l0_0 => bO (asOwn 1 b1) fun _ => bO (asRow 82 r1) fun l0_1 => bO (asI .i64 b2) fun a0_2 => bO (asI .i64 b3) fun a0_3 => bO (asI .i64 b4) fun a1 => bO (asI .i64 b5) fun a2 => callX (fun n => spec_l3Put.f n l0_0 l0_1 a0_2 a0_3 a1 a2) fun t => κ (.agg [.own 0 0, .own 1 0, .int .i64 (t.2.2.1), .int .i64 (t.2.2.2)]) ⟨[], [some ⟨39, t.1, 0⟩, some ⟨82, t.2.1, 0⟩]⟩
  | _, _, _ => none
def E_176 : Env tau := mkE [(0, [(0, .agg [.own 39, .own 82, .any, .any]), (1, .one .any), (2, .one .any)]), (1, [(1, .one .any), (2, .one .any), (3, .one .any), (6, .one .any)]), (2, [(1, .one .any), (2, .one .any), (3, .one .any), (6, .one .any), (7, .one .any)]), (3, [(2, .one .any), (3, .one .any), (6, .one .any), (7, .one .any)]), (4, [(3, .one .any), (6, .one .any)]), (5, [(1, .one .any), (2, .one .any), (3, .one .any), (6, .one .any)]), (6, [(3, .one .any), (6, .one .any)])] [.agg [.own 39, .own 82, .any, .any]] ⟨0, 0⟩
noncomputable def c_166 (args : List (AV tau)) (m : Mem tau) (κ : AV tau → Mem tau → Option Unit) : Option Unit := match args, m.bx, m.rw with
  | [b0, .agg [b1, b2, b3, b4], b5, .agg [b6, b7, b8, b9]], [], [r0, r1, r2] => bO (asSl 37 b0) fun l0 => bO (asOwn 1 b1) fun _ => bO (asRow 39 r1) fun l1_0 => bO (asOwn 2 b2) fun _ => bO (asRow 82 r2) fun l1_1 => bO (asI .i64 b3) fun a1_2 => bO (asI .i64 b4) fun a1_3 => bO (asOwn 0 b5) fun _ => bO (asRow 3 r0) fun l2 => bO (asI .i64 b6) fun a3_0 => bO (asI .i64 b7) fun a3_1 => bO (asI .i64 b8) fun a3_2 => bO (asI .i64 b9) fun a3_3 => callX (fun n => spec_l3Step.f n l0 l1_0 l1_1 a1_2 a1_3 l2 a3_0 a3_1 a3_2 a3_3) fun t => κ (.agg [.own 1 0, .own 2 0, .int .i64 (t.2.2.1), .int .i64 (t.2.2.2.1)]) ⟨[], [some ⟨3, t.2.2.2.2, 0⟩, some ⟨39, t.1, 0⟩, some ⟨82, t.2.1, 0⟩]⟩
  | _, _, _ => none
def E_166 : Env tau := mkE [(0, [(0, .one (.own 37)), (1, .agg [.own 39, .own 82, .any, .any]), (2, .one (.own 3)), (3, .agg [.any, .any, .any, .any])]), (1, [(0, .one (.own 37)), (2, .one (.own 3)), (5, .one .any), (7, .one .any), (8, .one .any)]), (2, [(0, .one (.own 37)), (2, .one (.own 3)), (5, .one .any), (7, .one .any), (8, .one .any), (12, .one .any)]), (3, [(0, .one (.own 37)), (2, .one (.own 3)), (5, .one .any), (7, .one .any), (8, .one .any)]), (4, [(2, .one (.own 3)), (5, .one .any), (7, .one .any), (8, .one .any), (9, .one .any), (10, .one .any)]), (5, [(2, .one (.own 3)), (5, .one .any), (7, .one .any), (8, .one .any), (10, .one .any)]), (6, [(2, .one (.own 3)), (5, .one .any), (7, .one .any), (8, .one .any), (12, .one .any)]), (7, [(2, .one (.own 3)), (5, .one .any), (7, .one .any), (8, .one .any)]), (8, [(2, .one (.own 3)), (5, .one .any), (7, .one .any), (8, .one .any), (12, .one .any)]), (9, [(2, .one (.own 3)), (5, .one .any), (7, .one .any), (8, .one .any)]), (10, [(2, .one (.own 3)), (5, .one .any), (7, .one .any), (8, .one .any), (12, .one .any)]), (11, [(2, .one (.own 3)), (5, .one .any), (7, .one .any), (8, .one .any)]), (12, [(2, .one (.own 3)), (5, .one .any), (7, .one .any), (8, .one .any), (12, .one .any)]), (13, [(2, .one (.own 3)), (5, .one .any), (7, .one .any), (8, .one .any)]), (14, [(2, .one (.own 3)), (5, .one .any), (7, .one .any), (8, .one .any), (12, .one .any)]), (15, [(2, .one (.own 3)), (5, .one .any), (7, .one .any), (8, .one .any)]), (16, [(2, .one (.own 3)), (5, .one .any), (7, .one .any), (8, .one .any)]), (17, [(5, .one .any), (8, .one .any)]), (18, [(5, .one .any), (8, .one .any)])] [.agg [.own 39, .own 82, .any, .any]] ⟨0, 1⟩
noncomputable def c_144 (args : List (AV tau)) (m : Mem tau) (κ : AV tau → Mem tau → Option Unit) : Option Unit := match args, m.bx, m.rw with
  | [b0, b1], [], [] => bO (asSl 37 b0) fun l0 => bO (asSl 95 b1) fun l1 => callX (fun n => spec_ExecRun.f n l0 l1) fun t => κ (.agg [.own 0 0, .own 1 0, .int .i64 (t.2.2.1), .int .i64 (t.2.2.2)]) ⟨[], [some ⟨39, t.1, 0⟩, some ⟨82, t.2.1, 0⟩]⟩
  | _, _, _ => none
def E_144 : Env tau := mkE [(0, [(0, .one (.own 37)), (1, .one (.own 95))]), (1, [(0, .one (.own 37)), (1, .one (.own 95)), (4, .one .any)]), (2, [(4, .one .any)]), (3, [(0, .one (.own 37)), (1, .one (.own 95)), (4, .one .any)]), (4, [(0, .one (.own 37)), (1, .one (.own 95)), (4, .one .any), (5, .one .any)]), (5, [(0, .one (.own 37)), (1, .one (.own 95)), (4, .one .any), (5, .one .any), (6, .one (.own 3))]), (6, [(0, .one (.own 37)), (1, .one (.own 95)), (4, .one .any), (5, .one .any), (6, .one (.own 3)), (7, .one .any)]), (7, [(0, .one (.own 37)), (1, .one (.own 95)), (4, .one .any), (5, .one .any), (6, .one (.own 3)), (7, .one .any)]), (8, [(0, .one (.own 37)), (1, .one (.own 95)), (4, .one .any), (5, .one .any), (6, .one (.own 3)), (7, .one .any)]), (9, [(0, .one (.own 37)), (1, .one (.own 95)), (4, .one .any), (5, .one .any), (6, .one (.own 3)), (7, .one .any), (8, .one .any)]), (10, [(0, .one (.own 37)), (1, .one (.own 95)), (4, .one .any), (5, .one .any), (6, .one (.own 3)), (7, .one .any), (8, .one .any)]), (11, [(0, .one (.own 37)), (1, .one (.own 95)), (4, .one .any), (5, .one .any), (6, .one (.own 3)), (7, .one .any), (8, .one .any)]), (12, [(0, .one (.own 37)), (1, .one (.own 95)), (4, .one .any), (5, .one .any), (6, .one (.own 3)), (7, .one .any), (8, .one .any)]), (13, [(4, .one .any), (5, .one .any), (6, .one (.own 3))]), (14, [(4, .one .any), (5, .one .any)]), (15, [(4, .one .any), (5, .one .any)]), (16, [(4, .one .any), (5, .one .any), (6, .one (.own 3))]), (17, [(4, .one .any), (5, .one .any)])] [.agg [.own 39, .own 82, .any, .any]] ⟨0, 0⟩
noncomputable def c_119 (args : List (AV tau)) (m : Mem tau) (κ : AV tau → Mem tau → Option Unit) : Option Unit := match args, m.bx, m.rw with
  | [p0, b0], [some (t0_, [c0_0, c0_1])], [r0] => bO (asPtr 0 p0) fun _ => bO (asT 172 t0_) fun _ => bO (asSl 5 c0_0) fun s0_0 => bO (asI .i64 c0_1) fun s0_1 => bO (asOwn 0 b0) fun _ => bO (asRow 37 r0) fun l1 => callX (fun n => spec_l5Any.f n s0_0 s0_1 l1) fun t => κ (.agg [.bool (t.1), .int .i64 (t.2.1), .int .i64 (t.2.2.1), .own 1 0, .own 2 0, .int .i64 (t.2.2.2.2.2.1), .int .i64 (t.2.2.2.2.2.2.1)]) ⟨[some (172, [.sl 5 (s0_0), .int .i64 (t.2.2.2.2.2.2.2)])], [some ⟨37, l1, 0⟩, some ⟨39, t.2.2.2.1, 0⟩, some ⟨82, t.2.2.2.2.1, 0⟩]⟩
  | _, _, _ => none
def E_119 : Env tau := mkE [(0, [(0, .one .any), (1, .one (.own 37))]), (1, [(0, .one .any), (1, .one (.own 37)), (4, .one .any)]), (2, [(4, .one .any)]), (3, [(0, .one .any), (1, .one (.own 37)), (4, .one .any)]), (4, [(0, .one .any), (4, .one .any), (5, .one .any)]), (5, [(0, .one .any), (4, .one .any), (5, .one .any), (22, .one .any)]), (6, [(0, .one .any), (4, .one .any), (5, .one .any)]), (7, [(4, .one .any), (5, .one .any), (22, .one .any)]), (8, [(4, .one .any), (5, .one .any)]), (9, [(4, .one .any), (5, .one .any), (22, .one .any)]), (10, [(4, .one .any), (5, .one .any)]), (11, [(4, .one .any), (5, .one .any)])] [.agg [.any, .any, .any, .own 39, .own 82, .any, .any]] ⟨1, 1⟩
noncomputable def c_110 (args : List (AV tau)) (m : Mem tau) (κ : AV tau → Mem tau → Option Unit) : Option Unit := match args, m.bx, m.rw with
  | [p0], [some (t0_, [c0_0, c0_1])], [] => bO (asPtr 0 p0) fun _ => bO (asT 172 t0_) fun _ => bO (asSl 5 c0_0) fun s0_0 => bO (asI .i64 c0_1) fun s0_1 => callX (fun n => spec_l5List.f n s0_0 s0_1) fun t => κ (.own 0 0) ⟨[some (172, [.sl 5 (s0_0), .int .i64 (t.2)])], [some ⟨77, t.1, 0⟩]⟩
  | _, _, _ => none
def E_110 : Env tau := mkE [(0, [(0, .one .any)]), (1, [(0, .one .any)]), (2, [(0, .one .any), (3, .one (.own 77))]), (3, [(0, .one .any), (3, .one (.own 77)), (4, .one .any)]), (4, [(0, .one .any), (3, .one (.own 77)), (4, .one .any), (5, .one .any)]), (5, [(0, .one .any), (3, .one (.own 77)), (4, .one .any), (5, .one .any)]), (6, [(0, .one .any), (3, .one (.own 77)), (4, .one .any), (5, .one .any)]), (7, [(0, .one .any), (3, .one (.own 77)), (4, .one .any), (5, .one .any), (6, .one .any)]), (8, [(0, .one .any), (3, .one (.own 77)), (4, .one .any), (5, .one .any), (6, .one .any)]), (9, [(0, .one .any), (3, .one (.own 77)), (4, .one .any), (5, .one .any), (6, .one .any)]), (10, [(0, .one .any), (3, .one (.own 77)), (4, .one .any), (5, .one .any), (7, .one .any)]), (11, [(0, .one .any), (3, .one (.own 77))]), (12, [(3, .one (.own 77))]), (13, [(3, .one (.own 77))]), (14, [(3, .one (.own 77))])] [.one (.own 77)] ⟨1, 0⟩
noncomputable def c_43 (args : List (AV tau)) (m : Mem tau) (κ : AV tau → Mem tau → Option Unit) : Option Unit := match args, m.bx, m.rw with
  | [b0], [], [] => bO (asSl 5 b0) fun l0 => callX (fun n => spec_DrawCertFold.f n l0) fun t => κ (.own 0 0) ⟨[], [some ⟨77, t, 0⟩]⟩
  | _, _, _ => none
def E_43 : Env tau := mkE [(0, [(0, .one (.own 5))]), (1, [(0, .one (.own 5))])] [.one (.own 77)] ⟨0, 0⟩
noncomputable def c_80 (args : List (AV tau)) (m : Mem tau) (κ : AV tau → Mem tau → Option Unit) : Option Unit := match args, m.bx, m.rw with
  | [b0, b1], [], [] => bO (asSl 39 b0) fun l0 => bO (asSl 39 b1) fun l1 => callX (fun n => impl_same_impl_Read.f n l0 l1) fun t => κ (.bool (t)) ⟨[], []⟩
  | _, _, _ => none
def E_80 : Env tau := mkE [(0, [(0, .one (.own 39)), (1, .one (.own 39))]), (1, [(0, .one (.own 39)), (1, .one (.own 39))]), (2, []), (3, [(0, .one (.own 39)), (1, .one (.own 39))]), (4, [(0, .one (.own 39)), (1, .one (.own 39)), (12, .one .any), (13, .one .any)]), (5, [(0, .one (.own 39)), (1, .one (.own 39)), (12, .one .any), (13, .one .any)]), (6, [(0, .one (.own 39)), (1, .one (.own 39)), (5, .one .any), (12, .one .any), (13, .one .any)]), (7, []), (8, [(0, .one (.own 39)), (1, .one (.own 39)), (12, .one .any), (13, .one .any)]), (9, [])] [.one .any] ⟨0, 0⟩
noncomputable def c_81 (args : List (AV tau)) (m : Mem tau) (κ : AV tau → Mem tau → Option Unit) : Option Unit := match args, m.bx, m.rw with
  | [b0, b1], [], [] => bO (asSl 82 b0) fun l0 => bO (asSl 82 b1) fun l1 => callX (fun n => impl_same_impl_Put.f n l0 l1) fun t => κ (.bool (t)) ⟨[], []⟩
  | _, _, _ => none
def E_81 : Env tau := mkE [(0, [(0, .one (.own 82)), (1, .one (.own 82))]), (1, [(0, .one (.own 82)), (1, .one (.own 82))]), (2, []), (3, [(0, .one (.own 82)), (1, .one (.own 82))]), (4, [(0, .one (.own 82)), (1, .one (.own 82)), (12, .one .any), (13, .one .any)]), (5, [(0, .one (.own 82)), (1, .one (.own 82)), (12, .one .any), (13, .one .any)]), (6, [(0, .one (.own 82)), (1, .one (.own 82)), (5, .one .any), (12, .one .any), (13, .one .any)]), (7, []), (8, [(0, .one (.own 82)), (1, .one (.own 82)), (12, .one .any), (13, .one .any)]), (9, [])] [.one .any] ⟨0, 0⟩
noncomputable def c_18 (args : List (AV tau)) (m : Mem tau) (κ : AV tau → Mem tau → Option Unit) : Option Unit := match args, m.bx, m.rw with
  | [.agg [b0, b1, b2, b3], .agg [b4, b5, b6, b7]], [], [] => bO (asSl 39 b0) fun l0_0 => bO (asSl 82 b1) fun l0_1 => bO (asI .i64 b2) fun a0_2 => bO (asI .i64 b3) fun a0_3 => bO (asSl 39 b4) fun l1_0 => bO (asSl 82 b5) fun l1_1 => bO (asI .i64 b6) fun a1_2 => bO (asI .i64 b7) fun a1_3 => callX (fun n => impl_ExecSame.f n l0_0 l0_1 a0_2 a0_3 l1_0 l1_1 a1_2 a1_3) fun t => κ (.bool (t)) ⟨[], []⟩
  | _, _, _ => none
def E_18 : Env tau := mkE [(0, [(0, .agg [.own 39, .own 82, .any, .any]), (1, .agg [.own 39, .own 82, .any, .any])]), (1, [(2, .one .any), (3, .one .any)])] [.one .any] ⟨0, 0⟩
noncomputable def c_57 (args : List (AV tau)) (m : Mem tau) (κ : AV tau → Mem tau → Option Unit) : Option Unit := match args, m.bx, m.rw with
  | [.agg [b0, b1, b2, b3, b4, b5, b6], .agg [b7, b8, b9, b10, b11, b12, b13]], [], [] => bO (asB b0) fun a0_0 => bO (asI .i64 b1) fun a0_1 => bO (asI .i64 b2) fun a0_2 => bO (asSl 39 b3) fun l0_3 => bO (asSl 82 b4) fun l0_4 => bO (asI .i64 b5) fun a0_5 => bO (asI .i64 b6) fun a0_6 => bO (asB b7) fun a1_0 => bO (asI .i64 b8) fun a1_1 => bO (asI .i64 b9) fun a1_2 => bO (asSl 39 b10) fun l1_3 => bO (asSl 82 b11) fun l1_4 => bO (asI .i64 b12) fun a1_5 => bO (asI .i64 b13) fun a1_6 => callX (fun n => impl_CertLike.f n a0_0 a0_1 a0_2 l0_3 l0_4 a0_5 a0_6 a1_0 a1_1 a1_2 l1_3 l1_4 a1_5 a1_6) fun t => κ (.bool (t)) ⟨[], []⟩
  | _, _, _ => none
def E_57 : Env tau := mkE [(0, [(0, .agg [.any, .any, .any, .own 39, .own 82, .any, .any]), (1, .agg [.any, .any, .any, .own 39, .own 82, .any, .any])]), (1, [(2, .one .any), (3, .one .any)])] [.one .any] ⟨0, 0⟩
noncomputable def c_122 (args : List (AV tau)) (m : Mem tau) (κ : AV tau → Mem tau → Option Unit) : Option Unit := match args, m.bx, m.rw with
  | [b0, b1, b2], [], [] => bO (asI .i64 b0) fun a0 => bO (asI .i64 b1) fun a1 => bO (asI .i64 b2) fun a2 => callX (fun n => impl_in.f a0 a1 a2) fun t => κ (.bool (t)) ⟨[], []⟩
  | _, _, _ => none
def E_122 : Env tau := mkE [(0, [(0, .one .any), (1, .one .any), (2, .one .any)]), (1, [(0, .one .any), (1, .one .any), (2, .one .any)])] [.one .any] ⟨0, 0⟩
noncomputable def c_83 (args : List (AV tau)) (m : Mem tau) (κ : AV tau → Mem tau → Option Unit) : Option Unit := match args, m.bx, m.rw with
  | [.agg [b0, b1, b2, b3]], [], [] => bO (asSl 39 b0) fun l0_0 => bO (asSl 82 b1) fun l0_1 => bO (asI .i64 b2) fun a0_2 => bO (asI .i64 b3) fun a0_3 => callX (fun n => impl_ExecOk.f n l0_0 l0_1 a0_2 a0_3) fun t => κ (.bool (t)) ⟨[], []⟩
  | _, _, _ => none
def E_83 : Env tau := mkE [(0, [(0, .agg [.own 39, .own 82, .any, .any])]), (1, [(1, .one .any)]), (2, []), (3, [(1, .one .any)]), (4, [(1, .one .any), (3, .one .any), (4, .one .any)]), (5, [(1, .one .any), (3, .one .any), (4, .one .any), (47, .one (.own 39)), (48, .one .any), (49, .one .any)]), (6, [(1, .one .any), (3, .one .any), (4, .one .any), (47, .one (.own 39)), (48, .one .any), (49, .one .any)]), (7, [(1, .one .any), (3, .one .any), (4, .one .any), (6, .one .any), (47, .one (.own 39)), (48, .one .any), (49, .one .any)]), (8, []), (9, [(1, .one .any), (3, .one .any), (4, .one .any), (6, .one .any), (47, .one (.own 39)), (48, .one .any), (49, .one .any)]), (10, [(1, .one .any), (3, .one .any), (4, .one .any), (47, .one (.own 39)), (48, .one .any), (49, .one .any)]), (11, [(1, .one .any), (4, .one .any)]), (12, [(4, .one .any), (74, .one (.own 82)), (75, .one .any), (76, .one .any)]), (13, [(4, .one .any), (74, .one (.own 82)), (75, .one .any), (76, .one .any)]), (14, [(4, .one .any), (8, .one .any), (74, .one (.own 82)), (75, .one .any), (76, .one .any)]), (15, []), (16, [(4, .one .any), (8, .one .any), (74, .one (.own 82)), (75, .one .any), (76, .one .any)]), (17, [(4, .one .any), (74, .one (.own 82)), (75, .one .any), (76, .one .any)]), (18, [])] [.one .any] ⟨0, 0⟩
noncomputable def c_121 (args : List (AV tau)) (m : Mem tau) (κ : AV tau → Mem tau → Option Unit) : Option Unit := match args, m.bx, m.rw with
  | [.agg [b0, b1]], [], [] => bO (asI .i64 b0) fun a0_0 => bO (asI .i64 b1) fun a0_1 => callX (fun n => impl_reqOk.f a0_0 a0_1) fun t => κ (.bool (t)) ⟨[], []⟩
  | _, _, _ => none
def E_121 : Env tau := mkE [(0, [(0, .agg [.any, .any])]), (1, [(1, .one .any)])] [.one .any] ⟨0, 0⟩
noncomputable def c_52 (args : List (AV tau)) (m : Mem tau) (κ : AV tau → Mem tau → Option Unit) : Option Unit := match args, m.bx, m.rw with
  | [.agg [b0, b1, b2, b3, b4, b5, b6]], [], [] => bO (asB b0) fun a0_0 => bO (asI .i64 b1) fun a0_1 => bO (asI .i64 b2) fun a0_2 => bO (asSl 39 b3) fun l0_3 => bO (asSl 82 b4) fun l0_4 => bO (asI .i64 b5) fun a0_5 => bO (asI .i64 b6) fun a0_6 => callX (fun n => impl_CertEntry.f n a0_0 a0_1 a0_2 l0_3 l0_4 a0_5 a0_6) fun t => κ (.bool (t)) ⟨[], []⟩
  | _, _, _ => none
def E_52 : Env tau := mkE [(0, [(0, .agg [.any, .any, .any, .own 39, .own 82, .any, .any])]), (1, [(1, .one .any)]), (2, [(1, .one .any)]), (3, [(1, .one .any)])] [.one .any] ⟨0, 0⟩
noncomputable def c_111 (args : List (AV tau)) (m : Mem tau) (κ : AV tau → Mem tau → Option Unit) : Option Unit := match args, m.bx, m.rw with
  | [b0], [], [] => bO (asSl 77 b0) fun l0 => callX (fun n => impl_listOk.f n l0) fun t => κ (.bool (t)) ⟨[], []⟩
  | _, _, _ => none
def E_111 : Env tau := mkE [(0, [(0, .one (.own 77))]), (1, [(0, .one (.own 77))]), (2, [(0, .one (.own 77)), (5, .one (.own 77)), (6, .one .any), (7, .one .any)]), (3, [(0, .one (.own 77)), (5, .one (.own 77)), (6, .one .any), (7, .one .any)]), (4, [(0, .one (.own 77)), (4, .one .any), (5, .one (.own 77)), (6, .one .any), (7, .one .any)]), (5, []), (6, [(0, .one (.own 77)), (5, .one (.own 77)), (6, .one .any), (7, .one .any)]), (7, [(0, .one (.own 77))])] [.one .any] ⟨0, 0⟩
noncomputable def c_82 (args : List (AV tau)) (m : Mem tau) (κ : AV tau → Mem tau → Option Unit) : Option Unit := match args, m.bx, m.rw with
  | [b0], [], [] => bO (asSl 37 b0) fun l0 => callX (fun n => impl_BoxOk.f n l0) fun t => κ (.bool (t)) ⟨[], []⟩
  | _, _, _ => none
def E_82 : Env tau := mkE [(0, [(0, .one (.own 37))]), (1, [(0, .one (.own 37))]), (2, [(0, .one (.own 37)), (5, .one (.own 37)), (6, .one .any), (7, .one .any)]), (3, [(0, .one (.own 37)), (5, .one (.own 37)), (6, .one .any), (7, .one .any)]), (4, [(0, .one (.own 37)), (4, .one .any), (5, .one (.own 37)), (6, .one .any), (7, .one .any)]), (5, []), (6, [(0, .one (.own 37)), (5, .one (.own 37)), (6, .one .any), (7, .one .any)]), (7, [(0, .one (.own 37))])] [.one .any] ⟨0, 0⟩
noncomputable def c_20 (args : List (AV tau)) (m : Mem tau) (κ : AV tau → Mem tau → Option Unit) : Option Unit := match args, m.bx, m.rw with
  | [b0, .agg [b1, b2, b3, b4]], [], [] => bO (asSl 37 b0) fun l0 => bO (asSl 39 b1) fun l1_0 => bO (asSl 82 b2) fun l1_1 => bO (asI .i64 b3) fun a1_2 => bO (asI .i64 b4) fun a1_3 => callX (fun n => impl_ExecFresh.f n l0 l1_0 l1_1 a1_2 a1_3) fun t => κ (.bool (t)) ⟨[], []⟩
  | _, _, _ => none
def E_20 : Env tau := mkE [(0, [(0, .one (.own 37)), (1, .agg [.own 39, .own 82, .any, .any])]), (1, [(0, .one (.own 37)), (3, .one .any)]), (2, []), (3, [(0, .one (.own 37)), (3, .one .any)]), (4, [(0, .one (.own 37)), (16, .one (.own 39)), (17, .one .any), (18, .one .any)]), (5, [(0, .one (.own 37)), (16, .one (.own 39)), (17, .one .any), (18, .one .any)]), (6, [(0, .one (.own 37)), (6, .one .any), (16, .one (.own 39)), (17, .one .any), (18, .one .any)]), (7, []), (8, [(0, .one (.own 37)), (16, .one (.own 39)), (17, .one .any), (18, .one .any)]), (9, [])] [.one .any] ⟨0, 0⟩
noncomputable def c_50 (args : List (AV tau)) (m : Mem tau) (κ : AV tau → Mem tau → Option Unit) : Option Unit := match args, m.bx, m.rw with
  | [.agg [b0, b1, b2]], [], [] => bO (asI .i64 b0) fun a0_0 => bO (asSl 37 b1) fun l0_1 => bO (asSl 84 b2) fun l0_2 => callX (fun n => impl_CertOk.f n a0_0 l0_1 l0_2) fun t => κ (.bool (t)) ⟨[], []⟩
  | _, _, _ => none
def E_50 : Env tau := mkE [(0, [(0, .agg [.any, .own 37, .own 84])]), (1, [(1, .one .any)]), (2, [(1, .one .any), (6, .one (.own 84)), (7, .one .any), (8, .one .any)]), (3, [(1, .one .any), (6, .one (.own 84)), (7, .one .any), (8, .one .any)]), (4, [(1, .one .any), (3, .one .any), (4, .one .any), (6, .one (.own 84)), (7, .one .any), (8, .one .any)]), (5, []), (6, [(1, .one .any), (6, .one (.own 84)), (7, .one .any), (8, .one .any)]), (7, [(1, .one .any)])] [.one .any] ⟨0, 0⟩
noncomputable def c_93 (args : List (AV tau)) (m : Mem tau) (κ : AV tau → Mem tau → Option Unit) : Option Unit := match args, m.bx, m.rw with
  | [b0], [], [] => bO (asSl 37 b0) fun l0 => callX (fun n => impl_copied_impl_Box.f l0) fun t => κ (.own 0 0) ⟨[], [some ⟨37, t, 0⟩]⟩
  | _, _, _ => none
def E_93 : Env tau := mkE [(0, [(0, .one (.own 37))]), (1, [(0, .one (.own 37))]), (2, []), (3, [(0, .one (.own 37))]), (4, [(0, .one (.own 37)), (3, .one (.own 37))]), (5, [(3, .one (.own 37))])] [.one (.own 37)] ⟨0, 0⟩
noncomputable def c_116 (args : List (AV tau)) (m : Mem tau) (κ : AV tau → Mem tau → Option Unit) : Option Unit := match args, m.bx, m.rw with
  | [b0], [], [] => bO (asSl 84 b0) fun l0 => callX (fun n => impl_copied_impl_Done.f l0) fun t => κ (.own 0 0) ⟨[], [some ⟨84, t, 0⟩]⟩
  | _, _, _ => none
def E_116 : Env tau := mkE [(0, [(0, .one (.own 84))]), (1, [(0, .one (.own 84))]), (2, []), (3, [(0, .one (.own 84))]), (4, [(0, .one (.own 84)), (3, .one (.own 84))]), (5, [(3, .one (.own 84))])] [.one (.own 84)] ⟨0, 0⟩
noncomputable def c_117 (args : List (AV tau)) (m : Mem tau) (κ : AV tau → Mem tau → Option Unit) : Option Unit := match args, m.bx, m.rw with
  | [b0, .agg [b1, b2, b3, b4]], [], [] => bO (asSl 37 b0) fun l0 => bO (asSl 39 b1) fun l1_0 => bO (asSl 82 b2) fun l1_1 => bO (asI .i64 b3) fun a1_2 => bO (asI .i64 b4) fun a1_3 => callX (fun n => impl_ExecDo.f n l0 l1_0 l1_1 a1_2 a1_3) fun t => κ (.own 0 0) ⟨[], [some ⟨37, t, 0⟩]⟩
  | _, _, _ => none
def E_117 : Env tau := mkE [(0, [(0, .one (.own 37)), (1, .agg [.own 39, .own 82, .any, .any])]), (1, [(0, .one (.own 37)), (3, .one .any)]), (2, []), (3, [(0, .one (.own 37)), (3, .one .any)]), (4, [(3, .one .any), (5, .one (.own 37))]), (5, [(5, .one (.own 37)), (19, .one (.own 82)), (20, .one .any), (21, .one .any)]), (6, [(5, .one (.own 37)), (19, .one (.own 82)), (20, .one .any), (21, .one .any)]), (7, [(5, .one (.own 37)), (7, .one .any), (19, .one (.own 82)), (20, .one .any), (21, .one .any)]), (8, [(5, .one (.own 37)), (19, .one (.own 82)), (20, .one .any), (21, .one .any)]), (9, [(5, .one (.own 37))])] [.one (.own 37)] ⟨0, 0⟩
noncomputable def c_47 (args : List (AV tau)) (m : Mem tau) (κ : AV tau → Mem tau → Option Unit) : Option Unit := match args, m.bx, m.rw with
  | [.agg [b0, b1, b2], .agg [b3, b4, b5, b6, b7, b8, b9]], [], [] => bO (asI .i64 b0) fun a0_0 => bO (asSl 37 b1) fun l0_1 => bO (asSl 84 b2) fun l0_2 => bO (asB b3) fun a1_0 => bO (asI .i64 b4) fun a1_1 => bO (asI .i64 b5) fun a1_2 => bO (asSl 39 b6) fun l1_3 => bO (asSl 82 b7) fun l1_4 => bO (asI .i64 b8) fun a1_5 => bO (asI .i64 b9) fun a1_6 => callX (fun n => impl_CertApply.f n a0_0 l0_1 l0_2 a1_0 a1_1 a1_2 l1_3 l1_4 a1_5 a1_6) fun t => κ (.tup [.agg [.int .i64 (t.1), .own 0 0, .own 1 0], .int .i64 (t.2.2.2)]) ⟨[], [some ⟨37, t.2.1, 0⟩, some ⟨84, t.2.2.1, 0⟩]⟩
  | _, _, _ => none
def E_47 : Env tau := mkE [(0, [(0, .agg [.any, .own 37, .own 84]), (1, .agg [.any, .any, .any, .own 39, .own 82, .any, .any])]), (1, [(2, .one .any), (3, .one .any), (4, .one .any)]), (2, [(4, .one .any)]), (3, [(2, .one .any), (3, .one .any), (4, .one .any)]), (4, [(2, .one .any), (3, .one .any), (4, .one .any), (6, .one .any)]), (5, [(2, .one .any), (4, .one .any), (6, .one .any)]), (6, [(4, .one .any), (6, .one .any)]), (7, [(2, .one .any), (3, .one .any), (4, .one .any), (6, .one .any)]), (8, [(2, .one .any), (3, .one .any), (4, .one .any), (6, .one .any), (43, .one (.own 84)), (44, .one .any), (45, .one .any)]), (9, [(2, .one .any), (3, .one .any), (4, .one .any), (6, .one .any), (43, .one (.own 84)), (44, .one .any), (45, .one .any)]), (10, [(2, .one .any), (3, .one .any), (4, .one .any), (6, .one .any), (8, .one .any), (43, .one (.own 84)), (44, .one .any), (45, .one .any)]), (11, [(2, .one .any), (3, .one .any), (4, .one .any), (6, .one .any), (8, .one .any)]), (12, [(3, .one .any), (4, .one .any), (6, .one .any), (8, .one .any)]), (13, [(4, .one .any), (6, .one .any)]), (14, [(4, .one .any), (6, .one .any)]), (15, [(2, .one .any), (3, .one .any), (4, .one .any), (6, .one .any), (43, .one (.own 84)), (44, .one .any), (45, .one .any)]), (16, [(2, .one .any), (3, .one .any), (4, .one .any), (6, .one .any)]), (17, [(2, .one .any), (3, .one .any), (4, .one .any), (6, .one .any), (9, .one .any)]), (18, [(2, .one .any), (3, .one .any), (4, .one .any), (6, .one .any), (9, .one .any)]), (19, [(2, .one .any), (3, .one .any), (4, .one .any), (6, .one .any), (9, .one .any)]), (20, [(2, .one .any), (4, .one .any), (6, .one .any), (9, .one .any)]), (21, [(2, .one .any), (3, .one .any), (4, .one .any), (6, .one .any), (9, .one .any)]), (22, [(2, .one .any), (4, .one .any), (6, .one .any), (9, .one .any)]), (23, [(2, .one .any), (4, .one .any), (6, .one .any), (9, .one .any)]), (24, [(2, .one .any), (4, .one .any), (6, .one .any), (9, .one .any), (10, .one (.own 84))]), (25, [(2, .one .any), (4, .one .any), (6, .one .any), (9, .one .any), (10, .one (.own 84)), (11, .one .any)]), (26, [(4, .one .any), (6, .one .any), (9, .one .any), (10, .one (.own 84)), (11, .one .any), (107, .one (.own 84)), (108, .one .any), (109, .one .any)]), (27, [(4, .one .any), (6, .one .any), (9, .one .any), (10, .one (.own 84)), (11, .one .any), (107, .one (.own 84)), (108, .one .any), (109, .one .any)]), (28, [(4, .one .any), (6, .one .any), (9, .one .any), (10, .one (.own 84)), (11, .one .any), (13, .one .any), (107, .one (.own 84)), (108, .one .any), (109, .one .any)]), (29, [(4, .one .any), (6, .one .any), (9, .one .any), (10, .one (.own 84)), (13, .one .any), (107, .one (.own 84)), (108, .one .any), (109, .one .any)]), (30, [(4, .one .any), (6, .one .any), (9, .one .any), (10, .one (.own 84)), (13, .one .any), (107, .one (.own 84)), (108, .one .any), (109, .one .any)]), (31, [(4, .one .any), (6, .one .any), (9, .one .any), (10, .one (.own 84)), (11, .one .any), (13, .one .any), (107, .one (.own 84)), (108, .one .any), (109, .one .any)]), (32, [(4, .one .any), (6, .one .any), (9, .one .any), (10, .one (.own 84)), (11, .one .any), (13, .one .any), (107, .one (.own 84)), (108, .one .any), (109, .one .any)]), (33, [(4, .one .any), (6, .one .any), (9, .one .any), (10, .one (.own 84)), (11, .one .any), (107, .one (.own 84)), (108, .one .any), (109, .one .any)]), (34, [(4, .one .any), (6, .one .any), (9, .one .any), (10, .one (.own 84)), (11, .one .any)]), (35, [(4, .one .any), (6, .one .any), (9, .one .any), (10, .one (.own 84))]), (36, [(4, .one .any), (6, .one .any), (9, .one .any), (10, .one (.own 84))]), (37, [(4, .one .any), (6, .one .any), (9, .one .any)])] [.agg [.any, .own 37, .own 84], .one .any] ⟨0, 0⟩
noncomputable def c_125 (args : List (AV tau)) (m : Mem tau) (κ : AV tau → Mem tau → Option Unit) : Option Unit := match args, m.bx, m.rw with
  | [], [], [] => callX (fun n => impl_BoxOpen.f) fun t => κ (.own 0 0) ⟨[], [some ⟨37, t, 0⟩]⟩
  | _, _, _ => none
def E_125 : Env tau := mkE [(0, []), (1, [])] [.one (.own 37)] ⟨0, 0⟩
noncomputable def c_60 (args : List (AV tau)) (m : Mem tau) (κ : AV tau → Mem tau → Option Unit) : Option Unit := match args, m.bx, m.rw with
  | [], [], [] => callX (fun n => impl_CertOpen.f) fun t => κ (.agg [.int .i64 (t.1), .own 0 0, .own 1 0]) ⟨[], [some ⟨37, t.2.1, 0⟩, some ⟨84, t.2.2, 0⟩]⟩
  | _, _, _ => none
def E_60 : Env tau := mkE [(0, []), (1, [(0, .one .any)])] [.agg [.any, .own 37, .own 84]] ⟨0, 0⟩
noncomputable def c_112 (args : List (AV tau)) (m : Mem tau) (κ : AV tau → Mem tau → Option Unit) : Option Unit := match args, m.bx, m.rw with
  | [b0], [], [] => bO (asSl 77 b0) fun l0 => callX (fun n => impl_folded.f n l0) fun t => κ (.tup [.agg [.int .i64 (t.1), .own 0 0, .own 1 0], .own 2 0]) ⟨[], [some ⟨37, t.2.1, 0⟩, some ⟨84, t.2.2.1, 0⟩, some ⟨3, t.2.2.2, 0⟩]⟩
  | _, _, _ => none
def E_112 : Env tau := mkE [(0, [(0, .one (.own 77))]), (1, [(0, .one (.own 77)), (2, .one .any)]), (2, [(0, .one (.own 77)), (2, .one .any), (4, .one .any)]), (3, [(0, .one (.own 77)), (2, .one .any), (4, .one .any), (5, .one (.own 3))]), (4, [(2, .one .any), (4, .one .any), (5, .one (.own 3)), (11, .one (.own 77)), (12, .one .any), (13, .one .any)]), (5, [(2, .one .any), (4, .one .any), (5, .one (.own 3)), (11, .one (.own 77)), (12, .one .any), (13, .one .any)]), (6, [(2, .one .any), (4, .one .any), (5, .one (.own 3)), (7, .one .any), (11, .one (.own 77)), (12, .one .any), (13, .one .any)]), (7, [(2, .one .any), (4, .one .any), (5, .one (.own 3)), (8, .one .any), (9, .one .any), (11, .one (.own 77)), (12, .one .any), (13, .one .any)]), (8, [(2, .one .any), (4, .one .any), (5, .one (.own 3)), (9, .one .any), (11, .one (.own 77)), (12, .one .any), (13, .one .any)]), (9, [(2, .one .any), (4, .one .any), (5, .one (.own 3)), (11, .one (.own 77)), (12, .one .any), (13, .one .any)]), (10, [(2, .one .any), (4, .one .any), (5, .one (.own 3))])] [.agg [.any, .own 37, .own 84], .one (.own 3)] ⟨0, 0⟩
noncomputable def c_44 (args : List (AV tau)) (m : Mem tau) (κ : AV tau → Mem tau → Option Unit) : Option Unit := match args, m.bx, m.rw with
  | [b0], [], [] => bO (asSl 77 b0) fun l0 => callX (fun n => impl_CertFold.f n l0) fun t => κ (.agg [.int .i64 (t.1), .own 0 0, .own 1 0]) ⟨[], [some ⟨37, t.2.1, 0⟩, some ⟨84, t.2.2, 0⟩]⟩
  | _, _, _ => none
def E_44 : Env tau := mkE [(0, [(0, .one (.own 77))]), (1, [(0, .one (.own 77)), (2, .one .any)]), (2, [(2, .one .any)]), (3, [(0, .one (.own 77)), (2, .one .any)]), (4, [(2, .one .any), (3, .one .any)])] [.agg [.any, .own 37, .own 84]] ⟨0, 0⟩
noncomputable def c_113 (args : List (AV tau)) (m : Mem tau) (κ : AV tau → Mem tau → Option Unit) : Option Unit := match args, m.bx, m.rw with
  | [b0, b1], [], [] => bO (asSl 84 b0) fun l0 => bO (asSl 84 b1) fun l1 => callX (fun n => impl_same_impl_Done.f n l0 l1) fun t => κ (.bool (t)) ⟨[], []⟩
  | _, _, _ => none
def E_113 : Env tau := mkE [(0, [(0, .one (.own 84)), (1, .one (.own 84))]), (1, [(0, .one (.own 84)), (1, .one (.own 84))]), (2, []), (3, [(0, .one (.own 84)), (1, .one (.own 84))]), (4, [(0, .one (.own 84)), (1, .one (.own 84)), (12, .one .any), (13, .one .any)]), (5, [(0, .one (.own 84)), (1, .one (.own 84)), (12, .one .any), (13, .one .any)]), (6, [(0, .one (.own 84)), (1, .one (.own 84)), (5, .one .any), (12, .one .any), (13, .one .any)]), (7, []), (8, [(0, .one (.own 84)), (1, .one (.own 84)), (12, .one .any), (13, .one .any)]), (9, [])] [.one .any] ⟨0, 0⟩
noncomputable def c_45 (args : List (AV tau)) (m : Mem tau) (κ : AV tau → Mem tau → Option Unit) : Option Unit := match args, m.bx, m.rw with
  | [.agg [b0, b1, b2], .agg [b3, b4, b5]], [], [] => bO (asI .i64 b0) fun a0_0 => bO (asSl 37 b1) fun l0_1 => bO (asSl 84 b2) fun l0_2 => bO (asI .i64 b3) fun a1_0 => bO (asSl 37 b4) fun l1_1 => bO (asSl 84 b5) fun l1_2 => callX (fun n => impl_CertSame.f n a0_0 l0_1 l0_2 a1_0 l1_1 l1_2) fun t => κ (.bool (t)) ⟨[], []⟩
  | _, _, _ => none
def E_45 : Env tau := mkE [(0, [(0, .agg [.any, .own 37, .own 84]), (1, .agg [.any, .own 37, .own 84])]), (1, [(2, .one .any), (3, .one .any)])] [.one .any] ⟨0, 0⟩
noncomputable def c_46 (args : List (AV tau)) (m : Mem tau) (κ : AV tau → Mem tau → Option Unit) : Option Unit := match args, m.bx, m.rw with
  | [b0], [], [] => bO (asSl 77 b0) fun l0 => callX (fun n => spec_CertFold.f n l0) fun t => κ (.agg [.int .i64 (t.1), .own 0 0, .own 1 0]) ⟨[], [some ⟨37, t.2.1, 0⟩, some ⟨84, t.2.2, 0⟩]⟩
  | _, _, _ => none
def E_46 : Env tau := mkE [(0, [(0, .one (.own 77))]), (1, [(0, .one (.own 77)), (2, .one .any)]), (2, [(0, .one (.own 77)), (2, .one .any), (3, .one .any)]), (3, [(2, .one .any)]), (4, [(0, .one (.own 77)), (2, .one .any), (3, .one .any)]), (5, [(0, .one (.own 77)), (2, .one .any), (3, .one .any), (4, .one .any)]), (6, [(0, .one (.own 77)), (2, .one .any), (3, .one .any), (4, .one .any)]), (7, [(0, .one (.own 77)), (2, .one .any), (3, .one .any), (4, .one .any)]), (8, [(2, .one .any)]), (9, [(0, .one (.own 77)), (2, .one .any), (3, .one .any), (4, .one .any)]), (10, [(0, .one (.own 77)), (2, .one .any), (3, .one .any), (4, .one .any), (5, .one .any)]), (11, [(2, .one .any), (3, .one .any)])] [.agg [.any, .own 37, .own 84]] ⟨0, 0⟩
noncomputable def c_168 (args : List (AV tau)) (m : Mem tau) (κ : AV tau → Mem tau → Option Unit) : Option Unit := match args, m.bx, m.rw with
  | [b0], [], [] => bO (asI .i64 b0) fun a0 => callX (fun n => impl_insOk_1.f a0) fun t => κ (.bool (t)) ⟨[], []⟩
  | _, _, _ => none
def E_168 : Env tau := mkE [(0, [(0, .one .any)]), (1, [(0, .one .any)])] [.one .any] ⟨0, 0⟩
noncomputable def c_169 (args : List (AV tau)) (m : Mem tau) (κ : AV tau → Mem tau → Option Unit) : Option Unit := match args, m.bx, m.rw with
  | [b0], [], [] => bO (asI .i64 b0) fun a0 => callX (fun n => impl_insOk_2.f a0) fun t => κ (.bool (t)) ⟨[], []⟩
  | _, _, _ => none
def E_169 : Env tau := mkE [(0, [(0, .one .any)]), (1, [(0, .one .any)])] [.one .any] ⟨0, 0⟩
noncomputable def c_151 (args : List (AV tau)) (m : Mem tau) (κ : AV tau → Mem tau → Option Unit) : Option Unit := match args, m.bx, m.rw with
  | [.agg [b0, b1, b2, b3]], [], [] => bO (asI .i64 b0) fun a0_0 => bO (asI .i64 b1) fun a0_1 => bO (asI .i64 b2) fun a0_2 => bO (asI .i64 b3) fun a0_3 => callX (fun n => impl_insOk.f n a0_0 a0_1 a0_2 a0_3) fun t => κ (.bool (t)) ⟨[], []⟩
  | _, _, _ => none
def E_151 : Env tau := mkE [(0, [(0, .agg [.any, .any, .any, .any])]), (1, [(1, .one .any)]), (2, [(1, .one .any), (3, .one .any)]), (3, [(1, .one .any), (3, .one .any), (4, .one .any)]), (4, [(1, .one .any), (3, .one .any), (4, .one .any), (6, .one .any)]), (5, [(1, .one .any), (3, .one .any), (4, .one .any)]), (6, [(1, .one .any), (3, .one .any), (4, .one .any), (6, .one .any)]), (7, [(1, .one .any), (3, .one .any), (4, .one .any)]), (8, [(1, .one .any), (3, .one .any), (6, .one .any)]), (9, [(1, .one .any), (3, .one .any)]), (10, [(1, .one .any), (3, .one .any), (6, .one .any)]), (11, [(1, .one .any), (3, .one .any), (6, .one .any)]), (12, [(1, .one .any), (3, .one .any)]), (13, [(1, .one .any), (3, .one .any), (6, .one .any)]), (14, [(1, .one .any), (3, .one .any)]), (15, [(1, .one .any), (6, .one .any)]), (16, [(1, .one .any)]), (17, [])] [.one .any] ⟨0, 0⟩
noncomputable def c_102 (args : List (AV tau)) (m : Mem tau) (κ : AV tau → Mem tau → Option Unit) : Option Unit := match args, m.bx, m.rw with
  | [b0], [], [] => bO (asSl 95 b0) fun l0 => callX (fun n => impl_ProgOk.f n l0) fun t => κ (.bool (t)) ⟨[], []⟩
  | _, _, _ => none
def E_102 : Env tau := mkE [(0, [(0, .one (.own 95))]), (1, [(0, .one (.own 95))]), (2, [(0, .one (.own 95)), (5, .one (.own 95)), (6, .one .any), (7, .one .any)]), (3, [(0, .one (.own 95)), (5, .one (.own 95)), (6, .one .any), (7, .one .any)]), (4, [(0, .one (.own 95)), (4, .one .any), (5, .one (.own 95)), (6, .one .any), (7, .one .any)]), (5, []), (6, [(0, .one (.own 95)), (5, .one (.own 95)), (6, .one .any), (7, .one .any)]), (7, [(0, .one (.own 95))])] [.one .any] ⟨0, 0⟩
noncomputable def c_126 (args : List (AV tau)) (m : Mem tau) (κ : AV tau → Mem tau → Option Unit) : Option Unit := match args, m.bx, m.rw with
  | [.agg [b0, b1, b2, b3], b4], [], [] => bO (asSl 39 b0) fun l0_0 => bO (asSl 82 b1) fun l0_1 => bO (asI .i64 b2) fun a0_2 => bO (asI .i64 b3) fun a0_3 => bO (asI .i64 b4) fun a1 => callX (fun n => impl_putAt.f n l0_0 l0_1 a0_2 a0_3 a1) fun t => κ (.int .i64 (t)) ⟨[], []⟩
  | _, _, _ => none
def E_126 : Env tau := mkE [(0, [(0, .agg [.own 39, .own 82, .any, .any]), (1, .one .any)]), (1, [(1, .one .any), (2, .one .any)]), (2, [(1, .one .any), (8, .one (.own 82)), (9, .one .any), (10, .one .any)]), (3, [(1, .one .any), (8, .one (.own 82)), (9, .one .any), (10, .one .any)]), (4, [(1, .one .any), (5, .one .any), (6, .one .any), (8, .one (.own 82)), (9, .one .any), (10, .one .any)]), (5, [(5, .one .any)]), (6, [(1, .one .any), (8, .one (.own 82)), (9, .one .any), (10, .one .any)]), (7, [])] [.one .any] ⟨0, 0⟩
noncomputable def c_127 (args : List (AV tau)) (m : Mem tau) (κ : AV tau → Mem tau → Option Unit) : Option Unit := match args, m.bx, m.rw with
  | [.agg [b0, b1, b2, b3], b4], [], [] => bO (asSl 39 b0) fun l0_0 => bO (asSl 82 b1) fun l0_1 => bO (asI .i64 b2) fun a0_2 => bO (asI .i64 b3) fun a0_3 => bO (asI .i64 b4) fun a1 => callX (fun n => impl_readAt.f n l0_0 l0_1 a0_2 a0_3 a1) fun t => κ (.int .i64 (t)) ⟨[], []⟩
  | _, _, _ => none
def E_127 : Env tau := mkE [(0, [(0, .agg [.own 39, .own 82, .any, .any]), (1, .one .any)]), (1, [(1, .one .any), (2, .one .any)]), (2, [(1, .one .any), (8, .one (.own 39)), (9, .one .any), (10, .one .any)]), (3, [(1, .one .any), (8, .one (.own 39)), (9, .one .any), (10, .one .any)]), (4, [(1, .one .any), (5, .one .any), (6, .one .any), (8, .one (.own 39)), (9, .one .any), (10, .one .any)]), (5, [(5, .one .any)]), (6, [(1, .one .any), (8, .one (.own 39)), (9, .one .any), (10, .one .any)]), (7, [])] [.one .any] ⟨0, 0⟩
noncomputable def c_128 (args : List (AV tau)) (m : Mem tau) (κ : AV tau → Mem tau → Option Unit) : Option Unit := match args, m.bx, m.rw with
  | [b0], [], [] => bO (asSl 39 b0) fun l0 => callX (fun n => impl_copied_impl_Read.f l0) fun t => κ (.own 0 0) ⟨[], [some ⟨39, t, 0⟩]⟩
  | _, _, _ => none
def E_128 : Env tau := mkE [(0, [(0, .one (.own 39))]), (1, [(0, .one (.own 39))]), (2, []), (3, [(0, .one (.own 39))]), (4, [(0, .one (.own 39)), (3, .one (.own 39))]), (5, [(3, .one (.own 39))])] [.one (.own 39)] ⟨0, 0⟩
noncomputable def c_129 (args : List (AV tau)) (m : Mem tau) (κ : AV tau → Mem tau → Option Unit) : Option Unit := match args, m.bx, m.rw with
  | [b0], [], [] => bO (asSl 82 b0) fun l0 => callX (fun n => impl_copied_impl_Put.f l0) fun t => κ (.own 0 0) ⟨[], [some ⟨82, t, 0⟩]⟩
  | _, _, _ => none
def E_129 : Env tau := mkE [(0, [(0, .one (.own 82))]), (1, [(0, .one (.own 82))]), (2, []), (3, [(0, .one (.own 82))]), (4, [(0, .one (.own 82)), (3, .one (.own 82))]), (5, [(3, .one (.own 82))])] [.one (.own 82)] ⟨0, 0⟩
noncomputable def c_61 (args : List (AV tau)) (m : Mem tau) (κ : AV tau → Mem tau → Option Unit) : Option Unit := match args, m.bx, m.rw with
  | [b0, b1], [], [] => bO (asSl 37 b0) fun l0 => bO (asSl 95 b1) fun l1 => callX (fun n => impl_ExecRun.f n l0 l1) fun t => κ (.agg [.own 0 0, .own 1 0, .int .i64 (t.2.2.1), .int .i64 (t.2.2.2)]) ⟨[], [some ⟨39, t.1, 0⟩, some ⟨82, t.2.1, 0⟩]⟩
  | _, _, _ => none
def E_61 : Env tau := mkE [(0, [(0, .one (.own 37)), (1, .one (.own 95))]), (1, [(0, .one (.own 37)), (1, .one (.own 95)), (4, .one .any)]), (2, [(4, .one .any)]), (3, [(0, .one (.own 37)), (1, .one (.own 95)), (4, .one .any)]), (4, [(0, .one (.own 37)), (1, .one (.own 95)), (4, .one .any), (5, .one .any)]), (5, [(0, .one (.own 37)), (1, .one (.own 95)), (4, .one .any), (5, .one .any), (6, .one .any)]), (6, [(0, .one (.own 37)), (1, .one (.own 95)), (4, .one .any), (5, .one .any), (6, .one .any), (7, .one .any)]), (7, [(0, .one (.own 37)), (1, .one (.own 95)), (4, .one .any), (5, .one .any), (6, .one .any), (7, .one .any)]), (8, [(0, .one (.own 37)), (1, .one (.own 95)), (4, .one .any), (5, .one .any), (6, .one .any), (7, .one .any)]), (9, [(0, .one (.own 37)), (1, .one (.own 95)), (4, .one .any), (5, .one .any), (6, .one .any), (7, .one .any), (8, .one .any)]), (10, [(0, .one (.own 37)), (1, .one (.own 95)), (4, .one .any), (5, .one .any), (6, .one .any), (7, .one .any), (8, .one .any), (34, .one .any)]), (11, [(0, .one (.own 37)), (1, .one (.own 95)), (4, .one .any), (5, .one .any), (6, .one .any), (7, .one .any), (8, .one .any)]), (12, [(0, .one (.own 37)), (1, .one (.own 95)), (4, .one .any), (5, .one .any), (6, .one .any), (7, .one .any), (8, .one .any), (9, .one .any)]), (13, [(0, .one (.own 37)), (1, .one (.own 95)), (4, .one .any), (5, .one .any), (6, .one .any), (7, .one .any), (8, .one .any), (9, .one .any)]), (14, [(0, .one (.own 37)), (1, .one (.own 95)), (4, .one .any), (5, .one .any), (6, .one .any), (7, .one .any), (8, .one .any)]), (15, [(0, .one (.own 37)), (1, .one (.own 95)), (4, .one .any), (5, .one .any), (6, .one .any), (7, .one .any), (8, .one .any)]), (16, [(0, .one (.own 37)), (1, .one (.own 95)), (4, .one .any), (5, .one .any), (6, .one .any), (7, .one .any), (8, .one .any)]), (17, [(0, .one (.own 37)), (1, .one (.own 95)), (4, .one .any), (5, .one .any), (6, .one .any), (7, .one .any), (8, .one .any), (34, .one .any)]), (18, [(0, .one (.own 37)), (1, .one (.own 95)), (4, .one .any), (5, .one .any), (6, .one .any), (7, .one .any), (8, .one .any)]), (19, [(0, .one (.own 37)), (1, .one (.own 95)), (4, .one .any), (5, .one .any), (6, .one .any), (7, .one .any), (8, .one .any), (10, .one .any)]), (20, [(0, .one (.own 37)), (1, .one (.own 95)), (4, .one .any), (5, .one .any), (6, .one .any), (7, .one .any), (8, .one .any), (10, .one .any)]), (21, [(0, .one (.own 37)), (1, .one (.own 95)), (4, .one .any), (5, .one .any), (6, .one .any), (7, .one .any), (8, .one .any)]), (22, [(0, .one (.own 37)), (1, .one (.own 95)), (4, .one .any), (5, .one .any), (6, .one .any), (7, .one .any), (8, .one .any), (34, .one .any)]), (23, [(0, .one (.own 37)), (1, .one (.own 95)), (4, .one .any), (5, .one .any), (6, .one .any), (7, .one .any), (8, .one .any)]), (24, [(0, .one (.own 37)), (1, .one (.own 95)), (4, .one .any), (5, .one .any), (6, .one .any), (7, .one .any), (8, .one .any), (34, .one .any)]), (25, [(0, .one (.own 37)), (1, .one (.own 95)), (4, .one .any), (5, .one .any), (6, .one .any), (7, .one .any), (8, .one .any)]), (26, [(0, .one (.own 37)), (1, .one (.own 95)), (4, .one .any), (5, .one .any), (6, .one .any), (7, .one .any), (8, .one .any), (34, .one .any)]), (27, [(0, .one (.own 37)), (1, .one (.own 95)), (4, .one .any), (5, .one .any), (6, .one .any), (7, .one .any), (8, .one .any)]), (28, [(0, .one (.own 37)), (1, .one (.own 95)), (4, .one .any), (5, .one .any), (6, .one .any), (7, .one .any), (8, .one .any), (34, .one .any)]), (29, [(0, .one (.own 37)), (1, .one (.own 95)), (4, .one .any), (5, .one .any), (6, .one .any), (7, .one .any), (8, .one .any)]), (30, [(0, .one (.own 37)), (1, .one (.own 95)), (4, .one .any), (5, .one .any), (6, .one .any), (7, .one .any), (8, .one .any)]), (31, [(0, .one (.own 37)), (1, .one (.own 95)), (4, .one .any), (5, .one .any), (6, .one .any), (7, .one .any), (34, .one .any)]), (32, [(4, .one .any), (6, .one .any)]), (33, [(0, .one (.own 37)), (1, .one (.own 95)), (4, .one .any), (5, .one .any), (6, .one .any), (7, .one .any)]), (34, [(0, .one (.own 37)), (1, .one (.own 95)), (4, .one .any), (5, .one .any), (6, .one .any), (7, .one .any), (161, .agg [.any, .any, .any, .any]), (162, .one .any)]), (35, [(0, .one (.own 37)), (1, .one (.own 95)), (4, .one .any), (5, .one .any), (6, .one .any), (7, .one .any), (161, .agg [.any, .any, .any, .any]), (162, .one .any)]), (36, [(0, .one (.own 37)), (1, .one (.own 95)), (4, .one .any), (5, .one .any), (6, .one .any), (7, .one .any), (12, .one .any), (161, .agg [.any, .any, .any, .any]), (162, .one .any)]), (37, [(4, .one .any), (6, .one .any)]), (38, [(0, .one (.own 37)), (1, .one (.own 95)), (4, .one .any), (5, .one .any), (6, .one .any), (7, .one .any), (161, .agg [.any, .any, .any, .any]), (162, .one .any)]), (39, [(4, .one .any), (5, .one .any), (6, .one .any)])] [.agg [.own 39, .own 82, .any, .any]] ⟨0, 0⟩
noncomputable def c_98 (args : List (AV tau)) (m : Mem tau) (κ : AV tau → Mem tau → Option Unit) : Option Unit := match args, m.bx, m.rw with
  | [p0], [some (t0_, [c0_0, c0_1])], [] => bO (asPtr 0 p0) fun _ => bO (asT 172 t0_) fun _ => bO (asSl 5 c0_0) fun s0_0 => bO (asI .i64 c0_1) fun s0_1 => callX (fun n => spec_l1Boxes.f n s0_0 s0_1) fun t => κ (.own 0 0) ⟨[some (172, [.sl 5 (s0_0), .int .i64 (t.2)])], [some ⟨37, t.1, 0⟩]⟩
  | _, _, _ => none
def E_98 : Env tau := mkE [(0, [(0, .one .any)]), (1, [(0, .one .any)]), (2, [(0, .one .any), (3, .one (.own 37))]), (3, [(0, .one .any), (3, .one (.own 37)), (4, .one .any)]), (4, [(0, .one .any), (3, .one (.own 37)), (4, .one .any)]), (5, [(0, .one .any), (3, .one (.own 37)), (4, .one .any)]), (6, [(0, .one .any), (3, .one (.own 37))]), (7, [(0, .one .any), (3, .one (.own 37)), (22, .one .any)]), (8, [(3, .one (.own 37))]), (9, [(0, .one .any), (3, .one (.own 37)), (22, .one .any)]), (10, [(0, .one .any), (3, .one (.own 37))]), (11, [(0, .one .any), (3, .one (.own 37)), (22, .one .any)]), (12, [(0, .one .any), (3, .one (.own 37))]), (13, [(3, .one (.own 37))])] [.one (.own 37)] ⟨1, 0⟩
noncomputable def c_100 (args : List (AV tau)) (m : Mem tau) (κ : AV tau → Mem tau → Option Unit) : Option Unit := match args, m.bx, m.rw with
  | [p0], [some (t0_, [c0_0, c0_1])], [] => bO (asPtr 0 p0) fun _ => bO (asT 172 t0_) fun _ => bO (asSl 5 c0_0) fun s0_0 => bO (asI .i64 c0_1) fun s0_1 => callX (fun n => spec_l2Bent.f n s0_0 s0_1) fun t => κ (.own 0 0) ⟨[some (172, [.sl 5 (s0_0), .int .i64 (t.2)])], [some ⟨95, t.1, 0⟩]⟩
  | _, _, _ => none
def E_100 : Env tau := mkE [(0, [(0, .one .any)]), (1, [(0, .one .any)]), (2, [(0, .one .any), (3, .one (.own 95))]), (3, [(3, .one (.own 95))]), (4, [(0, .one .any), (3, .one (.own 95))]), (5, [(0, .one .any), (3, .one (.own 95)), (4, .one .any)]), (6, [(0, .one .any), (3, .one (.own 95)), (4, .one .any), (16, .one .any)]), (7, [(0, .one .any), (3, .one (.own 95)), (4, .one .any)]), (8, [(0, .one .any), (3, .one (.own 95)), (4, .one .any), (16, .one .any)]), (9, [(0, .one .any), (3, .one (.own 95)), (4, .one .any)]), (10, [(0, .one .any), (3, .one (.own 95)), (4, .one .any), (16, .one .any)]), (11, [(0, .one .any), (3, .one (.own 95)), (4, .one .any)]), (12, [(3, .one (.own 95)), (4, .one .any), (16, .one .any)]), (13, [(3, .one (.own 95)), (4, .one .any)]), (14, [(3, .one (.own 95)), (4, .one .any)]), (15, [(3, .one (.own 95))])] [.one (.own 95)] ⟨1, 0⟩
noncomputable def c_130 (args : List (AV tau)) (m : Mem tau) (κ : AV tau → Mem tau → Option Unit) : Option Unit := match args, m.bx, m.rw with
  | [b0], [], [] => bO (asSl 5 b0) fun l0 => callX (fun n => spec_DrawExecRun.f n l0) fun t => κ (.tup [.own 0 0, .own 1 0]) ⟨[], [some ⟨37, t.1, 0⟩, some ⟨95, t.2, 0⟩]⟩
  | _, _, _ => none
def E_130 : Env tau := mkE [(0, [(0, .one (.own 5))]), (1, [(0, .one (.own 5))]), (2, [(4, .one .any)]), (3, [(4, .one .any), (5, .one (.own 37))])] [.one (.own 37), .one (.own 95)] ⟨0, 0⟩
noncomputable def c_62 (args : List (AV tau)) (m : Mem tau) (κ : AV tau → Mem tau → Option Unit) : Option Unit := match args, m.bx, m.rw with
  | [b0], [], [] => bO (asSl 5 b0) fun l0 => callX (fun n => spec_DrawSerialOne.f n l0) fun t => κ (.tup [.own 0 0, .own 1 0]) ⟨[], [some ⟨37, t.1, 0⟩, some ⟨95, t.2, 0⟩]⟩
  | _, _, _ => none
def E_62 : Env tau := mkE [(0, [(0, .one (.own 5))]), (1, [(0, .one (.own 5))])] [.one (.own 37), .one (.own 95)] ⟨0, 0⟩
noncomputable def c_63 (args : List (AV tau)) (m : Mem tau) (κ : AV tau → Mem tau → Option Unit) : Option Unit := match args, m.bx, m.rw with
  | [b0, b1], [], [] => bO (asSl 37 b0) fun l0 => bO (asSl 95 b1) fun l1 => callX (fun n => impl_SerialOne.f n l0 l1) fun t => κ (.tup [.own 0 0, .int .i64 (t.2.1), .int .i64 (t.2.2)]) ⟨[], [some ⟨37, t.1, 0⟩]⟩
  | _, _, _ => none
def E_63 : Env tau := mkE [(0, [(0, .one (.own 37)), (1, .one (.own 95))]), (1, [(0, .one (.own 37)), (1, .one (.own 95))]), (2, [(0, .one (.own 37)), (7, .one .any)]), (3, []), (4, [(0, .one (.own 37)), (7, .one .any)])] [.one (.own 37), .one .any, .one .any] ⟨0, 0⟩
noncomputable def c_13 (args : List (AV tau)) (m : Mem tau) (κ : AV tau → Mem tau → Option Unit) : Option Unit := match args, m.bx, m.rw with
  | [b0, b1], [], [] => bO (asSl 5 b0) fun l0 => bO (asSl 5 b1) fun l1 => callX (fun n => laws_FnCert.f n l0 l1) fun t => κ (.bool (t)) ⟨[], []⟩
  | _, _, _ => none
def E_13 : Env tau := mkE [(0, [(0, .one (.own 5)), (1, .one (.own 5))]), (1, [(0, .one (.own 5)), (1, .one (.own 5))]), (2, []), (3, [(0, .one (.own 5)), (1, .one (.own 5))]), (4, [(1, .one (.own 5)), (5, .one (.own 77))]), (5, [(1, .one (.own 5)), (5, .one (.own 77)), (6, .one .any)]), (6, []), (7, [(1, .one (.own 5)), (6, .one .any)]), (8, []), (9, [(1, .one (.own 5)), (6, .one .any)]), (10, [(1, .one (.own 5)), (6, .one .any), (7, .one (.own 37)), (8, .one (.own 95))]), (11, [(1, .one (.own 5)), (6, .one .any), (8, .one (.own 95))]), (12, [(1, .one (.own 5)), (6, .one .any), (7, .one (.own 37)), (8, .one (.own 95))]), (13, [(1, .one (.own 5)), (6, .one .any), (7, .one (.own 37)), (8, .one (.own 95)), (9, .one .any)]), (14, []), (15, [(1, .one (.own 5)), (6, .one .any), (7, .one (.own 37)), (8, .one (.own 95)), (9, .one .any)]), (16, [(1, .one (.own 5)), (6, .one .any), (7, .one (.own 37)), (8, .one (.own 95)), (9, .one .any), (10, .one .any)]), (17, [(1, .one (.own 5)), (6, .one .any), (7, .one (.own 37)), (8, .one (.own 95)), (9, .one .any), (10, .one .any)]), (18, [(1, .one (.own 5)), (6, .one .any), (7, .one (.own 37)), (8, .one (.own 95)), (9, .one .any), (10, .one .any)]), (19, [(1, .one (.own 5)), (6, .one .any), (7, .one (.own 37)), (8, .one (.own 95)), (9, .one .any), (10, .one .any), (11, .one .any)]), (20, []), (21, [(1, .one (.own 5)), (6, .one .any), (8, .one (.own 95)), (9, .one .any)]), (22, [(6, .one .any), (8, .one (.own 95)), (9, .one .any), (12, .one .any), (13, .one .any)]), (23, [(6, .one .any), (9, .one .any), (12, .one .any), (13, .one .any), (14, .one (.own 37)), (15, .one .any), (16, .one .any)]), (24, [(6, .one .any), (9, .one .any), (12, .one .any), (13, .one .any), (14, .one (.own 37)), (15, .one .any), (16, .one .any), (121, .one .any)]), (25, [(6, .one .any), (9, .one .any), (12, .one .any), (14, .one (.own 37)), (15, .one .any), (16, .one .any)]), (26, [(6, .one .any), (9, .one .any), (12, .one .any), (13, .one .any), (16, .one .any), (121, .one .any)]), (27, [(6, .one .any), (9, .one .any), (12, .one .any), (16, .one .any)]), (28, [(6, .one .any), (12, .one .any), (13, .one .any)])] [.one .any] ⟨0, 0⟩
end Go.Proofs.Ytkkmhlfpombgfaa.PFnCert