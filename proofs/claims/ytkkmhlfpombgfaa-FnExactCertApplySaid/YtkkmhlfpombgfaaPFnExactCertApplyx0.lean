/- The machine's texts of FnExactCertApply (definitions, table, contracts). Conditions: none. -/
import Derived.Test.YtkkmhlfpombgfaaProg
import Derived.Test.YtkkmhlfpombgfaaSWFnExactCertApply
import Derived.Test.YtkkmhlfpombgfaaAm38
import Derived.RowKit
import Derived.KernelRfl
set_option linter.unusedVariables false
set_option maxRecDepth 100000
namespace Go.Proofs.Ytkkmhlfpombgfaa.PFnExactCertApply
open Go.RowKit Go.Proofs.YtkkmhlfpombgfaaW.PrintWords Go.Proofs.YtkkmhlfpombgfaaW.PrintLast Go.Proofs.YtkkmhlfpombgfaaW.PrintMore
def errW : Option Int → Value
  | none => .nilIface
  | some c => .iface 0 (.int .i64 c)
structure S37 where
  f0 : Int
  f1 : Int
def z37 : S37 := ⟨(0 : Int), (0 : Int)⟩
def rd_T37 (xs : List S37) (i : Int) : S37 := xs.getD i.toNat z37
structure S39 where
  f0 : Int
  f1 : Int
def z39 : S39 := ⟨(0 : Int), (0 : Int)⟩
def rd_T39 (xs : List S39) (i : Int) : S39 := xs.getD i.toNat z39
structure S82 where
  f0 : Int
  f1 : Int
def z82 : S82 := ⟨(0 : Int), (0 : Int)⟩
def rd_T82 (xs : List S82) (i : Int) : S82 := xs.getD i.toNat z82
structure S75 where
  f0 : Int
  f1 : Int
def z75 : S75 := ⟨(0 : Int), (0 : Int)⟩
def rd_T75 (xs : List S75) (i : Int) : S75 := xs.getD i.toNat z75
structure S84 where
  f0 : S75
  f1 : Int
  f2 : Int
def z84 : S84 := ⟨z75, (0 : Int), (0 : Int)⟩
def rd_T84 (xs : List S84) (i : Int) : S84 := xs.getD i.toNat z84
structure S136 where
  f0 : Int
  f1 : Int
def z136 : S136 := ⟨(0 : Int), (0 : Int)⟩
def rd_T136 (xs : List S136) (i : Int) : S136 := xs.getD i.toNat z136
structure S103 where
  f0 : Int
  f1 : Int
def z103 : S103 := ⟨(0 : Int), (0 : Int)⟩
def rd_T103 (xs : List S103) (i : Int) : S103 := xs.getD i.toNat z103
structure S189 where
  f0 : S103
  f1 : Int
  f2 : Int
def z189 : S189 := ⟨z103, (0 : Int), (0 : Int)⟩
def rd_T189 (xs : List S189) (i : Int) : S189 := xs.getD i.toNat z189
structure S196 where
  f0 : Int
  f1 : Int
def z196 : S196 := ⟨(0 : Int), (0 : Int)⟩
def rd_T196 (xs : List S196) (i : Int) : S196 := xs.getD i.toNat z196
structure S198 where
  f0 : Int
  f1 : Int
def z198 : S198 := ⟨(0 : Int), (0 : Int)⟩
def rd_T198 (xs : List S198) (i : Int) : S198 := xs.getD i.toNat z198
def rd_L11 (xs : List (List S136)) (i : Int) : (List S136) := xs.getD i.toNat ([] : List S136)
def rd_L12 (xs : List (List S189)) (i : Int) : (List S189) := xs.getD i.toNat ([] : List S189)
structure S102 where
  f0 : Int
  f1 : (List S136)
  f2 : (List S189)
def z102 : S102 := ⟨(0 : Int), ([] : List S136), ([] : List S189)⟩
def rd_T102 (xs : List S102) (i : Int) : S102 := xs.getD i.toNat z102
def rd_L14 (xs : List (List S196)) (i : Int) : (List S196) := xs.getD i.toNat ([] : List S196)
def rd_L15 (xs : List (List S198)) (i : Int) : (List S198) := xs.getD i.toNat ([] : List S198)
structure S107 where
  f0 : (List S196)
  f1 : (List S198)
  f2 : Int
  f3 : Int
def z107 : S107 := ⟨([] : List S196), ([] : List S198), (0 : Int), (0 : Int)⟩
def rd_T107 (xs : List S107) (i : Int) : S107 := xs.getD i.toNat z107
structure S109 where
  f0 : Bool
  f1 : S103
  f2 : S107
def z109 : S109 := ⟨false, z103, z107⟩
def rd_T109 (xs : List S109) (i : Int) : S109 := xs.getD i.toNat z109
def impl_in.f (a0 : Int) (a1 : Int) (a2 : Int) : Option (Bool) := if a0 ≥ a1 then (some (decide (a0 ≤ a2))) else (some false)
def impl_BoxOk.l0 : Nat → List (S37) → List (S37) → Int → Int → Option (Bool)
  | 0, _, _, _, _ => none
  | k + 1, x0, x5, x6, x7 => if x7 < x6 then (if 0 ≤ x7 then (if x7 < (x5.length : Int) then ((impl_in.f ((rd_T37 x5 x7).f0) 0 1000000).bind fun t103 => (if t103 = true then ((impl_in.f ((rd_T37 x5 x7).f1) (-1000000) 1000000).bind fun t104 => (if t104 = true then (impl_BoxOk.l0 k x0 x5 x6 (wrap64 (x7 + 1))) else (some false))) else (some false))) else (none)) else (none)) else (some ((x0.length : Int) == 4))
def impl_BoxOk.f (k : Nat) (l0 : List (S37)) : Option (Bool) := impl_BoxOk.l0 k l0 l0 (l0.length : Int) 0
mutual
def impl_ExecOk.j0 : Nat → Bool → List (S39) → List (S82) → Int → Int → Option (Bool)
  | 0, _, _, _, _, _ => none
  | k + 1, x45, x106000, x106001, x106002, x106003 => if x45 = true then (some false) else (impl_ExecOk.l0 k x106000 (x106000.length : Int) 0 x106000 x106001 x106002 x106003 false false false false false false false false)
def impl_ExecOk.l0 : Nat → List (S39) → Int → Int → List (S39) → List (S82) → Int → Int → Bool → Bool → Bool → Bool → Bool → Bool → Bool → Bool → Option (Bool)
  | 0, _, _, _, _, _, _, _, _, _, _, _, _, _, _, _ => none
  | k + 1, x47, x48, x49, x106000, x106001, x106002, x106003, x109000, x109001, x109002, x109003, x110000, x110001, x110002, x110003 => if x49 < x48 then (if 0 ≤ x49 then (if x49 < (x47.length : Int) then ((impl_in.f ((rd_T39 x47 x49).f0) 0 3).bind fun t112 => (if t112 = true then (if 0 ≤ ((rd_T39 x47 x49).f0) then (if ((rd_T39 x47 x49).f0) < 4 then (if rdOf false [x109000, x109001, x109002, x109003] ((rd_T39 x47 x49).f0) = true then (some false) else ((impl_in.f ((rd_T39 x47 x49).f1) 0 1000000).bind fun t113 => (if t113 = true then (impl_ExecOk.l0 k x47 x48 (wrap64 (x49 + 1)) x106000 x106001 x106002 x106003 (ixB ((rd_T39 x47 x49).f0) 0 true x109000) (ixB ((rd_T39 x47 x49).f0) 1 true x109001) (ixB ((rd_T39 x47 x49).f0) 2 true x109002) (ixB ((rd_T39 x47 x49).f0) 3 true x109003) x110000 x110001 x110002 x110003) else (some false)))) else (none)) else (none)) else (some false))) else (none)) else (none)) else (impl_ExecOk.l1 k x106001 (x106001.length : Int) 0 x110000 x110001 x110002 x110003)
def impl_ExecOk.l1 : Nat → List (S82) → Int → Int → Bool → Bool → Bool → Bool → Option (Bool)
  | 0, _, _, _, _, _, _, _ => none
  | k + 1, x74, x75, x76, x110000, x110001, x110002, x110003 => if x76 < x75 then (if 0 ≤ x76 then (if x76 < (x74.length : Int) then ((impl_in.f ((rd_T82 x74 x76).f0) 0 3).bind fun t116 => (if t116 = true then (if 0 ≤ ((rd_T82 x74 x76).f0) then (if ((rd_T82 x74 x76).f0) < 4 then (if rdOf false [x110000, x110001, x110002, x110003] ((rd_T82 x74 x76).f0) = true then (some false) else ((impl_in.f ((rd_T82 x74 x76).f1) (-1000000) 1000000).bind fun t117 => (if t117 = true then (impl_ExecOk.l1 k x74 x75 (wrap64 (x76 + 1)) (ixB ((rd_T82 x74 x76).f0) 0 true x110000) (ixB ((rd_T82 x74 x76).f0) 1 true x110001) (ixB ((rd_T82 x74 x76).f0) 2 true x110002) (ixB ((rd_T82 x74 x76).f0) 3 true x110003)) else (some false)))) else (none)) else (none)) else (some false))) else (none)) else (none)) else (some true)
end
def impl_ExecOk.f (k : Nat) (l0_0 : List (S39)) (l0_1 : List (S82)) (a0_2 : Int) (a0_3 : Int) : Option (Bool) := (impl_in.f a0_3 0 3).bind fun t106 => (if t106 = true then ((impl_in.f a0_2 (-1000000) 1000000).bind fun t107 => (if t107 = true then (if a0_3 = 0 then (if a0_3 = 3 then (impl_ExecOk.j0 k (decide ((l0_0.length : Int) > 0)) l0_0 l0_1 a0_2 a0_3) else (impl_ExecOk.j0 k false l0_0 l0_1 a0_2 a0_3)) else (if a0_2 = 0 then (if (l0_1.length : Int) > 0 then (impl_ExecOk.j0 k true l0_0 l0_1 a0_2 a0_3) else (if a0_3 = 3 then (impl_ExecOk.j0 k (decide ((l0_0.length : Int) > 0)) l0_0 l0_1 a0_2 a0_3) else (impl_ExecOk.j0 k false l0_0 l0_1 a0_2 a0_3))) else (impl_ExecOk.j0 k true l0_0 l0_1 a0_2 a0_3))) else (impl_ExecOk.j0 k true l0_0 l0_1 a0_2 a0_3))) else (impl_ExecOk.j0 k true l0_0 l0_1 a0_2 a0_3))
mutual
def impl_ExecFresh.j0 : Nat → List (S37) → Bool → List (S39) → List (S82) → Int → Int → Option (Bool)
  | 0, _, _, _, _, _, _ => none
  | k + 1, x0, x14, x119000, x119001, x119002, x119003 => if x14 = true then (some false) else (impl_ExecFresh.l0 k x0 x119000 (x119000.length : Int) 0)
def impl_ExecFresh.l0 : Nat → List (S37) → List (S39) → Int → Int → Option (Bool)
  | 0, _, _, _, _ => none
  | k + 1, x0, x16, x17, x18 => if x18 < x17 then (if 0 ≤ x18 then (if x18 < (x16.length : Int) then (if 0 ≤ ((rd_T39 x16 x18).f0) then (if ((rd_T39 x16 x18).f0) < (x0.length : Int) then (if ((rd_T37 x0 ((rd_T39 x16 x18).f0)).f0) = ((rd_T39 x16 x18).f1) then (impl_ExecFresh.l0 k x0 x16 x17 (wrap64 (x18 + 1))) else (some false)) else (none)) else (none)) else (none)) else (none)) else (some true)
end
def impl_ExecFresh.f (k : Nat) (l0 : List (S37)) (l1_0 : List (S39)) (l1_1 : List (S82)) (a1_2 : Int) (a1_3 : Int) : Option (Bool) := (impl_BoxOk.f k l0).bind fun t119 => (if t119 = true then ((impl_ExecOk.f k l1_0 l1_1 a1_2 a1_3).bind fun t120 => (impl_ExecFresh.j0 k l0 (!t120) l1_0 l1_1 a1_2 a1_3)) else (impl_ExecFresh.j0 k l0 true l1_0 l1_1 a1_2 a1_3))
def impl_reqOk.f (a0_0 : Int) (a0_1 : Int) : Option (Bool) := (impl_in.f a0_0 0 2).bind fun t125 => (if t125 = true then ((impl_in.f a0_1 1 1000).bind fun t126 => (some t126)) else (some false))
mutual
def impl_CertOk.l0 : Nat → List (S84) → Int → Int → Int → List (S37) → List (S84) → Option (Bool)
 | 0, _, _, _, _, _, _ => none
 | k + 1, x6, x7, x8, x128000, x128001, x128002 => if x8 < x7 then (if 0 ≤ x8 then (if x8 < (x6.length : Int) then (if x8 > 0 then (if 0 ≤ (wrap64 (x8 - 1)) then (if (wrap64 (x8 - 1)) < (x128002.length : Int) then (if ((rd_T84 x128002 (wrap64 (x8 - 1))).f0.f0) ≥ ((rd_T84 x6 x8).f0.f0) then (impl_CertOk.j1 k x6 x7 x8 true x128000 x128001 x128002) else ((impl_reqOk.f ((rd_T84 x6 x8).f0.f0) ((rd_T84 x6 x8).f0.f1)).bind fun t131 => (if t131 = true then ((impl_in.f ((rd_T84 x6 x8).f1) 0 2).bind fun t132 => (if t132 = true then ((impl_in.f ((rd_T84 x6 x8).f2) (-1000000) 1000000).bind fun t133 => (if t133 = true then (if ((rd_T84 x6 x8).f1) = 0 then (impl_CertOk.j1 k x6 x7 x8 false x128000 x128001 x128002) else (impl_CertOk.j1 k x6 x7 x8 (((rd_T84 x6 x8).f2) != 0) x128000 x128001 x128002)) else (impl_CertOk.j1 k x6 x7 x8 true x128000 x128001 x128002))) else (impl_CertOk.j1 k x6 x7 x8 true x128000 x128001 x128002))) else (impl_CertOk.j1 k x6 x7 x8 true x128000 x128001 x128002)))) else (none)) else (none)) else ((impl_reqOk.f ((rd_T84 x6 x8).f0.f0) ((rd_T84 x6 x8).f0.f1)).bind fun t134 => (if t134 = true then ((impl_in.f ((rd_T84 x6 x8).f1) 0 2).bind fun t135 => (if t135 = true then ((impl_in.f ((rd_T84 x6 x8).f2) (-1000000) 1000000).bind fun t136 => (if t136 = true then (if ((rd_T84 x6 x8).f1) = 0 then (impl_CertOk.j1 k x6 x7 x8 false x128000 x128001 x128002) else (impl_CertOk.j1 k x6 x7 x8 (((rd_T84 x6 x8).f2) != 0) x128000 x128001 x128002)) else (impl_CertOk.j1 k x6 x7 x8 true x128000 x128001 x128002))) else (impl_CertOk.j1 k x6 x7 x8 true x128000 x128001 x128002))) else (impl_CertOk.j1 k x6 x7 x8 true x128000 x128001 x128002)))) else (none)) else (none)) else ((impl_in.f x128000 0 40).bind fun t137 => (if t137 = true then ((impl_BoxOk.f k x128001).bind fun t138 => (some t138)) else (some false)))
def impl_CertOk.j1 : Nat → List (S84) → Int → Int → Bool → Int → List (S37) → List (S84) → Option (Bool)
 | 0, _, _, _, _, _, _, _ => none
 | k + 1, x6, x7, x8, x56, x128000, x128001, x128002 => if x56 = true then (some false) else (impl_CertOk.l0 k x6 x7 (wrap64 (x8 + 1)) x128000 x128001 x128002)
end
def impl_CertOk.f (k : Nat) (a0_0 : Int) (l0_1 : List (S37)) (l0_2 : List (S84)) : Option (Bool) := impl_CertOk.l0 k l0_2 (l0_2.length : Int) 0 a0_0 l0_1 l0_2
def impl_same_impl_Read.l0 : Nat → List (S39) → List (S39) → Int → Int → Option (Bool)
  | 0, _, _, _, _ => none
  | k + 1, x0, x1, x12, x13 => if x13 < x12 then (if 0 ≤ x13 then (if x13 < (x0.length : Int) then (if x13 < (x1.length : Int) then (if (!(((rd_T39 x0 x13).f0) == ((rd_T39 x1 x13).f0)) || (!(((rd_T39 x0 x13).f1) == ((rd_T39 x1 x13).f1)))) = true then (some false) else (impl_same_impl_Read.l0 k x0 x1 x12 (wrap64 (x13 + 1)))) else (none)) else (none)) else (none)) else (some true)
def impl_same_impl_Read.f (k : Nat) (l0 : List (S39)) (l1 : List (S39)) : Option (Bool) := if (l0.length : Int) = (l1.length : Int) then (impl_same_impl_Read.l0 k l0 l1 (l0.length : Int) 0) else (some false)
def impl_same_impl_Put.l0 : Nat → List (S82) → List (S82) → Int → Int → Option (Bool)
  | 0, _, _, _, _ => none
  | k + 1, x0, x1, x12, x13 => if x13 < x12 then (if 0 ≤ x13 then (if x13 < (x0.length : Int) then (if x13 < (x1.length : Int) then (if (!(((rd_T82 x0 x13).f0) == ((rd_T82 x1 x13).f0)) || (!(((rd_T82 x0 x13).f1) == ((rd_T82 x1 x13).f1)))) = true then (some false) else (impl_same_impl_Put.l0 k x0 x1 x12 (wrap64 (x13 + 1)))) else (none)) else (none)) else (none)) else (some true)
def impl_same_impl_Put.f (k : Nat) (l0 : List (S82)) (l1 : List (S82)) : Option (Bool) := if (l0.length : Int) = (l1.length : Int) then (impl_same_impl_Put.l0 k l0 l1 (l0.length : Int) 0) else (some false)
def impl_ExecSame.f (k : Nat) (l0_0 : List (S39)) (l0_1 : List (S82)) (a0_2 : Int) (a0_3 : Int) (l1_0 : List (S39)) (l1_1 : List (S82)) (a1_2 : Int) (a1_3 : Int) : Option (Bool) := (impl_same_impl_Read.f k l0_0 l1_0).bind fun t145 => (if t145 = true then ((impl_same_impl_Put.f k l0_1 l1_1).bind fun t146 => (if t146 = true then (if a0_2 = a1_2 then (some (a0_3 == a1_3)) else (some false)) else (some false))) else (some false))
def impl_CertLike.f (k : Nat) (a0_0 : Bool) (a0_1 : Int) (a0_2 : Int) (l0_3 : List (S39)) (l0_4 : List (S82)) (a0_5 : Int) (a0_6 : Int) (a1_0 : Bool) (a1_1 : Int) (a1_2 : Int) (l1_3 : List (S39)) (l1_4 : List (S82)) (a1_5 : Int) (a1_6 : Int) : Option (Bool) := if (a0_0 == a1_0) = true then (if (a0_1 == a1_1 && (a0_2 == a1_2)) = true then ((impl_ExecSame.f k l0_3 l0_4 a0_5 a0_6 l1_3 l1_4 a1_5 a1_6).bind fun t149 => (some t149)) else (some false)) else (some false)
def impl_CertEntry.f (k : Nat) (a0_0 : Bool) (a0_1 : Int) (a0_2 : Int) (l0_3 : List (S39)) (l0_4 : List (S82)) (a0_5 : Int) (a0_6 : Int) : Option (Bool) := if a0_0 = true then ((impl_CertLike.f k a0_0 a0_1 a0_2 l0_3 l0_4 a0_5 a0_6 true 0 0 ([] : List (S39)) ([] : List (S82)) 0 0).bind fun t151 => (some t151)) else ((impl_reqOk.f a0_1 a0_2).bind fun t152 => (if t152 = true then ((impl_ExecOk.f k l0_3 l0_4 a0_5 a0_6).bind fun t153 => (if t153 = true then (some (a0_6 != 3)) else (some false))) else (some false)))
def impl_copied_impl_Box.f (l0 : List (S37)) : Option (List (S37)) := if l0.length ≤ 17592186044416 then some l0 else none
def impl_copied_impl_Done.f (l0 : List (S84)) : Option (List (S84)) := if l0.length ≤ 8796093022208 then some l0 else none
mutual
def impl_ExecDo.j0 : Nat → List (S37) → Bool → List (S39) → List (S82) → Int → Int → Option ((List (S37)))
  | 0, _, _, _, _, _, _ => none
  | k + 1, x0, x15, x155000, x155001, x155002, x155003 => if x15 = true then (some ([] : List (S37))) else ((impl_copied_impl_Box.f x0).bind fun t157 => (impl_ExecDo.l0 k t157 x155001 (x155001.length : Int) 0))
def impl_ExecDo.l0 : Nat → List (S37) → List (S82) → Int → Int → Option ((List (S37)))
  | 0, _, _, _, _ => none
  | k + 1, x5, x19, x20, x21 => if x21 < x20 then (if 0 ≤ x21 then (if x21 < (x19.length : Int) then (if 0 ≤ ((rd_T82 x19 x21).f0) then (if ((rd_T82 x19 x21).f0) < (x5.length : Int) then (impl_ExecDo.l0 k (x5.set (((rd_T82 x19 x21).f0) : Int).toNat (⟨mn 1000000 (wrap64 (((rd_T37 x5 ((rd_T82 x19 x21).f0)).f0) + 1)), (rd_T82 x19 x21).f1⟩ : S37)) x19 x20 (wrap64 (x21 + 1))) else (none)) else (none)) else (none)) else (none)) else (some x5)
end
def impl_ExecDo.f (k : Nat) (l0 : List (S37)) (l1_0 : List (S39)) (l1_1 : List (S82)) (a1_2 : Int) (a1_3 : Int) : Option ((List (S37))) := (impl_BoxOk.f k l0).bind fun t155 => (if t155 = true then ((impl_ExecOk.f k l1_0 l1_1 a1_2 a1_3).bind fun t156 => (impl_ExecDo.j0 k l0 (!t156) l1_0 l1_1 a1_2 a1_3)) else (impl_ExecDo.j0 k l0 true l1_0 l1_1 a1_2 a1_3))
mutual
def impl_CertApply.j0 : Nat → Bool → Int → List (S37) → List (S84) → Bool → Int → Int → List (S39) → List (S82) → Int → Int → Option (Int × (List (S37)) × (List (S84)) × Int)
 | 0, _, _, _, _, _, _, _, _, _, _, _ => none
 | k + 1, x26, x165000, x165001, x165002, x166000, x166001, x166002, x166003, x166004, x166005, x166006 => if x26 = true then (some (0, ([] : List (S37)), ([] : List (S84)), (-1))) else ((impl_copied_impl_Box.f x165001).bind fun t169 => (if x166000 = true then ((impl_copied_impl_Done.f x165002).bind fun t173 => (some (wrap64 (x165000 + 1), t169, t173, 5))) else (impl_CertApply.l0 k x165002 (x165002.length : Int) 0 x165000 x165001 x165002 x166000 x166001 x166002 x166003 x166004 x166005 x166006 (wrap64 (x165000 + 1)) t169)))
def impl_CertApply.l0 : Nat → List (S84) → Int → Int → Int → List (S37) → List (S84) → Bool → Int → Int → List (S39) → List (S82) → Int → Int → Int → List (S37) → Option (Int × (List (S37)) × (List (S84)) × Int)
 | 0, _, _, _, _, _, _, _, _, _, _, _, _, _, _, _ => none
 | k + 1, x43, x44, x45, x165000, x165001, x165002, x166000, x166001, x166002, x166003, x166004, x166005, x166006, x173000, x173001 => if x45 < x44 then (if 0 ≤ x45 then (if x45 < (x43.length : Int) then (if ((rd_T84 x43 x45).f0.f0) = x166001 then (impl_CertApply.j2 k x43 x44 x45 (decide (((rd_T84 x43 x45).f0.f1) ≥ x166002)) x165000 x165001 x165002 x166000 x166001 x166002 x166003 x166004 x166005 x166006 x173000 x173001 ((rd_T84 x43 x45).f0.f0) ((rd_T84 x43 x45).f0.f1) ((rd_T84 x43 x45).f1) ((rd_T84 x43 x45).f2)) else (impl_CertApply.j2 k x43 x44 x45 false x165000 x165001 x165002 x166000 x166001 x166002 x166003 x166004 x166005 x166006 x173000 x173001 ((rd_T84 x43 x45).f0.f0) ((rd_T84 x43 x45).f0.f1) ((rd_T84 x43 x45).f1) ((rd_T84 x43 x45).f2))) else (none)) else (none)) else ((impl_ExecFresh.f k x165001 x166003 x166004 x166005 x166006).bind fun t182 => (if t182 = true then (if x166006 = 0 then ((impl_ExecDo.f k x165001 x166003 x166004 x166005 x166006).bind fun t183 => (impl_CertApply.j3 k x165000 x165001 x165002 x173000 t183 x166001 x166002 0 x166005)) else (impl_CertApply.j3 k x165000 x165001 x165002 x173000 x173001 x166001 x166002 2 0)) else (impl_CertApply.j3 k x165000 x165001 x165002 x173000 x173001 x166001 x166002 1 0)))
def impl_CertApply.j2 : Nat → List (S84) → Int → Int → Bool → Int → List (S37) → List (S84) → Bool → Int → Int → List (S39) → List (S82) → Int → Int → Int → List (S37) → Int → Int → Int → Int → Option (Int × (List (S37)) × (List (S84)) × Int)
 | 0, _, _, _, _, _, _, _, _, _, _, _, _, _, _, _, _, _, _, _, _ => none
 | k + 1, x43, x44, x45, x64, x165000, x165001, x165002, x166000, x166001, x166002, x166003, x166004, x166005, x166006, x173000, x173001, x178000, x178001, x178002, x178003 => if x64 = true then ((impl_copied_impl_Done.f x165002).bind fun t178 => (if x178001 = x166002 then (some (x173000, x173001, t178, 3)) else (some (x173000, x173001, t178, 4)))) else (impl_CertApply.l0 k x43 x44 (wrap64 (x45 + 1)) x165000 x165001 x165002 x166000 x166001 x166002 x166003 x166004 x166005 x166006 x173000 x173001)
def impl_CertApply.j3 : Nat → Int → List (S37) → List (S84) → Int → List (S37) → Int → Int → Int → Int → Option (Int × (List (S37)) × (List (S84)) × Int)
 | 0, _, _, _, _, _, _, _, _, _ => none
 | k + 1, x165000, x165001, x165002, x173000, x173001, x182000, x182001, x182002, x182003 => impl_CertApply.l1 k ([] : List (S84)) false x165002 (x165002.length : Int) 0 x173000 x173001 x182000 x182001 x182002 x182003
def impl_CertApply.l1 : Nat → List (S84) → Bool → List (S84) → Int → Int → Int → List (S37) → Int → Int → Int → Int → Option (Int × (List (S37)) × (List (S84)) × Int)
 | 0, _, _, _, _, _, _, _, _, _, _, _ => none
 | k + 1, x10, x11, x107, x108, x109, x173000, x173001, x182000, x182001, x182002, x182003 => if x109 < x108 then (if 0 ≤ x109 then (if x109 < (x107.length : Int) then (if x11 = true then (impl_CertApply.j5 k x10 x11 x107 x108 x109 false x173000 x173001 x182000 x182001 x182002 x182003 ((rd_T84 x107 x109).f0.f0) ((rd_T84 x107 x109).f0.f1) ((rd_T84 x107 x109).f1) ((rd_T84 x107 x109).f2)) else (impl_CertApply.j5 k x10 x11 x107 x108 x109 (decide (((rd_T84 x107 x109).f0.f0) ≥ x182000)) x173000 x173001 x182000 x182001 x182002 x182003 ((rd_T84 x107 x109).f0.f0) ((rd_T84 x107 x109).f0.f1) ((rd_T84 x107 x109).f1) ((rd_T84 x107 x109).f2))) else (none)) else (none)) else (if x11 = true then ((impl_copied_impl_Done.f x10).bind fun t186 => (some (x173000, x173001, t186, x182002))) else (if x10.length < 4398046511104 then ((impl_copied_impl_Done.f (x10 ++ [(⟨(⟨x182000, x182001⟩ : S75), x182002, x182003⟩ : S84)])).bind fun t192 => (some (x173000, x173001, t192, x182002))) else (none)))
def impl_CertApply.j5 : Nat → List (S84) → Bool → List (S84) → Int → Int → Bool → Int → List (S37) → Int → Int → Int → Int → Int → Int → Int → Int → Option (Int × (List (S37)) × (List (S84)) × Int)
 | 0, _, _, _, _, _, _, _, _, _, _, _, _, _, _, _, _ => none
 | k + 1, x10, x11, x107, x108, x109, x123, x173000, x173001, x182000, x182001, x182002, x182003, x197000, x197001, x197002, x197003 => if x123 = true then (if x10.length < 4398046511104 then ((some (x10 ++ [(⟨(⟨x182000, x182001⟩ : S75), x182002, x182003⟩ : S84)] : List (S84))).bind fun y197 => (if x197000 = x182000 then (impl_CertApply.l1 k y197 true x107 x108 (wrap64 (x109 + 1)) x173000 x173001 x182000 x182001 x182002 x182003) else (if y197.length < 4398046511104 then (impl_CertApply.l1 k (y197 ++ [(⟨(⟨x197000, x197001⟩ : S75), x197002, x197003⟩ : S84)]) true x107 x108 (wrap64 (x109 + 1)) x173000 x173001 x182000 x182001 x182002 x182003) else (none)))) else (none)) else (if x197000 = x182000 then (impl_CertApply.l1 k x10 x11 x107 x108 (wrap64 (x109 + 1)) x173000 x173001 x182000 x182001 x182002 x182003) else (if x10.length < 4398046511104 then (impl_CertApply.l1 k (x10 ++ [(⟨(⟨x197000, x197001⟩ : S75), x197002, x197003⟩ : S84)]) x11 x107 x108 (wrap64 (x109 + 1)) x173000 x173001 x182000 x182001 x182002 x182003) else (none)))
end
def impl_CertApply.f (k : Nat) (a0_0 : Int) (l0_1 : List (S37)) (l0_2 : List (S84)) (a1_0 : Bool) (a1_1 : Int) (a1_2 : Int) (l1_3 : List (S39)) (l1_4 : List (S82)) (a1_5 : Int) (a1_6 : Int) : Option (Int × (List (S37)) × (List (S84)) × Int) := (impl_CertOk.f k a0_0 l0_1 l0_2).bind fun t167 => (if t167 = true then ((impl_CertEntry.f k a1_0 a1_1 a1_2 l1_3 l1_4 a1_5 a1_6).bind fun t168 => (if t168 = true then (impl_CertApply.j0 k (a0_0 == 40) a0_0 l0_1 l0_2 a1_0 a1_1 a1_2 l1_3 l1_4 a1_5 a1_6) else (impl_CertApply.j0 k true a0_0 l0_1 l0_2 a1_0 a1_1 a1_2 l1_3 l1_4 a1_5 a1_6))) else (impl_CertApply.j0 k true a0_0 l0_1 l0_2 a1_0 a1_1 a1_2 l1_3 l1_4 a1_5 a1_6))
def spec_l1Num.f (a0 : Int) : Option (Bool) := if a0 ≥ (-1000000) then (some (decide (a0 ≤ 1000000))) else (some false)
def spec_BoxOk.l0 : Nat → List (S37) → Int → Option (Bool)
  | 0, _, _ => none
  | k + 1, x0, x3 => if x3 < (x0.length : Int) then (if 0 ≤ x3 then (if ((rd_T37 x0 x3).f0) < 0 then (some false) else (if ((rd_T37 x0 x3).f0) > 1000000 then (some false) else ((spec_l1Num.f ((rd_T37 x0 x3).f1)).bind fun t209 => (if t209 = true then (spec_BoxOk.l0 k x0 (wrap64 (x3 + 1))) else (some false))))) else (none)) else (some true)
def spec_BoxOk.f (k : Nat) (l0 : List (S37)) : Option (Bool) := if (l0.length : Int) = 4 then (spec_BoxOk.l0 k l0 0) else (some false)
def spec_l5Req.f (a0_0 : Int) (a0_1 : Int) : Option (Bool) := if a0_0 ≥ 0 then (if a0_0 < 3 then (if a0_1 ≥ 1 then (some (decide (a0_1 ≤ 1000))) else (some false)) else (some false)) else (some false)
mutual
def spec_CertOk.j0 : Nat → Bool → Int → List (S37) → List (S84) → Option (Bool)
 | 0, _, _, _, _ => none
 | k + 1, x18, x212000, x212001, x212002 => if x18 = true then (some false) else (spec_CertOk.l0 k 0 x212000 x212001 x212002)
def spec_CertOk.l0 : Nat → Int → Int → List (S37) → List (S84) → Option (Bool)
 | 0, _, _, _, _ => none
 | k + 1, x3, x212000, x212001, x212002 => if x3 < (x212002.length : Int) then (if 0 ≤ x3 then ((spec_l5Req.f ((rd_T84 x212002 x3).f0.f0) ((rd_T84 x212002 x3).f0.f1)).bind fun t215 => (if t215 = true then (if ((rd_T84 x212002 x3).f1) < 0 then (spec_CertOk.j2 k x3 true x212000 x212001 x212002) else (if ((rd_T84 x212002 x3).f1) > 2 then (spec_CertOk.j2 k x3 true x212000 x212001 x212002) else ((spec_l1Num.f ((rd_T84 x212002 x3).f2)).bind fun t216 => (if t216 = true then (if ((rd_T84 x212002 x3).f1) = 0 then (if x3 > 0 then (if 0 ≤ (wrap64 (x3 - 1)) then (if (wrap64 (x3 - 1)) < (x212002.length : Int) then (spec_CertOk.j2 k x3 (decide (((rd_T84 x212002 x3).f0.f0) ≤ ((rd_T84 x212002 (wrap64 (x3 - 1))).f0.f0))) x212000 x212001 x212002) else (none)) else (none)) else (spec_CertOk.j2 k x3 false x212000 x212001 x212002)) else (if ((rd_T84 x212002 x3).f2) = 0 then (if x3 > 0 then (if 0 ≤ (wrap64 (x3 - 1)) then (if (wrap64 (x3 - 1)) < (x212002.length : Int) then (spec_CertOk.j2 k x3 (decide (((rd_T84 x212002 x3).f0.f0) ≤ ((rd_T84 x212002 (wrap64 (x3 - 1))).f0.f0))) x212000 x212001 x212002) else (none)) else (none)) else (spec_CertOk.j2 k x3 false x212000 x212001 x212002)) else (spec_CertOk.j2 k x3 true x212000 x212001 x212002))) else (spec_CertOk.j2 k x3 true x212000 x212001 x212002))))) else (spec_CertOk.j2 k x3 true x212000 x212001 x212002))) else (none)) else (some true)
def spec_CertOk.j2 : Nat → Int → Bool → Int → List (S37) → List (S84) → Option (Bool)
 | 0, _, _, _, _, _ => none
 | k + 1, x3, x78, x212000, x212001, x212002 => if x78 = true then (some false) else (spec_CertOk.l0 k (wrap64 (x3 + 1)) x212000 x212001 x212002)
end
def spec_CertOk.f (k : Nat) (a0_0 : Int) (l0_1 : List (S37)) (l0_2 : List (S84)) : Option (Bool) := if a0_0 < 0 then (spec_CertOk.j0 k true a0_0 l0_1 l0_2) else (if a0_0 > 40 then (spec_CertOk.j0 k true a0_0 l0_1 l0_2) else ((spec_BoxOk.f k l0_1).bind fun t212 => (spec_CertOk.j0 k (!t212) a0_0 l0_1 l0_2)))
mutual
def spec_ExecSame.j0 : Nat → Bool → List (S39) → List (S82) → Int → Int → List (S39) → List (S82) → Int → Int → Option (Bool)
  | 0, _, _, _, _, _, _, _, _, _ => none
  | k + 1, x36, x220000, x220001, x220002, x220003, x221000, x221001, x221002, x221003 => if x36 = true then (some false) else (spec_ExecSame.l0 k 0 x220000 x220001 x220002 x220003 x221000 x221001 x221002 x221003)
def spec_ExecSame.l0 : Nat → Int → List (S39) → List (S82) → Int → Int → List (S39) → List (S82) → Int → Int → Option (Bool)
  | 0, _, _, _, _, _, _, _, _, _ => none
  | k + 1, x5, x220000, x220001, x220002, x220003, x221000, x221001, x221002, x221003 => if x5 < (x220000.length : Int) then (if 0 ≤ x5 then (if x5 < (x221000.length : Int) then (if (!(((rd_T39 x220000 x5).f0) == ((rd_T39 x221000 x5).f0)) || (!(((rd_T39 x220000 x5).f1) == ((rd_T39 x221000 x5).f1)))) = true then (some false) else (spec_ExecSame.l0 k (wrap64 (x5 + 1)) x220000 x220001 x220002 x220003 x221000 x221001 x221002 x221003)) else (none)) else (none)) else (spec_ExecSame.l1 k 0 x220000 x220001 x220002 x220003 x221000 x221001 x221002 x221003)
def spec_ExecSame.l1 : Nat → Int → List (S39) → List (S82) → Int → Int → List (S39) → List (S82) → Int → Int → Option (Bool)
  | 0, _, _, _, _, _, _, _, _, _ => none
  | k + 1, x6, x220000, x220001, x220002, x220003, x221000, x221001, x221002, x221003 => if x6 < (x220001.length : Int) then (if 0 ≤ x6 then (if x6 < (x221001.length : Int) then (if (!(((rd_T82 x220001 x6).f0) == ((rd_T82 x221001 x6).f0)) || (!(((rd_T82 x220001 x6).f1) == ((rd_T82 x221001 x6).f1)))) = true then (some false) else (spec_ExecSame.l1 k (wrap64 (x6 + 1)) x220000 x220001 x220002 x220003 x221000 x221001 x221002 x221003)) else (none)) else (none)) else (some true)
end
def spec_ExecSame.f (k : Nat) (l0_0 : List (S39)) (l0_1 : List (S82)) (a0_2 : Int) (a0_3 : Int) (l1_0 : List (S39)) (l1_1 : List (S82)) (a1_2 : Int) (a1_3 : Int) : Option (Bool) := if a0_2 = a1_2 then (if a0_3 = a1_3 then (if (l0_0.length : Int) = (l1_0.length : Int) then (spec_ExecSame.j0 k ((l0_1.length : Int) != (l1_1.length : Int)) l0_0 l0_1 a0_2 a0_3 l1_0 l1_1 a1_2 a1_3) else (spec_ExecSame.j0 k true l0_0 l0_1 a0_2 a0_3 l1_0 l1_1 a1_2 a1_3)) else (spec_ExecSame.j0 k true l0_0 l0_1 a0_2 a0_3 l1_0 l1_1 a1_2 a1_3)) else (spec_ExecSame.j0 k true l0_0 l0_1 a0_2 a0_3 l1_0 l1_1 a1_2 a1_3)
def spec_l2Box.f (a0 : Int) : Option (Bool) := if a0 ≥ 0 then (some (decide (a0 < 4))) else (some false)
def spec_l3Saw.l0 : Nat → List (S39) → Int → Int → Option (Bool)
  | 0, _, _, _ => none
  | k + 1, x0, x1, x5 => if x5 < (x0.length : Int) then (if 0 ≤ x5 then (if ((rd_T39 x0 x5).f0) = x1 then (some true) else (spec_l3Saw.l0 k x0 x1 (wrap64 (x5 + 1)))) else (none)) else (some false)
def spec_l3Saw.f (k : Nat) (l0 : List (S39)) (a1 : Int) : Option (Bool) := spec_l3Saw.l0 k l0 a1 0
def spec_l3At.l0 : Nat → List (S82) → Int → Int → Option (Int)
  | 0, _, _, _ => none
  | k + 1, x0, x1, x5 => if x5 < (x0.length : Int) then (if 0 ≤ x5 then (if ((rd_T82 x0 x5).f0) = x1 then (some x5) else (spec_l3At.l0 k x0 x1 (wrap64 (x5 + 1)))) else (none)) else (some (-1))
def spec_l3At.f (k : Nat) (l0 : List (S82)) (a1 : Int) : Option (Int) := spec_l3At.l0 k l0 a1 0
mutual
def spec_ExecOk.j0 : Nat → Bool → List (S39) → List (S82) → Int → Int → Option (Bool)
  | 0, _, _, _, _, _ => none
  | k + 1, x45, x228000, x228001, x228002, x228003 => if x45 = true then (some false) else (spec_ExecOk.l0 k 0 x228000 x228001 x228002 x228003)
def spec_ExecOk.l0 : Nat → Int → List (S39) → List (S82) → Int → Int → Option (Bool)
  | 0, _, _, _, _, _ => none
  | k + 1, x3, x228000, x228001, x228002, x228003 => if x3 < (x228000.length : Int) then (if 0 ≤ x3 then ((spec_l2Box.f ((rd_T39 x228000 x3).f0)).bind fun t230 => (if t230 = true then (if ((rd_T39 x228000 x3).f1) < 0 then (some false) else (if ((rd_T39 x228000 x3).f1) > 1000000 then (some false) else (if x3 ≤ (x228000.length : Int) then ((spec_l3Saw.f k (x228000.take (x3 : Int).toNat) ((rd_T39 x228000 x3).f0)).bind fun t238 => (if t238 = true then (some false) else (spec_ExecOk.l0 k (wrap64 (x3 + 1)) x228000 x228001 x228002 x228003))) else (none)))) else (some false))) else (none)) else (spec_ExecOk.l1 k 0 x228000 x228001 x228002 x228003)
def spec_ExecOk.l1 : Nat → Int → List (S39) → List (S82) → Int → Int → Option (Bool)
  | 0, _, _, _, _, _ => none
  | k + 1, x4, x228000, x228001, x228002, x228003 => if x4 < (x228001.length : Int) then (if 0 ≤ x4 then ((spec_l2Box.f ((rd_T82 x228001 x4).f0)).bind fun t240 => (if t240 = true then ((spec_l1Num.f ((rd_T82 x228001 x4).f1)).bind fun t242 => (if t242 = true then (if x4 ≤ (x228001.length : Int) then ((spec_l3At.f k (x228001.take (x4 : Int).toNat) ((rd_T82 x228001 x4).f0)).bind fun t248 => (if t248 ≥ 0 then (some false) else (spec_ExecOk.l1 k (wrap64 (x4 + 1)) x228000 x228001 x228002 x228003))) else (none)) else (some false))) else (some false))) else (none)) else (some true)
end
def spec_ExecOk.f (k : Nat) (l0_0 : List (S39)) (l0_1 : List (S82)) (a0_2 : Int) (a0_3 : Int) : Option (Bool) := if a0_3 < 0 then (spec_ExecOk.j0 k true l0_0 l0_1 a0_2 a0_3) else (if a0_3 > 3 then (spec_ExecOk.j0 k true l0_0 l0_1 a0_2 a0_3) else ((spec_l1Num.f a0_2).bind fun t228 => (if t228 = true then (if a0_3 = 0 then (if a0_3 = 3 then (spec_ExecOk.j0 k (decide ((l0_0.length : Int) > 0)) l0_0 l0_1 a0_2 a0_3) else (spec_ExecOk.j0 k false l0_0 l0_1 a0_2 a0_3)) else (if a0_2 = 0 then (if (l0_1.length : Int) > 0 then (spec_ExecOk.j0 k true l0_0 l0_1 a0_2 a0_3) else (if a0_3 = 3 then (spec_ExecOk.j0 k (decide ((l0_0.length : Int) > 0)) l0_0 l0_1 a0_2 a0_3) else (spec_ExecOk.j0 k false l0_0 l0_1 a0_2 a0_3))) else (spec_ExecOk.j0 k true l0_0 l0_1 a0_2 a0_3))) else (spec_ExecOk.j0 k true l0_0 l0_1 a0_2 a0_3))))
def spec_CertEntry.f (k : Nat) (a0_0 : Bool) (a0_1 : Int) (a0_2 : Int) (l0_3 : List (S39)) (l0_4 : List (S82)) (a0_5 : Int) (a0_6 : Int) : Option (Bool) := if a0_0 = true then (if (a0_1 == 0 && (a0_2 == 0)) = true then ((spec_ExecSame.f k l0_3 l0_4 a0_5 a0_6 ([] : List (S39)) ([] : List (S82)) 0 0).bind fun t250 => (some t250)) else (some false)) else ((spec_l5Req.f a0_1 a0_2).bind fun t251 => (if t251 = true then ((spec_ExecOk.f k l0_3 l0_4 a0_5 a0_6).bind fun t252 => (if t252 = true then (some (a0_6 != 3)) else (some false))) else (some false)))
mutual
def spec_ExecFresh.j0 : Nat → List (S37) → Bool → List (S39) → List (S82) → Int → Int → Option (Bool)
  | 0, _, _, _, _, _, _ => none
  | k + 1, x0, x13, x254000, x254001, x254002, x254003 => if x13 = true then (some false) else (spec_ExecFresh.l0 k x0 0 x254000 x254001 x254002 x254003)
def spec_ExecFresh.l0 : Nat → List (S37) → Int → List (S39) → List (S82) → Int → Int → Option (Bool)
  | 0, _, _, _, _, _, _ => none
  | k + 1, x0, x5, x254000, x254001, x254002, x254003 => if x5 < (x254000.length : Int) then (if 0 ≤ x5 then (if 0 ≤ ((rd_T39 x254000 x5).f0) then (if ((rd_T39 x254000 x5).f0) < (x0.length : Int) then (if ((rd_T37 x0 ((rd_T39 x254000 x5).f0)).f0) = ((rd_T39 x254000 x5).f1) then (spec_ExecFresh.l0 k x0 (wrap64 (x5 + 1)) x254000 x254001 x254002 x254003) else (some false)) else (none)) else (none)) else (none)) else (some true)
end
def spec_ExecFresh.f (k : Nat) (l0 : List (S37)) (l1_0 : List (S39)) (l1_1 : List (S82)) (a1_2 : Int) (a1_3 : Int) : Option (Bool) := (spec_BoxOk.f k l0).bind fun t254 => (if t254 = true then ((spec_ExecOk.f k l1_0 l1_1 a1_2 a1_3).bind fun t255 => (spec_ExecFresh.j0 k l0 (!t255) l1_0 l1_1 a1_2 a1_3)) else (spec_ExecFresh.j0 k l0 true l1_0 l1_1 a1_2 a1_3))
def spec_l1Min.f (a0 : Int) (a1 : Int) : Option (Int) := if a0 < a1 then (some a0) else (some a1)
def spec_l3Do.l0 : Nat → List (S37) → Int → List (S39) → List (S82) → Int → Int → Option ((List (S37)))
  | 0, _, _, _, _, _, _ => none
  | k + 1, x0, x5, x260000, x260001, x260002, x260003 => if x5 < (x260001.length : Int) then (if 0 ≤ x5 then (if 0 ≤ ((rd_T82 x260001 x5).f0) then (if ((rd_T82 x260001 x5).f0) < (x0.length : Int) then ((spec_l1Min.f 1000000 (wrap64 (((rd_T37 x0 ((rd_T82 x260001 x5).f0)).f0) + 1))).bind fun t262 => (spec_l3Do.l0 k (x0.set (((rd_T82 x260001 x5).f0) : Int).toNat (⟨t262, (rd_T82 x260001 x5).f1⟩ : S37)) (wrap64 (x5 + 1)) x260000 x260001 x260002 x260003)) else (none)) else (none)) else (none)) else (some x0)
def spec_l3Do.f (k : Nat) (l0 : List (S37)) (l1_0 : List (S39)) (l1_1 : List (S82)) (a1_2 : Int) (a1_3 : Int) : Option ((List (S37))) := spec_l3Do.l0 k l0 0 l1_0 l1_1 a1_2 a1_3
def spec_l5Last.l0 : Nat → Int → Int → Int → List (S37) → List (S84) → Option (Int × Int × Int × Int × Bool)
  | 0, _, _, _, _, _ => none
  | k + 1, x1, x6, x266000, x266001, x266002 => if x6 < (x266002.length : Int) then (if 0 ≤ x6 then (if ((rd_T84 x266002 x6).f0.f0) = x1 then (some ((rd_T84 x266002 x6).f0.f0, (rd_T84 x266002 x6).f0.f1, (rd_T84 x266002 x6).f1, (rd_T84 x266002 x6).f2, true)) else (spec_l5Last.l0 k x1 (wrap64 (x6 + 1)) x266000 x266001 x266002)) else (none)) else (some (0, 0, 0, 0, false))
def spec_l5Last.f (k : Nat) (a0_0 : Int) (l0_1 : List (S37)) (l0_2 : List (S84)) (a1 : Int) : Option (Int × Int × Int × Int × Bool) := spec_l5Last.l0 k a1 0 a0_0 l0_1 l0_2
mutual
def spec_l5Put.l0 : Nat → List (S84) → List (S84) → Bool → Int → Int → Int → Int → Int → Option ((List (S84)))
  | 0, _, _, _, _, _, _, _, _ => none
  | k + 1, x0, x5, x6, x7, x270000, x270001, x270002, x270003 => if x7 < (x0.length : Int) then (if x6 = true then (spec_l5Put.j1 k x0 x5 x6 x7 false x270000 x270001 x270002 x270003) else (if 0 ≤ x7 then (spec_l5Put.j1 k x0 x5 x6 x7 (decide (((rd_T84 x0 x7).f0.f0) ≥ x270000)) x270000 x270001 x270002 x270003) else (none))) else (if x6 = true then (some x5) else (if x5.length < 4398046511104 then (some (x5 ++ [(⟨(⟨x270000, x270001⟩ : S75), x270002, x270003⟩ : S84)])) else (none)))
def spec_l5Put.j1 : Nat → List (S84) → List (S84) → Bool → Int → Bool → Int → Int → Int → Int → Option ((List (S84)))
  | 0, _, _, _, _, _, _, _, _, _ => none
  | k + 1, x0, x5, x6, x7, x28, x270000, x270001, x270002, x270003 => if x28 = true then (if x5.length < 4398046511104 then ((some (x5 ++ [(⟨(⟨x270000, x270001⟩ : S75), x270002, x270003⟩ : S84)] : List (S84))).bind fun y277 => (if 0 ≤ x7 then (if x7 < (x0.length : Int) then (if ((rd_T84 x0 x7).f0.f0) = x270000 then (spec_l5Put.l0 k x0 y277 true (wrap64 (x7 + 1)) x270000 x270001 x270002 x270003) else (if y277.length < 4398046511104 then (spec_l5Put.l0 k x0 (y277 ++ [(⟨(⟨(rd_T84 x0 x7).f0.f0, (rd_T84 x0 x7).f0.f1⟩ : S75), (rd_T84 x0 x7).f1, (rd_T84 x0 x7).f2⟩ : S84)]) true (wrap64 (x7 + 1)) x270000 x270001 x270002 x270003) else (none))) else (none)) else (none))) else (none)) else (if 0 ≤ x7 then (if x7 < (x0.length : Int) then (if ((rd_T84 x0 x7).f0.f0) = x270000 then (spec_l5Put.l0 k x0 x5 x6 (wrap64 (x7 + 1)) x270000 x270001 x270002 x270003) else (if x5.length < 4398046511104 then (spec_l5Put.l0 k x0 (x5 ++ [(⟨(⟨(rd_T84 x0 x7).f0.f0, (rd_T84 x0 x7).f0.f1⟩ : S75), (rd_T84 x0 x7).f1, (rd_T84 x0 x7).f2⟩ : S84)]) x6 (wrap64 (x7 + 1)) x270000 x270001 x270002 x270003) else (none))) else (none)) else (none))
end
def spec_l5Put.f (k : Nat) (l0 : List (S84)) (a1_0 : Int) (a1_1 : Int) (a1_2 : Int) (a1_3 : Int) : Option ((List (S84))) := spec_l5Put.l0 k l0 (([] : List (S84))) false 0 a1_0 a1_1 a1_2 a1_3
mutual
def spec_l5Apply.j1 : Nat → Int → List (S37) → List (S84) → Bool → Int → Int → List (S39) → List (S82) → Int → Int → Option (Int × (List (S37)) × (List (S84)) × Int)
  | 0, _, _, _, _, _, _, _, _, _, _ => none
  | k + 1, x291000, x291001, x291002, x292000, x292001, x292002, x292003, x292004, x292005, x292006 => (spec_ExecFresh.f k x291001 x292003 x292004 x292005 x292006).bind fun t300 => (if t300 = true then (spec_l5Apply.j2 k x291000 x291001 x291002 x292000 x292001 x292002 x292003 x292004 x292005 x292006 x292001 x292002 2 0) else (spec_l5Apply.j2 k x291000 x291001 x291002 x292000 x292001 x292002 x292003 x292004 x292005 x292006 x292001 x292002 1 0))
def spec_l5Apply.j2 : Nat → Int → List (S37) → List (S84) → Bool → Int → Int → List (S39) → List (S82) → Int → Int → Int → Int → Int → Int → Option (Int × (List (S37)) × (List (S84)) × Int)
  | 0, _, _, _, _, _, _, _, _, _, _, _, _, _, _ => none
  | k + 1, x291000, x291001, x291002, x292000, x292001, x292002, x292003, x292004, x292005, x292006, x300000, x300001, x300002, x300003 => if x300002 = 2 then (spec_l5Apply.j3 k (x292006 == 0) x291000 x291001 x291002 x292000 x292001 x292002 x292003 x292004 x292005 x292006 x300000 x300001 x300002 x300003) else (spec_l5Apply.j3 k false x291000 x291001 x291002 x292000 x292001 x292002 x292003 x292004 x292005 x292006 x300000 x300001 x300002 x300003)
def spec_l5Apply.j3 : Nat → Bool → Int → List (S37) → List (S84) → Bool → Int → Int → List (S39) → List (S82) → Int → Int → Int → Int → Int → Int → Option (Int × (List (S37)) × (List (S84)) × Int)
  | 0, _, _, _, _, _, _, _, _, _, _, _, _, _, _, _ => none
  | k + 1, x63, x291000, x291001, x291002, x292000, x292001, x292002, x292003, x292004, x292005, x292006, x300000, x300001, x300002, x300003 => if x63 = true then ((spec_l3Do.f k x291001 x292003 x292004 x292005 x292006).bind fun t301 => ((spec_l5Put.f k x291002 x300000 x300001 0 x292005).bind fun t304 => (some (x291000, t301, t304, 0)))) else ((spec_l5Put.f k x291002 x300000 x300001 x300002 x300003).bind fun t307 => (some (x291000, x291001, t307, x300002)))
def spec_l5Apply.j0 : Nat → Bool → Bool → Int → List (S37) → List (S84) → Bool → Int → Int → List (S39) → List (S82) → Int → Int → Int → Int → Int → Int → Option (Int × (List (S37)) × (List (S84)) × Int)
  | 0, _, _, _, _, _, _, _, _, _, _, _, _, _, _, _, _ => none
  | k + 1, x7, x24, x291000, x291001, x291002, x292000, x292001, x292002, x292003, x292004, x292005, x292006, x299000, x299001, x299002, x299003 => if x24 = true then (some (x291000, x291001, x291002, 3)) else (if x7 = true then (if x299001 > x292002 then (some (x291000, x291001, x291002, 4)) else (spec_l5Apply.j1 k x291000 x291001 x291002 x292000 x292001 x292002 x292003 x292004 x292005 x292006)) else (spec_l5Apply.j1 k x291000 x291001 x291002 x292000 x292001 x292002 x292003 x292004 x292005 x292006))
end
def spec_l5Apply.f (k : Nat) (a0_0 : Int) (l0_1 : List (S37)) (l0_2 : List (S84)) (a1_0 : Bool) (a1_1 : Int) (a1_2 : Int) (l1_3 : List (S39)) (l1_4 : List (S82)) (a1_5 : Int) (a1_6 : Int) : Option (Int × (List (S37)) × (List (S84)) × Int) := if a1_0 = true then (some (wrap64 (a0_0 + 1), l0_1, l0_2, 5)) else ((spec_l5Last.f k (wrap64 (a0_0 + 1)) l0_1 l0_2 a1_1).bind fun bt293 => (if bt293.2.2.2.2 = true then (spec_l5Apply.j0 k bt293.2.2.2.2 (bt293.1 == a1_1 && (bt293.2.1 == a1_2)) (wrap64 (a0_0 + 1)) l0_1 l0_2 a1_0 a1_1 a1_2 l1_3 l1_4 a1_5 a1_6 bt293.1 bt293.2.1 bt293.2.2.1 bt293.2.2.2.1) else (spec_l5Apply.j0 k bt293.2.2.2.2 false (wrap64 (a0_0 + 1)) l0_1 l0_2 a1_0 a1_1 a1_2 l1_3 l1_4 a1_5 a1_6 bt293.1 bt293.2.1 bt293.2.2.1 bt293.2.2.2.1)))
def spec_l1Copy.f (l0 : List (S37)) : Option ((List (S37))) := (some (([] : List (S37)) : List (S37))).bind fun y310 => (if y310.length + l0.length < 8796093022208 then (some (y310 ++ l0)) else (none))
def spec_l5Copy.f (a0_0 : Int) (l0_1 : List (S37)) (l0_2 : List (S84)) : Option (Int × (List (S37)) × (List (S84))) := (spec_l1Copy.f l0_1).bind fun t318 => ((some (([] : List (S84)) : List (S84))).bind fun y321 => (if y321.length + l0_2.length < 4398046511104 then (some (a0_0, t318, (y321 ++ l0_2))) else (none)))
def spec_CertApply.j0 : Nat → Bool → Int → List (S37) → List (S84) → Bool → Int → Int → List (S39) → List (S82) → Int → Int → Option (Int × (List (S37)) × (List (S84)) × Int)
  | 0, _, _, _, _, _, _, _, _, _, _, _ => none
  | k + 1, x18, x328000, x328001, x328002, x329000, x329001, x329002, x329003, x329004, x329005, x329006 => if x18 = true then (some (0, ([] : List (S37)), ([] : List (S84)), (-1))) else ((spec_l5Copy.f x328000 x328001 x328002).bind fun bt332 => ((spec_l5Apply.f k bt332.1 bt332.2.1 bt332.2.2 x329000 x329001 x329002 x329003 x329004 x329005 x329006).bind fun bt339 => (some (bt339.1, bt339.2.1, bt339.2.2.1, bt339.2.2.2))))
def spec_CertApply.f (k : Nat) (a0_0 : Int) (l0_1 : List (S37)) (l0_2 : List (S84)) (a1_0 : Bool) (a1_1 : Int) (a1_2 : Int) (l1_3 : List (S39)) (l1_4 : List (S82)) (a1_5 : Int) (a1_6 : Int) : Option (Int × (List (S37)) × (List (S84)) × Int) := (spec_CertOk.f k a0_0 l0_1 l0_2).bind fun t330 => (if t330 = true then ((spec_CertEntry.f k a1_0 a1_1 a1_2 l1_3 l1_4 a1_5 a1_6).bind fun t331 => (if t331 = true then (spec_CertApply.j0 k (a0_0 == 40) a0_0 l0_1 l0_2 a1_0 a1_1 a1_2 l1_3 l1_4 a1_5 a1_6) else (spec_CertApply.j0 k true a0_0 l0_1 l0_2 a1_0 a1_1 a1_2 l1_3 l1_4 a1_5 a1_6))) else (spec_CertApply.j0 k true a0_0 l0_1 l0_2 a1_0 a1_1 a1_2 l1_3 l1_4 a1_5 a1_6))
def laws_szBoxS.f (l0 : List (S136)) (a1 : Int) : Option (Int) := if (wrap64 (a1 - (l0.length : Int))) < 0 then (some (-1)) else (some (wrap64 (a1 - (l0.length : Int))))
def laws_szDoneS.f (l0 : List (S189)) (a1 : Int) : Option (Int) := if (wrap64 (a1 - (l0.length : Int))) < 0 then (some (-1)) else (some (wrap64 (a1 - (l0.length : Int))))
def laws_szState.f (a0_0 : Int) (l0_1 : List (S136)) (l0_2 : List (S189)) (a1 : Int) : Option (Int) := (laws_szBoxS.f l0_1 a1).bind fun t348 => (if t348 < 0 then (some (-1)) else ((laws_szDoneS.f l0_2 t348).bind fun t349 => (if t349 < 0 then (some (-1)) else (some t349))))
def laws_szReadS.f (l0 : List (S196)) (a1 : Int) : Option (Int) := if (wrap64 (a1 - (l0.length : Int))) < 0 then (some (-1)) else (some (wrap64 (a1 - (l0.length : Int))))
def laws_szPutS.f (l0 : List (S198)) (a1 : Int) : Option (Int) := if (wrap64 (a1 - (l0.length : Int))) < 0 then (some (-1)) else (some (wrap64 (a1 - (l0.length : Int))))
def laws_szRun.f (l0_0 : List (S196)) (l0_1 : List (S198)) (a0_2 : Int) (a0_3 : Int) (a1 : Int) : Option (Int) := (laws_szReadS.f l0_0 a1).bind fun t351 => (if t351 < 0 then (some (-1)) else ((laws_szPutS.f l0_1 t351).bind fun t352 => (if t352 < 0 then (some (-1)) else (some t352))))
def laws_szEntry.f (a0_0 : Bool) (a0_1 : Int) (a0_2 : Int) (l0_3 : List (S196)) (l0_4 : List (S198)) (a0_5 : Int) (a0_6 : Int) (a1 : Int) : Option (Int) := (laws_szRun.f l0_3 l0_4 a0_5 a0_6 a1).bind fun t354 => (if t354 < 0 then (some (-1)) else (some t354))
def laws_toBox.f (a0_0 : Int) (a0_1 : Int) : Option (Int × Int) := some (a0_0, a0_1)
def laws_toBoxS.l0 : Nat → List (S136) → List (S37) → Int → Option ((List (S37)))
  | 0, _, _, _ => none
  | k + 1, x0, x3, x4 => if x4 < (x0.length : Int) then (if 0 ≤ x4 then ((laws_toBox.f ((rd_T136 x0 x4).f0) ((rd_T136 x0 x4).f1)).bind fun bt362 => (if x4 < (x3.length : Int) then (laws_toBoxS.l0 k x0 (x3.set (x4 : Int).toNat (⟨bt362.1, bt362.2⟩ : S37)) (wrap64 (x4 + 1))) else (none))) else (none)) else (some x3)
def laws_toBoxS.f (k : Nat) (l0 : List (S136)) : Option ((List (S37))) := if 0 ≤ (l0.length : Int) then (if ((l0.length : Int) : Int).toNat ≤ 17592186044416 then (laws_toBoxS.l0 k l0 (List.replicate ((l0.length : Int) : Int).toNat z37) 0) else (none)) else (none)
def laws_toReq.f (a0_0 : Int) (a0_1 : Int) : Option (Int × Int) := some (a0_0, a0_1)
def laws_toDone.f (a0_0 : Int) (a0_1 : Int) (a0_2 : Int) (a0_3 : Int) : Option (Int × Int × Int × Int) := (laws_toReq.f a0_0 a0_1).bind fun bt371 => (some (bt371.1, bt371.2, a0_2, a0_3))
def laws_toDoneS.l0 : Nat → List (S189) → List (S84) → Int → Option ((List (S84)))
  | 0, _, _, _ => none
  | k + 1, x0, x3, x4 => if x4 < (x0.length : Int) then (if 0 ≤ x4 then ((laws_toDone.f ((rd_T189 x0 x4).f0.f0) ((rd_T189 x0 x4).f0.f1) ((rd_T189 x0 x4).f1) ((rd_T189 x0 x4).f2)).bind fun bt377 => (if x4 < (x3.length : Int) then (laws_toDoneS.l0 k x0 (x3.set (x4 : Int).toNat (⟨(⟨bt377.1, bt377.2.1⟩ : S75), bt377.2.2.1, bt377.2.2.2⟩ : S84)) (wrap64 (x4 + 1))) else (none))) else (none)) else (some x3)
def laws_toDoneS.f (k : Nat) (l0 : List (S189)) : Option ((List (S84))) := if 0 ≤ (l0.length : Int) then (if ((l0.length : Int) : Int).toNat ≤ 8796093022208 then (laws_toDoneS.l0 k l0 (List.replicate ((l0.length : Int) : Int).toNat z84) 0) else (none)) else (none)
def laws_toState.f (k : Nat) (a0_0 : Int) (l0_1 : List (S136)) (l0_2 : List (S189)) : Option (Int × (List (S37)) × (List (S84))) := (laws_toBoxS.f k l0_1).bind fun t385 => ((laws_toDoneS.f k l0_2).bind fun t388 => (some (a0_0, t385, t388)))
def laws_toRead.f (a0_0 : Int) (a0_1 : Int) : Option (Int × Int) := some (a0_0, a0_1)
def laws_toReadS.l0 : Nat → List (S196) → List (S39) → Int → Option ((List (S39)))
  | 0, _, _, _ => none
  | k + 1, x0, x3, x4 => if x4 < (x0.length : Int) then (if 0 ≤ x4 then ((laws_toRead.f ((rd_T196 x0 x4).f0) ((rd_T196 x0 x4).f1)).bind fun bt398 => (if x4 < (x3.length : Int) then (laws_toReadS.l0 k x0 (x3.set (x4 : Int).toNat (⟨bt398.1, bt398.2⟩ : S39)) (wrap64 (x4 + 1))) else (none))) else (none)) else (some x3)
def laws_toReadS.f (k : Nat) (l0 : List (S196)) : Option ((List (S39))) := if 0 ≤ (l0.length : Int) then (if ((l0.length : Int) : Int).toNat ≤ 17592186044416 then (laws_toReadS.l0 k l0 (List.replicate ((l0.length : Int) : Int).toNat z39) 0) else (none)) else (none)
def laws_toPut.f (a0_0 : Int) (a0_1 : Int) : Option (Int × Int) := some (a0_0, a0_1)
def laws_toPutS.l0 : Nat → List (S198) → List (S82) → Int → Option ((List (S82)))
  | 0, _, _, _ => none
  | k + 1, x0, x3, x4 => if x4 < (x0.length : Int) then (if 0 ≤ x4 then ((laws_toPut.f ((rd_T198 x0 x4).f0) ((rd_T198 x0 x4).f1)).bind fun bt408 => (if x4 < (x3.length : Int) then (laws_toPutS.l0 k x0 (x3.set (x4 : Int).toNat (⟨bt408.1, bt408.2⟩ : S82)) (wrap64 (x4 + 1))) else (none))) else (none)) else (some x3)
def laws_toPutS.f (k : Nat) (l0 : List (S198)) : Option ((List (S82))) := if 0 ≤ (l0.length : Int) then (if ((l0.length : Int) : Int).toNat ≤ 17592186044416 then (laws_toPutS.l0 k l0 (List.replicate ((l0.length : Int) : Int).toNat z82) 0) else (none)) else (none)
def laws_toRun.f (k : Nat) (l0_0 : List (S196)) (l0_1 : List (S198)) (a0_2 : Int) (a0_3 : Int) : Option ((List (S39)) × (List (S82)) × Int × Int) := (laws_toReadS.f k l0_0).bind fun t414 => ((laws_toPutS.f k l0_1).bind fun t417 => (some (t414, t417, a0_2, a0_3)))
def laws_toEntry.f (k : Nat) (a0_0 : Bool) (a0_1 : Int) (a0_2 : Int) (l0_3 : List (S196)) (l0_4 : List (S198)) (a0_5 : Int) (a0_6 : Int) : Option (Bool × Int × Int × (List (S39)) × (List (S82)) × Int × Int) := (laws_toReq.f a0_1 a0_2).bind fun bt423 => ((laws_toRun.f k l0_3 l0_4 a0_5 a0_6).bind fun bt425 => (some (a0_0, bt423.1, bt423.2, bt425.1, bt425.2.1, bt425.2.2.1, bt425.2.2.2)))
def laws_eqBox.f (a0_0 : Int) (a0_1 : Int) (a1_0 : Int) (a1_1 : Int) : Option (Bool) := if a0_0 = a1_0 then (if a0_1 = a1_1 then (some true) else (some false)) else (some false)
def laws_eqBoxS.l0 : Nat → List (S37) → List (S37) → Int → Option (Bool)
  | 0, _, _, _ => none
  | k + 1, x0, x1, x5 => if x5 < (x0.length : Int) then (if 0 ≤ x5 then (if x5 < (x1.length : Int) then ((laws_eqBox.f ((rd_T37 x0 x5).f0) ((rd_T37 x0 x5).f1) ((rd_T37 x1 x5).f0) ((rd_T37 x1 x5).f1)).bind fun t437 => (if t437 = true then (laws_eqBoxS.l0 k x0 x1 (wrap64 (x5 + 1))) else (some false))) else (none)) else (none)) else (some true)
def laws_eqBoxS.f (k : Nat) (l0 : List (S37)) (l1 : List (S37)) : Option (Bool) := if (l0.length : Int) = (l1.length : Int) then (laws_eqBoxS.l0 k l0 l1 0) else (some false)
def laws_eqReq.f (a0_0 : Int) (a0_1 : Int) (a1_0 : Int) (a1_1 : Int) : Option (Bool) := if a0_0 = a1_0 then (if a0_1 = a1_1 then (some true) else (some false)) else (some false)
def laws_eqDone.f (a0_0 : Int) (a0_1 : Int) (a0_2 : Int) (a0_3 : Int) (a1_0 : Int) (a1_1 : Int) (a1_2 : Int) (a1_3 : Int) : Option (Bool) := (laws_eqReq.f a0_0 a0_1 a1_0 a1_1).bind fun t442 => (if t442 = true then (if a0_2 = a1_2 then (if a0_3 = a1_3 then (some true) else (some false)) else (some false)) else (some false))
def laws_eqDoneS.l0 : Nat → List (S84) → List (S84) → Int → Option (Bool)
  | 0, _, _, _ => none
  | k + 1, x0, x1, x5 => if x5 < (x0.length : Int) then (if 0 ≤ x5 then (if x5 < (x1.length : Int) then ((laws_eqDone.f ((rd_T84 x0 x5).f0.f0) ((rd_T84 x0 x5).f0.f1) ((rd_T84 x0 x5).f1) ((rd_T84 x0 x5).f2) ((rd_T84 x1 x5).f0.f0) ((rd_T84 x1 x5).f0.f1) ((rd_T84 x1 x5).f1) ((rd_T84 x1 x5).f2)).bind fun t445 => (if t445 = true then (laws_eqDoneS.l0 k x0 x1 (wrap64 (x5 + 1))) else (some false))) else (none)) else (none)) else (some true)
def laws_eqDoneS.f (k : Nat) (l0 : List (S84)) (l1 : List (S84)) : Option (Bool) := if (l0.length : Int) = (l1.length : Int) then (laws_eqDoneS.l0 k l0 l1 0) else (some false)
def laws_eqState.f (k : Nat) (a0_0 : Int) (l0_1 : List (S37)) (l0_2 : List (S84)) (a1_0 : Int) (l1_1 : List (S37)) (l1_2 : List (S84)) : Option (Bool) := if a0_0 = a1_0 then ((laws_eqBoxS.f k l0_1 l1_1).bind fun t448 => (if t448 = true then ((laws_eqDoneS.f k l0_2 l1_2).bind fun t449 => (if t449 = true then (some true) else (some false))) else (some false))) else (some false)
def laws_eqRead.f (a0_0 : Int) (a0_1 : Int) (a1_0 : Int) (a1_1 : Int) : Option (Bool) := if a0_0 = a1_0 then (if a0_1 = a1_1 then (some true) else (some false)) else (some false)
def laws_eqReadS.l0 : Nat → List (S39) → List (S39) → Int → Option (Bool)
  | 0, _, _, _ => none
  | k + 1, x0, x1, x5 => if x5 < (x0.length : Int) then (if 0 ≤ x5 then (if x5 < (x1.length : Int) then ((laws_eqRead.f ((rd_T39 x0 x5).f0) ((rd_T39 x0 x5).f1) ((rd_T39 x1 x5).f0) ((rd_T39 x1 x5).f1)).bind fun t454 => (if t454 = true then (laws_eqReadS.l0 k x0 x1 (wrap64 (x5 + 1))) else (some false))) else (none)) else (none)) else (some true)
def laws_eqReadS.f (k : Nat) (l0 : List (S39)) (l1 : List (S39)) : Option (Bool) := if (l0.length : Int) = (l1.length : Int) then (laws_eqReadS.l0 k l0 l1 0) else (some false)
def laws_eqPut.f (a0_0 : Int) (a0_1 : Int) (a1_0 : Int) (a1_1 : Int) : Option (Bool) := if a0_0 = a1_0 then (if a0_1 = a1_1 then (some true) else (some false)) else (some false)
def laws_eqPutS.l0 : Nat → List (S82) → List (S82) → Int → Option (Bool)
  | 0, _, _, _ => none
  | k + 1, x0, x1, x5 => if x5 < (x0.length : Int) then (if 0 ≤ x5 then (if x5 < (x1.length : Int) then ((laws_eqPut.f ((rd_T82 x0 x5).f0) ((rd_T82 x0 x5).f1) ((rd_T82 x1 x5).f0) ((rd_T82 x1 x5).f1)).bind fun t459 => (if t459 = true then (laws_eqPutS.l0 k x0 x1 (wrap64 (x5 + 1))) else (some false))) else (none)) else (none)) else (some true)
def laws_eqPutS.f (k : Nat) (l0 : List (S82)) (l1 : List (S82)) : Option (Bool) := if (l0.length : Int) = (l1.length : Int) then (laws_eqPutS.l0 k l0 l1 0) else (some false)
def laws_eqRun.f (k : Nat) (l0_0 : List (S39)) (l0_1 : List (S82)) (a0_2 : Int) (a0_3 : Int) (l1_0 : List (S39)) (l1_1 : List (S82)) (a1_2 : Int) (a1_3 : Int) : Option (Bool) := (laws_eqReadS.f k l0_0 l1_0).bind fun t462 => (if t462 = true then ((laws_eqPutS.f k l0_1 l1_1).bind fun t463 => (if t463 = true then (if a0_2 = a1_2 then (if a0_3 = a1_3 then (some true) else (some false)) else (some false)) else (some false))) else (some false))
def laws_eqEntry.f (k : Nat) (a0_0 : Bool) (a0_1 : Int) (a0_2 : Int) (l0_3 : List (S39)) (l0_4 : List (S82)) (a0_5 : Int) (a0_6 : Int) (a1_0 : Bool) (a1_1 : Int) (a1_2 : Int) (l1_3 : List (S39)) (l1_4 : List (S82)) (a1_5 : Int) (a1_6 : Int) : Option (Bool) := if (a0_0 != a1_0) = true then (some false) else ((laws_eqReq.f a0_1 a0_2 a1_1 a1_2).bind fun t466 => (if t466 = true then ((laws_eqRun.f k l0_3 l0_4 a0_5 a0_6 l1_3 l1_4 a1_5 a1_6).bind fun t467 => (if t467 = true then (some true) else (some false))) else (some false)))
def laws_markBoxS.l0 : Nat → List (S37) → Int → Int → Option (Int × (List (S37)))
  | 0, _, _, _ => none
  | k + 1, x0, x1, x5 => if x5 < (x0.length : Int) then (if 0 ≤ x5 then ((some (x0.set (x5 : Int).toNat (⟨x1, (rd_T37 x0 x5).f1⟩ : S37) : List (S37))).bind fun y468 => (laws_markBoxS.l0 k (y468.set (x5 : Int).toNat (⟨(rd_T37 y468 x5).f0, wrap64 (x1 + 1)⟩ : S37)) (wrap64 ((wrap64 (x1 + 1)) + 1)) (wrap64 (x5 + 1)))) else (none)) else (some (x1, x0))
def laws_markBoxS.f (k : Nat) (l0 : List (S37)) (a1 : Int) : Option (Int × (List (S37))) := laws_markBoxS.l0 k l0 a1 0
def laws_markDoneS.l0 : Nat → List (S84) → Int → Int → Option (Int × (List (S84)))
  | 0, _, _, _ => none
  | k + 1, x0, x1, x5 => if x5 < (x0.length : Int) then (if 0 ≤ x5 then ((some (x0.set (x5 : Int).toNat (⟨(⟨x1, (rd_T84 x0 x5).f0.f1⟩ : S75), (rd_T84 x0 x5).f1, (rd_T84 x0 x5).f2⟩ : S84) : List (S84))).bind fun y470 => ((some (y470.set (x5 : Int).toNat (⟨(⟨(rd_T84 y470 x5).f0.f0, wrap64 (x1 + 1)⟩ : S75), (rd_T84 y470 x5).f1, (rd_T84 y470 x5).f2⟩ : S84) : List (S84))).bind fun y471 => ((some (y471.set (x5 : Int).toNat (⟨(⟨(rd_T84 y471 x5).f0.f0, (rd_T84 y471 x5).f0.f1⟩ : S75), wrap64 ((wrap64 (x1 + 1)) + 1), (rd_T84 y471 x5).f2⟩ : S84) : List (S84))).bind fun y472 => (laws_markDoneS.l0 k (y472.set (x5 : Int).toNat (⟨(⟨(rd_T84 y472 x5).f0.f0, (rd_T84 y472 x5).f0.f1⟩ : S75), (rd_T84 y472 x5).f1, wrap64 ((wrap64 ((wrap64 (x1 + 1)) + 1)) + 1)⟩ : S84)) (wrap64 ((wrap64 ((wrap64 ((wrap64 (x1 + 1)) + 1)) + 1)) + 1)) (wrap64 (x5 + 1)))))) else (none)) else (some (x1, x0))
def laws_markDoneS.f (k : Nat) (l0 : List (S84)) (a1 : Int) : Option (Int × (List (S84))) := laws_markDoneS.l0 k l0 a1 0
def laws_markState.f (k : Nat) (a0_0 : Int) (l0_1 : List (S37)) (l0_2 : List (S84)) (a1 : Int) : Option (Int × (List (S37)) × (List (S84))) := (laws_markBoxS.f k l0_1 a1).bind fun bt475 => ((laws_markDoneS.f k l0_2 bt475.1).bind fun bt477 => (some (bt477.1, bt475.2, bt477.2)))
def laws_markReadS.l0 : Nat → List (S39) → Int → Int → Option (Int × (List (S39)))
  | 0, _, _, _ => none
  | k + 1, x0, x1, x5 => if x5 < (x0.length : Int) then (if 0 ≤ x5 then ((some (x0.set (x5 : Int).toNat (⟨x1, (rd_T39 x0 x5).f1⟩ : S39) : List (S39))).bind fun y479 => (laws_markReadS.l0 k (y479.set (x5 : Int).toNat (⟨(rd_T39 y479 x5).f0, wrap64 (x1 + 1)⟩ : S39)) (wrap64 ((wrap64 (x1 + 1)) + 1)) (wrap64 (x5 + 1)))) else (none)) else (some (x1, x0))
def laws_markReadS.f (k : Nat) (l0 : List (S39)) (a1 : Int) : Option (Int × (List (S39))) := laws_markReadS.l0 k l0 a1 0
def laws_markPutS.l0 : Nat → List (S82) → Int → Int → Option (Int × (List (S82)))
  | 0, _, _, _ => none
  | k + 1, x0, x1, x5 => if x5 < (x0.length : Int) then (if 0 ≤ x5 then ((some (x0.set (x5 : Int).toNat (⟨x1, (rd_T82 x0 x5).f1⟩ : S82) : List (S82))).bind fun y481 => (laws_markPutS.l0 k (y481.set (x5 : Int).toNat (⟨(rd_T82 y481 x5).f0, wrap64 (x1 + 1)⟩ : S82)) (wrap64 ((wrap64 (x1 + 1)) + 1)) (wrap64 (x5 + 1)))) else (none)) else (some (x1, x0))
def laws_markPutS.f (k : Nat) (l0 : List (S82)) (a1 : Int) : Option (Int × (List (S82))) := laws_markPutS.l0 k l0 a1 0
def laws_markRun.f (k : Nat) (l0_0 : List (S39)) (l0_1 : List (S82)) (a0_2 : Int) (a0_3 : Int) (a1 : Int) : Option (Int × (List (S39)) × (List (S82))) := (laws_markReadS.f k l0_0 a1).bind fun bt484 => ((laws_markPutS.f k l0_1 bt484.1).bind fun bt486 => (some (bt486.1, bt484.2, bt486.2)))
def laws_markEntry.f (k : Nat) (a0_0 : Bool) (a0_1 : Int) (a0_2 : Int) (l0_3 : List (S39)) (l0_4 : List (S82)) (a0_5 : Int) (a0_6 : Int) (a1 : Int) : Option (Int × (List (S39)) × (List (S82))) := (laws_markRun.f k l0_3 l0_4 a0_5 a0_6 a1).bind fun bt489 => (some (bt489.1, bt489.2.1, bt489.2.2))
def laws_heldBoxS.l0 : Nat → List (S37) → Int → Int → Option (Int)
  | 0, _, _, _ => none
  | k + 1, x0, x1, x5 => if x5 < (x0.length : Int) then (if 0 ≤ x5 then (if ((rd_T37 x0 x5).f0) = x1 then (if ((rd_T37 x0 x5).f1) = (wrap64 (x1 + 1)) then (laws_heldBoxS.l0 k x0 (wrap64 ((wrap64 (x1 + 1)) + 1)) (wrap64 (x5 + 1))) else (some (-1))) else (some (-1))) else (none)) else (some x1)
def laws_heldBoxS.f (k : Nat) (l0 : List (S37)) (a1 : Int) : Option (Int) := laws_heldBoxS.l0 k l0 a1 0
def laws_heldDoneS.l0 : Nat → List (S84) → Int → Int → Option (Int)
  | 0, _, _, _ => none
  | k + 1, x0, x1, x5 => if x5 < (x0.length : Int) then (if 0 ≤ x5 then (if ((rd_T84 x0 x5).f0.f0) = x1 then (if ((rd_T84 x0 x5).f0.f1) = (wrap64 (x1 + 1)) then (if ((rd_T84 x0 x5).f1) = (wrap64 ((wrap64 (x1 + 1)) + 1)) then (if ((rd_T84 x0 x5).f2) = (wrap64 ((wrap64 ((wrap64 (x1 + 1)) + 1)) + 1)) then (laws_heldDoneS.l0 k x0 (wrap64 ((wrap64 ((wrap64 ((wrap64 (x1 + 1)) + 1)) + 1)) + 1)) (wrap64 (x5 + 1))) else (some (-1))) else (some (-1))) else (some (-1))) else (some (-1))) else (none)) else (some x1)
def laws_heldDoneS.f (k : Nat) (l0 : List (S84)) (a1 : Int) : Option (Int) := laws_heldDoneS.l0 k l0 a1 0
def laws_heldState.f (k : Nat) (a0_0 : Int) (l0_1 : List (S37)) (l0_2 : List (S84)) (a1 : Int) : Option (Int) := (laws_heldBoxS.f k l0_1 a1).bind fun t499 => (if t499 < 0 then (some (-1)) else ((laws_heldDoneS.f k l0_2 t499).bind fun t500 => (if t500 < 0 then (some (-1)) else (some t500))))
def laws_FnExactCertApply.f (k : Nat) (a0_0 : Int) (l0_1 : List S136) (l0_2 : List S189) (a1_0 : Bool) (a1_1 : Int) (a1_2 : Int) (l1_3 : List S196) (l1_4 : List S198) (a1_5 : Int) (a1_6 : Int) : Option (Bool) := (laws_szState.f a0_0 l0_1 l0_2 (1048576 : Int)).bind fun t0 => (if (t0 < (0 : Int)) then (some (true)) else ((laws_szEntry.f a1_0 a1_1 a1_2 l1_3 l1_4 a1_5 a1_6 t0).bind fun t1 => (if (t1 < (0 : Int)) then (some (true)) else ((laws_toState.f k a0_0 l0_1 l0_2).bind fun t98 => ((laws_toEntry.f k a1_0 a1_1 a1_2 l1_3 l1_4 a1_5 a1_6).bind fun t99 => ((spec_CertApply.f k t98.1 (t98.2).1 (t98.2).2 t99.1 (t99.2).1 ((t99.2).2).1 (((t99.2).2).2).1 ((((t99.2).2).2).2).1 (((((t99.2).2).2).2).2).1 (((((t99.2).2).2).2).2).2).bind fun t100 => ((laws_toState.f k a0_0 l0_1 l0_2).bind fun t101 => ((laws_toEntry.f k a1_0 a1_1 a1_2 l1_3 l1_4 a1_5 a1_6).bind fun t102 => ((impl_CertApply.f k t101.1 (t101.2).1 (t101.2).2 t102.1 (t102.2).1 ((t102.2).2).1 (((t102.2).2).2).1 ((((t102.2).2).2).2).1 (((((t102.2).2).2).2).2).1 (((((t102.2).2).2).2).2).2).bind fun t103 => ((laws_eqState.f k t103.1 (t103.2).1 ((t103.2).2).1 t100.1 (t100.2).1 ((t100.2).2).1).bind fun t104 => (if t104 = true then (if (((t103.2).2).2 = ((t100.2).2).2) then ((laws_toState.f k a0_0 l0_1 l0_2).bind fun t105 => ((laws_eqState.f k t101.1 (t101.2).1 (t101.2).2 t105.1 (t105.2).1 (t105.2).2).bind fun t106 => (if t106 = true then ((laws_toEntry.f k a1_0 a1_1 a1_2 l1_3 l1_4 a1_5 a1_6).bind fun t107 => ((laws_eqEntry.f k t102.1 (t102.2).1 ((t102.2).2).1 (((t102.2).2).2).1 ((((t102.2).2).2).2).1 (((((t102.2).2).2).2).2).1 (((((t102.2).2).2).2).2).2 t107.1 (t107.2).1 ((t107.2).2).1 (((t107.2).2).2).1 ((((t107.2).2).2).2).1 (((((t107.2).2).2).2).2).1 (((((t107.2).2).2).2).2).2).bind fun t108 => (if t108 = true then ((laws_markState.f k t101.1 (t101.2).1 (t101.2).2 (1 : Int)).bind fun t109 => ((laws_markEntry.f k t102.1 (t102.2).1 ((t102.2).2).1 (((t102.2).2).2).1 ((((t102.2).2).2).2).1 (((((t102.2).2).2).2).2).1 (((((t102.2).2).2).2).2).2 t109.1).bind fun t110 => (if (t110.1 < (0 : Int)) then (some (false)) else ((laws_eqState.f k t103.1 (t103.2).1 ((t103.2).2).1 t100.1 (t100.2).1 ((t100.2).2).1).bind fun t111 => (if t111 = true then (if (((t103.2).2).2 = ((t100.2).2).2) then ((laws_markState.f k t103.1 (t103.2).1 ((t103.2).2).1 (1 : Int)).bind fun t112 => ((laws_heldState.f k t103.1 (t112.2).1 (t112.2).2 (1 : Int)).bind fun t113 => (if (t113 < (0 : Int)) then (some (false)) else (if (t113 = t112.1) then ((laws_toState.f k a0_0 l0_1 l0_2).bind fun t126 => ((laws_toEntry.f k a1_0 a1_1 a1_2 l1_3 l1_4 a1_5 a1_6).bind fun t127 => ((impl_CertApply.f k t126.1 (t126.2).1 (t126.2).2 t127.1 (t127.2).1 ((t127.2).2).1 (((t127.2).2).2).1 ((((t127.2).2).2).2).1 (((((t127.2).2).2).2).2).1 (((((t127.2).2).2).2).2).2).bind fun t128 => ((laws_eqState.f k t128.1 (t128.2).1 ((t128.2).2).1 t100.1 (t100.2).1 ((t100.2).2).1).bind fun t129 => (if t129 = true then (if (((t128.2).2).2 = ((t100.2).2).2) then ((laws_heldState.f k t103.1 (t112.2).1 (t112.2).2 (1 : Int)).bind fun t130 => (if (t130 < (0 : Int)) then (some (false)) else (if (t130 = t112.1) then (some (true)) else (some (false))))) else (some (false))) else (some (false))))))) else (some (false)))))) else (some (false))) else (some (false))))))) else (some (false))))) else (some (false))))) else (some (false))) else (some (false)))))))))))))
open Go Go.Proofs Am
def tau : TypeId → Type
  | 37 => S37
  | 39 => S39
  | 82 => S82
  | 84 => S84
  | 136 => S136
  | 189 => S189
  | 196 => S196
  | 198 => S198
  | _ => Unit
def tabL : List (TypeId × TI) := [(2, ⟨[.int .i64], .scal⟩), (3, ⟨[.int .i64], .scal⟩), (4, ⟨[.bool], .scal⟩), (23, ⟨[.sl 39], .sl 39⟩), (24, ⟨[.sl 82], .sl 82⟩), (26, ⟨[.sl 39, .sl 82, .int .i64, .int .i64], .st [(0, 23), (1, 24), (2, 3), (3, 3)]⟩), (29, ⟨[.sl 37], .sl 37⟩), (37, ⟨[.int .i64, .int .i64], .st [(0, 3), (1, 3)]⟩), (39, ⟨[.int .i64, .int .i64], .st [(0, 3), (1, 3)]⟩), (41, ⟨[.sl 136], .sl 136⟩), (67, ⟨[.sl 84], .sl 84⟩), (69, ⟨[.int .i64, .sl 37, .sl 84], .st [(0, 3), (1, 29), (2, 67)]⟩), (75, ⟨[.int .i64, .int .i64], .st [(0, 3), (1, 3)]⟩), (77, ⟨[.bool, .int .i64, .int .i64, .sl 39, .sl 82, .int .i64, .int .i64], .st [(0, 4), (1, 75), (3, 26)]⟩), (82, ⟨[.int .i64, .int .i64], .st [(0, 3), (1, 3)]⟩), (84, ⟨[.int .i64, .int .i64, .int .i64, .int .i64], .st [(0, 75), (2, 3), (3, 3)]⟩), (100, ⟨[.sl 189], .sl 189⟩), (102, ⟨[.int .i64, .sl 136, .sl 189], .st [(0, 3), (1, 41), (2, 100)]⟩), (103, ⟨[.int .i64, .int .i64], .st [(0, 3), (1, 3)]⟩), (104, ⟨[.sl 196], .sl 196⟩), (105, ⟨[.sl 198], .sl 198⟩), (107, ⟨[.sl 196, .sl 198, .int .i64, .int .i64], .st [(0, 104), (1, 105), (2, 3), (3, 3)]⟩), (109, ⟨[.bool, .int .i64, .int .i64, .sl 196, .sl 198, .int .i64, .int .i64], .st [(0, 4), (1, 103), (3, 107)]⟩), (136, ⟨[.int .i64, .int .i64], .st [(0, 3), (1, 3)]⟩), (173, ⟨[.bool, .bool, .bool, .bool], .arr 4 4⟩), (189, ⟨[.int .i64, .int .i64, .int .i64, .int .i64], .st [(0, 103), (2, 3), (3, 3)]⟩), (196, ⟨[.int .i64, .int .i64], .st [(0, 3), (1, 3)]⟩), (198, ⟨[.int .i64, .int .i64], .st [(0, 3), (1, 3)]⟩)]
def rowT : (e : TypeId) → tau e → List (Lf tau)
  | 37, (x : S37) => [.i x.f0, .i x.f1]
  | 39, (x : S39) => [.i x.f0, .i x.f1]
  | 82, (x : S82) => [.i x.f0, .i x.f1]
  | 84, (x : S84) => [.i x.f0.f0, .i x.f0.f1, .i x.f1, .i x.f2]
  | 136, (x : S136) => [.i x.f0, .i x.f1]
  | 189, (x : S189) => [.i x.f0.f0, .i x.f0.f1, .i x.f1, .i x.f2]
  | 196, (x : S196) => [.i x.f0, .i x.f1]
  | 198, (x : S198) => [.i x.f0, .i x.f1]
  | _, _ => []
instance : (e : TypeId) → Inhabited (tau e) := fun e => by unfold tau; split <;> first | exact ⟨(0 : Int)⟩ | exact ⟨false⟩ | exact ⟨(default : ByteArray)⟩ | exact ⟨[]⟩ | exact ⟨()⟩ | exact ⟨z37⟩ | exact ⟨z39⟩ | exact ⟨z82⟩ | exact ⟨z84⟩ | exact ⟨z136⟩ | exact ⟨z189⟩ | exact ⟨z196⟩ | exact ⟨z198⟩
def of37 : List (Lf tau) → S37
  | [(.i y0), (.i y1)] => (⟨y0, y1⟩ : S37)
  | _ => z37
def of39 : List (Lf tau) → S39
  | [(.i y0), (.i y1)] => (⟨y0, y1⟩ : S39)
  | _ => z39
def of82 : List (Lf tau) → S82
  | [(.i y0), (.i y1)] => (⟨y0, y1⟩ : S82)
  | _ => z82
def of84 : List (Lf tau) → S84
  | [(.i y0), (.i y1), (.i y2), (.i y3)] => (⟨(⟨y0, y1⟩ : S75), y2, y3⟩ : S84)
  | _ => z84
def of136 : List (Lf tau) → S136
  | [(.i y0), (.i y1)] => (⟨y0, y1⟩ : S136)
  | _ => z136
def of189 : List (Lf tau) → S189
  | [(.i y0), (.i y1), (.i y2), (.i y3)] => (⟨(⟨y0, y1⟩ : S103), y2, y3⟩ : S189)
  | _ => z189
def of196 : List (Lf tau) → S196
  | [(.i y0), (.i y1)] => (⟨y0, y1⟩ : S196)
  | _ => z196
def of198 : List (Lf tau) → S198
  | [(.i y0), (.i y1)] => (⟨y0, y1⟩ : S198)
  | _ => z198
def ofT : (e : TypeId) → List (Lf tau) → tau e
  | 37, l => of37 l
  | 39, l => of39 l
  | 82, l => of82 l
  | 84, l => of84 l
  | 136, l => of136 l
  | 189, l => of189 l
  | 196, l => of196 l
  | 198, l => of198 l
  | _, _ => default
def TT : Tab tau := ⟨fun t => lookN t tabL, rowT, ofT, fun t => memN t [37, 39, 82, 84, 136, 189, 196, 198]⟩
def byT : TypeId → Nat := fun t => lookD 1 t [(2, 8), (3, 8), (4, 1), (23, 24), (24, 24), (26, 64), (29, 24), (37, 16), (39, 16), (41, 24), (67, 24), (69, 56), (75, 16), (77, 88), (82, 16), (84, 32), (100, 24), (102, 56), (103, 16), (104, 24), (105, 24), (107, 64), (109, 88), (136, 16), (173, 4), (189, 32), (196, 16), (198, 16)]
def modeL : List (Nat × Nat) := []
def shpL : List (Nat × List PS) := [(122, [.one .any, .one .any, .one .any]), (82, [.one (.sl 37)]), (83, [.agg [.sl 39, .sl 82, .any, .any]]), (20, [.one (.sl 37), .agg [.sl 39, .sl 82, .any, .any]]), (121, [.agg [.any, .any]]), (50, [.agg [.any, .sl 37, .sl 84]]), (80, [.one (.sl 39), .one (.sl 39)]), (81, [.one (.sl 82), .one (.sl 82)]), (18, [.agg [.sl 39, .sl 82, .any, .any], .agg [.sl 39, .sl 82, .any, .any]]), (57, [.agg [.any, .any, .any, .sl 39, .sl 82, .any, .any], .agg [.any, .any, .any, .sl 39, .sl 82, .any, .any]]), (52, [.agg [.any, .any, .any, .sl 39, .sl 82, .any, .any]]), (93, [.one (.sl 37)]), (116, [.one (.sl 84)]), (117, [.one (.sl 37), .agg [.sl 39, .sl 82, .any, .any]]), (47, [.agg [.any, .sl 37, .sl 84], .agg [.any, .any, .any, .sl 39, .sl 82, .any, .any]]), (84, [.one .any]), (22, [.one (.sl 37)]), (120, [.agg [.any, .any]]), (49, [.agg [.any, .sl 37, .sl 84]]), (19, [.agg [.sl 39, .sl 82, .any, .any], .agg [.sl 39, .sl 82, .any, .any]]), (85, [.one .any]), (86, [.one (.sl 39), .one .any]), (87, [.one (.sl 82), .one .any]), (23, [.agg [.sl 39, .sl 82, .any, .any]]), (53, [.agg [.any, .any, .any, .sl 39, .sl 82, .any, .any]]), (21, [.one (.sl 37), .agg [.sl 39, .sl 82, .any, .any]]), (167, [.one .any, .one .any]), (146, [.one (.own 37), .agg [.sl 39, .sl 82, .any, .any]]), (155, [.agg [.any, .sl 37, .sl 84], .one .any]), (156, [.one (.sl 84), .agg [.any, .any, .any, .any]]), (115, [.agg [.any, .own 37, .own 84], .agg [.any, .any, .any, .sl 39, .sl 82, .any, .any]]), (89, [.one (.sl 37)]), (123, [.agg [.any, .sl 37, .sl 84]]), (51, [.agg [.any, .sl 37, .sl 84], .agg [.any, .any, .any, .sl 39, .sl 82, .any, .any]]), (24, [.one (.sl 136), .one .any]), (131, [.one (.sl 189), .one .any]), (64, [.agg [.any, .sl 136, .sl 189], .one .any]), (158, [.one (.sl 196), .one .any]), (159, [.one (.sl 198), .one .any]), (132, [.agg [.sl 196, .sl 198, .any, .any], .one .any]), (65, [.agg [.any, .any, .any, .sl 196, .sl 198, .any, .any], .one .any]), (91, [.agg [.any, .any]]), (27, [.one (.sl 136)]), (134, [.agg [.any, .any]]), (160, [.agg [.any, .any, .any, .any]]), (133, [.one (.sl 189)]), (66, [.agg [.any, .sl 136, .sl 189]]), (171, [.agg [.any, .any]]), (161, [.one (.sl 196)]), (172, [.agg [.any, .any]]), (162, [.one (.sl 198)]), (135, [.agg [.sl 196, .sl 198, .any, .any]]), (67, [.agg [.any, .any, .any, .sl 196, .sl 198, .any, .any]]), (95, [.agg [.any, .any], .agg [.any, .any]]), (30, [.one (.sl 37), .one (.sl 37)]), (137, [.agg [.any, .any], .agg [.any, .any]]), (163, [.agg [.any, .any, .any, .any], .agg [.any, .any, .any, .any]]), (136, [.one (.sl 84), .one (.sl 84)]), (68, [.agg [.any, .sl 37, .sl 84], .agg [.any, .sl 37, .sl 84]]), (173, [.agg [.any, .any], .agg [.any, .any]]), (164, [.one (.sl 39), .one (.sl 39)]), (174, [.agg [.any, .any], .agg [.any, .any]]), (165, [.one (.sl 82), .one (.sl 82)]), (138, [.agg [.sl 39, .sl 82, .any, .any], .agg [.sl 39, .sl 82, .any, .any]]), (69, [.agg [.any, .any, .any, .sl 39, .sl 82, .any, .any], .agg [.any, .any, .any, .sl 39, .sl 82, .any, .any]]), (33, [.one (.own 37), .one .any]), (139, [.one (.own 84), .one .any]), (70, [.agg [.any, .own 37, .own 84], .one .any]), (142, [.one (.own 39), .one .any]), (143, [.one (.own 82), .one .any]), (140, [.agg [.own 39, .own 82, .any, .any], .one .any]), (71, [.agg [.any, .any, .any, .own 39, .own 82, .any, .any], .one .any]), (36, [.one (.sl 37), .one .any]), (141, [.one (.sl 84), .one .any]), (72, [.agg [.any, .sl 37, .sl 84], .one .any]), (14, [.agg [.any, .sl 136, .sl 189], .agg [.any, .any, .any, .sl 196, .sl 198, .any, .any]])]
def persL : List (Nat × List Nat) := [(146, [0]), (115, [0]), (33, [0]), (139, [0]), (70, [0]), (142, [0]), (143, [0]), (140, [0]), (71, [0])]
def pnL : List (Nat × Nat) := [(33, 1), (139, 1), (70, 2), (142, 1), (143, 1), (140, 2), (71, 2)]
def pnT : FuncId → Nat := fun f => lookD 0 f pnL
def mkE (keep : List (Nat × List (Nat × PS))) (res : List PS) (nb : NB) : Env tau := { T := TT, by_ := byT, mode := fun f => lookD 0 f modeL, shp := fun f => lookD [] f shpL, keep := fun i => lookN i keep, res := res, pers := fun f => lookD [] f persL, pn := pnT, nb := nb }
theorem asked : Asked Try.prog byT tabL := ⟨by kernel_rfl, by kernel_rfl, by kernel_rfl, by kernel_rfl⟩
theorem el_37 : ElOk TT 37 := by
 intro ti h
 replace h : some (⟨[.int .i64, .int .i64], .st [(0, 3), (1, 3)]⟩ : TI) = some ti := h
 cases h
 refine ⟨fun x => rfl, fun l hl => ?_⟩
 obtain ⟨y0, l0, e0, h0⟩ := wts_i hl
 obtain ⟨y1, l1, e1, h1⟩ := wts_i h0
 have e2 := wts_nil h1
 subst e2
 subst e1
 subst e0
 rfl
theorem el_39 : ElOk TT 39 := by
 intro ti h
 replace h : some (⟨[.int .i64, .int .i64], .st [(0, 3), (1, 3)]⟩ : TI) = some ti := h
 cases h
 refine ⟨fun x => rfl, fun l hl => ?_⟩
 obtain ⟨y0, l0, e0, h0⟩ := wts_i hl
 obtain ⟨y1, l1, e1, h1⟩ := wts_i h0
 have e2 := wts_nil h1
 subst e2
 subst e1
 subst e0
 rfl
theorem el_82 : ElOk TT 82 := by
 intro ti h
 replace h : some (⟨[.int .i64, .int .i64], .st [(0, 3), (1, 3)]⟩ : TI) = some ti := h
 cases h
 refine ⟨fun x => rfl, fun l hl => ?_⟩
 obtain ⟨y0, l0, e0, h0⟩ := wts_i hl
 obtain ⟨y1, l1, e1, h1⟩ := wts_i h0
 have e2 := wts_nil h1
 subst e2
 subst e1
 subst e0
 rfl
theorem el_84 : ElOk TT 84 := by
 intro ti h
 replace h : some (⟨[.int .i64, .int .i64, .int .i64, .int .i64], .st [(0, 75), (2, 3), (3, 3)]⟩ : TI) = some ti := h
 cases h
 refine ⟨fun x => rfl, fun l hl => ?_⟩
 obtain ⟨y0, l0, e0, h0⟩ := wts_i hl
 obtain ⟨y1, l1, e1, h1⟩ := wts_i h0
 obtain ⟨y2, l2, e2, h2⟩ := wts_i h1
 obtain ⟨y3, l3, e3, h3⟩ := wts_i h2
 have e4 := wts_nil h3
 subst e4
 subst e3
 subst e2
 subst e1
 subst e0
 rfl
theorem el_136 : ElOk TT 136 := by
 intro ti h
 replace h : some (⟨[.int .i64, .int .i64], .st [(0, 3), (1, 3)]⟩ : TI) = some ti := h
 cases h
 refine ⟨fun x => rfl, fun l hl => ?_⟩
 obtain ⟨y0, l0, e0, h0⟩ := wts_i hl
 obtain ⟨y1, l1, e1, h1⟩ := wts_i h0
 have e2 := wts_nil h1
 subst e2
 subst e1
 subst e0
 rfl
theorem el_189 : ElOk TT 189 := by
 intro ti h
 replace h : some (⟨[.int .i64, .int .i64, .int .i64, .int .i64], .st [(0, 103), (2, 3), (3, 3)]⟩ : TI) = some ti := h
 cases h
 refine ⟨fun x => rfl, fun l hl => ?_⟩
 obtain ⟨y0, l0, e0, h0⟩ := wts_i hl
 obtain ⟨y1, l1, e1, h1⟩ := wts_i h0
 obtain ⟨y2, l2, e2, h2⟩ := wts_i h1
 obtain ⟨y3, l3, e3, h3⟩ := wts_i h2
 have e4 := wts_nil h3
 subst e4
 subst e3
 subst e2
 subst e1
 subst e0
 rfl
theorem el_196 : ElOk TT 196 := by
 intro ti h
 replace h : some (⟨[.int .i64, .int .i64], .st [(0, 3), (1, 3)]⟩ : TI) = some ti := h
 cases h
 refine ⟨fun x => rfl, fun l hl => ?_⟩
 obtain ⟨y0, l0, e0, h0⟩ := wts_i hl
 obtain ⟨y1, l1, e1, h1⟩ := wts_i h0
 have e2 := wts_nil h1
 subst e2
 subst e1
 subst e0
 rfl
theorem el_198 : ElOk TT 198 := by
 intro ti h
 replace h : some (⟨[.int .i64, .int .i64], .st [(0, 3), (1, 3)]⟩ : TI) = some ti := h
 cases h
 refine ⟨fun x => rfl, fun l hl => ?_⟩
 obtain ⟨y0, l0, e0, h0⟩ := wts_i hl
 obtain ⟨y1, l1, e1, h1⟩ := wts_i h0
 have e2 := wts_nil h1
 subst e2
 subst e1
 subst e0
 rfl
theorem pq : PQ Try.prog TT byT := pq_of asked rfl (fun e he => by
 have h := memN_iff.1 he
 simp only [List.mem_cons, List.not_mem_nil, or_false] at h
 rcases h with rfl | rfl | rfl | rfl | rfl | rfl | rfl | rfl
 · exact el_37
 · exact el_39
 · exact el_82
 · exact el_84
 · exact el_136
 · exact el_189
 · exact el_196
 · exact el_198)
theorem hmix : Try.prog.follows .mixedOrders = true := by kernel_rfl
noncomputable def c_122 (args : List (AV tau)) (m : Mem tau) (κ : AV tau → Mem tau → Option Unit) : Option Unit := match args, m.bx, m.rw with
  | [b0, b1, b2], [], [] => bO (asI .i64 b0) fun a0 => bO (asI .i64 b1) fun a1 => bO (asI .i64 b2) fun a2 => callX (fun n => impl_in.f a0 a1 a2) fun t => κ (.bool (t)) ⟨[], []⟩
  | _, _, _ => none
def E_122 : Env tau := mkE [(0, [(0, .one .any), (1, .one .any), (2, .one .any)]), (1, [(0, .one .any), (1, .one .any), (2, .one .any)])] [.one .any] ⟨0, 0⟩
noncomputable def c_82 (args : List (AV tau)) (m : Mem tau) (κ : AV tau → Mem tau → Option Unit) : Option Unit := match args, m.bx, m.rw with
  | [b0], [], [] => bO (asSl 37 b0) fun l0 => callX (fun n => impl_BoxOk.f n l0) fun t => κ (.bool (t)) ⟨[], []⟩
  | _, _, _ => none
def E_82 : Env tau := mkE [(0, [(0, .one (.own 37))]), (1, [(0, .one (.own 37))]), (2, [(0, .one (.own 37)), (5, .one (.own 37)), (6, .one .any), (7, .one .any)]), (3, [(0, .one (.own 37)), (5, .one (.own 37)), (6, .one .any), (7, .one .any)]), (4, [(0, .one (.own 37)), (4, .one .any), (5, .one (.own 37)), (6, .one .any), (7, .one .any)]), (5, []), (6, [(0, .one (.own 37)), (5, .one (.own 37)), (6, .one .any), (7, .one .any)]), (7, [(0, .one (.own 37))])] [.one .any] ⟨0, 0⟩
noncomputable def c_83 (args : List (AV tau)) (m : Mem tau) (κ : AV tau → Mem tau → Option Unit) : Option Unit := match args, m.bx, m.rw with
  | [.agg [b0, b1, b2, b3]], [], [] => bO (asSl 39 b0) fun l0_0 => bO (asSl 82 b1) fun l0_1 => bO (asI .i64 b2) fun a0_2 => bO (asI .i64 b3) fun a0_3 => callX (fun n => impl_ExecOk.f n l0_0 l0_1 a0_2 a0_3) fun t => κ (.bool (t)) ⟨[], []⟩
  | _, _, _ => none
def E_83 : Env tau := mkE [(0, [(0, .agg [.own 39, .own 82, .any, .any])]), (1, [(1, .one .any)]), (2, []), (3, [(1, .one .any)]), (4, [(1, .one .any), (3, .one .any), (4, .one .any)]), (5, [(1, .one .any), (3, .one .any), (4, .one .any), (47, .one (.own 39)), (48, .one .any), (49, .one .any)]), (6, [(1, .one .any), (3, .one .any), (4, .one .any), (47, .one (.own 39)), (48, .one .any), (49, .one .any)]), (7, [(1, .one .any), (3, .one .any), (4, .one .any), (6, .one .any), (47, .one (.own 39)), (48, .one .any), (49, .one .any)]), (8, []), (9, [(1, .one .any), (3, .one .any), (4, .one .any), (6, .one .any), (47, .one (.own 39)), (48, .one .any), (49, .one .any)]), (10, [(1, .one .any), (3, .one .any), (4, .one .any), (47, .one (.own 39)), (48, .one .any), (49, .one .any)]), (11, [(1, .one .any), (4, .one .any)]), (12, [(4, .one .any), (74, .one (.own 82)), (75, .one .any), (76, .one .any)]), (13, [(4, .one .any), (74, .one (.own 82)), (75, .one .any), (76, .one .any)]), (14, [(4, .one .any), (8, .one .any), (74, .one (.own 82)), (75, .one .any), (76, .one .any)]), (15, []), (16, [(4, .one .any), (8, .one .any), (74, .one (.own 82)), (75, .one .any), (76, .one .any)]), (17, [(4, .one .any), (74, .one (.own 82)), (75, .one .any), (76, .one .any)]), (18, [])] [.one .any] ⟨0, 0⟩
noncomputable def c_20 (args : List (AV tau)) (m : Mem tau) (κ : AV tau → Mem tau → Option Unit) : Option Unit := match args, m.bx, m.rw with
  | [b0, .agg [b1, b2, b3, b4]], [], [] => bO (asSl 37 b0) fun l0 => bO (asSl 39 b1) fun l1_0 => bO (asSl 82 b2) fun l1_1 => bO (asI .i64 b3) fun a1_2 => bO (asI .i64 b4) fun a1_3 => callX (fun n => impl_ExecFresh.f n l0 l1_0 l1_1 a1_2 a1_3) fun t => κ (.bool (t)) ⟨[], []⟩
  | _, _, _ => none
def E_20 : Env tau := mkE [(0, [(0, .one (.own 37)), (1, .agg [.own 39, .own 82, .any, .any])]), (1, [(0, .one (.own 37)), (3, .one .any)]), (2, []), (3, [(0, .one (.own 37)), (3, .one .any)]), (4, [(0, .one (.own 37)), (16, .one (.own 39)), (17, .one .any), (18, .one .any)]), (5, [(0, .one (.own 37)), (16, .one (.own 39)), (17, .one .any), (18, .one .any)]), (6, [(0, .one (.own 37)), (6, .one .any), (16, .one (.own 39)), (17, .one .any), (18, .one .any)]), (7, []), (8, [(0, .one (.own 37)), (16, .one (.own 39)), (17, .one .any), (18, .one .any)]), (9, [])] [.one .any] ⟨0, 0⟩
noncomputable def c_121 (args : List (AV tau)) (m : Mem tau) (κ : AV tau → Mem tau → Option Unit) : Option Unit := match args, m.bx, m.rw with
  | [.agg [b0, b1]], [], [] => bO (asI .i64 b0) fun a0_0 => bO (asI .i64 b1) fun a0_1 => callX (fun n => impl_reqOk.f a0_0 a0_1) fun t => κ (.bool (t)) ⟨[], []⟩
  | _, _, _ => none
def E_121 : Env tau := mkE [(0, [(0, .agg [.any, .any])]), (1, [(1, .one .any)])] [.one .any] ⟨0, 0⟩
noncomputable def c_50 (args : List (AV tau)) (m : Mem tau) (κ : AV tau → Mem tau → Option Unit) : Option Unit := match args, m.bx, m.rw with
  | [.agg [b0, b1, b2]], [], [] => bO (asI .i64 b0) fun a0_0 => bO (asSl 37 b1) fun l0_1 => bO (asSl 84 b2) fun l0_2 => callX (fun n => impl_CertOk.f n a0_0 l0_1 l0_2) fun t => κ (.bool (t)) ⟨[], []⟩
  | _, _, _ => none
def E_50 : Env tau := mkE [(0, [(0, .agg [.any, .own 37, .own 84])]), (1, [(1, .one .any)]), (2, [(1, .one .any), (6, .one (.own 84)), (7, .one .any), (8, .one .any)]), (3, [(1, .one .any), (6, .one (.own 84)), (7, .one .any), (8, .one .any)]), (4, [(1, .one .any), (3, .one .any), (4, .one .any), (6, .one (.own 84)), (7, .one .any), (8, .one .any)]), (5, []), (6, [(1, .one .any), (6, .one (.own 84)), (7, .one .any), (8, .one .any)]), (7, [(1, .one .any)])] [.one .any] ⟨0, 0⟩
noncomputable def c_80 (args : List (AV tau)) (m : Mem tau) (κ : AV tau → Mem tau → Option Unit) : Option Unit := match args, m.bx, m.rw with
  | [b0, b1], [], [] => bO (asSl 39 b0) fun l0 => bO (asSl 39 b1) fun l1 => callX (fun n => impl_same_impl_Read.f n l0 l1) fun t => κ (.bool (t)) ⟨[], []⟩
  | _, _, _ => none
def E_80 : Env tau := mkE [(0, [(0, .one (.own 39)), (1, .one (.own 39))]), (1, [(0, .one (.own 39)), (1, .one (.own 39))]), (2, []), (3, [(0, .one (.own 39)), (1, .one (.own 39))]), (4, [(0, .one (.own 39)), (1, .one (.own 39)), (12, .one .any), (13, .one .any)]), (5, [(0, .one (.own 39)), (1, .one (.own 39)), (12, .one .any), (13, .one .any)]), (6, [(0, .one (.own 39)), (1, .one (.own 39)), (5, .one .any), (12, .one .any), (13, .one .any)]), (7, []), (8, [(0, .one (.own 39)), (1, .one (.own 39)), (12, .one .any), (13, .one .any)]), (9, [])] [.one .any] ⟨0, 0⟩
noncomputable def c_81 (args : List (AV tau)) (m : Mem tau) (κ : AV tau → Mem tau → Option Unit) : Option Unit := match args, m.bx, m.rw with
  | [b0, b1], [], [] => bO (asSl 82 b0) fun l0 => bO (asSl 82 b1) fun l1 => callX (fun n => impl_same_impl_Put.f n l0 l1) fun t => κ (.bool (t)) ⟨[], []⟩
  | _, _, _ => none
def E_81 : Env tau := mkE [(0, [(0, .one (.own 82)), (1, .one (.own 82))]), (1, [(0, .one (.own 82)), (1, .one (.own 82))]), (2, []), (3, [(0, .one (.own 82)), (1, .one (.own 82))]), (4, [(0, .one (.own 82)), (1, .one (.own 82)), (12, .one .any), (13, .one .any)]), (5, [(0, .one (.own 82)), (1, .one (.own 82)), (12, .one .any), (13, .one .any)]), (6, [(0, .one (.own 82)), (1, .one (.own 82)), (5, .one .any), (12, .one .any), (13, .one .any)]), (7, []), (8, [(0, .one (.own 82)), (1, .one (.own 82)), (12, .one .any), (13, .one .any)]), (9, [])] [.one .any] ⟨0, 0⟩
noncomputable def c_18 (args : List (AV tau)) (m : Mem tau) (κ : AV tau → Mem tau → Option Unit) : Option Unit := match args, m.bx, m.rw with
  | [.agg [b0, b1, b2, b3], .agg [b4, b5, b6, b7]], [], [] => bO (asSl 39 b0) fun l0_0 => bO (asSl 82 b1) fun l0_1 => bO (asI .i64 b2) fun a0_2 => bO (asI .i64 b3) fun a0_3 => bO (asSl 39 b4) fun l1_0 => bO (asSl 82 b5) fun l1_1 => bO (asI .i64 b6) fun a1_2 => bO (asI .i64 b7) fun a1_3 => callX (fun n => impl_ExecSame.f n l0_0 l0_1 a0_2 a0_3 l1_0 l1_1 a1_2 a1_3) fun t => κ (.bool (t)) ⟨[], []⟩
  | _, _, _ => none
def E_18 : Env tau := mkE [(0, [(0, .agg [.own 39, .own 82, .any, .any]), (1, .agg [.own 39, .own 82, .any, .any])]), (1, [(2, .one .any), (3, .one .any)])] [.one .any] ⟨0, 0⟩
noncomputable def c_57 (args : List (AV tau)) (m : Mem tau) (κ : AV tau → Mem tau → Option Unit) : Option Unit := match args, m.bx, m.rw with
  | [.agg [b0, b1, b2, b3, b4, b5, b6], .agg [b7, b8, b9, b10, b11, b12, b13]], [], [] => bO (asB b0) fun a0_0 => bO (asI .i64 b1) fun a0_1 => bO (asI .i64 b2) fun a0_2 => bO (asSl 39 b3) fun l0_3 => bO (asSl 82 b4) fun l0_4 => bO (asI .i64 b5) fun a0_5 => bO (asI .i64 b6) fun a0_6 => bO (asB b7) fun a1_0 => bO (asI .i64 b8) fun a1_1 => bO (asI .i64 b9) fun a1_2 => bO (asSl 39 b10) fun l1_3 => bO (asSl 82 b11) fun l1_4 => bO (asI .i64 b12) fun a1_5 => bO (asI .i64 b13) fun a1_6 => callX (fun n => impl_CertLike.f n a0_0 a0_1 a0_2 l0_3 l0_4 a0_5 a0_6 a1_0 a1_1 a1_2 l1_3 l1_4 a1_5 a1_6) fun t => κ (.bool (t)) ⟨[], []⟩
  | _, _, _ => none
def E_57 : Env tau := mkE [(0, [(0, .agg [.any, .any, .any, .own 39, .own 82, .any, .any]), (1, .agg [.any, .any, .any, .own 39, .own 82, .any, .any])]), (1, [(2, .one .any), (3, .one .any)])] [.one .any] ⟨0, 0⟩
noncomputable def c_52 (args : List (AV tau)) (m : Mem tau) (κ : AV tau → Mem tau → Option Unit) : Option Unit := match args, m.bx, m.rw with
  | [.agg [b0, b1, b2, b3, b4, b5, b6]], [], [] => bO (asB b0) fun a0_0 => bO (asI .i64 b1) fun a0_1 => bO (asI .i64 b2) fun a0_2 => bO (asSl 39 b3) fun l0_3 => bO (asSl 82 b4) fun l0_4 => bO (asI .i64 b5) fun a0_5 => bO (asI .i64 b6) fun a0_6 => callX (fun n => impl_CertEntry.f n a0_0 a0_1 a0_2 l0_3 l0_4 a0_5 a0_6) fun t => κ (.bool (t)) ⟨[], []⟩
  | _, _, _ => none
def E_52 : Env tau := mkE [(0, [(0, .agg [.any, .any, .any, .own 39, .own 82, .any, .any])]), (1, [(1, .one .any)]), (2, [(1, .one .any)]), (3, [(1, .one .any)])] [.one .any] ⟨0, 0⟩
noncomputable def c_93 (args : List (AV tau)) (m : Mem tau) (κ : AV tau → Mem tau → Option Unit) : Option Unit := match args, m.bx, m.rw with
  | [b0], [], [] => bO (asSl 37 b0) fun l0 => callX (fun n => impl_copied_impl_Box.f l0) fun t => κ (.own 0 0) ⟨[], [some ⟨37, t, 0⟩]⟩
  | _, _, _ => none
def E_93 : Env tau := mkE [(0, [(0, .one (.own 37))]), (1, [(0, .one (.own 37))]), (2, []), (3, [(0, .one (.own 37))]), (4, [(0, .one (.own 37)), (3, .one (.own 37))]), (5, [(3, .one (.own 37))])] [.one (.own 37)] ⟨0, 0⟩
noncomputable def c_116 (args : List (AV tau)) (m : Mem tau) (κ : AV tau → Mem tau → Option Unit) : Option Unit := match args, m.bx, m.rw with
  | [b0], [], [] => bO (asSl 84 b0) fun l0 => callX (fun n => impl_copied_impl_Done.f l0) fun t => κ (.own 0 0) ⟨[], [some ⟨84, t, 0⟩]⟩
  | _, _, _ => none
def E_116 : Env tau := mkE [(0, [(0, .one (.own 84))]), (1, [(0, .one (.own 84))]), (2, []), (3, [(0, .one (.own 84))]), (4, [(0, .one (.own 84)), (3, .one (.own 84))]), (5, [(3, .one (.own 84))])] [.one (.own 84)] ⟨0, 0⟩
noncomputable def c_117 (args : List (AV tau)) (m : Mem tau) (κ : AV tau → Mem tau → Option Unit) : Option Unit := match args, m.bx, m.rw with
  | [b0, .agg [b1, b2, b3, b4]], [], [] => bO (asSl 37 b0) fun l0 => bO (asSl 39 b1) fun l1_0 => bO (asSl 82 b2) fun l1_1 => bO (asI .i64 b3) fun a1_2 => bO (asI .i64 b4) fun a1_3 => callX (fun n => impl_ExecDo.f n l0 l1_0 l1_1 a1_2 a1_3) fun t => κ (.own 0 0) ⟨[], [some ⟨37, t, 0⟩]⟩
  | _, _, _ => none
def E_117 : Env tau := mkE [(0, [(0, .one (.own 37)), (1, .agg [.own 39, .own 82, .any, .any])]), (1, [(0, .one (.own 37)), (3, .one .any)]), (2, []), (3, [(0, .one (.own 37)), (3, .one .any)]), (4, [(3, .one .any), (5, .one (.own 37))]), (5, [(5, .one (.own 37)), (19, .one (.own 82)), (20, .one .any), (21, .one .any)]), (6, [(5, .one (.own 37)), (19, .one (.own 82)), (20, .one .any), (21, .one .any)]), (7, [(5, .one (.own 37)), (7, .one .any), (19, .one (.own 82)), (20, .one .any), (21, .one .any)]), (8, [(5, .one (.own 37)), (19, .one (.own 82)), (20, .one .any), (21, .one .any)]), (9, [(5, .one (.own 37))])] [.one (.own 37)] ⟨0, 0⟩
noncomputable def c_47 (args : List (AV tau)) (m : Mem tau) (κ : AV tau → Mem tau → Option Unit) : Option Unit := match args, m.bx, m.rw with
  | [.agg [b0, b1, b2], .agg [b3, b4, b5, b6, b7, b8, b9]], [], [] => bO (asI .i64 b0) fun a0_0 => bO (asSl 37 b1) fun l0_1 => bO (asSl 84 b2) fun l0_2 => bO (asB b3) fun a1_0 => bO (asI .i64 b4) fun a1_1 => bO (asI .i64 b5) fun a1_2 => bO (asSl 39 b6) fun l1_3 => bO (asSl 82 b7) fun l1_4 => bO (asI .i64 b8) fun a1_5 => bO (asI .i64 b9) fun a1_6 => callX (fun n => impl_CertApply.f n a0_0 l0_1 l0_2 a1_0 a1_1 a1_2 l1_3 l1_4 a1_5 a1_6) fun t => κ (.tup [.agg [.int .i64 (t.1), .own 0 0, .own 1 0], .int .i64 (t.2.2.2)]) ⟨[], [some ⟨37, t.2.1, 0⟩, some ⟨84, t.2.2.1, 0⟩]⟩
  | _, _, _ => none
def E_47 : Env tau := mkE [(0, [(0, .agg [.any, .own 37, .own 84]), (1, .agg [.any, .any, .any, .own 39, .own 82, .any, .any])]), (1, [(2, .one .any), (3, .one .any), (4, .one .any)]), (2, [(4, .one .any)]), (3, [(2, .one .any), (3, .one .any), (4, .one .any)]), (4, [(2, .one .any), (3, .one .any), (4, .one .any), (6, .one .any)]), (5, [(2, .one .any), (4, .one .any), (6, .one .any)]), (6, [(4, .one .any), (6, .one .any)]), (7, [(2, .one .any), (3, .one .any), (4, .one .any), (6, .one .any)]), (8, [(2, .one .any), (3, .one .any), (4, .one .any), (6, .one .any), (43, .one (.own 84)), (44, .one .any), (45, .one .any)]), (9, [(2, .one .any), (3, .one .any), (4, .one .any), (6, .one .any), (43, .one (.own 84)), (44, .one .any), (45, .one .any)]), (10, [(2, .one .any), (3, .one .any), (4, .one .any), (6, .one .any), (8, .one .any), (43, .one (.own 84)), (44, .one .any), (45, .one .any)]), (11, [(2, .one .any), (3, .one .any), (4, .one .any), (6, .one .any), (8, .one .any)]), (12, [(3, .one .any), (4, .one .any), (6, .one .any), (8, .one .any)]), (13, [(4, .one .any), (6, .one .any)]), (14, [(4, .one .any), (6, .one .any)]), (15, [(2, .one .any), (3, .one .any), (4, .one .any), (6, .one .any), (43, .one (.own 84)), (44, .one .any), (45, .one .any)]), (16, [(2, .one .any), (3, .one .any), (4, .one .any), (6, .one .any)]), (17, [(2, .one .any), (3, .one .any), (4, .one .any), (6, .one .any), (9, .one .any)]), (18, [(2, .one .any), (3, .one .any), (4, .one .any), (6, .one .any), (9, .one .any)]), (19, [(2, .one .any), (3, .one .any), (4, .one .any), (6, .one .any), (9, .one .any)]), (20, [(2, .one .any), (4, .one .any), (6, .one .any), (9, .one .any)]), (21, [(2, .one .any), (3, .one .any), (4, .one .any), (6, .one .any), (9, .one .any)]), (22, [(2, .one .any), (4, .one .any), (6, .one .any), (9, .one .any)]), (23, [(2, .one .any), (4, .one .any), (6, .one .any), (9, .one .any)]), (24, [(2, .one .any), (4, .one .any), (6, .one .any), (9, .one .any), (10, .one (.own 84))]), (25, [(2, .one .any), (4, .one .any), (6, .one .any), (9, .one .any), (10, .one (.own 84)), (11, .one .any)]), (26, [(4, .one .any), (6, .one .any), (9, .one .any), (10, .one (.own 84)), (11, .one .any), (107, .one (.own 84)), (108, .one .any), (109, .one .any)]), (27, [(4, .one .any), (6, .one .any), (9, .one .any), (10, .one (.own 84)), (11, .one .any), (107, .one (.own 84)), (108, .one .any), (109, .one .any)]), (28, [(4, .one .any), (6, .one .any), (9, .one .any), (10, .one (.own 84)), (11, .one .any), (13, .one .any), (107, .one (.own 84)), (108, .one .any), (109, .one .any)]), (29, [(4, .one .any), (6, .one .any), (9, .one .any), (10, .one (.own 84)), (13, .one .any), (107, .one (.own 84)), (108, .one .any), (109, .one .any)]), (30, [(4, .one .any), (6, .one .any), (9, .one .any), (10, .one (.own 84)), (13, .one .any), (107, .one (.own 84)), (108, .one .any), (109, .one .any)]), (31, [(4, .one .any), (6, .one .any), (9, .one .any), (10, .one (.own 84)), (11, .one .any), (13, .one .any), (107, .one (.own 84)), (108, .one .any), (109, .one .any)]), (32, [(4, .one .any), (6, .one .any), (9, .one .any), (10, .one (.own 84)), (11, .one .any), (13, .one .any), (107, .one (.own 84)), (108, .one .any), (109, .one .any)]), (33, [(4, .one .any), (6, .one .any), (9, .one .any), (10, .one (.own 84)), (11, .one .any), (107, .one (.own 84)), (108, .one .any), (109, .one .any)]), (34, [(4, .one .any), (6, .one .any), (9, .one .any), (10, .one (.own 84)), (11, .one .any)]), (35, [(4, .one .any), (6, .one .any), (9, .one .any), (10, .one (.own 84))]), (36, [(4, .one .any), (6, .one .any), (9, .one .any), (10, .one (.own 84))]), (37, [(4, .one .any), (6, .one .any), (9, .one .any)])] [.agg [.any, .own 37, .own 84], .one .any] ⟨0, 0⟩
noncomputable def c_84 (args : List (AV tau)) (m : Mem tau) (κ : AV tau → Mem tau → Option Unit) : Option Unit := match args, m.bx, m.rw with
  | [b0], [], [] => bO (asI .i64 b0) fun a0 => callX (fun n => spec_l1Num.f a0) fun t => κ (.bool (t)) ⟨[], []⟩
  | _, _, _ => none
def E_84 : Env tau := mkE [(0, [(0, .one .any)]), (1, [(0, .one .any)])] [.one .any] ⟨0, 0⟩
noncomputable def c_22 (args : List (AV tau)) (m : Mem tau) (κ : AV tau → Mem tau → Option Unit) : Option Unit := match args, m.bx, m.rw with
  | [b0], [], [] => bO (asSl 37 b0) fun l0 => callX (fun n => spec_BoxOk.f n l0) fun t => κ (.bool (t)) ⟨[], []⟩
  | _, _, _ => none
def E_22 : Env tau := mkE [(0, [(0, .one (.own 37))]), (1, [(0, .one (.own 37))]), (2, []), (3, [(0, .one (.own 37))]), (4, [(0, .one (.own 37)), (3, .one .any)]), (5, [(0, .one (.own 37)), (3, .one .any)]), (6, [(0, .one (.own 37)), (3, .one .any)]), (7, []), (8, [])] [.one .any] ⟨0, 0⟩
noncomputable def c_120 (args : List (AV tau)) (m : Mem tau) (κ : AV tau → Mem tau → Option Unit) : Option Unit := match args, m.bx, m.rw with
  | [.agg [b0, b1]], [], [] => bO (asI .i64 b0) fun a0_0 => bO (asI .i64 b1) fun a0_1 => callX (fun n => spec_l5Req.f a0_0 a0_1) fun t => κ (.bool (t)) ⟨[], []⟩
  | _, _, _ => none
def E_120 : Env tau := mkE [(0, [(0, .agg [.any, .any])]), (1, [(1, .one .any)])] [.one .any] ⟨0, 0⟩
noncomputable def c_49 (args : List (AV tau)) (m : Mem tau) (κ : AV tau → Mem tau → Option Unit) : Option Unit := match args, m.bx, m.rw with
  | [.agg [b0, b1, b2]], [], [] => bO (asI .i64 b0) fun a0_0 => bO (asSl 37 b1) fun l0_1 => bO (asSl 84 b2) fun l0_2 => callX (fun n => spec_CertOk.f n a0_0 l0_1 l0_2) fun t => κ (.bool (t)) ⟨[], []⟩
  | _, _, _ => none
def E_49 : Env tau := mkE [(0, [(0, .agg [.any, .own 37, .own 84])]), (1, [(1, .one .any)]), (2, []), (3, [(1, .one .any)]), (4, [(1, .one .any), (3, .one .any)]), (5, [(1, .one .any), (3, .one .any)]), (6, [(1, .one .any), (3, .one .any)]), (7, [(1, .one .any), (3, .one .any), (4, .one .any)]), (8, []), (9, [])] [.one .any] ⟨0, 0⟩
noncomputable def c_19 (args : List (AV tau)) (m : Mem tau) (κ : AV tau → Mem tau → Option Unit) : Option Unit := match args, m.bx, m.rw with
  | [.agg [b0, b1, b2, b3], .agg [b4, b5, b6, b7]], [], [] => bO (asSl 39 b0) fun l0_0 => bO (asSl 82 b1) fun l0_1 => bO (asI .i64 b2) fun a0_2 => bO (asI .i64 b3) fun a0_3 => bO (asSl 39 b4) fun l1_0 => bO (asSl 82 b5) fun l1_1 => bO (asI .i64 b6) fun a1_2 => bO (asI .i64 b7) fun a1_3 => callX (fun n => spec_ExecSame.f n l0_0 l0_1 a0_2 a0_3 l1_0 l1_1 a1_2 a1_3) fun t => κ (.bool (t)) ⟨[], []⟩
  | _, _, _ => none
def E_19 : Env tau := mkE [(0, [(0, .agg [.own 39, .own 82, .any, .any]), (1, .agg [.own 39, .own 82, .any, .any])]), (1, [(2, .one .any), (3, .one .any)]), (2, []), (3, [(2, .one .any), (3, .one .any)]), (4, [(2, .one .any), (3, .one .any), (5, .one .any)]), (5, [(2, .one .any), (3, .one .any), (5, .one .any)]), (6, [(2, .one .any), (3, .one .any), (5, .one .any)]), (7, []), (8, [(2, .one .any), (3, .one .any)]), (9, [(2, .one .any), (3, .one .any), (6, .one .any)]), (10, [(2, .one .any), (3, .one .any), (6, .one .any)]), (11, [(2, .one .any), (3, .one .any), (6, .one .any)]), (12, []), (13, [])] [.one .any] ⟨0, 0⟩
noncomputable def c_85 (args : List (AV tau)) (m : Mem tau) (κ : AV tau → Mem tau → Option Unit) : Option Unit := match args, m.bx, m.rw with
  | [b0], [], [] => bO (asI .i64 b0) fun a0 => callX (fun n => spec_l2Box.f a0) fun t => κ (.bool (t)) ⟨[], []⟩
  | _, _, _ => none
def E_85 : Env tau := mkE [(0, [(0, .one .any)]), (1, [(0, .one .any)])] [.one .any] ⟨0, 0⟩
noncomputable def c_86 (args : List (AV tau)) (m : Mem tau) (κ : AV tau → Mem tau → Option Unit) : Option Unit := match args, m.bx, m.rw with
  | [b0, b1], [], [] => bO (asSl 39 b0) fun l0 => bO (asI .i64 b1) fun a1 => callX (fun n => spec_l3Saw.f n l0 a1) fun t => κ (.bool (t)) ⟨[], []⟩
  | _, _, _ => none
def E_86 : Env tau := mkE [(0, [(0, .one (.own 39)), (1, .one .any)]), (1, [(0, .one (.own 39)), (1, .one .any)]), (2, [(0, .one (.own 39)), (1, .one .any), (5, .one .any)]), (3, [(0, .one (.own 39)), (1, .one .any), (5, .one .any)]), (4, [(0, .one (.own 39)), (1, .one .any), (5, .one .any)]), (5, []), (6, [])] [.one .any] ⟨0, 0⟩
noncomputable def c_87 (args : List (AV tau)) (m : Mem tau) (κ : AV tau → Mem tau → Option Unit) : Option Unit := match args, m.bx, m.rw with
  | [b0, b1], [], [] => bO (asSl 82 b0) fun l0 => bO (asI .i64 b1) fun a1 => callX (fun n => spec_l3At.f n l0 a1) fun t => κ (.int .i64 (t)) ⟨[], []⟩
  | _, _, _ => none
def E_87 : Env tau := mkE [(0, [(0, .one (.own 82)), (1, .one .any)]), (1, [(0, .one (.own 82)), (1, .one .any)]), (2, [(0, .one (.own 82)), (1, .one .any), (5, .one .any)]), (3, [(0, .one (.own 82)), (1, .one .any), (5, .one .any)]), (4, [(0, .one (.own 82)), (1, .one .any), (5, .one .any)]), (5, [(5, .one .any)]), (6, [])] [.one .any] ⟨0, 0⟩
noncomputable def c_23 (args : List (AV tau)) (m : Mem tau) (κ : AV tau → Mem tau → Option Unit) : Option Unit := match args, m.bx, m.rw with
  | [.agg [b0, b1, b2, b3]], [], [] => bO (asSl 39 b0) fun l0_0 => bO (asSl 82 b1) fun l0_1 => bO (asI .i64 b2) fun a0_2 => bO (asI .i64 b3) fun a0_3 => callX (fun n => spec_ExecOk.f n l0_0 l0_1 a0_2 a0_3) fun t => κ (.bool (t)) ⟨[], []⟩
  | _, _, _ => none
def E_23 : Env tau := mkE [(0, [(0, .agg [.own 39, .own 82, .any, .any])]), (1, [(1, .one .any)]), (2, []), (3, [(1, .one .any)]), (4, [(1, .one .any), (3, .one .any)]), (5, [(1, .one .any), (3, .one .any)]), (6, [(1, .one .any), (3, .one .any)]), (7, []), (8, [(1, .one .any)]), (9, [(1, .one .any), (4, .one .any)]), (10, [(1, .one .any), (4, .one .any)]), (11, [(1, .one .any), (4, .one .any)]), (12, []), (13, [])] [.one .any] ⟨0, 0⟩
noncomputable def c_53 (args : List (AV tau)) (m : Mem tau) (κ : AV tau → Mem tau → Option Unit) : Option Unit := match args, m.bx, m.rw with
  | [.agg [b0, b1, b2, b3, b4, b5, b6]], [], [] => bO (asB b0) fun a0_0 => bO (asI .i64 b1) fun a0_1 => bO (asI .i64 b2) fun a0_2 => bO (asSl 39 b3) fun l0_3 => bO (asSl 82 b4) fun l0_4 => bO (asI .i64 b5) fun a0_5 => bO (asI .i64 b6) fun a0_6 => callX (fun n => spec_CertEntry.f n a0_0 a0_1 a0_2 l0_3 l0_4 a0_5 a0_6) fun t => κ (.bool (t)) ⟨[], []⟩
  | _, _, _ => none
def E_53 : Env tau := mkE [(0, [(0, .agg [.any, .any, .any, .own 39, .own 82, .any, .any])]), (1, [(1, .one .any)]), (2, [(1, .one .any)]), (3, [(1, .one .any)])] [.one .any] ⟨0, 0⟩
noncomputable def c_21 (args : List (AV tau)) (m : Mem tau) (κ : AV tau → Mem tau → Option Unit) : Option Unit := match args, m.bx, m.rw with
  | [b0, .agg [b1, b2, b3, b4]], [], [] => bO (asSl 37 b0) fun l0 => bO (asSl 39 b1) fun l1_0 => bO (asSl 82 b2) fun l1_1 => bO (asI .i64 b3) fun a1_2 => bO (asI .i64 b4) fun a1_3 => callX (fun n => spec_ExecFresh.f n l0 l1_0 l1_1 a1_2 a1_3) fun t => κ (.bool (t)) ⟨[], []⟩
  | _, _, _ => none
def E_21 : Env tau := mkE [(0, [(0, .one (.own 37)), (1, .agg [.own 39, .own 82, .any, .any])]), (1, [(0, .one (.own 37)), (3, .one .any)]), (2, []), (3, [(0, .one (.own 37)), (3, .one .any)]), (4, [(0, .one (.own 37)), (3, .one .any), (5, .one .any)]), (5, [(0, .one (.own 37)), (3, .one .any), (5, .one .any)]), (6, [(0, .one (.own 37)), (3, .one .any), (5, .one .any)]), (7, []), (8, [])] [.one .any] ⟨0, 0⟩
noncomputable def c_167 (args : List (AV tau)) (m : Mem tau) (κ : AV tau → Mem tau → Option Unit) : Option Unit := match args, m.bx, m.rw with
  | [b0, b1], [], [] => bO (asI .i64 b0) fun a0 => bO (asI .i64 b1) fun a1 => callX (fun n => spec_l1Min.f a0 a1) fun t => κ (.int .i64 (t)) ⟨[], []⟩
  | _, _, _ => none
def E_167 : Env tau := mkE [(0, [(0, .one .any), (1, .one .any)]), (1, [(0, .one .any), (1, .one .any)]), (2, [(0, .one .any)]), (3, [(1, .one .any)])] [.one .any] ⟨0, 0⟩
noncomputable def c_146 (args : List (AV tau)) (m : Mem tau) (κ : AV tau → Mem tau → Option Unit) : Option Unit := match args, m.bx, m.rw with
  | [b0, .agg [b1, b2, b3, b4]], [], [r0] => bO (asOwn 0 b0) fun _ => bO (asRow 37 r0) fun l0 => bO (asSl 39 b1) fun l1_0 => bO (asSl 82 b2) fun l1_1 => bO (asI .i64 b3) fun a1_2 => bO (asI .i64 b4) fun a1_3 => callX (fun n => spec_l3Do.f n l0 l1_0 l1_1 a1_2 a1_3) fun t => κ (.own 0 0) ⟨[], [some ⟨37, t, 0⟩]⟩
  | _, _, _ => none
def E_146 : Env tau := mkE [(0, [(0, .one (.own 37)), (1, .agg [.own 39, .own 82, .any, .any])]), (1, [(0, .one (.own 37)), (3, .one .any)]), (2, [(0, .one (.own 37)), (3, .one .any), (5, .one .any)]), (3, [(0, .one (.own 37)), (3, .one .any), (5, .one .any)]), (4, [(0, .one (.own 37)), (3, .one .any), (5, .one .any)]), (5, [(0, .one (.own 37)), (3, .one .any), (5, .one .any), (6, .one .any)]), (6, [(0, .one (.own 37))])] [.one (.own 37)] ⟨0, 0⟩
noncomputable def c_155 (args : List (AV tau)) (m : Mem tau) (κ : AV tau → Mem tau → Option Unit) : Option Unit := match args, m.bx, m.rw with
  | [.agg [b0, b1, b2], b3], [], [] => bO (asI .i64 b0) fun a0_0 => bO (asSl 37 b1) fun l0_1 => bO (asSl 84 b2) fun l0_2 => bO (asI .i64 b3) fun a1 => callX (fun n => spec_l5Last.f n a0_0 l0_1 l0_2 a1) fun t => κ (.tup [.agg [.int .i64 (t.1), .int .i64 (t.2.1), .int .i64 (t.2.2.1), .int .i64 (t.2.2.2.1)], .bool (t.2.2.2.2)]) ⟨[], []⟩
  | _, _, _ => none
def E_155 : Env tau := mkE [(0, [(0, .agg [.any, .own 37, .own 84]), (1, .one .any)]), (1, [(1, .one .any), (2, .one .any), (4, .one .any)]), (2, [(1, .one .any), (2, .one .any), (4, .one .any), (6, .one .any)]), (3, [(1, .one .any), (2, .one .any), (4, .one .any), (6, .one .any)]), (4, [(1, .one .any), (2, .one .any), (4, .one .any), (6, .one .any)]), (5, [(2, .one .any), (4, .one .any), (6, .one .any)]), (6, [(4, .one .any)])] [.agg [.any, .any, .any, .any], .one .any] ⟨0, 0⟩
noncomputable def c_156 (args : List (AV tau)) (m : Mem tau) (κ : AV tau → Mem tau → Option Unit) : Option Unit := match args, m.bx, m.rw with
  | [b0, .agg [b1, b2, b3, b4]], [], [] => bO (asSl 84 b0) fun l0 => bO (asI .i64 b1) fun a1_0 => bO (asI .i64 b2) fun a1_1 => bO (asI .i64 b3) fun a1_2 => bO (asI .i64 b4) fun a1_3 => callX (fun n => spec_l5Put.f n l0 a1_0 a1_1 a1_2 a1_3) fun t => κ (.own 0 0) ⟨[], [some ⟨84, t, 0⟩]⟩
  | _, _, _ => none
def E_156 : Env tau := mkE [(0, [(0, .one (.own 84)), (1, .agg [.any, .any, .any, .any])]), (1, [(0, .one (.own 84)), (3, .one .any)]), (2, [(0, .one (.own 84)), (3, .one .any), (5, .one (.own 84))]), (3, [(0, .one (.own 84)), (3, .one .any), (5, .one (.own 84)), (6, .one .any)]), (4, [(0, .one (.own 84)), (3, .one .any), (5, .one (.own 84)), (6, .one .any), (7, .one .any)]), (5, [(0, .one (.own 84)), (3, .one .any), (5, .one (.own 84)), (6, .one .any), (7, .one .any)]), (6, [(0, .one (.own 84)), (3, .one .any), (5, .one (.own 84)), (6, .one .any), (7, .one .any)]), (7, [(0, .one (.own 84)), (3, .one .any), (5, .one (.own 84)), (7, .one .any)]), (8, [(0, .one (.own 84)), (3, .one .any), (5, .one (.own 84)), (7, .one .any)]), (9, [(0, .one (.own 84)), (3, .one .any), (5, .one (.own 84)), (6, .one .any), (7, .one .any)]), (10, [(0, .one (.own 84)), (3, .one .any), (5, .one (.own 84)), (6, .one .any), (7, .one .any)]), (11, [(3, .one .any), (5, .one (.own 84)), (6, .one .any)]), (12, [(3, .one .any), (5, .one (.own 84))]), (13, [(5, .one (.own 84))])] [.one (.own 84)] ⟨0, 0⟩
noncomputable def c_115 (args : List (AV tau)) (m : Mem tau) (κ : AV tau → Mem tau → Option Unit) : Option Unit := match args, m.bx, m.rw with
  | [.agg [b0, b1, b2], .agg [b3, b4, b5, b6, b7, b8, b9]], [], [r0, r1] => bO (asI .i64 b0) fun a0_0 => bO (asOwn 0 b1) fun _ => bO (asRow 37 r0) fun l0_1 => bO (asOwn 1 b2) fun _ => bO (asRow 84 r1) fun l0_2 => bO (asB b3) fun a1_0 => bO (asI .i64 b4) fun a1_1 => bO (asI .i64 b5) fun a1_2 => bO (asSl 39 b6) fun l1_3 => bO (asSl 82 b7) fun l1_4 => bO (asI .i64 b8) fun a1_5 => bO (asI .i64 b9) fun a1_6 => callX (fun n => spec_l5Apply.f n a0_0 l0_1 l0_2 a1_0 a1_1 a1_2 l1_3 l1_4 a1_5 a1_6) fun t => κ (.tup [.agg [.int .i64 (t.1), .own 0 0, .own 1 0], .int .i64 (t.2.2.2)]) ⟨[], [some ⟨37, t.2.1, 0⟩, some ⟨84, t.2.2.1, 0⟩]⟩
  | _, _, _ => none
def E_115 : Env tau := mkE [(0, [(0, .agg [.any, .own 37, .own 84]), (1, .agg [.any, .any, .any, .own 39, .own 82, .any, .any])]), (1, [(2, .one .any), (3, .one .any), (4, .one .any)]), (2, [(2, .one .any), (3, .one .any), (4, .one .any)]), (3, [(2, .one .any), (4, .one .any)]), (4, [(2, .one .any), (3, .one .any), (4, .one .any)]), (5, [(2, .one .any), (3, .one .any), (4, .one .any), (6, .one .any), (7, .one .any)]), (6, [(2, .one .any), (4, .one .any)]), (7, [(2, .one .any), (3, .one .any), (4, .one .any), (6, .one .any), (7, .one .any)]), (8, [(2, .one .any), (4, .one .any)]), (9, [(2, .one .any), (3, .one .any), (4, .one .any)]), (10, [(2, .one .any), (3, .one .any), (4, .one .any), (8, .one .any)]), (11, [(2, .one .any), (3, .one .any), (4, .one .any), (8, .one .any)]), (12, [(2, .one .any), (3, .one .any), (4, .one .any), (8, .one .any)]), (13, [(2, .one .any), (3, .one .any), (4, .one .any), (8, .one .any)]), (14, [(2, .one .any), (3, .one .any), (4, .one .any), (8, .one .any)]), (15, [(2, .one .any), (3, .one .any), (4, .one .any), (8, .one .any)]), (16, [(2, .one .any), (4, .one .any), (8, .one .any)]), (17, [(2, .one .any), (4, .one .any), (8, .one .any)])] [.agg [.any, .own 37, .own 84], .one .any] ⟨0, 0⟩
noncomputable def c_89 (args : List (AV tau)) (m : Mem tau) (κ : AV tau → Mem tau → Option Unit) : Option Unit := match args, m.bx, m.rw with
  | [b0], [], [] => bO (asSl 37 b0) fun l0 => callX (fun n => spec_l1Copy.f l0) fun t => κ (.own 0 0) ⟨[], [some ⟨37, t, 0⟩]⟩
  | _, _, _ => none
def E_89 : Env tau := mkE [(0, [(0, .one (.own 37))]), (1, [(0, .one (.own 37))])] [.one (.own 37)] ⟨0, 0⟩
noncomputable def c_123 (args : List (AV tau)) (m : Mem tau) (κ : AV tau → Mem tau → Option Unit) : Option Unit := match args, m.bx, m.rw with
  | [.agg [b0, b1, b2]], [], [] => bO (asI .i64 b0) fun a0_0 => bO (asSl 37 b1) fun l0_1 => bO (asSl 84 b2) fun l0_2 => callX (fun n => spec_l5Copy.f a0_0 l0_1 l0_2) fun t => κ (.agg [.int .i64 (t.1), .own 0 0, .own 1 0]) ⟨[], [some ⟨37, t.2.1, 0⟩, some ⟨84, t.2.2, 0⟩]⟩
  | _, _, _ => none
def E_123 : Env tau := mkE [(0, [(0, .agg [.any, .own 37, .own 84])]), (1, [(1, .one .any), (2, .one .any)])] [.agg [.any, .own 37, .own 84]] ⟨0, 0⟩
noncomputable def c_51 (args : List (AV tau)) (m : Mem tau) (κ : AV tau → Mem tau → Option Unit) : Option Unit := match args, m.bx, m.rw with
  | [.agg [b0, b1, b2], .agg [b3, b4, b5, b6, b7, b8, b9]], [], [] => bO (asI .i64 b0) fun a0_0 => bO (asSl 37 b1) fun l0_1 => bO (asSl 84 b2) fun l0_2 => bO (asB b3) fun a1_0 => bO (asI .i64 b4) fun a1_1 => bO (asI .i64 b5) fun a1_2 => bO (asSl 39 b6) fun l1_3 => bO (asSl 82 b7) fun l1_4 => bO (asI .i64 b8) fun a1_5 => bO (asI .i64 b9) fun a1_6 => callX (fun n => spec_CertApply.f n a0_0 l0_1 l0_2 a1_0 a1_1 a1_2 l1_3 l1_4 a1_5 a1_6) fun t => κ (.tup [.agg [.int .i64 (t.1), .own 0 0, .own 1 0], .int .i64 (t.2.2.2)]) ⟨[], [some ⟨37, t.2.1, 0⟩, some ⟨84, t.2.2.1, 0⟩]⟩
  | _, _, _ => none
def E_51 : Env tau := mkE [(0, [(0, .agg [.any, .own 37, .own 84]), (1, .agg [.any, .any, .any, .own 39, .own 82, .any, .any])]), (1, [(2, .one .any), (3, .one .any), (4, .one .any)]), (2, [(4, .one .any)]), (3, [(2, .one .any), (3, .one .any), (4, .one .any)])] [.agg [.any, .own 37, .own 84], .one .any] ⟨0, 0⟩
noncomputable def c_24 (args : List (AV tau)) (m : Mem tau) (κ : AV tau → Mem tau → Option Unit) : Option Unit := match args, m.bx, m.rw with
  | [b0, b1], [], [] => bO (asSl 136 b0) fun l0 => bO (asI .i64 b1) fun a1 => callX (fun n => laws_szBoxS.f l0 a1) fun t => κ (.int .i64 (t)) ⟨[], []⟩
  | _, _, _ => none
def E_24 : Env tau := mkE [(0, [(0, .one (.own 136)), (1, .one .any)]), (1, [(0, .one (.own 136)), (1, .one .any)]), (2, [(1, .one .any)]), (3, []), (4, [(1, .one .any)])] [.one .any] ⟨0, 0⟩
noncomputable def c_131 (args : List (AV tau)) (m : Mem tau) (κ : AV tau → Mem tau → Option Unit) : Option Unit := match args, m.bx, m.rw with
  | [b0, b1], [], [] => bO (asSl 189 b0) fun l0 => bO (asI .i64 b1) fun a1 => callX (fun n => laws_szDoneS.f l0 a1) fun t => κ (.int .i64 (t)) ⟨[], []⟩
  | _, _, _ => none
def E_131 : Env tau := mkE [(0, [(0, .one (.own 189)), (1, .one .any)]), (1, [(0, .one (.own 189)), (1, .one .any)]), (2, [(1, .one .any)]), (3, []), (4, [(1, .one .any)])] [.one .any] ⟨0, 0⟩
noncomputable def c_64 (args : List (AV tau)) (m : Mem tau) (κ : AV tau → Mem tau → Option Unit) : Option Unit := match args, m.bx, m.rw with
  | [.agg [b0, b1, b2], b3], [], [] => bO (asI .i64 b0) fun a0_0 => bO (asSl 136 b1) fun l0_1 => bO (asSl 189 b2) fun l0_2 => bO (asI .i64 b3) fun a1 => callX (fun n => laws_szState.f a0_0 l0_1 l0_2 a1) fun t => κ (.int .i64 (t)) ⟨[], []⟩
  | _, _, _ => none
def E_64 : Env tau := mkE [(0, [(0, .agg [.any, .own 136, .own 189]), (1, .one .any)]), (1, [(1, .one .any), (2, .one .any)]), (2, [(1, .one .any), (2, .one .any)]), (3, []), (4, [(1, .one .any), (2, .one .any)]), (5, [(1, .one .any)]), (6, []), (7, [(1, .one .any)])] [.one .any] ⟨0, 0⟩
noncomputable def c_158 (args : List (AV tau)) (m : Mem tau) (κ : AV tau → Mem tau → Option Unit) : Option Unit := match args, m.bx, m.rw with
  | [b0, b1], [], [] => bO (asSl 196 b0) fun l0 => bO (asI .i64 b1) fun a1 => callX (fun n => laws_szReadS.f l0 a1) fun t => κ (.int .i64 (t)) ⟨[], []⟩
  | _, _, _ => none
def E_158 : Env tau := mkE [(0, [(0, .one (.own 196)), (1, .one .any)]), (1, [(0, .one (.own 196)), (1, .one .any)]), (2, [(1, .one .any)]), (3, []), (4, [(1, .one .any)])] [.one .any] ⟨0, 0⟩
noncomputable def c_159 (args : List (AV tau)) (m : Mem tau) (κ : AV tau → Mem tau → Option Unit) : Option Unit := match args, m.bx, m.rw with
  | [b0, b1], [], [] => bO (asSl 198 b0) fun l0 => bO (asI .i64 b1) fun a1 => callX (fun n => laws_szPutS.f l0 a1) fun t => κ (.int .i64 (t)) ⟨[], []⟩
  | _, _, _ => none
def E_159 : Env tau := mkE [(0, [(0, .one (.own 198)), (1, .one .any)]), (1, [(0, .one (.own 198)), (1, .one .any)]), (2, [(1, .one .any)]), (3, []), (4, [(1, .one .any)])] [.one .any] ⟨0, 0⟩
noncomputable def c_132 (args : List (AV tau)) (m : Mem tau) (κ : AV tau → Mem tau → Option Unit) : Option Unit := match args, m.bx, m.rw with
  | [.agg [b0, b1, b2, b3], b4], [], [] => bO (asSl 196 b0) fun l0_0 => bO (asSl 198 b1) fun l0_1 => bO (asI .i64 b2) fun a0_2 => bO (asI .i64 b3) fun a0_3 => bO (asI .i64 b4) fun a1 => callX (fun n => laws_szRun.f l0_0 l0_1 a0_2 a0_3 a1) fun t => κ (.int .i64 (t)) ⟨[], []⟩
  | _, _, _ => none
def E_132 : Env tau := mkE [(0, [(0, .agg [.own 196, .own 198, .any, .any]), (1, .one .any)]), (1, [(1, .one .any), (2, .one .any)]), (2, [(1, .one .any), (2, .one .any)]), (3, []), (4, [(1, .one .any), (2, .one .any)]), (5, [(1, .one .any)]), (6, []), (7, [(1, .one .any)])] [.one .any] ⟨0, 0⟩
noncomputable def c_65 (args : List (AV tau)) (m : Mem tau) (κ : AV tau → Mem tau → Option Unit) : Option Unit := match args, m.bx, m.rw with
  | [.agg [b0, b1, b2, b3, b4, b5, b6], b7], [], [] => bO (asB b0) fun a0_0 => bO (asI .i64 b1) fun a0_1 => bO (asI .i64 b2) fun a0_2 => bO (asSl 196 b3) fun l0_3 => bO (asSl 198 b4) fun l0_4 => bO (asI .i64 b5) fun a0_5 => bO (asI .i64 b6) fun a0_6 => bO (asI .i64 b7) fun a1 => callX (fun n => laws_szEntry.f a0_0 a0_1 a0_2 l0_3 l0_4 a0_5 a0_6 a1) fun t => κ (.int .i64 (t)) ⟨[], []⟩
  | _, _, _ => none
def E_65 : Env tau := mkE [(0, [(0, .agg [.any, .any, .any, .own 196, .own 198, .any, .any]), (1, .one .any)]), (1, [(1, .one .any), (2, .one .any)]), (2, [(1, .one .any)]), (3, []), (4, [(1, .one .any)])] [.one .any] ⟨0, 0⟩
noncomputable def c_91 (args : List (AV tau)) (m : Mem tau) (κ : AV tau → Mem tau → Option Unit) : Option Unit := match args, m.bx, m.rw with
  | [.agg [b0, b1]], [], [] => bO (asI .i64 b0) fun a0_0 => bO (asI .i64 b1) fun a0_1 => callX (fun n => laws_toBox.f a0_0 a0_1) fun t => κ (.agg [.int .i64 (t.1), .int .i64 (t.2)]) ⟨[], []⟩
  | _, _, _ => none
def E_91 : Env tau := mkE [(0, [(0, .agg [.any, .any])]), (1, [(1, .one .any), (2, .one .any)]), (2, [(1, .one .any), (2, .one .any), (3, .one .any)]), (3, [(1, .one .any), (2, .one .any), (3, .one .any)]), (4, [(2, .one .any), (3, .one .any)])] [.agg [.any, .any]] ⟨0, 0⟩
noncomputable def c_27 (args : List (AV tau)) (m : Mem tau) (κ : AV tau → Mem tau → Option Unit) : Option Unit := match args, m.bx, m.rw with
  | [b0], [], [] => bO (asSl 136 b0) fun l0 => callX (fun n => laws_toBoxS.f n l0) fun t => κ (.own 0 0) ⟨[], [some ⟨37, t, 0⟩]⟩
  | _, _, _ => none
def E_27 : Env tau := mkE [(0, [(0, .one (.own 136))]), (1, [(0, .one (.own 136))]), (2, [(0, .one (.own 136)), (3, .one (.own 37))]), (3, [(0, .one (.own 136)), (3, .one (.own 37)), (4, .one .any)]), (4, [(0, .one (.own 136)), (3, .one (.own 37)), (4, .one .any)]), (5, [(0, .one (.own 136)), (3, .one (.own 37)), (4, .one .any)]), (6, [(3, .one (.own 37))])] [.one (.own 37)] ⟨0, 0⟩
noncomputable def c_134 (args : List (AV tau)) (m : Mem tau) (κ : AV tau → Mem tau → Option Unit) : Option Unit := match args, m.bx, m.rw with
  | [.agg [b0, b1]], [], [] => bO (asI .i64 b0) fun a0_0 => bO (asI .i64 b1) fun a0_1 => callX (fun n => laws_toReq.f a0_0 a0_1) fun t => κ (.agg [.int .i64 (t.1), .int .i64 (t.2)]) ⟨[], []⟩
  | _, _, _ => none
def E_134 : Env tau := mkE [(0, [(0, .agg [.any, .any])]), (1, [(1, .one .any), (2, .one .any)]), (2, [(1, .one .any), (2, .one .any), (3, .one .any)]), (3, [(1, .one .any), (2, .one .any), (3, .one .any)]), (4, [(2, .one .any), (3, .one .any)])] [.agg [.any, .any]] ⟨0, 0⟩
noncomputable def c_160 (args : List (AV tau)) (m : Mem tau) (κ : AV tau → Mem tau → Option Unit) : Option Unit := match args, m.bx, m.rw with
  | [.agg [b0, b1, b2, b3]], [], [] => bO (asI .i64 b0) fun a0_0 => bO (asI .i64 b1) fun a0_1 => bO (asI .i64 b2) fun a0_2 => bO (asI .i64 b3) fun a0_3 => callX (fun n => laws_toDone.f a0_0 a0_1 a0_2 a0_3) fun t => κ (.agg [.int .i64 (t.1), .int .i64 (t.2.1), .int .i64 (t.2.2.1), .int .i64 (t.2.2.2)]) ⟨[], []⟩
  | _, _, _ => none
def E_160 : Env tau := mkE [(0, [(0, .agg [.any, .any, .any, .any])]), (1, [(1, .one .any), (2, .one .any)]), (2, [(1, .one .any), (2, .one .any), (3, .one .any)]), (3, [(1, .one .any), (2, .one .any), (3, .one .any)]), (4, [(1, .one .any), (2, .one .any), (3, .one .any)]), (5, [(2, .one .any), (3, .one .any)])] [.agg [.any, .any, .any, .any]] ⟨0, 0⟩
noncomputable def c_133 (args : List (AV tau)) (m : Mem tau) (κ : AV tau → Mem tau → Option Unit) : Option Unit := match args, m.bx, m.rw with
  | [b0], [], [] => bO (asSl 189 b0) fun l0 => callX (fun n => laws_toDoneS.f n l0) fun t => κ (.own 0 0) ⟨[], [some ⟨84, t, 0⟩]⟩
  | _, _, _ => none
def E_133 : Env tau := mkE [(0, [(0, .one (.own 189))]), (1, [(0, .one (.own 189))]), (2, [(0, .one (.own 189)), (3, .one (.own 84))]), (3, [(0, .one (.own 189)), (3, .one (.own 84)), (4, .one .any)]), (4, [(0, .one (.own 189)), (3, .one (.own 84)), (4, .one .any)]), (5, [(0, .one (.own 189)), (3, .one (.own 84)), (4, .one .any)]), (6, [(3, .one (.own 84))])] [.one (.own 84)] ⟨0, 0⟩
noncomputable def c_66 (args : List (AV tau)) (m : Mem tau) (κ : AV tau → Mem tau → Option Unit) : Option Unit := match args, m.bx, m.rw with
  | [.agg [b0, b1, b2]], [], [] => bO (asI .i64 b0) fun a0_0 => bO (asSl 136 b1) fun l0_1 => bO (asSl 189 b2) fun l0_2 => callX (fun n => laws_toState.f n a0_0 l0_1 l0_2) fun t => κ (.agg [.int .i64 (t.1), .own 0 0, .own 1 0]) ⟨[], [some ⟨37, t.2.1, 0⟩, some ⟨84, t.2.2, 0⟩]⟩
  | _, _, _ => none
def E_66 : Env tau := mkE [(0, [(0, .agg [.any, .own 136, .own 189])]), (1, [(1, .one .any), (2, .one .any)]), (2, [(1, .one .any), (2, .one .any), (3, .one .any)]), (3, [(1, .one .any), (2, .one .any), (3, .one .any)]), (4, [(1, .one .any), (2, .one .any), (3, .one .any)]), (5, [(2, .one .any), (3, .one .any)])] [.agg [.any, .own 37, .own 84]] ⟨0, 0⟩
noncomputable def c_171 (args : List (AV tau)) (m : Mem tau) (κ : AV tau → Mem tau → Option Unit) : Option Unit := match args, m.bx, m.rw with
  | [.agg [b0, b1]], [], [] => bO (asI .i64 b0) fun a0_0 => bO (asI .i64 b1) fun a0_1 => callX (fun n => laws_toRead.f a0_0 a0_1) fun t => κ (.agg [.int .i64 (t.1), .int .i64 (t.2)]) ⟨[], []⟩
  | _, _, _ => none
def E_171 : Env tau := mkE [(0, [(0, .agg [.any, .any])]), (1, [(1, .one .any), (2, .one .any)]), (2, [(1, .one .any), (2, .one .any), (3, .one .any)]), (3, [(1, .one .any), (2, .one .any), (3, .one .any)]), (4, [(2, .one .any), (3, .one .any)])] [.agg [.any, .any]] ⟨0, 0⟩
noncomputable def c_161 (args : List (AV tau)) (m : Mem tau) (κ : AV tau → Mem tau → Option Unit) : Option Unit := match args, m.bx, m.rw with
  | [b0], [], [] => bO (asSl 196 b0) fun l0 => callX (fun n => laws_toReadS.f n l0) fun t => κ (.own 0 0) ⟨[], [some ⟨39, t, 0⟩]⟩
  | _, _, _ => none
def E_161 : Env tau := mkE [(0, [(0, .one (.own 196))]), (1, [(0, .one (.own 196))]), (2, [(0, .one (.own 196)), (3, .one (.own 39))]), (3, [(0, .one (.own 196)), (3, .one (.own 39)), (4, .one .any)]), (4, [(0, .one (.own 196)), (3, .one (.own 39)), (4, .one .any)]), (5, [(0, .one (.own 196)), (3, .one (.own 39)), (4, .one .any)]), (6, [(3, .one (.own 39))])] [.one (.own 39)] ⟨0, 0⟩
noncomputable def c_172 (args : List (AV tau)) (m : Mem tau) (κ : AV tau → Mem tau → Option Unit) : Option Unit := match args, m.bx, m.rw with
  | [.agg [b0, b1]], [], [] => bO (asI .i64 b0) fun a0_0 => bO (asI .i64 b1) fun a0_1 => callX (fun n => laws_toPut.f a0_0 a0_1) fun t => κ (.agg [.int .i64 (t.1), .int .i64 (t.2)]) ⟨[], []⟩
  | _, _, _ => none
def E_172 : Env tau := mkE [(0, [(0, .agg [.any, .any])]), (1, [(1, .one .any), (2, .one .any)]), (2, [(1, .one .any), (2, .one .any), (3, .one .any)]), (3, [(1, .one .any), (2, .one .any), (3, .one .any)]), (4, [(2, .one .any), (3, .one .any)])] [.agg [.any, .any]] ⟨0, 0⟩
noncomputable def c_162 (args : List (AV tau)) (m : Mem tau) (κ : AV tau → Mem tau → Option Unit) : Option Unit := match args, m.bx, m.rw with
  | [b0], [], [] => bO (asSl 198 b0) fun l0 => callX (fun n => laws_toPutS.f n l0) fun t => κ (.own 0 0) ⟨[], [some ⟨82, t, 0⟩]⟩
  | _, _, _ => none
def E_162 : Env tau := mkE [(0, [(0, .one (.own 198))]), (1, [(0, .one (.own 198))]), (2, [(0, .one (.own 198)), (3, .one (.own 82))]), (3, [(0, .one (.own 198)), (3, .one (.own 82)), (4, .one .any)]), (4, [(0, .one (.own 198)), (3, .one (.own 82)), (4, .one .any)]), (5, [(0, .one (.own 198)), (3, .one (.own 82)), (4, .one .any)]), (6, [(3, .one (.own 82))])] [.one (.own 82)] ⟨0, 0⟩
noncomputable def c_135 (args : List (AV tau)) (m : Mem tau) (κ : AV tau → Mem tau → Option Unit) : Option Unit := match args, m.bx, m.rw with
  | [.agg [b0, b1, b2, b3]], [], [] => bO (asSl 196 b0) fun l0_0 => bO (asSl 198 b1) fun l0_1 => bO (asI .i64 b2) fun a0_2 => bO (asI .i64 b3) fun a0_3 => callX (fun n => laws_toRun.f n l0_0 l0_1 a0_2 a0_3) fun t => κ (.agg [.own 0 0, .own 1 0, .int .i64 (t.2.2.1), .int .i64 (t.2.2.2)]) ⟨[], [some ⟨39, t.1, 0⟩, some ⟨82, t.2.1, 0⟩]⟩
  | _, _, _ => none
def E_135 : Env tau := mkE [(0, [(0, .agg [.own 196, .own 198, .any, .any])]), (1, [(1, .one .any), (2, .one .any)]), (2, [(1, .one .any), (2, .one .any), (3, .one .any)]), (3, [(1, .one .any), (2, .one .any), (3, .one .any)]), (4, [(1, .one .any), (2, .one .any), (3, .one .any)]), (5, [(1, .one .any), (2, .one .any), (3, .one .any)]), (6, [(2, .one .any), (3, .one .any)])] [.agg [.own 39, .own 82, .any, .any]] ⟨0, 0⟩
noncomputable def c_67 (args : List (AV tau)) (m : Mem tau) (κ : AV tau → Mem tau → Option Unit) : Option Unit := match args, m.bx, m.rw with
  | [.agg [b0, b1, b2, b3, b4, b5, b6]], [], [] => bO (asB b0) fun a0_0 => bO (asI .i64 b1) fun a0_1 => bO (asI .i64 b2) fun a0_2 => bO (asSl 196 b3) fun l0_3 => bO (asSl 198 b4) fun l0_4 => bO (asI .i64 b5) fun a0_5 => bO (asI .i64 b6) fun a0_6 => callX (fun n => laws_toEntry.f n a0_0 a0_1 a0_2 l0_3 l0_4 a0_5 a0_6) fun t => κ (.agg [.bool (t.1), .int .i64 (t.2.1), .int .i64 (t.2.2.1), .own 0 0, .own 1 0, .int .i64 (t.2.2.2.2.2.1), .int .i64 (t.2.2.2.2.2.2)]) ⟨[], [some ⟨39, t.2.2.2.1, 0⟩, some ⟨82, t.2.2.2.2.1, 0⟩]⟩
  | _, _, _ => none
def E_67 : Env tau := mkE [(0, [(0, .agg [.any, .any, .any, .own 196, .own 198, .any, .any])]), (1, [(1, .one .any), (2, .one .any)]), (2, [(1, .one .any), (2, .one .any), (3, .one .any)]), (3, [(1, .one .any), (2, .one .any), (3, .one .any)]), (4, [(1, .one .any), (2, .one .any), (3, .one .any)]), (5, [(2, .one .any), (3, .one .any)])] [.agg [.any, .any, .any, .own 39, .own 82, .any, .any]] ⟨0, 0⟩
noncomputable def c_95 (args : List (AV tau)) (m : Mem tau) (κ : AV tau → Mem tau → Option Unit) : Option Unit := match args, m.bx, m.rw with
  | [.agg [b0, b1], .agg [b2, b3]], [], [] => bO (asI .i64 b0) fun a0_0 => bO (asI .i64 b1) fun a0_1 => bO (asI .i64 b2) fun a1_0 => bO (asI .i64 b3) fun a1_1 => callX (fun n => laws_eqBox.f a0_0 a0_1 a1_0 a1_1) fun t => κ (.bool (t)) ⟨[], []⟩
  | _, _, _ => none
def E_95 : Env tau := mkE [(0, [(0, .agg [.any, .any]), (1, .agg [.any, .any])]), (1, [(2, .one .any), (3, .one .any)]), (2, []), (3, [(2, .one .any), (3, .one .any)]), (4, []), (5, [])] [.one .any] ⟨0, 0⟩
noncomputable def c_30 (args : List (AV tau)) (m : Mem tau) (κ : AV tau → Mem tau → Option Unit) : Option Unit := match args, m.bx, m.rw with
  | [b0, b1], [], [] => bO (asSl 37 b0) fun l0 => bO (asSl 37 b1) fun l1 => callX (fun n => laws_eqBoxS.f n l0 l1) fun t => κ (.bool (t)) ⟨[], []⟩
  | _, _, _ => none
def E_30 : Env tau := mkE [(0, [(0, .one (.own 37)), (1, .one (.own 37))]), (1, [(0, .one (.own 37)), (1, .one (.own 37))]), (2, []), (3, [(0, .one (.own 37)), (1, .one (.own 37))]), (4, [(0, .one (.own 37)), (1, .one (.own 37)), (5, .one .any)]), (5, [(0, .one (.own 37)), (1, .one (.own 37)), (5, .one .any)]), (6, [(0, .one (.own 37)), (1, .one (.own 37)), (5, .one .any)]), (7, []), (8, [])] [.one .any] ⟨0, 0⟩
noncomputable def c_137 (args : List (AV tau)) (m : Mem tau) (κ : AV tau → Mem tau → Option Unit) : Option Unit := match args, m.bx, m.rw with
  | [.agg [b0, b1], .agg [b2, b3]], [], [] => bO (asI .i64 b0) fun a0_0 => bO (asI .i64 b1) fun a0_1 => bO (asI .i64 b2) fun a1_0 => bO (asI .i64 b3) fun a1_1 => callX (fun n => laws_eqReq.f a0_0 a0_1 a1_0 a1_1) fun t => κ (.bool (t)) ⟨[], []⟩
  | _, _, _ => none
def E_137 : Env tau := mkE [(0, [(0, .agg [.any, .any]), (1, .agg [.any, .any])]), (1, [(2, .one .any), (3, .one .any)]), (2, []), (3, [(2, .one .any), (3, .one .any)]), (4, []), (5, [])] [.one .any] ⟨0, 0⟩
noncomputable def c_163 (args : List (AV tau)) (m : Mem tau) (κ : AV tau → Mem tau → Option Unit) : Option Unit := match args, m.bx, m.rw with
  | [.agg [b0, b1, b2, b3], .agg [b4, b5, b6, b7]], [], [] => bO (asI .i64 b0) fun a0_0 => bO (asI .i64 b1) fun a0_1 => bO (asI .i64 b2) fun a0_2 => bO (asI .i64 b3) fun a0_3 => bO (asI .i64 b4) fun a1_0 => bO (asI .i64 b5) fun a1_1 => bO (asI .i64 b6) fun a1_2 => bO (asI .i64 b7) fun a1_3 => callX (fun n => laws_eqDone.f a0_0 a0_1 a0_2 a0_3 a1_0 a1_1 a1_2 a1_3) fun t => κ (.bool (t)) ⟨[], []⟩
  | _, _, _ => none
def E_163 : Env tau := mkE [(0, [(0, .agg [.any, .any, .any, .any]), (1, .agg [.any, .any, .any, .any])]), (1, [(2, .one .any), (3, .one .any)]), (2, []), (3, [(2, .one .any), (3, .one .any)]), (4, []), (5, [(2, .one .any), (3, .one .any)]), (6, []), (7, [])] [.one .any] ⟨0, 0⟩
noncomputable def c_136 (args : List (AV tau)) (m : Mem tau) (κ : AV tau → Mem tau → Option Unit) : Option Unit := match args, m.bx, m.rw with
  | [b0, b1], [], [] => bO (asSl 84 b0) fun l0 => bO (asSl 84 b1) fun l1 => callX (fun n => laws_eqDoneS.f n l0 l1) fun t => κ (.bool (t)) ⟨[], []⟩
  | _, _, _ => none
def E_136 : Env tau := mkE [(0, [(0, .one (.own 84)), (1, .one (.own 84))]), (1, [(0, .one (.own 84)), (1, .one (.own 84))]), (2, []), (3, [(0, .one (.own 84)), (1, .one (.own 84))]), (4, [(0, .one (.own 84)), (1, .one (.own 84)), (5, .one .any)]), (5, [(0, .one (.own 84)), (1, .one (.own 84)), (5, .one .any)]), (6, [(0, .one (.own 84)), (1, .one (.own 84)), (5, .one .any)]), (7, []), (8, [])] [.one .any] ⟨0, 0⟩
noncomputable def c_68 (args : List (AV tau)) (m : Mem tau) (κ : AV tau → Mem tau → Option Unit) : Option Unit := match args, m.bx, m.rw with
  | [.agg [b0, b1, b2], .agg [b3, b4, b5]], [], [] => bO (asI .i64 b0) fun a0_0 => bO (asSl 37 b1) fun l0_1 => bO (asSl 84 b2) fun l0_2 => bO (asI .i64 b3) fun a1_0 => bO (asSl 37 b4) fun l1_1 => bO (asSl 84 b5) fun l1_2 => callX (fun n => laws_eqState.f n a0_0 l0_1 l0_2 a1_0 l1_1 l1_2) fun t => κ (.bool (t)) ⟨[], []⟩
  | _, _, _ => none
def E_68 : Env tau := mkE [(0, [(0, .agg [.any, .own 37, .own 84]), (1, .agg [.any, .own 37, .own 84])]), (1, [(2, .one .any), (3, .one .any)]), (2, []), (3, [(2, .one .any), (3, .one .any)]), (4, []), (5, [(2, .one .any), (3, .one .any)]), (6, []), (7, [])] [.one .any] ⟨0, 0⟩
noncomputable def c_173 (args : List (AV tau)) (m : Mem tau) (κ : AV tau → Mem tau → Option Unit) : Option Unit := match args, m.bx, m.rw with
  | [.agg [b0, b1], .agg [b2, b3]], [], [] => bO (asI .i64 b0) fun a0_0 => bO (asI .i64 b1) fun a0_1 => bO (asI .i64 b2) fun a1_0 => bO (asI .i64 b3) fun a1_1 => callX (fun n => laws_eqRead.f a0_0 a0_1 a1_0 a1_1) fun t => κ (.bool (t)) ⟨[], []⟩
  | _, _, _ => none
def E_173 : Env tau := mkE [(0, [(0, .agg [.any, .any]), (1, .agg [.any, .any])]), (1, [(2, .one .any), (3, .one .any)]), (2, []), (3, [(2, .one .any), (3, .one .any)]), (4, []), (5, [])] [.one .any] ⟨0, 0⟩
noncomputable def c_164 (args : List (AV tau)) (m : Mem tau) (κ : AV tau → Mem tau → Option Unit) : Option Unit := match args, m.bx, m.rw with
  | [b0, b1], [], [] => bO (asSl 39 b0) fun l0 => bO (asSl 39 b1) fun l1 => callX (fun n => laws_eqReadS.f n l0 l1) fun t => κ (.bool (t)) ⟨[], []⟩
  | _, _, _ => none
def E_164 : Env tau := mkE [(0, [(0, .one (.own 39)), (1, .one (.own 39))]), (1, [(0, .one (.own 39)), (1, .one (.own 39))]), (2, []), (3, [(0, .one (.own 39)), (1, .one (.own 39))]), (4, [(0, .one (.own 39)), (1, .one (.own 39)), (5, .one .any)]), (5, [(0, .one (.own 39)), (1, .one (.own 39)), (5, .one .any)]), (6, [(0, .one (.own 39)), (1, .one (.own 39)), (5, .one .any)]), (7, []), (8, [])] [.one .any] ⟨0, 0⟩
noncomputable def c_174 (args : List (AV tau)) (m : Mem tau) (κ : AV tau → Mem tau → Option Unit) : Option Unit := match args, m.bx, m.rw with
  | [.agg [b0, b1], .agg [b2, b3]], [], [] => bO (asI .i64 b0) fun a0_0 => bO (asI .i64 b1) fun a0_1 => bO (asI .i64 b2) fun a1_0 => bO (asI .i64 b3) fun a1_1 => callX (fun n => laws_eqPut.f a0_0 a0_1 a1_0 a1_1) fun t => κ (.bool (t)) ⟨[], []⟩
  | _, _, _ => none
def E_174 : Env tau := mkE [(0, [(0, .agg [.any, .any]), (1, .agg [.any, .any])]), (1, [(2, .one .any), (3, .one .any)]), (2, []), (3, [(2, .one .any), (3, .one .any)]), (4, []), (5, [])] [.one .any] ⟨0, 0⟩
noncomputable def c_165 (args : List (AV tau)) (m : Mem tau) (κ : AV tau → Mem tau → Option Unit) : Option Unit := match args, m.bx, m.rw with
  | [b0, b1], [], [] => bO (asSl 82 b0) fun l0 => bO (asSl 82 b1) fun l1 => callX (fun n => laws_eqPutS.f n l0 l1) fun t => κ (.bool (t)) ⟨[], []⟩
  | _, _, _ => none
def E_165 : Env tau := mkE [(0, [(0, .one (.own 82)), (1, .one (.own 82))]), (1, [(0, .one (.own 82)), (1, .one (.own 82))]), (2, []), (3, [(0, .one (.own 82)), (1, .one (.own 82))]), (4, [(0, .one (.own 82)), (1, .one (.own 82)), (5, .one .any)]), (5, [(0, .one (.own 82)), (1, .one (.own 82)), (5, .one .any)]), (6, [(0, .one (.own 82)), (1, .one (.own 82)), (5, .one .any)]), (7, []), (8, [])] [.one .any] ⟨0, 0⟩
noncomputable def c_138 (args : List (AV tau)) (m : Mem tau) (κ : AV tau → Mem tau → Option Unit) : Option Unit := match args, m.bx, m.rw with
  | [.agg [b0, b1, b2, b3], .agg [b4, b5, b6, b7]], [], [] => bO (asSl 39 b0) fun l0_0 => bO (asSl 82 b1) fun l0_1 => bO (asI .i64 b2) fun a0_2 => bO (asI .i64 b3) fun a0_3 => bO (asSl 39 b4) fun l1_0 => bO (asSl 82 b5) fun l1_1 => bO (asI .i64 b6) fun a1_2 => bO (asI .i64 b7) fun a1_3 => callX (fun n => laws_eqRun.f n l0_0 l0_1 a0_2 a0_3 l1_0 l1_1 a1_2 a1_3) fun t => κ (.bool (t)) ⟨[], []⟩
  | _, _, _ => none
def E_138 : Env tau := mkE [(0, [(0, .agg [.own 39, .own 82, .any, .any]), (1, .agg [.own 39, .own 82, .any, .any])]), (1, [(2, .one .any), (3, .one .any)]), (2, []), (3, [(2, .one .any), (3, .one .any)]), (4, []), (5, [(2, .one .any), (3, .one .any)]), (6, []), (7, [(2, .one .any), (3, .one .any)]), (8, []), (9, [])] [.one .any] ⟨0, 0⟩
noncomputable def c_69 (args : List (AV tau)) (m : Mem tau) (κ : AV tau → Mem tau → Option Unit) : Option Unit := match args, m.bx, m.rw with
  | [.agg [b0, b1, b2, b3, b4, b5, b6], .agg [b7, b8, b9, b10, b11, b12, b13]], [], [] => bO (asB b0) fun a0_0 => bO (asI .i64 b1) fun a0_1 => bO (asI .i64 b2) fun a0_2 => bO (asSl 39 b3) fun l0_3 => bO (asSl 82 b4) fun l0_4 => bO (asI .i64 b5) fun a0_5 => bO (asI .i64 b6) fun a0_6 => bO (asB b7) fun a1_0 => bO (asI .i64 b8) fun a1_1 => bO (asI .i64 b9) fun a1_2 => bO (asSl 39 b10) fun l1_3 => bO (asSl 82 b11) fun l1_4 => bO (asI .i64 b12) fun a1_5 => bO (asI .i64 b13) fun a1_6 => callX (fun n => laws_eqEntry.f n a0_0 a0_1 a0_2 l0_3 l0_4 a0_5 a0_6 a1_0 a1_1 a1_2 l1_3 l1_4 a1_5 a1_6) fun t => κ (.bool (t)) ⟨[], []⟩
  | _, _, _ => none
def E_69 : Env tau := mkE [(0, [(0, .agg [.any, .any, .any, .own 39, .own 82, .any, .any]), (1, .agg [.any, .any, .any, .own 39, .own 82, .any, .any])]), (1, [(2, .one .any), (3, .one .any)]), (2, []), (3, [(2, .one .any), (3, .one .any)]), (4, []), (5, [(2, .one .any), (3, .one .any)]), (6, []), (7, [])] [.one .any] ⟨0, 0⟩
noncomputable def c_33 (args : List (AV tau)) (m : Mem tau) (κ : AV tau → Mem tau → Option Unit) : Option Unit := match args, m.bx, m.rw with
  | [b0, b1], [], [r0] => bO (asOwn 0 b0) fun _ => bO (asRow 37 r0) fun l0 => bO (asI .i64 b1) fun a1 => callX (fun n => laws_markBoxS.f n l0 a1) fun t => κ (.int .i64 (t.1)) ⟨[], [some ⟨37, t.2, 0⟩]⟩
  | _, _, _ => none
def E_33 : Env tau := mkE [(0, [(0, .one (.own 37)), (1, .one .any)]), (1, [(0, .one (.own 37)), (1, .one .any)]), (2, [(0, .one (.own 37)), (1, .one .any), (5, .one .any)]), (3, [(0, .one (.own 37)), (1, .one .any), (5, .one .any)]), (4, [(0, .one (.own 37)), (1, .one .any), (5, .one .any)]), (5, [(0, .one (.own 37)), (1, .one .any), (5, .one .any)]), (6, [(0, .one (.own 37)), (1, .one .any), (5, .one .any)]), (7, [(0, .one (.own 37)), (1, .one .any), (5, .one .any)]), (8, [(1, .one .any)])] [.one .any] ⟨0, 1⟩
noncomputable def c_139 (args : List (AV tau)) (m : Mem tau) (κ : AV tau → Mem tau → Option Unit) : Option Unit := match args, m.bx, m.rw with
  | [b0, b1], [], [r0] => bO (asOwn 0 b0) fun _ => bO (asRow 84 r0) fun l0 => bO (asI .i64 b1) fun a1 => callX (fun n => laws_markDoneS.f n l0 a1) fun t => κ (.int .i64 (t.1)) ⟨[], [some ⟨84, t.2, 0⟩]⟩
  | _, _, _ => none
def E_139 : Env tau := mkE [(0, [(0, .one (.own 84)), (1, .one .any)]), (1, [(0, .one (.own 84)), (1, .one .any)]), (2, [(0, .one (.own 84)), (1, .one .any), (5, .one .any)]), (3, [(0, .one (.own 84)), (1, .one .any), (5, .one .any)]), (4, [(0, .one (.own 84)), (1, .one .any), (5, .one .any)]), (5, [(0, .one (.own 84)), (1, .one .any), (5, .one .any)]), (6, [(0, .one (.own 84)), (1, .one .any), (5, .one .any)]), (7, [(0, .one (.own 84)), (1, .one .any), (5, .one .any)]), (8, [(0, .one (.own 84)), (1, .one .any), (5, .one .any)]), (9, [(0, .one (.own 84)), (1, .one .any), (5, .one .any)]), (10, [(0, .one (.own 84)), (1, .one .any), (5, .one .any)]), (11, [(0, .one (.own 84)), (1, .one .any), (5, .one .any)]), (12, [(1, .one .any)])] [.one .any] ⟨0, 1⟩
noncomputable def c_70 (args : List (AV tau)) (m : Mem tau) (κ : AV tau → Mem tau → Option Unit) : Option Unit := match args, m.bx, m.rw with
  | [.agg [b0, b1, b2], b3], [], [r0, r1] => bO (asI .i64 b0) fun a0_0 => bO (asOwn 0 b1) fun _ => bO (asRow 37 r0) fun l0_1 => bO (asOwn 1 b2) fun _ => bO (asRow 84 r1) fun l0_2 => bO (asI .i64 b3) fun a1 => callX (fun n => laws_markState.f n a0_0 l0_1 l0_2 a1) fun t => κ (.int .i64 (t.1)) ⟨[], [some ⟨37, t.2.1, 0⟩, some ⟨84, t.2.2, 0⟩]⟩
  | _, _, _ => none
def E_70 : Env tau := mkE [(0, [(0, .agg [.any, .own 37, .own 84]), (1, .one .any)]), (1, [(1, .one .any), (2, .one .any)]), (2, [(1, .one .any), (2, .one .any)]), (3, [(1, .one .any)])] [.one .any] ⟨0, 2⟩
noncomputable def c_142 (args : List (AV tau)) (m : Mem tau) (κ : AV tau → Mem tau → Option Unit) : Option Unit := match args, m.bx, m.rw with
  | [b0, b1], [], [r0] => bO (asOwn 0 b0) fun _ => bO (asRow 39 r0) fun l0 => bO (asI .i64 b1) fun a1 => callX (fun n => laws_markReadS.f n l0 a1) fun t => κ (.int .i64 (t.1)) ⟨[], [some ⟨39, t.2, 0⟩]⟩
  | _, _, _ => none
def E_142 : Env tau := mkE [(0, [(0, .one (.own 39)), (1, .one .any)]), (1, [(0, .one (.own 39)), (1, .one .any)]), (2, [(0, .one (.own 39)), (1, .one .any), (5, .one .any)]), (3, [(0, .one (.own 39)), (1, .one .any), (5, .one .any)]), (4, [(0, .one (.own 39)), (1, .one .any), (5, .one .any)]), (5, [(0, .one (.own 39)), (1, .one .any), (5, .one .any)]), (6, [(0, .one (.own 39)), (1, .one .any), (5, .one .any)]), (7, [(0, .one (.own 39)), (1, .one .any), (5, .one .any)]), (8, [(1, .one .any)])] [.one .any] ⟨0, 1⟩
noncomputable def c_143 (args : List (AV tau)) (m : Mem tau) (κ : AV tau → Mem tau → Option Unit) : Option Unit := match args, m.bx, m.rw with
  | [b0, b1], [], [r0] => bO (asOwn 0 b0) fun _ => bO (asRow 82 r0) fun l0 => bO (asI .i64 b1) fun a1 => callX (fun n => laws_markPutS.f n l0 a1) fun t => κ (.int .i64 (t.1)) ⟨[], [some ⟨82, t.2, 0⟩]⟩
  | _, _, _ => none
def E_143 : Env tau := mkE [(0, [(0, .one (.own 82)), (1, .one .any)]), (1, [(0, .one (.own 82)), (1, .one .any)]), (2, [(0, .one (.own 82)), (1, .one .any), (5, .one .any)]), (3, [(0, .one (.own 82)), (1, .one .any), (5, .one .any)]), (4, [(0, .one (.own 82)), (1, .one .any), (5, .one .any)]), (5, [(0, .one (.own 82)), (1, .one .any), (5, .one .any)]), (6, [(0, .one (.own 82)), (1, .one .any), (5, .one .any)]), (7, [(0, .one (.own 82)), (1, .one .any), (5, .one .any)]), (8, [(1, .one .any)])] [.one .any] ⟨0, 1⟩
noncomputable def c_140 (args : List (AV tau)) (m : Mem tau) (κ : AV tau → Mem tau → Option Unit) : Option Unit := match args, m.bx, m.rw with
  | [.agg [b0, b1, b2, b3], b4], [], [r0, r1] => bO (asOwn 0 b0) fun _ => bO (asRow 39 r0) fun l0_0 => bO (asOwn 1 b1) fun _ => bO (asRow 82 r1) fun l0_1 => bO (asI .i64 b2) fun a0_2 => bO (asI .i64 b3) fun a0_3 => bO (asI .i64 b4) fun a1 => callX (fun n => laws_markRun.f n l0_0 l0_1 a0_2 a0_3 a1) fun t => κ (.int .i64 (t.1)) ⟨[], [some ⟨39, t.2.1, 0⟩, some ⟨82, t.2.2, 0⟩]⟩
  | _, _, _ => none
def E_140 : Env tau := mkE [(0, [(0, .agg [.own 39, .own 82, .any, .any]), (1, .one .any)]), (1, [(1, .one .any), (2, .one .any)]), (2, [(1, .one .any), (2, .one .any)]), (3, [(1, .one .any)])] [.one .any] ⟨0, 2⟩
noncomputable def c_71 (args : List (AV tau)) (m : Mem tau) (κ : AV tau → Mem tau → Option Unit) : Option Unit := match args, m.bx, m.rw with
  | [.agg [b0, b1, b2, b3, b4, b5, b6], b7], [], [r0, r1] => bO (asB b0) fun a0_0 => bO (asI .i64 b1) fun a0_1 => bO (asI .i64 b2) fun a0_2 => bO (asOwn 0 b3) fun _ => bO (asRow 39 r0) fun l0_3 => bO (asOwn 1 b4) fun _ => bO (asRow 82 r1) fun l0_4 => bO (asI .i64 b5) fun a0_5 => bO (asI .i64 b6) fun a0_6 => bO (asI .i64 b7) fun a1 => callX (fun n => laws_markEntry.f n a0_0 a0_1 a0_2 l0_3 l0_4 a0_5 a0_6 a1) fun t => κ (.int .i64 (t.1)) ⟨[], [some ⟨39, t.2.1, 0⟩, some ⟨82, t.2.2, 0⟩]⟩
  | _, _, _ => none
def E_71 : Env tau := mkE [(0, [(0, .agg [.any, .any, .any, .own 39, .own 82, .any, .any]), (1, .one .any)]), (1, [(1, .one .any), (2, .one .any)]), (2, [(1, .one .any)])] [.one .any] ⟨0, 2⟩
noncomputable def c_36 (args : List (AV tau)) (m : Mem tau) (κ : AV tau → Mem tau → Option Unit) : Option Unit := match args, m.bx, m.rw with
  | [b0, b1], [], [] => bO (asSl 37 b0) fun l0 => bO (asI .i64 b1) fun a1 => callX (fun n => laws_heldBoxS.f n l0 a1) fun t => κ (.int .i64 (t)) ⟨[], []⟩
  | _, _, _ => none
def E_36 : Env tau := mkE [(0, [(0, .one (.own 37)), (1, .one .any)]), (1, [(0, .one (.own 37)), (1, .one .any)]), (2, [(0, .one (.own 37)), (1, .one .any), (5, .one .any)]), (3, [(0, .one (.own 37)), (1, .one .any), (5, .one .any)]), (4, [(0, .one (.own 37)), (1, .one .any), (5, .one .any)]), (5, []), (6, [(0, .one (.own 37)), (1, .one .any), (5, .one .any)]), (7, [(0, .one (.own 37)), (1, .one .any), (5, .one .any)]), (8, []), (9, [(0, .one (.own 37)), (1, .one .any), (5, .one .any)]), (10, [(1, .one .any)])] [.one .any] ⟨0, 0⟩
noncomputable def c_141 (args : List (AV tau)) (m : Mem tau) (κ : AV tau → Mem tau → Option Unit) : Option Unit := match args, m.bx, m.rw with
  | [b0, b1], [], [] => bO (asSl 84 b0) fun l0 => bO (asI .i64 b1) fun a1 => callX (fun n => laws_heldDoneS.f n l0 a1) fun t => κ (.int .i64 (t)) ⟨[], []⟩
  | _, _, _ => none
def E_141 : Env tau := mkE [(0, [(0, .one (.own 84)), (1, .one .any)]), (1, [(0, .one (.own 84)), (1, .one .any)]), (2, [(0, .one (.own 84)), (1, .one .any), (5, .one .any)]), (3, [(0, .one (.own 84)), (1, .one .any), (5, .one .any)]), (4, [(0, .one (.own 84)), (1, .one .any), (5, .one .any)]), (5, []), (6, [(0, .one (.own 84)), (1, .one .any), (5, .one .any)]), (7, [(0, .one (.own 84)), (1, .one .any), (5, .one .any)]), (8, []), (9, [(0, .one (.own 84)), (1, .one .any), (5, .one .any)]), (10, [(0, .one (.own 84)), (1, .one .any), (5, .one .any)]), (11, []), (12, [(0, .one (.own 84)), (1, .one .any), (5, .one .any)]), (13, [(0, .one (.own 84)), (1, .one .any), (5, .one .any)]), (14, []), (15, [(0, .one (.own 84)), (1, .one .any), (5, .one .any)]), (16, [(1, .one .any)])] [.one .any] ⟨0, 0⟩
noncomputable def c_72 (args : List (AV tau)) (m : Mem tau) (κ : AV tau → Mem tau → Option Unit) : Option Unit := match args, m.bx, m.rw with
  | [.agg [b0, b1, b2], b3], [], [] => bO (asI .i64 b0) fun a0_0 => bO (asSl 37 b1) fun l0_1 => bO (asSl 84 b2) fun l0_2 => bO (asI .i64 b3) fun a1 => callX (fun n => laws_heldState.f n a0_0 l0_1 l0_2 a1) fun t => κ (.int .i64 (t)) ⟨[], []⟩
  | _, _, _ => none
def E_72 : Env tau := mkE [(0, [(0, .agg [.any, .own 37, .own 84]), (1, .one .any)]), (1, [(1, .one .any), (2, .one .any)]), (2, [(1, .one .any), (2, .one .any)]), (3, []), (4, [(1, .one .any), (2, .one .any)]), (5, [(1, .one .any)]), (6, []), (7, [(1, .one .any)])] [.one .any] ⟨0, 0⟩
noncomputable def c_14 (args : List (AV tau)) (m : Mem tau) (κ : AV tau → Mem tau → Option Unit) : Option Unit := match args, m.bx, m.rw with
  | [.agg [b0, b1, b2], .agg [b3, b4, b5, b6, b7, b8, b9]], [], [] => bO (asI .i64 b0) fun a0_0 => bO (asSl 136 b1) fun l0_1 => bO (asSl 189 b2) fun l0_2 => bO (asB b3) fun a1_0 => bO (asI .i64 b4) fun a1_1 => bO (asI .i64 b5) fun a1_2 => bO (asSl 196 b6) fun l1_3 => bO (asSl 198 b7) fun l1_4 => bO (asI .i64 b8) fun a1_5 => bO (asI .i64 b9) fun a1_6 => callX (fun n => laws_FnExactCertApply.f n a0_0 l0_1 l0_2 a1_0 a1_1 a1_2 l1_3 l1_4 a1_5 a1_6) fun t => κ (.bool (t)) ⟨[], []⟩
  | _, _, _ => none
def E_14 : Env tau := mkE [(0, [(0, .agg [.any, .own 136, .own 189]), (1, .agg [.any, .any, .any, .own 196, .own 198, .any, .any])]), (1, [(2, .one .any), (3, .one .any)]), (2, [(2, .one .any), (3, .one .any), (5, .one .any)]), (3, [(2, .one .any), (3, .one .any), (5, .one .any)]), (4, []), (5, [(2, .one .any), (3, .one .any), (5, .one .any)]), (6, [(2, .one .any), (3, .one .any), (5, .one .any)]), (7, []), (8, [(2, .one .any), (3, .one .any)]), (9, [(2, .one .any), (3, .one .any), (6, .one .any), (7, .one .any)]), (10, [(2, .one .any), (3, .one .any), (6, .one .any), (7, .one .any), (8, .one .any)]), (11, [(2, .one .any), (3, .one .any), (6, .one .any), (7, .one .any), (8, .one .any), (9, .one .any)]), (12, [(2, .one .any), (3, .one .any), (6, .one .any), (7, .one .any), (8, .one .any), (9, .one .any), (10, .one .any), (11, .one .any)]), (13, []), (14, [(2, .one .any), (3, .one .any), (6, .one .any), (7, .one .any), (8, .one .any), (9, .one .any), (10, .one .any), (11, .one .any)]), (15, []), (16, [(2, .one .any), (3, .one .any), (6, .one .any), (7, .one .any), (8, .one .any), (9, .one .any), (10, .one .any), (11, .one .any)]), (17, []), (18, [(2, .one .any), (3, .one .any), (6, .one .any), (7, .one .any), (8, .one .any), (9, .one .any), (10, .one .any), (11, .one .any)]), (19, [(2, .one .any), (3, .one .any), (6, .one .any), (7, .one .any), (8, .one .any), (9, .one .any), (10, .one .any), (11, .one .any), (12, .one .any)]), (20, [(2, .one .any), (3, .one .any), (6, .one .any), (7, .one .any), (9, .one .any), (10, .one .any), (11, .one .any), (12, .one .any)]), (21, [(2, .one .any), (3, .one .any), (6, .one .any), (7, .one .any), (10, .one .any), (11, .one .any), (12, .one .any)]), (22, []), (23, [(2, .one .any), (3, .one .any), (6, .one .any), (7, .one .any), (10, .one .any)]), (24, [(2, .one .any), (3, .one .any), (6, .one .any), (7, .one .any), (10, .one .any), (13, .one .any)]), (25, [(2, .one .any), (3, .one .any), (6, .one .any), (7, .one .any), (10, .one .any), (13, .one .any)]), (26, [(2, .one .any), (3, .one .any), (6, .one .any), (7, .one .any), (10, .one .any), (13, .one .any), (14, .one .any)]), (27, [(2, .one .any), (3, .one .any), (6, .one .any), (7, .one .any), (10, .one .any), (13, .one .any), (14, .one .any)]), (28, []), (29, [(2, .one .any), (3, .one .any), (6, .one .any), (7, .one .any), (10, .one .any), (13, .one .any), (14, .one .any)]), (30, []), (31, [(2, .one .any), (3, .one .any), (6, .one .any), (7, .one .any), (10, .one .any), (13, .one .any)]), (32, [(6, .one .any), (7, .one .any), (10, .one .any), (13, .one .any), (15, .one .any), (16, .one .any)]), (33, []), (34, [(10, .one .any), (13, .one .any)]), (35, [(10, .one .any), (13, .one .any), (14, .one .any)]), (36, [(13, .one .any), (14, .one .any)]), (37, []), (38, [(13, .one .any), (14, .one .any)]), (39, []), (40, [])] [.one .any] ⟨0, 0⟩
end Go.Proofs.Ytkkmhlfpombgfaa.PFnExactCertApply