/- The machine's texts of FnExactCertFold (definitions, table, contracts). Conditions: none. -/
import Derived.Test.YtkkmhlfpombgfaaProg
import Derived.Test.YtkkmhlfpombgfaaSWFnExactCertFold
import Derived.Test.YtkkmhlfpombgfaaAm38
import Derived.RowKit
import Derived.KernelRfl
set_option linter.unusedVariables false
set_option maxRecDepth 100000
namespace Go.Proofs.Ytkkmhlfpombgfaa.PFnExactCertFold
open Go.RowKit Go.Proofs.YtkkmhlfpombgfaaW.PrintWords Go.Proofs.YtkkmhlfpombgfaaW.PrintLast Go.Proofs.YtkkmhlfpombgfaaW.PrintMore
def errW : Option Int → Value
  | none => .nilIface
  | some c => .iface 0 (.int .i64 c)
structure S39 where
  f0 : Int
  f1 : Int
def z39 : S39 := ⟨(0 : Int), (0 : Int)⟩
def rd_T39 (xs : List S39) (i : Int) : S39 := xs.getD i.toNat z39
structure S82 where
  f0 : Int
  f1 : Int
def z82 : S82 := ⟨(0 : Int), (0 : Int)⟩
def rd_T82 (xs : List S82) (i : Int) : S82 := xs.getD i.toNat z82
structure S75 where
  f0 : Int
  f1 : Int
def z75 : S75 := ⟨(0 : Int), (0 : Int)⟩
def rd_T75 (xs : List S75) (i : Int) : S75 := xs.getD i.toNat z75
def rd_L5 (xs : List (List S39)) (i : Int) : (List S39) := xs.getD i.toNat ([] : List S39)
def rd_L6 (xs : List (List S82)) (i : Int) : (List S82) := xs.getD i.toNat ([] : List S82)
structure S26 where
  f0 : (List S39)
  f1 : (List S82)
  f2 : Int
  f3 : Int
def z26 : S26 := ⟨([] : List S39), ([] : List S82), (0 : Int), (0 : Int)⟩
def rd_T26 (xs : List S26) (i : Int) : S26 := xs.getD i.toNat z26
structure S77 where
  f0 : Bool
  f1 : S75
  f2 : S26
def z77 : S77 := ⟨false, z75, z26⟩
def rd_T77 (xs : List S77) (i : Int) : S77 := xs.getD i.toNat z77
structure S37 where
  f0 : Int
  f1 : Int
def z37 : S37 := ⟨(0 : Int), (0 : Int)⟩
def rd_T37 (xs : List S37) (i : Int) : S37 := xs.getD i.toNat z37
structure S84 where
  f0 : S75
  f1 : Int
  f2 : Int
def z84 : S84 := ⟨z75, (0 : Int), (0 : Int)⟩
def rd_T84 (xs : List S84) (i : Int) : S84 := xs.getD i.toNat z84
structure S196 where
  f0 : Int
  f1 : Int
def z196 : S196 := ⟨(0 : Int), (0 : Int)⟩
def rd_T196 (xs : List S196) (i : Int) : S196 := xs.getD i.toNat z196
structure S198 where
  f0 : Int
  f1 : Int
def z198 : S198 := ⟨(0 : Int), (0 : Int)⟩
def rd_T198 (xs : List S198) (i : Int) : S198 := xs.getD i.toNat z198
structure S103 where
  f0 : Int
  f1 : Int
def z103 : S103 := ⟨(0 : Int), (0 : Int)⟩
def rd_T103 (xs : List S103) (i : Int) : S103 := xs.getD i.toNat z103
def rd_L14 (xs : List (List S196)) (i : Int) : (List S196) := xs.getD i.toNat ([] : List S196)
def rd_L15 (xs : List (List S198)) (i : Int) : (List S198) := xs.getD i.toNat ([] : List S198)
structure S107 where
  f0 : (List S196)
  f1 : (List S198)
  f2 : Int
  f3 : Int
def z107 : S107 := ⟨([] : List S196), ([] : List S198), (0 : Int), (0 : Int)⟩
def rd_T107 (xs : List S107) (i : Int) : S107 := xs.getD i.toNat z107
structure S109 where
  f0 : Bool
  f1 : S103
  f2 : S107
def z109 : S109 := ⟨false, z103, z107⟩
def rd_T109 (xs : List S109) (i : Int) : S109 := xs.getD i.toNat z109
def impl_same_impl_Read.l0 : Nat → List (S39) → List (S39) → Int → Int → Option (Bool)
  | 0, _, _, _, _ => none
  | k + 1, x0, x1, x12, x13 => if x13 < x12 then (if 0 ≤ x13 then (if x13 < (x0.length : Int) then (if x13 < (x1.length : Int) then (if (!(((rd_T39 x0 x13).f0) == ((rd_T39 x1 x13).f0)) || (!(((rd_T39 x0 x13).f1) == ((rd_T39 x1 x13).f1)))) = true then (some false) else (impl_same_impl_Read.l0 k x0 x1 x12 (wrap64 (x13 + 1)))) else (none)) else (none)) else (none)) else (some true)
def impl_same_impl_Read.f (k : Nat) (l0 : List (S39)) (l1 : List (S39)) : Option (Bool) := if (l0.length : Int) = (l1.length : Int) then (impl_same_impl_Read.l0 k l0 l1 (l0.length : Int) 0) else (some false)
def impl_same_impl_Put.l0 : Nat → List (S82) → List (S82) → Int → Int → Option (Bool)
  | 0, _, _, _, _ => none
  | k + 1, x0, x1, x12, x13 => if x13 < x12 then (if 0 ≤ x13 then (if x13 < (x0.length : Int) then (if x13 < (x1.length : Int) then (if (!(((rd_T82 x0 x13).f0) == ((rd_T82 x1 x13).f0)) || (!(((rd_T82 x0 x13).f1) == ((rd_T82 x1 x13).f1)))) = true then (some false) else (impl_same_impl_Put.l0 k x0 x1 x12 (wrap64 (x13 + 1)))) else (none)) else (none)) else (none)) else (some true)
def impl_same_impl_Put.f (k : Nat) (l0 : List (S82)) (l1 : List (S82)) : Option (Bool) := if (l0.length : Int) = (l1.length : Int) then (impl_same_impl_Put.l0 k l0 l1 (l0.length : Int) 0) else (some false)
def impl_ExecSame.f (k : Nat) (l0_0 : List (S39)) (l0_1 : List (S82)) (a0_2 : Int) (a0_3 : Int) (l1_0 : List (S39)) (l1_1 : List (S82)) (a1_2 : Int) (a1_3 : Int) : Option (Bool) := (impl_same_impl_Read.f k l0_0 l1_0).bind fun t107 => (if t107 = true then ((impl_same_impl_Put.f k l0_1 l1_1).bind fun t108 => (if t108 = true then (if a0_2 = a1_2 then (some (a0_3 == a1_3)) else (some false)) else (some false))) else (some false))
def impl_CertLike.f (k : Nat) (a0_0 : Bool) (a0_1 : Int) (a0_2 : Int) (l0_3 : List (S39)) (l0_4 : List (S82)) (a0_5 : Int) (a0_6 : Int) (a1_0 : Bool) (a1_1 : Int) (a1_2 : Int) (l1_3 : List (S39)) (l1_4 : List (S82)) (a1_5 : Int) (a1_6 : Int) : Option (Bool) := if (a0_0 == a1_0) = true then (if (a0_1 == a1_1 && (a0_2 == a1_2)) = true then ((impl_ExecSame.f k l0_3 l0_4 a0_5 a0_6 l1_3 l1_4 a1_5 a1_6).bind fun t111 => (some t111)) else (some false)) else (some false)
def impl_in.f (a0 : Int) (a1 : Int) (a2 : Int) : Option (Bool) := if a0 ≥ a1 then (some (decide (a0 ≤ a2))) else (some false)
mutual
def impl_ExecOk.j0 : Nat → Bool → List (S39) → List (S82) → Int → Int → Option (Bool)
  | 0, _, _, _, _, _ => none
  | k + 1, x45, x113000, x113001, x113002, x113003 => if x45 = true then (some false) else (impl_ExecOk.l0 k x113000 (x113000.length : Int) 0 x113000 x113001 x113002 x113003 false false false false false false false false)
def impl_ExecOk.l0 : Nat → List (S39) → Int → Int → List (S39) → List (S82) → Int → Int → Bool → Bool → Bool → Bool → Bool → Bool → Bool → Bool → Option (Bool)
  | 0, _, _, _, _, _, _, _, _, _, _, _, _, _, _, _ => none
  | k + 1, x47, x48, x49, x113000, x113001, x113002, x113003, x116000, x116001, x116002, x116003, x117000, x117001, x117002, x117003 => if x49 < x48 then (if 0 ≤ x49 then (if x49 < (x47.length : Int) then ((impl_in.f ((rd_T39 x47 x49).f0) 0 3).bind fun t119 => (if t119 = true then (if 0 ≤ ((rd_T39 x47 x49).f0) then (if ((rd_T39 x47 x49).f0) < 4 then (if rdOf false [x116000, x116001, x116002, x116003] ((rd_T39 x47 x49).f0) = true then (some false) else ((impl_in.f ((rd_T39 x47 x49).f1) 0 1000000).bind fun t120 => (if t120 = true then (impl_ExecOk.l0 k x47 x48 (wrap64 (x49 + 1)) x113000 x113001 x113002 x113003 (ixB ((rd_T39 x47 x49).f0) 0 true x116000) (ixB ((rd_T39 x47 x49).f0) 1 true x116001) (ixB ((rd_T39 x47 x49).f0) 2 true x116002) (ixB ((rd_T39 x47 x49).f0) 3 true x116003) x117000 x117001 x117002 x117003) else (some false)))) else (none)) else (none)) else (some false))) else (none)) else (none)) else (impl_ExecOk.l1 k x113001 (x113001.length : Int) 0 x117000 x117001 x117002 x117003)
def impl_ExecOk.l1 : Nat → List (S82) → Int → Int → Bool → Bool → Bool → Bool → Option (Bool)
  | 0, _, _, _, _, _, _, _ => none
  | k + 1, x74, x75, x76, x117000, x117001, x117002, x117003 => if x76 < x75 then (if 0 ≤ x76 then (if x76 < (x74.length : Int) then ((impl_in.f ((rd_T82 x74 x76).f0) 0 3).bind fun t123 => (if t123 = true then (if 0 ≤ ((rd_T82 x74 x76).f0) then (if ((rd_T82 x74 x76).f0) < 4 then (if rdOf false [x117000, x117001, x117002, x117003] ((rd_T82 x74 x76).f0) = true then (some false) else ((impl_in.f ((rd_T82 x74 x76).f1) (-1000000) 1000000).bind fun t124 => (if t124 = true then (impl_ExecOk.l1 k x74 x75 (wrap64 (x76 + 1)) (ixB ((rd_T82 x74 x76).f0) 0 true x117000) (ixB ((rd_T82 x74 x76).f0) 1 true x117001) (ixB ((rd_T82 x74 x76).f0) 2 true x117002) (ixB ((rd_T82 x74 x76).f0) 3 true x117003)) else (some false)))) else (none)) else (none)) else (some false))) else (none)) else (none)) else (some true)
end
def impl_ExecOk.f (k : Nat) (l0_0 : List (S39)) (l0_1 : List (S82)) (a0_2 : Int) (a0_3 : Int) : Option (Bool) := (impl_in.f a0_3 0 3).bind fun t113 => (if t113 = true then ((impl_in.f a0_2 (-1000000) 1000000).bind fun t114 => (if t114 = true then (if a0_3 = 0 then (if a0_3 = 3 then (impl_ExecOk.j0 k (decide ((l0_0.length : Int) > 0)) l0_0 l0_1 a0_2 a0_3) else (impl_ExecOk.j0 k false l0_0 l0_1 a0_2 a0_3)) else (if a0_2 = 0 then (if (l0_1.length : Int) > 0 then (impl_ExecOk.j0 k true l0_0 l0_1 a0_2 a0_3) else (if a0_3 = 3 then (impl_ExecOk.j0 k (decide ((l0_0.length : Int) > 0)) l0_0 l0_1 a0_2 a0_3) else (impl_ExecOk.j0 k false l0_0 l0_1 a0_2 a0_3))) else (impl_ExecOk.j0 k true l0_0 l0_1 a0_2 a0_3))) else (impl_ExecOk.j0 k true l0_0 l0_1 a0_2 a0_3))) else (impl_ExecOk.j0 k true l0_0 l0_1 a0_2 a0_3))
def impl_reqOk.f (a0_0 : Int) (a0_1 : Int) : Option (Bool) := (impl_in.f a0_0 0 2).bind fun t126 => (if t126 = true then ((impl_in.f a0_1 1 1000).bind fun t127 => (some t127)) else (some false))
def impl_CertEntry.f (k : Nat) (a0_0 : Bool) (a0_1 : Int) (a0_2 : Int) (l0_3 : List (S39)) (l0_4 : List (S82)) (a0_5 : Int) (a0_6 : Int) : Option (Bool) := if a0_0 = true then ((impl_CertLike.f k a0_0 a0_1 a0_2 l0_3 l0_4 a0_5 a0_6 true 0 0 ([] : List (S39)) ([] : List (S82)) 0 0).bind fun t129 => (some t129)) else ((impl_reqOk.f a0_1 a0_2).bind fun t130 => (if t130 = true then ((impl_ExecOk.f k l0_3 l0_4 a0_5 a0_6).bind fun t131 => (if t131 = true then (some (a0_6 != 3)) else (some false))) else (some false)))
def impl_listOk.l0 : Nat → List (S77) → List (S77) → Int → Int → Option (Bool)
  | 0, _, _, _, _ => none
  | k + 1, x0, x5, x6, x7 => if x7 < x6 then (if 0 ≤ x7 then (if x7 < (x5.length : Int) then ((impl_CertEntry.f k ((rd_T77 x5 x7).f0) ((rd_T77 x5 x7).f1.f0) ((rd_T77 x5 x7).f1.f1) ((rd_T77 x5 x7).f2.f0) ((rd_T77 x5 x7).f2.f1) ((rd_T77 x5 x7).f2.f2) ((rd_T77 x5 x7).f2.f3)).bind fun t134 => (if t134 = true then (impl_listOk.l0 k x0 x5 x6 (wrap64 (x7 + 1))) else (some false))) else (none)) else (none)) else (some (decide ((x0.length : Int) ≤ 40)))
def impl_listOk.f (k : Nat) (l0 : List (S77)) : Option (Bool) := impl_listOk.l0 k l0 l0 (l0.length : Int) 0
def impl_BoxOk.l0 : Nat → List (S37) → List (S37) → Int → Int → Option (Bool)
  | 0, _, _, _, _ => none
  | k + 1, x0, x5, x6, x7 => if x7 < x6 then (if 0 ≤ x7 then (if x7 < (x5.length : Int) then ((impl_in.f ((rd_T37 x5 x7).f0) 0 1000000).bind fun t137 => (if t137 = true then ((impl_in.f ((rd_T37 x5 x7).f1) (-1000000) 1000000).bind fun t138 => (if t138 = true then (impl_BoxOk.l0 k x0 x5 x6 (wrap64 (x7 + 1))) else (some false))) else (some false))) else (none)) else (none)) else (some ((x0.length : Int) == 4))
def impl_BoxOk.f (k : Nat) (l0 : List (S37)) : Option (Bool) := impl_BoxOk.l0 k l0 l0 (l0.length : Int) 0
mutual
def impl_ExecFresh.j0 : Nat → List (S37) → Bool → List (S39) → List (S82) → Int → Int → Option (Bool)
  | 0, _, _, _, _, _, _ => none
  | k + 1, x0, x14, x140000, x140001, x140002, x140003 => if x14 = true then (some false) else (impl_ExecFresh.l0 k x0 x140000 (x140000.length : Int) 0)
def impl_ExecFresh.l0 : Nat → List (S37) → List (S39) → Int → Int → Option (Bool)
  | 0, _, _, _, _ => none
  | k + 1, x0, x16, x17, x18 => if x18 < x17 then (if 0 ≤ x18 then (if x18 < (x16.length : Int) then (if 0 ≤ ((rd_T39 x16 x18).f0) then (if ((rd_T39 x16 x18).f0) < (x0.length : Int) then (if ((rd_T37 x0 ((rd_T39 x16 x18).f0)).f0) = ((rd_T39 x16 x18).f1) then (impl_ExecFresh.l0 k x0 x16 x17 (wrap64 (x18 + 1))) else (some false)) else (none)) else (none)) else (none)) else (none)) else (some true)
end
def impl_ExecFresh.f (k : Nat) (l0 : List (S37)) (l1_0 : List (S39)) (l1_1 : List (S82)) (a1_2 : Int) (a1_3 : Int) : Option (Bool) := (impl_BoxOk.f k l0).bind fun t140 => (if t140 = true then ((impl_ExecOk.f k l1_0 l1_1 a1_2 a1_3).bind fun t141 => (impl_ExecFresh.j0 k l0 (!t141) l1_0 l1_1 a1_2 a1_3)) else (impl_ExecFresh.j0 k l0 true l1_0 l1_1 a1_2 a1_3))
mutual
def impl_CertOk.l0 : Nat → List (S84) → Int → Int → Int → List (S37) → List (S84) → Option (Bool)
 | 0, _, _, _, _, _, _ => none
 | k + 1, x6, x7, x8, x146000, x146001, x146002 => if x8 < x7 then (if 0 ≤ x8 then (if x8 < (x6.length : Int) then (if x8 > 0 then (if 0 ≤ (wrap64 (x8 - 1)) then (if (wrap64 (x8 - 1)) < (x146002.length : Int) then (if ((rd_T84 x146002 (wrap64 (x8 - 1))).f0.f0) ≥ ((rd_T84 x6 x8).f0.f0) then (impl_CertOk.j1 k x6 x7 x8 true x146000 x146001 x146002) else ((impl_reqOk.f ((rd_T84 x6 x8).f0.f0) ((rd_T84 x6 x8).f0.f1)).bind fun t149 => (if t149 = true then ((impl_in.f ((rd_T84 x6 x8).f1) 0 2).bind fun t150 => (if t150 = true then ((impl_in.f ((rd_T84 x6 x8).f2) (-1000000) 1000000).bind fun t151 => (if t151 = true then (if ((rd_T84 x6 x8).f1) = 0 then (impl_CertOk.j1 k x6 x7 x8 false x146000 x146001 x146002) else (impl_CertOk.j1 k x6 x7 x8 (((rd_T84 x6 x8).f2) != 0) x146000 x146001 x146002)) else (impl_CertOk.j1 k x6 x7 x8 true x146000 x146001 x146002))) else (impl_CertOk.j1 k x6 x7 x8 true x146000 x146001 x146002))) else (impl_CertOk.j1 k x6 x7 x8 true x146000 x146001 x146002)))) else (none)) else (none)) else ((impl_reqOk.f ((rd_T84 x6 x8).f0.f0) ((rd_T84 x6 x8).f0.f1)).bind fun t152 => (if t152 = true then ((impl_in.f ((rd_T84 x6 x8).f1) 0 2).bind fun t153 => (if t153 = true then ((impl_in.f ((rd_T84 x6 x8).f2) (-1000000) 1000000).bind fun t154 => (if t154 = true then (if ((rd_T84 x6 x8).f1) = 0 then (impl_CertOk.j1 k x6 x7 x8 false x146000 x146001 x146002) else (impl_CertOk.j1 k x6 x7 x8 (((rd_T84 x6 x8).f2) != 0) x146000 x146001 x146002)) else (impl_CertOk.j1 k x6 x7 x8 true x146000 x146001 x146002))) else (impl_CertOk.j1 k x6 x7 x8 true x146000 x146001 x146002))) else (impl_CertOk.j1 k x6 x7 x8 true x146000 x146001 x146002)))) else (none)) else (none)) else ((impl_in.f x146000 0 40).bind fun t155 => (if t155 = true then ((impl_BoxOk.f k x146001).bind fun t156 => (some t156)) else (some false)))
def impl_CertOk.j1 : Nat → List (S84) → Int → Int → Bool → Int → List (S37) → List (S84) → Option (Bool)
 | 0, _, _, _, _, _, _, _ => none
 | k + 1, x6, x7, x8, x56, x146000, x146001, x146002 => if x56 = true then (some false) else (impl_CertOk.l0 k x6 x7 (wrap64 (x8 + 1)) x146000 x146001 x146002)
end
def impl_CertOk.f (k : Nat) (a0_0 : Int) (l0_1 : List (S37)) (l0_2 : List (S84)) : Option (Bool) := impl_CertOk.l0 k l0_2 (l0_2.length : Int) 0 a0_0 l0_1 l0_2
def impl_copied_impl_Box.f (l0 : List (S37)) : Option (List (S37)) := if l0.length ≤ 17592186044416 then some l0 else none
def impl_copied_impl_Done.f (l0 : List (S84)) : Option (List (S84)) := if l0.length ≤ 8796093022208 then some l0 else none
mutual
def impl_ExecDo.j0 : Nat → List (S37) → Bool → List (S39) → List (S82) → Int → Int → Option ((List (S37)))
  | 0, _, _, _, _, _, _ => none
  | k + 1, x0, x15, x158000, x158001, x158002, x158003 => if x15 = true then (some ([] : List (S37))) else ((impl_copied_impl_Box.f x0).bind fun t160 => (impl_ExecDo.l0 k t160 x158001 (x158001.length : Int) 0))
def impl_ExecDo.l0 : Nat → List (S37) → List (S82) → Int → Int → Option ((List (S37)))
  | 0, _, _, _, _ => none
  | k + 1, x5, x19, x20, x21 => if x21 < x20 then (if 0 ≤ x21 then (if x21 < (x19.length : Int) then (if 0 ≤ ((rd_T82 x19 x21).f0) then (if ((rd_T82 x19 x21).f0) < (x5.length : Int) then (impl_ExecDo.l0 k (x5.set (((rd_T82 x19 x21).f0) : Int).toNat (⟨mn 1000000 (wrap64 (((rd_T37 x5 ((rd_T82 x19 x21).f0)).f0) + 1)), (rd_T82 x19 x21).f1⟩ : S37)) x19 x20 (wrap64 (x21 + 1))) else (none)) else (none)) else (none)) else (none)) else (some x5)
end
def impl_ExecDo.f (k : Nat) (l0 : List (S37)) (l1_0 : List (S39)) (l1_1 : List (S82)) (a1_2 : Int) (a1_3 : Int) : Option ((List (S37))) := (impl_BoxOk.f k l0).bind fun t158 => (if t158 = true then ((impl_ExecOk.f k l1_0 l1_1 a1_2 a1_3).bind fun t159 => (impl_ExecDo.j0 k l0 (!t159) l1_0 l1_1 a1_2 a1_3)) else (impl_ExecDo.j0 k l0 true l1_0 l1_1 a1_2 a1_3))
mutual
def impl_CertApply.j0 : Nat → Bool → Int → List (S37) → List (S84) → Bool → Int → Int → List (S39) → List (S82) → Int → Int → Option (Int × (List (S37)) × (List (S84)) × Int)
 | 0, _, _, _, _, _, _, _, _, _, _, _ => none
 | k + 1, x26, x168000, x168001, x168002, x169000, x169001, x169002, x169003, x169004, x169005, x169006 => if x26 = true then (some (0, ([] : List (S37)), ([] : List (S84)), (-1))) else ((impl_copied_impl_Box.f x168001).bind fun t172 => (if x169000 = true then ((impl_copied_impl_Done.f x168002).bind fun t176 => (some (wrap64 (x168000 + 1), t172, t176, 5))) else (impl_CertApply.l0 k x168002 (x168002.length : Int) 0 x168000 x168001 x168002 x169000 x169001 x169002 x169003 x169004 x169005 x169006 (wrap64 (x168000 + 1)) t172)))
def impl_CertApply.l0 : Nat → List (S84) → Int → Int → Int → List (S37) → List (S84) → Bool → Int → Int → List (S39) → List (S82) → Int → Int → Int → List (S37) → Option (Int × (List (S37)) × (List (S84)) × Int)
 | 0, _, _, _, _, _, _, _, _, _, _, _, _, _, _, _ => none
 | k + 1, x43, x44, x45, x168000, x168001, x168002, x169000, x169001, x169002, x169003, x169004, x169005, x169006, x176000, x176001 => if x45 < x44 then (if 0 ≤ x45 then (if x45 < (x43.length : Int) then (if ((rd_T84 x43 x45).f0.f0) = x169001 then (impl_CertApply.j2 k x43 x44 x45 (decide (((rd_T84 x43 x45).f0.f1) ≥ x169002)) x168000 x168001 x168002 x169000 x169001 x169002 x169003 x169004 x169005 x169006 x176000 x176001 ((rd_T84 x43 x45).f0.f0) ((rd_T84 x43 x45).f0.f1) ((rd_T84 x43 x45).f1) ((rd_T84 x43 x45).f2)) else (impl_CertApply.j2 k x43 x44 x45 false x168000 x168001 x168002 x169000 x169001 x169002 x169003 x169004 x169005 x169006 x176000 x176001 ((rd_T84 x43 x45).f0.f0) ((rd_T84 x43 x45).f0.f1) ((rd_T84 x43 x45).f1) ((rd_T84 x43 x45).f2))) else (none)) else (none)) else ((impl_ExecFresh.f k x168001 x169003 x169004 x169005 x169006).bind fun t185 => (if t185 = true then (if x169006 = 0 then ((impl_ExecDo.f k x168001 x169003 x169004 x169005 x169006).bind fun t186 => (impl_CertApply.j3 k x168000 x168001 x168002 x176000 t186 x169001 x169002 0 x169005)) else (impl_CertApply.j3 k x168000 x168001 x168002 x176000 x176001 x169001 x169002 2 0)) else (impl_CertApply.j3 k x168000 x168001 x168002 x176000 x176001 x169001 x169002 1 0)))
def impl_CertApply.j2 : Nat → List (S84) → Int → Int → Bool → Int → List (S37) → List (S84) → Bool → Int → Int → List (S39) → List (S82) → Int → Int → Int → List (S37) → Int → Int → Int → Int → Option (Int × (List (S37)) × (List (S84)) × Int)
 | 0, _, _, _, _, _, _, _, _, _, _, _, _, _, _, _, _, _, _, _, _ => none
 | k + 1, x43, x44, x45, x64, x168000, x168001, x168002, x169000, x169001, x169002, x169003, x169004, x169005, x169006, x176000, x176001, x181000, x181001, x181002, x181003 => if x64 = true then ((impl_copied_impl_Done.f x168002).bind fun t181 => (if x181001 = x169002 then (some (x176000, x176001, t181, 3)) else (some (x176000, x176001, t181, 4)))) else (impl_CertApply.l0 k x43 x44 (wrap64 (x45 + 1)) x168000 x168001 x168002 x169000 x169001 x169002 x169003 x169004 x169005 x169006 x176000 x176001)
def impl_CertApply.j3 : Nat → Int → List (S37) → List (S84) → Int → List (S37) → Int → Int → Int → Int → Option (Int × (List (S37)) × (List (S84)) × Int)
 | 0, _, _, _, _, _, _, _, _, _ => none
 | k + 1, x168000, x168001, x168002, x176000, x176001, x185000, x185001, x185002, x185003 => impl_CertApply.l1 k ([] : List (S84)) false x168002 (x168002.length : Int) 0 x176000 x176001 x185000 x185001 x185002 x185003
def impl_CertApply.l1 : Nat → List (S84) → Bool → List (S84) → Int → Int → Int → List (S37) → Int → Int → Int → Int → Option (Int × (List (S37)) × (List (S84)) × Int)
 | 0, _, _, _, _, _, _, _, _, _, _, _ => none
 | k + 1, x10, x11, x107, x108, x109, x176000, x176001, x185000, x185001, x185002, x185003 => if x109 < x108 then (if 0 ≤ x109 then (if x109 < (x107.length : Int) then (if x11 = true then (impl_CertApply.j5 k x10 x11 x107 x108 x109 false x176000 x176001 x185000 x185001 x185002 x185003 ((rd_T84 x107 x109).f0.f0) ((rd_T84 x107 x109).f0.f1) ((rd_T84 x107 x109).f1) ((rd_T84 x107 x109).f2)) else (impl_CertApply.j5 k x10 x11 x107 x108 x109 (decide (((rd_T84 x107 x109).f0.f0) ≥ x185000)) x176000 x176001 x185000 x185001 x185002 x185003 ((rd_T84 x107 x109).f0.f0) ((rd_T84 x107 x109).f0.f1) ((rd_T84 x107 x109).f1) ((rd_T84 x107 x109).f2))) else (none)) else (none)) else (if x11 = true then ((impl_copied_impl_Done.f x10).bind fun t189 => (some (x176000, x176001, t189, x185002))) else (if x10.length < 4398046511104 then ((impl_copied_impl_Done.f (x10 ++ [(⟨(⟨x185000, x185001⟩ : S75), x185002, x185003⟩ : S84)])).bind fun t195 => (some (x176000, x176001, t195, x185002))) else (none)))
def impl_CertApply.j5 : Nat → List (S84) → Bool → List (S84) → Int → Int → Bool → Int → List (S37) → Int → Int → Int → Int → Int → Int → Int → Int → Option (Int × (List (S37)) × (List (S84)) × Int)
 | 0, _, _, _, _, _, _, _, _, _, _, _, _, _, _, _, _ => none
 | k + 1, x10, x11, x107, x108, x109, x123, x176000, x176001, x185000, x185001, x185002, x185003, x200000, x200001, x200002, x200003 => if x123 = true then (if x10.length < 4398046511104 then ((some (x10 ++ [(⟨(⟨x185000, x185001⟩ : S75), x185002, x185003⟩ : S84)] : List (S84))).bind fun y200 => (if x200000 = x185000 then (impl_CertApply.l1 k y200 true x107 x108 (wrap64 (x109 + 1)) x176000 x176001 x185000 x185001 x185002 x185003) else (if y200.length < 4398046511104 then (impl_CertApply.l1 k (y200 ++ [(⟨(⟨x200000, x200001⟩ : S75), x200002, x200003⟩ : S84)]) true x107 x108 (wrap64 (x109 + 1)) x176000 x176001 x185000 x185001 x185002 x185003) else (none)))) else (none)) else (if x200000 = x185000 then (impl_CertApply.l1 k x10 x11 x107 x108 (wrap64 (x109 + 1)) x176000 x176001 x185000 x185001 x185002 x185003) else (if x10.length < 4398046511104 then (impl_CertApply.l1 k (x10 ++ [(⟨(⟨x200000, x200001⟩ : S75), x200002, x200003⟩ : S84)]) x11 x107 x108 (wrap64 (x109 + 1)) x176000 x176001 x185000 x185001 x185002 x185003) else (none)))
end
def impl_CertApply.f (k : Nat) (a0_0 : Int) (l0_1 : List (S37)) (l0_2 : List (S84)) (a1_0 : Bool) (a1_1 : Int) (a1_2 : Int) (l1_3 : List (S39)) (l1_4 : List (S82)) (a1_5 : Int) (a1_6 : Int) : Option (Int × (List (S37)) × (List (S84)) × Int) := (impl_CertOk.f k a0_0 l0_1 l0_2).bind fun t170 => (if t170 = true then ((impl_CertEntry.f k a1_0 a1_1 a1_2 l1_3 l1_4 a1_5 a1_6).bind fun t171 => (if t171 = true then (impl_CertApply.j0 k (a0_0 == 40) a0_0 l0_1 l0_2 a1_0 a1_1 a1_2 l1_3 l1_4 a1_5 a1_6) else (impl_CertApply.j0 k true a0_0 l0_1 l0_2 a1_0 a1_1 a1_2 l1_3 l1_4 a1_5 a1_6))) else (impl_CertApply.j0 k true a0_0 l0_1 l0_2 a1_0 a1_1 a1_2 l1_3 l1_4 a1_5 a1_6))
def impl_BoxOpen.f  : Option ((List (S37))) := if 4 ≤ 17592186044416 then (some (List.replicate 4 z37)) else (none)
def impl_CertOpen.f  : Option (Int × (List (S37)) × (List (S84))) := (impl_BoxOpen.f).bind fun t213 => (some (0, t213, ([] : List (S84))))
def impl_folded.l0 : Nat → List Int → List (S77) → Int → Int → Int → List (S37) → List (S84) → Option (Int × (List (S37)) × (List (S84)) × List Int)
  | 0, _, _, _, _, _, _, _ => none
  | k + 1, x5, x11, x12, x13, x225000, x225001, x225002 => if x13 < x12 then (if 0 ≤ x13 then (if x13 < (x11.length : Int) then ((impl_CertApply.f k x225000 x225001 x225002 ((rd_T77 x11 x13).f0) ((rd_T77 x11 x13).f1.f0) ((rd_T77 x11 x13).f1.f1) ((rd_T77 x11 x13).f2.f0) ((rd_T77 x11 x13).f2.f1) ((rd_T77 x11 x13).f2.f2) ((rd_T77 x11 x13).f2.f3)).bind fun bt227 => (if x5.length < 17592186044416 then (impl_folded.l0 k (x5 ++ [bt227.2.2.2]) x11 x12 (wrap64 (x13 + 1)) bt227.1 bt227.2.1 bt227.2.2.1) else (none))) else (none)) else (none)) else (some (x225000, x225001, x225002, x5))
def impl_folded.f (k : Nat) (l0 : List (S77)) : Option (Int × (List (S37)) × (List (S84)) × List Int) := (impl_CertOpen.f).bind fun bt217 => (impl_folded.l0 k ([] : List Int) l0 (l0.length : Int) 0 bt217.1 bt217.2.1 bt217.2.2)
def impl_CertFold.f (k : Nat) (l0 : List (S77)) : Option (Int × (List (S37)) × (List (S84))) := (impl_listOk.f k l0).bind fun t240 => (if t240 = true then ((impl_folded.f k l0).bind fun bt241 => (some (bt241.1, bt241.2.1, bt241.2.2.1))) else (some (0, ([] : List (S37)), ([] : List (S84)))))
mutual
def spec_ExecSame.j0 : Nat → Bool → List (S39) → List (S82) → Int → Int → List (S39) → List (S82) → Int → Int → Option (Bool)
  | 0, _, _, _, _, _, _, _, _, _ => none
  | k + 1, x36, x253000, x253001, x253002, x253003, x254000, x254001, x254002, x254003 => if x36 = true then (some false) else (spec_ExecSame.l0 k 0 x253000 x253001 x253002 x253003 x254000 x254001 x254002 x254003)
def spec_ExecSame.l0 : Nat → Int → List (S39) → List (S82) → Int → Int → List (S39) → List (S82) → Int → Int → Option (Bool)
  | 0, _, _, _, _, _, _, _, _, _ => none
  | k + 1, x5, x253000, x253001, x253002, x253003, x254000, x254001, x254002, x254003 => if x5 < (x253000.length : Int) then (if 0 ≤ x5 then (if x5 < (x254000.length : Int) then (if (!(((rd_T39 x253000 x5).f0) == ((rd_T39 x254000 x5).f0)) || (!(((rd_T39 x253000 x5).f1) == ((rd_T39 x254000 x5).f1)))) = true then (some false) else (spec_ExecSame.l0 k (wrap64 (x5 + 1)) x253000 x253001 x253002 x253003 x254000 x254001 x254002 x254003)) else (none)) else (none)) else (spec_ExecSame.l1 k 0 x253000 x253001 x253002 x253003 x254000 x254001 x254002 x254003)
def spec_ExecSame.l1 : Nat → Int → List (S39) → List (S82) → Int → Int → List (S39) → List (S82) → Int → Int → Option (Bool)
  | 0, _, _, _, _, _, _, _, _, _ => none
  | k + 1, x6, x253000, x253001, x253002, x253003, x254000, x254001, x254002, x254003 => if x6 < (x253001.length : Int) then (if 0 ≤ x6 then (if x6 < (x254001.length : Int) then (if (!(((rd_T82 x253001 x6).f0) == ((rd_T82 x254001 x6).f0)) || (!(((rd_T82 x253001 x6).f1) == ((rd_T82 x254001 x6).f1)))) = true then (some false) else (spec_ExecSame.l1 k (wrap64 (x6 + 1)) x253000 x253001 x253002 x253003 x254000 x254001 x254002 x254003)) else (none)) else (none)) else (some true)
end
def spec_ExecSame.f (k : Nat) (l0_0 : List (S39)) (l0_1 : List (S82)) (a0_2 : Int) (a0_3 : Int) (l1_0 : List (S39)) (l1_1 : List (S82)) (a1_2 : Int) (a1_3 : Int) : Option (Bool) := if a0_2 = a1_2 then (if a0_3 = a1_3 then (if (l0_0.length : Int) = (l1_0.length : Int) then (spec_ExecSame.j0 k ((l0_1.length : Int) != (l1_1.length : Int)) l0_0 l0_1 a0_2 a0_3 l1_0 l1_1 a1_2 a1_3) else (spec_ExecSame.j0 k true l0_0 l0_1 a0_2 a0_3 l1_0 l1_1 a1_2 a1_3)) else (spec_ExecSame.j0 k true l0_0 l0_1 a0_2 a0_3 l1_0 l1_1 a1_2 a1_3)) else (spec_ExecSame.j0 k true l0_0 l0_1 a0_2 a0_3 l1_0 l1_1 a1_2 a1_3)
def spec_l1Num.f (a0 : Int) : Option (Bool) := if a0 ≥ (-1000000) then (some (decide (a0 ≤ 1000000))) else (some false)
def spec_l2Box.f (a0 : Int) : Option (Bool) := if a0 ≥ 0 then (some (decide (a0 < 4))) else (some false)
def spec_l3Saw.l0 : Nat → List (S39) → Int → Int → Option (Bool)
  | 0, _, _, _ => none
  | k + 1, x0, x1, x5 => if x5 < (x0.length : Int) then (if 0 ≤ x5 then (if ((rd_T39 x0 x5).f0) = x1 then (some true) else (spec_l3Saw.l0 k x0 x1 (wrap64 (x5 + 1)))) else (none)) else (some false)
def spec_l3Saw.f (k : Nat) (l0 : List (S39)) (a1 : Int) : Option (Bool) := spec_l3Saw.l0 k l0 a1 0
def spec_l3At.l0 : Nat → List (S82) → Int → Int → Option (Int)
  | 0, _, _, _ => none
  | k + 1, x0, x1, x5 => if x5 < (x0.length : Int) then (if 0 ≤ x5 then (if ((rd_T82 x0 x5).f0) = x1 then (some x5) else (spec_l3At.l0 k x0 x1 (wrap64 (x5 + 1)))) else (none)) else (some (-1))
def spec_l3At.f (k : Nat) (l0 : List (S82)) (a1 : Int) : Option (Int) := spec_l3At.l0 k l0 a1 0
mutual
def spec_ExecOk.j0 : Nat → Bool → List (S39) → List (S82) → Int → Int → Option (Bool)
  | 0, _, _, _, _, _ => none
  | k + 1, x45, x261000, x261001, x261002, x261003 => if x45 = true then (some false) else (spec_ExecOk.l0 k 0 x261000 x261001 x261002 x261003)
def spec_ExecOk.l0 : Nat → Int → List (S39) → List (S82) → Int → Int → Option (Bool)
  | 0, _, _, _, _, _ => none
  | k + 1, x3, x261000, x261001, x261002, x261003 => if x3 < (x261000.length : Int) then (if 0 ≤ x3 then ((spec_l2Box.f ((rd_T39 x261000 x3).f0)).bind fun t263 => (if t263 = true then (if ((rd_T39 x261000 x3).f1) < 0 then (some false) else (if ((rd_T39 x261000 x3).f1) > 1000000 then (some false) else (if x3 ≤ (x261000.length : Int) then ((spec_l3Saw.f k (x261000.take (x3 : Int).toNat) ((rd_T39 x261000 x3).f0)).bind fun t271 => (if t271 = true then (some false) else (spec_ExecOk.l0 k (wrap64 (x3 + 1)) x261000 x261001 x261002 x261003))) else (none)))) else (some false))) else (none)) else (spec_ExecOk.l1 k 0 x261000 x261001 x261002 x261003)
def spec_ExecOk.l1 : Nat → Int → List (S39) → List (S82) → Int → Int → Option (Bool)
  | 0, _, _, _, _, _ => none
  | k + 1, x4, x261000, x261001, x261002, x261003 => if x4 < (x261001.length : Int) then (if 0 ≤ x4 then ((spec_l2Box.f ((rd_T82 x261001 x4).f0)).bind fun t273 => (if t273 = true then ((spec_l1Num.f ((rd_T82 x261001 x4).f1)).bind fun t275 => (if t275 = true then (if x4 ≤ (x261001.length : Int) then ((spec_l3At.f k (x261001.take (x4 : Int).toNat) ((rd_T82 x261001 x4).f0)).bind fun t281 => (if t281 ≥ 0 then (some false) else (spec_ExecOk.l1 k (wrap64 (x4 + 1)) x261000 x261001 x261002 x261003))) else (none)) else (some false))) else (some false))) else (none)) else (some true)
end
def spec_ExecOk.f (k : Nat) (l0_0 : List (S39)) (l0_1 : List (S82)) (a0_2 : Int) (a0_3 : Int) : Option (Bool) := if a0_3 < 0 then (spec_ExecOk.j0 k true l0_0 l0_1 a0_2 a0_3) else (if a0_3 > 3 then (spec_ExecOk.j0 k true l0_0 l0_1 a0_2 a0_3) else ((spec_l1Num.f a0_2).bind fun t261 => (if t261 = true then (if a0_3 = 0 then (if a0_3 = 3 then (spec_ExecOk.j0 k (decide ((l0_0.length : Int) > 0)) l0_0 l0_1 a0_2 a0_3) else (spec_ExecOk.j0 k false l0_0 l0_1 a0_2 a0_3)) else (if a0_2 = 0 then (if (l0_1.length : Int) > 0 then (spec_ExecOk.j0 k true l0_0 l0_1 a0_2 a0_3) else (if a0_3 = 3 then (spec_ExecOk.j0 k (decide ((l0_0.length : Int) > 0)) l0_0 l0_1 a0_2 a0_3) else (spec_ExecOk.j0 k false l0_0 l0_1 a0_2 a0_3))) else (spec_ExecOk.j0 k true l0_0 l0_1 a0_2 a0_3))) else (spec_ExecOk.j0 k true l0_0 l0_1 a0_2 a0_3))))
def spec_l5Req.f (a0_0 : Int) (a0_1 : Int) : Option (Bool) := if a0_0 ≥ 0 then (if a0_0 < 3 then (if a0_1 ≥ 1 then (some (decide (a0_1 ≤ 1000))) else (some false)) else (some false)) else (some false)
def spec_CertEntry.f (k : Nat) (a0_0 : Bool) (a0_1 : Int) (a0_2 : Int) (l0_3 : List (S39)) (l0_4 : List (S82)) (a0_5 : Int) (a0_6 : Int) : Option (Bool) := if a0_0 = true then (if (a0_1 == 0 && (a0_2 == 0)) = true then ((spec_ExecSame.f k l0_3 l0_4 a0_5 a0_6 ([] : List (S39)) ([] : List (S82)) 0 0).bind fun t284 => (some t284)) else (some false)) else ((spec_l5Req.f a0_1 a0_2).bind fun t285 => (if t285 = true then ((spec_ExecOk.f k l0_3 l0_4 a0_5 a0_6).bind fun t286 => (if t286 = true then (some (a0_6 != 3)) else (some false))) else (some false)))
def spec_BoxOpen.f  : Option ((List (S37))) := if 4 ≤ 17592186044416 then (some (List.replicate 4 z37)) else (none)
def spec_CertOpen.f  : Option (Int × (List (S37)) × (List (S84))) := (spec_BoxOpen.f).bind fun t291 => (some (0, t291, ([] : List (S84))))
def spec_BoxOk.l0 : Nat → List (S37) → Int → Option (Bool)
  | 0, _, _ => none
  | k + 1, x0, x3 => if x3 < (x0.length : Int) then (if 0 ≤ x3 then (if ((rd_T37 x0 x3).f0) < 0 then (some false) else (if ((rd_T37 x0 x3).f0) > 1000000 then (some false) else ((spec_l1Num.f ((rd_T37 x0 x3).f1)).bind fun t297 => (if t297 = true then (spec_BoxOk.l0 k x0 (wrap64 (x3 + 1))) else (some false))))) else (none)) else (some true)
def spec_BoxOk.f (k : Nat) (l0 : List (S37)) : Option (Bool) := if (l0.length : Int) = 4 then (spec_BoxOk.l0 k l0 0) else (some false)
mutual
def spec_ExecFresh.j0 : Nat → List (S37) → Bool → List (S39) → List (S82) → Int → Int → Option (Bool)
  | 0, _, _, _, _, _, _ => none
  | k + 1, x0, x13, x299000, x299001, x299002, x299003 => if x13 = true then (some false) else (spec_ExecFresh.l0 k x0 0 x299000 x299001 x299002 x299003)
def spec_ExecFresh.l0 : Nat → List (S37) → Int → List (S39) → List (S82) → Int → Int → Option (Bool)
  | 0, _, _, _, _, _, _ => none
  | k + 1, x0, x5, x299000, x299001, x299002, x299003 => if x5 < (x299000.length : Int) then (if 0 ≤ x5 then (if 0 ≤ ((rd_T39 x299000 x5).f0) then (if ((rd_T39 x299000 x5).f0) < (x0.length : Int) then (if ((rd_T37 x0 ((rd_T39 x299000 x5).f0)).f0) = ((rd_T39 x299000 x5).f1) then (spec_ExecFresh.l0 k x0 (wrap64 (x5 + 1)) x299000 x299001 x299002 x299003) else (some false)) else (none)) else (none)) else (none)) else (some true)
end
def spec_ExecFresh.f (k : Nat) (l0 : List (S37)) (l1_0 : List (S39)) (l1_1 : List (S82)) (a1_2 : Int) (a1_3 : Int) : Option (Bool) := (spec_BoxOk.f k l0).bind fun t299 => (if t299 = true then ((spec_ExecOk.f k l1_0 l1_1 a1_2 a1_3).bind fun t300 => (spec_ExecFresh.j0 k l0 (!t300) l1_0 l1_1 a1_2 a1_3)) else (spec_ExecFresh.j0 k l0 true l1_0 l1_1 a1_2 a1_3))
def spec_l1Min.f (a0 : Int) (a1 : Int) : Option (Int) := if a0 < a1 then (some a0) else (some a1)
def spec_l3Do.l0 : Nat → List (S37) → Int → List (S39) → List (S82) → Int → Int → Option ((List (S37)))
  | 0, _, _, _, _, _, _ => none
  | k + 1, x0, x5, x305000, x305001, x305002, x305003 => if x5 < (x305001.length : Int) then (if 0 ≤ x5 then (if 0 ≤ ((rd_T82 x305001 x5).f0) then (if ((rd_T82 x305001 x5).f0) < (x0.length : Int) then ((spec_l1Min.f 1000000 (wrap64 (((rd_T37 x0 ((rd_T82 x305001 x5).f0)).f0) + 1))).bind fun t307 => (spec_l3Do.l0 k (x0.set (((rd_T82 x305001 x5).f0) : Int).toNat (⟨t307, (rd_T82 x305001 x5).f1⟩ : S37)) (wrap64 (x5 + 1)) x305000 x305001 x305002 x305003)) else (none)) else (none)) else (none)) else (some x0)
def spec_l3Do.f (k : Nat) (l0 : List (S37)) (l1_0 : List (S39)) (l1_1 : List (S82)) (a1_2 : Int) (a1_3 : Int) : Option ((List (S37))) := spec_l3Do.l0 k l0 0 l1_0 l1_1 a1_2 a1_3
def spec_l5Last.l0 : Nat → Int → Int → Int → List (S37) → List (S84) → Option (Int × Int × Int × Int × Bool)
  | 0, _, _, _, _, _ => none
  | k + 1, x1, x6, x311000, x311001, x311002 => if x6 < (x311002.length : Int) then (if 0 ≤ x6 then (if ((rd_T84 x311002 x6).f0.f0) = x1 then (some ((rd_T84 x311002 x6).f0.f0, (rd_T84 x311002 x6).f0.f1, (rd_T84 x311002 x6).f1, (rd_T84 x311002 x6).f2, true)) else (spec_l5Last.l0 k x1 (wrap64 (x6 + 1)) x311000 x311001 x311002)) else (none)) else (some (0, 0, 0, 0, false))
def spec_l5Last.f (k : Nat) (a0_0 : Int) (l0_1 : List (S37)) (l0_2 : List (S84)) (a1 : Int) : Option (Int × Int × Int × Int × Bool) := spec_l5Last.l0 k a1 0 a0_0 l0_1 l0_2
mutual
def spec_l5Put.l0 : Nat → List (S84) → List (S84) → Bool → Int → Int → Int → Int → Int → Option ((List (S84)))
  | 0, _, _, _, _, _, _, _, _ => none
  | k + 1, x0, x5, x6, x7, x315000, x315001, x315002, x315003 => if x7 < (x0.length : Int) then (if x6 = true then (spec_l5Put.j1 k x0 x5 x6 x7 false x315000 x315001 x315002 x315003) else (if 0 ≤ x7 then (spec_l5Put.j1 k x0 x5 x6 x7 (decide (((rd_T84 x0 x7).f0.f0) ≥ x315000)) x315000 x315001 x315002 x315003) else (none))) else (if x6 = true then (some x5) else (if x5.length < 4398046511104 then (some (x5 ++ [(⟨(⟨x315000, x315001⟩ : S75), x315002, x315003⟩ : S84)])) else (none)))
def spec_l5Put.j1 : Nat → List (S84) → List (S84) → Bool → Int → Bool → Int → Int → Int → Int → Option ((List (S84)))
  | 0, _, _, _, _, _, _, _, _, _ => none
  | k + 1, x0, x5, x6, x7, x28, x315000, x315001, x315002, x315003 => if x28 = true then (if x5.length < 4398046511104 then ((some (x5 ++ [(⟨(⟨x315000, x315001⟩ : S75), x315002, x315003⟩ : S84)] : List (S84))).bind fun y322 => (if 0 ≤ x7 then (if x7 < (x0.length : Int) then (if ((rd_T84 x0 x7).f0.f0) = x315000 then (spec_l5Put.l0 k x0 y322 true (wrap64 (x7 + 1)) x315000 x315001 x315002 x315003) else (if y322.length < 4398046511104 then (spec_l5Put.l0 k x0 (y322 ++ [(⟨(⟨(rd_T84 x0 x7).f0.f0, (rd_T84 x0 x7).f0.f1⟩ : S75), (rd_T84 x0 x7).f1, (rd_T84 x0 x7).f2⟩ : S84)]) true (wrap64 (x7 + 1)) x315000 x315001 x315002 x315003) else (none))) else (none)) else (none))) else (none)) else (if 0 ≤ x7 then (if x7 < (x0.length : Int) then (if ((rd_T84 x0 x7).f0.f0) = x315000 then (spec_l5Put.l0 k x0 x5 x6 (wrap64 (x7 + 1)) x315000 x315001 x315002 x315003) else (if x5.length < 4398046511104 then (spec_l5Put.l0 k x0 (x5 ++ [(⟨(⟨(rd_T84 x0 x7).f0.f0, (rd_T84 x0 x7).f0.f1⟩ : S75), (rd_T84 x0 x7).f1, (rd_T84 x0 x7).f2⟩ : S84)]) x6 (wrap64 (x7 + 1)) x315000 x315001 x315002 x315003) else (none))) else (none)) else (none))
end
def spec_l5Put.f (k : Nat) (l0 : List (S84)) (a1_0 : Int) (a1_1 : Int) (a1_2 : Int) (a1_3 : Int) : Option ((List (S84))) := spec_l5Put.l0 k l0 (([] : List (S84))) false 0 a1_0 a1_1 a1_2 a1_3
mutual
def spec_l5Apply.j1 : Nat → Int → List (S37) → List (S84) → Bool → Int → Int → List (S39) → List (S82) → Int → Int → Option (Int × (List (S37)) × (List (S84)) × Int)
  | 0, _, _, _, _, _, _, _, _, _, _ => none
  | k + 1, x336000, x336001, x336002, x337000, x337001, x337002, x337003, x337004, x337005, x337006 => (spec_ExecFresh.f k x336001 x337003 x337004 x337005 x337006).bind fun t345 => (if t345 = true then (spec_l5Apply.j2 k x336000 x336001 x336002 x337000 x337001 x337002 x337003 x337004 x337005 x337006 x337001 x337002 2 0) else (spec_l5Apply.j2 k x336000 x336001 x336002 x337000 x337001 x337002 x337003 x337004 x337005 x337006 x337001 x337002 1 0))
def spec_l5Apply.j2 : Nat → Int → List (S37) → List (S84) → Bool → Int → Int → List (S39) → List (S82) → Int → Int → Int → Int → Int → Int → Option (Int × (List (S37)) × (List (S84)) × Int)
  | 0, _, _, _, _, _, _, _, _, _, _, _, _, _, _ => none
  | k + 1, x336000, x336001, x336002, x337000, x337001, x337002, x337003, x337004, x337005, x337006, x345000, x345001, x345002, x345003 => if x345002 = 2 then (spec_l5Apply.j3 k (x337006 == 0) x336000 x336001 x336002 x337000 x337001 x337002 x337003 x337004 x337005 x337006 x345000 x345001 x345002 x345003) else (spec_l5Apply.j3 k false x336000 x336001 x336002 x337000 x337001 x337002 x337003 x337004 x337005 x337006 x345000 x345001 x345002 x345003)
def spec_l5Apply.j3 : Nat → Bool → Int → List (S37) → List (S84) → Bool → Int → Int → List (S39) → List (S82) → Int → Int → Int → Int → Int → Int → Option (Int × (List (S37)) × (List (S84)) × Int)
  | 0, _, _, _, _, _, _, _, _, _, _, _, _, _, _, _ => none
  | k + 1, x63, x336000, x336001, x336002, x337000, x337001, x337002, x337003, x337004, x337005, x337006, x345000, x345001, x345002, x345003 => if x63 = true then ((spec_l3Do.f k x336001 x337003 x337004 x337005 x337006).bind fun t346 => ((spec_l5Put.f k x336002 x345000 x345001 0 x337005).bind fun t349 => (some (x336000, t346, t349, 0)))) else ((spec_l5Put.f k x336002 x345000 x345001 x345002 x345003).bind fun t352 => (some (x336000, x336001, t352, x345002)))
def spec_l5Apply.j0 : Nat → Bool → Bool → Int → List (S37) → List (S84) → Bool → Int → Int → List (S39) → List (S82) → Int → Int → Int → Int → Int → Int → Option (Int × (List (S37)) × (List (S84)) × Int)
  | 0, _, _, _, _, _, _, _, _, _, _, _, _, _, _, _, _ => none
  | k + 1, x7, x24, x336000, x336001, x336002, x337000, x337001, x337002, x337003, x337004, x337005, x337006, x344000, x344001, x344002, x344003 => if x24 = true then (some (x336000, x336001, x336002, 3)) else (if x7 = true then (if x344001 > x337002 then (some (x336000, x336001, x336002, 4)) else (spec_l5Apply.j1 k x336000 x336001 x336002 x337000 x337001 x337002 x337003 x337004 x337005 x337006)) else (spec_l5Apply.j1 k x336000 x336001 x336002 x337000 x337001 x337002 x337003 x337004 x337005 x337006))
end
def spec_l5Apply.f (k : Nat) (a0_0 : Int) (l0_1 : List (S37)) (l0_2 : List (S84)) (a1_0 : Bool) (a1_1 : Int) (a1_2 : Int) (l1_3 : List (S39)) (l1_4 : List (S82)) (a1_5 : Int) (a1_6 : Int) : Option (Int × (List (S37)) × (List (S84)) × Int) := if a1_0 = true then (some (wrap64 (a0_0 + 1), l0_1, l0_2, 5)) else ((spec_l5Last.f k (wrap64 (a0_0 + 1)) l0_1 l0_2 a1_1).bind fun bt338 => (if bt338.2.2.2.2 = true then (spec_l5Apply.j0 k bt338.2.2.2.2 (bt338.1 == a1_1 && (bt338.2.1 == a1_2)) (wrap64 (a0_0 + 1)) l0_1 l0_2 a1_0 a1_1 a1_2 l1_3 l1_4 a1_5 a1_6 bt338.1 bt338.2.1 bt338.2.2.1 bt338.2.2.2.1) else (spec_l5Apply.j0 k bt338.2.2.2.2 false (wrap64 (a0_0 + 1)) l0_1 l0_2 a1_0 a1_1 a1_2 l1_3 l1_4 a1_5 a1_6 bt338.1 bt338.2.1 bt338.2.2.1 bt338.2.2.2.1)))
def spec_CertFold.l0 : Nat → List (S77) → Int → Int → List (S37) → List (S84) → Option (Int × (List (S37)) × (List (S84)))
  | 0, _, _, _, _, _ => none
  | k + 1, x0, x4, x364000, x364001, x364002 => if x4 < (x0.length : Int) then (if 0 ≤ x4 then ((spec_CertEntry.f k ((rd_T77 x0 x4).f0) ((rd_T77 x0 x4).f1.f0) ((rd_T77 x0 x4).f1.f1) ((rd_T77 x0 x4).f2.f0) ((rd_T77 x0 x4).f2.f1) ((rd_T77 x0 x4).f2.f2) ((rd_T77 x0 x4).f2.f3)).bind fun t365 => (if t365 = true then ((spec_l5Apply.f k x364000 x364001 x364002 ((rd_T77 x0 x4).f0) ((rd_T77 x0 x4).f1.f0) ((rd_T77 x0 x4).f1.f1) ((rd_T77 x0 x4).f2.f0) ((rd_T77 x0 x4).f2.f1) ((rd_T77 x0 x4).f2.f2) ((rd_T77 x0 x4).f2.f3)).bind fun bt367 => (spec_CertFold.l0 k x0 (wrap64 (x4 + 1)) bt367.1 bt367.2.1 bt367.2.2.1)) else (some (0, ([] : List (S37)), ([] : List (S84)))))) else (none)) else (some (x364000, x364001, x364002))
def spec_CertFold.f (k : Nat) (l0 : List (S77)) : Option (Int × (List (S37)) × (List (S84))) := (spec_CertOpen.f).bind fun bt356 => (if (l0.length : Int) > 40 then (some (0, ([] : List (S37)), ([] : List (S84)))) else (spec_CertFold.l0 k l0 0 bt356.1 bt356.2.1 bt356.2.2))
def laws_eqBox.f (a0_0 : Int) (a0_1 : Int) (a1_0 : Int) (a1_1 : Int) : Option (Bool) := if a0_0 = a1_0 then (if a0_1 = a1_1 then (some true) else (some false)) else (some false)
def laws_eqBoxS.l0 : Nat → List (S37) → List (S37) → Int → Option (Bool)
  | 0, _, _, _ => none
  | k + 1, x0, x1, x5 => if x5 < (x0.length : Int) then (if 0 ≤ x5 then (if x5 < (x1.length : Int) then ((laws_eqBox.f ((rd_T37 x0 x5).f0) ((rd_T37 x0 x5).f1) ((rd_T37 x1 x5).f0) ((rd_T37 x1 x5).f1)).bind fun t380 => (if t380 = true then (laws_eqBoxS.l0 k x0 x1 (wrap64 (x5 + 1))) else (some false))) else (none)) else (none)) else (some true)
def laws_eqBoxS.f (k : Nat) (l0 : List (S37)) (l1 : List (S37)) : Option (Bool) := if (l0.length : Int) = (l1.length : Int) then (laws_eqBoxS.l0 k l0 l1 0) else (some false)
def laws_eqReq.f (a0_0 : Int) (a0_1 : Int) (a1_0 : Int) (a1_1 : Int) : Option (Bool) := if a0_0 = a1_0 then (if a0_1 = a1_1 then (some true) else (some false)) else (some false)
def laws_eqDone.f (a0_0 : Int) (a0_1 : Int) (a0_2 : Int) (a0_3 : Int) (a1_0 : Int) (a1_1 : Int) (a1_2 : Int) (a1_3 : Int) : Option (Bool) := (laws_eqReq.f a0_0 a0_1 a1_0 a1_1).bind fun t385 => (if t385 = true then (if a0_2 = a1_2 then (if a0_3 = a1_3 then (some true) else (some false)) else (some false)) else (some false))
def laws_eqDoneS.l0 : Nat → List (S84) → List (S84) → Int → Option (Bool)
  | 0, _, _, _ => none
  | k + 1, x0, x1, x5 => if x5 < (x0.length : Int) then (if 0 ≤ x5 then (if x5 < (x1.length : Int) then ((laws_eqDone.f ((rd_T84 x0 x5).f0.f0) ((rd_T84 x0 x5).f0.f1) ((rd_T84 x0 x5).f1) ((rd_T84 x0 x5).f2) ((rd_T84 x1 x5).f0.f0) ((rd_T84 x1 x5).f0.f1) ((rd_T84 x1 x5).f1) ((rd_T84 x1 x5).f2)).bind fun t388 => (if t388 = true then (laws_eqDoneS.l0 k x0 x1 (wrap64 (x5 + 1))) else (some false))) else (none)) else (none)) else (some true)
def laws_eqDoneS.f (k : Nat) (l0 : List (S84)) (l1 : List (S84)) : Option (Bool) := if (l0.length : Int) = (l1.length : Int) then (laws_eqDoneS.l0 k l0 l1 0) else (some false)
def laws_eqState.f (k : Nat) (a0_0 : Int) (l0_1 : List (S37)) (l0_2 : List (S84)) (a1_0 : Int) (l1_1 : List (S37)) (l1_2 : List (S84)) : Option (Bool) := if a0_0 = a1_0 then ((laws_eqBoxS.f k l0_1 l1_1).bind fun t391 => (if t391 = true then ((laws_eqDoneS.f k l0_2 l1_2).bind fun t392 => (if t392 = true then (some true) else (some false))) else (some false))) else (some false)
def laws_markBoxS.l0 : Nat → List (S37) → Int → Int → Option (Int × (List (S37)))
  | 0, _, _, _ => none
  | k + 1, x0, x1, x5 => if x5 < (x0.length : Int) then (if 0 ≤ x5 then ((some (x0.set (x5 : Int).toNat (⟨x1, (rd_T37 x0 x5).f1⟩ : S37) : List (S37))).bind fun y393 => (laws_markBoxS.l0 k (y393.set (x5 : Int).toNat (⟨(rd_T37 y393 x5).f0, wrap64 (x1 + 1)⟩ : S37)) (wrap64 ((wrap64 (x1 + 1)) + 1)) (wrap64 (x5 + 1)))) else (none)) else (some (x1, x0))
def laws_markBoxS.f (k : Nat) (l0 : List (S37)) (a1 : Int) : Option (Int × (List (S37))) := laws_markBoxS.l0 k l0 a1 0
def laws_markDoneS.l0 : Nat → List (S84) → Int → Int → Option (Int × (List (S84)))
  | 0, _, _, _ => none
  | k + 1, x0, x1, x5 => if x5 < (x0.length : Int) then (if 0 ≤ x5 then ((some (x0.set (x5 : Int).toNat (⟨(⟨x1, (rd_T84 x0 x5).f0.f1⟩ : S75), (rd_T84 x0 x5).f1, (rd_T84 x0 x5).f2⟩ : S84) : List (S84))).bind fun y395 => ((some (y395.set (x5 : Int).toNat (⟨(⟨(rd_T84 y395 x5).f0.f0, wrap64 (x1 + 1)⟩ : S75), (rd_T84 y395 x5).f1, (rd_T84 y395 x5).f2⟩ : S84) : List (S84))).bind fun y396 => ((some (y396.set (x5 : Int).toNat (⟨(⟨(rd_T84 y396 x5).f0.f0, (rd_T84 y396 x5).f0.f1⟩ : S75), wrap64 ((wrap64 (x1 + 1)) + 1), (rd_T84 y396 x5).f2⟩ : S84) : List (S84))).bind fun y397 => (laws_markDoneS.l0 k (y397.set (x5 : Int).toNat (⟨(⟨(rd_T84 y397 x5).f0.f0, (rd_T84 y397 x5).f0.f1⟩ : S75), (rd_T84 y397 x5).f1, wrap64 ((wrap64 ((wrap64 (x1 + 1)) + 1)) + 1)⟩ : S84)) (wrap64 ((wrap64 ((wrap64 ((wrap64 (x1 + 1)) + 1)) + 1)) + 1)) (wrap64 (x5 + 1)))))) else (none)) else (some (x1, x0))
def laws_markDoneS.f (k : Nat) (l0 : List (S84)) (a1 : Int) : Option (Int × (List (S84))) := laws_markDoneS.l0 k l0 a1 0
def laws_markState.f (k : Nat) (a0_0 : Int) (l0_1 : List (S37)) (l0_2 : List (S84)) (a1 : Int) : Option (Int × (List (S37)) × (List (S84))) := (laws_markBoxS.f k l0_1 a1).bind fun bt400 => ((laws_markDoneS.f k l0_2 bt400.1).bind fun bt402 => (some (bt402.1, bt400.2, bt402.2)))
def laws_heldBoxS.l0 : Nat → List (S37) → Int → Int → Option (Int)
  | 0, _, _, _ => none
  | k + 1, x0, x1, x5 => if x5 < (x0.length : Int) then (if 0 ≤ x5 then (if ((rd_T37 x0 x5).f0) = x1 then (if ((rd_T37 x0 x5).f1) = (wrap64 (x1 + 1)) then (laws_heldBoxS.l0 k x0 (wrap64 ((wrap64 (x1 + 1)) + 1)) (wrap64 (x5 + 1))) else (some (-1))) else (some (-1))) else (none)) else (some x1)
def laws_heldBoxS.f (k : Nat) (l0 : List (S37)) (a1 : Int) : Option (Int) := laws_heldBoxS.l0 k l0 a1 0
def laws_heldDoneS.l0 : Nat → List (S84) → Int → Int → Option (Int)
  | 0, _, _, _ => none
  | k + 1, x0, x1, x5 => if x5 < (x0.length : Int) then (if 0 ≤ x5 then (if ((rd_T84 x0 x5).f0.f0) = x1 then (if ((rd_T84 x0 x5).f0.f1) = (wrap64 (x1 + 1)) then (if ((rd_T84 x0 x5).f1) = (wrap64 ((wrap64 (x1 + 1)) + 1)) then (if ((rd_T84 x0 x5).f2) = (wrap64 ((wrap64 ((wrap64 (x1 + 1)) + 1)) + 1)) then (laws_heldDoneS.l0 k x0 (wrap64 ((wrap64 ((wrap64 ((wrap64 (x1 + 1)) + 1)) + 1)) + 1)) (wrap64 (x5 + 1))) else (some (-1))) else (some (-1))) else (some (-1))) else (some (-1))) else (none)) else (some x1)
def laws_heldDoneS.f (k : Nat) (l0 : List (S84)) (a1 : Int) : Option (Int) := laws_heldDoneS.l0 k l0 a1 0
def laws_heldState.f (k : Nat) (a0_0 : Int) (l0_1 : List (S37)) (l0_2 : List (S84)) (a1 : Int) : Option (Int) := (laws_heldBoxS.f k l0_1 a1).bind fun t411 => (if t411 < 0 then (some (-1)) else ((laws_heldDoneS.f k l0_2 t411).bind fun t412 => (if t412 < 0 then (some (-1)) else (some t412))))
def laws_szReadS.f (l0 : List (S196)) (a1 : Int) : Option (Int) := if (wrap64 (a1 - (l0.length : Int))) < 0 then (some (-1)) else (some (wrap64 (a1 - (l0.length : Int))))
def laws_szPutS.f (l0 : List (S198)) (a1 : Int) : Option (Int) := if (wrap64 (a1 - (l0.length : Int))) < 0 then (some (-1)) else (some (wrap64 (a1 - (l0.length : Int))))
def laws_szRun.f (l0_0 : List (S196)) (l0_1 : List (S198)) (a0_2 : Int) (a0_3 : Int) (a1 : Int) : Option (Int) := (laws_szReadS.f l0_0 a1).bind fun t414 => (if t414 < 0 then (some (-1)) else ((laws_szPutS.f l0_1 t414).bind fun t415 => (if t415 < 0 then (some (-1)) else (some t415))))
def laws_szEntry.f (a0_0 : Bool) (a0_1 : Int) (a0_2 : Int) (l0_3 : List (S196)) (l0_4 : List (S198)) (a0_5 : Int) (a0_6 : Int) (a1 : Int) : Option (Int) := (laws_szRun.f l0_3 l0_4 a0_5 a0_6 a1).bind fun t417 => (if t417 < 0 then (some (-1)) else (some t417))
def laws_szEntryS.l0 : Nat → List (S109) → Int → Int → Option (Int)
  | 0, _, _, _ => none
  | k + 1, x0, x1, x5 => if x5 < (x0.length : Int) then (if 0 ≤ x5 then ((laws_szEntry.f ((rd_T109 x0 x5).f0) ((rd_T109 x0 x5).f1.f0) ((rd_T109 x0 x5).f1.f1) ((rd_T109 x0 x5).f2.f0) ((rd_T109 x0 x5).f2.f1) ((rd_T109 x0 x5).f2.f2) ((rd_T109 x0 x5).f2.f3) x1).bind fun t419 => (if t419 < 0 then (some (-1)) else (laws_szEntryS.l0 k x0 t419 (wrap64 (x5 + 1))))) else (none)) else (some x1)
def laws_szEntryS.f (k : Nat) (l0 : List (S109)) (a1 : Int) : Option (Int) := if (wrap64 (a1 - (l0.length : Int))) < 0 then (some (-1)) else (laws_szEntryS.l0 k l0 (wrap64 (a1 - (l0.length : Int))) 0)
def laws_toReq.f (a0_0 : Int) (a0_1 : Int) : Option (Int × Int) := some (a0_0, a0_1)
def laws_toRead.f (a0_0 : Int) (a0_1 : Int) : Option (Int × Int) := some (a0_0, a0_1)
def laws_toReadS.l0 : Nat → List (S196) → List (S39) → Int → Option ((List (S39)))
  | 0, _, _, _ => none
  | k + 1, x0, x3, x4 => if x4 < (x0.length : Int) then (if 0 ≤ x4 then ((laws_toRead.f ((rd_T196 x0 x4).f0) ((rd_T196 x0 x4).f1)).bind fun bt430 => (if x4 < (x3.length : Int) then (laws_toReadS.l0 k x0 (x3.set (x4 : Int).toNat (⟨bt430.1, bt430.2⟩ : S39)) (wrap64 (x4 + 1))) else (none))) else (none)) else (some x3)
def laws_toReadS.f (k : Nat) (l0 : List (S196)) : Option ((List (S39))) := if 0 ≤ (l0.length : Int) then (if ((l0.length : Int) : Int).toNat ≤ 17592186044416 then (laws_toReadS.l0 k l0 (List.replicate ((l0.length : Int) : Int).toNat z39) 0) else (none)) else (none)
def laws_toPut.f (a0_0 : Int) (a0_1 : Int) : Option (Int × Int) := some (a0_0, a0_1)
def laws_toPutS.l0 : Nat → List (S198) → List (S82) → Int → Option ((List (S82)))
  | 0, _, _, _ => none
  | k + 1, x0, x3, x4 => if x4 < (x0.length : Int) then (if 0 ≤ x4 then ((laws_toPut.f ((rd_T198 x0 x4).f0) ((rd_T198 x0 x4).f1)).bind fun bt440 => (if x4 < (x3.length : Int) then (laws_toPutS.l0 k x0 (x3.set (x4 : Int).toNat (⟨bt440.1, bt440.2⟩ : S82)) (wrap64 (x4 + 1))) else (none))) else (none)) else (some x3)
def laws_toPutS.f (k : Nat) (l0 : List (S198)) : Option ((List (S82))) := if 0 ≤ (l0.length : Int) then (if ((l0.length : Int) : Int).toNat ≤ 17592186044416 then (laws_toPutS.l0 k l0 (List.replicate ((l0.length : Int) : Int).toNat z82) 0) else (none)) else (none)
def laws_toRun.f (k : Nat) (l0_0 : List (S196)) (l0_1 : List (S198)) (a0_2 : Int) (a0_3 : Int) : Option ((List (S39)) × (List (S82)) × Int × Int) := (laws_toReadS.f k l0_0).bind fun t446 => ((laws_toPutS.f k l0_1).bind fun t449 => (some (t446, t449, a0_2, a0_3)))
def laws_toEntry.f (k : Nat) (a0_0 : Bool) (a0_1 : Int) (a0_2 : Int) (l0_3 : List (S196)) (l0_4 : List (S198)) (a0_5 : Int) (a0_6 : Int) : Option (Bool × Int × Int × (List (S39)) × (List (S82)) × Int × Int) := (laws_toReq.f a0_1 a0_2).bind fun bt455 => ((laws_toRun.f k l0_3 l0_4 a0_5 a0_6).bind fun bt457 => (some (a0_0, bt455.1, bt455.2, bt457.1, bt457.2.1, bt457.2.2.1, bt457.2.2.2)))
def laws_toEntryS.l0 : Nat → List (S109) → List (S77) → Int → Option ((List (S77)))
  | 0, _, _, _ => none
  | k + 1, x0, x3, x4 => if x4 < (x0.length : Int) then (if 0 ≤ x4 then ((laws_toEntry.f k ((rd_T109 x0 x4).f0) ((rd_T109 x0 x4).f1.f0) ((rd_T109 x0 x4).f1.f1) ((rd_T109 x0 x4).f2.f0) ((rd_T109 x0 x4).f2.f1) ((rd_T109 x0 x4).f2.f2) ((rd_T109 x0 x4).f2.f3)).bind fun bt469 => (if x4 < (x3.length : Int) then (laws_toEntryS.l0 k x0 (x3.set (x4 : Int).toNat (⟨bt469.1, (⟨bt469.2.1, bt469.2.2.1⟩ : S75), (⟨bt469.2.2.2.1, bt469.2.2.2.2.1, bt469.2.2.2.2.2.1, bt469.2.2.2.2.2.2⟩ : S26)⟩ : S77)) (wrap64 (x4 + 1))) else (none))) else (none)) else (some x3)
def laws_toEntryS.f (k : Nat) (l0 : List (S109)) : Option ((List (S77))) := if 0 ≤ (l0.length : Int) then (if ((l0.length : Int) : Int).toNat ≤ 3198579280802 then (laws_toEntryS.l0 k l0 (List.replicate ((l0.length : Int) : Int).toNat z77) 0) else (none)) else (none)
def laws_eqRead.f (a0_0 : Int) (a0_1 : Int) (a1_0 : Int) (a1_1 : Int) : Option (Bool) := if a0_0 = a1_0 then (if a0_1 = a1_1 then (some true) else (some false)) else (some false)
def laws_eqReadS.l0 : Nat → List (S39) → List (S39) → Int → Option (Bool)
  | 0, _, _, _ => none
  | k + 1, x0, x1, x5 => if x5 < (x0.length : Int) then (if 0 ≤ x5 then (if x5 < (x1.length : Int) then ((laws_eqRead.f ((rd_T39 x0 x5).f0) ((rd_T39 x0 x5).f1) ((rd_T39 x1 x5).f0) ((rd_T39 x1 x5).f1)).bind fun t485 => (if t485 = true then (laws_eqReadS.l0 k x0 x1 (wrap64 (x5 + 1))) else (some false))) else (none)) else (none)) else (some true)
def laws_eqReadS.f (k : Nat) (l0 : List (S39)) (l1 : List (S39)) : Option (Bool) := if (l0.length : Int) = (l1.length : Int) then (laws_eqReadS.l0 k l0 l1 0) else (some false)
def laws_eqPut.f (a0_0 : Int) (a0_1 : Int) (a1_0 : Int) (a1_1 : Int) : Option (Bool) := if a0_0 = a1_0 then (if a0_1 = a1_1 then (some true) else (some false)) else (some false)
def laws_eqPutS.l0 : Nat → List (S82) → List (S82) → Int → Option (Bool)
  | 0, _, _, _ => none
  | k + 1, x0, x1, x5 => if x5 < (x0.length : Int) then (if 0 ≤ x5 then (if x5 < (x1.length : Int) then ((laws_eqPut.f ((rd_T82 x0 x5).f0) ((rd_T82 x0 x5).f1) ((rd_T82 x1 x5).f0) ((rd_T82 x1 x5).f1)).bind fun t490 => (if t490 = true then (laws_eqPutS.l0 k x0 x1 (wrap64 (x5 + 1))) else (some false))) else (none)) else (none)) else (some true)
def laws_eqPutS.f (k : Nat) (l0 : List (S82)) (l1 : List (S82)) : Option (Bool) := if (l0.length : Int) = (l1.length : Int) then (laws_eqPutS.l0 k l0 l1 0) else (some false)
def laws_eqRun.f (k : Nat) (l0_0 : List (S39)) (l0_1 : List (S82)) (a0_2 : Int) (a0_3 : Int) (l1_0 : List (S39)) (l1_1 : List (S82)) (a1_2 : Int) (a1_3 : Int) : Option (Bool) := (laws_eqReadS.f k l0_0 l1_0).bind fun t493 => (if t493 = true then ((laws_eqPutS.f k l0_1 l1_1).bind fun t494 => (if t494 = true then (if a0_2 = a1_2 then (if a0_3 = a1_3 then (some true) else (some false)) else (some false)) else (some false))) else (some false))
def laws_eqEntry.f (k : Nat) (a0_0 : Bool) (a0_1 : Int) (a0_2 : Int) (l0_3 : List (S39)) (l0_4 : List (S82)) (a0_5 : Int) (a0_6 : Int) (a1_0 : Bool) (a1_1 : Int) (a1_2 : Int) (l1_3 : List (S39)) (l1_4 : List (S82)) (a1_5 : Int) (a1_6 : Int) : Option (Bool) := if (a0_0 != a1_0) = true then (some false) else ((laws_eqReq.f a0_1 a0_2 a1_1 a1_2).bind fun t497 => (if t497 = true then ((laws_eqRun.f k l0_3 l0_4 a0_5 a0_6 l1_3 l1_4 a1_5 a1_6).bind fun t498 => (if t498 = true then (some true) else (some false))) else (some false)))
def laws_eqEntryS.l0 : Nat → List (S77) → List (S77) → Int → Option (Bool)
  | 0, _, _, _ => none
  | k + 1, x0, x1, x5 => if x5 < (x0.length : Int) then (if 0 ≤ x5 then (if x5 < (x1.length : Int) then ((laws_eqEntry.f k ((rd_T77 x0 x5).f0) ((rd_T77 x0 x5).f1.f0) ((rd_T77 x0 x5).f1.f1) ((rd_T77 x0 x5).f2.f0) ((rd_T77 x0 x5).f2.f1) ((rd_T77 x0 x5).f2.f2) ((rd_T77 x0 x5).f2.f3) ((rd_T77 x1 x5).f0) ((rd_T77 x1 x5).f1.f0) ((rd_T77 x1 x5).f1.f1) ((rd_T77 x1 x5).f2.f0) ((rd_T77 x1 x5).f2.f1) ((rd_T77 x1 x5).f2.f2) ((rd_T77 x1 x5).f2.f3)).bind fun t501 => (if t501 = true then (laws_eqEntryS.l0 k x0 x1 (wrap64 (x5 + 1))) else (some false))) else (none)) else (none)) else (some true)
def laws_eqEntryS.f (k : Nat) (l0 : List (S77)) (l1 : List (S77)) : Option (Bool) := if (l0.length : Int) = (l1.length : Int) then (laws_eqEntryS.l0 k l0 l1 0) else (some false)
def laws_markReadS.l0 : Nat → List (S39) → Int → Int → Option (Int × (List (S39)))
  | 0, _, _, _ => none
  | k + 1, x0, x1, x5 => if x5 < (x0.length : Int) then (if 0 ≤ x5 then ((some (x0.set (x5 : Int).toNat (⟨x1, (rd_T39 x0 x5).f1⟩ : S39) : List (S39))).bind fun y502 => (laws_markReadS.l0 k (y502.set (x5 : Int).toNat (⟨(rd_T39 y502 x5).f0, wrap64 (x1 + 1)⟩ : S39)) (wrap64 ((wrap64 (x1 + 1)) + 1)) (wrap64 (x5 + 1)))) else (none)) else (some (x1, x0))
def laws_markReadS.f (k : Nat) (l0 : List (S39)) (a1 : Int) : Option (Int × (List (S39))) := laws_markReadS.l0 k l0 a1 0
def laws_markPutS.l0 : Nat → List (S82) → Int → Int → Option (Int × (List (S82)))
  | 0, _, _, _ => none
  | k + 1, x0, x1, x5 => if x5 < (x0.length : Int) then (if 0 ≤ x5 then ((some (x0.set (x5 : Int).toNat (⟨x1, (rd_T82 x0 x5).f1⟩ : S82) : List (S82))).bind fun y504 => (laws_markPutS.l0 k (y504.set (x5 : Int).toNat (⟨(rd_T82 y504 x5).f0, wrap64 (x1 + 1)⟩ : S82)) (wrap64 ((wrap64 (x1 + 1)) + 1)) (wrap64 (x5 + 1)))) else (none)) else (some (x1, x0))
def laws_markPutS.f (k : Nat) (l0 : List (S82)) (a1 : Int) : Option (Int × (List (S82))) := laws_markPutS.l0 k l0 a1 0

open Go Go.Proofs Am
def tau : TypeId → Type
  | 3 => Int
  | 37 => S37
  | 39 => S39
  | 77 => S77
  | 82 => S82
  | 84 => S84
  | 109 => S109
  | 196 => S196
  | 198 => S198
  | _ => Unit
def tabL : List (TypeId × TI) := [(2, ⟨[.int .i64], .scal⟩), (3, ⟨[.int .i64], .scal⟩), (4, ⟨[.bool], .scal⟩), (23, ⟨[.sl 39], .sl 39⟩), (24, ⟨[.sl 82], .sl 82⟩), (26, ⟨[.sl 39, .sl 82, .int .i64, .int .i64], .st [(0, 23), (1, 24), (2, 3), (3, 3)]⟩), (29, ⟨[.sl 37], .sl 37⟩), (37, ⟨[.int .i64, .int .i64], .st [(0, 3), (1, 3)]⟩), (39, ⟨[.int .i64, .int .i64], .st [(0, 3), (1, 3)]⟩), (45, ⟨[.sl 3], .sl 3⟩), (65, ⟨[.sl 77], .sl 77⟩), (67, ⟨[.sl 84], .sl 84⟩), (69, ⟨[.int .i64, .sl 37, .sl 84], .st [(0, 3), (1, 29), (2, 67)]⟩), (75, ⟨[.int .i64, .int .i64], .st [(0, 3), (1, 3)]⟩), (77, ⟨[.bool, .int .i64, .int .i64, .sl 39, .sl 82, .int .i64, .int .i64], .st [(0, 4), (1, 75), (3, 26)]⟩), (82, ⟨[.int .i64, .int .i64], .st [(0, 3), (1, 3)]⟩), (84, ⟨[.int .i64, .int .i64, .int .i64, .int .i64], .st [(0, 75), (2, 3), (3, 3)]⟩), (103, ⟨[.int .i64, .int .i64], .st [(0, 3), (1, 3)]⟩), (104, ⟨[.sl 196], .sl 196⟩), (105, ⟨[.sl 198], .sl 198⟩), (107, ⟨[.sl 196, .sl 198, .int .i64, .int .i64], .st [(0, 104), (1, 105), (2, 3), (3, 3)]⟩), (109, ⟨[.bool, .int .i64, .int .i64, .sl 196, .sl 198, .int .i64, .int .i64], .st [(0, 4), (1, 103), (3, 107)]⟩), (117, ⟨[.sl 109], .sl 109⟩), (173, ⟨[.bool, .bool, .bool, .bool], .arr 4 4⟩), (196, ⟨[.int .i64, .int .i64], .st [(0, 3), (1, 3)]⟩), (198, ⟨[.int .i64, .int .i64], .st [(0, 3), (1, 3)]⟩)]
def rowT : (e : TypeId) → tau e → List (Lf tau)
  | 3, (x : Int) => [.i x]
  | 37, (x : S37) => [.i x.f0, .i x.f1]
  | 39, (x : S39) => [.i x.f0, .i x.f1]
  | 77, (x : S77) => [.b x.f0, .i x.f1.f0, .i x.f1.f1, .l 39 x.f2.f0, .l 82 x.f2.f1, .i x.f2.f2, .i x.f2.f3]
  | 82, (x : S82) => [.i x.f0, .i x.f1]
  | 84, (x : S84) => [.i x.f0.f0, .i x.f0.f1, .i x.f1, .i x.f2]
  | 109, (x : S109) => [.b x.f0, .i x.f1.f0, .i x.f1.f1, .l 196 x.f2.f0, .l 198 x.f2.f1, .i x.f2.f2, .i x.f2.f3]
  | 196, (x : S196) => [.i x.f0, .i x.f1]
  | 198, (x : S198) => [.i x.f0, .i x.f1]
  | _, _ => []
instance : (e : TypeId) → Inhabited (tau e) := fun e => by unfold tau; split <;> first | exact ⟨(0 : Int)⟩ | exact ⟨false⟩ | exact ⟨(default : ByteArray)⟩ | exact ⟨[]⟩ | exact ⟨()⟩ | exact ⟨z37⟩ | exact ⟨z39⟩ | exact ⟨z77⟩ | exact ⟨z82⟩ | exact ⟨z84⟩ | exact ⟨z109⟩ | exact ⟨z196⟩ | exact ⟨z198⟩
def of3 : List (Lf tau) → Int
  | [(.i y0)] => y0
  | _ => (0 : Int)
def of37 : List (Lf tau) → S37
  | [(.i y0), (.i y1)] => (⟨y0, y1⟩ : S37)
  | _ => z37
def of39 : List (Lf tau) → S39
  | [(.i y0), (.i y1)] => (⟨y0, y1⟩ : S39)
  | _ => z39
def of77 : List (Lf tau) → S77
  | [(.b y0), (.i y1), (.i y2), (.l 39 y3), (.l 82 y4), (.i y5), (.i y6)] => (⟨y0, (⟨y1, y2⟩ : S75), (⟨y3, y4, y5, y6⟩ : S26)⟩ : S77)
  | _ => z77
def of82 : List (Lf tau) → S82
  | [(.i y0), (.i y1)] => (⟨y0, y1⟩ : S82)
  | _ => z82
def of84 : List (Lf tau) → S84
  | [(.i y0), (.i y1), (.i y2), (.i y3)] => (⟨(⟨y0, y1⟩ : S75), y2, y3⟩ : S84)
  | _ => z84
def of109 : List (Lf tau) → S109
  | [(.b y0), (.i y1), (.i y2), (.l 196 y3), (.l 198 y4), (.i y5), (.i y6)] => (⟨y0, (⟨y1, y2⟩ : S103), (⟨y3, y4, y5, y6⟩ : S107)⟩ : S109)
  | _ => z109
def of196 : List (Lf tau) → S196
  | [(.i y0), (.i y1)] => (⟨y0, y1⟩ : S196)
  | _ => z196
def of198 : List (Lf tau) → S198
  | [(.i y0), (.i y1)] => (⟨y0, y1⟩ : S198)
  | _ => z198
def ofT : (e : TypeId) → List (Lf tau) → tau e
  | 3, l => of3 l
  | 37, l => of37 l
  | 39, l => of39 l
  | 77, l => of77 l
  | 82, l => of82 l
  | 84, l => of84 l
  | 109, l => of109 l
  | 196, l => of196 l
  | 198, l => of198 l
  | _, _ => default
def TT : Tab tau := { get := fun t => lookN t tabL, row := rowT, of := ofT, el := fun t => memN t [3, 37, 39, 77, 82, 84, 109, 196, 198] }
def byT : TypeId → Nat := fun t => lookD 1 t [(2, 8), (3, 8), (4, 1), (23, 24), (24, 24), (26, 64), (29, 24), (37, 16), (39, 16), (45, 24), (65, 24), (67, 24), (69, 56), (75, 16), (77, 88), (82, 16), (84, 32), (103, 16), (104, 24), (105, 24), (107, 64), (109, 88), (117, 24), (173, 4), (196, 16), (198, 16)]
def modeL : List (Nat × Nat) := [(74, 1)]
def shpL : List (Nat × List PS) := [(80, [.one (.sl 39), .one (.sl 39)]), (81, [.one (.sl 82), .one (.sl 82)]), (18, [.agg [.sl 39, .sl 82, .any, .any], .agg [.sl 39, .sl 82, .any, .any]]), (57, [.agg [.any, .any, .any, .sl 39, .sl 82, .any, .any], .agg [.any, .any, .any, .sl 39, .sl 82, .any, .any]]), (122, [.one .any, .one .any, .one .any]), (83, [.agg [.sl 39, .sl 82, .any, .any]]), (121, [.agg [.any, .any]]), (52, [.agg [.any, .any, .any, .sl 39, .sl 82, .any, .any]]), (111, [.one (.sl 77)]), (82, [.one (.sl 37)]), (20, [.one (.sl 37), .agg [.sl 39, .sl 82, .any, .any]]), (50, [.agg [.any, .sl 37, .sl 84]]), (93, [.one (.sl 37)]), (116, [.one (.sl 84)]), (117, [.one (.sl 37), .agg [.sl 39, .sl 82, .any, .any]]), (47, [.agg [.any, .sl 37, .sl 84], .agg [.any, .any, .any, .sl 39, .sl 82, .any, .any]]), (125, []), (60, []), (112, [.one (.sl 77)]), (44, [.one (.sl 77)]), (19, [.agg [.sl 39, .sl 82, .any, .any], .agg [.sl 39, .sl 82, .any, .any]]), (84, [.one .any]), (85, [.one .any]), (86, [.one (.sl 39), .one .any]), (87, [.one (.sl 82), .one .any]), (23, [.agg [.sl 39, .sl 82, .any, .any]]), (120, [.agg [.any, .any]]), (53, [.agg [.any, .any, .any, .sl 39, .sl 82, .any, .any]]), (149, []), (114, []), (22, [.one (.sl 37)]), (21, [.one (.sl 37), .agg [.sl 39, .sl 82, .any, .any]]), (167, [.one .any, .one .any]), (146, [.one (.own 37), .agg [.sl 39, .sl 82, .any, .any]]), (155, [.agg [.any, .sl 37, .sl 84], .one .any]), (156, [.one (.sl 84), .agg [.any, .any, .any, .any]]), (115, [.agg [.any, .own 37, .own 84], .agg [.any, .any, .any, .sl 39, .sl 82, .any, .any]]), (46, [.one (.sl 77)]), (95, [.agg [.any, .any], .agg [.any, .any]]), (30, [.one (.sl 37), .one (.sl 37)]), (137, [.agg [.any, .any], .agg [.any, .any]]), (163, [.agg [.any, .any, .any, .any], .agg [.any, .any, .any, .any]]), (136, [.one (.sl 84), .one (.sl 84)]), (68, [.agg [.any, .sl 37, .sl 84], .agg [.any, .sl 37, .sl 84]]), (33, [.one (.own 37), .one .any]), (139, [.one (.own 84), .one .any]), (70, [.agg [.any, .own 37, .own 84], .one .any]), (36, [.one (.sl 37), .one .any]), (141, [.one (.sl 84), .one .any]), (72, [.agg [.any, .sl 37, .sl 84], .one .any]), (158, [.one (.sl 196), .one .any]), (159, [.one (.sl 198), .one .any]), (132, [.agg [.sl 196, .sl 198, .any, .any], .one .any]), (65, [.agg [.any, .any, .any, .sl 196, .sl 198, .any, .any], .one .any]), (73, [.one (.sl 109), .one .any]), (134, [.agg [.any, .any]]), (171, [.agg [.any, .any]]), (161, [.one (.sl 196)]), (172, [.agg [.any, .any]]), (162, [.one (.sl 198)]), (135, [.agg [.sl 196, .sl 198, .any, .any]]), (67, [.agg [.any, .any, .any, .sl 196, .sl 198, .any, .any]]), (74, [.one (.sl 109)]), (173, [.agg [.any, .any], .agg [.any, .any]]), (164, [.one (.sl 39), .one (.sl 39)]), (174, [.agg [.any, .any], .agg [.any, .any]]), (165, [.one (.sl 82), .one (.sl 82)]), (138, [.agg [.sl 39, .sl 82, .any, .any], .agg [.sl 39, .sl 82, .any, .any]]), (69, [.agg [.any, .any, .any, .sl 39, .sl 82, .any, .any], .agg [.any, .any, .any, .sl 39, .sl 82, .any, .any]]), (75, [.one (.sl 77), .one (.sl 77)]), (142, [.one (.own 39), .one .any]), (143, [.one (.own 82), .one .any])]
def persL : List (Nat × List Nat) := [(146, [0]), (115, [0]), (33, [0]), (139, [0]), (70, [0]), (142, [0]), (143, [0])]
def pnL : List (Nat × Nat) := [(33, 1), (139, 1), (70, 2), (142, 1), (143, 1)]
def pnT : FuncId → Nat := fun f => lookD 0 f pnL
def mkE (keep : List (Nat × List (Nat × PS))) (res : List PS) (nb : NB) : Env tau := { T := TT, by_ := byT, mode := fun f => lookD 0 f modeL, shp := fun f => lookD [] f shpL, keep := fun i => lookN i keep, res := res, pers := fun f => lookD [] f persL, pn := pnT, nb := nb }
theorem asked : Asked Try.prog byT tabL := ⟨by kernel_rfl, by kernel_rfl, by kernel_rfl, by kernel_rfl⟩
theorem el_3 : ElOk TT 3 := by
 intro ti h
 replace h : some (⟨[.int .i64], .scal⟩ : TI) = some ti := h
 cases h
 refine ⟨fun x => rfl, fun l hl => ?_⟩
 obtain ⟨y0, l0, e0, h0⟩ := wts_i hl
 have e1 := wts_nil h0
 subst e1
 subst e0
 rfl
theorem el_37 : ElOk TT 37 := by
 intro ti h
 replace h : some (⟨[.int .i64, .int .i64], .st [(0, 3), (1, 3)]⟩ : TI) = some ti := h
 cases h
 refine ⟨fun x => rfl, fun l hl => ?_⟩
 obtain ⟨y0, l0, e0, h0⟩ := wts_i hl
 obtain ⟨y1, l1, e1, h1⟩ := wts_i h0
 have e2 := wts_nil h1
 subst e2
 subst e1
 subst e0
 rfl
theorem el_39 : ElOk TT 39 := by
 intro ti h
 replace h : some (⟨[.int .i64, .int .i64], .st [(0, 3), (1, 3)]⟩ : TI) = some ti := h
 cases h
 refine ⟨fun x => rfl, fun l hl => ?_⟩
 obtain ⟨y0, l0, e0, h0⟩ := wts_i hl
 obtain ⟨y1, l1, e1, h1⟩ := wts_i h0
 have e2 := wts_nil h1
 subst e2
 subst e1
 subst e0
 rfl
theorem el_77 : ElOk TT 77 := by
 intro ti h
 replace h : some (⟨[.bool, .int .i64, .int .i64, .sl 39, .sl 82, .int .i64, .int .i64], .st [(0, 4), (1, 75), (3, 26)]⟩ : TI) = some ti := h
 cases h
 refine ⟨fun x => rfl, fun l hl => ?_⟩
 obtain ⟨y0, l0, e0, h0⟩ := wts_b hl
 obtain ⟨y1, l1, e1, h1⟩ := wts_i h0
 obtain ⟨y2, l2, e2, h2⟩ := wts_i h1
 obtain ⟨y3, l3, e3, h3⟩ := wts_l h2
 obtain ⟨y4, l4, e4, h4⟩ := wts_l h3
 obtain ⟨y5, l5, e5, h5⟩ := wts_i h4
 obtain ⟨y6, l6, e6, h6⟩ := wts_i h5
 have e7 := wts_nil h6
 subst e7
 subst e6
 subst e5
 subst e4
 subst e3
 subst e2
 subst e1
 subst e0
 rfl
theorem el_82 : ElOk TT 82 := by
 intro ti h
 replace h : some (⟨[.int .i64, .int .i64], .st [(0, 3), (1, 3)]⟩ : TI) = some ti := h
 cases h
 refine ⟨fun x => rfl, fun l hl => ?_⟩
 obtain ⟨y0, l0, e0, h0⟩ := wts_i hl
 obtain ⟨y1, l1, e1, h1⟩ := wts_i h0
 have e2 := wts_nil h1
 subst e2
 subst e1
 subst e0
 rfl
theorem el_84 : ElOk TT 84 := by
 intro ti h
 replace h : some (⟨[.int .i64, .int .i64, .int .i64, .int .i64], .st [(0, 75), (2, 3), (3, 3)]⟩ : TI) = some ti := h
 cases h
 refine ⟨fun x => rfl, fun l hl => ?_⟩
 obtain ⟨y0, l0, e0, h0⟩ := wts_i hl
 obtain ⟨y1, l1, e1, h1⟩ := wts_i h0
 obtain ⟨y2, l2, e2, h2⟩ := wts_i h1
 obtain ⟨y3, l3, e3, h3⟩ := wts_i h2
 have e4 := wts_nil h3
 subst e4
 subst e3
 subst e2
 subst e1
 subst e0
 rfl
theorem el_109 : ElOk TT 109 := by
 intro ti h
 replace h : some (⟨[.bool, .int .i64, .int .i64, .sl 196, .sl 198, .int .i64, .int .i64], .st [(0, 4), (1, 103), (3, 107)]⟩ : TI) = some ti := h
 cases h
 refine ⟨fun x => rfl, fun l hl => ?_⟩
 obtain ⟨y0, l0, e0, h0⟩ := wts_b hl
 obtain ⟨y1, l1, e1, h1⟩ := wts_i h0
 obtain ⟨y2, l2, e2, h2⟩ := wts_i h1
 obtain ⟨y3, l3, e3, h3⟩ := wts_l h2
 obtain ⟨y4, l4, e4, h4⟩ := wts_l h3
 obtain ⟨y5, l5, e5, h5⟩ := wts_i h4
 obtain ⟨y6, l6, e6, h6⟩ := wts_i h5
 have e7 := wts_nil h6
 subst e7
 subst e6
 subst e5
 subst e4
 subst e3
 subst e2
 subst e1
 subst e0
 rfl
theorem el_196 : ElOk TT 196 := by
 intro ti h
 replace h : some (⟨[.int .i64, .int .i64], .st [(0, 3), (1, 3)]⟩ : TI) = some ti := h
 cases h
 refine ⟨fun x => rfl, fun l hl => ?_⟩
 obtain ⟨y0, l0, e0, h0⟩ := wts_i hl
 obtain ⟨y1, l1, e1, h1⟩ := wts_i h0
 have e2 := wts_nil h1
 subst e2
 subst e1
 subst e0
 rfl
theorem el_198 : ElOk TT 198 := by
 intro ti h
 replace h : some (⟨[.int .i64, .int .i64], .st [(0, 3), (1, 3)]⟩ : TI) = some ti := h
 cases h
 refine ⟨fun x => rfl, fun l hl => ?_⟩
 obtain ⟨y0, l0, e0, h0⟩ := wts_i hl
 obtain ⟨y1, l1, e1, h1⟩ := wts_i h0
 have e2 := wts_nil h1
 subst e2
 subst e1
 subst e0
 rfl
theorem pq : PQ Try.prog TT byT := pq_of asked rfl (fun e he => by
 have h := memN_iff.1 he
 simp only [List.mem_cons, List.not_mem_nil, or_false] at h
 rcases h with rfl | rfl | rfl | rfl | rfl | rfl | rfl | rfl | rfl
 · exact el_3
 · exact el_37
 · exact el_39
 · exact el_77
 · exact el_82
 · exact el_84
 · exact el_109
 · exact el_196
 · exact el_198)
theorem hmix : Try.prog.follows .mixedOrders = true := by kernel_rfl
noncomputable def c_80 (args : List (AV tau)) (m : Mem tau) (κ : AV tau → Mem tau → Option Unit) : Option Unit := match args, m.bx, m.rw with
  | [b0, b1], [], [] => bO (asSl 39 b0) fun l0 => bO (asSl 39 b1) fun l1 => callX (fun n => impl_same_impl_Read.f n l0 l1) fun t => κ (.bool (t)) ⟨[], []⟩
  | _, _, _ => none
def E_80 : Env tau := mkE [(0, [(0, .one (.own 39)), (1, .one (.own 39))]), (1, [(0, .one (.own 39)), (1, .one (.own 39))]), (2, []), (3, [(0, .one (.own 39)), (1, .one (.own 39))]), (4, [(0, .one (.own 39)), (1, .one (.own 39)), (12, .one .any), (13, .one .any)]), (5, [(0, .one (.own 39)), (1, .one (.own 39)), (12, .one .any), (13, .one .any)]), (6, [(0, .one (.own 39)), (1, .one (.own 39)), (5, .one .any), (12, .one .any), (13, .one .any)]), (7, []), (8, [(0, .one (.own 39)), (1, .one (.own 39)), (12, .one .any), (13, .one .any)]), (9, [])] [.one .any] ⟨0, 0⟩
noncomputable def c_81 (args : List (AV tau)) (m : Mem tau) (κ : AV tau → Mem tau → Option Unit) : Option Unit := match args, m.bx, m.rw with
  | [b0, b1], [], [] => bO (asSl 82 b0) fun l0 => bO (asSl 82 b1) fun l1 => callX (fun n => impl_same_impl_Put.f n l0 l1) fun t => κ (.bool (t)) ⟨[], []⟩
  | _, _, _ => none
def E_81 : Env tau := mkE [(0, [(0, .one (.own 82)), (1, .one (.own 82))]), (1, [(0, .one (.own 82)), (1, .one (.own 82))]), (2, []), (3, [(0, .one (.own 82)), (1, .one (.own 82))]), (4, [(0, .one (.own 82)), (1, .one (.own 82)), (12, .one .any), (13, .one .any)]), (5, [(0, .one (.own 82)), (1, .one (.own 82)), (12, .one .any), (13, .one .any)]), (6, [(0, .one (.own 82)), (1, .one (.own 82)), (5, .one .any), (12, .one .any), (13, .one .any)]), (7, []), (8, [(0, .one (.own 82)), (1, .one (.own 82)), (12, .one .any), (13, .one .any)]), (9, [])] [.one .any] ⟨0, 0⟩
noncomputable def c_18 (args : List (AV tau)) (m : Mem tau) (κ : AV tau → Mem tau → Option Unit) : Option Unit := match args, m.bx, m.rw with
  | [.agg [b0, b1, b2, b3], .agg [b4, b5, b6, b7]], [], [] => bO (asSl 39 b0) fun l0_0 => bO (asSl 82 b1) fun l0_1 => bO (asI .i64 b2) fun a0_2 => bO (asI .i64 b3) fun a0_3 => bO (asSl 39 b4) fun l1_0 => bO (asSl 82 b5) fun l1_1 => bO (asI .i64 b6) fun a1_2 => bO (asI .i64 b7) fun a1_3 => callX (fun n => impl_ExecSame.f n l0_0 l0_1 a0_2 a0_3 l1_0 l1_1 a1_2 a1_3) fun t => κ (.bool (t)) ⟨[], []⟩
  | _, _, _ => none
def E_18 : Env tau := mkE [(0, [(0, .agg [.own 39, .own 82, .any, .any]), (1, .agg [.own 39, .own 82, .any, .any])]), (1, [(2, .one .any), (3, .one .any)])] [.one .any] ⟨0, 0⟩
noncomputable def c_57 (args : List (AV tau)) (m : Mem tau) (κ : AV tau → Mem tau → Option Unit) : Option Unit := match args, m.bx, m.rw with
  | [.agg [b0, b1, b2, b3, b4, b5, b6], .agg [b7, b8, b9, b10, b11, b12, b13]], [], [] => bO (asB b0) fun a0_0 => bO (asI .i64 b1) fun a0_1 => bO (asI .i64 b2) fun a0_2 => bO (asSl 39 b3) fun l0_3 => bO (asSl 82 b4) fun l0_4 => bO (asI .i64 b5) fun a0_5 => bO (asI .i64 b6) fun a0_6 => bO (asB b7) fun a1_0 => bO (asI .i64 b8) fun a1_1 => bO (asI .i64 b9) fun a1_2 => bO (asSl 39 b10) fun l1_3 => bO (asSl 82 b11) fun l1_4 => bO (asI .i64 b12) fun a1_5 => bO (asI .i64 b13) fun a1_6 => callX (fun n => impl_CertLike.f n a0_0 a0_1 a0_2 l0_3 l0_4 a0_5 a0_6 a1_0 a1_1 a1_2 l1_3 l1_4 a1_5 a1_6) fun t => κ (.bool (t)) ⟨[], []⟩
  | _, _, _ => none
def E_57 : Env tau := mkE [(0, [(0, .agg [.any, .any, .any, .own 39, .own 82, .any, .any]), (1, .agg [.any, .any, .any, .own 39, .own 82, .any, .any])]), (1, [(2, .one .any), (3, .one .any)])] [.one .any] ⟨0, 0⟩
noncomputable def c_122 (args : List (AV tau)) (m : Mem tau) (κ : AV tau → Mem tau → Option Unit) : Option Unit := match args, m.bx, m.rw with
  | [b0, b1, b2], [], [] => bO (asI .i64 b0) fun a0 => bO (asI .i64 b1) fun a1 => bO (asI .i64 b2) fun a2 => callX (fun n => impl_in.f a0 a1 a2) fun t => κ (.bool (t)) ⟨[], []⟩
  | _, _, _ => none
def E_122 : Env tau := mkE [(0, [(0, .one .any), (1, .one .any), (2, .one .any)]), (1, [(0, .one .any), (1, .one .any), (2, .one .any)])] [.one .any] ⟨0, 0⟩
noncomputable def c_83 (args : List (AV tau)) (m : Mem tau) (κ : AV tau → Mem tau → Option Unit) : Option Unit := match args, m.bx, m.rw with
  | [.agg [b0, b1, b2, b3]], [], [] => bO (asSl 39 b0) fun l0_0 => bO (asSl 82 b1) fun l0_1 => bO (asI .i64 b2) fun a0_2 => bO (asI .i64 b3) fun a0_3 => callX (fun n => impl_ExecOk.f n l0_0 l0_1 a0_2 a0_3) fun t => κ (.bool (t)) ⟨[], []⟩
  | _, _, _ => none
def E_83 : Env tau := mkE [(0, [(0, .agg [.own 39, .own 82, .any, .any])]), (1, [(1, .one .any)]), (2, []), (3, [(1, .one .any)]), (4, [(1, .one .any), (3, .one .any), (4, .one .any)]), (5, [(1, .one .any), (3, .one .any), (4, .one .any), (47, .one (.own 39)), (48, .one .any), (49, .one .any)]), (6, [(1, .one .any), (3, .one .any), (4, .one .any), (47, .one (.own 39)), (48, .one .any), (49, .one .any)]), (7, [(1, .one .any), (3, .one .any), (4, .one .any), (6, .one .any), (47, .one (.own 39)), (48, .one .any), (49, .one .any)]), (8, []), (9, [(1, .one .any), (3, .one .any), (4, .one .any), (6, .one .any), (47, .one (.own 39)), (48, .one .any), (49, .one .any)]), (10, [(1, .one .any), (3, .one .any), (4, .one .any), (47, .one (.own 39)), (48, .one .any), (49, .one .any)]), (11, [(1, .one .any), (4, .one .any)]), (12, [(4, .one .any), (74, .one (.own 82)), (75, .one .any), (76, .one .any)]), (13, [(4, .one .any), (74, .one (.own 82)), (75, .one .any), (76, .one .any)]), (14, [(4, .one .any), (8, .one .any), (74, .one (.own 82)), (75, .one .any), (76, .one .any)]), (15, []), (16, [(4, .one .any), (8, .one .any), (74, .one (.own 82)), (75, .one .any), (76, .one .any)]), (17, [(4, .one .any), (74, .one (.own 82)), (75, .one .any), (76, .one .any)]), (18, [])] [.one .any] ⟨0, 0⟩
noncomputable def c_121 (args : List (AV tau)) (m : Mem tau) (κ : AV tau → Mem tau → Option Unit) : Option Unit := match args, m.bx, m.rw with
  | [.agg [b0, b1]], [], [] => bO (asI .i64 b0) fun a0_0 => bO (asI .i64 b1) fun a0_1 => callX (fun n => impl_reqOk.f a0_0 a0_1) fun t => κ (.bool (t)) ⟨[], []⟩
  | _, _, _ => none
def E_121 : Env tau := mkE [(0, [(0, .agg [.any, .any])]), (1, [(1, .one .any)])] [.one .any] ⟨0, 0⟩
noncomputable def c_52 (args : List (AV tau)) (m : Mem tau) (κ : AV tau → Mem tau → Option Unit) : Option Unit := match args, m.bx, m.rw with
  | [.agg [b0, b1, b2, b3, b4, b5, b6]], [], [] => bO (asB b0) fun a0_0 => bO (asI .i64 b1) fun a0_1 => bO (asI .i64 b2) fun a0_2 => bO (asSl 39 b3) fun l0_3 => bO (asSl 82 b4) fun l0_4 => bO (asI .i64 b5) fun a0_5 => bO (asI .i64 b6) fun a0_6 => callX (fun n => impl_CertEntry.f n a0_0 a0_1 a0_2 l0_3 l0_4 a0_5 a0_6) fun t => κ (.bool (t)) ⟨[], []⟩
  | _, _, _ => none
def E_52 : Env tau := mkE [(0, [(0, .agg [.any, .any, .any, .own 39, .own 82, .any, .any])]), (1, [(1, .one .any)]), (2, [(1, .one .any)]), (3, [(1, .one .any)])] [.one .any] ⟨0, 0⟩
noncomputable def c_111 (args : List (AV tau)) (m : Mem tau) (κ : AV tau → Mem tau → Option Unit) : Option Unit := match args, m.bx, m.rw with
  | [b0], [], [] => bO (asSl 77 b0) fun l0 => callX (fun n => impl_listOk.f n l0) fun t => κ (.bool (t)) ⟨[], []⟩
  | _, _, _ => none
def E_111 : Env tau := mkE [(0, [(0, .one (.own 77))]), (1, [(0, .one (.own 77))]), (2, [(0, .one (.own 77)), (5, .one (.own 77)), (6, .one .any), (7, .one .any)]), (3, [(0, .one (.own 77)), (5, .one (.own 77)), (6, .one .any), (7, .one .any)]), (4, [(0, .one (.own 77)), (4, .one .any), (5, .one (.own 77)), (6, .one .any), (7, .one .any)]), (5, []), (6, [(0, .one (.own 77)), (5, .one (.own 77)), (6, .one .any), (7, .one .any)]), (7, [(0, .one (.own 77))])] [.one .any] ⟨0, 0⟩
noncomputable def c_82 (args : List (AV tau)) (m : Mem tau) (κ : AV tau → Mem tau → Option Unit) : Option Unit := match args, m.bx, m.rw with
  | [b0], [], [] => bO (asSl 37 b0) fun l0 => callX (fun n => impl_BoxOk.f n l0) fun t => κ (.bool (t)) ⟨[], []⟩
  | _, _, _ => none
def E_82 : Env tau := mkE [(0, [(0, .one (.own 37))]), (1, [(0, .one (.own 37))]), (2, [(0, .one (.own 37)), (5, .one (.own 37)), (6, .one .any), (7, .one .any)]), (3, [(0, .one (.own 37)), (5, .one (.own 37)), (6, .one .any), (7, .one .any)]), (4, [(0, .one (.own 37)), (4, .one .any), (5, .one (.own 37)), (6, .one .any), (7, .one .any)]), (5, []), (6, [(0, .one (.own 37)), (5, .one (.own 37)), (6, .one .any), (7, .one .any)]), (7, [(0, .one (.own 37))])] [.one .any] ⟨0, 0⟩
noncomputable def c_20 (args : List (AV tau)) (m : Mem tau) (κ : AV tau → Mem tau → Option Unit) : Option Unit := match args, m.bx, m.rw with
  | [b0, .agg [b1, b2, b3, b4]], [], [] => bO (asSl 37 b0) fun l0 => bO (asSl 39 b1) fun l1_0 => bO (asSl 82 b2) fun l1_1 => bO (asI .i64 b3) fun a1_2 => bO (asI .i64 b4) fun a1_3 => callX (fun n => impl_ExecFresh.f n l0 l1_0 l1_1 a1_2 a1_3) fun t => κ (.bool (t)) ⟨[], []⟩
  | _, _, _ => none
def E_20 : Env tau := mkE [(0, [(0, .one (.own 37)), (1, .agg [.own 39, .own 82, .any, .any])]), (1, [(0, .one (.own 37)), (3, .one .any)]), (2, []), (3, [(0, .one (.own 37)), (3, .one .any)]), (4, [(0, .one (.own 37)), (16, .one (.own 39)), (17, .one .any), (18, .one .any)]), (5, [(0, .one (.own 37)), (16, .one (.own 39)), (17, .one .any), (18, .one .any)]), (6, [(0, .one (.own 37)), (6, .one .any), (16, .one (.own 39)), (17, .one .any), (18, .one .any)]), (7, []), (8, [(0, .one (.own 37)), (16, .one (.own 39)), (17, .one .any), (18, .one .any)]), (9, [])] [.one .any] ⟨0, 0⟩
noncomputable def c_50 (args : List (AV tau)) (m : Mem tau) (κ : AV tau → Mem tau → Option Unit) : Option Unit := match args, m.bx, m.rw with
  | [.agg [b0, b1, b2]], [], [] => bO (asI .i64 b0) fun a0_0 => bO (asSl 37 b1) fun l0_1 => bO (asSl 84 b2) fun l0_2 => callX (fun n => impl_CertOk.f n a0_0 l0_1 l0_2) fun t => κ (.bool (t)) ⟨[], []⟩
  | _, _, _ => none
def E_50 : Env tau := mkE [(0, [(0, .agg [.any, .own 37, .own 84])]), (1, [(1, .one .any)]), (2, [(1, .one .any), (6, .one (.own 84)), (7, .one .any), (8, .one .any)]), (3, [(1, .one .any), (6, .one (.own 84)), (7, .one .any), (8, .one .any)]), (4, [(1, .one .any), (3, .one .any), (4, .one .any), (6, .one (.own 84)), (7, .one .any), (8, .one .any)]), (5, []), (6, [(1, .one .any), (6, .one (.own 84)), (7, .one .any), (8, .one .any)]), (7, [(1, .one .any)])] [.one .any] ⟨0, 0⟩
noncomputable def c_93 (args : List (AV tau)) (m : Mem tau) (κ : AV tau → Mem tau → Option Unit) : Option Unit := match args, m.bx, m.rw with
  | [b0], [], [] => bO (asSl 37 b0) fun l0 => callX (fun n => impl_copied_impl_Box.f l0) fun t => κ (.own 0 0) ⟨[], [some ⟨37, t, 0⟩]⟩
  | _, _, _ => none
def E_93 : Env tau := mkE [(0, [(0, .one (.own 37))]), (1, [(0, .one (.own 37))]), (2, []), (3, [(0, .one (.own 37))]), (4, [(0, .one (.own 37)), (3, .one (.own 37))]), (5, [(3, .one (.own 37))])] [.one (.own 37)] ⟨0, 0⟩
noncomputable def c_116 (args : List (AV tau)) (m : Mem tau) (κ : AV tau → Mem tau → Option Unit) : Option Unit := match args, m.bx, m.rw with
  | [b0], [], [] => bO (asSl 84 b0) fun l0 => callX (fun n => impl_copied_impl_Done.f l0) fun t => κ (.own 0 0) ⟨[], [some ⟨84, t, 0⟩]⟩
  | _, _, _ => none
def E_116 : Env tau := mkE [(0, [(0, .one (.own 84))]), (1, [(0, .one (.own 84))]), (2, []), (3, [(0, .one (.own 84))]), (4, [(0, .one (.own 84)), (3, .one (.own 84))]), (5, [(3, .one (.own 84))])] [.one (.own 84)] ⟨0, 0⟩
noncomputable def c_117 (args : List (AV tau)) (m : Mem tau) (κ : AV tau → Mem tau → Option Unit) : Option Unit := match args, m.bx, m.rw with
  | [b0, .agg [b1, b2, b3, b4]], [], [] => bO (asSl 37 b0) fun l0 => bO (asSl 39 b1) fun l1_0 => bO (asSl 82 b2) fun l1_1 => bO (asI .i64 b3) fun a1_2 => bO (asI .i64 b4) fun a1_3 => callX (fun n => impl_ExecDo.f n l0 l1_0 l1_1 a1_2 a1_3) fun t => κ (.own 0 0) ⟨[], [some ⟨37, t, 0⟩]⟩
  | _, _, _ => none
def E_117 : Env tau := mkE [(0, [(0, .one (.own 37)), (1, .agg [.own 39, .own 82, .any, .any])]), (1, [(0, .one (.own 37)), (3, .one .any)]), (2, []), (3, [(0, .one (.own 37)), (3, .one .any)]), (4, [(3, .one .any), (5, .one (.own 37))]), (5, [(5, .one (.own 37)), (19, .one (.own 82)), (20, .one .any), (21, .one .any)]), (6, [(5, .one (.own 37)), (19, .one (.own 82)), (20, .one .any), (21, .one .any)]), (7, [(5, .one (.own 37)), (7, .one .any), (19, .one (.own 82)), (20, .one .any), (21, .one .any)]), (8, [(5, .one (.own 37)), (19, .one (.own 82)), (20, .one .any), (21, .one .any)]), (9, [(5, .one (.own 37))])] [.one (.own 37)] ⟨0, 0⟩
noncomputable def c_47 (args : List (AV tau)) (m : Mem tau) (κ : AV tau → Mem tau → Option Unit) : Option Unit := match args, m.bx, m.rw with
  | [.agg [b0, b1, b2], .agg [b3, b4, b5, b6, b7, b8, b9]], [], [] => bO (asI .i64 b0) fun a0_0 => bO (asSl 37 b1) fun l0_1 => bO (asSl 84 b2) fun l0_2 => bO (asB b3) fun a1_0 => bO (asI .i64 b4) fun a1_1 => bO (asI .i64 b5) fun a1_2 => bO (asSl 39 b6) fun l1_3 => bO (asSl 82 b7) fun l1_4 => bO (asI .i64 b8) fun a1_5 => bO (asI .i64 b9) fun a1_6 => callX (fun n => impl_CertApply.f n a0_0 l0_1 l0_2 a1_0 a1_1 a1_2 l1_3 l1_4 a1_5 a1_6) fun t => κ (.tup [.agg [.int .i64 (t.1), .own 0 0, .own 1 0], .int .i64 (t.2.2.2)]) ⟨[], [some ⟨37, t.2.1, 0⟩, some ⟨84, t.2.2.1, 0⟩]⟩
  | _, _, _ => none
def E_47 : Env tau := mkE [(0, [(0, .agg [.any, .own 37, .own 84]), (1, .agg [.any, .any, .any, .own 39, .own 82, .any, .any])]), (1, [(2, .one .any), (3, .one .any), (4, .one .any)]), (2, [(4, .one .any)]), (3, [(2, .one .any), (3, .one .any), (4, .one .any)]), (4, [(2, .one .any), (3, .one .any), (4, .one .any), (6, .one .any)]), (5, [(2, .one .any), (4, .one .any), (6, .one .any)]), (6, [(4, .one .any), (6, .one .any)]), (7, [(2, .one .any), (3, .one .any), (4, .one .any), (6, .one .any)]), (8, [(2, .one .any), (3, .one .any), (4, .one .any), (6, .one .any), (43, .one (.own 84)), (44, .one .any), (45, .one .any)]), (9, [(2, .one .any), (3, .one .any), (4, .one .any), (6, .one .any), (43, .one (.own 84)), (44, .one .any), (45, .one .any)]), (10, [(2, .one .any), (3, .one .any), (4, .one .any), (6, .one .any), (8, .one .any), (43, .one (.own 84)), (44, .one .any), (45, .one .any)]), (11, [(2, .one .any), (3, .one .any), (4, .one .any), (6, .one .any), (8, .one .any)]), (12, [(3, .one .any), (4, .one .any), (6, .one .any), (8, .one .any)]), (13, [(4, .one .any), (6, .one .any)]), (14, [(4, .one .any), (6, .one .any)]), (15, [(2, .one .any), (3, .one .any), (4, .one .any), (6, .one .any), (43, .one (.own 84)), (44, .one .any), (45, .one .any)]), (16, [(2, .one .any), (3, .one .any), (4, .one .any), (6, .one .any)]), (17, [(2, .one .any), (3, .one .any), (4, .one .any), (6, .one .any), (9, .one .any)]), (18, [(2, .one .any), (3, .one .any), (4, .one .any), (6, .one .any), (9, .one .any)]), (19, [(2, .one .any), (3, .one .any), (4, .one .any), (6, .one .any), (9, .one .any)]), (20, [(2, .one .any), (4, .one .any), (6, .one .any), (9, .one .any)]), (21, [(2, .one .any), (3, .one .any), (4, .one .any), (6, .one .any), (9, .one .any)]), (22, [(2, .one .any), (4, .one .any), (6, .one .any), (9, .one .any)]), (23, [(2, .one .any), (4, .one .any), (6, .one .any), (9, .one .any)]), (24, [(2, .one .any), (4, .one .any), (6, .one .any), (9, .one .any), (10, .one (.own 84))]), (25, [(2, .one .any), (4, .one .any), (6, .one .any), (9, .one .any), (10, .one (.own 84)), (11, .one .any)]), (26, [(4, .one .any), (6, .one .any), (9, .one .any), (10, .one (.own 84)), (11, .one .any), (107, .one (.own 84)), (108, .one .any), (109, .one .any)]), (27, [(4, .one .any), (6, .one .any), (9, .one .any), (10, .one (.own 84)), (11, .one .any), (107, .one (.own 84)), (108, .one .any), (109, .one .any)]), (28, [(4, .one .any), (6, .one .any), (9, .one .any), (10, .one (.own 84)), (11, .one .any), (13, .one .any), (107, .one (.own 84)), (108, .one .any), (109, .one .any)]), (29, [(4, .one .any), (6, .one .any), (9, .one .any), (10, .one (.own 84)), (13, .one .any), (107, .one (.own 84)), (108, .one .any), (109, .one .any)]), (30, [(4, .one .any), (6, .one .any), (9, .one .any), (10, .one (.own 84)), (13, .one .any), (107, .one (.own 84)), (108, .one .any), (109, .one .any)]), (31, [(4, .one .any), (6, .one .any), (9, .one .any), (10, .one (.own 84)), (11, .one .any), (13, .one .any), (107, .one (.own 84)), (108, .one .any), (109, .one .any)]), (32, [(4, .one .any), (6, .one .any), (9, .one .any), (10, .one (.own 84)), (11, .one .any), (13, .one .any), (107, .one (.own 84)), (108, .one .any), (109, .one .any)]), (33, [(4, .one .any), (6, .one .any), (9, .one .any), (10, .one (.own 84)), (11, .one .any), (107, .one (.own 84)), (108, .one .any), (109, .one .any)]), (34, [(4, .one .any), (6, .one .any), (9, .one .any), (10, .one (.own 84)), (11, .one .any)]), (35, [(4, .one .any), (6, .one .any), (9, .one .any), (10, .one (.own 84))]), (36, [(4, .one .any), (6, .one .any), (9, .one .any), (10, .one (.own 84))]), (37, [(4, .one .any), (6, .one .any), (9, .one .any)])] [.agg [.any, .own 37, .own 84], .one .any] ⟨0, 0⟩
noncomputable def c_125 (args : List (AV tau)) (m : Mem tau) (κ : AV tau → Mem tau → Option Unit) : Option Unit := match args, m.bx, m.rw with
  | [], [], [] => callX (fun n => impl_BoxOpen.f) fun t => κ (.own 0 0) ⟨[], [some ⟨37, t, 0⟩]⟩
  | _, _, _ => none
def E_125 : Env tau := mkE [(0, []), (1, [])] [.one (.own 37)] ⟨0, 0⟩
noncomputable def c_60 (args : List (AV tau)) (m : Mem tau) (κ : AV tau → Mem tau → Option Unit) : Option Unit := match args, m.bx, m.rw with
  | [], [], [] => callX (fun n => impl_CertOpen.f) fun t => κ (.agg [.int .i64 (t.1), .own 0 0, .own 1 0]) ⟨[], [some ⟨37, t.2.1, 0⟩, some ⟨84, t.2.2, 0⟩]⟩
  | _, _, _ => none
def E_60 : Env tau := mkE [(0, []), (1, [(0, .one .any)])] [.agg [.any, .own 37, .own 84]] ⟨0, 0⟩
noncomputable def c_112 (args : List (AV tau)) (m : Mem tau) (κ : AV tau → Mem tau → Option Unit) : Option Unit := match args, m.bx, m.rw with
  | [b0], [], [] => bO (asSl 77 b0) fun l0 => callX (fun n => impl_folded.f n l0) fun t => κ (.tup [.agg [.int .i64 (t.1), .own 0 0, .own 1 0], .own 2 0]) ⟨[], [some ⟨37, t.2.1, 0⟩, some ⟨84, t.2.2.1, 0⟩, some ⟨3, t.2.2.2, 0⟩]⟩
  | _, _, _ => none
def E_112 : Env tau := mkE [(0, [(0, .one (.own 77))]), (1, [(0, .one (.own 77)), (2, .one .any)]), (2, [(0, .one (.own 77)), (2, .one .any), (4, .one .any)]), (3, [(0, .one (.own 77)), (2, .one .any), (4, .one .any), (5, .one (.own 3))]), (4, [(2, .one .any), (4, .one .any), (5, .one (.own 3)), (11, .one (.own 77)), (12, .one .any), (13, .one .any)]), (5, [(2, .one .any), (4, .one .any), (5, .one (.own 3)), (11, .one (.own 77)), (12, .one .any), (13, .one .any)]), (6, [(2, .one .any), (4, .one .any), (5, .one (.own 3)), (7, .one .any), (11, .one (.own 77)), (12, .one .any), (13, .one .any)]), (7, [(2, .one .any), (4, .one .any), (5, .one (.own 3)), (8, .one .any), (9, .one .any), (11, .one (.own 77)), (12, .one .any), (13, .one .any)]), (8, [(2, .one .any), (4, .one .any), (5, .one (.own 3)), (9, .one .any), (11, .one (.own 77)), (12, .one .any), (13, .one .any)]), (9, [(2, .one .any), (4, .one .any), (5, .one (.own 3)), (11, .one (.own 77)), (12, .one .any), (13, .one .any)]), (10, [(2, .one .any), (4, .one .any), (5, .one (.own 3))])] [.agg [.any, .own 37, .own 84], .one (.own 3)] ⟨0, 0⟩
noncomputable def c_44 (args : List (AV tau)) (m : Mem tau) (κ : AV tau → Mem tau → Option Unit) : Option Unit := match args, m.bx, m.rw with
  | [b0], [], [] => bO (asSl 77 b0) fun l0 => callX (fun n => impl_CertFold.f n l0) fun t => κ (.agg [.int .i64 (t.1), .own 0 0, .own 1 0]) ⟨[], [some ⟨37, t.2.1, 0⟩, some ⟨84, t.2.2, 0⟩]⟩
  | _, _, _ => none
def E_44 : Env tau := mkE [(0, [(0, .one (.own 77))]), (1, [(0, .one (.own 77)), (2, .one .any)]), (2, [(2, .one .any)]), (3, [(0, .one (.own 77)), (2, .one .any)]), (4, [(2, .one .any), (3, .one .any)])] [.agg [.any, .own 37, .own 84]] ⟨0, 0⟩
noncomputable def c_19 (args : List (AV tau)) (m : Mem tau) (κ : AV tau → Mem tau → Option Unit) : Option Unit := match args, m.bx, m.rw with
  | [.agg [b0, b1, b2, b3], .agg [b4, b5, b6, b7]], [], [] => bO (asSl 39 b0) fun l0_0 => bO (asSl 82 b1) fun l0_1 => bO (asI .i64 b2) fun a0_2 => bO (asI .i64 b3) fun a0_3 => bO (asSl 39 b4) fun l1_0 => bO (asSl 82 b5) fun l1_1 => bO (asI .i64 b6) fun a1_2 => bO (asI .i64 b7) fun a1_3 => callX (fun n => spec_ExecSame.f n l0_0 l0_1 a0_2 a0_3 l1_0 l1_1 a1_2 a1_3) fun t => κ (.bool (t)) ⟨[], []⟩
  | _, _, _ => none
def E_19 : Env tau := mkE [(0, [(0, .agg [.own 39, .own 82, .any, .any]), (1, .agg [.own 39, .own 82, .any, .any])]), (1, [(2, .one .any), (3, .one .any)]), (2, []), (3, [(2, .one .any), (3, .one .any)]), (4, [(2, .one .any), (3, .one .any), (5, .one .any)]), (5, [(2, .one .any), (3, .one .any), (5, .one .any)]), (6, [(2, .one .any), (3, .one .any), (5, .one .any)]), (7, []), (8, [(2, .one .any), (3, .one .any)]), (9, [(2, .one .any), (3, .one .any), (6, .one .any)]), (10, [(2, .one .any), (3, .one .any), (6, .one .any)]), (11, [(2, .one .any), (3, .one .any), (6, .one .any)]), (12, []), (13, [])] [.one .any] ⟨0, 0⟩
noncomputable def c_84 (args : List (AV tau)) (m : Mem tau) (κ : AV tau → Mem tau → Option Unit) : Option Unit := match args, m.bx, m.rw with
  | [b0], [], [] => bO (asI .i64 b0) fun a0 => callX (fun n => spec_l1Num.f a0) fun t => κ (.bool (t)) ⟨[], []⟩
  | _, _, _ => none
def E_84 : Env tau := mkE [(0, [(0, .one .any)]), (1, [(0, .one .any)])] [.one .any] ⟨0, 0⟩
noncomputable def c_85 (args : List (AV tau)) (m : Mem tau) (κ : AV tau → Mem tau → Option Unit) : Option Unit := match args, m.bx, m.rw with
  | [b0], [], [] => bO (asI .i64 b0) fun a0 => callX (fun n => spec_l2Box.f a0) fun t => κ (.bool (t)) ⟨[], []⟩
  | _, _, _ => none
def E_85 : Env tau := mkE [(0, [(0, .one .any)]), (1, [(0, .one .any)])] [.one .any] ⟨0, 0⟩
noncomputable def c_86 (args : List (AV tau)) (m : Mem tau) (κ : AV tau → Mem tau → Option Unit) : Option Unit := match args, m.bx, m.rw with
  | [b0, b1], [], [] => bO (asSl 39 b0) fun l0 => bO (asI .i64 b1) fun a1 => callX (fun n => spec_l3Saw.f n l0 a1) fun t => κ (.bool (t)) ⟨[], []⟩
  | _, _, _ => none
def E_86 : Env tau := mkE [(0, [(0, .one (.own 39)), (1, .one .any)]), (1, [(0, .one (.own 39)), (1, .one .any)]), (2, [(0, .one (.own 39)), (1, .one .any), (5, .one .any)]), (3, [(0, .one (.own 39)), (1, .one .any), (5, .one .any)]), (4, [(0, .one (.own 39)), (1, .one .any), (5, .one .any)]), (5, []), (6, [])] [.one .any] ⟨0, 0⟩
noncomputable def c_87 (args : List (AV tau)) (m : Mem tau) (κ : AV tau → Mem tau → Option Unit) : Option Unit := match args, m.bx, m.rw with
  | [b0, b1], [], [] => bO (asSl 82 b0) fun l0 => bO (asI .i64 b1) fun a1 => callX (fun n => spec_l3At.f n l0 a1) fun t => κ (.int .i64 (t)) ⟨[], []⟩
  | _, _, _ => none
def E_87 : Env tau := mkE [(0, [(0, .one (.own 82)), (1, .one .any)]), (1, [(0, .one (.own 82)), (1, .one .any)]), (2, [(0, .one (.own 82)), (1, .one .any), (5, .one .any)]), (3, [(0, .one (.own 82)), (1, .one .any), (5, .one .any)]), (4, [(0, .one (.own 82)), (1, .one .any), (5, .one .any)]), (5, [(5, .one .any)]), (6, [])] [.one .any] ⟨0, 0⟩
noncomputable def c_23 (args : List (AV tau)) (m : Mem tau) (κ : AV tau → Mem tau → Option Unit) : Option Unit := match args, m.bx, m.rw with
  | [.agg [b0, b1, b2, b3]], [], [] => bO (asSl 39 b0) fun l0_0 => bO (asSl 82 b1) fun l0_1 => bO (asI .i64 b2) fun a0_2 => bO (asI .i64 b3) fun a0_3 => callX (fun n => spec_ExecOk.f n l0_0 l0_1 a0_2 a0_3) fun t => κ (.bool (t)) ⟨[], []⟩
  | _, _, _ => none
def E_23 : Env tau := mkE [(0, [(0, .agg [.own 39, .own 82, .any, .any])]), (1, [(1, .one .any)]), (2, []), (3, [(1, .one .any)]), (4, [(1, .one .any), (3, .one .any)]), (5, [(1, .one .any), (3, .one .any)]), (6, [(1, .one .any), (3, .one .any)]), (7, []), (8, [(1, .one .any)]), (9, [(1, .one .any), (4, .one .any)]), (10, [(1, .one .any), (4, .one .any)]), (11, [(1, .one .any), (4, .one .any)]), (12, []), (13, [])] [.one .any] ⟨0, 0⟩
noncomputable def c_120 (args : List (AV tau)) (m : Mem tau) (κ : AV tau → Mem tau → Option Unit) : Option Unit := match args, m.bx, m.rw with
  | [.agg [b0, b1]], [], [] => bO (asI .i64 b0) fun a0_0 => bO (asI .i64 b1) fun a0_1 => callX (fun n => spec_l5Req.f a0_0 a0_1) fun t => κ (.bool (t)) ⟨[], []⟩
  | _, _, _ => none
def E_120 : Env tau := mkE [(0, [(0, .agg [.any, .any])]), (1, [(1, .one .any)])] [.one .any] ⟨0, 0⟩
noncomputable def c_53 (args : List (AV tau)) (m : Mem tau) (κ : AV tau → Mem tau → Option Unit) : Option Unit := match args, m.bx, m.rw with
  | [.agg [b0, b1, b2, b3, b4, b5, b6]], [], [] => bO (asB b0) fun a0_0 => bO (asI .i64 b1) fun a0_1 => bO (asI .i64 b2) fun a0_2 => bO (asSl 39 b3) fun l0_3 => bO (asSl 82 b4) fun l0_4 => bO (asI .i64 b5) fun a0_5 => bO (asI .i64 b6) fun a0_6 => callX (fun n => spec_CertEntry.f n a0_0 a0_1 a0_2 l0_3 l0_4 a0_5 a0_6) fun t => κ (.bool (t)) ⟨[], []⟩
  | _, _, _ => none
def E_53 : Env tau := mkE [(0, [(0, .agg [.any, .any, .any, .own 39, .own 82, .any, .any])]), (1, [(1, .one .any)]), (2, [(1, .one .any)]), (3, [(1, .one .any)])] [.one .any] ⟨0, 0⟩
noncomputable def c_149 (args : List (AV tau)) (m : Mem tau) (κ : AV tau → Mem tau → Option Unit) : Option Unit := match args, m.bx, m.rw with
  | [], [], [] => callX (fun n => spec_BoxOpen.f) fun t => κ (.own 0 0) ⟨[], [some ⟨37, t, 0⟩]⟩
  | _, _, _ => none
def E_149 : Env tau := mkE [(0, []), (1, [])] [.one (.own 37)] ⟨0, 0⟩
noncomputable def c_114 (args : List (AV tau)) (m : Mem tau) (κ : AV tau → Mem tau → Option Unit) : Option Unit := match args, m.bx, m.rw with
  | [], [], [] => callX (fun n => spec_CertOpen.f) fun t => κ (.agg [.int .i64 (t.1), .own 0 0, .own 1 0]) ⟨[], [some ⟨37, t.2.1, 0⟩, some ⟨84, t.2.2, 0⟩]⟩
  | _, _, _ => none
def E_114 : Env tau := mkE [(0, []), (1, [(0, .one .any)])] [.agg [.any, .own 37, .own 84]] ⟨0, 0⟩
noncomputable def c_22 (args : List (AV tau)) (m : Mem tau) (κ : AV tau → Mem tau → Option Unit) : Option Unit := match args, m.bx, m.rw with
  | [b0], [], [] => bO (asSl 37 b0) fun l0 => callX (fun n => spec_BoxOk.f n l0) fun t => κ (.bool (t)) ⟨[], []⟩
  | _, _, _ => none
def E_22 : Env tau := mkE [(0, [(0, .one (.own 37))]), (1, [(0, .one (.own 37))]), (2, []), (3, [(0, .one (.own 37))]), (4, [(0, .one (.own 37)), (3, .one .any)]), (5, [(0, .one (.own 37)), (3, .one .any)]), (6, [(0, .one (.own 37)), (3, .one .any)]), (7, []), (8, [])] [.one .any] ⟨0, 0⟩
noncomputable def c_21 (args : List (AV tau)) (m : Mem tau) (κ : AV tau → Mem tau → Option Unit) : Option Unit := match args, m.bx, m.rw with
  | [b0, .agg [b1, b2, b3, b4]], [], [] => bO (asSl 37 b0) fun l0 => bO (asSl 39 b1) fun l1_0 => bO (asSl 82 b2) fun l1_1 => bO (asI .i64 b3) fun a1_2 => bO (asI .i64 b4) fun a1_3 => callX (fun n => spec_ExecFresh.f n l0 l1_0 l1_1 a1_2 a1_3) fun t => κ (.bool (t)) ⟨[], []⟩
  | _, _, _ => none
def E_21 : Env tau := mkE [(0, [(0, .one (.own 37)), (1, .agg [.own 39, .own 82, .any, .any])]), (1, [(0, .one (.own 37)), (3, .one .any)]), (2, []), (3, [(0, .one (.own 37)), (3, .one .any)]), (4, [(0, .one (.own 37)), (3, .one .any), (5, .one .any)]), (5, [(0, .one (.own 37)), (3, .one .any), (5, .one .any)]), (6, [(0, .one (.own 37)), (3, .one .any), (5, .one .any)]), (7, []), (8, [])] [.one .any] ⟨0, 0⟩
noncomputable def c_167 (args : List (AV tau)) (m : Mem tau) (κ : AV tau → Mem tau → Option Unit) : Option Unit := match args, m.bx, m.rw with
  | [b0, b1], [], [] => bO (asI .i64 b0) fun a0 => bO (asI .i64 b1) fun a1 => callX (fun n => spec_l1Min.f a0 a1) fun t => κ (.int .i64 (t)) ⟨[], []⟩
  | _, _, _ => none
def E_167 : Env tau := mkE [(0, [(0, .one .any), (1, .one .any)]), (1, [(0, .one .any), (1, .one .any)]), (2, [(0, .one .any)]), (3, [(1, .one .any)])] [.one .any] ⟨0, 0⟩
noncomputable def c_146 (args : List (AV tau)) (m : Mem tau) (κ : AV tau → Mem tau → Option Unit) : Option Unit := match args, m.bx, m.rw with
  | [b0, .agg [b1, b2, b3, b4]], [], [r0] => bO (asOwn 0 b0) fun _ => bO (asRow 37 r0) fun l0 => bO (asSl 39 b1) fun l1_0 => bO (asSl 82 b2) fun l1_1 => bO (asI .i64 b3) fun a1_2 => bO (asI .i64 b4) fun a1_3 => callX (fun n => spec_l3Do.f n l0 l1_0 l1_1 a1_2 a1_3) fun t => κ (.own 0 0) ⟨[], [some ⟨37, t, 0⟩]⟩
  | _, _, _ => none
def E_146 : Env tau := mkE [(0, [(0, .one (.own 37)), (1, .agg [.own 39, .own 82, .any, .any])]), (1, [(0, .one (.own 37)), (3, .one .any)]), (2, [(0, .one (.own 37)), (3, .one .any), (5, .one .any)]), (3, [(0, .one (.own 37)), (3, .one .any), (5, .one .any)]), (4, [(0, .one (.own 37)), (3, .one .any), (5, .one .any)]), (5, [(0, .one (.own 37)), (3, .one .any), (5, .one .any), (6, .one .any)]), (6, [(0, .one (.own 37))])] [.one (.own 37)] ⟨0, 0⟩
noncomputable def c_155 (args : List (AV tau)) (m : Mem tau) (κ : AV tau → Mem tau → Option Unit) : Option Unit := match args, m.bx, m.rw with
  | [.agg [b0, b1, b2], b3], [], [] => bO (asI .i64 b0) fun a0_0 => bO (asSl 37 b1) fun l0_1 => bO (asSl 84 b2) fun l0_2 => bO (asI .i64 b3) fun a1 => callX (fun n => spec_l5Last.f n a0_0 l0_1 l0_2 a1) fun t => κ (.tup [.agg [.int .i64 (t.1), .int .i64 (t.2.1), .int .i64 (t.2.2.1), .int .i64 (t.2.2.2.1)], .bool (t.2.2.2.2)]) ⟨[], []⟩
  | _, _, _ => none
def E_155 : Env tau := mkE [(0, [(0, .agg [.any, .own 37, .own 84]), (1, .one .any)]), (1, [(1, .one .any), (2, .one .any), (4, .one .any)]), (2, [(1, .one .any), (2, .one .any), (4, .one .any), (6, .one .any)]), (3, [(1, .one .any), (2, .one .any), (4, .one .any), (6, .one .any)]), (4, [(1, .one .any), (2, .one .any), (4, .one .any), (6, .one .any)]), (5, [(2, .one .any), (4, .one .any), (6, .one .any)]), (6, [(4, .one .any)])] [.agg [.any, .any, .any, .any], .one .any] ⟨0, 0⟩
noncomputable def c_156 (args : List (AV tau)) (m : Mem tau) (κ : AV tau → Mem tau → Option Unit) : Option Unit := match args, m.bx, m.rw with
  | [b0, .agg [b1, b2, b3, b4]], [], [] => bO (asSl 84 b0) fun l0 => bO (asI .i64 b1) fun a1_0 => bO (asI .i64 b2) fun a1_1 => bO (asI .i64 b3) fun a1_2 => bO (asI .i64 b4) fun a1_3 => callX (fun n => spec_l5Put.f n l0 a1_0 a1_1 a1_2 a1_3) fun t => κ (.own 0 0) ⟨[], [some ⟨84, t, 0⟩]⟩
  | _, _, _ => none
def E_156 : Env tau := mkE [(0, [(0, .one (.own 84)), (1, .agg [.any, .any, .any, .any])]), (1, [(0, .one (.own 84)), (3, .one .any)]), (2, [(0, .one (.own 84)), (3, .one .any), (5, .one (.own 84))]), (3, [(0, .one (.own 84)), (3, .one .any), (5, .one (.own 84)), (6, .one .any)]), (4, [(0, .one (.own 84)), (3, .one .any), (5, .one (.own 84)), (6, .one .any), (7, .one .any)]), (5, [(0, .one (.own 84)), (3, .one .any), (5, .one (.own 84)), (6, .one .any), (7, .one .any)]), (6, [(0, .one (.own 84)), (3, .one .any), (5, .one (.own 84)), (6, .one .any), (7, .one .any)]), (7, [(0, .one (.own 84)), (3, .one .any), (5, .one (.own 84)), (7, .one .any)]), (8, [(0, .one (.own 84)), (3, .one .any), (5, .one (.own 84)), (7, .one .any)]), (9, [(0, .one (.own 84)), (3, .one .any), (5, .one (.own 84)), (6, .one .any), (7, .one .any)]), (10, [(0, .one (.own 84)), (3, .one .any), (5, .one (.own 84)), (6, .one .any), (7, .one .any)]), (11, [(3, .one .any), (5, .one (.own 84)), (6, .one .any)]), (12, [(3, .one .any), (5, .one (.own 84))]), (13, [(5, .one (.own 84))])] [.one (.own 84)] ⟨0, 0⟩
noncomputable def c_115 (args : List (AV tau)) (m : Mem tau) (κ : AV tau → Mem tau → Option Unit) : Option Unit := match args, m.bx, m.rw with
  | [.agg [b0, b1, b2], .agg [b3, b4, b5, b6, b7, b8, b9]], [], [r0, r1] => bO (asI .i64 b0) fun a0_0 => bO (asOwn 0 b1) fun _ => bO (asRow 37 r0) fun l0_1 => bO (asOwn 1 b2) fun _ => bO (asRow 84 r1) fun l0_2 => bO (asB b3) fun a1_0 => bO (asI .i64 b4) fun a1_1 => bO (asI .i64 b5) fun a1_2 => bO (asSl 39 b6) fun l1_3 => bO (asSl 82 b7) fun l1_4 => bO (asI .i64 b8) fun a1_5 => bO (asI .i64 b9) fun a1_6 => callX (fun n => spec_l5Apply.f n a0_0 l0_1 l0_2 a1_0 a1_1 a1_2 l1_3 l1_4 a1_5 a1_6) fun t => κ (.tup [.agg [.int .i64 (t.1), .own 0 0, .own 1 0], .int .i64 (t.2.2.2)]) ⟨[], [some ⟨37, t.2.1, 0⟩, some ⟨84, t.2.2.1, 0⟩]⟩
  | _, _, _ => none
def E_115 : Env tau := mkE [(0, [(0, .agg [.any, .own 37, .own 84]), (1, .agg [.any, .any, .any, .own 39, .own 82, .any, .any])]), (1, [(2, .one .any), (3, .one .any), (4, .one .any)]), (2, [(2, .one .any), (3, .one .any), (4, .one .any)]), (3, [(2, .one .any), (4, .one .any)]), (4, [(2, .one .any), (3, .one .any), (4, .one .any)]), (5, [(2, .one .any), (3, .one .any), (4, .one .any), (6, .one .any), (7, .one .any)]), (6, [(2, .one .any), (4, .one .any)]), (7, [(2, .one .any), (3, .one .any), (4, .one .any), (6, .one .any), (7, .one .any)]), (8, [(2, .one .any), (4, .one .any)]), (9, [(2, .one .any), (3, .one .any), (4, .one .any)]), (10, [(2, .one .any), (3, .one .any), (4, .one .any), (8, .one .any)]), (11, [(2, .one .any), (3, .one .any), (4, .one .any), (8, .one .any)]), (12, [(2, .one .any), (3, .one .any), (4, .one .any), (8, .one .any)]), (13, [(2, .one .any), (3, .one .any), (4, .one .any), (8, .one .any)]), (14, [(2, .one .any), (3, .one .any), (4, .one .any), (8, .one .any)]), (15, [(2, .one .any), (3, .one .any), (4, .one .any), (8, .one .any)]), (16, [(2, .one .any), (4, .one .any), (8, .one .any)]), (17, [(2, .one .any), (4, .one .any), (8, .one .any)])] [.agg [.any, .own 37, .own 84], .one .any] ⟨0, 0⟩
noncomputable def c_46 (args : List (AV tau)) (m : Mem tau) (κ : AV tau → Mem tau → Option Unit) : Option Unit := match args, m.bx, m.rw with
  | [b0], [], [] => bO (asSl 77 b0) fun l0 => callX (fun n => spec_CertFold.f n l0) fun t => κ (.agg [.int .i64 (t.1), .own 0 0, .own 1 0]) ⟨[], [some ⟨37, t.2.1, 0⟩, some ⟨84, t.2.2, 0⟩]⟩
  | _, _, _ => none
def E_46 : Env tau := mkE [(0, [(0, .one (.own 77))]), (1, [(0, .one (.own 77)), (2, .one .any)]), (2, [(0, .one (.own 77)), (2, .one .any), (3, .one .any)]), (3, [(2, .one .any)]), (4, [(0, .one (.own 77)), (2, .one .any), (3, .one .any)]), (5, [(0, .one (.own 77)), (2, .one .any), (3, .one .any), (4, .one .any)]), (6, [(0, .one (.own 77)), (2, .one .any), (3, .one .any), (4, .one .any)]), (7, [(0, .one (.own 77)), (2, .one .any), (3, .one .any), (4, .one .any)]), (8, [(2, .one .any)]), (9, [(0, .one (.own 77)), (2, .one .any), (3, .one .any), (4, .one .any)]), (10, [(0, .one (.own 77)), (2, .one .any), (3, .one .any), (4, .one .any), (5, .one .any)]), (11, [(2, .one .any), (3, .one .any)])] [.agg [.any, .own 37, .own 84]] ⟨0, 0⟩
noncomputable def c_95 (args : List (AV tau)) (m : Mem tau) (κ : AV tau → Mem tau → Option Unit) : Option Unit := match args, m.bx, m.rw with
  | [.agg [b0, b1], .agg [b2, b3]], [], [] => bO (asI .i64 b0) fun a0_0 => bO (asI .i64 b1) fun a0_1 => bO (asI .i64 b2) fun a1_0 => bO (asI .i64 b3) fun a1_1 => callX (fun n => laws_eqBox.f a0_0 a0_1 a1_0 a1_1) fun t => κ (.bool (t)) ⟨[], []⟩
  | _, _, _ => none
def E_95 : Env tau := mkE [(0, [(0, .agg [.any, .any]), (1, .agg [.any, .any])]), (1, [(2, .one .any), (3, .one .any)]), (2, []), (3, [(2, .one .any), (3, .one .any)]), (4, []), (5, [])] [.one .any] ⟨0, 0⟩
noncomputable def c_30 (args : List (AV tau)) (m : Mem tau) (κ : AV tau → Mem tau → Option Unit) : Option Unit := match args, m.bx, m.rw with
  | [b0, b1], [], [] => bO (asSl 37 b0) fun l0 => bO (asSl 37 b1) fun l1 => callX (fun n => laws_eqBoxS.f n l0 l1) fun t => κ (.bool (t)) ⟨[], []⟩
  | _, _, _ => none
def E_30 : Env tau := mkE [(0, [(0, .one (.own 37)), (1, .one (.own 37))]), (1, [(0, .one (.own 37)), (1, .one (.own 37))]), (2, []), (3, [(0, .one (.own 37)), (1, .one (.own 37))]), (4, [(0, .one (.own 37)), (1, .one (.own 37)), (5, .one .any)]), (5, [(0, .one (.own 37)), (1, .one (.own 37)), (5, .one .any)]), (6, [(0, .one (.own 37)), (1, .one (.own 37)), (5, .one .any)]), (7, []), (8, [])] [.one .any] ⟨0, 0⟩
noncomputable def c_137 (args : List (AV tau)) (m : Mem tau) (κ : AV tau → Mem tau → Option Unit) : Option Unit := match args, m.bx, m.rw with
  | [.agg [b0, b1], .agg [b2, b3]], [], [] => bO (asI .i64 b0) fun a0_0 => bO (asI .i64 b1) fun a0_1 => bO (asI .i64 b2) fun a1_0 => bO (asI .i64 b3) fun a1_1 => callX (fun n => laws_eqReq.f a0_0 a0_1 a1_0 a1_1) fun t => κ (.bool (t)) ⟨[], []⟩
  | _, _, _ => none
def E_137 : Env tau := mkE [(0, [(0, .agg [.any, .any]), (1, .agg [.any, .any])]), (1, [(2, .one .any), (3, .one .any)]), (2, []), (3, [(2, .one .any), (3, .one .any)]), (4, []), (5, [])] [.one .any] ⟨0, 0⟩
noncomputable def c_163 (args : List (AV tau)) (m : Mem tau) (κ : AV tau → Mem tau → Option Unit) : Option Unit := match args, m.bx, m.rw with
  | [.agg [b0, b1, b2, b3], .agg [b4, b5, b6, b7]], [], [] => bO (asI .i64 b0) fun a0_0 => bO (asI .i64 b1) fun a0_1 => bO (asI .i64 b2) fun a0_2 => bO (asI .i64 b3) fun a0_3 => bO (asI .i64 b4) fun a1_0 => bO (asI .i64 b5) fun a1_1 => bO (asI .i64 b6) fun a1_2 => bO (asI .i64 b7) fun a1_3 => callX (fun n => laws_eqDone.f a0_0 a0_1 a0_2 a0_3 a1_0 a1_1 a1_2 a1_3) fun t => κ (.bool (t)) ⟨[], []⟩
  | _, _, _ => none
def E_163 : Env tau := mkE [(0, [(0, .agg [.any, .any, .any, .any]), (1, .agg [.any, .any, .any, .any])]), (1, [(2, .one .any), (3, .one .any)]), (2, []), (3, [(2, .one .any), (3, .one .any)]), (4, []), (5, [(2, .one .any), (3, .one .any)]), (6, []), (7, [])] [.one .any] ⟨0, 0⟩
noncomputable def c_136 (args : List (AV tau)) (m : Mem tau) (κ : AV tau → Mem tau → Option Unit) : Option Unit := match args, m.bx, m.rw with
  | [b0, b1], [], [] => bO (asSl 84 b0) fun l0 => bO (asSl 84 b1) fun l1 => callX (fun n => laws_eqDoneS.f n l0 l1) fun t => κ (.bool (t)) ⟨[], []⟩
  | _, _, _ => none
def E_136 : Env tau := mkE [(0, [(0, .one (.own 84)), (1, .one (.own 84))]), (1, [(0, .one (.own 84)), (1, .one (.own 84))]), (2, []), (3, [(0, .one (.own 84)), (1, .one (.own 84))]), (4, [(0, .one (.own 84)), (1, .one (.own 84)), (5, .one .any)]), (5, [(0, .one (.own 84)), (1, .one (.own 84)), (5, .one .any)]), (6, [(0, .one (.own 84)), (1, .one (.own 84)), (5, .one .any)]), (7, []), (8, [])] [.one .any] ⟨0, 0⟩
noncomputable def c_68 (args : List (AV tau)) (m : Mem tau) (κ : AV tau → Mem tau → Option Unit) : Option Unit := match args, m.bx, m.rw with
  | [.agg [b0, b1, b2], .agg [b3, b4, b5]], [], [] => bO (asI .i64 b0) fun a0_0 => bO (asSl 37 b1) fun l0_1 => bO (asSl 84 b2) fun l0_2 => bO (asI .i64 b3) fun a1_0 => bO (asSl 37 b4) fun l1_1 => bO (asSl 84 b5) fun l1_2 => callX (fun n => laws_eqState.f n a0_0 l0_1 l0_2 a1_0 l1_1 l1_2) fun t => κ (.bool (t)) ⟨[], []⟩
  | _, _, _ => none
def E_68 : Env tau := mkE [(0, [(0, .agg [.any, .own 37, .own 84]), (1, .agg [.any, .own 37, .own 84])]), (1, [(2, .one .any), (3, .one .any)]), (2, []), (3, [(2, .one .any), (3, .one .any)]), (4, []), (5, [(2, .one .any), (3, .one .any)]), (6, []), (7, [])] [.one .any] ⟨0, 0⟩
noncomputable def c_33 (args : List (AV tau)) (m : Mem tau) (κ : AV tau → Mem tau → Option Unit) : Option Unit := match args, m.bx, m.rw with
  | [b0, b1], [], [r0] => bO (asOwn 0 b0) fun _ => bO (asRow 37 r0) fun l0 => bO (asI .i64 b1) fun a1 => callX (fun n => laws_markBoxS.f n l0 a1) fun t => κ (.int .i64 (t.1)) ⟨[], [some ⟨37, t.2, 0⟩]⟩
  | _, _, _ => none
def E_33 : Env tau := mkE [(0, [(0, .one (.own 37)), (1, .one .any)]), (1, [(0, .one (.own 37)), (1, .one .any)]), (2, [(0, .one (.own 37)), (1, .one .any), (5, .one .any)]), (3, [(0, .one (.own 37)), (1, .one .any), (5, .one .any)]), (4, [(0, .one (.own 37)), (1, .one .any), (5, .one .any)]), (5, [(0, .one (.own 37)), (1, .one .any), (5, .one .any)]), (6, [(0, .one (.own 37)), (1, .one .any), (5, .one .any)]), (7, [(0, .one (.own 37)), (1, .one .any), (5, .one .any)]), (8, [(1, .one .any)])] [.one .any] ⟨0, 1⟩
noncomputable def c_139 (args : List (AV tau)) (m : Mem tau) (κ : AV tau → Mem tau → Option Unit) : Option Unit := match args, m.bx, m.rw with
  | [b0, b1], [], [r0] => bO (asOwn 0 b0) fun _ => bO (asRow 84 r0) fun l0 => bO (asI .i64 b1) fun a1 => callX (fun n => laws_markDoneS.f n l0 a1) fun t => κ (.int .i64 (t.1)) ⟨[], [some ⟨84, t.2, 0⟩]⟩
  | _, _, _ => none
def E_139 : Env tau := mkE [(0, [(0, .one (.own 84)), (1, .one .any)]), (1, [(0, .one (.own 84)), (1, .one .any)]), (2, [(0, .one (.own 84)), (1, .one .any), (5, .one .any)]), (3, [(0, .one (.own 84)), (1, .one .any), (5, .one .any)]), (4, [(0, .one (.own 84)), (1, .one .any), (5, .one .any)]), (5, [(0, .one (.own 84)), (1, .one .any), (5, .one .any)]), (6, [(0, .one (.own 84)), (1, .one .any), (5, .one .any)]), (7, [(0, .one (.own 84)), (1, .one .any), (5, .one .any)]), (8, [(0, .one (.own 84)), (1, .one .any), (5, .one .any)]), (9, [(0, .one (.own 84)), (1, .one .any), (5, .one .any)]), (10, [(0, .one (.own 84)), (1, .one .any), (5, .one .any)]), (11, [(0, .one (.own 84)), (1, .one .any), (5, .one .any)]), (12, [(1, .one .any)])] [.one .any] ⟨0, 1⟩
noncomputable def c_70 (args : List (AV tau)) (m : Mem tau) (κ : AV tau → Mem tau → Option Unit) : Option Unit := match args, m.bx, m.rw with
  | [.agg [b0, b1, b2], b3], [], [r0, r1] => bO (asI .i64 b0) fun a0_0 => bO (asOwn 0 b1) fun _ => bO (asRow 37 r0) fun l0_1 => bO (asOwn 1 b2) fun _ => bO (asRow 84 r1) fun l0_2 => bO (asI .i64 b3) fun a1 => callX (fun n => laws_markState.f n a0_0 l0_1 l0_2 a1) fun t => κ (.int .i64 (t.1)) ⟨[], [some ⟨37, t.2.1, 0⟩, some ⟨84, t.2.2, 0⟩]⟩
  | _, _, _ => none
def E_70 : Env tau := mkE [(0, [(0, .agg [.any, .own 37, .own 84]), (1, .one .any)]), (1, [(1, .one .any), (2, .one .any)]), (2, [(1, .one .any), (2, .one .any)]), (3, [(1, .one .any)])] [.one .any] ⟨0, 2⟩
noncomputable def c_36 (args : List (AV tau)) (m : Mem tau) (κ : AV tau → Mem tau → Option Unit) : Option Unit := match args, m.bx, m.rw with
  | [b0, b1], [], [] => bO (asSl 37 b0) fun l0 => bO (asI .i64 b1) fun a1 => callX (fun n => laws_heldBoxS.f n l0 a1) fun t => κ (.int .i64 (t)) ⟨[], []⟩
  | _, _, _ => none
def E_36 : Env tau := mkE [(0, [(0, .one (.own 37)), (1, .one .any)]), (1, [(0, .one (.own 37)), (1, .one .any)]), (2, [(0, .one (.own 37)), (1, .one .any), (5, .one .any)]), (3, [(0, .one (.own 37)), (1, .one .any), (5, .one .any)]), (4, [(0, .one (.own 37)), (1, .one .any), (5, .one .any)]), (5, []), (6, [(0, .one (.own 37)), (1, .one .any), (5, .one .any)]), (7, [(0, .one (.own 37)), (1, .one .any), (5, .one .any)]), (8, []), (9, [(0, .one (.own 37)), (1, .one .any), (5, .one .any)]), (10, [(1, .one .any)])] [.one .any] ⟨0, 0⟩
noncomputable def c_141 (args : List (AV tau)) (m : Mem tau) (κ : AV tau → Mem tau → Option Unit) : Option Unit := match args, m.bx, m.rw with
  | [b0, b1], [], [] => bO (asSl 84 b0) fun l0 => bO (asI .i64 b1) fun a1 => callX (fun n => laws_heldDoneS.f n l0 a1) fun t => κ (.int .i64 (t)) ⟨[], []⟩
  | _, _, _ => none
def E_141 : Env tau := mkE [(0, [(0, .one (.own 84)), (1, .one .any)]), (1, [(0, .one (.own 84)), (1, .one .any)]), (2, [(0, .one (.own 84)), (1, .one .any), (5, .one .any)]), (3, [(0, .one (.own 84)), (1, .one .any), (5, .one .any)]), (4, [(0, .one (.own 84)), (1, .one .any), (5, .one .any)]), (5, []), (6, [(0, .one (.own 84)), (1, .one .any), (5, .one .any)]), (7, [(0, .one (.own 84)), (1, .one .any), (5, .one .any)]), (8, []), (9, [(0, .one (.own 84)), (1, .one .any), (5, .one .any)]), (10, [(0, .one (.own 84)), (1, .one .any), (5, .one .any)]), (11, []), (12, [(0, .one (.own 84)), (1, .one .any), (5, .one .any)]), (13, [(0, .one (.own 84)), (1, .one .any), (5, .one .any)]), (14, []), (15, [(0, .one (.own 84)), (1, .one .any), (5, .one .any)]), (16, [(1, .one .any)])] [.one .any] ⟨0, 0⟩
noncomputable def c_72 (args : List (AV tau)) (m : Mem tau) (κ : AV tau → Mem tau → Option Unit) : Option Unit := match args, m.bx, m.rw with
  | [.agg [b0, b1, b2], b3], [], [] => bO (asI .i64 b0) fun a0_0 => bO (asSl 37 b1) fun l0_1 => bO (asSl 84 b2) fun l0_2 => bO (asI .i64 b3) fun a1 => callX (fun n => laws_heldState.f n a0_0 l0_1 l0_2 a1) fun t => κ (.int .i64 (t)) ⟨[], []⟩
  | _, _, _ => none
def E_72 : Env tau := mkE [(0, [(0, .agg [.any, .own 37, .own 84]), (1, .one .any)]), (1, [(1, .one .any), (2, .one .any)]), (2, [(1, .one .any), (2, .one .any)]), (3, []), (4, [(1, .one .any), (2, .one .any)]), (5, [(1, .one .any)]), (6, []), (7, [(1, .one .any)])] [.one .any] ⟨0, 0⟩
noncomputable def c_158 (args : List (AV tau)) (m : Mem tau) (κ : AV tau → Mem tau → Option Unit) : Option Unit := match args, m.bx, m.rw with
  | [b0, b1], [], [] => bO (asSl 196 b0) fun l0 => bO (asI .i64 b1) fun a1 => callX (fun n => laws_szReadS.f l0 a1) fun t => κ (.int .i64 (t)) ⟨[], []⟩
  | _, _, _ => none
def E_158 : Env tau := mkE [(0, [(0, .one (.own 196)), (1, .one .any)]), (1, [(0, .one (.own 196)), (1, .one .any)]), (2, [(1, .one .any)]), (3, []), (4, [(1, .one .any)])] [.one .any] ⟨0, 0⟩
noncomputable def c_159 (args : List (AV tau)) (m : Mem tau) (κ : AV tau → Mem tau → Option Unit) : Option Unit := match args, m.bx, m.rw with
  | [b0, b1], [], [] => bO (asSl 198 b0) fun l0 => bO (asI .i64 b1) fun a1 => callX (fun n => laws_szPutS.f l0 a1) fun t => κ (.int .i64 (t)) ⟨[], []⟩
  | _, _, _ => none
def E_159 : Env tau := mkE [(0, [(0, .one (.own 198)), (1, .one .any)]), (1, [(0, .one (.own 198)), (1, .one .any)]), (2, [(1, .one .any)]), (3, []), (4, [(1, .one .any)])] [.one .any] ⟨0, 0⟩
noncomputable def c_132 (args : List (AV tau)) (m : Mem tau) (κ : AV tau → Mem tau → Option Unit) : Option Unit := match args, m.bx, m.rw with
  | [.agg [b0, b1, b2, b3], b4], [], [] => bO (asSl 196 b0) fun l0_0 => bO (asSl 198 b1) fun l0_1 => bO (asI .i64 b2) fun a0_2 => bO (asI .i64 b3) fun a0_3 => bO (asI .i64 b4) fun a1 => callX (fun n => laws_szRun.f l0_0 l0_1 a0_2 a0_3 a1) fun t => κ (.int .i64 (t)) ⟨[], []⟩
  | _, _, _ => none
def E_132 : Env tau := mkE [(0, [(0, .agg [.own 196, .own 198, .any, .any]), (1, .one .any)]), (1, [(1, .one .any), (2, .one .any)]), (2, [(1, .one .any), (2, .one .any)]), (3, []), (4, [(1, .one .any), (2, .one .any)]), (5, [(1, .one .any)]), (6, []), (7, [(1, .one .any)])] [.one .any] ⟨0, 0⟩
noncomputable def c_65 (args : List (AV tau)) (m : Mem tau) (κ : AV tau → Mem tau → Option Unit) : Option Unit := match args, m.bx, m.rw with
  | [.agg [b0, b1, b2, b3, b4, b5, b6], b7], [], [] => bO (asB b0) fun a0_0 => bO (asI .i64 b1) fun a0_1 => bO (asI .i64 b2) fun a0_2 => bO (asSl 196 b3) fun l0_3 => bO (asSl 198 b4) fun l0_4 => bO (asI .i64 b5) fun a0_5 => bO (asI .i64 b6) fun a0_6 => bO (asI .i64 b7) fun a1 => callX (fun n => laws_szEntry.f a0_0 a0_1 a0_2 l0_3 l0_4 a0_5 a0_6 a1) fun t => κ (.int .i64 (t)) ⟨[], []⟩
  | _, _, _ => none
def E_65 : Env tau := mkE [(0, [(0, .agg [.any, .any, .any, .own 196, .own 198, .any, .any]), (1, .one .any)]), (1, [(1, .one .any), (2, .one .any)]), (2, [(1, .one .any)]), (3, []), (4, [(1, .one .any)])] [.one .any] ⟨0, 0⟩
noncomputable def c_73 (args : List (AV tau)) (m : Mem tau) (κ : AV tau → Mem tau → Option Unit) : Option Unit := match args, m.bx, m.rw with
  | [b0, b1], [], [] => bO (asSl 109 b0) fun l0 => bO (asI .i64 b1) fun a1 => callX (fun n => laws_szEntryS.f n l0 a1) fun t => κ (.int .i64 (t)) ⟨[], []⟩
  | _, _, _ => none
def E_73 : Env tau := mkE [(0, [(0, .one (.own 109)), (1, .one .any)]), (1, [(0, .one (.own 109)), (1, .one .any)]), (2, [(0, .one (.own 109)), (1, .one .any)]), (3, []), (4, [(0, .one (.own 109)), (1, .one .any)]), (5, [(0, .one (.own 109)), (1, .one .any), (5, .one .any)]), (6, [(0, .one (.own 109)), (1, .one .any), (5, .one .any)]), (7, [(0, .one (.own 109)), (1, .one .any), (5, .one .any)]), (8, [(0, .one (.own 109)), (1, .one .any), (5, .one .any)]), (9, []), (10, [(1, .one .any)])] [.one .any] ⟨0, 0⟩
noncomputable def c_134 (args : List (AV tau)) (m : Mem tau) (κ : AV tau → Mem tau → Option Unit) : Option Unit := match args, m.bx, m.rw with
  | [.agg [b0, b1]], [], [] => bO (asI .i64 b0) fun a0_0 => bO (asI .i64 b1) fun a0_1 => callX (fun n => laws_toReq.f a0_0 a0_1) fun t => κ (.agg [.int .i64 (t.1), .int .i64 (t.2)]) ⟨[], []⟩
  | _, _, _ => none
def E_134 : Env tau := mkE [(0, [(0, .agg [.any, .any])]), (1, [(1, .one .any), (2, .one .any)]), (2, [(1, .one .any), (2, .one .any), (3, .one .any)]), (3, [(1, .one .any), (2, .one .any), (3, .one .any)]), (4, [(2, .one .any), (3, .one .any)])] [.agg [.any, .any]] ⟨0, 0⟩
noncomputable def c_171 (args : List (AV tau)) (m : Mem tau) (κ : AV tau → Mem tau → Option Unit) : Option Unit := match args, m.bx, m.rw with
  | [.agg [b0, b1]], [], [] => bO (asI .i64 b0) fun a0_0 => bO (asI .i64 b1) fun a0_1 => callX (fun n => laws_toRead.f a0_0 a0_1) fun t => κ (.agg [.int .i64 (t.1), .int .i64 (t.2)]) ⟨[], []⟩
  | _, _, _ => none
def E_171 : Env tau := mkE [(0, [(0, .agg [.any, .any])]), (1, [(1, .one .any), (2, .one .any)]), (2, [(1, .one .any), (2, .one .any), (3, .one .any)]), (3, [(1, .one .any), (2, .one .any), (3, .one .any)]), (4, [(2, .one .any), (3, .one .any)])] [.agg [.any, .any]] ⟨0, 0⟩
noncomputable def c_161 (args : List (AV tau)) (m : Mem tau) (κ : AV tau → Mem tau → Option Unit) : Option Unit := match args, m.bx, m.rw with
  | [b0], [], [] => bO (asSl 196 b0) fun l0 => callX (fun n => laws_toReadS.f n l0) fun t => κ (.own 0 0) ⟨[], [some ⟨39, t, 0⟩]⟩
  | _, _, _ => none
def E_161 : Env tau := mkE [(0, [(0, .one (.own 196))]), (1, [(0, .one (.own 196))]), (2, [(0, .one (.own 196)), (3, .one (.own 39))]), (3, [(0, .one (.own 196)), (3, .one (.own 39)), (4, .one .any)]), (4, [(0, .one (.own 196)), (3, .one (.own 39)), (4, .one .any)]), (5, [(0, .one (.own 196)), (3, .one (.own 39)), (4, .one .any)]), (6, [(3, .one (.own 39))])] [.one (.own 39)] ⟨0, 0⟩
noncomputable def c_172 (args : List (AV tau)) (m : Mem tau) (κ : AV tau → Mem tau → Option Unit) : Option Unit := match args, m.bx, m.rw with
  | [.agg [b0, b1]], [], [] => bO (asI .i64 b0) fun a0_0 => bO (asI .i64 b1) fun a0_1 => callX (fun n => laws_toPut.f a0_0 a0_1) fun t => κ (.agg [.int .i64 (t.1), .int .i64 (t.2)]) ⟨[], []⟩
  | _, _, _ => none
def E_172 : Env tau := mkE [(0, [(0, .agg [.any, .any])]), (1, [(1, .one .any), (2, .one .any)]), (2, [(1, .one .any), (2, .one .any), (3, .one .any)]), (3, [(1, .one .any), (2, .one .any), (3, .one .any)]), (4, [(2, .one .any), (3, .one .any)])] [.agg [.any, .any]] ⟨0, 0⟩
noncomputable def c_162 (args : List (AV tau)) (m : Mem tau) (κ : AV tau → Mem tau → Option Unit) : Option Unit := match args, m.bx, m.rw with
  | [b0], [], [] => bO (asSl 198 b0) fun l0 => callX (fun n => laws_toPutS.f n l0) fun t => κ (.own 0 0) ⟨[], [some ⟨82, t, 0⟩]⟩
  | _, _, _ => none
def E_162 : Env tau := mkE [(0, [(0, .one (.own 198))]), (1, [(0, .one (.own 198))]), (2, [(0, .one (.own 198)), (3, .one (.own 82))]), (3, [(0, .one (.own 198)), (3, .one (.own 82)), (4, .one .any)]), (4, [(0, .one (.own 198)), (3, .one (.own 82)), (4, .one .any)]), (5, [(0, .one (.own 198)), (3, .one (.own 82)), (4, .one .any)]), (6, [(3, .one (.own 82))])] [.one (.own 82)] ⟨0, 0⟩
noncomputable def c_135 (args : List (AV tau)) (m : Mem tau) (κ : AV tau → Mem tau → Option Unit) : Option Unit := match args, m.bx, m.rw with
  | [.agg [b0, b1, b2, b3]], [], [] => bO (asSl 196 b0) fun l0_0 => bO (asSl 198 b1) fun l0_1 => bO (asI .i64 b2) fun a0_2 => bO (asI .i64 b3) fun a0_3 => callX (fun n => laws_toRun.f n l0_0 l0_1 a0_2 a0_3) fun t => κ (.agg [.own 0 0, .own 1 0, .int .i64 (t.2.2.1), .int .i64 (t.2.2.2)]) ⟨[], [some ⟨39, t.1, 0⟩, some ⟨82, t.2.1, 0⟩]⟩
  | _, _, _ => none
def E_135 : Env tau := mkE [(0, [(0, .agg [.own 196, .own 198, .any, .any])]), (1, [(1, .one .any), (2, .one .any)]), (2, [(1, .one .any), (2, .one .any), (3, .one .any)]), (3, [(1, .one .any), (2, .one .any), (3, .one .any)]), (4, [(1, .one .any), (2, .one .any), (3, .one .any)]), (5, [(1, .one .any), (2, .one .any), (3, .one .any)]), (6, [(2, .one .any), (3, .one .any)])] [.agg [.own 39, .own 82, .any, .any]] ⟨0, 0⟩
noncomputable def c_67 (args : List (AV tau)) (m : Mem tau) (κ : AV tau → Mem tau → Option Unit) : Option Unit := match args, m.bx, m.rw with
  | [.agg [b0, b1, b2, b3, b4, b5, b6]], [], [] => bO (asB b0) fun a0_0 => bO (asI .i64 b1) fun a0_1 => bO (asI .i64 b2) fun a0_2 => bO (asSl 196 b3) fun l0_3 => bO (asSl 198 b4) fun l0_4 => bO (asI .i64 b5) fun a0_5 => bO (asI .i64 b6) fun a0_6 => callX (fun n => laws_toEntry.f n a0_0 a0_1 a0_2 l0_3 l0_4 a0_5 a0_6) fun t => κ (.agg [.bool (t.1), .int .i64 (t.2.1), .int .i64 (t.2.2.1), .own 0 0, .own 1 0, .int .i64 (t.2.2.2.2.2.1), .int .i64 (t.2.2.2.2.2.2)]) ⟨[], [some ⟨39, t.2.2.2.1, 0⟩, some ⟨82, t.2.2.2.2.1, 0⟩]⟩
  | _, _, _ => none
def E_67 : Env tau := mkE [(0, [(0, .agg [.any, .any, .any, .own 196, .own 198, .any, .any])]), (1, [(1, .one .any), (2, .one .any)]), (2, [(1, .one .any), (2, .one .any), (3, .one .any)]), (3, [(1, .one .any), (2, .one .any), (3, .one .any)]), (4, [(1, .one .any), (2, .one .any), (3, .one .any)]), (5, [(2, .one .any), (3, .one .any)])] [.agg [.any, .any, .any, .own 39, .own 82, .any, .any]] ⟨0, 0⟩
noncomputable def c_74 (args : List (AV tau)) (m : Mem tau) (κ : AV tau → Mem tau → Option Unit) : Option Unit := match args, m.bx, m.rw with
  | [b0], [], [] => bO (asSl 109 b0) fun l0 => callX (fun n => laws_toEntryS.f n l0) fun t => κ (.own 0 0) ⟨[], [some ⟨77, t, 0⟩]⟩
  | _, _, _ => none
def E_74 : Env tau := mkE [(0, [(0, .one (.own 109))]), (1, [(0, .one (.own 109))]), (2, [(0, .one (.own 109)), (3, .one (.own 77))]), (3, [(0, .one (.own 109)), (3, .one (.own 77)), (4, .one .any)]), (4, [(0, .one (.own 109)), (3, .one (.own 77)), (4, .one .any)]), (5, [(0, .one (.own 109)), (3, .one (.own 77)), (4, .one .any)]), (6, [(3, .one (.own 77))])] [.one (.own 77)] ⟨0, 0⟩
noncomputable def c_173 (args : List (AV tau)) (m : Mem tau) (κ : AV tau → Mem tau → Option Unit) : Option Unit := match args, m.bx, m.rw with
  | [.agg [b0, b1], .agg [b2, b3]], [], [] => bO (asI .i64 b0) fun a0_0 => bO (asI .i64 b1) fun a0_1 => bO (asI .i64 b2) fun a1_0 => bO (asI .i64 b3) fun a1_1 => callX (fun n => laws_eqRead.f a0_0 a0_1 a1_0 a1_1) fun t => κ (.bool (t)) ⟨[], []⟩
  | _, _, _ => none
def E_173 : Env tau := mkE [(0, [(0, .agg [.any, .any]), (1, .agg [.any, .any])]), (1, [(2, .one .any), (3, .one .any)]), (2, []), (3, [(2, .one .any), (3, .one .any)]), (4, []), (5, [])] [.one .any] ⟨0, 0⟩
noncomputable def c_164 (args : List (AV tau)) (m : Mem tau) (κ : AV tau → Mem tau → Option Unit) : Option Unit := match args, m.bx, m.rw with
  | [b0, b1], [], [] => bO (asSl 39 b0) fun l0 => bO (asSl 39 b1) fun l1 => callX (fun n => laws_eqReadS.f n l0 l1) fun t => κ (.bool (t)) ⟨[], []⟩
  | _, _, _ => none
def E_164 : Env tau := mkE [(0, [(0, .one (.own 39)), (1, .one (.own 39))]), (1, [(0, .one (.own 39)), (1, .one (.own 39))]), (2, []), (3, [(0, .one (.own 39)), (1, .one (.own 39))]), (4, [(0, .one (.own 39)), (1, .one (.own 39)), (5, .one .any)]), (5, [(0, .one (.own 39)), (1, .one (.own 39)), (5, .one .any)]), (6, [(0, .one (.own 39)), (1, .one (.own 39)), (5, .one .any)]), (7, []), (8, [])] [.one .any] ⟨0, 0⟩
noncomputable def c_174 (args : List (AV tau)) (m : Mem tau) (κ : AV tau → Mem tau → Option Unit) : Option Unit := match args, m.bx, m.rw with
  | [.agg [b0, b1], .agg [b2, b3]], [], [] => bO (asI .i64 b0) fun a0_0 => bO (asI .i64 b1) fun a0_1 => bO (asI .i64 b2) fun a1_0 => bO (asI .i64 b3) fun a1_1 => callX (fun n => laws_eqPut.f a0_0 a0_1 a1_0 a1_1) fun t => κ (.bool (t)) ⟨[], []⟩
  | _, _, _ => none
def E_174 : Env tau := mkE [(0, [(0, .agg [.any, .any]), (1, .agg [.any, .any])]), (1, [(2, .one .any), (3, .one .any)]), (2, []), (3, [(2, .one .any), (3, .one .any)]), (4, []), (5, [])] [.one .any] ⟨0, 0⟩
noncomputable def c_165 (args : List (AV tau)) (m : Mem tau) (κ : AV tau → Mem tau → Option Unit) : Option Unit := match args, m.bx, m.rw with
  | [b0, b1], [], [] => bO (asSl 82 b0) fun l0 => bO (asSl 82 b1) fun l1 => callX (fun n => laws_eqPutS.f n l0 l1) fun t => κ (.bool (t)) ⟨[], []⟩
  | _, _, _ => none
def E_165 : Env tau := mkE [(0, [(0, .one (.own 82)), (1, .one (.own 82))]), (1, [(0, .one (.own 82)), (1, .one (.own 82))]), (2, []), (3, [(0, .one (.own 82)), (1, .one (.own 82))]), (4, [(0, .one (.own 82)), (1, .one (.own 82)), (5, .one .any)]), (5, [(0, .one (.own 82)), (1, .one (.own 82)), (5, .one .any)]), (6, [(0, .one (.own 82)), (1, .one (.own 82)), (5, .one .any)]), (7, []), (8, [])] [.one .any] ⟨0, 0⟩
noncomputable def c_138 (args : List (AV tau)) (m : Mem tau) (κ : AV tau → Mem tau → Option Unit) : Option Unit := match args, m.bx, m.rw with
  | [.agg [b0, b1, b2, b3], .agg [b4, b5, b6, b7]], [], [] => bO (asSl 39 b0) fun l0_0 => bO (asSl 82 b1) fun l0_1 => bO (asI .i64 b2) fun a0_2 => bO (asI .i64 b3) fun a0_3 => bO (asSl 39 b4) fun l1_0 => bO (asSl 82 b5) fun l1_1 => bO (asI .i64 b6) fun a1_2 => bO (asI .i64 b7) fun a1_3 => callX (fun n => laws_eqRun.f n l0_0 l0_1 a0_2 a0_3 l1_0 l1_1 a1_2 a1_3) fun t => κ (.bool (t)) ⟨[], []⟩
  | _, _, _ => none
def E_138 : Env tau := mkE [(0, [(0, .agg [.own 39, .own 82, .any, .any]), (1, .agg [.own 39, .own 82, .any, .any])]), (1, [(2, .one .any), (3, .one .any)]), (2, []), (3, [(2, .one .any), (3, .one .any)]), (4, []), (5, [(2, .one .any), (3, .one .any)]), (6, []), (7, [(2, .one .any), (3, .one .any)]), (8, []), (9, [])] [.one .any] ⟨0, 0⟩
noncomputable def c_69 (args : List (AV tau)) (m : Mem tau) (κ : AV tau → Mem tau → Option Unit) : Option Unit := match args, m.bx, m.rw with
  | [.agg [b0, b1, b2, b3, b4, b5, b6], .agg [b7, b8, b9, b10, b11, b12, b13]], [], [] => bO (asB b0) fun a0_0 => bO (asI .i64 b1) fun a0_1 => bO (asI .i64 b2) fun a0_2 => bO (asSl 39 b3) fun l0_3 => bO (asSl 82 b4) fun l0_4 => bO (asI .i64 b5) fun a0_5 => bO (asI .i64 b6) fun a0_6 => bO (asB b7) fun a1_0 => bO (asI .i64 b8) fun a1_1 => bO (asI .i64 b9) fun a1_2 => bO (asSl 39 b10) fun l1_3 => bO (asSl 82 b11) fun l1_4 => bO (asI .i64 b12) fun a1_5 => bO (asI .i64 b13) fun a1_6 => callX (fun n => laws_eqEntry.f n a0_0 a0_1 a0_2 l0_3 l0_4 a0_5 a0_6 a1_0 a1_1 a1_2 l1_3 l1_4 a1_5 a1_6) fun t => κ (.bool (t)) ⟨[], []⟩
  | _, _, _ => none
def E_69 : Env tau := mkE [(0, [(0, .agg [.any, .any, .any, .own 39, .own 82, .any, .any]), (1, .agg [.any, .any, .any, .own 39, .own 82, .any, .any])]), (1, [(2, .one .any), (3, .one .any)]), (2, []), (3, [(2, .one .any), (3, .one .any)]), (4, []), (5, [(2, .one .any), (3, .one .any)]), (6, []), (7, [])] [.one .any] ⟨0, 0⟩
noncomputable def c_75 (args : List (AV tau)) (m : Mem tau) (κ : AV tau → Mem tau → Option Unit) : Option Unit := match args, m.bx, m.rw with
  | [b0, b1], [], [] => bO (asSl 77 b0) fun l0 => bO (asSl 77 b1) fun l1 => callX (fun n => laws_eqEntryS.f n l0 l1) fun t => κ (.bool (t)) ⟨[], []⟩
  | _, _, _ => none
def E_75 : Env tau := mkE [(0, [(0, .one (.own 77)), (1, .one (.own 77))]), (1, [(0, .one (.own 77)), (1, .one (.own 77))]), (2, []), (3, [(0, .one (.own 77)), (1, .one (.own 77))]), (4, [(0, .one (.own 77)), (1, .one (.own 77)), (5, .one .any)]), (5, [(0, .one (.own 77)), (1, .one (.own 77)), (5, .one .any)]), (6, [(0, .one (.own 77)), (1, .one (.own 77)), (5, .one .any)]), (7, []), (8, [])] [.one .any] ⟨0, 0⟩
noncomputable def c_142 (args : List (AV tau)) (m : Mem tau) (κ : AV tau → Mem tau → Option Unit) : Option Unit := match args, m.bx, m.rw with
  | [b0, b1], [], [r0] => bO (asOwn 0 b0) fun _ => bO (asRow 39 r0) fun l0 => bO (asI .i64 b1) fun a1 => callX (fun n => laws_markReadS.f n l0 a1) fun t => κ (.int .i64 (t.1)) ⟨[], [some ⟨39, t.2, 0⟩]⟩
  | _, _, _ => none
def E_142 : Env tau := mkE [(0, [(0, .one (.own 39)), (1, .one .any)]), (1, [(0, .one (.own 39)), (1, .one .any)]), (2, [(0, .one (.own 39)), (1, .one .any), (5, .one .any)]), (3, [(0, .one (.own 39)), (1, .one .any), (5, .one .any)]), (4, [(0, .one (.own 39)), (1, .one .any), (5, .one .any)]), (5, [(0, .one (.own 39)), (1, .one .any), (5, .one .any)]), (6, [(0, .one (.own 39)), (1, .one .any), (5, .one .any)]), (7, [(0, .one (.own 39)), (1, .one .any), (5, .one .any)]), (8, [(1, .one .any)])] [.one .any] ⟨0, 1⟩
noncomputable def c_143 (args : List (AV tau)) (m : Mem tau) (κ : AV tau → Mem tau → Option Unit) : Option Unit := match args, m.bx, m.rw with
  | [b0, b1], [], [r0] => bO (asOwn 0 b0) fun _ => bO (asRow 82 r0) fun l0 => bO (asI .i64 b1) fun a1 => callX (fun n => laws_markPutS.f n l0 a1) fun t => κ (.int .i64 (t.1)) ⟨[], [some ⟨82, t.2, 0⟩]⟩
  | _, _, _ => none
def E_143 : Env tau := mkE [(0, [(0, .one (.own 82)), (1, .one .any)]), (1, [(0, .one (.own 82)), (1, .one .any)]), (2, [(0, .one (.own 82)), (1, .one .any), (5, .one .any)]), (3, [(0, .one (.own 82)), (1, .one .any), (5, .one .any)]), (4, [(0, .one (.own 82)), (1, .one .any), (5, .one .any)]), (5, [(0, .one (.own 82)), (1, .one .any), (5, .one .any)]), (6, [(0, .one (.own 82)), (1, .one .any), (5, .one .any)]), (7, [(0, .one (.own 82)), (1, .one .any), (5, .one .any)]), (8, [(1, .one .any)])] [.one .any] ⟨0, 1⟩
end Go.Proofs.Ytkkmhlfpombgfaa.PFnExactCertFold