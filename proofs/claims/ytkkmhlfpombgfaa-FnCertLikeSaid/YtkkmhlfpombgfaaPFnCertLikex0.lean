/- The machine's texts of FnCertLike (definitions, table, contracts). Conditions: none. -/
import Derived.Test.YtkkmhlfpombgfaaProg
import Derived.Test.YtkkmhlfpombgfaaSWFnCertLike
import Derived.Test.YtkkmhlfpombgfaaAm38
import Derived.RowKit
import Derived.KernelRfl
set_option linter.unusedVariables false
set_option maxRecDepth 100000
namespace Go.Proofs.Ytkkmhlfpombgfaa.PFnCertLike
open Go.RowKit Go.Proofs.YtkkmhlfpombgfaaW.PrintWords Go.Proofs.YtkkmhlfpombgfaaW.PrintLast Go.Proofs.YtkkmhlfpombgfaaW.PrintMore
def errW : Option Int → Value
  | none => .nilIface
  | some c => .iface 0 (.int .i64 c)
structure S39 where
  f0 : Int
  f1 : Int
def z39 : S39 := ⟨(0 : Int), (0 : Int)⟩
def rd_T39 (xs : List S39) (i : Int) : S39 := xs.getD i.toNat z39
structure S82 where
  f0 : Int
  f1 : Int
def z82 : S82 := ⟨(0 : Int), (0 : Int)⟩
def rd_T82 (xs : List S82) (i : Int) : S82 := xs.getD i.toNat z82
structure S75 where
  f0 : Int
  f1 : Int
def z75 : S75 := ⟨(0 : Int), (0 : Int)⟩
def rd_T75 (xs : List S75) (i : Int) : S75 := xs.getD i.toNat z75
def rd_L5 (xs : List (List S39)) (i : Int) : (List S39) := xs.getD i.toNat ([] : List S39)
def rd_L6 (xs : List (List S82)) (i : Int) : (List S82) := xs.getD i.toNat ([] : List S82)
structure S26 where
  f0 : (List S39)
  f1 : (List S82)
  f2 : Int
  f3 : Int
def z26 : S26 := ⟨([] : List S39), ([] : List S82), (0 : Int), (0 : Int)⟩
def rd_T26 (xs : List S26) (i : Int) : S26 := xs.getD i.toNat z26
structure S77 where
  f0 : Bool
  f1 : S75
  f2 : S26
def z77 : S77 := ⟨false, z75, z26⟩
def rd_T77 (xs : List S77) (i : Int) : S77 := xs.getD i.toNat z77
structure S37 where
  f0 : Int
  f1 : Int
def z37 : S37 := ⟨(0 : Int), (0 : Int)⟩
def rd_T37 (xs : List S37) (i : Int) : S37 := xs.getD i.toNat z37
structure S84 where
  f0 : S75
  f1 : Int
  f2 : Int
def z84 : S84 := ⟨z75, (0 : Int), (0 : Int)⟩
def rd_T84 (xs : List S84) (i : Int) : S84 := xs.getD i.toNat z84
structure S95 where
  f0 : Int
  f1 : Int
  f2 : Int
  f3 : Int
def z95 : S95 := ⟨(0 : Int), (0 : Int), (0 : Int), (0 : Int)⟩
def rd_T95 (xs : List S95) (i : Int) : S95 := xs.getD i.toNat z95
def impl_same_impl_Read.l0 : Nat → List (S39) → List (S39) → Int → Int → Option (Bool)
  | 0, _, _, _, _ => none
  | k + 1, x0, x1, x12, x13 => if x13 < x12 then (if 0 ≤ x13 then (if x13 < (x0.length : Int) then (if x13 < (x1.length : Int) then (if (!(((rd_T39 x0 x13).f0) == ((rd_T39 x1 x13).f0)) || (!(((rd_T39 x0 x13).f1) == ((rd_T39 x1 x13).f1)))) = true then (some false) else (impl_same_impl_Read.l0 k x0 x1 x12 (wrap64 (x13 + 1)))) else (none)) else (none)) else (none)) else (some true)
def impl_same_impl_Read.f (k : Nat) (l0 : List (S39)) (l1 : List (S39)) : Option (Bool) := if (l0.length : Int) = (l1.length : Int) then (impl_same_impl_Read.l0 k l0 l1 (l0.length : Int) 0) else (some false)
def impl_same_impl_Put.l0 : Nat → List (S82) → List (S82) → Int → Int → Option (Bool)
  | 0, _, _, _, _ => none
  | k + 1, x0, x1, x12, x13 => if x13 < x12 then (if 0 ≤ x13 then (if x13 < (x0.length : Int) then (if x13 < (x1.length : Int) then (if (!(((rd_T82 x0 x13).f0) == ((rd_T82 x1 x13).f0)) || (!(((rd_T82 x0 x13).f1) == ((rd_T82 x1 x13).f1)))) = true then (some false) else (impl_same_impl_Put.l0 k x0 x1 x12 (wrap64 (x13 + 1)))) else (none)) else (none)) else (none)) else (some true)
def impl_same_impl_Put.f (k : Nat) (l0 : List (S82)) (l1 : List (S82)) : Option (Bool) := if (l0.length : Int) = (l1.length : Int) then (impl_same_impl_Put.l0 k l0 l1 (l0.length : Int) 0) else (some false)
def impl_ExecSame.f (k : Nat) (l0_0 : List (S39)) (l0_1 : List (S82)) (a0_2 : Int) (a0_3 : Int) (l1_0 : List (S39)) (l1_1 : List (S82)) (a1_2 : Int) (a1_3 : Int) : Option (Bool) := (impl_same_impl_Read.f k l0_0 l1_0).bind fun t107 => (if t107 = true then ((impl_same_impl_Put.f k l0_1 l1_1).bind fun t108 => (if t108 = true then (if a0_2 = a1_2 then (some (a0_3 == a1_3)) else (some false)) else (some false))) else (some false))
def impl_CertLike.f (k : Nat) (a0_0 : Bool) (a0_1 : Int) (a0_2 : Int) (l0_3 : List (S39)) (l0_4 : List (S82)) (a0_5 : Int) (a0_6 : Int) (a1_0 : Bool) (a1_1 : Int) (a1_2 : Int) (l1_3 : List (S39)) (l1_4 : List (S82)) (a1_5 : Int) (a1_6 : Int) : Option (Bool) := if (a0_0 == a1_0) = true then (if (a0_1 == a1_1 && (a0_2 == a1_2)) = true then ((impl_ExecSame.f k l0_3 l0_4 a0_5 a0_6 l1_3 l1_4 a1_5 a1_6).bind fun t111 => (some t111)) else (some false)) else (some false)
def impl_in.f (a0 : Int) (a1 : Int) (a2 : Int) : Option (Bool) := if a0 ≥ a1 then (some (decide (a0 ≤ a2))) else (some false)
mutual
def impl_ExecOk.j0 : Nat → Bool → List (S39) → List (S82) → Int → Int → Option (Bool)
  | 0, _, _, _, _, _ => none
  | k + 1, x45, x113000, x113001, x113002, x113003 => if x45 = true then (some false) else (impl_ExecOk.l0 k x113000 (x113000.length : Int) 0 x113000 x113001 x113002 x113003 false false false false false false false false)
def impl_ExecOk.l0 : Nat → List (S39) → Int → Int → List (S39) → List (S82) → Int → Int → Bool → Bool → Bool → Bool → Bool → Bool → Bool → Bool → Option (Bool)
  | 0, _, _, _, _, _, _, _, _, _, _, _, _, _, _, _ => none
  | k + 1, x47, x48, x49, x113000, x113001, x113002, x113003, x116000, x116001, x116002, x116003, x117000, x117001, x117002, x117003 => if x49 < x48 then (if 0 ≤ x49 then (if x49 < (x47.length : Int) then ((impl_in.f ((rd_T39 x47 x49).f0) 0 3).bind fun t119 => (if t119 = true then (if 0 ≤ ((rd_T39 x47 x49).f0) then (if ((rd_T39 x47 x49).f0) < 4 then (if rdOf false [x116000, x116001, x116002, x116003] ((rd_T39 x47 x49).f0) = true then (some false) else ((impl_in.f ((rd_T39 x47 x49).f1) 0 1000000).bind fun t120 => (if t120 = true then (impl_ExecOk.l0 k x47 x48 (wrap64 (x49 + 1)) x113000 x113001 x113002 x113003 (ixB ((rd_T39 x47 x49).f0) 0 true x116000) (ixB ((rd_T39 x47 x49).f0) 1 true x116001) (ixB ((rd_T39 x47 x49).f0) 2 true x116002) (ixB ((rd_T39 x47 x49).f0) 3 true x116003) x117000 x117001 x117002 x117003) else (some false)))) else (none)) else (none)) else (some false))) else (none)) else (none)) else (impl_ExecOk.l1 k x113001 (x113001.length : Int) 0 x117000 x117001 x117002 x117003)
def impl_ExecOk.l1 : Nat → List (S82) → Int → Int → Bool → Bool → Bool → Bool → Option (Bool)
  | 0, _, _, _, _, _, _, _ => none
  | k + 1, x74, x75, x76, x117000, x117001, x117002, x117003 => if x76 < x75 then (if 0 ≤ x76 then (if x76 < (x74.length : Int) then ((impl_in.f ((rd_T82 x74 x76).f0) 0 3).bind fun t123 => (if t123 = true then (if 0 ≤ ((rd_T82 x74 x76).f0) then (if ((rd_T82 x74 x76).f0) < 4 then (if rdOf false [x117000, x117001, x117002, x117003] ((rd_T82 x74 x76).f0) = true then (some false) else ((impl_in.f ((rd_T82 x74 x76).f1) (-1000000) 1000000).bind fun t124 => (if t124 = true then (impl_ExecOk.l1 k x74 x75 (wrap64 (x76 + 1)) (ixB ((rd_T82 x74 x76).f0) 0 true x117000) (ixB ((rd_T82 x74 x76).f0) 1 true x117001) (ixB ((rd_T82 x74 x76).f0) 2 true x117002) (ixB ((rd_T82 x74 x76).f0) 3 true x117003)) else (some false)))) else (none)) else (none)) else (some false))) else (none)) else (none)) else (some true)
end
def impl_ExecOk.f (k : Nat) (l0_0 : List (S39)) (l0_1 : List (S82)) (a0_2 : Int) (a0_3 : Int) : Option (Bool) := (impl_in.f a0_3 0 3).bind fun t113 => (if t113 = true then ((impl_in.f a0_2 (-1000000) 1000000).bind fun t114 => (if t114 = true then (if a0_3 = 0 then (if a0_3 = 3 then (impl_ExecOk.j0 k (decide ((l0_0.length : Int) > 0)) l0_0 l0_1 a0_2 a0_3) else (impl_ExecOk.j0 k false l0_0 l0_1 a0_2 a0_3)) else (if a0_2 = 0 then (if (l0_1.length : Int) > 0 then (impl_ExecOk.j0 k true l0_0 l0_1 a0_2 a0_3) else (if a0_3 = 3 then (impl_ExecOk.j0 k (decide ((l0_0.length : Int) > 0)) l0_0 l0_1 a0_2 a0_3) else (impl_ExecOk.j0 k false l0_0 l0_1 a0_2 a0_3))) else (impl_ExecOk.j0 k true l0_0 l0_1 a0_2 a0_3))) else (impl_ExecOk.j0 k true l0_0 l0_1 a0_2 a0_3))) else (impl_ExecOk.j0 k true l0_0 l0_1 a0_2 a0_3))
def impl_reqOk.f (a0_0 : Int) (a0_1 : Int) : Option (Bool) := (impl_in.f a0_0 0 2).bind fun t126 => (if t126 = true then ((impl_in.f a0_1 1 1000).bind fun t127 => (some t127)) else (some false))
def impl_CertEntry.f (k : Nat) (a0_0 : Bool) (a0_1 : Int) (a0_2 : Int) (l0_3 : List (S39)) (l0_4 : List (S82)) (a0_5 : Int) (a0_6 : Int) : Option (Bool) := if a0_0 = true then ((impl_CertLike.f k a0_0 a0_1 a0_2 l0_3 l0_4 a0_5 a0_6 true 0 0 ([] : List (S39)) ([] : List (S82)) 0 0).bind fun t129 => (some t129)) else ((impl_reqOk.f a0_1 a0_2).bind fun t130 => (if t130 = true then ((impl_ExecOk.f k l0_3 l0_4 a0_5 a0_6).bind fun t131 => (if t131 = true then (some (a0_6 != 3)) else (some false))) else (some false)))
def impl_listOk.l0 : Nat → List (S77) → List (S77) → Int → Int → Option (Bool)
  | 0, _, _, _, _ => none
  | k + 1, x0, x5, x6, x7 => if x7 < x6 then (if 0 ≤ x7 then (if x7 < (x5.length : Int) then ((impl_CertEntry.f k ((rd_T77 x5 x7).f0) ((rd_T77 x5 x7).f1.f0) ((rd_T77 x5 x7).f1.f1) ((rd_T77 x5 x7).f2.f0) ((rd_T77 x5 x7).f2.f1) ((rd_T77 x5 x7).f2.f2) ((rd_T77 x5 x7).f2.f3)).bind fun t134 => (if t134 = true then (impl_listOk.l0 k x0 x5 x6 (wrap64 (x7 + 1))) else (some false))) else (none)) else (none)) else (some (decide ((x0.length : Int) ≤ 40)))
def impl_listOk.f (k : Nat) (l0 : List (S77)) : Option (Bool) := impl_listOk.l0 k l0 l0 (l0.length : Int) 0
def impl_BoxOk.l0 : Nat → List (S37) → List (S37) → Int → Int → Option (Bool)
  | 0, _, _, _, _ => none
  | k + 1, x0, x5, x6, x7 => if x7 < x6 then (if 0 ≤ x7 then (if x7 < (x5.length : Int) then ((impl_in.f ((rd_T37 x5 x7).f0) 0 1000000).bind fun t137 => (if t137 = true then ((impl_in.f ((rd_T37 x5 x7).f1) (-1000000) 1000000).bind fun t138 => (if t138 = true then (impl_BoxOk.l0 k x0 x5 x6 (wrap64 (x7 + 1))) else (some false))) else (some false))) else (none)) else (none)) else (some ((x0.length : Int) == 4))
def impl_BoxOk.f (k : Nat) (l0 : List (S37)) : Option (Bool) := impl_BoxOk.l0 k l0 l0 (l0.length : Int) 0
mutual
def impl_ExecFresh.j0 : Nat → List (S37) → Bool → List (S39) → List (S82) → Int → Int → Option (Bool)
  | 0, _, _, _, _, _, _ => none
  | k + 1, x0, x14, x140000, x140001, x140002, x140003 => if x14 = true then (some false) else (impl_ExecFresh.l0 k x0 x140000 (x140000.length : Int) 0)
def impl_ExecFresh.l0 : Nat → List (S37) → List (S39) → Int → Int → Option (Bool)
  | 0, _, _, _, _ => none
  | k + 1, x0, x16, x17, x18 => if x18 < x17 then (if 0 ≤ x18 then (if x18 < (x16.length : Int) then (if 0 ≤ ((rd_T39 x16 x18).f0) then (if ((rd_T39 x16 x18).f0) < (x0.length : Int) then (if ((rd_T37 x0 ((rd_T39 x16 x18).f0)).f0) = ((rd_T39 x16 x18).f1) then (impl_ExecFresh.l0 k x0 x16 x17 (wrap64 (x18 + 1))) else (some false)) else (none)) else (none)) else (none)) else (none)) else (some true)
end
def impl_ExecFresh.f (k : Nat) (l0 : List (S37)) (l1_0 : List (S39)) (l1_1 : List (S82)) (a1_2 : Int) (a1_3 : Int) : Option (Bool) := (impl_BoxOk.f k l0).bind fun t140 => (if t140 = true then ((impl_ExecOk.f k l1_0 l1_1 a1_2 a1_3).bind fun t141 => (impl_ExecFresh.j0 k l0 (!t141) l1_0 l1_1 a1_2 a1_3)) else (impl_ExecFresh.j0 k l0 true l1_0 l1_1 a1_2 a1_3))
mutual
def impl_CertOk.l0 : Nat → List (S84) → Int → Int → Int → List (S37) → List (S84) → Option (Bool)
 | 0, _, _, _, _, _, _ => none
 | k + 1, x6, x7, x8, x146000, x146001, x146002 => if x8 < x7 then (if 0 ≤ x8 then (if x8 < (x6.length : Int) then (if x8 > 0 then (if 0 ≤ (wrap64 (x8 - 1)) then (if (wrap64 (x8 - 1)) < (x146002.length : Int) then (if ((rd_T84 x146002 (wrap64 (x8 - 1))).f0.f0) ≥ ((rd_T84 x6 x8).f0.f0) then (impl_CertOk.j1 k x6 x7 x8 true x146000 x146001 x146002) else ((impl_reqOk.f ((rd_T84 x6 x8).f0.f0) ((rd_T84 x6 x8).f0.f1)).bind fun t149 => (if t149 = true then ((impl_in.f ((rd_T84 x6 x8).f1) 0 2).bind fun t150 => (if t150 = true then ((impl_in.f ((rd_T84 x6 x8).f2) (-1000000) 1000000).bind fun t151 => (if t151 = true then (if ((rd_T84 x6 x8).f1) = 0 then (impl_CertOk.j1 k x6 x7 x8 false x146000 x146001 x146002) else (impl_CertOk.j1 k x6 x7 x8 (((rd_T84 x6 x8).f2) != 0) x146000 x146001 x146002)) else (impl_CertOk.j1 k x6 x7 x8 true x146000 x146001 x146002))) else (impl_CertOk.j1 k x6 x7 x8 true x146000 x146001 x146002))) else (impl_CertOk.j1 k x6 x7 x8 true x146000 x146001 x146002)))) else (none)) else (none)) else ((impl_reqOk.f ((rd_T84 x6 x8).f0.f0) ((rd_T84 x6 x8).f0.f1)).bind fun t152 => (if t152 = true then ((impl_in.f ((rd_T84 x6 x8).f1) 0 2).bind fun t153 => (if t153 = true then ((impl_in.f ((rd_T84 x6 x8).f2) (-1000000) 1000000).bind fun t154 => (if t154 = true then (if ((rd_T84 x6 x8).f1) = 0 then (impl_CertOk.j1 k x6 x7 x8 false x146000 x146001 x146002) else (impl_CertOk.j1 k x6 x7 x8 (((rd_T84 x6 x8).f2) != 0) x146000 x146001 x146002)) else (impl_CertOk.j1 k x6 x7 x8 true x146000 x146001 x146002))) else (impl_CertOk.j1 k x6 x7 x8 true x146000 x146001 x146002))) else (impl_CertOk.j1 k x6 x7 x8 true x146000 x146001 x146002)))) else (none)) else (none)) else ((impl_in.f x146000 0 40).bind fun t155 => (if t155 = true then ((impl_BoxOk.f k x146001).bind fun t156 => (some t156)) else (some false)))
def impl_CertOk.j1 : Nat → List (S84) → Int → Int → Bool → Int → List (S37) → List (S84) → Option (Bool)
 | 0, _, _, _, _, _, _, _ => none
 | k + 1, x6, x7, x8, x56, x146000, x146001, x146002 => if x56 = true then (some false) else (impl_CertOk.l0 k x6 x7 (wrap64 (x8 + 1)) x146000 x146001 x146002)
end
def impl_CertOk.f (k : Nat) (a0_0 : Int) (l0_1 : List (S37)) (l0_2 : List (S84)) : Option (Bool) := impl_CertOk.l0 k l0_2 (l0_2.length : Int) 0 a0_0 l0_1 l0_2
def impl_copied_impl_Box.f (l0 : List (S37)) : Option (List (S37)) := if l0.length ≤ 17592186044416 then some l0 else none
def impl_copied_impl_Done.f (l0 : List (S84)) : Option (List (S84)) := if l0.length ≤ 8796093022208 then some l0 else none
mutual
def impl_ExecDo.j0 : Nat → List (S37) → Bool → List (S39) → List (S82) → Int → Int → Option ((List (S37)))
  | 0, _, _, _, _, _, _ => none
  | k + 1, x0, x15, x158000, x158001, x158002, x158003 => if x15 = true then (some ([] : List (S37))) else ((impl_copied_impl_Box.f x0).bind fun t160 => (impl_ExecDo.l0 k t160 x158001 (x158001.length : Int) 0))
def impl_ExecDo.l0 : Nat → List (S37) → List (S82) → Int → Int → Option ((List (S37)))
  | 0, _, _, _, _ => none
  | k + 1, x5, x19, x20, x21 => if x21 < x20 then (if 0 ≤ x21 then (if x21 < (x19.length : Int) then (if 0 ≤ ((rd_T82 x19 x21).f0) then (if ((rd_T82 x19 x21).f0) < (x5.length : Int) then (impl_ExecDo.l0 k (x5.set (((rd_T82 x19 x21).f0) : Int).toNat (⟨mn 1000000 (wrap64 (((rd_T37 x5 ((rd_T82 x19 x21).f0)).f0) + 1)), (rd_T82 x19 x21).f1⟩ : S37)) x19 x20 (wrap64 (x21 + 1))) else (none)) else (none)) else (none)) else (none)) else (some x5)
end
def impl_ExecDo.f (k : Nat) (l0 : List (S37)) (l1_0 : List (S39)) (l1_1 : List (S82)) (a1_2 : Int) (a1_3 : Int) : Option ((List (S37))) := (impl_BoxOk.f k l0).bind fun t158 => (if t158 = true then ((impl_ExecOk.f k l1_0 l1_1 a1_2 a1_3).bind fun t159 => (impl_ExecDo.j0 k l0 (!t159) l1_0 l1_1 a1_2 a1_3)) else (impl_ExecDo.j0 k l0 true l1_0 l1_1 a1_2 a1_3))
mutual
def impl_CertApply.j0 : Nat → Bool → Int → List (S37) → List (S84) → Bool → Int → Int → List (S39) → List (S82) → Int → Int → Option (Int × (List (S37)) × (List (S84)) × Int)
 | 0, _, _, _, _, _, _, _, _, _, _, _ => none
 | k + 1, x26, x168000, x168001, x168002, x169000, x169001, x169002, x169003, x169004, x169005, x169006 => if x26 = true then (some (0, ([] : List (S37)), ([] : List (S84)), (-1))) else ((impl_copied_impl_Box.f x168001).bind fun t172 => (if x169000 = true then ((impl_copied_impl_Done.f x168002).bind fun t176 => (some (wrap64 (x168000 + 1), t172, t176, 5))) else (impl_CertApply.l0 k x168002 (x168002.length : Int) 0 x168000 x168001 x168002 x169000 x169001 x169002 x169003 x169004 x169005 x169006 (wrap64 (x168000 + 1)) t172)))
def impl_CertApply.l0 : Nat → List (S84) → Int → Int → Int → List (S37) → List (S84) → Bool → Int → Int → List (S39) → List (S82) → Int → Int → Int → List (S37) → Option (Int × (List (S37)) × (List (S84)) × Int)
 | 0, _, _, _, _, _, _, _, _, _, _, _, _, _, _, _ => none
 | k + 1, x43, x44, x45, x168000, x168001, x168002, x169000, x169001, x169002, x169003, x169004, x169005, x169006, x176000, x176001 => if x45 < x44 then (if 0 ≤ x45 then (if x45 < (x43.length : Int) then (if ((rd_T84 x43 x45).f0.f0) = x169001 then (impl_CertApply.j2 k x43 x44 x45 (decide (((rd_T84 x43 x45).f0.f1) ≥ x169002)) x168000 x168001 x168002 x169000 x169001 x169002 x169003 x169004 x169005 x169006 x176000 x176001 ((rd_T84 x43 x45).f0.f0) ((rd_T84 x43 x45).f0.f1) ((rd_T84 x43 x45).f1) ((rd_T84 x43 x45).f2)) else (impl_CertApply.j2 k x43 x44 x45 false x168000 x168001 x168002 x169000 x169001 x169002 x169003 x169004 x169005 x169006 x176000 x176001 ((rd_T84 x43 x45).f0.f0) ((rd_T84 x43 x45).f0.f1) ((rd_T84 x43 x45).f1) ((rd_T84 x43 x45).f2))) else (none)) else (none)) else ((impl_ExecFresh.f k x168001 x169003 x169004 x169005 x169006).bind fun t185 => (if t185 = true then (if x169006 = 0 then ((impl_ExecDo.f k x168001 x169003 x169004 x169005 x169006).bind fun t186 => (impl_CertApply.j3 k x168000 x168001 x168002 x176000 t186 x169001 x169002 0 x169005)) else (impl_CertApply.j3 k x168000 x168001 x168002 x176000 x176001 x169001 x169002 2 0)) else (impl_CertApply.j3 k x168000 x168001 x168002 x176000 x176001 x169001 x169002 1 0)))
def impl_CertApply.j2 : Nat → List (S84) → Int → Int → Bool → Int → List (S37) → List (S84) → Bool → Int → Int → List (S39) → List (S82) → Int → Int → Int → List (S37) → Int → Int → Int → Int → Option (Int × (List (S37)) × (List (S84)) × Int)
 | 0, _, _, _, _, _, _, _, _, _, _, _, _, _, _, _, _, _, _, _, _ => none
 | k + 1, x43, x44, x45, x64, x168000, x168001, x168002, x169000, x169001, x169002, x169003, x169004, x169005, x169006, x176000, x176001, x181000, x181001, x181002, x181003 => if x64 = true then ((impl_copied_impl_Done.f x168002).bind fun t181 => (if x181001 = x169002 then (some (x176000, x176001, t181, 3)) else (some (x176000, x176001, t181, 4)))) else (impl_CertApply.l0 k x43 x44 (wrap64 (x45 + 1)) x168000 x168001 x168002 x169000 x169001 x169002 x169003 x169004 x169005 x169006 x176000 x176001)
def impl_CertApply.j3 : Nat → Int → List (S37) → List (S84) → Int → List (S37) → Int → Int → Int → Int → Option (Int × (List (S37)) × (List (S84)) × Int)
 | 0, _, _, _, _, _, _, _, _, _ => none
 | k + 1, x168000, x168001, x168002, x176000, x176001, x185000, x185001, x185002, x185003 => impl_CertApply.l1 k ([] : List (S84)) false x168002 (x168002.length : Int) 0 x176000 x176001 x185000 x185001 x185002 x185003
def impl_CertApply.l1 : Nat → List (S84) → Bool → List (S84) → Int → Int → Int → List (S37) → Int → Int → Int → Int → Option (Int × (List (S37)) × (List (S84)) × Int)
 | 0, _, _, _, _, _, _, _, _, _, _, _ => none
 | k + 1, x10, x11, x107, x108, x109, x176000, x176001, x185000, x185001, x185002, x185003 => if x109 < x108 then (if 0 ≤ x109 then (if x109 < (x107.length : Int) then (if x11 = true then (impl_CertApply.j5 k x10 x11 x107 x108 x109 false x176000 x176001 x185000 x185001 x185002 x185003 ((rd_T84 x107 x109).f0.f0) ((rd_T84 x107 x109).f0.f1) ((rd_T84 x107 x109).f1) ((rd_T84 x107 x109).f2)) else (impl_CertApply.j5 k x10 x11 x107 x108 x109 (decide (((rd_T84 x107 x109).f0.f0) ≥ x185000)) x176000 x176001 x185000 x185001 x185002 x185003 ((rd_T84 x107 x109).f0.f0) ((rd_T84 x107 x109).f0.f1) ((rd_T84 x107 x109).f1) ((rd_T84 x107 x109).f2))) else (none)) else (none)) else (if x11 = true then ((impl_copied_impl_Done.f x10).bind fun t189 => (some (x176000, x176001, t189, x185002))) else (if x10.length < 4398046511104 then ((impl_copied_impl_Done.f (x10 ++ [(⟨(⟨x185000, x185001⟩ : S75), x185002, x185003⟩ : S84)])).bind fun t195 => (some (x176000, x176001, t195, x185002))) else (none)))
def impl_CertApply.j5 : Nat → List (S84) → Bool → List (S84) → Int → Int → Bool → Int → List (S37) → Int → Int → Int → Int → Int → Int → Int → Int → Option (Int × (List (S37)) × (List (S84)) × Int)
 | 0, _, _, _, _, _, _, _, _, _, _, _, _, _, _, _, _ => none
 | k + 1, x10, x11, x107, x108, x109, x123, x176000, x176001, x185000, x185001, x185002, x185003, x200000, x200001, x200002, x200003 => if x123 = true then (if x10.length < 4398046511104 then ((some (x10 ++ [(⟨(⟨x185000, x185001⟩ : S75), x185002, x185003⟩ : S84)] : List (S84))).bind fun y200 => (if x200000 = x185000 then (impl_CertApply.l1 k y200 true x107 x108 (wrap64 (x109 + 1)) x176000 x176001 x185000 x185001 x185002 x185003) else (if y200.length < 4398046511104 then (impl_CertApply.l1 k (y200 ++ [(⟨(⟨x200000, x200001⟩ : S75), x200002, x200003⟩ : S84)]) true x107 x108 (wrap64 (x109 + 1)) x176000 x176001 x185000 x185001 x185002 x185003) else (none)))) else (none)) else (if x200000 = x185000 then (impl_CertApply.l1 k x10 x11 x107 x108 (wrap64 (x109 + 1)) x176000 x176001 x185000 x185001 x185002 x185003) else (if x10.length < 4398046511104 then (impl_CertApply.l1 k (x10 ++ [(⟨(⟨x200000, x200001⟩ : S75), x200002, x200003⟩ : S84)]) x11 x107 x108 (wrap64 (x109 + 1)) x176000 x176001 x185000 x185001 x185002 x185003) else (none)))
end
def impl_CertApply.f (k : Nat) (a0_0 : Int) (l0_1 : List (S37)) (l0_2 : List (S84)) (a1_0 : Bool) (a1_1 : Int) (a1_2 : Int) (l1_3 : List (S39)) (l1_4 : List (S82)) (a1_5 : Int) (a1_6 : Int) : Option (Int × (List (S37)) × (List (S84)) × Int) := (impl_CertOk.f k a0_0 l0_1 l0_2).bind fun t170 => (if t170 = true then ((impl_CertEntry.f k a1_0 a1_1 a1_2 l1_3 l1_4 a1_5 a1_6).bind fun t171 => (if t171 = true then (impl_CertApply.j0 k (a0_0 == 40) a0_0 l0_1 l0_2 a1_0 a1_1 a1_2 l1_3 l1_4 a1_5 a1_6) else (impl_CertApply.j0 k true a0_0 l0_1 l0_2 a1_0 a1_1 a1_2 l1_3 l1_4 a1_5 a1_6))) else (impl_CertApply.j0 k true a0_0 l0_1 l0_2 a1_0 a1_1 a1_2 l1_3 l1_4 a1_5 a1_6))
def impl_BoxOpen.f  : Option ((List (S37))) := if 4 ≤ 17592186044416 then (some (List.replicate 4 z37)) else (none)
def impl_CertOpen.f  : Option (Int × (List (S37)) × (List (S84))) := (impl_BoxOpen.f).bind fun t213 => (some (0, t213, ([] : List (S84))))
def impl_folded.l0 : Nat → List Int → List (S77) → Int → Int → Int → List (S37) → List (S84) → Option (Int × (List (S37)) × (List (S84)) × List Int)
  | 0, _, _, _, _, _, _, _ => none
  | k + 1, x5, x11, x12, x13, x225000, x225001, x225002 => if x13 < x12 then (if 0 ≤ x13 then (if x13 < (x11.length : Int) then ((impl_CertApply.f k x225000 x225001 x225002 ((rd_T77 x11 x13).f0) ((rd_T77 x11 x13).f1.f0) ((rd_T77 x11 x13).f1.f1) ((rd_T77 x11 x13).f2.f0) ((rd_T77 x11 x13).f2.f1) ((rd_T77 x11 x13).f2.f2) ((rd_T77 x11 x13).f2.f3)).bind fun bt227 => (if x5.length < 17592186044416 then (impl_folded.l0 k (x5 ++ [bt227.2.2.2]) x11 x12 (wrap64 (x13 + 1)) bt227.1 bt227.2.1 bt227.2.2.1) else (none))) else (none)) else (none)) else (some (x225000, x225001, x225002, x5))
def impl_folded.f (k : Nat) (l0 : List (S77)) : Option (Int × (List (S37)) × (List (S84)) × List Int) := (impl_CertOpen.f).bind fun bt217 => (impl_folded.l0 k ([] : List Int) l0 (l0.length : Int) 0 bt217.1 bt217.2.1 bt217.2.2)
def impl_CertFold.f (k : Nat) (l0 : List (S77)) : Option (Int × (List (S37)) × (List (S84))) := (impl_listOk.f k l0).bind fun t240 => (if t240 = true then ((impl_folded.f k l0).bind fun bt241 => (some (bt241.1, bt241.2.1, bt241.2.2.1))) else (some (0, ([] : List (S37)), ([] : List (S84)))))
def impl_same_impl_Box.l0 : Nat → List (S37) → List (S37) → Int → Int → Option (Bool)
  | 0, _, _, _, _ => none
  | k + 1, x0, x1, x12, x13 => if x13 < x12 then (if 0 ≤ x13 then (if x13 < (x0.length : Int) then (if x13 < (x1.length : Int) then (if (!(((rd_T37 x0 x13).f0) == ((rd_T37 x1 x13).f0)) || (!(((rd_T37 x0 x13).f1) == ((rd_T37 x1 x13).f1)))) = true then (some false) else (impl_same_impl_Box.l0 k x0 x1 x12 (wrap64 (x13 + 1)))) else (none)) else (none)) else (none)) else (some true)
def impl_same_impl_Box.f (k : Nat) (l0 : List (S37)) (l1 : List (S37)) : Option (Bool) := if (l0.length : Int) = (l1.length : Int) then (impl_same_impl_Box.l0 k l0 l1 (l0.length : Int) 0) else (some false)
def impl_BoxSame.f (k : Nat) (l0 : List (S37)) (l1 : List (S37)) : Option (Bool) := (impl_same_impl_Box.f k l0 l1).bind fun t254 => (some t254)
def impl_same_impl_Done.l0 : Nat → List (S84) → List (S84) → Int → Int → Option (Bool)
  | 0, _, _, _, _ => none
  | k + 1, x0, x1, x12, x13 => if x13 < x12 then (if 0 ≤ x13 then (if x13 < (x0.length : Int) then (if x13 < (x1.length : Int) then (if ((!(((rd_T84 x0 x13).f0.f0) == ((rd_T84 x1 x13).f0.f0)) || (!(((rd_T84 x0 x13).f0.f1) == ((rd_T84 x1 x13).f0.f1)))) || (!(((rd_T84 x0 x13).f1) == ((rd_T84 x1 x13).f1)) || (!(((rd_T84 x0 x13).f2) == ((rd_T84 x1 x13).f2))))) = true then (some false) else (impl_same_impl_Done.l0 k x0 x1 x12 (wrap64 (x13 + 1)))) else (none)) else (none)) else (none)) else (some true)
def impl_same_impl_Done.f (k : Nat) (l0 : List (S84)) (l1 : List (S84)) : Option (Bool) := if (l0.length : Int) = (l1.length : Int) then (impl_same_impl_Done.l0 k l0 l1 (l0.length : Int) 0) else (some false)
def impl_CertSame.f (k : Nat) (a0_0 : Int) (l0_1 : List (S37)) (l0_2 : List (S84)) (a1_0 : Int) (l1_1 : List (S37)) (l1_2 : List (S84)) : Option (Bool) := if a0_0 = a1_0 then ((impl_BoxSame.f k l0_1 l1_1).bind fun t259 => (if t259 = true then ((impl_same_impl_Done.f k l0_2 l1_2).bind fun t260 => (some t260)) else (some false))) else (some false)
mutual
def spec_ExecSame.j0 : Nat → Bool → List (S39) → List (S82) → Int → Int → List (S39) → List (S82) → Int → Int → Option (Bool)
  | 0, _, _, _, _, _, _, _, _, _ => none
  | k + 1, x36, x262000, x262001, x262002, x262003, x263000, x263001, x263002, x263003 => if x36 = true then (some false) else (spec_ExecSame.l0 k 0 x262000 x262001 x262002 x262003 x263000 x263001 x263002 x263003)
def spec_ExecSame.l0 : Nat → Int → List (S39) → List (S82) → Int → Int → List (S39) → List (S82) → Int → Int → Option (Bool)
  | 0, _, _, _, _, _, _, _, _, _ => none
  | k + 1, x5, x262000, x262001, x262002, x262003, x263000, x263001, x263002, x263003 => if x5 < (x262000.length : Int) then (if 0 ≤ x5 then (if x5 < (x263000.length : Int) then (if (!(((rd_T39 x262000 x5).f0) == ((rd_T39 x263000 x5).f0)) || (!(((rd_T39 x262000 x5).f1) == ((rd_T39 x263000 x5).f1)))) = true then (some false) else (spec_ExecSame.l0 k (wrap64 (x5 + 1)) x262000 x262001 x262002 x262003 x263000 x263001 x263002 x263003)) else (none)) else (none)) else (spec_ExecSame.l1 k 0 x262000 x262001 x262002 x262003 x263000 x263001 x263002 x263003)
def spec_ExecSame.l1 : Nat → Int → List (S39) → List (S82) → Int → Int → List (S39) → List (S82) → Int → Int → Option (Bool)
  | 0, _, _, _, _, _, _, _, _, _ => none
  | k + 1, x6, x262000, x262001, x262002, x262003, x263000, x263001, x263002, x263003 => if x6 < (x262001.length : Int) then (if 0 ≤ x6 then (if x6 < (x263001.length : Int) then (if (!(((rd_T82 x262001 x6).f0) == ((rd_T82 x263001 x6).f0)) || (!(((rd_T82 x262001 x6).f1) == ((rd_T82 x263001 x6).f1)))) = true then (some false) else (spec_ExecSame.l1 k (wrap64 (x6 + 1)) x262000 x262001 x262002 x262003 x263000 x263001 x263002 x263003)) else (none)) else (none)) else (some true)
end
def spec_ExecSame.f (k : Nat) (l0_0 : List (S39)) (l0_1 : List (S82)) (a0_2 : Int) (a0_3 : Int) (l1_0 : List (S39)) (l1_1 : List (S82)) (a1_2 : Int) (a1_3 : Int) : Option (Bool) := if a0_2 = a1_2 then (if a0_3 = a1_3 then (if (l0_0.length : Int) = (l1_0.length : Int) then (spec_ExecSame.j0 k ((l0_1.length : Int) != (l1_1.length : Int)) l0_0 l0_1 a0_2 a0_3 l1_0 l1_1 a1_2 a1_3) else (spec_ExecSame.j0 k true l0_0 l0_1 a0_2 a0_3 l1_0 l1_1 a1_2 a1_3)) else (spec_ExecSame.j0 k true l0_0 l0_1 a0_2 a0_3 l1_0 l1_1 a1_2 a1_3)) else (spec_ExecSame.j0 k true l0_0 l0_1 a0_2 a0_3 l1_0 l1_1 a1_2 a1_3)
def spec_l1Num.f (a0 : Int) : Option (Bool) := if a0 ≥ (-1000000) then (some (decide (a0 ≤ 1000000))) else (some false)
def spec_l2Box.f (a0 : Int) : Option (Bool) := if a0 ≥ 0 then (some (decide (a0 < 4))) else (some false)
def spec_l3Saw.l0 : Nat → List (S39) → Int → Int → Option (Bool)
  | 0, _, _, _ => none
  | k + 1, x0, x1, x5 => if x5 < (x0.length : Int) then (if 0 ≤ x5 then (if ((rd_T39 x0 x5).f0) = x1 then (some true) else (spec_l3Saw.l0 k x0 x1 (wrap64 (x5 + 1)))) else (none)) else (some false)
def spec_l3Saw.f (k : Nat) (l0 : List (S39)) (a1 : Int) : Option (Bool) := spec_l3Saw.l0 k l0 a1 0
def spec_l3At.l0 : Nat → List (S82) → Int → Int → Option (Int)
  | 0, _, _, _ => none
  | k + 1, x0, x1, x5 => if x5 < (x0.length : Int) then (if 0 ≤ x5 then (if ((rd_T82 x0 x5).f0) = x1 then (some x5) else (spec_l3At.l0 k x0 x1 (wrap64 (x5 + 1)))) else (none)) else (some (-1))
def spec_l3At.f (k : Nat) (l0 : List (S82)) (a1 : Int) : Option (Int) := spec_l3At.l0 k l0 a1 0
mutual
def spec_ExecOk.j0 : Nat → Bool → List (S39) → List (S82) → Int → Int → Option (Bool)
  | 0, _, _, _, _, _ => none
  | k + 1, x45, x270000, x270001, x270002, x270003 => if x45 = true then (some false) else (spec_ExecOk.l0 k 0 x270000 x270001 x270002 x270003)
def spec_ExecOk.l0 : Nat → Int → List (S39) → List (S82) → Int → Int → Option (Bool)
  | 0, _, _, _, _, _ => none
  | k + 1, x3, x270000, x270001, x270002, x270003 => if x3 < (x270000.length : Int) then (if 0 ≤ x3 then ((spec_l2Box.f ((rd_T39 x270000 x3).f0)).bind fun t272 => (if t272 = true then (if ((rd_T39 x270000 x3).f1) < 0 then (some false) else (if ((rd_T39 x270000 x3).f1) > 1000000 then (some false) else (if x3 ≤ (x270000.length : Int) then ((spec_l3Saw.f k (x270000.take (x3 : Int).toNat) ((rd_T39 x270000 x3).f0)).bind fun t280 => (if t280 = true then (some false) else (spec_ExecOk.l0 k (wrap64 (x3 + 1)) x270000 x270001 x270002 x270003))) else (none)))) else (some false))) else (none)) else (spec_ExecOk.l1 k 0 x270000 x270001 x270002 x270003)
def spec_ExecOk.l1 : Nat → Int → List (S39) → List (S82) → Int → Int → Option (Bool)
  | 0, _, _, _, _, _ => none
  | k + 1, x4, x270000, x270001, x270002, x270003 => if x4 < (x270001.length : Int) then (if 0 ≤ x4 then ((spec_l2Box.f ((rd_T82 x270001 x4).f0)).bind fun t282 => (if t282 = true then ((spec_l1Num.f ((rd_T82 x270001 x4).f1)).bind fun t284 => (if t284 = true then (if x4 ≤ (x270001.length : Int) then ((spec_l3At.f k (x270001.take (x4 : Int).toNat) ((rd_T82 x270001 x4).f0)).bind fun t290 => (if t290 ≥ 0 then (some false) else (spec_ExecOk.l1 k (wrap64 (x4 + 1)) x270000 x270001 x270002 x270003))) else (none)) else (some false))) else (some false))) else (none)) else (some true)
end
def spec_ExecOk.f (k : Nat) (l0_0 : List (S39)) (l0_1 : List (S82)) (a0_2 : Int) (a0_3 : Int) : Option (Bool) := if a0_3 < 0 then (spec_ExecOk.j0 k true l0_0 l0_1 a0_2 a0_3) else (if a0_3 > 3 then (spec_ExecOk.j0 k true l0_0 l0_1 a0_2 a0_3) else ((spec_l1Num.f a0_2).bind fun t270 => (if t270 = true then (if a0_3 = 0 then (if a0_3 = 3 then (spec_ExecOk.j0 k (decide ((l0_0.length : Int) > 0)) l0_0 l0_1 a0_2 a0_3) else (spec_ExecOk.j0 k false l0_0 l0_1 a0_2 a0_3)) else (if a0_2 = 0 then (if (l0_1.length : Int) > 0 then (spec_ExecOk.j0 k true l0_0 l0_1 a0_2 a0_3) else (if a0_3 = 3 then (spec_ExecOk.j0 k (decide ((l0_0.length : Int) > 0)) l0_0 l0_1 a0_2 a0_3) else (spec_ExecOk.j0 k false l0_0 l0_1 a0_2 a0_3))) else (spec_ExecOk.j0 k true l0_0 l0_1 a0_2 a0_3))) else (spec_ExecOk.j0 k true l0_0 l0_1 a0_2 a0_3))))
def spec_l5Req.f (a0_0 : Int) (a0_1 : Int) : Option (Bool) := if a0_0 ≥ 0 then (if a0_0 < 3 then (if a0_1 ≥ 1 then (some (decide (a0_1 ≤ 1000))) else (some false)) else (some false)) else (some false)
def spec_CertEntry.f (k : Nat) (a0_0 : Bool) (a0_1 : Int) (a0_2 : Int) (l0_3 : List (S39)) (l0_4 : List (S82)) (a0_5 : Int) (a0_6 : Int) : Option (Bool) := if a0_0 = true then (if (a0_1 == 0 && (a0_2 == 0)) = true then ((spec_ExecSame.f k l0_3 l0_4 a0_5 a0_6 ([] : List (S39)) ([] : List (S82)) 0 0).bind fun t293 => (some t293)) else (some false)) else ((spec_l5Req.f a0_1 a0_2).bind fun t294 => (if t294 = true then ((spec_ExecOk.f k l0_3 l0_4 a0_5 a0_6).bind fun t295 => (if t295 = true then (some (a0_6 != 3)) else (some false))) else (some false)))
def spec_l15Open.f (l0 : List Int) : Option (List Int × Int) := if (l0.length : Int) > 2000 then (if 2000 ≤ (l0.length : Int) then (some (l0.take 2000, 0)) else (none)) else (some (l0, 0))
def spec_l15Rd_pick.j0 : Nat → Int → Bool → List Int → Int → Option (Int × Int)
  | 0, _, _, _, _ => none
  | k + 1, x1, x24, x1000, x1001 => if x24 = true then (some (0, x1001)) else (if (wrap64 (x1001 - 1)) < (x1000.length : Int) then (if 0 ≤ (wrap64 (x1001 - 1)) then (if x1 = 0 then (none) else (some (Int.tmod (wrap64 (rd x1000 (wrap64 (x1001 - 1)))) x1, x1001))) else (none)) else (if (x1000.length : Int) = 0 then (none) else (if 0 ≤ (Int.tmod (wrap64 (x1001 - 1)) (x1000.length : Int)) then (if (Int.tmod (wrap64 (x1001 - 1)) (x1000.length : Int)) < (x1000.length : Int) then (if 0 ≤ (Int.tmod (wrap64 ((wrap64 ((wrap64 (x1001 - 1)) * 7)) + 3)) (x1000.length : Int)) then (if (Int.tmod (wrap64 ((wrap64 ((wrap64 (x1001 - 1)) * 7)) + 3)) (x1000.length : Int)) < (x1000.length : Int) then (if x1 = 0 then (none) else (some (Int.tmod (Go.bits .xor .i64 (wrap64 ((wrap64 ((wrap64 ((wrap64 ((wrap64 (rd x1000 (Int.tmod (wrap64 (x1001 - 1)) (x1000.length : Int)))) * 131)) + (wrap64 ((wrap64 (rd x1000 (Int.tmod (wrap64 ((wrap64 ((wrap64 (x1001 - 1)) * 7)) + 3)) (x1000.length : Int)))) * 1117)))) + (wrap64 ((wrap64 (x1001 - 1)) * 29)))) + (wrap64 ((wrap64 (Int.tdiv (wrap64 (x1001 - 1)) (x1000.length : Int))) * 53)))) (wrap64 (Int.tdiv (wrap64 ((wrap64 ((wrap64 ((wrap64 ((wrap64 (rd x1000 (Int.tmod (wrap64 (x1001 - 1)) (x1000.length : Int)))) * 131)) + (wrap64 ((wrap64 (rd x1000 (Int.tmod (wrap64 ((wrap64 ((wrap64 (x1001 - 1)) * 7)) + 3)) (x1000.length : Int)))) * 1117)))) + (wrap64 ((wrap64 (x1001 - 1)) * 29)))) + (wrap64 ((wrap64 (Int.tdiv (wrap64 (x1001 - 1)) (x1000.length : Int))) * 53)))) 64))) x1, x1001))) else (none)) else (none)) else (none)) else (none))))
def spec_l15Rd_pick.f (k : Nat) (s0_0 : List Int) (s0_1 : Int) (a1 : Int) : Option (Int × Int) := if a1 < 1 then (spec_l15Rd_pick.j0 k a1 true s0_0 (wrap64 (s0_1 + 1))) else (spec_l15Rd_pick.j0 k a1 ((s0_0.length : Int) == 0) s0_0 (wrap64 (s0_1 + 1)))
def spec_l15Rd_num.f (k : Nat) (s0_0 : List Int) (s0_1 : Int) (l1 : List Int) : Option (Int × Int) := (spec_l15Rd_pick.f k s0_0 s0_1 (l1.length : Int)).bind fun bt302 => (if 0 ≤ bt302.1 then (if bt302.1 < (l1.length : Int) then (some (rd l1 bt302.1, bt302.2)) else (none)) else (none))
def spec_BoxOpen.f  : Option ((List (S37))) := if 4 ≤ 17592186044416 then (some (List.replicate 4 z37)) else (none)
def spec_l1Boxes.l0 : Nat → List (S37) → Int → List Int → Int → Option ((List (S37)) × Int)
  | 0, _, _, _, _ => none
  | k + 1, x3, x4, x1000, x1001 => if x4 < (x3.length : Int) then ((spec_l15Rd_pick.f k x1000 x1001 5).bind fun bt311 => ((spec_l15Rd_num.f k x1000 bt311.2 (([0, 1, 2, 5, (-3), 7, 100, 1000000, (-1000000)] : List Int))).bind fun bt316 => (if 0 ≤ x4 then (spec_l1Boxes.l0 k (x3.set (x4 : Int).toNat (⟨bt311.1, bt316.1⟩ : S37)) (wrap64 (x4 + 1)) x1000 bt316.2) else (none)))) else ((spec_l15Rd_pick.f k x1000 x1001 30).bind fun bt319 => (if bt319.1 = 0 then (if 3 ≤ (x3.length : Int) then (some ((x3.take (3 : Int).toNat), bt319.2)) else (none)) else (if bt319.1 = 1 then ((spec_l15Rd_pick.f k x1000 bt319.2 4).bind fun bt324 => ((spec_l15Rd_num.f k x1000 bt324.2 (([(-1), 1000001] : List Int))).bind fun bt329 => (if 0 ≤ bt324.1 then (if bt324.1 < (x3.length : Int) then (some ((x3.set (bt324.1 : Int).toNat (⟨bt329.1, (rd_T37 x3 bt324.1).f1⟩ : S37)), bt329.2)) else (none)) else (none)))) else (if bt319.1 = 2 then ((spec_l15Rd_pick.f k x1000 bt319.2 4).bind fun bt332 => ((spec_l15Rd_num.f k x1000 bt332.2 (([1000001, (-1000001)] : List Int))).bind fun bt337 => (if 0 ≤ bt332.1 then (if bt332.1 < (x3.length : Int) then (some ((x3.set (bt332.1 : Int).toNat (⟨(rd_T37 x3 bt332.1).f0, bt337.1⟩ : S37)), bt337.2)) else (none)) else (none)))) else (some (x3, bt319.2))))))
def spec_l1Boxes.f (k : Nat) (s0_0 : List Int) (s0_1 : Int) : Option ((List (S37)) × Int) := (spec_BoxOpen.f).bind fun t308 => (spec_l1Boxes.l0 k t308 0 s0_0 s0_1)
def spec_l2Any.f (k : Nat) (s0_0 : List Int) (s0_1 : Int) : Option (Int × Int × Int × Int × Int) := (spec_l15Rd_num.f k s0_0 s0_1 (([1, 1, 2, 2, 3, 4, 4, 5, 6, 7] : List Int))).bind fun bt344 => ((spec_l15Rd_pick.f k s0_0 bt344.2 3).bind fun bt346 => ((spec_l15Rd_pick.f k s0_0 bt346.2 3).bind fun bt348 => (if bt344.1 = 3 then ((spec_l15Rd_num.f k s0_0 bt348.2 (([0, 1, 5, (-2), 100, 1000000] : List Int))).bind fun bt354 => (some (bt344.1, bt346.1, 0, bt354.1, bt354.2))) else (if bt344.1 = 6 then ((spec_l15Rd_pick.f k s0_0 bt348.2 3).bind fun bt356 => (some (bt344.1, bt346.1, bt348.1, wrap64 (1 + bt356.1), bt356.2))) else (if bt344.1 = 7 then ((spec_l15Rd_pick.f k s0_0 bt348.2 3).bind fun bt358 => (if bt358.1 > 0 then ((spec_l15Rd_pick.f k s0_0 bt358.2 4).bind fun bt360 => ((spec_l15Rd_pick.f k s0_0 bt360.2 4).bind fun bt362 => (some (4, bt360.1, bt362.1, 0, bt362.2)))) else (some (bt344.1, 0, 0, 0, bt358.2)))) else (some (bt344.1, bt346.1, bt348.1, 0, bt348.2)))))))
def spec_l2Prog.l0 : Nat → List (S95) → Int → List Int → Int → Option ((List (S95)) × Int)
  | 0, _, _, _, _ => none
  | k + 1, x5, x6, x1000, x1001 => if x6 > 0 then ((spec_l2Any.f k x1000 x1001).bind fun bt380 => (if x5.length < 4398046511104 then (spec_l2Prog.l0 k (x5 ++ [(⟨bt380.1, bt380.2.1, bt380.2.2.1, bt380.2.2.2.1⟩ : S95)]) (wrap64 (x6 - 1)) x1000 bt380.2.2.2.2) else (none))) else (some (x5, x1001))
def spec_l2Prog.f (k : Nat) (s0_0 : List Int) (s0_1 : Int) : Option ((List (S95)) × Int) := (spec_l15Rd_pick.f k s0_0 s0_1 3).bind fun bt364 => (if bt364.1 = 0 then ((spec_l15Rd_pick.f k s0_0 bt364.2 3).bind fun bt366 => ((spec_l15Rd_pick.f k s0_0 bt366.2 3).bind fun bt368 => ((spec_l15Rd_pick.f k s0_0 bt368.2 3).bind fun bt370 => (some ((([(⟨1, 0, bt366.1, 0⟩ : S95), (⟨3, 1, 0, wrap64 (1 + bt370.1)⟩ : S95), (⟨4, 0, 1, 0⟩ : S95), (⟨2, bt368.1, 0, 0⟩ : S95)] : List (S95))), bt370.2))))) else ((spec_l15Rd_pick.f k s0_0 bt364.2 8).bind fun bt378 => (spec_l2Prog.l0 k (([] : List (S95))) bt378.1 s0_0 bt378.2)))
def spec_BoxOk.l0 : Nat → List (S37) → Int → Option (Bool)
  | 0, _, _ => none
  | k + 1, x0, x3 => if x3 < (x0.length : Int) then (if 0 ≤ x3 then (if ((rd_T37 x0 x3).f0) < 0 then (some false) else (if ((rd_T37 x0 x3).f0) > 1000000 then (some false) else ((spec_l1Num.f ((rd_T37 x0 x3).f1)).bind fun t391 => (if t391 = true then (spec_BoxOk.l0 k x0 (wrap64 (x3 + 1))) else (some false))))) else (none)) else (some true)
def spec_BoxOk.f (k : Nat) (l0 : List (S37)) : Option (Bool) := if (l0.length : Int) = 4 then (spec_BoxOk.l0 k l0 0) else (some false)
def spec_l2Reg.f (a0 : Int) : Option (Bool) := if a0 ≥ 0 then (some (decide (a0 < 4))) else (some false)
def spec_l2Ins.j0 : Nat → Int → Bool → Int → Int → Int → Int → Option (Bool)
  | 0, _, _, _, _, _, _ => none
  | k + 1, x4, x50, x393000, x393001, x393002, x393003 => if x50 = true then ((spec_l2Reg.f x393001).bind fun t399 => (if t399 = true then ((spec_l2Reg.f x393002).bind fun t400 => (if t400 = true then (some (x393003 == 0)) else (some false))) else (some false))) else (if x4 = 6 then ((spec_l2Reg.f x393001).bind fun t401 => (if t401 = true then ((spec_l2Reg.f x393002).bind fun t402 => (if t402 = true then (if x393003 ≥ 1 then (some (decide (x393003 ≤ 10))) else (some false)) else (some false))) else (some false))) else (if x4 = 7 then (if x393001 = 0 then (if x393002 = 0 then (some (x393003 == 0)) else (some false)) else (some false)) else (some false)))
def spec_l2Ins.f (k : Nat) (a0_0 : Int) (a0_1 : Int) (a0_2 : Int) (a0_3 : Int) : Option (Bool) := if a0_0 = 1 then ((spec_l2Reg.f a0_1).bind fun t393 => (if t393 = true then ((spec_l2Box.f a0_2).bind fun t394 => (if t394 = true then (some (a0_3 == 0)) else (some false))) else (some false))) else (if a0_0 = 2 then ((spec_l2Box.f a0_1).bind fun t395 => (if t395 = true then ((spec_l2Reg.f a0_2).bind fun t396 => (if t396 = true then (some (a0_3 == 0)) else (some false))) else (some false))) else (if a0_0 = 3 then ((spec_l2Reg.f a0_1).bind fun t397 => (if t397 = true then (if a0_2 = 0 then ((spec_l1Num.f a0_3).bind fun t398 => (some t398)) else (some false)) else (some false))) else (if a0_0 = 4 then (spec_l2Ins.j0 k a0_0 (a0_0 == 4) a0_0 a0_1 a0_2 a0_3) else (spec_l2Ins.j0 k a0_0 (a0_0 == 5) a0_0 a0_1 a0_2 a0_3))))
def spec_ProgOk.l0 : Nat → List (S95) → Int → Option (Bool)
  | 0, _, _ => none
  | k + 1, x0, x3 => if x3 < (x0.length : Int) then (if 0 ≤ x3 then ((spec_l2Ins.f k ((rd_T95 x0 x3).f0) ((rd_T95 x0 x3).f1) ((rd_T95 x0 x3).f2) ((rd_T95 x0 x3).f3)).bind fun t404 => (if t404 = true then (spec_ProgOk.l0 k x0 (wrap64 (x3 + 1))) else (some false))) else (none)) else (some true)
def spec_ProgOk.f (k : Nat) (l0 : List (S95)) : Option (Bool) := if (l0.length : Int) > 10 then (some false) else (spec_ProgOk.l0 k l0 0)
def spec_l3Look.f (k : Nat) (l0 : List (S37)) (l1_0 : List (S39)) (l1_1 : List (S82)) (a1_2 : Int) (a1_3 : Int) (a2 : Int) : Option (Int × (List (S39)) × (List (S82)) × Int × Int) := (spec_l3At.f k l1_1 a2).bind fun t407 => (if t407 ≥ 0 then (if 0 ≤ t407 then (if t407 < (l1_1.length : Int) then (some ((rd_T82 l1_1 t407).f1, l1_0, l1_1, a1_2, a1_3)) else (none)) else (none)) else ((spec_l3Saw.f k l1_0 a2).bind fun t409 => (if t409 = true then (if 0 ≤ a2 then (if a2 < (l0.length : Int) then (some ((rd_T37 l0 a2).f1, l1_0, l1_1, a1_2, a1_3)) else (none)) else (none)) else (if 0 ≤ a2 then (if a2 < (l0.length : Int) then (if l1_0.length < 8796093022208 then (some ((rd_T37 l0 a2).f1, (l1_0 ++ [(⟨a2, (rd_T37 l0 a2).f0⟩ : S39)]), l1_1, a1_2, a1_3)) else (none)) else (none)) else (none)))))
def spec_l3Put.f (k : Nat) (l0_0 : List (S39)) (l0_1 : List (S82)) (a0_2 : Int) (a0_3 : Int) (a1 : Int) (a2 : Int) : Option ((List (S39)) × (List (S82)) × Int × Int) := (spec_l3At.f k l0_1 a1).bind fun t418 => (if t418 ≥ 0 then (if 0 ≤ t418 then (if t418 < (l0_1.length : Int) then (some (l0_0, (l0_1.set (t418 : Int).toNat (⟨(rd_T82 l0_1 t418).f0, a2⟩ : S82)), a0_2, a0_3)) else (none)) else (none)) else (if l0_1.length < 8796093022208 then (some (l0_0, (l0_1 ++ [(⟨a1, a2⟩ : S82)]), a0_2, a0_3)) else (none)))
def spec_l3Step.j0 : Nat → List Int → List (S39) → List (S82) → Int → Int → Int → Int → Int → Int → Option ((List (S39)) × (List (S82)) × Int × Int × List Int)
  | 0, _, _, _, _, _, _, _, _, _ => none
  | k + 1, x2, x424000, x424001, x424002, x424003, x425000, x425001, x425002, x425003 => if x425000 = 2 then (some (x424000, x424001, x424002, x424003, x2)) else (if 0 ≤ x425001 then (if x425001 < (x2.length : Int) then ((spec_l1Num.f (rd x2 x425001)).bind fun t454 => (if t454 = true then (some (x424000, x424001, x424002, x424003, x2)) else (some (x424000, x424001, x424002, 2, x2)))) else (none)) else (none))
def spec_l3Step.f (k : Nat) (l0 : List (S37)) (l1_0 : List (S39)) (l1_1 : List (S82)) (a1_2 : Int) (a1_3 : Int) (l2 : List Int) (a3_0 : Int) (a3_1 : Int) (a3_2 : Int) (a3_3 : Int) : Option ((List (S39)) × (List (S82)) × Int × Int × List Int) := if a3_0 = 1 then ((spec_l3Look.f k l0 l1_0 l1_1 a1_2 a1_3 a3_2).bind fun bt426 => (if 0 ≤ a3_1 then (if a3_1 < (l2.length : Int) then (spec_l3Step.j0 k (l2.set (a3_1 : Int).toNat bt426.1) bt426.2.1 bt426.2.2.1 bt426.2.2.2.1 bt426.2.2.2.2 a3_0 a3_1 a3_2 a3_3) else (none)) else (none))) else (if a3_0 = 2 then (if 0 ≤ a3_2 then (if a3_2 < (l2.length : Int) then ((spec_l3Put.f k l1_0 l1_1 a1_2 a1_3 a3_1 (rd l2 a3_2)).bind fun bt438 => (spec_l3Step.j0 k l2 bt438.1 bt438.2.1 bt438.2.2.1 bt438.2.2.2 a3_0 a3_1 a3_2 a3_3)) else (none)) else (none)) else (if a3_0 = 3 then (if 0 ≤ a3_1 then (if a3_1 < (l2.length : Int) then (spec_l3Step.j0 k (l2.set (a3_1 : Int).toNat a3_3) l1_0 l1_1 a1_2 a1_3 a3_0 a3_1 a3_2 a3_3) else (none)) else (none)) else (if a3_0 = 4 then (if 0 ≤ a3_1 then (if a3_1 < (l2.length : Int) then (if 0 ≤ a3_2 then (if a3_2 < (l2.length : Int) then (spec_l3Step.j0 k (l2.set (a3_1 : Int).toNat (wrap64 ((rd l2 a3_1) + (rd l2 a3_2)))) l1_0 l1_1 a1_2 a1_3 a3_0 a3_1 a3_2 a3_3) else (none)) else (none)) else (none)) else (none)) else (if a3_0 = 5 then (if 0 ≤ a3_1 then (if a3_1 < (l2.length : Int) then (if 0 ≤ a3_2 then (if a3_2 < (l2.length : Int) then (spec_l3Step.j0 k (l2.set (a3_1 : Int).toNat (wrap64 ((rd l2 a3_1) - (rd l2 a3_2)))) l1_0 l1_1 a1_2 a1_3 a3_0 a3_1 a3_2 a3_3) else (none)) else (none)) else (none)) else (none)) else (if a3_0 = 7 then (spec_l3Step.j0 k l2 l1_0 l1_1 a1_2 1 a3_0 a3_1 a3_2 a3_3) else (spec_l3Step.j0 k l2 l1_0 l1_1 a1_2 a1_3 a3_0 a3_1 a3_2 a3_3))))))
mutual
def spec_ExecRun.j0 : Nat → List (S37) → List (S95) → Bool → Option ((List (S39)) × (List (S82)) × Int × Int)
  | 0, _, _, _ => none
  | k + 1, x0, x1, x16 => if x16 = true then (some (([] : List (S39)), ([] : List (S82)), 0, 3)) else (if 4 ≤ 35184372088832 then (spec_ExecRun.l0 k x0 x1 (List.replicate 4 0) 0 ([] : List (S39)) ([] : List (S82)) 0 0) else (none))
def spec_ExecRun.l0 : Nat → List (S37) → List (S95) → List Int → Int → List (S39) → List (S82) → Int → Int → Option ((List (S39)) × (List (S82)) × Int × Int)
  | 0, _, _, _, _, _, _, _, _ => none
  | k + 1, x0, x1, x6, x7, x459000, x459001, x459002, x459003 => if x7 < (x1.length : Int) then (spec_ExecRun.j2 k x0 x1 x6 x7 (x459003 == 0) x459000 x459001 x459002 x459003) else (spec_ExecRun.j2 k x0 x1 x6 x7 false x459000 x459001 x459002 x459003)
def spec_ExecRun.j2 : Nat → List (S37) → List (S95) → List Int → Int → Bool → List (S39) → List (S82) → Int → Int → Option ((List (S39)) × (List (S82)) × Int × Int)
  | 0, _, _, _, _, _, _, _, _, _ => none
  | k + 1, x0, x1, x6, x7, x28, x459000, x459001, x459002, x459003 => if x28 = true then (if 0 ≤ x7 then (if x7 < (x1.length : Int) then (if ((rd_T95 x1 x7).f0) = 6 then (if 0 ≤ ((rd_T95 x1 x7).f1) then (if ((rd_T95 x1 x7).f1) < (x6.length : Int) then (if 0 ≤ ((rd_T95 x1 x7).f2) then (if ((rd_T95 x1 x7).f2) < (x6.length : Int) then (if (rd x6 ((rd_T95 x1 x7).f1)) < (rd x6 ((rd_T95 x1 x7).f2)) then (spec_ExecRun.l0 k x0 x1 x6 (wrap64 ((wrap64 (x7 + ((rd_T95 x1 x7).f3))) + 1)) x459000 x459001 x459002 x459003) else (spec_ExecRun.l0 k x0 x1 x6 (wrap64 (x7 + 1)) x459000 x459001 x459002 x459003)) else (none)) else (none)) else (none)) else (none)) else ((spec_l3Step.f k x0 x459000 x459001 x459002 x459003 x6 ((rd_T95 x1 x7).f0) ((rd_T95 x1 x7).f1) ((rd_T95 x1 x7).f2) ((rd_T95 x1 x7).f3)).bind fun bt467 => (spec_ExecRun.l0 k x0 x1 bt467.2.2.2.2 (wrap64 (x7 + 1)) bt467.1 bt467.2.1 bt467.2.2.1 bt467.2.2.2.1))) else (none)) else (none)) else (if x459003 = 0 then (if 0 < (x6.length : Int) then (some (x459000, x459001, rd x6 0, x459003)) else (none)) else (some (x459000, ([] : List (S82)), x459002, x459003)))
end
def spec_ExecRun.f (k : Nat) (l0 : List (S37)) (l1 : List (S95)) : Option ((List (S39)) × (List (S82)) × Int × Int) := (spec_BoxOk.f k l0).bind fun t456 => (if t456 = true then ((spec_ProgOk.f k l1).bind fun t457 => (spec_ExecRun.j0 k l0 l1 (!t457))) else (spec_ExecRun.j0 k l0 l1 true))
def spec_l5Any.f (k : Nat) (s0_0 : List Int) (s0_1 : Int) (l1 : List (S37)) : Option (Bool × Int × Int × (List (S39)) × (List (S82)) × Int × Int × Int) := (spec_l15Rd_pick.f k s0_0 s0_1 8).bind fun bt477 => (if bt477.1 = 0 then (some (true, 0, 0, ([] : List (S39)), ([] : List (S82)), 0, 0, bt477.2)) else ((spec_l15Rd_pick.f k s0_0 bt477.2 3).bind fun bt479 => ((spec_l15Rd_pick.f k s0_0 bt479.2 6).bind fun bt481 => ((spec_l2Prog.f k s0_0 bt481.2).bind fun bt483 => ((spec_ExecRun.f k l1 bt483.1).bind fun bt487 => ((spec_l15Rd_pick.f k s0_0 bt483.2 40).bind fun bt496 => (if bt496.1 = 0 then ((spec_l15Rd_num.f k s0_0 bt496.2 (([0, 1001] : List Int))).bind fun bt501 => (some (false, bt479.1, bt501.1, bt487.1, bt487.2.1, bt487.2.2.1, bt487.2.2.2, bt501.2))) else (if bt496.1 = 1 then (some (true, bt479.1, wrap64 (1 + bt481.1), bt487.1, bt487.2.1, bt487.2.2.1, bt487.2.2.2, bt496.2)) else (if bt496.1 = 2 then (some (false, bt479.1, wrap64 (1 + bt481.1), bt487.1, bt487.2.1, bt487.2.2.1, 3, bt496.2)) else (some (false, bt479.1, wrap64 (1 + bt481.1), bt487.1, bt487.2.1, bt487.2.2.1, bt487.2.2.2, bt496.2)))))))))))
def spec_DrawCertEntry.f (k : Nat) (l0 : List Int) : Option (Bool × Int × Int × (List (S39)) × (List (S82)) × Int × Int) := (spec_l15Open.f l0).bind fun bt504 => ((spec_l1Boxes.f k bt504.1 bt504.2).bind fun bt507 => ((spec_l5Any.f k bt504.1 bt507.2 bt507.1).bind fun bt511 => (some (bt511.1, bt511.2.1, bt511.2.2.1, bt511.2.2.2.1, bt511.2.2.2.2.1, bt511.2.2.2.2.2.1, bt511.2.2.2.2.2.2.1))))
def spec_DrawCertLike.f (k : Nat) (l0 : List Int) : Option (Bool × Int × Int × (List (S39)) × (List (S82)) × Int × Int × Bool × Int × Int × (List (S39)) × (List (S82)) × Int × Int) := (spec_DrawCertEntry.f k l0).bind fun bt525 => ((spec_DrawCertEntry.f k l0).bind fun bt537 => (if (l0.length : Int) > 0 then (if 0 < (l0.length : Int) then (if (Int.tmod (rd l0 0) 2) = 1 then (some (bt525.1, bt525.2.1, bt525.2.2.1, bt525.2.2.2.1, bt525.2.2.2.2.1, bt525.2.2.2.2.2.1, bt525.2.2.2.2.2.2, bt537.1, bt537.2.1, wrap64 (bt537.2.2.1 + 1), bt537.2.2.2.1, bt537.2.2.2.2.1, bt537.2.2.2.2.2.1, bt537.2.2.2.2.2.2)) else (some (bt525.1, bt525.2.1, bt525.2.2.1, bt525.2.2.2.1, bt525.2.2.2.2.1, bt525.2.2.2.2.2.1, bt525.2.2.2.2.2.2, bt537.1, bt537.2.1, bt537.2.2.1, bt537.2.2.2.1, bt537.2.2.2.2.1, bt537.2.2.2.2.2.1, bt537.2.2.2.2.2.2))) else (none)) else (some (bt525.1, bt525.2.1, bt525.2.2.1, bt525.2.2.2.1, bt525.2.2.2.2.1, bt525.2.2.2.2.2.1, bt525.2.2.2.2.2.2, bt537.1, bt537.2.1, bt537.2.2.1, bt537.2.2.2.1, bt537.2.2.2.2.1, bt537.2.2.2.2.2.1, bt537.2.2.2.2.2.2))))
def spec_CertOpen.f  : Option (Int × (List (S37)) × (List (S84))) := (spec_BoxOpen.f).bind fun t551 => (some (0, t551, ([] : List (S84))))
mutual
def spec_ExecFresh.j0 : Nat → List (S37) → Bool → List (S39) → List (S82) → Int → Int → Option (Bool)
  | 0, _, _, _, _, _, _ => none
  | k + 1, x0, x13, x555000, x555001, x555002, x555003 => if x13 = true then (some false) else (spec_ExecFresh.l0 k x0 0 x555000 x555001 x555002 x555003)
def spec_ExecFresh.l0 : Nat → List (S37) → Int → List (S39) → List (S82) → Int → Int → Option (Bool)
  | 0, _, _, _, _, _, _ => none
  | k + 1, x0, x5, x555000, x555001, x555002, x555003 => if x5 < (x555000.length : Int) then (if 0 ≤ x5 then (if 0 ≤ ((rd_T39 x555000 x5).f0) then (if ((rd_T39 x555000 x5).f0) < (x0.length : Int) then (if ((rd_T37 x0 ((rd_T39 x555000 x5).f0)).f0) = ((rd_T39 x555000 x5).f1) then (spec_ExecFresh.l0 k x0 (wrap64 (x5 + 1)) x555000 x555001 x555002 x555003) else (some false)) else (none)) else (none)) else (none)) else (some true)
end
def spec_ExecFresh.f (k : Nat) (l0 : List (S37)) (l1_0 : List (S39)) (l1_1 : List (S82)) (a1_2 : Int) (a1_3 : Int) : Option (Bool) := (spec_BoxOk.f k l0).bind fun t555 => (if t555 = true then ((spec_ExecOk.f k l1_0 l1_1 a1_2 a1_3).bind fun t556 => (spec_ExecFresh.j0 k l0 (!t556) l1_0 l1_1 a1_2 a1_3)) else (spec_ExecFresh.j0 k l0 true l1_0 l1_1 a1_2 a1_3))
def spec_l1Min.f (a0 : Int) (a1 : Int) : Option (Int) := if a0 < a1 then (some a0) else (some a1)
def spec_l3Do.l0 : Nat → List (S37) → Int → List (S39) → List (S82) → Int → Int → Option ((List (S37)))
  | 0, _, _, _, _, _, _ => none
  | k + 1, x0, x5, x561000, x561001, x561002, x561003 => if x5 < (x561001.length : Int) then (if 0 ≤ x5 then (if 0 ≤ ((rd_T82 x561001 x5).f0) then (if ((rd_T82 x561001 x5).f0) < (x0.length : Int) then ((spec_l1Min.f 1000000 (wrap64 (((rd_T37 x0 ((rd_T82 x561001 x5).f0)).f0) + 1))).bind fun t563 => (spec_l3Do.l0 k (x0.set (((rd_T82 x561001 x5).f0) : Int).toNat (⟨t563, (rd_T82 x561001 x5).f1⟩ : S37)) (wrap64 (x5 + 1)) x561000 x561001 x561002 x561003)) else (none)) else (none)) else (none)) else (some x0)
def spec_l3Do.f (k : Nat) (l0 : List (S37)) (l1_0 : List (S39)) (l1_1 : List (S82)) (a1_2 : Int) (a1_3 : Int) : Option ((List (S37))) := spec_l3Do.l0 k l0 0 l1_0 l1_1 a1_2 a1_3
def spec_l5Last.l0 : Nat → Int → Int → Int → List (S37) → List (S84) → Option (Int × Int × Int × Int × Bool)
  | 0, _, _, _, _, _ => none
  | k + 1, x1, x6, x567000, x567001, x567002 => if x6 < (x567002.length : Int) then (if 0 ≤ x6 then (if ((rd_T84 x567002 x6).f0.f0) = x1 then (some ((rd_T84 x567002 x6).f0.f0, (rd_T84 x567002 x6).f0.f1, (rd_T84 x567002 x6).f1, (rd_T84 x567002 x6).f2, true)) else (spec_l5Last.l0 k x1 (wrap64 (x6 + 1)) x567000 x567001 x567002)) else (none)) else (some (0, 0, 0, 0, false))
def spec_l5Last.f (k : Nat) (a0_0 : Int) (l0_1 : List (S37)) (l0_2 : List (S84)) (a1 : Int) : Option (Int × Int × Int × Int × Bool) := spec_l5Last.l0 k a1 0 a0_0 l0_1 l0_2
mutual
def spec_l5Put.l0 : Nat → List (S84) → List (S84) → Bool → Int → Int → Int → Int → Int → Option ((List (S84)))
  | 0, _, _, _, _, _, _, _, _ => none
  | k + 1, x0, x5, x6, x7, x571000, x571001, x571002, x571003 => if x7 < (x0.length : Int) then (if x6 = true then (spec_l5Put.j1 k x0 x5 x6 x7 false x571000 x571001 x571002 x571003) else (if 0 ≤ x7 then (spec_l5Put.j1 k x0 x5 x6 x7 (decide (((rd_T84 x0 x7).f0.f0) ≥ x571000)) x571000 x571001 x571002 x571003) else (none))) else (if x6 = true then (some x5) else (if x5.length < 4398046511104 then (some (x5 ++ [(⟨(⟨x571000, x571001⟩ : S75), x571002, x571003⟩ : S84)])) else (none)))
def spec_l5Put.j1 : Nat → List (S84) → List (S84) → Bool → Int → Bool → Int → Int → Int → Int → Option ((List (S84)))
  | 0, _, _, _, _, _, _, _, _, _ => none
  | k + 1, x0, x5, x6, x7, x28, x571000, x571001, x571002, x571003 => if x28 = true then (if x5.length < 4398046511104 then ((some (x5 ++ [(⟨(⟨x571000, x571001⟩ : S75), x571002, x571003⟩ : S84)] : List (S84))).bind fun y578 => (if 0 ≤ x7 then (if x7 < (x0.length : Int) then (if ((rd_T84 x0 x7).f0.f0) = x571000 then (spec_l5Put.l0 k x0 y578 true (wrap64 (x7 + 1)) x571000 x571001 x571002 x571003) else (if y578.length < 4398046511104 then (spec_l5Put.l0 k x0 (y578 ++ [(⟨(⟨(rd_T84 x0 x7).f0.f0, (rd_T84 x0 x7).f0.f1⟩ : S75), (rd_T84 x0 x7).f1, (rd_T84 x0 x7).f2⟩ : S84)]) true (wrap64 (x7 + 1)) x571000 x571001 x571002 x571003) else (none))) else (none)) else (none))) else (none)) else (if 0 ≤ x7 then (if x7 < (x0.length : Int) then (if ((rd_T84 x0 x7).f0.f0) = x571000 then (spec_l5Put.l0 k x0 x5 x6 (wrap64 (x7 + 1)) x571000 x571001 x571002 x571003) else (if x5.length < 4398046511104 then (spec_l5Put.l0 k x0 (x5 ++ [(⟨(⟨(rd_T84 x0 x7).f0.f0, (rd_T84 x0 x7).f0.f1⟩ : S75), (rd_T84 x0 x7).f1, (rd_T84 x0 x7).f2⟩ : S84)]) x6 (wrap64 (x7 + 1)) x571000 x571001 x571002 x571003) else (none))) else (none)) else (none))
end
def spec_l5Put.f (k : Nat) (l0 : List (S84)) (a1_0 : Int) (a1_1 : Int) (a1_2 : Int) (a1_3 : Int) : Option ((List (S84))) := spec_l5Put.l0 k l0 (([] : List (S84))) false 0 a1_0 a1_1 a1_2 a1_3
mutual
def spec_l5Apply.j1 : Nat → Int → List (S37) → List (S84) → Bool → Int → Int → List (S39) → List (S82) → Int → Int → Option (Int × (List (S37)) × (List (S84)) × Int)
  | 0, _, _, _, _, _, _, _, _, _, _ => none
  | k + 1, x592000, x592001, x592002, x593000, x593001, x593002, x593003, x593004, x593005, x593006 => (spec_ExecFresh.f k x592001 x593003 x593004 x593005 x593006).bind fun t601 => (if t601 = true then (spec_l5Apply.j2 k x592000 x592001 x592002 x593000 x593001 x593002 x593003 x593004 x593005 x593006 x593001 x593002 2 0) else (spec_l5Apply.j2 k x592000 x592001 x592002 x593000 x593001 x593002 x593003 x593004 x593005 x593006 x593001 x593002 1 0))
def spec_l5Apply.j2 : Nat → Int → List (S37) → List (S84) → Bool → Int → Int → List (S39) → List (S82) → Int → Int → Int → Int → Int → Int → Option (Int × (List (S37)) × (List (S84)) × Int)
  | 0, _, _, _, _, _, _, _, _, _, _, _, _, _, _ => none
  | k + 1, x592000, x592001, x592002, x593000, x593001, x593002, x593003, x593004, x593005, x593006, x601000, x601001, x601002, x601003 => if x601002 = 2 then (spec_l5Apply.j3 k (x593006 == 0) x592000 x592001 x592002 x593000 x593001 x593002 x593003 x593004 x593005 x593006 x601000 x601001 x601002 x601003) else (spec_l5Apply.j3 k false x592000 x592001 x592002 x593000 x593001 x593002 x593003 x593004 x593005 x593006 x601000 x601001 x601002 x601003)
def spec_l5Apply.j3 : Nat → Bool → Int → List (S37) → List (S84) → Bool → Int → Int → List (S39) → List (S82) → Int → Int → Int → Int → Int → Int → Option (Int × (List (S37)) × (List (S84)) × Int)
  | 0, _, _, _, _, _, _, _, _, _, _, _, _, _, _, _ => none
  | k + 1, x63, x592000, x592001, x592002, x593000, x593001, x593002, x593003, x593004, x593005, x593006, x601000, x601001, x601002, x601003 => if x63 = true then ((spec_l3Do.f k x592001 x593003 x593004 x593005 x593006).bind fun t602 => ((spec_l5Put.f k x592002 x601000 x601001 0 x593005).bind fun t605 => (some (x592000, t602, t605, 0)))) else ((spec_l5Put.f k x592002 x601000 x601001 x601002 x601003).bind fun t608 => (some (x592000, x592001, t608, x601002)))
def spec_l5Apply.j0 : Nat → Bool → Bool → Int → List (S37) → List (S84) → Bool → Int → Int → List (S39) → List (S82) → Int → Int → Int → Int → Int → Int → Option (Int × (List (S37)) × (List (S84)) × Int)
  | 0, _, _, _, _, _, _, _, _, _, _, _, _, _, _, _, _ => none
  | k + 1, x7, x24, x592000, x592001, x592002, x593000, x593001, x593002, x593003, x593004, x593005, x593006, x600000, x600001, x600002, x600003 => if x24 = true then (some (x592000, x592001, x592002, 3)) else (if x7 = true then (if x600001 > x593002 then (some (x592000, x592001, x592002, 4)) else (spec_l5Apply.j1 k x592000 x592001 x592002 x593000 x593001 x593002 x593003 x593004 x593005 x593006)) else (spec_l5Apply.j1 k x592000 x592001 x592002 x593000 x593001 x593002 x593003 x593004 x593005 x593006))
end
def spec_l5Apply.f (k : Nat) (a0_0 : Int) (l0_1 : List (S37)) (l0_2 : List (S84)) (a1_0 : Bool) (a1_1 : Int) (a1_2 : Int) (l1_3 : List (S39)) (l1_4 : List (S82)) (a1_5 : Int) (a1_6 : Int) : Option (Int × (List (S37)) × (List (S84)) × Int) := if a1_0 = true then (some (wrap64 (a0_0 + 1), l0_1, l0_2, 5)) else ((spec_l5Last.f k (wrap64 (a0_0 + 1)) l0_1 l0_2 a1_1).bind fun bt594 => (if bt594.2.2.2.2 = true then (spec_l5Apply.j0 k bt594.2.2.2.2 (bt594.1 == a1_1 && (bt594.2.1 == a1_2)) (wrap64 (a0_0 + 1)) l0_1 l0_2 a1_0 a1_1 a1_2 l1_3 l1_4 a1_5 a1_6 bt594.1 bt594.2.1 bt594.2.2.1 bt594.2.2.2.1) else (spec_l5Apply.j0 k bt594.2.2.2.2 false (wrap64 (a0_0 + 1)) l0_1 l0_2 a1_0 a1_1 a1_2 l1_3 l1_4 a1_5 a1_6 bt594.1 bt594.2.1 bt594.2.2.1 bt594.2.2.2.1)))
def spec_l5Fix.f (a0_0 : Bool) (a0_1 : Int) (a0_2 : Int) (l0_3 : List (S39)) (l0_4 : List (S82)) (a0_5 : Int) (a0_6 : Int) : Option (Bool × Int × Int × (List (S39)) × (List (S82)) × Int × Int) := if a0_0 = true then (some (true, 0, 0, ([] : List (S39)), ([] : List (S82)), 0, 0)) else (some (a0_0, a0_1, a0_2, l0_3, l0_4, a0_5, a0_6))
def spec_l5State.l0 : Nat → Int → List Int → Int → Int → List (S37) → List (S84) → Option (Int × (List (S37)) × (List (S84)) × Int)
 | 0, _, _, _, _, _, _ => none
 | k + 1, x4, x1000, x1001, x622000, x622001, x622002 => if x4 > 0 then ((spec_l5Any.f k x1000 x1001 x622001).bind fun bt627 => ((spec_CertEntry.f k bt627.1 bt627.2.1 bt627.2.2.1 bt627.2.2.2.1 bt627.2.2.2.2.1 bt627.2.2.2.2.2.1 bt627.2.2.2.2.2.2.1).bind fun t640 => (if t640 = true then ((spec_l15Rd_num.f k x1000 bt627.2.2.2.2.2.2.2 (([bt627.2.2.1, wrap64 (x622000 + 1)] : List Int))).bind fun bt644 => ((spec_l5Fix.f bt627.1 bt627.2.1 bt644.1 bt627.2.2.2.1 bt627.2.2.2.2.1 bt627.2.2.2.2.2.1 bt627.2.2.2.2.2.2.1).bind fun bt646 => ((spec_l5Apply.f k x622000 x622001 x622002 bt646.1 bt646.2.1 bt646.2.2.1 bt646.2.2.2.1 bt646.2.2.2.2.1 bt646.2.2.2.2.2.1 bt646.2.2.2.2.2.2).bind fun bt657 => (spec_l5State.l0 k (wrap64 (x4 - 1)) x1000 bt644.2 bt657.1 bt657.2.1 bt657.2.2.1)))) else (spec_l5State.l0 k (wrap64 (x4 - 1)) x1000 bt627.2.2.2.2.2.2.2 x622000 x622001 x622002)))) else ((spec_l15Rd_pick.f k x1000 x1001 40).bind fun bt666 => (if bt666.1 = 0 then ((spec_l15Rd_num.f k x1000 bt666.2 (([(-1), 40, 41] : List Int))).bind fun bt671 => (some (bt671.1, x622001, x622002, bt671.2))) else (if bt666.1 = 1 then (if 1 ≤ (x622001.length : Int) then (some (x622000, (x622001.take (1 : Int).toNat), x622002, bt666.2)) else (none)) else (if bt666.1 = 2 then ((spec_l15Rd_pick.f k x1000 bt666.2 4).bind fun bt676 => ((spec_l15Rd_pick.f k x1000 bt676.2 3).bind fun bt678 => ((spec_l15Rd_pick.f k x1000 bt678.2 2).bind fun bt680 => ((spec_l15Rd_pick.f k x1000 bt680.2 4).bind fun bt682 => (if x622002.length < 4398046511104 then (some (x622000, x622001, (x622002 ++ [(⟨(⟨bt676.1, bt678.1⟩ : S75), bt682.1, bt680.1⟩ : S84)]), bt682.2)) else (none)))))) else (some (x622000, x622001, x622002, bt666.2))))))
def spec_l5State.f (k : Nat) (s0_0 : List Int) (s0_1 : Int) : Option (Int × (List (S37)) × (List (S84)) × Int) := (spec_CertOpen.f).bind fun bt614 => ((spec_l15Rd_num.f k s0_0 s0_1 (([0, 3, 8, 12] : List Int))).bind fun bt625 => (spec_l5State.l0 k bt625.1 s0_0 bt625.2 bt614.1 bt614.2.1 bt614.2.2))
def spec_CertLike.f (k : Nat) (a0_0 : Bool) (a0_1 : Int) (a0_2 : Int) (l0_3 : List (S39)) (l0_4 : List (S82)) (a0_5 : Int) (a0_6 : Int) (a1_0 : Bool) (a1_1 : Int) (a1_2 : Int) (l1_3 : List (S39)) (l1_4 : List (S82)) (a1_5 : Int) (a1_6 : Int) : Option (Bool) := if (a0_0 == a1_0) = true then (if (a0_1 == a1_1 && (a0_2 == a1_2)) = true then ((spec_ExecSame.f k l0_3 l0_4 a0_5 a0_6 l1_3 l1_4 a1_5 a1_6).bind fun t716 => (some t716)) else (some false)) else (some false)
def spec_BoxSame.l0 : Nat → List (S37) → List (S37) → Int → Option (Bool)
  | 0, _, _, _ => none
  | k + 1, x0, x1, x5 => if x5 < (x0.length : Int) then (if 0 ≤ x5 then (if x5 < (x1.length : Int) then (if (!(((rd_T37 x0 x5).f0) == ((rd_T37 x1 x5).f0)) || (!(((rd_T37 x0 x5).f1) == ((rd_T37 x1 x5).f1)))) = true then (some false) else (spec_BoxSame.l0 k x0 x1 (wrap64 (x5 + 1)))) else (none)) else (none)) else (some true)
def spec_BoxSame.f (k : Nat) (l0 : List (S37)) (l1 : List (S37)) : Option (Bool) := if (l0.length : Int) = (l1.length : Int) then (spec_BoxSame.l0 k l0 l1 0) else (some false)
mutual
def spec_CertSame.j0 : Nat → Bool → Int → List (S37) → List (S84) → Int → List (S37) → List (S84) → Option (Bool)
  | 0, _, _, _, _, _, _, _ => none
  | k + 1, x27, x720000, x720001, x720002, x721000, x721001, x721002 => if x27 = true then (some false) else (spec_CertSame.l0 k 0 x720000 x720001 x720002 x721000 x721001 x721002)
def spec_CertSame.l0 : Nat → Int → Int → List (S37) → List (S84) → Int → List (S37) → List (S84) → Option (Bool)
  | 0, _, _, _, _, _, _, _ => none
  | k + 1, x5, x720000, x720001, x720002, x721000, x721001, x721002 => if x5 < (x720002.length : Int) then (if 0 ≤ x5 then (if x5 < (x721002.length : Int) then (if ((!(((rd_T84 x720002 x5).f0.f0) == ((rd_T84 x721002 x5).f0.f0)) || (!(((rd_T84 x720002 x5).f0.f1) == ((rd_T84 x721002 x5).f0.f1)))) || (!(((rd_T84 x720002 x5).f1) == ((rd_T84 x721002 x5).f1)) || (!(((rd_T84 x720002 x5).f2) == ((rd_T84 x721002 x5).f2))))) = true then (some false) else (spec_CertSame.l0 k (wrap64 (x5 + 1)) x720000 x720001 x720002 x721000 x721001 x721002)) else (none)) else (none)) else (some true)
end
def spec_CertSame.f (k : Nat) (a0_0 : Int) (l0_1 : List (S37)) (l0_2 : List (S84)) (a1_0 : Int) (l1_1 : List (S37)) (l1_2 : List (S84)) : Option (Bool) := if a0_0 = a1_0 then ((spec_BoxSame.f k l0_1 l1_1).bind fun t721 => (if t721 = true then (spec_CertSame.j0 k ((l0_2.length : Int) != (l1_2.length : Int)) a0_0 l0_1 l0_2 a1_0 l1_1 l1_2) else (spec_CertSame.j0 k true a0_0 l0_1 l0_2 a1_0 l1_1 l1_2))) else (spec_CertSame.j0 k true a0_0 l0_1 l0_2 a1_0 l1_1 l1_2)
def spec_DrawCertSame.f (k : Nat) (l0 : List Int) : Option (Int × (List S37) × (List S84) × Int × (List S37) × (List S84)) := (spec_l15Open.f l0).bind fun t0 => ((spec_l5State.f k t0.1 t0.2).bind fun t1 => ((spec_l15Open.f l0).bind fun t2 => ((spec_l5State.f k t2.1 t2.2).bind fun t3 => (if (((l0.length : Nat) : Int) > (0 : Int)) then (if ((0 : Int) < ((l0.length : Nat) : Int)) then (if ((Int.tmod (rd l0 (0 : Int)) (2 : Int)) = (1 : Int)) then (some (t1.1, (t1.2).1, ((t1.2).2).1, (wrap64 (t3.1 + (1 : Int))), (t3.2).1, ((t3.2).2).1)) else (some (t1.1, (t1.2).1, ((t1.2).2).1, t3.1, (t3.2).1, ((t3.2).2).1))) else (none)) else (some (t1.1, (t1.2).1, ((t1.2).2).1, t3.1, (t3.2).1, ((t3.2).2).1))))))
def laws_FnCertLike.f (k : Nat) (l0 : List Int) : Option (Bool) := if (((l0.length : Nat) : Int) > (1048576 : Int)) then (some (true)) else ((spec_DrawCertLike.f k l0).bind fun t0 => ((spec_DrawCertEntry.f k l0).bind fun t1 => ((spec_DrawCertSame.f k l0).bind fun t2 => ((impl_CertLike.f k t0.1 (t0.2).1 ((t0.2).2).1 (((t0.2).2).2).1 ((((t0.2).2).2).2).1 (((((t0.2).2).2).2).2).1 ((((((t0.2).2).2).2).2).2).1 (((((((t0.2).2).2).2).2).2).2).1 ((((((((t0.2).2).2).2).2).2).2).2).1 (((((((((t0.2).2).2).2).2).2).2).2).2).1 ((((((((((t0.2).2).2).2).2).2).2).2).2).2).1 (((((((((((t0.2).2).2).2).2).2).2).2).2).2).2).1 ((((((((((((t0.2).2).2).2).2).2).2).2).2).2).2).2).1 ((((((((((((t0.2).2).2).2).2).2).2).2).2).2).2).2).2).bind fun t3 => ((spec_CertLike.f k t0.1 (t0.2).1 ((t0.2).2).1 (((t0.2).2).2).1 ((((t0.2).2).2).2).1 (((((t0.2).2).2).2).2).1 ((((((t0.2).2).2).2).2).2).1 (((((((t0.2).2).2).2).2).2).2).1 ((((((((t0.2).2).2).2).2).2).2).2).1 (((((((((t0.2).2).2).2).2).2).2).2).2).1 ((((((((((t0.2).2).2).2).2).2).2).2).2).2).1 (((((((((((t0.2).2).2).2).2).2).2).2).2).2).2).1 ((((((((((((t0.2).2).2).2).2).2).2).2).2).2).2).2).1 ((((((((((((t0.2).2).2).2).2).2).2).2).2).2).2).2).2).bind fun t4 => (if (t3 == t4) = true then ((impl_CertLike.f k t0.1 (t0.2).1 ((t0.2).2).1 (((t0.2).2).2).1 ((((t0.2).2).2).2).1 (((((t0.2).2).2).2).2).1 ((((((t0.2).2).2).2).2).2).1 t0.1 (t0.2).1 ((t0.2).2).1 (((t0.2).2).2).1 ((((t0.2).2).2).2).1 (((((t0.2).2).2).2).2).1 ((((((t0.2).2).2).2).2).2).1).bind fun t5 => (if t5 = true then ((impl_CertEntry.f k t1.1 (t1.2).1 ((t1.2).2).1 (((t1.2).2).2).1 ((((t1.2).2).2).2).1 (((((t1.2).2).2).2).2).1 (((((t1.2).2).2).2).2).2).bind fun t6 => ((spec_CertEntry.f k t1.1 (t1.2).1 ((t1.2).2).1 (((t1.2).2).2).1 ((((t1.2).2).2).2).1 (((((t1.2).2).2).2).2).1 (((((t1.2).2).2).2).2).2).bind fun t7 => (if (t6 == t7) = true then ((impl_CertSame.f k t2.1 (t2.2).1 ((t2.2).2).1 (((t2.2).2).2).1 ((((t2.2).2).2).2).1 ((((t2.2).2).2).2).2).bind fun t8 => ((spec_CertSame.f k t2.1 (t2.2).1 ((t2.2).2).1 (((t2.2).2).2).1 ((((t2.2).2).2).2).1 ((((t2.2).2).2).2).2).bind fun t9 => (if (t8 == t9) = true then ((impl_CertSame.f k t2.1 (t2.2).1 ((t2.2).2).1 t2.1 (t2.2).1 ((t2.2).2).1).bind fun t10 => (if t10 = true then ((impl_CertOpen.f).bind fun t11 => ((impl_CertEntry.f k true (0 : Int) (0 : Int) ([] : List S39) ([] : List S82) (0 : Int) (0 : Int)).bind fun t12 => (if t12 = true then ((impl_CertEntry.f k false (0 : Int) (0 : Int) ([] : List S39) ([] : List S82) (0 : Int) (0 : Int)).bind fun t13 => (if t13 = true then (some (false)) else ((impl_CertOk.f k t11.1 (t11.2).1 (t11.2).2).bind fun t14 => (if t14 = true then (if (t11.1 = (0 : Int)) then ((impl_CertFold.f k ([] : List S77)).bind fun t15 => ((impl_CertSame.f k t11.1 (t11.2).1 (t11.2).2 t15.1 (t15.2).1 (t15.2).2).bind fun t16 => (some (t16)))) else (some (false))) else (some (false)))))) else (some (false))))) else (some (false)))) else (some (false))))) else (some (false))))) else (some (false)))) else (some (false))))))))
open Go Go.Proofs Am
def tau : TypeId → Type
  | 3 => Int
  | 5 => Int
  | 37 => S37
  | 39 => S39
  | 77 => S77
  | 82 => S82
  | 84 => S84
  | 95 => S95
  | _ => Unit
def tabL : List (TypeId × TI) := [(2, ⟨[.int .i64], .scal⟩), (3, ⟨[.int .i64], .scal⟩), (4, ⟨[.bool], .scal⟩), (5, ⟨[.int .u8], .scal⟩), (6, ⟨[.int .u8], .scal⟩), (9, ⟨[.str], .scal⟩), (10, ⟨[.str], .scal⟩), (22, ⟨[.sl 5], .sl 5⟩), (23, ⟨[.sl 39], .sl 39⟩), (24, ⟨[.sl 82], .sl 82⟩), (26, ⟨[.sl 39, .sl 82, .int .i64, .int .i64], .st [(0, 23), (1, 24), (2, 3), (3, 3)]⟩), (29, ⟨[.sl 37], .sl 37⟩), (37, ⟨[.int .i64, .int .i64], .st [(0, 3), (1, 3)]⟩), (39, ⟨[.int .i64, .int .i64], .st [(0, 3), (1, 3)]⟩), (45, ⟨[.sl 3], .sl 3⟩), (60, ⟨[.sl 95], .sl 95⟩), (65, ⟨[.sl 77], .sl 77⟩), (67, ⟨[.sl 84], .sl 84⟩), (69, ⟨[.int .i64, .sl 37, .sl 84], .st [(0, 3), (1, 29), (2, 67)]⟩), (75, ⟨[.int .i64, .int .i64], .st [(0, 3), (1, 3)]⟩), (77, ⟨[.bool, .int .i64, .int .i64, .sl 39, .sl 82, .int .i64, .int .i64], .st [(0, 4), (1, 75), (3, 26)]⟩), (82, ⟨[.int .i64, .int .i64], .st [(0, 3), (1, 3)]⟩), (84, ⟨[.int .i64, .int .i64, .int .i64, .int .i64], .st [(0, 75), (2, 3), (3, 3)]⟩), (95, ⟨[.int .i64, .int .i64, .int .i64, .int .i64], .st [(0, 3), (1, 3), (2, 3), (3, 3)]⟩), (172, ⟨[.sl 5, .int .i64], .st [(0, 22), (1, 3)]⟩), (173, ⟨[.bool, .bool, .bool, .bool], .arr 4 4⟩)]
def rowT : (e : TypeId) → tau e → List (Lf tau)
  | 3, (x : Int) => [.i x]
  | 5, (x : Int) => [.i x]
  | 37, (x : S37) => [.i x.f0, .i x.f1]
  | 39, (x : S39) => [.i x.f0, .i x.f1]
  | 77, (x : S77) => [.b x.f0, .i x.f1.f0, .i x.f1.f1, .l 39 x.f2.f0, .l 82 x.f2.f1, .i x.f2.f2, .i x.f2.f3]
  | 82, (x : S82) => [.i x.f0, .i x.f1]
  | 84, (x : S84) => [.i x.f0.f0, .i x.f0.f1, .i x.f1, .i x.f2]
  | 95, (x : S95) => [.i x.f0, .i x.f1, .i x.f2, .i x.f3]
  | _, _ => []
instance : (e : TypeId) → Inhabited (tau e) := fun e => by unfold tau; split <;> first | exact ⟨(0 : Int)⟩ | exact ⟨false⟩ | exact ⟨(default : ByteArray)⟩ | exact ⟨[]⟩ | exact ⟨()⟩ | exact ⟨z37⟩ | exact ⟨z39⟩ | exact ⟨z77⟩ | exact ⟨z82⟩ | exact ⟨z84⟩ | exact ⟨z95⟩
def of3 : List (Lf tau) → Int
  | [(.i y0)] => y0
  | _ => (0 : Int)
def of5 : List (Lf tau) → Int
  | [(.i y0)] => y0
  | _ => (0 : Int)
def of37 : List (Lf tau) → S37
  | [(.i y0), (.i y1)] => (⟨y0, y1⟩ : S37)
  | _ => z37
def of39 : List (Lf tau) → S39
  | [(.i y0), (.i y1)] => (⟨y0, y1⟩ : S39)
  | _ => z39
def of77 : List (Lf tau) → S77
  | [(.b y0), (.i y1), (.i y2), (.l 39 y3), (.l 82 y4), (.i y5), (.i y6)] => (⟨y0, (⟨y1, y2⟩ : S75), (⟨y3, y4, y5, y6⟩ : S26)⟩ : S77)
  | _ => z77
def of82 : List (Lf tau) → S82
  | [(.i y0), (.i y1)] => (⟨y0, y1⟩ : S82)
  | _ => z82
def of84 : List (Lf tau) → S84
  | [(.i y0), (.i y1), (.i y2), (.i y3)] => (⟨(⟨y0, y1⟩ : S75), y2, y3⟩ : S84)
  | _ => z84
def of95 : List (Lf tau) → S95
  | [(.i y0), (.i y1), (.i y2), (.i y3)] => (⟨y0, y1, y2, y3⟩ : S95)
  | _ => z95
def ofT : (e : TypeId) → List (Lf tau) → tau e
  | 3, l => of3 l
  | 5, l => of5 l
  | 37, l => of37 l
  | 39, l => of39 l
  | 77, l => of77 l
  | 82, l => of82 l
  | 84, l => of84 l
  | 95, l => of95 l
  | _, _ => default
def TT : Tab tau := ⟨fun t => lookN t tabL, rowT, ofT, fun t => memN t [3, 5, 37, 39, 77, 82, 84, 95]⟩
def byT : TypeId → Nat := fun t => lookD 1 t [(2, 8), (3, 8), (4, 1), (5, 1), (6, 1), (9, 16), (10, 16), (22, 24), (23, 24), (24, 24), (26, 64), (29, 24), (37, 16), (39, 16), (45, 24), (60, 24), (65, 24), (67, 24), (69, 56), (75, 16), (77, 88), (82, 16), (84, 32), (95, 32), (172, 32), (173, 4)]
def modeL : List (Nat × Nat) := [(78, 1), (79, 1), (145, 1), (98, 1), (150, 1), (99, 1), (119, 1), (118, 1)]
def shpL : List (Nat × List PS) := [(80, [.one (.sl 39), .one (.sl 39)]), (81, [.one (.sl 82), .one (.sl 82)]), (18, [.agg [.sl 39, .sl 82, .any, .any], .agg [.sl 39, .sl 82, .any, .any]]), (57, [.agg [.any, .any, .any, .sl 39, .sl 82, .any, .any], .agg [.any, .any, .any, .sl 39, .sl 82, .any, .any]]), (122, [.one .any, .one .any, .one .any]), (83, [.agg [.sl 39, .sl 82, .any, .any]]), (121, [.agg [.any, .any]]), (52, [.agg [.any, .any, .any, .sl 39, .sl 82, .any, .any]]), (111, [.one (.sl 77)]), (82, [.one (.sl 37)]), (20, [.one (.sl 37), .agg [.sl 39, .sl 82, .any, .any]]), (50, [.agg [.any, .sl 37, .sl 84]]), (93, [.one (.sl 37)]), (116, [.one (.sl 84)]), (117, [.one (.sl 37), .agg [.sl 39, .sl 82, .any, .any]]), (47, [.agg [.any, .sl 37, .sl 84], .agg [.any, .any, .any, .sl 39, .sl 82, .any, .any]]), (125, []), (60, []), (112, [.one (.sl 77)]), (44, [.one (.sl 77)]), (101, [.one (.sl 37), .one (.sl 37)]), (39, [.one (.sl 37), .one (.sl 37)]), (113, [.one (.sl 84), .one (.sl 84)]), (45, [.agg [.any, .sl 37, .sl 84], .agg [.any, .sl 37, .sl 84]]), (19, [.agg [.sl 39, .sl 82, .any, .any], .agg [.sl 39, .sl 82, .any, .any]]), (84, [.one .any]), (85, [.one .any]), (86, [.one (.sl 39), .one .any]), (87, [.one (.sl 82), .one .any]), (23, [.agg [.sl 39, .sl 82, .any, .any]]), (120, [.agg [.any, .any]]), (53, [.agg [.any, .any, .any, .sl 39, .sl 82, .any, .any]]), (78, [.one (.sl 5)]), (79, [.one .any, .one .any]), (145, [.one .any, .one (.own 3)]), (149, []), (98, [.one .any]), (150, [.one .any]), (99, [.one .any]), (22, [.one (.sl 37)]), (170, [.one .any]), (153, [.agg [.any, .any, .any, .any]]), (106, [.one (.sl 95)]), (175, [.one (.sl 37), .agg [.own 39, .own 82, .any, .any], .one .any]), (176, [.agg [.own 39, .own 82, .any, .any], .one .any, .one .any]), (166, [.one (.sl 37), .agg [.own 39, .own 82, .any, .any], .one (.own 3), .agg [.any, .any, .any, .any]]), (144, [.one (.sl 37), .one (.sl 95)]), (119, [.one .any, .one (.own 37)]), (55, [.one (.sl 5)]), (54, [.one (.sl 5)]), (114, []), (21, [.one (.sl 37), .agg [.sl 39, .sl 82, .any, .any]]), (167, [.one .any, .one .any]), (146, [.one (.own 37), .agg [.sl 39, .sl 82, .any, .any]]), (155, [.agg [.any, .sl 37, .sl 84], .one .any]), (156, [.one (.sl 84), .agg [.any, .any, .any, .any]]), (115, [.agg [.any, .own 37, .own 84], .agg [.any, .any, .any, .sl 39, .sl 82, .any, .any]]), (157, [.agg [.any, .any, .any, .own 39, .own 82, .any, .any]]), (118, [.one .any]), (58, [.agg [.any, .any, .any, .sl 39, .sl 82, .any, .any], .agg [.any, .any, .any, .sl 39, .sl 82, .any, .any]]), (124, [.one (.sl 37), .one (.sl 37)]), (59, [.agg [.any, .sl 37, .sl 84], .agg [.any, .sl 37, .sl 84]]), (56, [.one (.sl 5)]), (10, [.one (.sl 5)])]
def persL : List (Nat × List Nat) := [(145, [1]), (175, [1]), (176, [0]), (166, [2, 1]), (119, [1]), (146, [0]), (115, [0]), (157, [0])]
def pnL : List (Nat × Nat) := [(145, 1), (166, 1), (119, 1)]
def pnT : FuncId → Nat := fun f => lookD 0 f pnL
def mkE (keep : List (Nat × List (Nat × PS))) (res : List PS) (nb : NB) : Env tau := { T := TT, by_ := byT, mode := fun f => lookD 0 f modeL, shp := fun f => lookD [] f shpL, keep := fun i => lookN i keep, res := res, pers := fun f => lookD [] f persL, pn := pnT, nb := nb }
theorem asked : Asked Try.prog byT tabL := ⟨by kernel_rfl, by kernel_rfl, by kernel_rfl, by kernel_rfl⟩
theorem el_3 : ElOk TT 3 := by
 intro ti h
 replace h : some (⟨[.int .i64], .scal⟩ : TI) = some ti := h
 cases h
 refine ⟨fun x => rfl, fun l hl => ?_⟩
 obtain ⟨y0, l0, e0, h0⟩ := wts_i hl
 have e1 := wts_nil h0
 subst e1
 subst e0
 rfl
theorem el_5 : ElOk TT 5 := by
 intro ti h
 replace h : some (⟨[.int .u8], .scal⟩ : TI) = some ti := h
 cases h
 refine ⟨fun x => rfl, fun l hl => ?_⟩
 obtain ⟨y0, l0, e0, h0⟩ := wts_i hl
 have e1 := wts_nil h0
 subst e1
 subst e0
 rfl
theorem el_37 : ElOk TT 37 := by
 intro ti h
 replace h : some (⟨[.int .i64, .int .i64], .st [(0, 3), (1, 3)]⟩ : TI) = some ti := h
 cases h
 refine ⟨fun x => rfl, fun l hl => ?_⟩
 obtain ⟨y0, l0, e0, h0⟩ := wts_i hl
 obtain ⟨y1, l1, e1, h1⟩ := wts_i h0
 have e2 := wts_nil h1
 subst e2
 subst e1
 subst e0
 rfl
theorem el_39 : ElOk TT 39 := by
 intro ti h
 replace h : some (⟨[.int .i64, .int .i64], .st [(0, 3), (1, 3)]⟩ : TI) = some ti := h
 cases h
 refine ⟨fun x => rfl, fun l hl => ?_⟩
 obtain ⟨y0, l0, e0, h0⟩ := wts_i hl
 obtain ⟨y1, l1, e1, h1⟩ := wts_i h0
 have e2 := wts_nil h1
 subst e2
 subst e1
 subst e0
 rfl
theorem el_77 : ElOk TT 77 := by
 intro ti h
 replace h : some (⟨[.bool, .int .i64, .int .i64, .sl 39, .sl 82, .int .i64, .int .i64], .st [(0, 4), (1, 75), (3, 26)]⟩ : TI) = some ti := h
 cases h
 refine ⟨fun x => rfl, fun l hl => ?_⟩
 obtain ⟨y0, l0, e0, h0⟩ := wts_b hl
 obtain ⟨y1, l1, e1, h1⟩ := wts_i h0
 obtain ⟨y2, l2, e2, h2⟩ := wts_i h1
 obtain ⟨y3, l3, e3, h3⟩ := wts_l h2
 obtain ⟨y4, l4, e4, h4⟩ := wts_l h3
 obtain ⟨y5, l5, e5, h5⟩ := wts_i h4
 obtain ⟨y6, l6, e6, h6⟩ := wts_i h5
 have e7 := wts_nil h6
 subst e7
 subst e6
 subst e5
 subst e4
 subst e3
 subst e2
 subst e1
 subst e0
 rfl
theorem el_82 : ElOk TT 82 := by
 intro ti h
 replace h : some (⟨[.int .i64, .int .i64], .st [(0, 3), (1, 3)]⟩ : TI) = some ti := h
 cases h
 refine ⟨fun x => rfl, fun l hl => ?_⟩
 obtain ⟨y0, l0, e0, h0⟩ := wts_i hl
 obtain ⟨y1, l1, e1, h1⟩ := wts_i h0
 have e2 := wts_nil h1
 subst e2
 subst e1
 subst e0
 rfl
theorem el_84 : ElOk TT 84 := by
 intro ti h
 replace h : some (⟨[.int .i64, .int .i64, .int .i64, .int .i64], .st [(0, 75), (2, 3), (3, 3)]⟩ : TI) = some ti := h
 cases h
 refine ⟨fun x => rfl, fun l hl => ?_⟩
 obtain ⟨y0, l0, e0, h0⟩ := wts_i hl
 obtain ⟨y1, l1, e1, h1⟩ := wts_i h0
 obtain ⟨y2, l2, e2, h2⟩ := wts_i h1
 obtain ⟨y3, l3, e3, h3⟩ := wts_i h2
 have e4 := wts_nil h3
 subst e4
 subst e3
 subst e2
 subst e1
 subst e0
 rfl
theorem el_95 : ElOk TT 95 := by
 intro ti h
 replace h : some (⟨[.int .i64, .int .i64, .int .i64, .int .i64], .st [(0, 3), (1, 3), (2, 3), (3, 3)]⟩ : TI) = some ti := h
 cases h
 refine ⟨fun x => rfl, fun l hl => ?_⟩
 obtain ⟨y0, l0, e0, h0⟩ := wts_i hl
 obtain ⟨y1, l1, e1, h1⟩ := wts_i h0
 obtain ⟨y2, l2, e2, h2⟩ := wts_i h1
 obtain ⟨y3, l3, e3, h3⟩ := wts_i h2
 have e4 := wts_nil h3
 subst e4
 subst e3
 subst e2
 subst e1
 subst e0
 rfl
theorem pq : PQ Try.prog TT byT := pq_of asked rfl (fun e he => by
 have h := memN_iff.1 he
 simp only [List.mem_cons, List.not_mem_nil, or_false] at h
 rcases h with rfl | rfl | rfl | rfl | rfl | rfl | rfl | rfl
 · exact el_3
 · exact el_5
 · exact el_37
 · exact el_39
 · exact el_77
 · exact el_82
 · exact el_84
 · exact el_95)
theorem hmix : Try.prog.follows .mixedOrders = true := by kernel_rfl
noncomputable def c_80 (args : List (AV tau)) (m : Mem tau) (κ : AV tau → Mem tau → Option Unit) : Option Unit := match args, m.bx, m.rw with
  | [b0, b1], [], [] => bO (asSl 39 b0) fun l0 => bO (asSl 39 b1) fun l1 => callX (fun n => impl_same_impl_Read.f n l0 l1) fun t => κ (.bool (t)) ⟨[], []⟩
  | _, _, _ => none
def E_80 : Env tau := mkE [(0, [(0, .one (.own 39)), (1, .one (.own 39))]), (1, [(0, .one (.own 39)), (1, .one (.own 39))]), (2, []), (3, [(0, .one (.own 39)), (1, .one (.own 39))]), (4, [(0, .one (.own 39)), (1, .one (.own 39)), (12, .one .any), (13, .one .any)]), (5, [(0, .one (.own 39)), (1, .one (.own 39)), (12, .one .any), (13, .one .any)]), (6, [(0, .one (.own 39)), (1, .one (.own 39)), (5, .one .any), (12, .one .any), (13, .one .any)]), (7, []), (8, [(0, .one (.own 39)), (1, .one (.own 39)), (12, .one .any), (13, .one .any)]), (9, [])] [.one .any] ⟨0, 0⟩
noncomputable def c_81 (args : List (AV tau)) (m : Mem tau) (κ : AV tau → Mem tau → Option Unit) : Option Unit := match args, m.bx, m.rw with
  | [b0, b1], [], [] => bO (asSl 82 b0) fun l0 => bO (asSl 82 b1) fun l1 => callX (fun n => impl_same_impl_Put.f n l0 l1) fun t => κ (.bool (t)) ⟨[], []⟩
  | _, _, _ => none
def E_81 : Env tau := mkE [(0, [(0, .one (.own 82)), (1, .one (.own 82))]), (1, [(0, .one (.own 82)), (1, .one (.own 82))]), (2, []), (3, [(0, .one (.own 82)), (1, .one (.own 82))]), (4, [(0, .one (.own 82)), (1, .one (.own 82)), (12, .one .any), (13, .one .any)]), (5, [(0, .one (.own 82)), (1, .one (.own 82)), (12, .one .any), (13, .one .any)]), (6, [(0, .one (.own 82)), (1, .one (.own 82)), (5, .one .any), (12, .one .any), (13, .one .any)]), (7, []), (8, [(0, .one (.own 82)), (1, .one (.own 82)), (12, .one .any), (13, .one .any)]), (9, [])] [.one .any] ⟨0, 0⟩
noncomputable def c_18 (args : List (AV tau)) (m : Mem tau) (κ : AV tau → Mem tau → Option Unit) : Option Unit := match args, m.bx, m.rw with
  | [.agg [b0, b1, b2, b3], .agg [b4, b5, b6, b7]], [], [] => bO (asSl 39 b0) fun l0_0 => bO (asSl 82 b1) fun l0_1 => bO (asI .i64 b2) fun a0_2 => bO (asI .i64 b3) fun a0_3 => bO (asSl 39 b4) fun l1_0 => bO (asSl 82 b5) fun l1_1 => bO (asI .i64 b6) fun a1_2 => bO (asI .i64 b7) fun a1_3 => callX (fun n => impl_ExecSame.f n l0_0 l0_1 a0_2 a0_3 l1_0 l1_1 a1_2 a1_3) fun t => κ (.bool (t)) ⟨[], []⟩
  | _, _, _ => none
def E_18 : Env tau := mkE [(0, [(0, .agg [.own 39, .own 82, .any, .any]), (1, .agg [.own 39, .own 82, .any, .any])]), (1, [(2, .one .any), (3, .one .any)])] [.one .any] ⟨0, 0⟩
noncomputable def c_57 (args : List (AV tau)) (m : Mem tau) (κ : AV tau → Mem tau → Option Unit) : Option Unit := match args, m.bx, m.rw with
  | [.agg [b0, b1, b2, b3, b4, b5, b6], .agg [b7, b8, b9, b10, b11, b12, b13]], [], [] => bO (asB b0) fun a0_0 => bO (asI .i64 b1) fun a0_1 => bO (asI .i64 b2) fun a0_2 => bO (asSl 39 b3) fun l0_3 => bO (asSl 82 b4) fun l0_4 => bO (asI .i64 b5) fun a0_5 => bO (asI .i64 b6) fun a0_6 => bO (asB b7) fun a1_0 => bO (asI .i64 b8) fun a1_1 => bO (asI .i64 b9) fun a1_2 => bO (asSl 39 b10) fun l1_3 => bO (asSl 82 b11) fun l1_4 => bO (asI .i64 b12) fun a1_5 => bO (asI .i64 b13) fun a1_6 => callX (fun n => impl_CertLike.f n a0_0 a0_1 a0_2 l0_3 l0_4 a0_5 a0_6 a1_0 a1_1 a1_2 l1_3 l1_4 a1_5 a1_6) fun t => κ (.bool (t)) ⟨[], []⟩
  | _, _, _ => none
def E_57 : Env tau := mkE [(0, [(0, .agg [.any, .any, .any, .own 39, .own 82, .any, .any]), (1, .agg [.any, .any, .any, .own 39, .own 82, .any, .any])]), (1, [(2, .one .any), (3, .one .any)])] [.one .any] ⟨0, 0⟩
noncomputable def c_122 (args : List (AV tau)) (m : Mem tau) (κ : AV tau → Mem tau → Option Unit) : Option Unit := match args, m.bx, m.rw with
  | [b0, b1, b2], [], [] => bO (asI .i64 b0) fun a0 => bO (asI .i64 b1) fun a1 => bO (asI .i64 b2) fun a2 => callX (fun n => impl_in.f a0 a1 a2) fun t => κ (.bool (t)) ⟨[], []⟩
  | _, _, _ => none
def E_122 : Env tau := mkE [(0, [(0, .one .any), (1, .one .any), (2, .one .any)]), (1, [(0, .one .any), (1, .one .any), (2, .one .any)])] [.one .any] ⟨0, 0⟩
noncomputable def c_83 (args : List (AV tau)) (m : Mem tau) (κ : AV tau → Mem tau → Option Unit) : Option Unit := match args, m.bx, m.rw with
  | [.agg [b0, b1, b2, b3]], [], [] => bO (asSl 39 b0) fun l0_0 => bO (asSl 82 b1) fun l0_1 => bO (asI .i64 b2) fun a0_2 => bO (asI .i64 b3) fun a0_3 => callX (fun n => impl_ExecOk.f n l0_0 l0_1 a0_2 a0_3) fun t => κ (.bool (t)) ⟨[], []⟩
  | _, _, _ => none
def E_83 : Env tau := mkE [(0, [(0, .agg [.own 39, .own 82, .any, .any])]), (1, [(1, .one .any)]), (2, []), (3, [(1, .one .any)]), (4, [(1, .one .any), (3, .one .any), (4, .one .any)]), (5, [(1, .one .any), (3, .one .any), (4, .one .any), (47, .one (.own 39)), (48, .one .any), (49, .one .any)]), (6, [(1, .one .any), (3, .one .any), (4, .one .any), (47, .one (.own 39)), (48, .one .any), (49, .one .any)]), (7, [(1, .one .any), (3, .one .any), (4, .one .any), (6, .one .any), (47, .one (.own 39)), (48, .one .any), (49, .one .any)]), (8, []), (9, [(1, .one .any), (3, .one .any), (4, .one .any), (6, .one .any), (47, .one (.own 39)), (48, .one .any), (49, .one .any)]), (10, [(1, .one .any), (3, .one .any), (4, .one .any), (47, .one (.own 39)), (48, .one .any), (49, .one .any)]), (11, [(1, .one .any), (4, .one .any)]), (12, [(4, .one .any), (74, .one (.own 82)), (75, .one .any), (76, .one .any)]), (13, [(4, .one .any), (74, .one (.own 82)), (75, .one .any), (76, .one .any)]), (14, [(4, .one .any), (8, .one .any), (74, .one (.own 82)), (75, .one .any), (76, .one .any)]), (15, []), (16, [(4, .one .any), (8, .one .any), (74, .one (.own 82)), (75, .one .any), (76, .one .any)]), (17, [(4, .one .any), (74, .one (.own 82)), (75, .one .any), (76, .one .any)]), (18, [])] [.one .any] ⟨0, 0⟩
noncomputable def c_121 (args : List (AV tau)) (m : Mem tau) (κ : AV tau → Mem tau → Option Unit) : Option Unit := match args, m.bx, m.rw with
  | [.agg [b0, b1]], [], [] => bO (asI .i64 b0) fun a0_0 => bO (asI .i64 b1) fun a0_1 => callX (fun n => impl_reqOk.f a0_0 a0_1) fun t => κ (.bool (t)) ⟨[], []⟩
  | _, _, _ => none
def E_121 : Env tau := mkE [(0, [(0, .agg [.any, .any])]), (1, [(1, .one .any)])] [.one .any] ⟨0, 0⟩
noncomputable def c_52 (args : List (AV tau)) (m : Mem tau) (κ : AV tau → Mem tau → Option Unit) : Option Unit := match args, m.bx, m.rw with
  | [.agg [b0, b1, b2, b3, b4, b5, b6]], [], [] => bO (asB b0) fun a0_0 => bO (asI .i64 b1) fun a0_1 => bO (asI .i64 b2) fun a0_2 => bO (asSl 39 b3) fun l0_3 => bO (asSl 82 b4) fun l0_4 => bO (asI .i64 b5) fun a0_5 => bO (asI .i64 b6) fun a0_6 => callX (fun n => impl_CertEntry.f n a0_0 a0_1 a0_2 l0_3 l0_4 a0_5 a0_6) fun t => κ (.bool (t)) ⟨[], []⟩
  | _, _, _ => none
def E_52 : Env tau := mkE [(0, [(0, .agg [.any, .any, .any, .own 39, .own 82, .any, .any])]), (1, [(1, .one .any)]), (2, [(1, .one .any)]), (3, [(1, .one .any)])] [.one .any] ⟨0, 0⟩
noncomputable def c_111 (args : List (AV tau)) (m : Mem tau) (κ : AV tau → Mem tau → Option Unit) : Option Unit := match args, m.bx, m.rw with
  | [b0], [], [] => bO (asSl 77 b0) fun l0 => callX (fun n => impl_listOk.f n l0) fun t => κ (.bool (t)) ⟨[], []⟩
  | _, _, _ => none
def E_111 : Env tau := mkE [(0, [(0, .one (.own 77))]), (1, [(0, .one (.own 77))]), (2, [(0, .one (.own 77)), (5, .one (.own 77)), (6, .one .any), (7, .one .any)]), (3, [(0, .one (.own 77)), (5, .one (.own 77)), (6, .one .any), (7, .one .any)]), (4, [(0, .one (.own 77)), (4, .one .any), (5, .one (.own 77)), (6, .one .any), (7, .one .any)]), (5, []), (6, [(0, .one (.own 77)), (5, .one (.own 77)), (6, .one .any), (7, .one .any)]), (7, [(0, .one (.own 77))])] [.one .any] ⟨0, 0⟩
noncomputable def c_82 (args : List (AV tau)) (m : Mem tau) (κ : AV tau → Mem tau → Option Unit) : Option Unit := match args, m.bx, m.rw with
  | [b0], [], [] => bO (asSl 37 b0) fun l0 => callX (fun n => impl_BoxOk.f n l0) fun t => κ (.bool (t)) ⟨[], []⟩
  | _, _, _ => none
def E_82 : Env tau := mkE [(0, [(0, .one (.own 37))]), (1, [(0, .one (.own 37))]), (2, [(0, .one (.own 37)), (5, .one (.own 37)), (6, .one .any), (7, .one .any)]), (3, [(0, .one (.own 37)), (5, .one (.own 37)), (6, .one .any), (7, .one .any)]), (4, [(0, .one (.own 37)), (4, .one .any), (5, .one (.own 37)), (6, .one .any), (7, .one .any)]), (5, []), (6, [(0, .one (.own 37)), (5, .one (.own 37)), (6, .one .any), (7, .one .any)]), (7, [(0, .one (.own 37))])] [.one .any] ⟨0, 0⟩
noncomputable def c_20 (args : List (AV tau)) (m : Mem tau) (κ : AV tau → Mem tau → Option Unit) : Option Unit := match args, m.bx, m.rw with
  | [b0, .agg [b1, b2, b3, b4]], [], [] => bO (asSl 37 b0) fun l0 => bO (asSl 39 b1) fun l1_0 => bO (asSl 82 b2) fun l1_1 => bO (asI .i64 b3) fun a1_2 => bO (asI .i64 b4) fun a1_3 => callX (fun n => impl_ExecFresh.f n l0 l1_0 l1_1 a1_2 a1_3) fun t => κ (.bool (t)) ⟨[], []⟩
  | _, _, _ => none
def E_20 : Env tau := mkE [(0, [(0, .one (.own 37)), (1, .agg [.own 39, .own 82, .any, .any])]), (1, [(0, .one (.own 37)), (3, .one .any)]), (2, []), (3, [(0, .one (.own 37)), (3, .one .any)]), (4, [(0, .one (.own 37)), (16, .one (.own 39)), (17, .one .any), (18, .one .any)]), (5, [(0, .one (.own 37)), (16, .one (.own 39)), (17, .one .any), (18, .one .any)]), (6, [(0, .one (.own 37)), (6, .one .any), (16, .one (.own 39)), (17, .one .any), (18, .one .any)]), (7, []), (8, [(0, .one (.own 37)), (16, .one (.own 39)), (17, .one .any), (18, .one .any)]), (9, [])] [.one .any] ⟨0, 0⟩
noncomputable def c_50 (args : List (AV tau)) (m : Mem tau) (κ : AV tau → Mem tau → Option Unit) : Option Unit := match args, m.bx, m.rw with
  | [.agg [b0, b1, b2]], [], [] => bO (asI .i64 b0) fun a0_0 => bO (asSl 37 b1) fun l0_1 => bO (asSl 84 b2) fun l0_2 => callX (fun n => impl_CertOk.f n a0_0 l0_1 l0_2) fun t => κ (.bool (t)) ⟨[], []⟩
  | _, _, _ => none
def E_50 : Env tau := mkE [(0, [(0, .agg [.any, .own 37, .own 84])]), (1, [(1, .one .any)]), (2, [(1, .one .any), (6, .one (.own 84)), (7, .one .any), (8, .one .any)]), (3, [(1, .one .any), (6, .one (.own 84)), (7, .one .any), (8, .one .any)]), (4, [(1, .one .any), (3, .one .any), (4, .one .any), (6, .one (.own 84)), (7, .one .any), (8, .one .any)]), (5, []), (6, [(1, .one .any), (6, .one (.own 84)), (7, .one .any), (8, .one .any)]), (7, [(1, .one .any)])] [.one .any] ⟨0, 0⟩
noncomputable def c_93 (args : List (AV tau)) (m : Mem tau) (κ : AV tau → Mem tau → Option Unit) : Option Unit := match args, m.bx, m.rw with
  | [b0], [], [] => bO (asSl 37 b0) fun l0 => callX (fun n => impl_copied_impl_Box.f l0) fun t => κ (.own 0 0) ⟨[], [some ⟨37, t, 0⟩]⟩
  | _, _, _ => none
def E_93 : Env tau := mkE [(0, [(0, .one (.own 37))]), (1, [(0, .one (.own 37))]), (2, []), (3, [(0, .one (.own 37))]), (4, [(0, .one (.own 37)), (3, .one (.own 37))]), (5, [(3, .one (.own 37))])] [.one (.own 37)] ⟨0, 0⟩
noncomputable def c_116 (args : List (AV tau)) (m : Mem tau) (κ : AV tau → Mem tau → Option Unit) : Option Unit := match args, m.bx, m.rw with
  | [b0], [], [] => bO (asSl 84 b0) fun l0 => callX (fun n => impl_copied_impl_Done.f l0) fun t => κ (.own 0 0) ⟨[], [some ⟨84, t, 0⟩]⟩
  | _, _, _ => none
def E_116 : Env tau := mkE [(0, [(0, .one (.own 84))]), (1, [(0, .one (.own 84))]), (2, []), (3, [(0, .one (.own 84))]), (4, [(0, .one (.own 84)), (3, .one (.own 84))]), (5, [(3, .one (.own 84))])] [.one (.own 84)] ⟨0, 0⟩
noncomputable def c_117 (args : List (AV tau)) (m : Mem tau) (κ : AV tau → Mem tau → Option Unit) : Option Unit := match args, m.bx, m.rw with
  | [b0, .agg [b1, b2, b3, b4]], [], [] => bO (asSl 37 b0) fun l0 => bO (asSl 39 b1) fun l1_0 => bO (asSl 82 b2) fun l1_1 => bO (asI .i64 b3) fun a1_2 => bO (asI .i64 b4) fun a1_3 => callX (fun n => impl_ExecDo.f n l0 l1_0 l1_1 a1_2 a1_3) fun t => κ (.own 0 0) ⟨[], [some ⟨37, t, 0⟩]⟩
  | _, _, _ => none
def E_117 : Env tau := mkE [(0, [(0, .one (.own 37)), (1, .agg [.own 39, .own 82, .any, .any])]), (1, [(0, .one (.own 37)), (3, .one .any)]), (2, []), (3, [(0, .one (.own 37)), (3, .one .any)]), (4, [(3, .one .any), (5, .one (.own 37))]), (5, [(5, .one (.own 37)), (19, .one (.own 82)), (20, .one .any), (21, .one .any)]), (6, [(5, .one (.own 37)), (19, .one (.own 82)), (20, .one .any), (21, .one .any)]), (7, [(5, .one (.own 37)), (7, .one .any), (19, .one (.own 82)), (20, .one .any), (21, .one .any)]), (8, [(5, .one (.own 37)), (19, .one (.own 82)), (20, .one .any), (21, .one .any)]), (9, [(5, .one (.own 37))])] [.one (.own 37)] ⟨0, 0⟩
noncomputable def c_47 (args : List (AV tau)) (m : Mem tau) (κ : AV tau → Mem tau → Option Unit) : Option Unit := match args, m.bx, m.rw with
  | [.agg [b0, b1, b2], .agg [b3, b4, b5, b6, b7, b8, b9]], [], [] => bO (asI .i64 b0) fun a0_0 => bO (asSl 37 b1) fun l0_1 => bO (asSl 84 b2) fun l0_2 => bO (asB b3) fun a1_0 => bO (asI .i64 b4) fun a1_1 => bO (asI .i64 b5) fun a1_2 => bO (asSl 39 b6) fun l1_3 => bO (asSl 82 b7) fun l1_4 => bO (asI .i64 b8) fun a1_5 => bO (asI .i64 b9) fun a1_6 => callX (fun n => impl_CertApply.f n a0_0 l0_1 l0_2 a1_0 a1_1 a1_2 l1_3 l1_4 a1_5 a1_6) fun t => κ (.tup [.agg [.int .i64 (t.1), .own 0 0, .own 1 0], .int .i64 (t.2.2.2)]) ⟨[], [some ⟨37, t.2.1, 0⟩, some ⟨84, t.2.2.1, 0⟩]⟩
  | _, _, _ => none
def E_47 : Env tau := mkE [(0, [(0, .agg [.any, .own 37, .own 84]), (1, .agg [.any, .any, .any, .own 39, .own 82, .any, .any])]), (1, [(2, .one .any), (3, .one .any), (4, .one .any)]), (2, [(4, .one .any)]), (3, [(2, .one .any), (3, .one .any), (4, .one .any)]), (4, [(2, .one .any), (3, .one .any), (4, .one .any), (6, .one .any)]), (5, [(2, .one .any), (4, .one .any), (6, .one .any)]), (6, [(4, .one .any), (6, .one .any)]), (7, [(2, .one .any), (3, .one .any), (4, .one .any), (6, .one .any)]), (8, [(2, .one .any), (3, .one .any), (4, .one .any), (6, .one .any), (43, .one (.own 84)), (44, .one .any), (45, .one .any)]), (9, [(2, .one .any), (3, .one .any), (4, .one .any), (6, .one .any), (43, .one (.own 84)), (44, .one .any), (45, .one .any)]), (10, [(2, .one .any), (3, .one .any), (4, .one .any), (6, .one .any), (8, .one .any), (43, .one (.own 84)), (44, .one .any), (45, .one .any)]), (11, [(2, .one .any), (3, .one .any), (4, .one .any), (6, .one .any), (8, .one .any)]), (12, [(3, .one .any), (4, .one .any), (6, .one .any), (8, .one .any)]), (13, [(4, .one .any), (6, .one .any)]), (14, [(4, .one .any), (6, .one .any)]), (15, [(2, .one .any), (3, .one .any), (4, .one .any), (6, .one .any), (43, .one (.own 84)), (44, .one .any), (45, .one .any)]), (16, [(2, .one .any), (3, .one .any), (4, .one .any), (6, .one .any)]), (17, [(2, .one .any), (3, .one .any), (4, .one .any), (6, .one .any), (9, .one .any)]), (18, [(2, .one .any), (3, .one .any), (4, .one .any), (6, .one .any), (9, .one .any)]), (19, [(2, .one .any), (3, .one .any), (4, .one .any), (6, .one .any), (9, .one .any)]), (20, [(2, .one .any), (4, .one .any), (6, .one .any), (9, .one .any)]), (21, [(2, .one .any), (3, .one .any), (4, .one .any), (6, .one .any), (9, .one .any)]), (22, [(2, .one .any), (4, .one .any), (6, .one .any), (9, .one .any)]), (23, [(2, .one .any), (4, .one .any), (6, .one .any), (9, .one .any)]), (24, [(2, .one .any), (4, .one .any), (6, .one .any), (9, .one .any), (10, .one (.own 84))]), (25, [(2, .one .any), (4, .one .any), (6, .one .any), (9, .one .any), (10, .one (.own 84)), (11, .one .any)]), (26, [(4, .one .any), (6, .one .any), (9, .one .any), (10, .one (.own 84)), (11, .one .any), (107, .one (.own 84)), (108, .one .any), (109, .one .any)]), (27, [(4, .one .any), (6, .one .any), (9, .one .any), (10, .one (.own 84)), (11, .one .any), (107, .one (.own 84)), (108, .one .any), (109, .one .any)]), (28, [(4, .one .any), (6, .one .any), (9, .one .any), (10, .one (.own 84)), (11, .one .any), (13, .one .any), (107, .one (.own 84)), (108, .one .any), (109, .one .any)]), (29, [(4, .one .any), (6, .one .any), (9, .one .any), (10, .one (.own 84)), (13, .one .any), (107, .one (.own 84)), (108, .one .any), (109, .one .any)]), (30, [(4, .one .any), (6, .one .any), (9, .one .any), (10, .one (.own 84)), (13, .one .any), (107, .one (.own 84)), (108, .one .any), (109, .one .any)]), (31, [(4, .one .any), (6, .one .any), (9, .one .any), (10, .one (.own 84)), (11, .one .any), (13, .one .any), (107, .one (.own 84)), (108, .one .any), (109, .one .any)]), (32, [(4, .one .any), (6, .one .any), (9, .one .any), (10, .one (.own 84)), (11, .one .any), (13, .one .any), (107, .one (.own 84)), (108, .one .any), (109, .one .any)]), (33, [(4, .one .any), (6, .one .any), (9, .one .any), (10, .one (.own 84)), (11, .one .any), (107, .one (.own 84)), (108, .one .any), (109, .one .any)]), (34, [(4, .one .any), (6, .one .any), (9, .one .any), (10, .one (.own 84)), (11, .one .any)]), (35, [(4, .one .any), (6, .one .any), (9, .one .any), (10, .one (.own 84))]), (36, [(4, .one .any), (6, .one .any), (9, .one .any), (10, .one (.own 84))]), (37, [(4, .one .any), (6, .one .any), (9, .one .any)])] [.agg [.any, .own 37, .own 84], .one .any] ⟨0, 0⟩
noncomputable def c_125 (args : List (AV tau)) (m : Mem tau) (κ : AV tau → Mem tau → Option Unit) : Option Unit := match args, m.bx, m.rw with
  | [], [], [] => callX (fun n => impl_BoxOpen.f) fun t => κ (.own 0 0) ⟨[], [some ⟨37, t, 0⟩]⟩
  | _, _, _ => none
def E_125 : Env tau := mkE [(0, []), (1, [])] [.one (.own 37)] ⟨0, 0⟩
noncomputable def c_60 (args : List (AV tau)) (m : Mem tau) (κ : AV tau → Mem tau → Option Unit) : Option Unit := match args, m.bx, m.rw with
  | [], [], [] => callX (fun n => impl_CertOpen.f) fun t => κ (.agg [.int .i64 (t.1), .own 0 0, .own 1 0]) ⟨[], [some ⟨37, t.2.1, 0⟩, some ⟨84, t.2.2, 0⟩]⟩
  | _, _, _ => none
def E_60 : Env tau := mkE [(0, []), (1, [(0, .one .any)])] [.agg [.any, .own 37, .own 84]] ⟨0, 0⟩
noncomputable def c_112 (args : List (AV tau)) (m : Mem tau) (κ : AV tau → Mem tau → Option Unit) : Option Unit := match args, m.bx, m.rw with
  | [b0], [], [] => bO (asSl 77 b0) fun l0 => callX (fun n => impl_folded.f n l0) fun t => κ (.tup [.agg [.int .i64 (t.1), .own 0 0, .own 1 0], .own 2 0]) ⟨[], [some ⟨37, t.2.1, 0⟩, some ⟨84, t.2.2.1, 0⟩, some ⟨3, t.2.2.2, 0⟩]⟩
  | _, _, _ => none
def E_112 : Env tau := mkE [(0, [(0, .one (.own 77))]), (1, [(0, .one (.own 77)), (2, .one .any)]), (2, [(0, .one (.own 77)), (2, .one .any), (4, .one .any)]), (3, [(0, .one (.own 77)), (2, .one .any), (4, .one .any), (5, .one (.own 3))]), (4, [(2, .one .any), (4, .one .any), (5, .one (.own 3)), (11, .one (.own 77)), (12, .one .any), (13, .one .any)]), (5, [(2, .one .any), (4, .one .any), (5, .one (.own 3)), (11, .one (.own 77)), (12, .one .any), (13, .one .any)]), (6, [(2, .one .any), (4, .one .any), (5, .one (.own 3)), (7, .one .any), (11, .one (.own 77)), (12, .one .any), (13, .one .any)]), (7, [(2, .one .any), (4, .one .any), (5, .one (.own 3)), (8, .one .any), (9, .one .any), (11, .one (.own 77)), (12, .one .any), (13, .one .any)]), (8, [(2, .one .any), (4, .one .any), (5, .one (.own 3)), (9, .one .any), (11, .one (.own 77)), (12, .one .any), (13, .one .any)]), (9, [(2, .one .any), (4, .one .any), (5, .one (.own 3)), (11, .one (.own 77)), (12, .one .any), (13, .one .any)]), (10, [(2, .one .any), (4, .one .any), (5, .one (.own 3))])] [.agg [.any, .own 37, .own 84], .one (.own 3)] ⟨0, 0⟩
noncomputable def c_44 (args : List (AV tau)) (m : Mem tau) (κ : AV tau → Mem tau → Option Unit) : Option Unit := match args, m.bx, m.rw with
  | [b0], [], [] => bO (asSl 77 b0) fun l0 => callX (fun n => impl_CertFold.f n l0) fun t => κ (.agg [.int .i64 (t.1), .own 0 0, .own 1 0]) ⟨[], [some ⟨37, t.2.1, 0⟩, some ⟨84, t.2.2, 0⟩]⟩
  | _, _, _ => none
def E_44 : Env tau := mkE [(0, [(0, .one (.own 77))]), (1, [(0, .one (.own 77)), (2, .one .any)]), (2, [(2, .one .any)]), (3, [(0, .one (.own 77)), (2, .one .any)]), (4, [(2, .one .any), (3, .one .any)])] [.agg [.any, .own 37, .own 84]] ⟨0, 0⟩
noncomputable def c_101 (args : List (AV tau)) (m : Mem tau) (κ : AV tau → Mem tau → Option Unit) : Option Unit := match args, m.bx, m.rw with
  | [b0, b1], [], [] => bO (asSl 37 b0) fun l0 => bO (asSl 37 b1) fun l1 => callX (fun n => impl_same_impl_Box.f n l0 l1) fun t => κ (.bool (t)) ⟨[], []⟩
  | _, _, _ => none
def E_101 : Env tau := mkE [(0, [(0, .one (.own 37)), (1, .one (.own 37))]), (1, [(0, .one (.own 37)), (1, .one (.own 37))]), (2, []), (3, [(0, .one (.own 37)), (1, .one (.own 37))]), (4, [(0, .one (.own 37)), (1, .one (.own 37)), (12, .one .any), (13, .one .any)]), (5, [(0, .one (.own 37)), (1, .one (.own 37)), (12, .one .any), (13, .one .any)]), (6, [(0, .one (.own 37)), (1, .one (.own 37)), (5, .one .any), (12, .one .any), (13, .one .any)]), (7, []), (8, [(0, .one (.own 37)), (1, .one (.own 37)), (12, .one .any), (13, .one .any)]), (9, [])] [.one .any] ⟨0, 0⟩
noncomputable def c_39 (args : List (AV tau)) (m : Mem tau) (κ : AV tau → Mem tau → Option Unit) : Option Unit := match args, m.bx, m.rw with
  | [b0, b1], [], [] => bO (asSl 37 b0) fun l0 => bO (asSl 37 b1) fun l1 => callX (fun n => impl_BoxSame.f n l0 l1) fun t => κ (.bool (t)) ⟨[], []⟩
  | _, _, _ => none
def E_39 : Env tau := mkE [(0, [(0, .one (.own 37)), (1, .one (.own 37))]), (1, [(0, .one (.own 37)), (1, .one (.own 37))])] [.one .any] ⟨0, 0⟩
noncomputable def c_113 (args : List (AV tau)) (m : Mem tau) (κ : AV tau → Mem tau → Option Unit) : Option Unit := match args, m.bx, m.rw with
  | [b0, b1], [], [] => bO (asSl 84 b0) fun l0 => bO (asSl 84 b1) fun l1 => callX (fun n => impl_same_impl_Done.f n l0 l1) fun t => κ (.bool (t)) ⟨[], []⟩
  | _, _, _ => none
def E_113 : Env tau := mkE [(0, [(0, .one (.own 84)), (1, .one (.own 84))]), (1, [(0, .one (.own 84)), (1, .one (.own 84))]), (2, []), (3, [(0, .one (.own 84)), (1, .one (.own 84))]), (4, [(0, .one (.own 84)), (1, .one (.own 84)), (12, .one .any), (13, .one .any)]), (5, [(0, .one (.own 84)), (1, .one (.own 84)), (12, .one .any), (13, .one .any)]), (6, [(0, .one (.own 84)), (1, .one (.own 84)), (5, .one .any), (12, .one .any), (13, .one .any)]), (7, []), (8, [(0, .one (.own 84)), (1, .one (.own 84)), (12, .one .any), (13, .one .any)]), (9, [])] [.one .any] ⟨0, 0⟩
noncomputable def c_45 (args : List (AV tau)) (m : Mem tau) (κ : AV tau → Mem tau → Option Unit) : Option Unit := match args, m.bx, m.rw with
  | [.agg [b0, b1, b2], .agg [b3, b4, b5]], [], [] => bO (asI .i64 b0) fun a0_0 => bO (asSl 37 b1) fun l0_1 => bO (asSl 84 b2) fun l0_2 => bO (asI .i64 b3) fun a1_0 => bO (asSl 37 b4) fun l1_1 => bO (asSl 84 b5) fun l1_2 => callX (fun n => impl_CertSame.f n a0_0 l0_1 l0_2 a1_0 l1_1 l1_2) fun t => κ (.bool (t)) ⟨[], []⟩
  | _, _, _ => none
def E_45 : Env tau := mkE [(0, [(0, .agg [.any, .own 37, .own 84]), (1, .agg [.any, .own 37, .own 84])]), (1, [(2, .one .any), (3, .one .any)])] [.one .any] ⟨0, 0⟩
noncomputable def c_19 (args : List (AV tau)) (m : Mem tau) (κ : AV tau → Mem tau → Option Unit) : Option Unit := match args, m.bx, m.rw with
  | [.agg [b0, b1, b2, b3], .agg [b4, b5, b6, b7]], [], [] => bO (asSl 39 b0) fun l0_0 => bO (asSl 82 b1) fun l0_1 => bO (asI .i64 b2) fun a0_2 => bO (asI .i64 b3) fun a0_3 => bO (asSl 39 b4) fun l1_0 => bO (asSl 82 b5) fun l1_1 => bO (asI .i64 b6) fun a1_2 => bO (asI .i64 b7) fun a1_3 => callX (fun n => spec_ExecSame.f n l0_0 l0_1 a0_2 a0_3 l1_0 l1_1 a1_2 a1_3) fun t => κ (.bool (t)) ⟨[], []⟩
  | _, _, _ => none
def E_19 : Env tau := mkE [(0, [(0, .agg [.own 39, .own 82, .any, .any]), (1, .agg [.own 39, .own 82, .any, .any])]), (1, [(2, .one .any), (3, .one .any)]), (2, []), (3, [(2, .one .any), (3, .one .any)]), (4, [(2, .one .any), (3, .one .any), (5, .one .any)]), (5, [(2, .one .any), (3, .one .any), (5, .one .any)]), (6, [(2, .one .any), (3, .one .any), (5, .one .any)]), (7, []), (8, [(2, .one .any), (3, .one .any)]), (9, [(2, .one .any), (3, .one .any), (6, .one .any)]), (10, [(2, .one .any), (3, .one .any), (6, .one .any)]), (11, [(2, .one .any), (3, .one .any), (6, .one .any)]), (12, []), (13, [])] [.one .any] ⟨0, 0⟩
noncomputable def c_84 (args : List (AV tau)) (m : Mem tau) (κ : AV tau → Mem tau → Option Unit) : Option Unit := match args, m.bx, m.rw with
  | [b0], [], [] => bO (asI .i64 b0) fun a0 => callX (fun n => spec_l1Num.f a0) fun t => κ (.bool (t)) ⟨[], []⟩
  | _, _, _ => none
def E_84 : Env tau := mkE [(0, [(0, .one .any)]), (1, [(0, .one .any)])] [.one .any] ⟨0, 0⟩
noncomputable def c_85 (args : List (AV tau)) (m : Mem tau) (κ : AV tau → Mem tau → Option Unit) : Option Unit := match args, m.bx, m.rw with
  | [b0], [], [] => bO (asI .i64 b0) fun a0 => callX (fun n => spec_l2Box.f a0) fun t => κ (.bool (t)) ⟨[], []⟩
  | _, _, _ => none
def E_85 : Env tau := mkE [(0, [(0, .one .any)]), (1, [(0, .one .any)])] [.one .any] ⟨0, 0⟩
noncomputable def c_86 (args : List (AV tau)) (m : Mem tau) (κ : AV tau → Mem tau → Option Unit) : Option Unit := match args, m.bx, m.rw with
  | [b0, b1], [], [] => bO (asSl 39 b0) fun l0 => bO (asI .i64 b1) fun a1 => callX (fun n => spec_l3Saw.f n l0 a1) fun t => κ (.bool (t)) ⟨[], []⟩
  | _, _, _ => none
def E_86 : Env tau := mkE [(0, [(0, .one (.own 39)), (1, .one .any)]), (1, [(0, .one (.own 39)), (1, .one .any)]), (2, [(0, .one (.own 39)), (1, .one .any), (5, .one .any)]), (3, [(0, .one (.own 39)), (1, .one .any), (5, .one .any)]), (4, [(0, .one (.own 39)), (1, .one .any), (5, .one .any)]), (5, []), (6, [])] [.one .any] ⟨0, 0⟩
noncomputable def c_87 (args : List (AV tau)) (m : Mem tau) (κ : AV tau → Mem tau → Option Unit) : Option Unit := match args, m.bx, m.rw with
  | [b0, b1], [], [] => bO (asSl 82 b0) fun l0 => bO (asI .i64 b1) fun a1 => callX (fun n => spec_l3At.f n l0 a1) fun t => κ (.int .i64 (t)) ⟨[], []⟩
  | _, _, _ => none
def E_87 : Env tau := mkE [(0, [(0, .one (.own 82)), (1, .one .any)]), (1, [(0, .one (.own 82)), (1, .one .any)]), (2, [(0, .one (.own 82)), (1, .one .any), (5, .one .any)]), (3, [(0, .one (.own 82)), (1, .one .any), (5, .one .any)]), (4, [(0, .one (.own 82)), (1, .one .any), (5, .one .any)]), (5, [(5, .one .any)]), (6, [])] [.one .any] ⟨0, 0⟩
noncomputable def c_23 (args : List (AV tau)) (m : Mem tau) (κ : AV tau → Mem tau → Option Unit) : Option Unit := match args, m.bx, m.rw with
  | [.agg [b0, b1, b2, b3]], [], [] => bO (asSl 39 b0) fun l0_0 => bO (asSl 82 b1) fun l0_1 => bO (asI .i64 b2) fun a0_2 => bO (asI .i64 b3) fun a0_3 => callX (fun n => spec_ExecOk.f n l0_0 l0_1 a0_2 a0_3) fun t => κ (.bool (t)) ⟨[], []⟩
  | _, _, _ => none
def E_23 : Env tau := mkE [(0, [(0, .agg [.own 39, .own 82, .any, .any])]), (1, [(1, .one .any)]), (2, []), (3, [(1, .one .any)]), (4, [(1, .one .any), (3, .one .any)]), (5, [(1, .one .any), (3, .one .any)]), (6, [(1, .one .any), (3, .one .any)]), (7, []), (8, [(1, .one .any)]), (9, [(1, .one .any), (4, .one .any)]), (10, [(1, .one .any), (4, .one .any)]), (11, [(1, .one .any), (4, .one .any)]), (12, []), (13, [])] [.one .any] ⟨0, 0⟩
noncomputable def c_120 (args : List (AV tau)) (m : Mem tau) (κ : AV tau → Mem tau → Option Unit) : Option Unit := match args, m.bx, m.rw with
  | [.agg [b0, b1]], [], [] => bO (asI .i64 b0) fun a0_0 => bO (asI .i64 b1) fun a0_1 => callX (fun n => spec_l5Req.f a0_0 a0_1) fun t => κ (.bool (t)) ⟨[], []⟩
  | _, _, _ => none
def E_120 : Env tau := mkE [(0, [(0, .agg [.any, .any])]), (1, [(1, .one .any)])] [.one .any] ⟨0, 0⟩
noncomputable def c_53 (args : List (AV tau)) (m : Mem tau) (κ : AV tau → Mem tau → Option Unit) : Option Unit := match args, m.bx, m.rw with
  | [.agg [b0, b1, b2, b3, b4, b5, b6]], [], [] => bO (asB b0) fun a0_0 => bO (asI .i64 b1) fun a0_1 => bO (asI .i64 b2) fun a0_2 => bO (asSl 39 b3) fun l0_3 => bO (asSl 82 b4) fun l0_4 => bO (asI .i64 b5) fun a0_5 => bO (asI .i64 b6) fun a0_6 => callX (fun n => spec_CertEntry.f n a0_0 a0_1 a0_2 l0_3 l0_4 a0_5 a0_6) fun t => κ (.bool (t)) ⟨[], []⟩
  | _, _, _ => none
def E_53 : Env tau := mkE [(0, [(0, .agg [.any, .any, .any, .own 39, .own 82, .any, .any])]), (1, [(1, .one .any)]), (2, [(1, .one .any)]), (3, [(1, .one .any)])] [.one .any] ⟨0, 0⟩
noncomputable def c_78 (args : List (AV tau)) (m : Mem tau) (κ : AV tau → Mem tau → Option Unit) : Option Unit := match args, m.bx, m.rw with
  | [b0], [], [] => bO (asSl 5 b0) fun l0 => callX (fun n => spec_l15Open.f l0) fun t => κ (.ptr 0 0) ⟨[some (172, [.sl 5 (t.1), .int .i64 (t.2)])], []⟩
  | _, _, _ => none
def E_78 : Env tau := mkE [(0, [(0, .one (.own 5))]), (1, [(0, .one (.own 5))]), (2, [(0, .one (.own 5))]), (3, [(0, .one (.own 5))])] [.one .any] ⟨0, 0⟩
noncomputable def c_79 (args : List (AV tau)) (m : Mem tau) (κ : AV tau → Mem tau → Option Unit) : Option Unit := match args, m.bx, m.rw with
  | [p0, b0], [some (t0_, [c0_0, c0_1])], [] => bO (asPtr 0 p0) fun _ => bO (asT 172 t0_) fun _ => bO (asSl 5 c0_0) fun s0_0 => bO (asI .i64 c0_1) fun s0_1 => bO (asI .i64 b0) fun a1 => callX (fun n => spec_l15Rd_pick.f n s0_0 s0_1 a1) fun t => κ (.int .i64 (t.1)) ⟨[some (172, [.sl 5 (s0_0), .int .i64 (t.2)])], []⟩
  | _, _, _ => none
def E_79 : Env tau := mkE [(0, [(0, .one .any), (1, .one .any)]), (1, [(0, .one .any), (1, .one .any)]), (2, [(0, .one .any), (1, .one .any)]), (3, []), (4, [(0, .one .any), (1, .one .any)]), (5, [(0, .one .any), (1, .one .any), (5, .one .any)]), (6, [(0, .one .any), (1, .one .any), (5, .one .any)]), (7, [(0, .one .any), (1, .one .any), (5, .one .any)]), (8, [(1, .one .any), (6, .one .any)]), (9, [(1, .one .any), (6, .one .any)])] [.one .any] ⟨1, 0⟩
noncomputable def c_145 (args : List (AV tau)) (m : Mem tau) (κ : AV tau → Mem tau → Option Unit) : Option Unit := match args, m.bx, m.rw with
  | [p0, b0], [some (t0_, [c0_0, c0_1])], [r0] => bO (asPtr 0 p0) fun _ => bO (asT 172 t0_) fun _ => bO (asSl 5 c0_0) fun s0_0 => bO (asI .i64 c0_1) fun s0_1 => bO (asOwn 0 b0) fun _ => bO (asRow 3 r0) fun l1 => callX (fun n => spec_l15Rd_num.f n s0_0 s0_1 l1) fun t => κ (.int .i64 (t.1)) ⟨[some (172, [.sl 5 (s0_0), .int .i64 (t.2)])], [some ⟨3, l1, 0⟩]⟩
  | _, _, _ => none
def E_145 : Env tau := mkE [(0, [(0, .one .any), (1, .one (.own 3))]), (1, [(0, .one .any), (1, .one (.own 3))])] [.one .any] ⟨1, 1⟩
noncomputable def c_149 (args : List (AV tau)) (m : Mem tau) (κ : AV tau → Mem tau → Option Unit) : Option Unit := match args, m.bx, m.rw with
  | [], [], [] => callX (fun n => spec_BoxOpen.f) fun t => κ (.own 0 0) ⟨[], [some ⟨37, t, 0⟩]⟩
  | _, _, _ => none
def E_149 : Env tau := mkE [(0, []), (1, [])] [.one (.own 37)] ⟨0, 0⟩
noncomputable def c_98 (args : List (AV tau)) (m : Mem tau) (κ : AV tau → Mem tau → Option Unit) : Option Unit := match args, m.bx, m.rw with
  | [p0], [some (t0_, [c0_0, c0_1])], [] => bO (asPtr 0 p0) fun _ => bO (asT 172 t0_) fun _ => bO (asSl 5 c0_0) fun s0_0 => bO (asI .i64 c0_1) fun s0_1 => callX (fun n => spec_l1Boxes.f n s0_0 s0_1) fun t => κ (.own 0 0) ⟨[some (172, [.sl 5 (s0_0), .int .i64 (t.2)])], [some ⟨37, t.1, 0⟩]⟩
  | _, _, _ => none
def E_98 : Env tau := mkE [(0, [(0, .one .any)]), (1, [(0, .one .any)]), (2, [(0, .one .any), (3, .one (.own 37))]), (3, [(0, .one .any), (3, .one (.own 37)), (4, .one .any)]), (4, [(0, .one .any), (3, .one (.own 37)), (4, .one .any)]), (5, [(0, .one .any), (3, .one (.own 37)), (4, .one .any)]), (6, [(0, .one .any), (3, .one (.own 37))]), (7, [(0, .one .any), (3, .one (.own 37)), (22, .one .any)]), (8, [(3, .one (.own 37))]), (9, [(0, .one .any), (3, .one (.own 37)), (22, .one .any)]), (10, [(0, .one .any), (3, .one (.own 37))]), (11, [(0, .one .any), (3, .one (.own 37)), (22, .one .any)]), (12, [(0, .one .any), (3, .one (.own 37))]), (13, [(3, .one (.own 37))])] [.one (.own 37)] ⟨1, 0⟩
noncomputable def c_150 (args : List (AV tau)) (m : Mem tau) (κ : AV tau → Mem tau → Option Unit) : Option Unit := match args, m.bx, m.rw with
  | [p0], [some (t0_, [c0_0, c0_1])], [] => bO (asPtr 0 p0) fun _ => bO (asT 172 t0_) fun _ => bO (asSl 5 c0_0) fun s0_0 => bO (asI .i64 c0_1) fun s0_1 => callX (fun n => spec_l2Any.f n s0_0 s0_1) fun t => κ (.agg [.int .i64 (t.1), .int .i64 (t.2.1), .int .i64 (t.2.2.1), .int .i64 (t.2.2.2.1)]) ⟨[some (172, [.sl 5 (s0_0), .int .i64 (t.2.2.2.2)])], []⟩
  | _, _, _ => none
def E_150 : Env tau := mkE [(0, [(0, .one .any)]), (1, [(0, .one .any), (2, .one .any)]), (2, [(0, .one .any), (2, .one .any), (3, .one .any)]), (3, [(0, .one .any), (2, .one .any), (3, .one .any), (13, .one .any)]), (4, [(0, .one .any), (2, .one .any), (3, .one .any)]), (5, [(0, .one .any), (2, .one .any), (3, .one .any)]), (6, [(0, .one .any), (2, .one .any), (3, .one .any), (13, .one .any)]), (7, [(0, .one .any), (2, .one .any), (3, .one .any)]), (8, [(0, .one .any), (2, .one .any), (3, .one .any), (13, .one .any)]), (9, [(0, .one .any), (2, .one .any), (3, .one .any)]), (10, [(0, .one .any), (2, .one .any)]), (11, [(2, .one .any), (3, .one .any)]), (12, [(2, .one .any), (3, .one .any)]), (13, [(2, .one .any), (3, .one .any)])] [.agg [.any, .any, .any, .any]] ⟨1, 0⟩
noncomputable def c_99 (args : List (AV tau)) (m : Mem tau) (κ : AV tau → Mem tau → Option Unit) : Option Unit := match args, m.bx, m.rw with
  | [p0], [some (t0_, [c0_0, c0_1])], [] => bO (asPtr 0 p0) fun _ => bO (asT 172 t0_) fun _ => bO (asSl 5 c0_0) fun s0_0 => bO (asI .i64 c0_1) fun s0_1 => callX (fun n => spec_l2Prog.f n s0_0 s0_1) fun t => κ (.own 0 0) ⟨[some (172, [.sl 5 (s0_0), .int .i64 (t.2)])], [some ⟨95, t.1, 0⟩]⟩
  | _, _, _ => none
def E_99 : Env tau := mkE [(0, [(0, .one .any)]), (1, [(0, .one .any)]), (2, [(0, .one .any)]), (3, [(0, .one .any), (3, .one .any)]), (4, [(0, .one .any), (3, .one .any), (4, .one .any)]), (5, [(0, .one .any)]), (6, [(0, .one .any), (5, .one (.own 95))]), (7, [(0, .one .any), (5, .one (.own 95)), (6, .one .any)]), (8, [(0, .one .any), (5, .one (.own 95)), (6, .one .any)]), (9, [(0, .one .any), (5, .one (.own 95)), (6, .one .any)]), (10, [(5, .one (.own 95))])] [.one (.own 95)] ⟨1, 0⟩
noncomputable def c_22 (args : List (AV tau)) (m : Mem tau) (κ : AV tau → Mem tau → Option Unit) : Option Unit := match args, m.bx, m.rw with
  | [b0], [], [] => bO (asSl 37 b0) fun l0 => callX (fun n => spec_BoxOk.f n l0) fun t => κ (.bool (t)) ⟨[], []⟩
  | _, _, _ => none
def E_22 : Env tau := mkE [(0, [(0, .one (.own 37))]), (1, [(0, .one (.own 37))]), (2, []), (3, [(0, .one (.own 37))]), (4, [(0, .one (.own 37)), (3, .one .any)]), (5, [(0, .one (.own 37)), (3, .one .any)]), (6, [(0, .one (.own 37)), (3, .one .any)]), (7, []), (8, [])] [.one .any] ⟨0, 0⟩
noncomputable def c_170 (args : List (AV tau)) (m : Mem tau) (κ : AV tau → Mem tau → Option Unit) : Option Unit := match args, m.bx, m.rw with
  | [b0], [], [] => bO (asI .i64 b0) fun a0 => callX (fun n => spec_l2Reg.f a0) fun t => κ (.bool (t)) ⟨[], []⟩
  | _, _, _ => none
def E_170 : Env tau := mkE [(0, [(0, .one .any)]), (1, [(0, .one .any)])] [.one .any] ⟨0, 0⟩
noncomputable def c_153 (args : List (AV tau)) (m : Mem tau) (κ : AV tau → Mem tau → Option Unit) : Option Unit := match args, m.bx, m.rw with
  | [.agg [b0, b1, b2, b3]], [], [] => bO (asI .i64 b0) fun a0_0 => bO (asI .i64 b1) fun a0_1 => bO (asI .i64 b2) fun a0_2 => bO (asI .i64 b3) fun a0_3 => callX (fun n => spec_l2Ins.f n a0_0 a0_1 a0_2 a0_3) fun t => κ (.bool (t)) ⟨[], []⟩
  | _, _, _ => none
def E_153 : Env tau := mkE [(0, [(0, .agg [.any, .any, .any, .any])]), (1, [(1, .one .any)]), (2, [(1, .one .any), (4, .one .any)]), (3, [(1, .one .any)]), (4, [(1, .one .any), (4, .one .any)]), (5, [(1, .one .any)]), (6, [(1, .one .any), (4, .one .any)]), (7, [(1, .one .any)]), (8, [(1, .one .any), (4, .one .any)]), (9, [(1, .one .any), (4, .one .any)]), (10, [(1, .one .any)]), (11, [(1, .one .any), (4, .one .any)]), (12, [(1, .one .any)]), (13, [(1, .one .any), (4, .one .any)]), (14, [(1, .one .any)]), (15, [])] [.one .any] ⟨0, 0⟩
noncomputable def c_106 (args : List (AV tau)) (m : Mem tau) (κ : AV tau → Mem tau → Option Unit) : Option Unit := match args, m.bx, m.rw with
  | [b0], [], [] => bO (asSl 95 b0) fun l0 => callX (fun n => spec_ProgOk.f n l0) fun t => κ (.bool (t)) ⟨[], []⟩
  | _, _, _ => none
def E_106 : Env tau := mkE [(0, [(0, .one (.own 95))]), (1, [(0, .one (.own 95))]), (2, []), (3, [(0, .one (.own 95))]), (4, [(0, .one (.own 95)), (3, .one .any)]), (5, [(0, .one (.own 95)), (3, .one .any)]), (6, [(0, .one (.own 95)), (3, .one .any)]), (7, []), (8, [])] [.one .any] ⟨0, 0⟩
noncomputable def c_175 (args : List (AV tau)) (m : Mem tau) (κ : AV tau → Mem tau → Option Unit) : Option Unit := match args, m.bx, m.rw with
  | [b0, .agg [b1, b2, b3, b4], b5], [], [r0, r1] => bO (asSl 37 b0) fun l0 => bO (asOwn 0 b1) fun _ => bO (asRow 39 r0) fun l1_0 => bO (asOwn 1 b2) fun _ => bO (asRow 82 r1) fun l1_1 => bO (asI .i64 b3) fun a1_2 => bO (asI .i64 b4) fun a1_3 => bO (asI .i64 b5) fun a2 => callX (fun n => spec_l3Look.f n l0 l1_0 l1_1 a1_2 a1_3 a2) fun t => κ (.tup [.int .i64 (t.1), .agg [.own 0 0, .own 1 0, .int .i64 (t.2.2.2.1), .int .i64 (t.2.2.2.2)]]) ⟨[], [some ⟨39, t.2.1, 0⟩, some ⟨82, t.2.2.1, 0⟩]⟩
  | _, _, _ => none
def E_175 : Env tau := mkE [(0, [(0, .one (.own 37)), (1, .agg [.own 39, .own 82, .any, .any]), (2, .one .any)]), (1, [(0, .one (.own 37)), (2, .one .any), (4, .one .any), (7, .one .any)]), (2, [(0, .one (.own 37)), (2, .one .any), (4, .one .any), (7, .one .any), (8, .one .any)]), (3, [(4, .one .any), (7, .one .any), (8, .one .any)]), (4, [(0, .one (.own 37)), (2, .one .any), (4, .one .any), (7, .one .any)]), (5, [(0, .one (.own 37)), (2, .one .any), (4, .one .any), (7, .one .any)]), (6, [(0, .one (.own 37)), (2, .one .any), (4, .one .any), (7, .one .any)])] [.one .any, .agg [.own 39, .own 82, .any, .any]] ⟨0, 0⟩
noncomputable def c_176 (args : List (AV tau)) (m : Mem tau) (κ : AV tau → Mem tau → Option Unit) : Option Unit := match args, m.bx, m.rw with
  | [.agg [b0, b1, b2, b3], b4, b5], [], [r0, r1] => bO (asOwn 0 b0) fun _ => bO (asRow 39 r0) fun l0_0 => bO (asOwn 1 b1) fun _ => bO (asRow 82 r1) fun l0_1 => bO (asI .i64 b2) fun a0_2 => bO (asI .i64 b3) fun a0_3 => bO (asI .i64 b4) fun a1 => bO (asI .i64 b5) fun a2 => callX (fun n => spec_l3Put.f n l0_0 l0_1 a0_2 a0_3 a1 a2) fun t => κ (.agg [.own 0 0, .own 1 0, .int .i64 (t.2.2.1), .int .i64 (t.2.2.2)]) ⟨[], [some ⟨39, t.1, 0⟩, some ⟨82, t.2.1, 0⟩]⟩
  | _, _, _ => none
def E_176 : Env tau := mkE [(0, [(0, .agg [.own 39, .own 82, .any, .any]), (1, .one .any), (2, .one .any)]), (1, [(1, .one .any), (2, .one .any), (3, .one .any), (6, .one .any)]), (2, [(1, .one .any), (2, .one .any), (3, .one .any), (6, .one .any), (7, .one .any)]), (3, [(2, .one .any), (3, .one .any), (6, .one .any), (7, .one .any)]), (4, [(3, .one .any), (6, .one .any)]), (5, [(1, .one .any), (2, .one .any), (3, .one .any), (6, .one .any)]), (6, [(3, .one .any), (6, .one .any)])] [.agg [.own 39, .own 82, .any, .any]] ⟨0, 0⟩
noncomputable def c_166 (args : List (AV tau)) (m : Mem tau) (κ : AV tau → Mem tau → Option Unit) : Option Unit := match args, m.bx, m.rw with
  | [b0, .agg [b1, b2, b3, b4], b5, .agg [b6, b7, b8, b9]], [], [r0, r1, r2] => bO (asSl 37 b0) fun l0 => bO (asOwn 1 b1) fun _ => bO (asRow 39 r1) fun l1_0 => bO (asOwn 2 b2) fun _ => bO (asRow 82 r2) fun l1_1 => bO (asI .i64 b3) fun a1_2 => bO (asI .i64 b4) fun a1_3 => bO (asOwn 0 b5) fun _ => bO (asRow 3 r0) fun l2 => bO (asI .i64 b6) fun a3_0 => bO (asI .i64 b7) fun a3_1 => bO (asI .i64 b8) fun a3_2 => bO (asI .i64 b9) fun a3_3 => callX (fun n => spec_l3Step.f n l0 l1_0 l1_1 a1_2 a1_3 l2 a3_0 a3_1 a3_2 a3_3) fun t => κ (.agg [.own 1 0, .own 2 0, .int .i64 (t.2.2.1), .int .i64 (t.2.2.2.1)]) ⟨[], [some ⟨3, t.2.2.2.2, 0⟩, some ⟨39, t.1, 0⟩, some ⟨82, t.2.1, 0⟩]⟩
  | _, _, _ => none
def E_166 : Env tau := mkE [(0, [(0, .one (.own 37)), (1, .agg [.own 39, .own 82, .any, .any]), (2, .one (.own 3)), (3, .agg [.any, .any, .any, .any])]), (1, [(0, .one (.own 37)), (2, .one (.own 3)), (5, .one .any), (7, .one .any), (8, .one .any)]), (2, [(0, .one (.own 37)), (2, .one (.own 3)), (5, .one .any), (7, .one .any), (8, .one .any), (12, .one .any)]), (3, [(0, .one (.own 37)), (2, .one (.own 3)), (5, .one .any), (7, .one .any), (8, .one .any)]), (4, [(2, .one (.own 3)), (5, .one .any), (7, .one .any), (8, .one .any), (9, .one .any), (10, .one .any)]), (5, [(2, .one (.own 3)), (5, .one .any), (7, .one .any), (8, .one .any), (10, .one .any)]), (6, [(2, .one (.own 3)), (5, .one .any), (7, .one .any), (8, .one .any), (12, .one .any)]), (7, [(2, .one (.own 3)), (5, .one .any), (7, .one .any), (8, .one .any)]), (8, [(2, .one (.own 3)), (5, .one .any), (7, .one .any), (8, .one .any), (12, .one .any)]), (9, [(2, .one (.own 3)), (5, .one .any), (7, .one .any), (8, .one .any)]), (10, [(2, .one (.own 3)), (5, .one .any), (7, .one .any), (8, .one .any), (12, .one .any)]), (11, [(2, .one (.own 3)), (5, .one .any), (7, .one .any), (8, .one .any)]), (12, [(2, .one (.own 3)), (5, .one .any), (7, .one .any), (8, .one .any), (12, .one .any)]), (13, [(2, .one (.own 3)), (5, .one .any), (7, .one .any), (8, .one .any)]), (14, [(2, .one (.own 3)), (5, .one .any), (7, .one .any), (8, .one .any), (12, .one .any)]), (15, [(2, .one (.own 3)), (5, .one .any), (7, .one .any), (8, .one .any)]), (16, [(2, .one (.own 3)), (5, .one .any), (7, .one .any), (8, .one .any)]), (17, [(5, .one .any), (8, .one .any)]), (18, [(5, .one .any), (8, .one .any)])] [.agg [.own 39, .own 82, .any, .any]] ⟨0, 1⟩
noncomputable def c_144 (args : List (AV tau)) (m : Mem tau) (κ : AV tau → Mem tau → Option Unit) : Option Unit := match args, m.bx, m.rw with
  | [b0, b1], [], [] => bO (asSl 37 b0) fun l0 => bO (asSl 95 b1) fun l1 => callX (fun n => spec_ExecRun.f n l0 l1) fun t => κ (.agg [.own 0 0, .own 1 0, .int .i64 (t.2.2.1), .int .i64 (t.2.2.2)]) ⟨[], [some ⟨39, t.1, 0⟩, some ⟨82, t.2.1, 0⟩]⟩
  | _, _, _ => none
def E_144 : Env tau := mkE [(0, [(0, .one (.own 37)), (1, .one (.own 95))]), (1, [(0, .one (.own 37)), (1, .one (.own 95)), (4, .one .any)]), (2, [(4, .one .any)]), (3, [(0, .one (.own 37)), (1, .one (.own 95)), (4, .one .any)]), (4, [(0, .one (.own 37)), (1, .one (.own 95)), (4, .one .any), (5, .one .any)]), (5, [(0, .one (.own 37)), (1, .one (.own 95)), (4, .one .any), (5, .one .any), (6, .one (.own 3))]), (6, [(0, .one (.own 37)), (1, .one (.own 95)), (4, .one .any), (5, .one .any), (6, .one (.own 3)), (7, .one .any)]), (7, [(0, .one (.own 37)), (1, .one (.own 95)), (4, .one .any), (5, .one .any), (6, .one (.own 3)), (7, .one .any)]), (8, [(0, .one (.own 37)), (1, .one (.own 95)), (4, .one .any), (5, .one .any), (6, .one (.own 3)), (7, .one .any)]), (9, [(0, .one (.own 37)), (1, .one (.own 95)), (4, .one .any), (5, .one .any), (6, .one (.own 3)), (7, .one .any), (8, .one .any)]), (10, [(0, .one (.own 37)), (1, .one (.own 95)), (4, .one .any), (5, .one .any), (6, .one (.own 3)), (7, .one .any), (8, .one .any)]), (11, [(0, .one (.own 37)), (1, .one (.own 95)), (4, .one .any), (5, .one .any), (6, .one (.own 3)), (7, .one .any), (8, .one .any)]), (12, [(0, .one (.own 37)), (1, .one (.own 95)), (4, .one .any), (5, .one .any), (6, .one (.own 3)), (7, .one .any), (8, .one .any)]), (13, [(4, .one .any), (5, .one .any), (6, .one (.own 3))]), (14, [(4, .one .any), (5, .one .any)]), (15, [(4, .one .any), (5, .one .any)]), (16, [(4, .one .any), (5, .one .any), (6, .one (.own 3))]), (17, [(4, .one .any), (5, .one .any)])] [.agg [.own 39, .own 82, .any, .any]] ⟨0, 0⟩
noncomputable def c_119 (args : List (AV tau)) (m : Mem tau) (κ : AV tau → Mem tau → Option Unit) : Option Unit := match args, m.bx, m.rw with
  | [p0, b0], [some (t0_, [c0_0, c0_1])], [r0] => bO (asPtr 0 p0) fun _ => bO (asT 172 t0_) fun _ => bO (asSl 5 c0_0) fun s0_0 => bO (asI .i64 c0_1) fun s0_1 => bO (asOwn 0 b0) fun _ => bO (asRow 37 r0) fun l1 => callX (fun n => spec_l5Any.f n s0_0 s0_1 l1) fun t => κ (.agg [.bool (t.1), .int .i64 (t.2.1), .int .i64 (t.2.2.1), .own 1 0, .own 2 0, .int .i64 (t.2.2.2.2.2.1), .int .i64 (t.2.2.2.2.2.2.1)]) ⟨[some (172, [.sl 5 (s0_0), .int .i64 (t.2.2.2.2.2.2.2)])], [some ⟨37, l1, 0⟩, some ⟨39, t.2.2.2.1, 0⟩, some ⟨82, t.2.2.2.2.1, 0⟩]⟩
  | _, _, _ => none
def E_119 : Env tau := mkE [(0, [(0, .one .any), (1, .one (.own 37))]), (1, [(0, .one .any), (1, .one (.own 37)), (4, .one .any)]), (2, [(4, .one .any)]), (3, [(0, .one .any), (1, .one (.own 37)), (4, .one .any)]), (4, [(0, .one .any), (4, .one .any), (5, .one .any)]), (5, [(0, .one .any), (4, .one .any), (5, .one .any), (22, .one .any)]), (6, [(0, .one .any), (4, .one .any), (5, .one .any)]), (7, [(4, .one .any), (5, .one .any), (22, .one .any)]), (8, [(4, .one .any), (5, .one .any)]), (9, [(4, .one .any), (5, .one .any), (22, .one .any)]), (10, [(4, .one .any), (5, .one .any)]), (11, [(4, .one .any), (5, .one .any)])] [.agg [.any, .any, .any, .own 39, .own 82, .any, .any]] ⟨1, 1⟩
noncomputable def c_55 (args : List (AV tau)) (m : Mem tau) (κ : AV tau → Mem tau → Option Unit) : Option Unit := match args, m.bx, m.rw with
  | [b0], [], [] => bO (asSl 5 b0) fun l0 => callX (fun n => spec_DrawCertEntry.f n l0) fun t => κ (.agg [.bool (t.1), .int .i64 (t.2.1), .int .i64 (t.2.2.1), .own 0 0, .own 1 0, .int .i64 (t.2.2.2.2.2.1), .int .i64 (t.2.2.2.2.2.2)]) ⟨[], [some ⟨39, t.2.2.2.1, 0⟩, some ⟨82, t.2.2.2.2.1, 0⟩]⟩
  | _, _, _ => none
def E_55 : Env tau := mkE [(0, [(0, .one (.own 5))]), (1, [(0, .one (.own 5)), (2, .one .any)]), (2, [(2, .one .any), (3, .one .any)])] [.agg [.any, .any, .any, .own 39, .own 82, .any, .any]] ⟨0, 0⟩
noncomputable def c_54 (args : List (AV tau)) (m : Mem tau) (κ : AV tau → Mem tau → Option Unit) : Option Unit := match args, m.bx, m.rw with
  | [b0], [], [] => bO (asSl 5 b0) fun l0 => callX (fun n => spec_DrawCertLike.f n l0) fun t => κ (.tup [.agg [.bool (t.1), .int .i64 (t.2.1), .int .i64 (t.2.2.1), .own 0 0, .own 1 0, .int .i64 (t.2.2.2.2.2.1), .int .i64 (t.2.2.2.2.2.2.1)], .agg [.bool (t.2.2.2.2.2.2.2.1), .int .i64 (t.2.2.2.2.2.2.2.2.1), .int .i64 (t.2.2.2.2.2.2.2.2.2.1), .own 2 0, .own 3 0, .int .i64 (t.2.2.2.2.2.2.2.2.2.2.2.2.1), .int .i64 (t.2.2.2.2.2.2.2.2.2.2.2.2.2)]]) ⟨[], [some ⟨39, t.2.2.2.1, 0⟩, some ⟨82, t.2.2.2.2.1, 0⟩, some ⟨39, t.2.2.2.2.2.2.2.2.2.2.1, 0⟩, some ⟨82, t.2.2.2.2.2.2.2.2.2.2.2.1, 0⟩]⟩
  | _, _, _ => none
def E_54 : Env tau := mkE [(0, [(0, .one (.own 5))]), (1, [(0, .one (.own 5)), (2, .one .any), (3, .one .any)]), (2, [(0, .one (.own 5)), (2, .one .any), (3, .one .any), (4, .one .any)]), (3, [(0, .one (.own 5)), (2, .one .any), (3, .one .any), (4, .one .any), (5, .one .any)]), (4, [(2, .one .any), (3, .one .any), (4, .one .any), (5, .one .any)]), (5, [(2, .one .any), (3, .one .any), (4, .one .any), (5, .one .any)])] [.agg [.any, .any, .any, .own 39, .own 82, .any, .any], .agg [.any, .any, .any, .own 39, .own 82, .any, .any]] ⟨0, 0⟩
noncomputable def c_114 (args : List (AV tau)) (m : Mem tau) (κ : AV tau → Mem tau → Option Unit) : Option Unit := match args, m.bx, m.rw with
  | [], [], [] => callX (fun n => spec_CertOpen.f) fun t => κ (.agg [.int .i64 (t.1), .own 0 0, .own 1 0]) ⟨[], [some ⟨37, t.2.1, 0⟩, some ⟨84, t.2.2, 0⟩]⟩
  | _, _, _ => none
def E_114 : Env tau := mkE [(0, []), (1, [(0, .one .any)])] [.agg [.any, .own 37, .own 84]] ⟨0, 0⟩
noncomputable def c_21 (args : List (AV tau)) (m : Mem tau) (κ : AV tau → Mem tau → Option Unit) : Option Unit := match args, m.bx, m.rw with
  | [b0, .agg [b1, b2, b3, b4]], [], [] => bO (asSl 37 b0) fun l0 => bO (asSl 39 b1) fun l1_0 => bO (asSl 82 b2) fun l1_1 => bO (asI .i64 b3) fun a1_2 => bO (asI .i64 b4) fun a1_3 => callX (fun n => spec_ExecFresh.f n l0 l1_0 l1_1 a1_2 a1_3) fun t => κ (.bool (t)) ⟨[], []⟩
  | _, _, _ => none
def E_21 : Env tau := mkE [(0, [(0, .one (.own 37)), (1, .agg [.own 39, .own 82, .any, .any])]), (1, [(0, .one (.own 37)), (3, .one .any)]), (2, []), (3, [(0, .one (.own 37)), (3, .one .any)]), (4, [(0, .one (.own 37)), (3, .one .any), (5, .one .any)]), (5, [(0, .one (.own 37)), (3, .one .any), (5, .one .any)]), (6, [(0, .one (.own 37)), (3, .one .any), (5, .one .any)]), (7, []), (8, [])] [.one .any] ⟨0, 0⟩
noncomputable def c_167 (args : List (AV tau)) (m : Mem tau) (κ : AV tau → Mem tau → Option Unit) : Option Unit := match args, m.bx, m.rw with
  | [b0, b1], [], [] => bO (asI .i64 b0) fun a0 => bO (asI .i64 b1) fun a1 => callX (fun n => spec_l1Min.f a0 a1) fun t => κ (.int .i64 (t)) ⟨[], []⟩
  | _, _, _ => none
def E_167 : Env tau := mkE [(0, [(0, .one .any), (1, .one .any)]), (1, [(0, .one .any), (1, .one .any)]), (2, [(0, .one .any)]), (3, [(1, .one .any)])] [.one .any] ⟨0, 0⟩
noncomputable def c_146 (args : List (AV tau)) (m : Mem tau) (κ : AV tau → Mem tau → Option Unit) : Option Unit := match args, m.bx, m.rw with
  | [b0, .agg [b1, b2, b3, b4]], [], [r0] => bO (asOwn 0 b0) fun _ => bO (asRow 37 r0) fun l0 => bO (asSl 39 b1) fun l1_0 => bO (asSl 82 b2) fun l1_1 => bO (asI .i64 b3) fun a1_2 => bO (asI .i64 b4) fun a1_3 => callX (fun n => spec_l3Do.f n l0 l1_0 l1_1 a1_2 a1_3) fun t => κ (.own 0 0) ⟨[], [some ⟨37, t, 0⟩]⟩
  | _, _, _ => none
def E_146 : Env tau := mkE [(0, [(0, .one (.own 37)), (1, .agg [.own 39, .own 82, .any, .any])]), (1, [(0, .one (.own 37)), (3, .one .any)]), (2, [(0, .one (.own 37)), (3, .one .any), (5, .one .any)]), (3, [(0, .one (.own 37)), (3, .one .any), (5, .one .any)]), (4, [(0, .one (.own 37)), (3, .one .any), (5, .one .any)]), (5, [(0, .one (.own 37)), (3, .one .any), (5, .one .any), (6, .one .any)]), (6, [(0, .one (.own 37))])] [.one (.own 37)] ⟨0, 0⟩
noncomputable def c_155 (args : List (AV tau)) (m : Mem tau) (κ : AV tau → Mem tau → Option Unit) : Option Unit := match args, m.bx, m.rw with
  | [.agg [b0, b1, b2], b3], [], [] => bO (asI .i64 b0) fun a0_0 => bO (asSl 37 b1) fun l0_1 => bO (asSl 84 b2) fun l0_2 => bO (asI .i64 b3) fun a1 => callX (fun n => spec_l5Last.f n a0_0 l0_1 l0_2 a1) fun t => κ (.tup [.agg [.int .i64 (t.1), .int .i64 (t.2.1), .int .i64 (t.2.2.1), .int .i64 (t.2.2.2.1)], .bool (t.2.2.2.2)]) ⟨[], []⟩
  | _, _, _ => none
def E_155 : Env tau := mkE [(0, [(0, .agg [.any, .own 37, .own 84]), (1, .one .any)]), (1, [(1, .one .any), (2, .one .any), (4, .one .any)]), (2, [(1, .one .any), (2, .one .any), (4, .one .any), (6, .one .any)]), (3, [(1, .one .any), (2, .one .any), (4, .one .any), (6, .one .any)]), (4, [(1, .one .any), (2, .one .any), (4, .one .any), (6, .one .any)]), (5, [(2, .one .any), (4, .one .any), (6, .one .any)]), (6, [(4, .one .any)])] [.agg [.any, .any, .any, .any], .one .any] ⟨0, 0⟩
noncomputable def c_156 (args : List (AV tau)) (m : Mem tau) (κ : AV tau → Mem tau → Option Unit) : Option Unit := match args, m.bx, m.rw with
  | [b0, .agg [b1, b2, b3, b4]], [], [] => bO (asSl 84 b0) fun l0 => bO (asI .i64 b1) fun a1_0 => bO (asI .i64 b2) fun a1_1 => bO (asI .i64 b3) fun a1_2 => bO (asI .i64 b4) fun a1_3 => callX (fun n => spec_l5Put.f n l0 a1_0 a1_1 a1_2 a1_3) fun t => κ (.own 0 0) ⟨[], [some ⟨84, t, 0⟩]⟩
  | _, _, _ => none
def E_156 : Env tau := mkE [(0, [(0, .one (.own 84)), (1, .agg [.any, .any, .any, .any])]), (1, [(0, .one (.own 84)), (3, .one .any)]), (2, [(0, .one (.own 84)), (3, .one .any), (5, .one (.own 84))]), (3, [(0, .one (.own 84)), (3, .one .any), (5, .one (.own 84)), (6, .one .any)]), (4, [(0, .one (.own 84)), (3, .one .any), (5, .one (.own 84)), (6, .one .any), (7, .one .any)]), (5, [(0, .one (.own 84)), (3, .one .any), (5, .one (.own 84)), (6, .one .any), (7, .one .any)]), (6, [(0, .one (.own 84)), (3, .one .any), (5, .one (.own 84)), (6, .one .any), (7, .one .any)]), (7, [(0, .one (.own 84)), (3, .one .any), (5, .one (.own 84)), (7, .one .any)]), (8, [(0, .one (.own 84)), (3, .one .any), (5, .one (.own 84)), (7, .one .any)]), (9, [(0, .one (.own 84)), (3, .one .any), (5, .one (.own 84)), (6, .one .any), (7, .one .any)]), (10, [(0, .one (.own 84)), (3, .one .any), (5, .one (.own 84)), (6, .one .any), (7, .one .any)]), (11, [(3, .one .any), (5, .one (.own 84)), (6, .one .any)]), (12, [(3, .one .any), (5, .one (.own 84))]), (13, [(5, .one (.own 84))])] [.one (.own 84)] ⟨0, 0⟩
noncomputable def c_115 (args : List (AV tau)) (m : Mem tau) (κ : AV tau → Mem tau → Option Unit) : Option Unit := match args, m.bx, m.rw with
  | [.agg [b0, b1, b2], .agg [b3, b4, b5, b6, b7, b8, b9]], [], [r0, r1] => bO (asI .i64 b0) fun a0_0 => bO (asOwn 0 b1) fun _ => bO (asRow 37 r0) fun l0_1 => bO (asOwn 1 b2) fun _ => bO (asRow 84 r1) fun l0_2 => bO (asB b3) fun a1_0 => bO (asI .i64 b4) fun a1_1 => bO (asI .i64 b5) fun a1_2 => bO (asSl 39 b6) fun l1_3 => bO (asSl 82 b7) fun l1_4 => bO (asI .i64 b8) fun a1_5 => bO (asI .i64 b9) fun a1_6 => callX (fun n => spec_l5Apply.f n a0_0 l0_1 l0_2 a1_0 a1_1 a1_2 l1_3 l1_4 a1_5 a1_6) fun t => κ (.tup [.agg [.int .i64 (t.1), .own 0 0, .own 1 0], .int .i64 (t.2.2.2)]) ⟨[], [some ⟨37, t.2.1, 0⟩, some ⟨84, t.2.2.1, 0⟩]⟩
  | _, _, _ => none
def E_115 : Env tau := mkE [(0, [(0, .agg [.any, .own 37, .own 84]), (1, .agg [.any, .any, .any, .own 39, .own 82, .any, .any])]), (1, [(2, .one .any), (3, .one .any), (4, .one .any)]), (2, [(2, .one .any), (3, .one .any), (4, .one .any)]), (3, [(2, .one .any), (4, .one .any)]), (4, [(2, .one .any), (3, .one .any), (4, .one .any)]), (5, [(2, .one .any), (3, .one .any), (4, .one .any), (6, .one .any), (7, .one .any)]), (6, [(2, .one .any), (4, .one .any)]), (7, [(2, .one .any), (3, .one .any), (4, .one .any), (6, .one .any), (7, .one .any)]), (8, [(2, .one .any), (4, .one .any)]), (9, [(2, .one .any), (3, .one .any), (4, .one .any)]), (10, [(2, .one .any), (3, .one .any), (4, .one .any), (8, .one .any)]), (11, [(2, .one .any), (3, .one .any), (4, .one .any), (8, .one .any)]), (12, [(2, .one .any), (3, .one .any), (4, .one .any), (8, .one .any)]), (13, [(2, .one .any), (3, .one .any), (4, .one .any), (8, .one .any)]), (14, [(2, .one .any), (3, .one .any), (4, .one .any), (8, .one .any)]), (15, [(2, .one .any), (3, .one .any), (4, .one .any), (8, .one .any)]), (16, [(2, .one .any), (4, .one .any), (8, .one .any)]), (17, [(2, .one .any), (4, .one .any), (8, .one .any)])] [.agg [.any, .own 37, .own 84], .one .any] ⟨0, 0⟩
noncomputable def c_157 (args : List (AV tau)) (m : Mem tau) (κ : AV tau → Mem tau → Option Unit) : Option Unit := match args, m.bx, m.rw with
  | [.agg [b0, b1, b2, b3, b4, b5, b6]], [], [r0, r1] => bO (asB b0) fun a0_0 => bO (asI .i64 b1) fun a0_1 => bO (asI .i64 b2) fun a0_2 => bO (asOwn 0 b3) fun _ => bO (asRow 39 r0) fun l0_3 => bO (asOwn 1 b4) fun _ => bO (asRow 82 r1) fun l0_4 => bO (asI .i64 b5) fun a0_5 => bO (asI .i64 b6) fun a0_6 => callX (fun n => spec_l5Fix.f a0_0 a0_1 a0_2 l0_3 l0_4 a0_5 a0_6) fun t => κ (.agg [.bool (t.1), .int .i64 (t.2.1), .int .i64 (t.2.2.1), .own 0 0, .own 1 0, .int .i64 (t.2.2.2.2.2.1), .int .i64 (t.2.2.2.2.2.2)]) ⟨[], [some ⟨39, t.2.2.2.1, 0⟩, some ⟨82, t.2.2.2.2.1, 0⟩]⟩
  | _, _, _ => none
def E_157 : Env tau := mkE [(0, [(0, .agg [.any, .any, .any, .own 39, .own 82, .any, .any])]), (1, [(1, .one .any), (2, .one .any)]), (2, [(2, .one .any)]), (3, [(1, .one .any), (2, .one .any)])] [.agg [.any, .any, .any, .own 39, .own 82, .any, .any]] ⟨0, 0⟩
noncomputable def c_118 (args : List (AV tau)) (m : Mem tau) (κ : AV tau → Mem tau → Option Unit) : Option Unit := match args, m.bx, m.rw with
  | [p0], [some (t0_, [c0_0, c0_1])], [] => bO (asPtr 0 p0) fun _ => bO (asT 172 t0_) fun _ => bO (asSl 5 c0_0) fun s0_0 => bO (asI .i64 c0_1) fun s0_1 => callX (fun n => spec_l5State.f n s0_0 s0_1) fun t => κ (.agg [.int .i64 (t.1), .own 0 0, .own 1 0]) ⟨[some (172, [.sl 5 (s0_0), .int .i64 (t.2.2.2)])], [some ⟨37, t.2.1, 0⟩, some ⟨84, t.2.2.1, 0⟩]⟩
  | _, _, _ => none
def E_118 : Env tau := mkE [(0, [(0, .one .any)]), (1, [(0, .one .any), (2, .one .any)]), (2, [(0, .one .any), (2, .one .any), (3, .one .any)]), (3, [(0, .one .any), (2, .one .any), (3, .one .any), (4, .one .any)]), (4, [(0, .one .any), (2, .one .any), (3, .one .any), (4, .one .any)]), (5, [(0, .one .any), (2, .one .any), (3, .one .any), (4, .one .any)]), (6, [(0, .one .any), (2, .one .any), (3, .one .any), (4, .one .any), (5, .one .any)]), (7, [(0, .one .any), (2, .one .any), (3, .one .any), (4, .one .any), (5, .one .any)]), (8, [(0, .one .any), (2, .one .any), (3, .one .any), (4, .one .any), (5, .one .any)]), (9, [(0, .one .any), (2, .one .any), (3, .one .any), (4, .one .any), (6, .one .any)]), (10, [(0, .one .any), (2, .one .any), (3, .one .any)]), (11, [(0, .one .any), (2, .one .any), (3, .one .any), (42, .one .any)]), (12, [(0, .one .any), (2, .one .any), (3, .one .any)]), (13, [(0, .one .any), (2, .one .any), (3, .one .any), (42, .one .any)]), (14, [(2, .one .any), (3, .one .any)]), (15, [(0, .one .any), (2, .one .any), (3, .one .any), (42, .one .any)]), (16, [(0, .one .any), (2, .one .any), (3, .one .any)]), (17, [(2, .one .any), (3, .one .any)])] [.agg [.any, .own 37, .own 84]] ⟨1, 0⟩
noncomputable def c_58 (args : List (AV tau)) (m : Mem tau) (κ : AV tau → Mem tau → Option Unit) : Option Unit := match args, m.bx, m.rw with
  | [.agg [b0, b1, b2, b3, b4, b5, b6], .agg [b7, b8, b9, b10, b11, b12, b13]], [], [] => bO (asB b0) fun a0_0 => bO (asI .i64 b1) fun a0_1 => bO (asI .i64 b2) fun a0_2 => bO (asSl 39 b3) fun l0_3 => bO (asSl 82 b4) fun l0_4 => bO (asI .i64 b5) fun a0_5 => bO (asI .i64 b6) fun a0_6 => bO (asB b7) fun a1_0 => bO (asI .i64 b8) fun a1_1 => bO (asI .i64 b9) fun a1_2 => bO (asSl 39 b10) fun l1_3 => bO (asSl 82 b11) fun l1_4 => bO (asI .i64 b12) fun a1_5 => bO (asI .i64 b13) fun a1_6 => callX (fun n => spec_CertLike.f n a0_0 a0_1 a0_2 l0_3 l0_4 a0_5 a0_6 a1_0 a1_1 a1_2 l1_3 l1_4 a1_5 a1_6) fun t => κ (.bool (t)) ⟨[], []⟩
  | _, _, _ => none
def E_58 : Env tau := mkE [(0, [(0, .agg [.any, .any, .any, .own 39, .own 82, .any, .any]), (1, .agg [.any, .any, .any, .own 39, .own 82, .any, .any])]), (1, [(2, .one .any), (3, .one .any)])] [.one .any] ⟨0, 0⟩
noncomputable def c_124 (args : List (AV tau)) (m : Mem tau) (κ : AV tau → Mem tau → Option Unit) : Option Unit := match args, m.bx, m.rw with
  | [b0, b1], [], [] => bO (asSl 37 b0) fun l0 => bO (asSl 37 b1) fun l1 => callX (fun n => spec_BoxSame.f n l0 l1) fun t => κ (.bool (t)) ⟨[], []⟩
  | _, _, _ => none
def E_124 : Env tau := mkE [(0, [(0, .one (.own 37)), (1, .one (.own 37))]), (1, [(0, .one (.own 37)), (1, .one (.own 37))]), (2, []), (3, [(0, .one (.own 37)), (1, .one (.own 37))]), (4, [(0, .one (.own 37)), (1, .one (.own 37)), (5, .one .any)]), (5, [(0, .one (.own 37)), (1, .one (.own 37)), (5, .one .any)]), (6, [(0, .one (.own 37)), (1, .one (.own 37)), (5, .one .any)]), (7, []), (8, [])] [.one .any] ⟨0, 0⟩
noncomputable def c_59 (args : List (AV tau)) (m : Mem tau) (κ : AV tau → Mem tau → Option Unit) : Option Unit := match args, m.bx, m.rw with
  | [.agg [b0, b1, b2], .agg [b3, b4, b5]], [], [] => bO (asI .i64 b0) fun a0_0 => bO (asSl 37 b1) fun l0_1 => bO (asSl 84 b2) fun l0_2 => bO (asI .i64 b3) fun a1_0 => bO (asSl 37 b4) fun l1_1 => bO (asSl 84 b5) fun l1_2 => callX (fun n => spec_CertSame.f n a0_0 l0_1 l0_2 a1_0 l1_1 l1_2) fun t => κ (.bool (t)) ⟨[], []⟩
  | _, _, _ => none
def E_59 : Env tau := mkE [(0, [(0, .agg [.any, .own 37, .own 84]), (1, .agg [.any, .own 37, .own 84])]), (1, [(2, .one .any), (3, .one .any)]), (2, []), (3, [(2, .one .any), (3, .one .any)]), (4, [(2, .one .any), (3, .one .any), (5, .one .any)]), (5, [(2, .one .any), (3, .one .any), (5, .one .any)]), (6, [(2, .one .any), (3, .one .any), (5, .one .any)]), (7, []), (8, [])] [.one .any] ⟨0, 0⟩
noncomputable def c_56 (args : List (AV tau)) (m : Mem tau) (κ : AV tau → Mem tau → Option Unit) : Option Unit := match args, m.bx, m.rw with
  | [b0], [], [] => bO (asSl 5 b0) fun l0 => callX (fun n => spec_DrawCertSame.f n l0) fun t => κ (.tup [.agg [.int .i64 (t.1), .own 0 0, .own 1 0], .agg [.int .i64 (t.2.2.2.1), .own 2 0, .own 3 0]]) ⟨[], [some ⟨37, t.2.1, 0⟩, some ⟨84, t.2.2.1, 0⟩, some ⟨37, t.2.2.2.2.1, 0⟩, some ⟨84, t.2.2.2.2.2, 0⟩]⟩
  | _, _, _ => none
def E_56 : Env tau := mkE [(0, [(0, .one (.own 5))]), (1, [(0, .one (.own 5)), (2, .one .any), (3, .one .any)]), (2, [(0, .one (.own 5)), (2, .one .any), (3, .one .any), (4, .one .any)]), (3, [(0, .one (.own 5)), (2, .one .any), (3, .one .any), (4, .one .any), (5, .one .any)]), (4, [(2, .one .any), (3, .one .any), (4, .one .any), (5, .one .any)]), (5, [(2, .one .any), (3, .one .any), (4, .one .any), (5, .one .any)])] [.agg [.any, .own 37, .own 84], .agg [.any, .own 37, .own 84]] ⟨0, 0⟩
noncomputable def c_10 (args : List (AV tau)) (m : Mem tau) (κ : AV tau → Mem tau → Option Unit) : Option Unit := match args, m.bx, m.rw with
  | [b0], [], [] => bO (asSl 5 b0) fun l0 => callX (fun n => laws_FnCertLike.f n l0) fun t => κ (.bool (t)) ⟨[], []⟩
  | _, _, _ => none
def E_10 : Env tau := mkE [(0, [(0, .one (.own 5))]), (1, [(0, .one (.own 5))]), (2, []), (3, [(0, .one (.own 5))]), (4, [(0, .one (.own 5)), (3, .one .any), (4, .one .any)]), (5, [(0, .one (.own 5)), (3, .one .any), (4, .one .any), (5, .one .any)]), (6, [(3, .one .any), (4, .one .any), (5, .one .any), (6, .one .any), (7, .one .any)]), (7, []), (8, []), (9, [(8, .one .any)])] [.one .any] ⟨0, 0⟩
end Go.Proofs.Ytkkmhlfpombgfaa.PFnCertLike