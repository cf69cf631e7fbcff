/- The machine's texts of FnExactProgRead (definitions, table, contracts). Conditions: none. -/
import Derived.Test.YtlpgpckggnimhaaDoorProg
import Derived.Test.YtlpgpckggnimhaaDoorSWFnExactProgRead
import Derived.Test.YtlpgpckggnimhaaDoorAm38
import Derived.RowKit
import Derived.KernelRfl
import Derived.Test.YtlpgpckggnimhaaDoorAm41
import Derived.Test.YtlpgpckggnimhaaDoorRows
import Derived.Test.YtlpgpckggnimhaaDoorLay
set_option linter.unusedVariables false
set_option maxRecDepth 100000
namespace Go.Proofs.YtlpgpckggnimhaaDoor.PFnExactProgRead
open Go.RowKit Go.Proofs.YtlpgpckggnimhaaDoorW.PrintWords Go.Proofs.YtlpgpckggnimhaaDoorW.PrintLast Go.Proofs.YtlpgpckggnimhaaDoorW.PrintMore
def errW : Option Int → Value
  | none => .nilIface
  | some c => .iface 0 (.int .i64 c)
structure S60 where
  f0 : Int
  f1 : Int
  f2 : Int
  f3 : Int
def z60 : S60 := ⟨(0 : Int), (0 : Int), (0 : Int), (0 : Int)⟩
def rd_T60 (xs : List S60) (i : Int) : S60 := xs.getD i.toNat z60
def spec_l1Num.f (a0 : Int) : Option (Bool) := if a0 ≥ (-1000000) then (some (decide (a0 ≤ 1000000))) else (some false)
def spec_l2Reg.f (a0 : Int) : Option (Bool) := if a0 ≥ 0 then (some (decide (a0 < 4))) else (some false)
def spec_l2Box.f (a0 : Int) : Option (Bool) := if a0 ≥ 0 then (some (decide (a0 < 4))) else (some false)
def spec_l2Ins.j0 : Nat → Int → Bool → Int → Int → Int → Int → Option (Bool)
  | 0, _, _, _, _, _, _ => none
  | k + 1, x4, x50, x102000, x102001, x102002, x102003 => if x50 = true then ((spec_l2Reg.f x102001).bind fun t108 => (if t108 = true then ((spec_l2Reg.f x102002).bind fun t109 => (if t109 = true then (some (x102003 == 0)) else (some false))) else (some false))) else (if x4 = 6 then ((spec_l2Reg.f x102001).bind fun t110 => (if t110 = true then ((spec_l2Reg.f x102002).bind fun t111 => (if t111 = true then (if x102003 ≥ 1 then (some (decide (x102003 ≤ 10))) else (some false)) else (some false))) else (some false))) else (if x4 = 7 then (if x102001 = 0 then (if x102002 = 0 then (some (x102003 == 0)) else (some false)) else (some false)) else (some false)))
def spec_l2Ins.f (k : Nat) (a0_0 : Int) (a0_1 : Int) (a0_2 : Int) (a0_3 : Int) : Option (Bool) := if a0_0 = 1 then ((spec_l2Reg.f a0_1).bind fun t102 => (if t102 = true then ((spec_l2Box.f a0_2).bind fun t103 => (if t103 = true then (some (a0_3 == 0)) else (some false))) else (some false))) else (if a0_0 = 2 then ((spec_l2Box.f a0_1).bind fun t104 => (if t104 = true then ((spec_l2Reg.f a0_2).bind fun t105 => (if t105 = true then (some (a0_3 == 0)) else (some false))) else (some false))) else (if a0_0 = 3 then ((spec_l2Reg.f a0_1).bind fun t106 => (if t106 = true then (if a0_2 = 0 then ((spec_l1Num.f a0_3).bind fun t107 => (some t107)) else (some false)) else (some false))) else (if a0_0 = 4 then (spec_l2Ins.j0 k a0_0 (a0_0 == 4) a0_0 a0_1 a0_2 a0_3) else (spec_l2Ins.j0 k a0_0 (a0_0 == 5) a0_0 a0_1 a0_2 a0_3))))
def spec_ProgOk.l0 : Nat → List (S60) → Int → Option (Bool)
  | 0, _, _ => none
  | k + 1, x0, x3 => if x3 < (x0.length : Int) then (if 0 ≤ x3 then ((spec_l2Ins.f k ((rd_T60 x0 x3).f0) ((rd_T60 x0 x3).f1) ((rd_T60 x0 x3).f2) ((rd_T60 x0 x3).f3)).bind fun t113 => (if t113 = true then (spec_ProgOk.l0 k x0 (wrap64 (x3 + 1))) else (some false))) else (none)) else (some true)
def spec_ProgOk.f (k : Nat) (l0 : List (S60)) : Option (Bool) := if (l0.length : Int) > 10 then (some false) else (spec_ProgOk.l0 k l0 0)
def impl_in.f (a0 : Int) (a1 : Int) (a2 : Int) : Option (Bool) := if a0 ≥ a1 then (some (decide (a0 ≤ a2))) else (some false)
def impl_insOk_1.f (a0 : Int) : Option (Bool) := (impl_in.f a0 0 3).bind fun t171 => (some t171)
def impl_insOk_2.f (a0 : Int) : Option (Bool) := (impl_in.f a0 0 3).bind fun t172 => (some t172)
def impl_insOk.j0 : Nat → Int → Bool → Int → Int → Int → Int → Option (Bool)
  | 0, _, _, _, _, _, _ => none
  | k + 1, x6, x57, x174000, x174001, x174002, x174003 => if x57 = true then ((impl_insOk_1.f x174001).bind fun t180 => (if t180 = true then ((impl_insOk_1.f x174002).bind fun t181 => (if t181 = true then (some (x174003 == 0)) else (some false))) else (some false))) else (if x6 = 6 then ((impl_insOk_1.f x174001).bind fun t182 => (if t182 = true then ((impl_insOk_1.f x174002).bind fun t183 => (if t183 = true then ((impl_in.f x174003 1 10).bind fun t184 => (some t184)) else (some false))) else (some false))) else (if x6 = 7 then (if x174001 = 0 then (if x174002 = 0 then (some (x174003 == 0)) else (some false)) else (some false)) else (some false)))
def impl_insOk.f (k : Nat) (a0_0 : Int) (a0_1 : Int) (a0_2 : Int) (a0_3 : Int) : Option (Bool) := if a0_0 = 1 then ((impl_insOk_1.f a0_1).bind fun t174 => (if t174 = true then ((impl_insOk_2.f a0_2).bind fun t175 => (if t175 = true then (some (a0_3 == 0)) else (some false))) else (some false))) else (if a0_0 = 2 then ((impl_insOk_2.f a0_1).bind fun t176 => (if t176 = true then ((impl_insOk_1.f a0_2).bind fun t177 => (if t177 = true then (some (a0_3 == 0)) else (some false))) else (some false))) else (if a0_0 = 3 then ((impl_insOk_1.f a0_1).bind fun t178 => (if t178 = true then (if a0_2 = 0 then ((impl_in.f a0_3 (-1000000) 1000000).bind fun t179 => (some t179)) else (some false)) else (some false))) else (if a0_0 = 4 then (impl_insOk.j0 k a0_0 (a0_0 == 4) a0_0 a0_1 a0_2 a0_3) else (impl_insOk.j0 k a0_0 (a0_0 == 5) a0_0 a0_1 a0_2 a0_3))))
def impl_ProgOk.l0 : Nat → List (S60) → List (S60) → Int → Int → Option (Bool)
  | 0, _, _, _, _ => none
  | k + 1, x0, x5, x6, x7 => if x7 < x6 then (if 0 ≤ x7 then (if x7 < (x5.length : Int) then ((impl_insOk.f k ((rd_T60 x5 x7).f0) ((rd_T60 x5 x7).f1) ((rd_T60 x5 x7).f2) ((rd_T60 x5 x7).f3)).bind fun t187 => (if t187 = true then (impl_ProgOk.l0 k x0 x5 x6 (wrap64 (x7 + 1))) else (some false))) else (none)) else (none)) else (some (decide ((x0.length : Int) ≤ 10)))
def impl_ProgOk.f (k : Nat) (l0 : List (S60)) : Option (Bool) := impl_ProgOk.l0 k l0 l0 (l0.length : Int) 0
def impl_copied_impl_Ins.f (l0 : List (S60)) : Option (List (S60)) := if l0.length ≤ 8796093022208 then some l0 else none
def laws_eqIns.f (a0_0 : Int) (a0_1 : Int) (a0_2 : Int) (a0_3 : Int) (a1_0 : Int) (a1_1 : Int) (a1_2 : Int) (a1_3 : Int) : Option (Bool) := if a0_0 = a1_0 then (if a0_1 = a1_1 then (if a0_2 = a1_2 then (if a0_3 = a1_3 then (some true) else (some false)) else (some false)) else (some false)) else (some false)
def laws_eqInsS.l0 : Nat → List (S60) → List (S60) → Int → Option (Bool)
  | 0, _, _, _ => none
  | k + 1, x0, x1, x5 => if x5 < (x0.length : Int) then (if 0 ≤ x5 then (if x5 < (x1.length : Int) then ((laws_eqIns.f ((rd_T60 x0 x5).f0) ((rd_T60 x0 x5).f1) ((rd_T60 x0 x5).f2) ((rd_T60 x0 x5).f3) ((rd_T60 x1 x5).f0) ((rd_T60 x1 x5).f1) ((rd_T60 x1 x5).f2) ((rd_T60 x1 x5).f3)).bind fun t219 => (if t219 = true then (laws_eqInsS.l0 k x0 x1 (wrap64 (x5 + 1))) else (some false))) else (none)) else (none)) else (some true)
def laws_eqInsS.f (k : Nat) (l0 : List (S60)) (l1 : List (S60)) : Option (Bool) := if (l0.length : Int) = (l1.length : Int) then (laws_eqInsS.l0 k l0 l1 0) else (some false)
def laws_markInsS.l0 : Nat → List (S60) → Int → Int → Option (Int × (List (S60)))
  | 0, _, _, _ => none
  | k + 1, x0, x1, x5 => if x5 < (x0.length : Int) then (if 0 ≤ x5 then ((some (x0.set (x5 : Int).toNat (⟨x1, (rd_T60 x0 x5).f1, (rd_T60 x0 x5).f2, (rd_T60 x0 x5).f3⟩ : S60) : List (S60))).bind fun y220 => ((some (y220.set (x5 : Int).toNat (⟨(rd_T60 y220 x5).f0, wrap64 (x1 + 1), (rd_T60 y220 x5).f2, (rd_T60 y220 x5).f3⟩ : S60) : List (S60))).bind fun y221 => ((some (y221.set (x5 : Int).toNat (⟨(rd_T60 y221 x5).f0, (rd_T60 y221 x5).f1, wrap64 ((wrap64 (x1 + 1)) + 1), (rd_T60 y221 x5).f3⟩ : S60) : List (S60))).bind fun y222 => (laws_markInsS.l0 k (y222.set (x5 : Int).toNat (⟨(rd_T60 y222 x5).f0, (rd_T60 y222 x5).f1, (rd_T60 y222 x5).f2, wrap64 ((wrap64 ((wrap64 (x1 + 1)) + 1)) + 1)⟩ : S60)) (wrap64 ((wrap64 ((wrap64 ((wrap64 (x1 + 1)) + 1)) + 1)) + 1)) (wrap64 (x5 + 1)))))) else (none)) else (some (x1, x0))
def laws_markInsS.f (k : Nat) (l0 : List (S60)) (a1 : Int) : Option (Int × (List (S60))) := laws_markInsS.l0 k l0 a1 0
def laws_heldInsS.l0 : Nat → List (S60) → Int → Int → Option (Int)
  | 0, _, _, _ => none
  | k + 1, x0, x1, x5 => if x5 < (x0.length : Int) then (if 0 ≤ x5 then (if ((rd_T60 x0 x5).f0) = x1 then (if ((rd_T60 x0 x5).f1) = (wrap64 (x1 + 1)) then (if ((rd_T60 x0 x5).f2) = (wrap64 ((wrap64 (x1 + 1)) + 1)) then (if ((rd_T60 x0 x5).f3) = (wrap64 ((wrap64 ((wrap64 (x1 + 1)) + 1)) + 1)) then (laws_heldInsS.l0 k x0 (wrap64 ((wrap64 ((wrap64 ((wrap64 (x1 + 1)) + 1)) + 1)) + 1)) (wrap64 (x5 + 1))) else (some (-1))) else (some (-1))) else (some (-1))) else (some (-1))) else (none)) else (some x1)
def laws_heldInsS.f (k : Nat) (l0 : List (S60)) (a1 : Int) : Option (Int) := laws_heldInsS.l0 k l0 a1 0
open Am
mutual
def spec_l15Cut.l0 : Nat → ByteArray → Int → Int → Int → (List ByteArray) → Option ((List ByteArray))
  | 0, _, _, _, _, _ => none
  | k + 1, x0, x1, x2, x3, x4 => if (x3 ≤ ((x0.size : Nat) : Int)) then (if (x3 = ((x0.size : Nat) : Int)) then (if ((0 : Int) ≤ x3) then (if (x3 ≤ ((x0.size : Nat) : Int)) then (if ((0 : Int) ≤ x2) then (if (x2 ≤ x3) then (if ((x4.length + 1) ≤ 8796093022208) then (spec_l15Cut.l0 k x0 x1 (wrap64 (x3 + (1 : Int))) (wrap64 (x3 + (1 : Int))) (x4 ++ ([(ByteArray.extract x0 (Int.toNat x2) (Int.toNat x3))] : List ByteArray))) else (none)) else (none)) else (none)) else (none)) else (none)) else (if ((0 : Int) ≤ x3) then (if (x3 < ((x0.size : Nat) : Int)) then (if ((btA x0 x3) = x1) then (if ((0 : Int) ≤ x3) then (if (x3 ≤ ((x0.size : Nat) : Int)) then (if ((0 : Int) ≤ x2) then (if (x2 ≤ x3) then (if ((x4.length + 1) ≤ 8796093022208) then (spec_l15Cut.l0 k x0 x1 (wrap64 (x3 + (1 : Int))) (wrap64 (x3 + (1 : Int))) (x4 ++ ([(ByteArray.extract x0 (Int.toNat x2) (Int.toNat x3))] : List ByteArray))) else (none)) else (none)) else (none)) else (none)) else (none)) else (spec_l15Cut.l0 k x0 x1 x2 (wrap64 (x3 + (1 : Int))) x4)) else (none)) else (none))) else (some (x4))
end
def spec_l15Cut.f (k : Nat) (a0 : ByteArray) (a1 : Int) : Option ((List ByteArray)) := spec_l15Cut.l0 k a0 a1 (0 : Int) (0 : Int) ([] : List ByteArray)
def spec_l2Words.f (k : Nat) : Option ((List ByteArray)) := some (([(bs []), (bs [108, 111, 97, 100]), (bs [112, 117, 116]), (bs [110, 117, 109]), (bs [97, 100, 100]), (bs [115, 117, 98]), (bs [108, 101, 115, 115]), (bs [102, 97, 105, 108])] : List ByteArray))
mutual
def spec_l15Num.l0 : Nat → ByteArray → Bool → Int → Int → Option (Int × Bool)
  | 0, _, _, _, _ => none
  | k + 1, x0, x1, x2, x3 => if (x3 < ((x0.size : Nat) : Int)) then (if ((0 : Int) ≤ x3) then (if (x3 < ((x0.size : Nat) : Int)) then (if ((btA x0 x3) < (48 : Int)) then (some ((0 : Int), false)) else (if ((0 : Int) ≤ x3) then (if (x3 < ((x0.size : Nat) : Int)) then (if ((btA x0 x3) > (57 : Int)) then (some ((0 : Int), false)) else (if ((0 : Int) ≤ x3) then (if (x3 < ((x0.size : Nat) : Int)) then (spec_l15Num.l0 k x0 x1 (wrap64 ((wrap64 (x2 * (10 : Int))) + (wrap64 (IntKind.wrap .u8 ((btA x0 x3) - (48 : Int)))))) (wrap64 (x3 + (1 : Int)))) else (none)) else (none))) else (none)) else (none))) else (none)) else (none)) else (if x1 = true then (some ((wrap64 ((0 : Int) - x2)), true)) else (some (x2, true)))
end
def spec_l15Num.f (k : Nat) (a0 : ByteArray) : Option (Int × Bool) := if (((a0.size : Nat) : Int) > (0 : Int)) then (if ((0 : Int) < ((a0.size : Nat) : Int)) then (if ((btA a0 (0 : Int)) = (45 : Int)) then (if ((1 : Int) ≤ ((a0.size : Nat) : Int)) then (if (((((ByteArray.extract a0 1 a0.size)).size : Nat) : Int) = (0 : Int)) then (some ((0 : Int), false)) else (if (((((ByteArray.extract a0 1 a0.size)).size : Nat) : Int) > (17 : Int)) then (some ((0 : Int), false)) else (if ((0 : Int) < ((((ByteArray.extract a0 1 a0.size)).size : Nat) : Int)) then (if ((btA (ByteArray.extract a0 1 a0.size) (0 : Int)) = (48 : Int)) then (if (((((ByteArray.extract a0 1 a0.size)).size : Nat) : Int) > (1 : Int)) then (some ((0 : Int), false)) else (if ((btA a0 (0 : Int)) = (45 : Int)) then (some ((0 : Int), false)) else (spec_l15Num.l0 k (ByteArray.extract a0 1 a0.size) (decide ((btA a0 (0 : Int)) = (45 : Int))) (0 : Int) (0 : Int)))) else (spec_l15Num.l0 k (ByteArray.extract a0 1 a0.size) (decide ((btA a0 (0 : Int)) = (45 : Int))) (0 : Int) (0 : Int))) else (none)))) else (none)) else (if (((a0.size : Nat) : Int) = (0 : Int)) then (some ((0 : Int), false)) else (if (((a0.size : Nat) : Int) > (17 : Int)) then (some ((0 : Int), false)) else (if ((0 : Int) < ((a0.size : Nat) : Int)) then (if ((btA a0 (0 : Int)) = (48 : Int)) then (if (((a0.size : Nat) : Int) > (1 : Int)) then (some ((0 : Int), false)) else (if ((btA a0 (0 : Int)) = (45 : Int)) then (some ((0 : Int), false)) else (spec_l15Num.l0 k a0 (decide ((btA a0 (0 : Int)) = (45 : Int))) (0 : Int) (0 : Int)))) else (spec_l15Num.l0 k a0 (decide ((btA a0 (0 : Int)) = (45 : Int))) (0 : Int) (0 : Int))) else (none))))) else (none)) else (if (((a0.size : Nat) : Int) = (0 : Int)) then (some ((0 : Int), false)) else (if (((a0.size : Nat) : Int) > (17 : Int)) then (some ((0 : Int), false)) else (if ((0 : Int) < ((a0.size : Nat) : Int)) then (if ((btA a0 (0 : Int)) = (48 : Int)) then (if (((a0.size : Nat) : Int) > (1 : Int)) then (some ((0 : Int), false)) else (spec_l15Num.l0 k a0 false (0 : Int) (0 : Int))) else (spec_l15Num.l0 k a0 false (0 : Int) (0 : Int))) else (none))))
mutual
def spec_l2One.l0 : Nat → Int → Int → Int → Int → Int → Int → Int → Int → Int → (List ByteArray) → Option (Int × Int × Int × Int × Bool)
  | 0, _, _, _, _, _, _, _, _, _, _ => none
  | k + 1, x0, x1, x2, x3, x4, x5, x6, x7, x8, x9 => if (x0 ≤ (7 : Int)) then (if ((0 : Int) < ((x9.length : Nat) : Int)) then ((spec_l2Words.f k).bind fun t1 => (if ((0 : Int) ≤ x0) then (if (x0 < ((t1.length : Nat) : Int)) then (if ((rdOf (default : ByteArray) t1 x0) = (rdOf (default : ByteArray) x9 (0 : Int))) then (spec_l2One.l0 k (wrap64 (x0 + (1 : Int))) x1 x2 x3 x4 x0 x6 x7 x8 x9) else (spec_l2One.l0 k (wrap64 (x0 + (1 : Int))) x1 x2 x3 x4 x5 x6 x7 x8 x9)) else (none)) else (none))) else (none)) else (spec_l2One.l1 k (1 : Int) x1 x2 x3 x4 x5 x6 x7 x8 x9 ([] : List Int))
def spec_l2One.l1 : Nat → Int → Int → Int → Int → Int → Int → Int → Int → Int → (List ByteArray) → (List Int) → Option (Int × Int × Int × Int × Bool)
  | 0, _, _, _, _, _, _, _, _, _, _, _ => none
  | k + 1, x0, x1, x2, x3, x4, x5, x6, x7, x8, x9, x10 => if (x0 < ((x9.length : Nat) : Int)) then (if ((0 : Int) ≤ x0) then (if (x0 < ((x9.length : Nat) : Int)) then ((spec_l15Num.f k (rdOf (default : ByteArray) x9 x0)).bind fun t2 => (if t2.2 = true then (if ((x10.length + 1) ≤ 17592186044416) then (spec_l2One.l1 k (wrap64 (x0 + (1 : Int))) x1 x2 x3 x4 x5 x6 x7 x8 x9 (x10 ++ ([t2.1] : List Int))) else (none)) else (some (x5, x6, x7, x8, false)))) else (none)) else (none)) else (if ((0 : Int) ≤ x5) then (if (x5 < (8 : Int)) then (if (((x10.length : Nat) : Int) = (rd ([(-(1 : Int)), (2 : Int), (2 : Int), (2 : Int), (2 : Int), (2 : Int), (3 : Int), (0 : Int)] : List Int) x5)) then (if (((x10.length : Nat) : Int) > (0 : Int)) then (if ((0 : Int) < ((x10.length : Nat) : Int)) then (if ((1 : Int) < ((x10.length : Nat) : Int)) then (if (x5 = (3 : Int)) then (if ((1 : Int) < ((x10.length : Nat) : Int)) then (if (x5 = (6 : Int)) then (if ((2 : Int) < ((x10.length : Nat) : Int)) then (some (x5, (rd x10 (0 : Int)), (0 : Int), (rd x10 (2 : Int)), true)) else (none)) else (some (x5, (rd x10 (0 : Int)), (0 : Int), (rd x10 (1 : Int)), true))) else (none)) else (if (x5 = (6 : Int)) then (if ((2 : Int) < ((x10.length : Nat) : Int)) then (some (x5, (rd x10 (0 : Int)), (rd x10 (1 : Int)), (rd x10 (2 : Int)), true)) else (none)) else (some (x5, (rd x10 (0 : Int)), (rd x10 (1 : Int)), x8, true)))) else (none)) else (none)) else (if (x5 = (3 : Int)) then (if ((1 : Int) < ((x10.length : Nat) : Int)) then (if (x5 = (6 : Int)) then (if ((2 : Int) < ((x10.length : Nat) : Int)) then (some (x5, x6, (0 : Int), (rd x10 (2 : Int)), true)) else (none)) else (some (x5, x6, (0 : Int), (rd x10 (1 : Int)), true))) else (none)) else (if (x5 = (6 : Int)) then (if ((2 : Int) < ((x10.length : Nat) : Int)) then (some (x5, x6, x7, (rd x10 (2 : Int)), true)) else (none)) else (some (x5, x6, x7, x8, true))))) else (some (x5, x6, x7, x8, false))) else (none)) else (none))
end
def spec_l2One.f (k : Nat) (a0 : ByteArray) : Option (Int × Int × Int × Int × Bool) := (spec_l15Cut.f k a0 (32 : Int)).bind fun t0 => (spec_l2One.l0 k (1 : Int) (0 : Int) (0 : Int) (0 : Int) (0 : Int) (0 : Int) (0 : Int) (0 : Int) (0 : Int) t0)
mutual
def spec_ProgRead.l0 : Nat → Int → (List S60) → (List ByteArray) → Option ((List S60) × Bool)
  | 0, _, _, _ => none
  | k + 1, x0, x1, x2 => if (x0 < ((x2.length : Nat) : Int)) then (if ((0 : Int) ≤ x0) then (if (x0 < ((x2.length : Nat) : Int)) then ((spec_l2One.f k (rdOf (default : ByteArray) x2 x0)).bind fun t1 => (if (((t1.2).2).2).2 = true then (if ((x1.length + 1) ≤ 4398046511104) then (spec_ProgRead.l0 k (wrap64 (x0 + (1 : Int))) (x1 ++ ([(⟨t1.1, (t1.2).1, ((t1.2).2).1, (((t1.2).2).2).1⟩ : S60)] : List S60)) x2) else (none)) else (some (([] : List S60), false)))) else (none)) else (none)) else ((spec_ProgOk.f k x1).bind fun t2 => (if t2 = true then (some (x1, true)) else (some (([] : List S60), false))))
end
def spec_ProgRead.f (k : Nat) (a0 : ByteArray) : Option ((List S60) × Bool) := if (((a0.size : Nat) : Int) > (400 : Int)) then (some (([] : List S60), false)) else (if (a0 = (bs [])) then (some (([] : List S60), true)) else ((spec_l15Cut.f k a0 (44 : Int)).bind fun t0 => (spec_ProgRead.l0 k (0 : Int) ([] : List S60) t0)))
mutual
def impl_integer.l0 : Nat → ByteArray → ByteArray → Int → Int → Option (Int × Bool)
  | 0, _, _, _, _ => none
  | k + 1, x0, x1, x2, x3 => if (x3 < ((x1.size : Nat) : Int)) then (if ((0 : Int) ≤ x3) then (if (x3 < ((x1.size : Nat) : Int)) then ((impl_in.f (wrap64 (btA x1 x3)) (48 : Int) (57 : Int)).bind fun t1 => (if t1 = true then (if ((0 : Int) ≤ x3) then (if (x3 < ((x1.size : Nat) : Int)) then (impl_integer.l0 k x0 x1 (wrap64 ((wrap64 ((10 : Int) * x2)) + (wrap64 (IntKind.wrap .u8 ((btA x1 x3) - (48 : Int)))))) (wrap64 (x3 + (1 : Int)))) else (none)) else (none)) else (some ((0 : Int), false)))) else (none)) else (none)) else (if (((x0.size : Nat) : Int) > ((x1.size : Nat) : Int)) then (some ((wrap64 ((0 : Int) - x2)), true)) else (some (x2, true)))
end
def impl_integer.f (k : Nat) (a0 : ByteArray) : Option (Int × Bool) := (strings_TrimPrefix.f k a0 (bs [45])).bind fun t0 => (if (((t0.size : Nat) : Int) < (1 : Int)) then (some ((0 : Int), false)) else (if (((t0.size : Nat) : Int) > (9 : Int)) then (some ((0 : Int), false)) else (if ((0 : Int) < ((t0.size : Nat) : Int)) then (if ((btA t0 (0 : Int)) = (48 : Int)) then (if (((t0.size : Nat) : Int) > (1 : Int)) then (some ((0 : Int), false)) else (if (((a0.size : Nat) : Int) > ((t0.size : Nat) : Int)) then (some ((0 : Int), false)) else (impl_integer.l0 k a0 t0 (0 : Int) (0 : Int)))) else (impl_integer.l0 k a0 t0 (0 : Int) (0 : Int))) else (none))))
def impl_insText.f (k : Nat) (a0_0 : Int) (a0_1 : Int) (a0_2 : Int) (a0_3 : Int) : Option (ByteArray) := (strconv_Itoa.f k a0_1).bind fun t0 => (if ((1 + t0.size) ≤ 9223372036854775807) then ((strconv_Itoa.f k a0_2).bind fun t1 => (if ((1 + t1.size) ≤ 9223372036854775807) then ((strconv_Itoa.f k a0_3).bind fun t2 => (if ((1 + t2.size) ≤ 9223372036854775807) then (if (a0_0 = (1 : Int)) then (if ((4 + (((bs [32]) ++ t0)).size) ≤ 9223372036854775807) then (if (((((bs [108, 111, 97, 100]) ++ ((bs [32]) ++ t0))).size + (((bs [32]) ++ t1)).size) ≤ 9223372036854775807) then (some ((((bs [108, 111, 97, 100]) ++ ((bs [32]) ++ t0)) ++ ((bs [32]) ++ t1)))) else (none)) else (none)) else (if (a0_0 = (2 : Int)) then (if ((3 + (((bs [32]) ++ t0)).size) ≤ 9223372036854775807) then (if (((((bs [112, 117, 116]) ++ ((bs [32]) ++ t0))).size + (((bs [32]) ++ t1)).size) ≤ 9223372036854775807) then (some ((((bs [112, 117, 116]) ++ ((bs [32]) ++ t0)) ++ ((bs [32]) ++ t1)))) else (none)) else (none)) else (if (a0_0 = (3 : Int)) then (if ((3 + (((bs [32]) ++ t0)).size) ≤ 9223372036854775807) then (if (((((bs [110, 117, 109]) ++ ((bs [32]) ++ t0))).size + (((bs [32]) ++ t2)).size) ≤ 9223372036854775807) then (some ((((bs [110, 117, 109]) ++ ((bs [32]) ++ t0)) ++ ((bs [32]) ++ t2)))) else (none)) else (none)) else (if (a0_0 = (4 : Int)) then (if ((3 + (((bs [32]) ++ t0)).size) ≤ 9223372036854775807) then (if (((((bs [97, 100, 100]) ++ ((bs [32]) ++ t0))).size + (((bs [32]) ++ t1)).size) ≤ 9223372036854775807) then (some ((((bs [97, 100, 100]) ++ ((bs [32]) ++ t0)) ++ ((bs [32]) ++ t1)))) else (none)) else (none)) else (if (a0_0 = (5 : Int)) then (if ((3 + (((bs [32]) ++ t0)).size) ≤ 9223372036854775807) then (if (((((bs [115, 117, 98]) ++ ((bs [32]) ++ t0))).size + (((bs [32]) ++ t1)).size) ≤ 9223372036854775807) then (some ((((bs [115, 117, 98]) ++ ((bs [32]) ++ t0)) ++ ((bs [32]) ++ t1)))) else (none)) else (none)) else (if (a0_0 = (6 : Int)) then (if ((4 + (((bs [32]) ++ t0)).size) ≤ 9223372036854775807) then (if (((((bs [108, 101, 115, 115]) ++ ((bs [32]) ++ t0))).size + (((bs [32]) ++ t1)).size) ≤ 9223372036854775807) then (if ((((((bs [108, 101, 115, 115]) ++ ((bs [32]) ++ t0)) ++ ((bs [32]) ++ t1))).size + (((bs [32]) ++ t2)).size) ≤ 9223372036854775807) then (some (((((bs [108, 101, 115, 115]) ++ ((bs [32]) ++ t0)) ++ ((bs [32]) ++ t1)) ++ ((bs [32]) ++ t2)))) else (none)) else (none)) else (none)) else (if (a0_0 = (7 : Int)) then (some ((bs [102, 97, 105, 108]))) else (some ((bs [110, 111, 110, 101])))))))))) else (none))) else (none))) else (none))
mutual
def impl_insRead.l0 : Nat → ByteArray → (List ByteArray) → Int → Int → Int → Int → Int → Int → (List Int) → Option (Int × Int × Int × Int × Bool)
  | 0, _, _, _, _, _, _, _, _, _ => none
  | k + 1, x0, x1, x2, x3, x4, x5, x6, x7, x8 => if (x3 < x2) then (if ((0 : Int) ≤ x3) then (if (x3 < ((x1.length : Nat) : Int)) then ((impl_integer.f k (rdOf (default : ByteArray) x1 x3)).bind fun t1 => (if t1.2 = true then (if ((x8.length + 1) ≤ 17592186044416) then (impl_insRead.l0 k x0 x1 x2 (wrap64 (x3 + (1 : Int))) x4 x5 x6 x7 (x8 ++ ([t1.1] : List Int))) else (none)) else (some ((0 : Int), (0 : Int), (0 : Int), (0 : Int), false)))) else (none)) else (none)) else (if ((x8.length + 3) ≤ 17592186044416) then (if ((0 : Int) < ((((x8 ++ ([(0 : Int), (0 : Int), (0 : Int)] : List Int))).length : Nat) : Int)) then (if ((1 : Int) < ((((x8 ++ ([(0 : Int), (0 : Int), (0 : Int)] : List Int))).length : Nat) : Int)) then (if ((0 : Int) < ((((x8 ++ ([(0 : Int), (0 : Int), (0 : Int)] : List Int))).length : Nat) : Int)) then (if ((1 : Int) < ((((x8 ++ ([(0 : Int), (0 : Int), (0 : Int)] : List Int))).length : Nat) : Int)) then (if ((0 : Int) < ((((x8 ++ ([(0 : Int), (0 : Int), (0 : Int)] : List Int))).length : Nat) : Int)) then (if ((1 : Int) < ((((x8 ++ ([(0 : Int), (0 : Int), (0 : Int)] : List Int))).length : Nat) : Int)) then (if ((0 : Int) < ((((x8 ++ ([(0 : Int), (0 : Int), (0 : Int)] : List Int))).length : Nat) : Int)) then (if ((1 : Int) < ((((x8 ++ ([(0 : Int), (0 : Int), (0 : Int)] : List Int))).length : Nat) : Int)) then (if ((0 : Int) < ((((x8 ++ ([(0 : Int), (0 : Int), (0 : Int)] : List Int))).length : Nat) : Int)) then (if ((1 : Int) < ((((x8 ++ ([(0 : Int), (0 : Int), (0 : Int)] : List Int))).length : Nat) : Int)) then (if ((0 : Int) < ((((x8 ++ ([(0 : Int), (0 : Int), (0 : Int)] : List Int))).length : Nat) : Int)) then (if ((1 : Int) < ((((x8 ++ ([(0 : Int), (0 : Int), (0 : Int)] : List Int))).length : Nat) : Int)) then (if ((2 : Int) < ((((x8 ++ ([(0 : Int), (0 : Int), (0 : Int)] : List Int))).length : Nat) : Int)) then (impl_insRead.l1 k x0 (7 : Int) (0 : Int) x4 x5 x6 x7 ([(⟨(1 : Int), (rd (x8 ++ ([(0 : Int), (0 : Int), (0 : Int)] : List Int)) (0 : Int)), (rd (x8 ++ ([(0 : Int), (0 : Int), (0 : Int)] : List Int)) (1 : Int)), (0 : Int)⟩ : S60), (⟨(2 : Int), (rd (x8 ++ ([(0 : Int), (0 : Int), (0 : Int)] : List Int)) (0 : Int)), (rd (x8 ++ ([(0 : Int), (0 : Int), (0 : Int)] : List Int)) (1 : Int)), (0 : Int)⟩ : S60), (⟨(3 : Int), (rd (x8 ++ ([(0 : Int), (0 : Int), (0 : Int)] : List Int)) (0 : Int)), (0 : Int), (rd (x8 ++ ([(0 : Int), (0 : Int), (0 : Int)] : List Int)) (1 : Int))⟩ : S60), (⟨(4 : Int), (rd (x8 ++ ([(0 : Int), (0 : Int), (0 : Int)] : List Int)) (0 : Int)), (rd (x8 ++ ([(0 : Int), (0 : Int), (0 : Int)] : List Int)) (1 : Int)), (0 : Int)⟩ : S60), (⟨(5 : Int), (rd (x8 ++ ([(0 : Int), (0 : Int), (0 : Int)] : List Int)) (0 : Int)), (rd (x8 ++ ([(0 : Int), (0 : Int), (0 : Int)] : List Int)) (1 : Int)), (0 : Int)⟩ : S60), (⟨(6 : Int), (rd (x8 ++ ([(0 : Int), (0 : Int), (0 : Int)] : List Int)) (0 : Int)), (rd (x8 ++ ([(0 : Int), (0 : Int), (0 : Int)] : List Int)) (1 : Int)), (rd (x8 ++ ([(0 : Int), (0 : Int), (0 : Int)] : List Int)) (2 : Int))⟩ : S60), (⟨(7 : Int), (0 : Int), (0 : Int), (0 : Int)⟩ : S60)] : List S60)) else (none)) else (none)) else (none)) else (none)) else (none)) else (none)) else (none)) else (none)) else (none)) else (none)) else (none)) else (none)) else (none)) else (none))
def impl_insRead.l1 : Nat → ByteArray → Int → Int → Int → Int → Int → Int → (List S60) → Option (Int × Int × Int × Int × Bool)
  | 0, _, _, _, _, _, _, _, _ => none
  | k + 1, x0, x1, x2, x3, x4, x5, x6, x7 => if (x2 < x1) then (if ((0 : Int) ≤ x2) then (if (x2 < ((x7.length : Nat) : Int)) then ((impl_insOk.f k ((rd_T60 x7 x2)).f0 ((rd_T60 x7 x2)).f1 ((rd_T60 x7 x2)).f2 ((rd_T60 x7 x2)).f3).bind fun t2 => (if t2 = true then ((impl_insText.f k ((rd_T60 x7 x2)).f0 ((rd_T60 x7 x2)).f1 ((rd_T60 x7 x2)).f2 ((rd_T60 x7 x2)).f3).bind fun t3 => (if (t3 = x0) then (some (((rd_T60 x7 x2)).f0, ((rd_T60 x7 x2)).f1, ((rd_T60 x7 x2)).f2, ((rd_T60 x7 x2)).f3, true)) else (impl_insRead.l1 k x0 x1 (wrap64 (x2 + (1 : Int))) x3 x4 x5 x6 x7))) else (impl_insRead.l1 k x0 x1 (wrap64 (x2 + (1 : Int))) x3 x4 x5 x6 x7))) else (none)) else (none)) else (some ((0 : Int), (0 : Int), (0 : Int), (0 : Int), false))
end
def impl_insRead.f (k : Nat) (a0 : ByteArray) : Option (Int × Int × Int × Int × Bool) := (strings_Split.f k a0 (bs [32])).bind fun t0 => (if ((1 : Int) ≤ ((t0.length : Nat) : Int)) then (impl_insRead.l0 k a0 (List.drop 1 t0) ((((List.drop 1 t0)).length : Nat) : Int) (0 : Int) (0 : Int) (0 : Int) (0 : Int) (0 : Int) ([] : List Int)) else (none))
mutual
def impl_ProgRead.l0 : Nat → Int → Int → (List S60) → (List ByteArray) → Option ((List S60) × Bool)
  | 0, _, _, _, _ => none
  | k + 1, x0, x1, x2, x3 => if (x1 < x0) then (if ((0 : Int) ≤ x1) then (if (x1 < ((x3.length : Nat) : Int)) then ((impl_insRead.f k (rdOf (default : ByteArray) x3 x1)).bind fun t1 => (if (((t1.2).2).2).2 = true then (if ((x2.length + 1) ≤ 4398046511104) then (impl_ProgRead.l0 k x0 (wrap64 (x1 + (1 : Int))) (x2 ++ ([(⟨t1.1, (t1.2).1, ((t1.2).2).1, (((t1.2).2).2).1⟩ : S60)] : List S60)) x3) else (none)) else (some (([] : List S60), false)))) else (none)) else (none)) else ((impl_ProgOk.f k x2).bind fun t2 => (if t2 = true then ((impl_copied_impl_Ins.f x2).bind fun t3 => (some (t3, true))) else (some (([] : List S60), false))))
end
def impl_ProgRead.f (k : Nat) (a0 : ByteArray) : Option ((List S60) × Bool) := if (((a0.size : Nat) : Int) > (400 : Int)) then (some (([] : List S60), false)) else (if (a0 = (bs [])) then (some (([] : List S60), true)) else ((strings_Split.f k a0 (bs [44])).bind fun t0 => (impl_ProgRead.l0 k ((t0.length : Nat) : Int) (0 : Int) ([] : List S60) t0)))
def laws_FnExactProgRead.f (k : Nat) (a0 : ByteArray) : Option (Bool) := if (((a0.size : Nat) : Int) > (1048576 : Int)) then (some (true)) else ((spec_ProgRead.f k a0).bind fun t0 => ((impl_ProgRead.f k a0).bind fun t1 => ((laws_eqInsS.f k t1.1 t0.1).bind fun t2 => (if t2 = true then (if (t1.2 == t0.2) = true then ((laws_markInsS.f k t1.1 (1 : Int)).bind fun t3 => ((laws_heldInsS.f k t3.2 (1 : Int)).bind fun t4 => (if (t4 < (0 : Int)) then (some (false)) else (if (t4 = t3.1) then ((impl_ProgRead.f k a0).bind fun t5 => ((laws_eqInsS.f k t5.1 t0.1).bind fun t6 => (if t6 = true then (if (t5.2 == t0.2) = true then ((laws_heldInsS.f k t3.2 (1 : Int)).bind fun t7 => (if (t7 < (0 : Int)) then (some (false)) else (if (t7 = t3.1) then (some (true)) else (some (false))))) else (some (false))) else (some (false))))) else (some (false)))))) else (some (false))) else (some (false))))))
open Go Go.Proofs Am
def tau : TypeId → Type
  | 3 => Int
  | 9 => ByteArray
  | 60 => S60
  | _ => Unit
def tabL : List (TypeId × TI) := [(2, ⟨[.int .i64], .scal⟩), (3, ⟨[.int .i64], .scal⟩), (4, ⟨[.bool], .scal⟩), (5, ⟨[.int .u8], .scal⟩), (6, ⟨[.int .u8], .scal⟩), (7, ⟨[.int .i64, .int .i64, .bool, .int .u8], .st [(0, 2), (1, 3), (2, 4), (3, 6)]⟩), (8, ⟨[.int .i64, .int .i64, .bool, .int .u8], .st [(0, 2), (1, 3), (2, 4), (3, 6)]⟩), (9, ⟨[.str], .scal⟩), (22, ⟨[.sl 60], .sl 60⟩), (42, ⟨[.sl 3], .sl 3⟩), (57, ⟨[.sl 9], .sl 9⟩), (60, ⟨[.int .i64, .int .i64, .int .i64, .int .i64], .st [(0, 3), (1, 3), (2, 3), (3, 3)]⟩)]
def rowT : (e : TypeId) → tau e → List (Lf tau)
  | 3, (x : Int) => [.i x]
  | 9, (x : ByteArray) => [.s x]
  | 60, (x : S60) => [.i x.f0, .i x.f1, .i x.f2, .i x.f3]
  | _, _ => []
instance : (e : TypeId) → Inhabited (tau e) := fun e => by unfold tau; split <;> first | exact ⟨(0 : Int)⟩ | exact ⟨false⟩ | exact ⟨(default : ByteArray)⟩ | exact ⟨[]⟩ | exact ⟨()⟩ | exact ⟨z60⟩
def of3 : List (Lf tau) → Int
  | [(.i y0)] => y0
  | _ => (0 : Int)
def of9 : List (Lf tau) → ByteArray
  | [(.s y0)] => y0
  | _ => (default : ByteArray)
def of60 : List (Lf tau) → S60
  | [(.i y0), (.i y1), (.i y2), (.i y3)] => (⟨y0, y1, y2, y3⟩ : S60)
  | _ => z60
def ofT : (e : TypeId) → List (Lf tau) → tau e
  | 3, l => of3 l
  | 9, l => of9 l
  | 60, l => of60 l
  | _, _ => default
def powName : String := Rows.fnExactProgReadRow.named.getD 3 default
def GL : World → (Nat → Prop) → Prop := glA Tryd.prog powName Lib.pow10Tab 0 1
def TT : Tab tau := { get := fun t => lookN t tabL, row := rowT, of := ofT, el := fun t => memN t [3, 9, 60], gl := GL, glN := glA_next }
def byT : TypeId → Nat := fun t => lookD 1 t [(2, 8), (3, 8), (4, 1), (5, 1), (6, 1), (7, 24), (8, 24), (9, 16), (22, 24), (42, 24), (57, 24), (60, 32)]
def modeL : List (Nat × Nat) := []
def shpL : List (Nat × List PS) := [(58, [.one .any]), (91, [.one .any, .one .any]), (52, [.one .any, .one .any]), (65, [.one .any]), (95, [.one .any]), (96, [.one .any]), (75, [.agg [.any, .any, .any, .any]]), (30, [.one (.sl 60)]), (64, [.one .any, .one .any, .one .any]), (93, [.one .any]), (94, [.one .any]), (74, [.agg [.any, .any, .any, .any]]), (29, [.one (.sl 60)]), (54, [.one (.sl 60)]), (55, [.agg [.any, .any, .any, .any], .agg [.any, .any, .any, .any]]), (13, [.one (.sl 60), .one (.sl 60)]), (14, [.one (.own 60), .one .any]), (15, [.one (.sl 60), .one .any]), (50, [.one .any, .one .any]), (82, []), (70, [.one .any]), (51, [.one .any]), (11, [.one .any]), (61, [.one .any]), (72, [.agg [.any, .any, .any, .any]]), (53, [.one .any]), (12, [.one .any]), (3, [.one .any])]
def persL : List (Nat × List Nat) := [(14, [0])]
def pnL : List (Nat × Nat) := [(14, 1)]
def pnT : FuncId → Nat := fun f => lookD 0 f pnL
def mkE (keep : List (Nat × List (Nat × PS))) (res : List PS) (nb : NB) : Env tau := { T := TT, by_ := byT, mode := fun f => lookD 0 f modeL, shp := fun f => lookD [] f shpL, keep := fun i => lookN i keep, res := res, pers := fun f => lookD [] f persL, pn := pnT, nb := nb }
theorem asked : Asked Tryd.prog byT tabL := ⟨by kernel_rfl, by kernel_rfl, by kernel_rfl, by kernel_rfl⟩
theorem el_3 : ElOk TT 3 := by
 intro ti h
 replace h : some (⟨[.int .i64], .scal⟩ : TI) = some ti := h
 cases h
 refine ⟨fun x => rfl, fun l hl => ?_⟩
 obtain ⟨y0, l0, e0, h0⟩ := wts_i hl
 have e1 := wts_nil h0
 subst e1
 subst e0
 rfl
theorem el_9 : ElOk TT 9 := by
 intro ti h
 replace h : some (⟨[.str], .scal⟩ : TI) = some ti := h
 cases h
 refine ⟨fun x => rfl, fun l hl => ?_⟩
 obtain ⟨y0, l0, e0, h0⟩ := wts_s hl
 have e1 := wts_nil h0
 subst e1
 subst e0
 rfl
theorem el_60 : ElOk TT 60 := by
 intro ti h
 replace h : some (⟨[.int .i64, .int .i64, .int .i64, .int .i64], .st [(0, 3), (1, 3), (2, 3), (3, 3)]⟩ : TI) = some ti := h
 cases h
 refine ⟨fun x => rfl, fun l hl => ?_⟩
 obtain ⟨y0, l0, e0, h0⟩ := wts_i hl
 obtain ⟨y1, l1, e1, h1⟩ := wts_i h0
 obtain ⟨y2, l2, e2, h2⟩ := wts_i h1
 obtain ⟨y3, l3, e3, h3⟩ := wts_i h2
 have e4 := wts_nil h3
 subst e4
 subst e3
 subst e2
 subst e1
 subst e0
 rfl
theorem pq : PQ Tryd.prog TT byT := pq_of asked rfl (fun e he => by
 have h := memN_iff.1 he
 simp only [List.mem_cons, List.not_mem_nil, or_false] at h
 rcases h with rfl | rfl | rfl
 · exact el_3
 · exact el_9
 · exact el_60)
theorem hmix : Tryd.prog.follows .mixedOrders = true := by kernel_rfl
noncomputable def c_58 (args : List (AV tau)) (m : Mem tau) (κ : AV tau → Mem tau → Option Unit) : Option Unit := match args, m.bx, m.rw with
  | [b0], [], [] => bO (asI .i64 b0) fun a0 => callX (fun n => strconv_Itoa.f n a0) fun t => κ (.str (t)) ⟨[], []⟩
  | _, _, _ => none
noncomputable def c_91 (args : List (AV tau)) (m : Mem tau) (κ : AV tau → Mem tau → Option Unit) : Option Unit := match args, m.bx, m.rw with
  | [b0, b1], [], [] => bO (asS b0) fun a0 => bO (asS b1) fun a1 => callX (fun n => strings_TrimPrefix.f n a0 a1) fun t => κ (.str (t)) ⟨[], []⟩
  | _, _, _ => none
noncomputable def c_52 (args : List (AV tau)) (m : Mem tau) (κ : AV tau → Mem tau → Option Unit) : Option Unit := match args, m.bx, m.rw with
  | [b0, b1], [], [] => bO (asS b0) fun a0 => bO (asS b1) fun a1 => callX (fun n => strings_Split.f n a0 a1) fun t => κ (.own 0 0) ⟨[], [some ⟨9, t, 0⟩]⟩
  | _, _, _ => none
noncomputable def c_65 (args : List (AV tau)) (m : Mem tau) (κ : AV tau → Mem tau → Option Unit) : Option Unit := match args, m.bx, m.rw with
  | [b0], [], [] => bO (asI .i64 b0) fun a0 => callX (fun n => spec_l1Num.f a0) fun t => κ (.bool (t)) ⟨[], []⟩
  | _, _, _ => none
def E_65 : Env tau := mkE [(0, [(0, .one .any)]), (1, [(0, .one .any)])] [.one .any] ⟨0, 0⟩
noncomputable def c_95 (args : List (AV tau)) (m : Mem tau) (κ : AV tau → Mem tau → Option Unit) : Option Unit := match args, m.bx, m.rw with
  | [b0], [], [] => bO (asI .i64 b0) fun a0 => callX (fun n => spec_l2Reg.f a0) fun t => κ (.bool (t)) ⟨[], []⟩
  | _, _, _ => none
def E_95 : Env tau := mkE [(0, [(0, .one .any)]), (1, [(0, .one .any)])] [.one .any] ⟨0, 0⟩
noncomputable def c_96 (args : List (AV tau)) (m : Mem tau) (κ : AV tau → Mem tau → Option Unit) : Option Unit := match args, m.bx, m.rw with
  | [b0], [], [] => bO (asI .i64 b0) fun a0 => callX (fun n => spec_l2Box.f a0) fun t => κ (.bool (t)) ⟨[], []⟩
  | _, _, _ => none
def E_96 : Env tau := mkE [(0, [(0, .one .any)]), (1, [(0, .one .any)])] [.one .any] ⟨0, 0⟩
noncomputable def c_75 (args : List (AV tau)) (m : Mem tau) (κ : AV tau → Mem tau → Option Unit) : Option Unit := match args, m.bx, m.rw with
  | [.agg [b0, b1, b2, b3]], [], [] => bO (asI .i64 b0) fun a0_0 => bO (asI .i64 b1) fun a0_1 => bO (asI .i64 b2) fun a0_2 => bO (asI .i64 b3) fun a0_3 => callX (fun n => spec_l2Ins.f n a0_0 a0_1 a0_2 a0_3) fun t => κ (.bool (t)) ⟨[], []⟩
  | _, _, _ => none
def E_75 : Env tau := mkE [(0, [(0, .agg [.any, .any, .any, .any])]), (1, [(1, .one .any)]), (2, [(1, .one .any), (4, .one .any)]), (3, [(1, .one .any)]), (4, [(1, .one .any), (4, .one .any)]), (5, [(1, .one .any)]), (6, [(1, .one .any), (4, .one .any)]), (7, [(1, .one .any)]), (8, [(1, .one .any), (4, .one .any)]), (9, [(1, .one .any), (4, .one .any)]), (10, [(1, .one .any)]), (11, [(1, .one .any), (4, .one .any)]), (12, [(1, .one .any)]), (13, [(1, .one .any), (4, .one .any)]), (14, [(1, .one .any)]), (15, [])] [.one .any] ⟨0, 0⟩
noncomputable def c_30 (args : List (AV tau)) (m : Mem tau) (κ : AV tau → Mem tau → Option Unit) : Option Unit := match args, m.bx, m.rw with
  | [b0], [], [] => bO (asSl 60 b0) fun l0 => callX (fun n => spec_ProgOk.f n l0) fun t => κ (.bool (t)) ⟨[], []⟩
  | _, _, _ => none
def E_30 : Env tau := mkE [(0, [(0, .one (.own 60))]), (1, [(0, .one (.own 60))]), (2, []), (3, [(0, .one (.own 60))]), (4, [(0, .one (.own 60)), (3, .one .any)]), (5, [(0, .one (.own 60)), (3, .one .any)]), (6, [(0, .one (.own 60)), (3, .one .any)]), (7, []), (8, [])] [.one .any] ⟨0, 0⟩
noncomputable def c_64 (args : List (AV tau)) (m : Mem tau) (κ : AV tau → Mem tau → Option Unit) : Option Unit := match args, m.bx, m.rw with
  | [b0, b1, b2], [], [] => bO (asI .i64 b0) fun a0 => bO (asI .i64 b1) fun a1 => bO (asI .i64 b2) fun a2 => callX (fun n => impl_in.f a0 a1 a2) fun t => κ (.bool (t)) ⟨[], []⟩
  | _, _, _ => none
def E_64 : Env tau := mkE [(0, [(0, .one .any), (1, .one .any), (2, .one .any)]), (1, [(0, .one .any), (1, .one .any), (2, .one .any)])] [.one .any] ⟨0, 0⟩
noncomputable def c_93 (args : List (AV tau)) (m : Mem tau) (κ : AV tau → Mem tau → Option Unit) : Option Unit := match args, m.bx, m.rw with
  | [b0], [], [] => bO (asI .i64 b0) fun a0 => callX (fun n => impl_insOk_1.f a0) fun t => κ (.bool (t)) ⟨[], []⟩
  | _, _, _ => none
def E_93 : Env tau := mkE [(0, [(0, .one .any)]), (1, [(0, .one .any)])] [.one .any] ⟨0, 0⟩
noncomputable def c_94 (args : List (AV tau)) (m : Mem tau) (κ : AV tau → Mem tau → Option Unit) : Option Unit := match args, m.bx, m.rw with
  | [b0], [], [] => bO (asI .i64 b0) fun a0 => callX (fun n => impl_insOk_2.f a0) fun t => κ (.bool (t)) ⟨[], []⟩
  | _, _, _ => none
def E_94 : Env tau := mkE [(0, [(0, .one .any)]), (1, [(0, .one .any)])] [.one .any] ⟨0, 0⟩
noncomputable def c_74 (args : List (AV tau)) (m : Mem tau) (κ : AV tau → Mem tau → Option Unit) : Option Unit := match args, m.bx, m.rw with
  | [.agg [b0, b1, b2, b3]], [], [] => bO (asI .i64 b0) fun a0_0 => bO (asI .i64 b1) fun a0_1 => bO (asI .i64 b2) fun a0_2 => bO (asI .i64 b3) fun a0_3 => callX (fun n => impl_insOk.f n a0_0 a0_1 a0_2 a0_3) fun t => κ (.bool (t)) ⟨[], []⟩
  | _, _, _ => none
def E_74 : Env tau := mkE [(0, [(0, .agg [.any, .any, .any, .any])]), (1, [(1, .one .any)]), (2, [(1, .one .any), (3, .one .any)]), (3, [(1, .one .any), (3, .one .any), (4, .one .any)]), (4, [(1, .one .any), (3, .one .any), (4, .one .any), (6, .one .any)]), (5, [(1, .one .any), (3, .one .any), (4, .one .any)]), (6, [(1, .one .any), (3, .one .any), (4, .one .any), (6, .one .any)]), (7, [(1, .one .any), (3, .one .any), (4, .one .any)]), (8, [(1, .one .any), (3, .one .any), (6, .one .any)]), (9, [(1, .one .any), (3, .one .any)]), (10, [(1, .one .any), (3, .one .any), (6, .one .any)]), (11, [(1, .one .any), (3, .one .any), (6, .one .any)]), (12, [(1, .one .any), (3, .one .any)]), (13, [(1, .one .any), (3, .one .any), (6, .one .any)]), (14, [(1, .one .any), (3, .one .any)]), (15, [(1, .one .any), (6, .one .any)]), (16, [(1, .one .any)]), (17, [])] [.one .any] ⟨0, 0⟩
noncomputable def c_29 (args : List (AV tau)) (m : Mem tau) (κ : AV tau → Mem tau → Option Unit) : Option Unit := match args, m.bx, m.rw with
  | [b0], [], [] => bO (asSl 60 b0) fun l0 => callX (fun n => impl_ProgOk.f n l0) fun t => κ (.bool (t)) ⟨[], []⟩
  | _, _, _ => none
def E_29 : Env tau := mkE [(0, [(0, .one (.own 60))]), (1, [(0, .one (.own 60))]), (2, [(0, .one (.own 60)), (5, .one (.own 60)), (6, .one .any), (7, .one .any)]), (3, [(0, .one (.own 60)), (5, .one (.own 60)), (6, .one .any), (7, .one .any)]), (4, [(0, .one (.own 60)), (4, .one .any), (5, .one (.own 60)), (6, .one .any), (7, .one .any)]), (5, []), (6, [(0, .one (.own 60)), (5, .one (.own 60)), (6, .one .any), (7, .one .any)]), (7, [(0, .one (.own 60))])] [.one .any] ⟨0, 0⟩
noncomputable def c_54 (args : List (AV tau)) (m : Mem tau) (κ : AV tau → Mem tau → Option Unit) : Option Unit := match args, m.bx, m.rw with
  | [b0], [], [] => bO (asSl 60 b0) fun l0 => callX (fun n => impl_copied_impl_Ins.f l0) fun t => κ (.own 0 0) ⟨[], [some ⟨60, t, 0⟩]⟩
  | _, _, _ => none
def E_54 : Env tau := mkE [(0, [(0, .one (.own 60))]), (1, [(0, .one (.own 60))]), (2, []), (3, [(0, .one (.own 60))]), (4, [(0, .one (.own 60)), (3, .one (.own 60))]), (5, [(3, .one (.own 60))])] [.one (.own 60)] ⟨0, 0⟩
noncomputable def c_55 (args : List (AV tau)) (m : Mem tau) (κ : AV tau → Mem tau → Option Unit) : Option Unit := match args, m.bx, m.rw with
  | [.agg [b0, b1, b2, b3], .agg [b4, b5, b6, b7]], [], [] => bO (asI .i64 b0) fun a0_0 => bO (asI .i64 b1) fun a0_1 => bO (asI .i64 b2) fun a0_2 => bO (asI .i64 b3) fun a0_3 => bO (asI .i64 b4) fun a1_0 => bO (asI .i64 b5) fun a1_1 => bO (asI .i64 b6) fun a1_2 => bO (asI .i64 b7) fun a1_3 => callX (fun n => laws_eqIns.f a0_0 a0_1 a0_2 a0_3 a1_0 a1_1 a1_2 a1_3) fun t => κ (.bool (t)) ⟨[], []⟩
  | _, _, _ => none
def E_55 : Env tau := mkE [(0, [(0, .agg [.any, .any, .any, .any]), (1, .agg [.any, .any, .any, .any])]), (1, [(2, .one .any), (3, .one .any)]), (2, []), (3, [(2, .one .any), (3, .one .any)]), (4, []), (5, [(2, .one .any), (3, .one .any)]), (6, []), (7, [(2, .one .any), (3, .one .any)]), (8, []), (9, [])] [.one .any] ⟨0, 0⟩
noncomputable def c_13 (args : List (AV tau)) (m : Mem tau) (κ : AV tau → Mem tau → Option Unit) : Option Unit := match args, m.bx, m.rw with
  | [b0, b1], [], [] => bO (asSl 60 b0) fun l0 => bO (asSl 60 b1) fun l1 => callX (fun n => laws_eqInsS.f n l0 l1) fun t => κ (.bool (t)) ⟨[], []⟩
  | _, _, _ => none
def E_13 : Env tau := mkE [(0, [(0, .one (.own 60)), (1, .one (.own 60))]), (1, [(0, .one (.own 60)), (1, .one (.own 60))]), (2, []), (3, [(0, .one (.own 60)), (1, .one (.own 60))]), (4, [(0, .one (.own 60)), (1, .one (.own 60)), (5, .one .any)]), (5, [(0, .one (.own 60)), (1, .one (.own 60)), (5, .one .any)]), (6, [(0, .one (.own 60)), (1, .one (.own 60)), (5, .one .any)]), (7, []), (8, [])] [.one .any] ⟨0, 0⟩
noncomputable def c_14 (args : List (AV tau)) (m : Mem tau) (κ : AV tau → Mem tau → Option Unit) : Option Unit := match args, m.bx, m.rw with
  | [b0, b1], [], [r0] => bO (asOwn 0 b0) fun _ => bO (asRow 60 r0) fun l0 => bO (asI .i64 b1) fun a1 => callX (fun n => laws_markInsS.f n l0 a1) fun t => κ (.int .i64 (t.1)) ⟨[], [some ⟨60, t.2, 0⟩]⟩
  | _, _, _ => none
def E_14 : Env tau := mkE [(0, [(0, .one (.own 60)), (1, .one .any)]), (1, [(0, .one (.own 60)), (1, .one .any)]), (2, [(0, .one (.own 60)), (1, .one .any), (5, .one .any)]), (3, [(0, .one (.own 60)), (1, .one .any), (5, .one .any)]), (4, [(0, .one (.own 60)), (1, .one .any), (5, .one .any)]), (5, [(0, .one (.own 60)), (1, .one .any), (5, .one .any)]), (6, [(0, .one (.own 60)), (1, .one .any), (5, .one .any)]), (7, [(0, .one (.own 60)), (1, .one .any), (5, .one .any)]), (8, [(0, .one (.own 60)), (1, .one .any), (5, .one .any)]), (9, [(0, .one (.own 60)), (1, .one .any), (5, .one .any)]), (10, [(0, .one (.own 60)), (1, .one .any), (5, .one .any)]), (11, [(0, .one (.own 60)), (1, .one .any), (5, .one .any)]), (12, [(1, .one .any)])] [.one .any] ⟨0, 1⟩
noncomputable def c_15 (args : List (AV tau)) (m : Mem tau) (κ : AV tau → Mem tau → Option Unit) : Option Unit := match args, m.bx, m.rw with
  | [b0, b1], [], [] => bO (asSl 60 b0) fun l0 => bO (asI .i64 b1) fun a1 => callX (fun n => laws_heldInsS.f n l0 a1) fun t => κ (.int .i64 (t)) ⟨[], []⟩
  | _, _, _ => none
def E_15 : Env tau := mkE [(0, [(0, .one (.own 60)), (1, .one .any)]), (1, [(0, .one (.own 60)), (1, .one .any)]), (2, [(0, .one (.own 60)), (1, .one .any), (5, .one .any)]), (3, [(0, .one (.own 60)), (1, .one .any), (5, .one .any)]), (4, [(0, .one (.own 60)), (1, .one .any), (5, .one .any)]), (5, []), (6, [(0, .one (.own 60)), (1, .one .any), (5, .one .any)]), (7, [(0, .one (.own 60)), (1, .one .any), (5, .one .any)]), (8, []), (9, [(0, .one (.own 60)), (1, .one .any), (5, .one .any)]), (10, [(0, .one (.own 60)), (1, .one .any), (5, .one .any)]), (11, []), (12, [(0, .one (.own 60)), (1, .one .any), (5, .one .any)]), (13, [(0, .one (.own 60)), (1, .one .any), (5, .one .any)]), (14, []), (15, [(0, .one (.own 60)), (1, .one .any), (5, .one .any)]), (16, [(1, .one .any)])] [.one .any] ⟨0, 0⟩
noncomputable def c_50 (args : List (AV tau)) (m : Mem tau) (κ : AV tau → Mem tau → Option Unit) : Option Unit := match args, m.bx, m.rw with
  | [b0, b1], [], [] => bO (asS b0) fun a0 => bO (asI .u8 b1) fun a1 => callX (fun n => spec_l15Cut.f n a0 a1) fun t => κ (.own 0 0) ⟨[], [some ⟨9, t, 0⟩]⟩
  | _, _, _ => none
def E_50 : Env tau := mkE [(0, [(0, .one .any), (1, .one .any)]), (1, [(0, .one .any), (1, .one .any)]), (2, [(0, .one .any), (1, .one .any), (5, .one (.own 9))]), (3, [(0, .one .any), (1, .one .any), (5, .one (.own 9)), (6, .one .any)]), (4, [(0, .one .any), (1, .one .any), (5, .one (.own 9)), (6, .one .any), (7, .one .any)]), (5, [(0, .one .any), (1, .one .any), (5, .one (.own 9)), (6, .one .any), (7, .one .any)]), (6, [(0, .one .any), (1, .one .any), (5, .one (.own 9)), (6, .one .any), (7, .one .any)]), (7, [(0, .one .any), (1, .one .any), (5, .one (.own 9)), (6, .one .any), (7, .one .any)]), (8, [(0, .one .any), (1, .one .any), (5, .one (.own 9)), (7, .one .any)]), (9, [(5, .one (.own 9))])] [.one (.own 9)] ⟨0, 0⟩
noncomputable def c_82 (args : List (AV tau)) (m : Mem tau) (κ : AV tau → Mem tau → Option Unit) : Option Unit := match args, m.bx, m.rw with
  | [], [], [] => callX (fun n => spec_l2Words.f n) fun t => κ (.own 0 0) ⟨[], [some ⟨9, t, 0⟩]⟩
  | _, _, _ => none
def E_82 : Env tau := mkE [(0, []), (1, [])] [.one (.own 9)] ⟨0, 0⟩
noncomputable def c_70 (args : List (AV tau)) (m : Mem tau) (κ : AV tau → Mem tau → Option Unit) : Option Unit := match args, m.bx, m.rw with
  | [b0], [], [] => bO (asS b0) fun a0 => callX (fun n => spec_l15Num.f n a0) fun t => κ (.tup [.int .i64 (t.1), .bool (t.2)]) ⟨[], []⟩
  | _, _, _ => none
def E_70 : Env tau := mkE [(0, [(0, .one .any)]), (1, [(0, .one .any)]), (2, [(0, .one .any), (4, .one .any)]), (3, [(0, .one .any), (4, .one .any)]), (4, [(0, .one .any), (4, .one .any)]), (5, []), (6, [(0, .one .any), (4, .one .any)]), (7, [(0, .one .any), (4, .one .any), (5, .one .any)]), (8, [(0, .one .any), (4, .one .any), (5, .one .any), (6, .one .any)]), (9, [(0, .one .any), (4, .one .any), (5, .one .any), (6, .one .any)]), (10, [(0, .one .any), (4, .one .any), (5, .one .any), (6, .one .any)]), (11, []), (12, [(0, .one .any), (4, .one .any), (5, .one .any), (6, .one .any)]), (13, [(4, .one .any), (5, .one .any)]), (14, [(5, .one .any)]), (15, [(5, .one .any)])] [.one .any, .one .any] ⟨0, 0⟩
noncomputable def c_51 (args : List (AV tau)) (m : Mem tau) (κ : AV tau → Mem tau → Option Unit) : Option Unit := match args, m.bx, m.rw with
  | [b0], [], [] => bO (asS b0) fun a0 => callX (fun n => spec_l2One.f n a0) fun t => κ (.tup [.agg [.int .i64 (t.1), .int .i64 (t.2.1), .int .i64 (t.2.2.1), .int .i64 (t.2.2.2.1)], .bool (t.2.2.2.2)]) ⟨[], []⟩
  | _, _, _ => none
def E_51 : Env tau := mkE [(0, [(0, .one .any)]), (1, [(0, .one .any), (2, .one .any)]), (2, [(2, .one .any), (4, .one (.own 9))]), (3, [(2, .one .any), (4, .one (.own 9)), (5, .one .any)]), (4, [(2, .one .any), (4, .one (.own 9)), (5, .one .any), (6, .one .any)]), (5, [(2, .one .any), (4, .one (.own 9)), (5, .one .any), (6, .one .any)]), (6, [(2, .one .any), (4, .one (.own 9)), (5, .one .any), (6, .one .any)]), (7, [(2, .one .any), (4, .one (.own 9)), (5, .one .any), (6, .one .any)]), (8, [(2, .one .any), (4, .one (.own 9)), (5, .one .any)]), (9, [(2, .one .any), (4, .one (.own 9)), (5, .one .any), (7, .one (.own 3))]), (10, [(2, .one .any), (4, .one (.own 9)), (5, .one .any), (7, .one (.own 3)), (8, .one .any)]), (11, [(2, .one .any), (4, .one (.own 9)), (5, .one .any), (7, .one (.own 3)), (8, .one .any)]), (12, [(2, .one .any), (4, .one (.own 9)), (5, .one .any), (7, .one (.own 3)), (8, .one .any)]), (13, [(2, .one .any), (4, .one (.own 9)), (5, .one .any), (7, .one (.own 3)), (8, .one .any), (9, .one .any), (10, .one .any)]), (14, [(2, .one .any), (5, .one .any)]), (15, [(2, .one .any), (4, .one (.own 9)), (5, .one .any), (7, .one (.own 3)), (8, .one .any), (9, .one .any)]), (16, [(2, .one .any), (5, .one .any), (7, .one (.own 3))]), (17, [(2, .one .any), (5, .one .any), (7, .one (.own 3)), (11, .one (.own 3))]), (18, [(2, .one .any), (5, .one .any)]), (19, [(2, .one .any), (5, .one .any), (7, .one (.own 3))]), (20, [(2, .one .any), (5, .one .any), (7, .one (.own 3))]), (21, [(2, .one .any), (5, .one .any), (7, .one (.own 3))]), (22, [(2, .one .any), (5, .one .any), (7, .one (.own 3))]), (23, [(2, .one .any), (5, .one .any), (7, .one (.own 3))]), (24, [(2, .one .any), (5, .one .any), (7, .one (.own 3))]), (25, [(2, .one .any), (5, .one .any), (7, .one (.own 3))]), (26, [(2, .one .any), (5, .one .any), (7, .one (.own 3))]), (27, [(2, .one .any), (5, .one .any)])] [.agg [.any, .any, .any, .any], .one .any] ⟨0, 0⟩
noncomputable def c_11 (args : List (AV tau)) (m : Mem tau) (κ : AV tau → Mem tau → Option Unit) : Option Unit := match args, m.bx, m.rw with
  | [b0], [], [] => bO (asS b0) fun a0 => callX (fun n => spec_ProgRead.f n a0) fun t => κ (.tup [.own 0 0, .bool (t.2)]) ⟨[], [some ⟨60, t.1, 0⟩]⟩
  | _, _, _ => none
def E_11 : Env tau := mkE [(0, [(0, .one .any)]), (1, [(0, .one .any)]), (2, [(0, .one .any), (4, .one (.own 60))]), (3, []), (4, [(0, .one .any), (4, .one (.own 60))]), (5, [(4, .one (.own 60))]), (6, [(0, .one .any), (4, .one (.own 60))]), (7, [(4, .one (.own 60)), (5, .one (.own 9))]), (8, [(4, .one (.own 60)), (5, .one (.own 9)), (6, .one .any)]), (9, [(4, .one (.own 60)), (5, .one (.own 9)), (6, .one .any)]), (10, [(4, .one (.own 60)), (5, .one (.own 9)), (6, .one .any)]), (11, [(4, .one (.own 60)), (5, .one (.own 9)), (6, .one .any), (7, .one .any), (8, .one .any)]), (12, []), (13, [(4, .one (.own 60)), (5, .one (.own 9)), (6, .one .any), (7, .one .any)]), (14, [(4, .one (.own 60))]), (15, []), (16, [(4, .one (.own 60))])] [.one (.own 60), .one .any] ⟨0, 0⟩
noncomputable def c_61 (args : List (AV tau)) (m : Mem tau) (κ : AV tau → Mem tau → Option Unit) : Option Unit := match args, m.bx, m.rw with
  | [b0], [], [] => bO (asS b0) fun a0 => callX (fun n => impl_integer.f n a0) fun t => κ (.tup [.int .i64 (t.1), .bool (t.2)]) ⟨[], []⟩
  | _, _, _ => none
def E_61 : Env tau := mkE [(0, [(0, .one .any)]), (1, [(0, .one .any)]), (2, [(0, .one .any), (4, .one .any)]), (3, []), (4, [(0, .one .any), (4, .one .any)]), (5, [(0, .one .any), (4, .one .any), (5, .one .any)]), (6, [(0, .one .any), (4, .one .any), (5, .one .any), (6, .one .any)]), (7, [(0, .one .any), (4, .one .any), (5, .one .any), (6, .one .any)]), (8, [(0, .one .any), (4, .one .any), (5, .one .any), (6, .one .any)]), (9, []), (10, [(0, .one .any), (4, .one .any), (5, .one .any), (6, .one .any)]), (11, [(0, .one .any), (4, .one .any), (5, .one .any)]), (12, [(5, .one .any)]), (13, [(5, .one .any)])] [.one .any, .one .any] ⟨0, 0⟩
noncomputable def c_72 (args : List (AV tau)) (m : Mem tau) (κ : AV tau → Mem tau → Option Unit) : Option Unit := match args, m.bx, m.rw with
  | [.agg [b0, b1, b2, b3]], [], [] => bO (asI .i64 b0) fun a0_0 => bO (asI .i64 b1) fun a0_1 => bO (asI .i64 b2) fun a0_2 => bO (asI .i64 b3) fun a0_3 => callX (fun n => impl_insText.f n a0_0 a0_1 a0_2 a0_3) fun t => κ (.str (t)) ⟨[], []⟩
  | _, _, _ => none
def E_72 : Env tau := mkE [(0, [(0, .agg [.any, .any, .any, .any])]), (1, [(1, .one .any)]), (2, [(1, .one .any), (3, .one .any), (4, .one .any), (5, .one .any)]), (3, [(3, .one .any), (4, .one .any), (5, .one .any), (19, .one .any)]), (4, [(3, .one .any), (4, .one .any)]), (5, [(3, .one .any), (4, .one .any), (5, .one .any), (19, .one .any)]), (6, [(3, .one .any), (4, .one .any)]), (7, [(3, .one .any), (4, .one .any), (5, .one .any), (19, .one .any)]), (8, [(3, .one .any), (5, .one .any)]), (9, [(3, .one .any), (4, .one .any), (5, .one .any), (19, .one .any)]), (10, [(3, .one .any), (4, .one .any)]), (11, [(3, .one .any), (4, .one .any), (5, .one .any), (19, .one .any)]), (12, [(3, .one .any), (4, .one .any)]), (13, [(3, .one .any), (4, .one .any), (5, .one .any), (19, .one .any)]), (14, [(3, .one .any), (4, .one .any), (5, .one .any)]), (15, [(19, .one .any)]), (16, []), (17, [])] [.one .any] ⟨0, 0⟩
noncomputable def c_53 (args : List (AV tau)) (m : Mem tau) (κ : AV tau → Mem tau → Option Unit) : Option Unit := match args, m.bx, m.rw with
  | [b0], [], [] => bO (asS b0) fun a0 => callX (fun n => impl_insRead.f n a0) fun t => κ (.tup [.agg [.int .i64 (t.1), .int .i64 (t.2.1), .int .i64 (t.2.2.1), .int .i64 (t.2.2.2.1)], .bool (t.2.2.2.2)]) ⟨[], []⟩
  | _, _, _ => none
def E_53 : Env tau := mkE [(0, [(0, .one .any)]), (1, [(0, .one .any), (2, .one .any)]), (2, [(0, .one .any), (2, .one .any), (4, .one (.own 9))]), (3, [(0, .one .any), (2, .one .any), (4, .one (.own 9)), (5, .one (.own 3))]), (4, [(0, .one .any), (2, .one .any), (5, .one (.own 3)), (16, .one (.own 9)), (17, .one .any), (18, .one .any)]), (5, [(0, .one .any), (2, .one .any), (5, .one (.own 3)), (16, .one (.own 9)), (17, .one .any), (18, .one .any)]), (6, [(0, .one .any), (2, .one .any), (5, .one (.own 3)), (7, .one .any), (16, .one (.own 9)), (17, .one .any), (18, .one .any)]), (7, [(0, .one .any), (2, .one .any), (5, .one (.own 3)), (8, .one .any), (9, .one .any), (16, .one (.own 9)), (17, .one .any), (18, .one .any)]), (8, [(2, .one .any)]), (9, [(0, .one .any), (2, .one .any), (5, .one (.own 3)), (8, .one .any), (16, .one (.own 9)), (17, .one .any), (18, .one .any)]), (10, [(0, .one .any), (2, .one .any), (5, .one (.own 3)), (16, .one (.own 9)), (17, .one .any), (18, .one .any)]), (11, [(0, .one .any), (2, .one .any), (5, .one (.own 3))]), (12, [(0, .one .any), (2, .one .any), (5, .one (.own 3))]), (13, [(0, .one .any), (2, .one .any), (10, .one (.own 60))]), (14, [(0, .one .any), (2, .one .any), (85, .one (.own 60)), (86, .one .any), (87, .one .any)]), (15, [(0, .one .any), (2, .one .any), (85, .one (.own 60)), (86, .one .any), (87, .one .any)]), (16, [(0, .one .any), (2, .one .any), (12, .one .any), (85, .one (.own 60)), (86, .one .any), (87, .one .any)]), (17, [(2, .one .any), (12, .one .any)]), (18, [(0, .one .any), (2, .one .any), (85, .one (.own 60)), (86, .one .any), (87, .one .any)]), (19, [(2, .one .any)])] [.agg [.any, .any, .any, .any], .one .any] ⟨0, 0⟩
noncomputable def c_12 (args : List (AV tau)) (m : Mem tau) (κ : AV tau → Mem tau → Option Unit) : Option Unit := match args, m.bx, m.rw with
  | [b0], [], [] => bO (asS b0) fun a0 => callX (fun n => impl_ProgRead.f n a0) fun t => κ (.tup [.own 0 0, .bool (t.2)]) ⟨[], [some ⟨60, t.1, 0⟩]⟩
  | _, _, _ => none
def E_12 : Env tau := mkE [(0, [(0, .one .any)]), (1, [(0, .one .any)]), (2, []), (3, [(0, .one .any)]), (4, []), (5, [(0, .one .any)]), (6, [(0, .one .any), (4, .one (.own 60))]), (7, [(4, .one (.own 60)), (15, .one (.own 9)), (16, .one .any), (17, .one .any)]), (8, [(4, .one (.own 60)), (15, .one (.own 9)), (16, .one .any), (17, .one .any)]), (9, [(4, .one (.own 60)), (6, .one .any), (15, .one (.own 9)), (16, .one .any), (17, .one .any)]), (10, [(4, .one (.own 60)), (7, .one .any), (8, .one .any), (15, .one (.own 9)), (16, .one .any), (17, .one .any)]), (11, []), (12, [(4, .one (.own 60)), (7, .one .any), (15, .one (.own 9)), (16, .one .any), (17, .one .any)]), (13, [(4, .one (.own 60)), (15, .one (.own 9)), (16, .one .any), (17, .one .any)]), (14, [(4, .one (.own 60))]), (15, []), (16, [(4, .one (.own 60))])] [.one (.own 60), .one .any] ⟨0, 0⟩
noncomputable def c_3 (args : List (AV tau)) (m : Mem tau) (κ : AV tau → Mem tau → Option Unit) : Option Unit := match args, m.bx, m.rw with
  | [b0], [], [] => bO (asS b0) fun a0 => callX (fun n => laws_FnExactProgRead.f n a0) fun t => κ (.bool (t)) ⟨[], []⟩
  | _, _, _ => none
def E_3 : Env tau := mkE [(0, [(0, .one .any)]), (1, [(0, .one .any)]), (2, []), (3, [(0, .one .any)]), (4, [(0, .one .any), (3, .one (.own 60)), (4, .one .any)]), (5, [(0, .one .any), (3, .one (.own 60)), (4, .one .any), (5, .one (.own 60)), (6, .one .any)]), (6, []), (7, [(0, .one .any), (3, .one (.own 60)), (4, .one .any), (5, .one (.own 60))]), (8, [(0, .one .any), (3, .one (.own 60)), (4, .one .any), (5, .one (.own 60)), (7, .one .any)]), (9, [(0, .one .any), (3, .one (.own 60)), (4, .one .any), (5, .one (.own 60)), (7, .one .any)]), (10, [(0, .one .any), (3, .one (.own 60)), (4, .one .any), (5, .one (.own 60)), (7, .one .any), (8, .one .any)]), (11, [(0, .one .any), (3, .one (.own 60)), (4, .one .any), (5, .one (.own 60)), (7, .one .any), (8, .one .any)]), (12, []), (13, [(0, .one .any), (3, .one (.own 60)), (4, .one .any), (5, .one (.own 60)), (7, .one .any), (8, .one .any)]), (14, []), (15, [(0, .one .any), (3, .one (.own 60)), (4, .one .any), (5, .one (.own 60)), (7, .one .any)]), (16, [(3, .one (.own 60)), (4, .one .any), (5, .one (.own 60)), (7, .one .any), (9, .one (.own 60)), (10, .one .any)]), (17, []), (18, [(5, .one (.own 60)), (7, .one .any)]), (19, [(5, .one (.own 60)), (7, .one .any), (8, .one .any)]), (20, [(7, .one .any), (8, .one .any)]), (21, []), (22, [(7, .one .any), (8, .one .any)]), (23, []), (24, [])] [.one .any] ⟨0, 0⟩
end Go.Proofs.YtlpgpckggnimhaaDoor.PFnExactProgRead