/- The machine's texts of FnBox (definitions, table, contracts). Conditions: none. -/
import Derived.Test.YtlpgpckggnimhaaDoorProg
import Derived.Test.YtlpgpckggnimhaaDoorSWFnBox
import Derived.Test.YtlpgpckggnimhaaDoorAm38
import Derived.RowKit
import Derived.KernelRfl
import Derived.Test.YtlpgpckggnimhaaDoorAm41
import Derived.Test.YtlpgpckggnimhaaDoorRows
import Derived.Test.YtlpgpckggnimhaaDoorLay
import Derived.Test.YtlpgpckggnimhaaDoorPFnBoxx0
set_option linter.unusedVariables false
set_option maxRecDepth 100000
namespace Go.Proofs.YtlpgpckggnimhaaDoor.PFnBox
open Go.RowKit Go.Proofs.YtlpgpckggnimhaaDoorW.PrintWords Go.Proofs.YtlpgpckggnimhaaDoorW.PrintLast Go.Proofs.YtlpgpckggnimhaaDoorW.PrintMore
def errW : Option Int → Value
  | none => .nilIface
  | some c => .iface 0 (.int .i64 c)
structure S70 where
  f0 : Int
  f1 : Int
def z70 : S70 := ⟨(0 : Int), (0 : Int)⟩
def rd_T70 (xs : List S70) (i : Int) : S70 := xs.getD i.toNat z70
def spec_l15Rd_pick.j0 : Nat → Int → Bool → List Int → Int → Option (Int × Int)
  | 0, _, _, _, _ => none
  | k + 1, x1, x24, x1000, x1001 => if x24 = true then (some (0, x1001)) else (if (wrap64 (x1001 - 1)) < (x1000.length : Int) then (if 0 ≤ (wrap64 (x1001 - 1)) then (if x1 = 0 then (none) else (some (Int.tmod (wrap64 (rd x1000 (wrap64 (x1001 - 1)))) x1, x1001))) else (none)) else (if (x1000.length : Int) = 0 then (none) else (if 0 ≤ (Int.tmod (wrap64 (x1001 - 1)) (x1000.length : Int)) then (if (Int.tmod (wrap64 (x1001 - 1)) (x1000.length : Int)) < (x1000.length : Int) then (if 0 ≤ (Int.tmod (wrap64 ((wrap64 ((wrap64 (x1001 - 1)) * 7)) + 3)) (x1000.length : Int)) then (if (Int.tmod (wrap64 ((wrap64 ((wrap64 (x1001 - 1)) * 7)) + 3)) (x1000.length : Int)) < (x1000.length : Int) then (if x1 = 0 then (none) else (some (Int.tmod (Go.bits .xor .i64 (wrap64 ((wrap64 ((wrap64 ((wrap64 ((wrap64 (rd x1000 (Int.tmod (wrap64 (x1001 - 1)) (x1000.length : Int)))) * 131)) + (wrap64 ((wrap64 (rd x1000 (Int.tmod (wrap64 ((wrap64 ((wrap64 (x1001 - 1)) * 7)) + 3)) (x1000.length : Int)))) * 1117)))) + (wrap64 ((wrap64 (x1001 - 1)) * 29)))) + (wrap64 ((wrap64 (Int.tdiv (wrap64 (x1001 - 1)) (x1000.length : Int))) * 53)))) (wrap64 (Int.tdiv (wrap64 ((wrap64 ((wrap64 ((wrap64 ((wrap64 (rd x1000 (Int.tmod (wrap64 (x1001 - 1)) (x1000.length : Int)))) * 131)) + (wrap64 ((wrap64 (rd x1000 (Int.tmod (wrap64 ((wrap64 ((wrap64 (x1001 - 1)) * 7)) + 3)) (x1000.length : Int)))) * 1117)))) + (wrap64 ((wrap64 (x1001 - 1)) * 29)))) + (wrap64 ((wrap64 (Int.tdiv (wrap64 (x1001 - 1)) (x1000.length : Int))) * 53)))) 64))) x1, x1001))) else (none)) else (none)) else (none)) else (none))))
def spec_l15Rd_pick.f (k : Nat) (s0_0 : List Int) (s0_1 : Int) (a1 : Int) : Option (Int × Int) := if a1 < 1 then (spec_l15Rd_pick.j0 k a1 true s0_0 (wrap64 (s0_1 + 1))) else (spec_l15Rd_pick.j0 k a1 ((s0_0.length : Int) == 0) s0_0 (wrap64 (s0_1 + 1)))
def spec_BoxOpen.f  : Option ((List (S70))) := if 4 ≤ 17592186044416 then (some (List.replicate 4 z70)) else (none)
def spec_l15Rd_num.f (k : Nat) (s0_0 : List Int) (s0_1 : Int) (l1 : List Int) : Option (Int × Int) := (spec_l15Rd_pick.f k s0_0 s0_1 (l1.length : Int)).bind fun bt107 => (if 0 ≤ bt107.1 then (if bt107.1 < (l1.length : Int) then (some (rd l1 bt107.1, bt107.2)) else (none)) else (none))
def spec_l1Boxes.l0 : Nat → List (S70) → Int → List Int → Int → Option ((List (S70)) × Int)
  | 0, _, _, _, _ => none
  | k + 1, x3, x4, x1000, x1001 => if x4 < (x3.length : Int) then ((spec_l15Rd_pick.f k x1000 x1001 5).bind fun bt113 => ((spec_l15Rd_num.f k x1000 bt113.2 (([0, 1, 2, 5, (-3), 7, 100, 1000000, (-1000000)] : List Int))).bind fun bt118 => (if 0 ≤ x4 then (spec_l1Boxes.l0 k (x3.set (x4 : Int).toNat (⟨bt113.1, bt118.1⟩ : S70)) (wrap64 (x4 + 1)) x1000 bt118.2) else (none)))) else ((spec_l15Rd_pick.f k x1000 x1001 30).bind fun bt121 => (if bt121.1 = 0 then (if 3 ≤ (x3.length : Int) then (some ((x3.take (3 : Int).toNat), bt121.2)) else (none)) else (if bt121.1 = 1 then ((spec_l15Rd_pick.f k x1000 bt121.2 4).bind fun bt126 => ((spec_l15Rd_num.f k x1000 bt126.2 (([(-1), 1000001] : List Int))).bind fun bt131 => (if 0 ≤ bt126.1 then (if bt126.1 < (x3.length : Int) then (some ((x3.set (bt126.1 : Int).toNat (⟨bt131.1, (rd_T70 x3 bt126.1).f1⟩ : S70)), bt131.2)) else (none)) else (none)))) else (if bt121.1 = 2 then ((spec_l15Rd_pick.f k x1000 bt121.2 4).bind fun bt134 => ((spec_l15Rd_num.f k x1000 bt134.2 (([1000001, (-1000001)] : List Int))).bind fun bt139 => (if 0 ≤ bt134.1 then (if bt134.1 < (x3.length : Int) then (some ((x3.set (bt134.1 : Int).toNat (⟨(rd_T70 x3 bt134.1).f0, bt139.1⟩ : S70)), bt139.2)) else (none)) else (none)))) else (some (x3, bt121.2))))))
def spec_l1Boxes.f (k : Nat) (s0_0 : List Int) (s0_1 : Int) : Option ((List (S70)) × Int) := (spec_BoxOpen.f).bind fun t110 => (spec_l1Boxes.l0 k t110 0 s0_0 s0_1)
def spec_l15Open.f (l0 : List Int) : Option (List Int × Int) := if (l0.length : Int) > 2000 then (if 2000 ≤ (l0.length : Int) then (some (l0.take 2000, 0)) else (none)) else (some (l0, 0))
def spec_DrawBoxText.f (k : Nat) (l0 : List Int) : Option ((List (S70))) := (spec_l15Open.f l0).bind fun bt145 => ((spec_l1Boxes.f k bt145.1 bt145.2).bind fun bt148 => (some bt148.1))
def impl_in.f (a0 : Int) (a1 : Int) (a2 : Int) : Option (Bool) := if a0 ≥ a1 then (some (decide (a0 ≤ a2))) else (some false)
def impl_BoxOk.l0 : Nat → List (S70) → List (S70) → Int → Int → Option (Bool)
  | 0, _, _, _, _ => none
  | k + 1, x0, x5, x6, x7 => if x7 < x6 then (if 0 ≤ x7 then (if x7 < (x5.length : Int) then ((impl_in.f ((rd_T70 x5 x7).f0) 0 1000000).bind fun t176 => (if t176 = true then ((impl_in.f ((rd_T70 x5 x7).f1) (-1000000) 1000000).bind fun t177 => (if t177 = true then (impl_BoxOk.l0 k x0 x5 x6 (wrap64 (x7 + 1))) else (some false))) else (some false))) else (none)) else (none)) else (some ((x0.length : Int) == 4))
def impl_BoxOk.f (k : Nat) (l0 : List (S70)) : Option (Bool) := impl_BoxOk.l0 k l0 l0 (l0.length : Int) 0
def impl_copied_impl_Box.f (l0 : List (S70)) : Option (List (S70)) := if l0.length ≤ 17592186044416 then some l0 else none
def spec_l1Num.f (a0 : Int) : Option (Bool) := if a0 ≥ (-1000000) then (some (decide (a0 ≤ 1000000))) else (some false)
def spec_BoxOk.l0 : Nat → List (S70) → Int → Option (Bool)
  | 0, _, _ => none
  | k + 1, x0, x3 => if x3 < (x0.length : Int) then (if 0 ≤ x3 then (if ((rd_T70 x0 x3).f0) < 0 then (some false) else (if ((rd_T70 x0 x3).f0) > 1000000 then (some false) else ((spec_l1Num.f ((rd_T70 x0 x3).f1)).bind fun t202 => (if t202 = true then (spec_BoxOk.l0 k x0 (wrap64 (x3 + 1))) else (some false))))) else (none)) else (some true)
def spec_BoxOk.f (k : Nat) (l0 : List (S70)) : Option (Bool) := if (l0.length : Int) = 4 then (spec_BoxOk.l0 k l0 0) else (some false)
def impl_same_impl_Box.l0 : Nat → List (S70) → List (S70) → Int → Int → Option (Bool)
  | 0, _, _, _, _ => none
  | k + 1, x0, x1, x12, x13 => if x13 < x12 then (if 0 ≤ x13 then (if x13 < (x0.length : Int) then (if x13 < (x1.length : Int) then (if (!(((rd_T70 x0 x13).f0) == ((rd_T70 x1 x13).f0)) || (!(((rd_T70 x0 x13).f1) == ((rd_T70 x1 x13).f1)))) = true then (some false) else (impl_same_impl_Box.l0 k x0 x1 x12 (wrap64 (x13 + 1)))) else (none)) else (none)) else (none)) else (some true)
def impl_same_impl_Box.f (k : Nat) (l0 : List (S70)) (l1 : List (S70)) : Option (Bool) := if (l0.length : Int) = (l1.length : Int) then (impl_same_impl_Box.l0 k l0 l1 (l0.length : Int) 0) else (some false)
def impl_BoxSame.f (k : Nat) (l0 : List (S70)) (l1 : List (S70)) : Option (Bool) := (impl_same_impl_Box.f k l0 l1).bind fun t205 => (some t205)
def impl_BoxOpen.f  : Option ((List (S70))) := if 4 ≤ 17592186044416 then (some (List.replicate 4 z70)) else (none)
open Am
mutual
def impl_BoxText.l0 : Nat → (List S70) → Int → Int → (List ByteArray) → Option (ByteArray)
  | 0, _, _, _, _ => none
  | k + 1, x0, x1, x2, x3 => if (x2 < x1) then (if ((0 : Int) ≤ x2) then (if (x2 < ((x0.length : Nat) : Int)) then ((strconv_Itoa.f k ((rd_T70 x0 x2)).f1).bind fun t0 => (if ((t0.size + 1) ≤ 9223372036854775807) then ((strconv_Itoa.f k ((rd_T70 x0 x2)).f0).bind fun t1 => (if ((((t0 ++ (bs [47]))).size + t1.size) ≤ 9223372036854775807) then (if ((x3.length + 1) ≤ 8796093022208) then (impl_BoxText.l0 k x0 x1 (wrap64 (x2 + (1 : Int))) (x3 ++ ([((t0 ++ (bs [47])) ++ t1)] : List ByteArray))) else (none)) else (none))) else (none))) else (none)) else (none)) else ((strings_Join.f k x3 (bs [32])).bind fun t2 => (some (t2)))
end
def impl_BoxText.f (k : Nat) (l0 : List S70) : Option (ByteArray) := impl_BoxText.l0 k l0 ((l0.length : Nat) : Int) (0 : Int) ([] : List ByteArray)
mutual
def impl_integer.l0 : Nat → ByteArray → ByteArray → Int → Int → Option (Int × Bool)
  | 0, _, _, _, _ => none
  | k + 1, x0, x1, x2, x3 => if (x3 < ((x1.size : Nat) : Int)) then (if ((0 : Int) ≤ x3) then (if (x3 < ((x1.size : Nat) : Int)) then ((impl_in.f (wrap64 (btA x1 x3)) (48 : Int) (57 : Int)).bind fun t1 => (if t1 = true then (if ((0 : Int) ≤ x3) then (if (x3 < ((x1.size : Nat) : Int)) then (impl_integer.l0 k x0 x1 (wrap64 ((wrap64 ((10 : Int) * x2)) + (wrap64 (IntKind.wrap .u8 ((btA x1 x3) - (48 : Int)))))) (wrap64 (x3 + (1 : Int)))) else (none)) else (none)) else (some ((0 : Int), false)))) else (none)) else (none)) else (if (((x0.size : Nat) : Int) > ((x1.size : Nat) : Int)) then (some ((wrap64 ((0 : Int) - x2)), true)) else (some (x2, true)))
end
def impl_integer.f (k : Nat) (a0 : ByteArray) : Option (Int × Bool) := (strings_TrimPrefix.f k a0 (bs [45])).bind fun t0 => (if (((t0.size : Nat) : Int) < (1 : Int)) then (some ((0 : Int), false)) else (if (((t0.size : Nat) : Int) > (9 : Int)) then (some ((0 : Int), false)) else (if ((0 : Int) < ((t0.size : Nat) : Int)) then (if ((btA t0 (0 : Int)) = (48 : Int)) then (if (((t0.size : Nat) : Int) > (1 : Int)) then (some ((0 : Int), false)) else (if (((a0.size : Nat) : Int) > ((t0.size : Nat) : Int)) then (some ((0 : Int), false)) else (impl_integer.l0 k a0 t0 (0 : Int) (0 : Int)))) else (impl_integer.l0 k a0 t0 (0 : Int) (0 : Int))) else (none))))
mutual
def impl_BoxRead.l0 : Nat → ByteArray → Int → Int → (List S70) → (List ByteArray) → Option ((List S70) × Bool)
  | 0, _, _, _, _, _ => none
  | k + 1, x0, x1, x2, x3, x4 => if (x2 < x1) then (if ((0 : Int) ≤ x2) then (if (x2 < ((x4.length : Nat) : Int)) then ((strings_Cut.f k (rdOf (default : ByteArray) x4 x2) (bs [47])).bind fun t1 => ((impl_integer.f k t1.1).bind fun t2 => ((impl_integer.f k (t1.2).1).bind fun t3 => (if t2.2 = true then (if t3.2 = true then (if ((x3.length + 1) ≤ 8796093022208) then (impl_BoxRead.l0 k x0 x1 (wrap64 (x2 + (1 : Int))) (x3 ++ ([(⟨t3.1, t2.1⟩ : S70)] : List S70)) x4) else (none)) else (some (([] : List S70), false))) else (some (([] : List S70), false)))))) else (none)) else (none)) else ((impl_BoxOk.f k x3).bind fun t4 => (if t4 = true then ((impl_BoxText.f k x3).bind fun t5 => (if (t5 = x0) then ((impl_copied_impl_Box.f x3).bind fun t6 => (some (t6, true))) else (some (([] : List S70), false)))) else (some (([] : List S70), false))))
end
def impl_BoxRead.f (k : Nat) (a0 : ByteArray) : Option ((List S70) × Bool) := if (((a0.size : Nat) : Int) > (100 : Int)) then (some (([] : List S70), false)) else ((strings_Split.f k a0 (bs [32])).bind fun t0 => (impl_BoxRead.l0 k a0 ((t0.length : Nat) : Int) (0 : Int) ([] : List S70) t0))
mutual
def spec_BoxText.l0 : Nat → (List S70) → ByteArray → Int → Option (ByteArray)
  | 0, _, _, _ => none
  | k + 1, x0, x1, x2 => if (x2 < ((x0.length : Nat) : Int)) then (if (x2 > (0 : Int)) then (if ((x1.size + 1) ≤ 9223372036854775807) then (if ((0 : Int) ≤ x2) then (if (x2 < ((x0.length : Nat) : Int)) then (if ((0 : Int) ≤ x2) then (if (x2 < ((x0.length : Nat) : Int)) then ((spec_l15Dec.f k ((rd_T70 x0 x2)).f1).bind fun t0 => (if ((((x1 ++ (bs [32]))).size + t0.size) ≤ 9223372036854775807) then (if (((((x1 ++ (bs [32])) ++ t0)).size + 1) ≤ 9223372036854775807) then ((spec_l15Dec.f k ((rd_T70 x0 x2)).f0).bind fun t1 => (if ((((((x1 ++ (bs [32])) ++ t0) ++ (bs [47]))).size + t1.size) ≤ 9223372036854775807) then (spec_BoxText.l0 k x0 ((((x1 ++ (bs [32])) ++ t0) ++ (bs [47])) ++ t1) (wrap64 (x2 + (1 : Int)))) else (none))) else (none)) else (none))) else (none)) else (none)) else (none)) else (none)) else (none)) else (if ((0 : Int) ≤ x2) then (if (x2 < ((x0.length : Nat) : Int)) then (if ((0 : Int) ≤ x2) then (if (x2 < ((x0.length : Nat) : Int)) then ((spec_l15Dec.f k ((rd_T70 x0 x2)).f1).bind fun t2 => (if ((x1.size + t2.size) ≤ 9223372036854775807) then (if ((((x1 ++ t2)).size + 1) ≤ 9223372036854775807) then ((spec_l15Dec.f k ((rd_T70 x0 x2)).f0).bind fun t3 => (if (((((x1 ++ t2) ++ (bs [47]))).size + t3.size) ≤ 9223372036854775807) then (spec_BoxText.l0 k x0 (((x1 ++ t2) ++ (bs [47])) ++ t3) (wrap64 (x2 + (1 : Int)))) else (none))) else (none)) else (none))) else (none)) else (none)) else (none)) else (none))) else (some (x1))
end
def spec_BoxText.f (k : Nat) (l0 : List S70) : Option (ByteArray) := spec_BoxText.l0 k l0 (bs []) (0 : Int)
def spec_l15Rd_of.f (k : Nat) (s0_0 : List Int) (s0_1 : Int) (l1 : List ByteArray) : Option (ByteArray × Int) := (spec_l15Rd_pick.f k s0_0 s0_1 ((l1.length : Nat) : Int)).bind fun t0 => (if ((0 : Int) ≤ t0.1) then (if (t0.1 < ((l1.length : Nat) : Int)) then (some ((rdOf (default : ByteArray) l1 t0.1), t0.2)) else (none)) else (none))
def spec_DrawBoxRead.f (k : Nat) (l0 : List Int) : Option (ByteArray) := (spec_l15Open.f l0).bind fun t0 => ((spec_l1Boxes.f k t0.1 t0.2).bind fun t1 => ((spec_BoxText.f k t1.1).bind fun t2 => ((spec_l15Rd_pick.f k t0.1 t1.2 (2 : Int)).bind fun t3 => (if (t3.1 = (0 : Int)) then (some (t2)) else ((spec_l15Rd_pick.f k t0.1 t3.2 ((t2.size : Nat) : Int)).bind fun t4 => (if ((0 : Int) ≤ t4.1) then (if (t4.1 ≤ ((t2.size : Nat) : Int)) then ((spec_l15Rd_of.f k t0.1 t4.2 ([(bs []), (bs [48]), (bs [47]), (bs [32]), (bs [45]), (bs [120])] : List ByteArray)).bind fun t5 => (if ((((ByteArray.extract t2 0 (Int.toNat t4.1))).size + (t5.1).size) ≤ 9223372036854775807) then ((spec_l15Rd_pick.f k t0.1 t5.2 (2 : Int)).bind fun t6 => (if ((0 : Int) ≤ (wrap64 (t4.1 + t6.1))) then (if ((wrap64 (t4.1 + t6.1)) ≤ ((t2.size : Nat) : Int)) then (if (((((ByteArray.extract t2 0 (Int.toNat t4.1)) ++ t5.1)).size + ((ByteArray.extract t2 (Int.toNat (wrap64 (t4.1 + t6.1))) t2.size)).size) ≤ 9223372036854775807) then (some ((((ByteArray.extract t2 0 (Int.toNat t4.1)) ++ t5.1) ++ (ByteArray.extract t2 (Int.toNat (wrap64 (t4.1 + t6.1))) t2.size)))) else (none)) else (none)) else (none))) else (none))) else (none)) else (none)))))))
mutual
def spec_l15Cut.l0 : Nat → ByteArray → Int → Int → Int → (List ByteArray) → Option ((List ByteArray))
  | 0, _, _, _, _, _ => none
  | k + 1, x0, x1, x2, x3, x4 => if (x3 ≤ ((x0.size : Nat) : Int)) then (if (x3 = ((x0.size : Nat) : Int)) then (if ((0 : Int) ≤ x3) then (if (x3 ≤ ((x0.size : Nat) : Int)) then (if ((0 : Int) ≤ x2) then (if (x2 ≤ x3) then (if ((x4.length + 1) ≤ 8796093022208) then (spec_l15Cut.l0 k x0 x1 (wrap64 (x3 + (1 : Int))) (wrap64 (x3 + (1 : Int))) (x4 ++ ([(ByteArray.extract x0 (Int.toNat x2) (Int.toNat x3))] : List ByteArray))) else (none)) else (none)) else (none)) else (none)) else (none)) else (if ((0 : Int) ≤ x3) then (if (x3 < ((x0.size : Nat) : Int)) then (if ((btA x0 x3) = x1) then (if ((0 : Int) ≤ x3) then (if (x3 ≤ ((x0.size : Nat) : Int)) then (if ((0 : Int) ≤ x2) then (if (x2 ≤ x3) then (if ((x4.length + 1) ≤ 8796093022208) then (spec_l15Cut.l0 k x0 x1 (wrap64 (x3 + (1 : Int))) (wrap64 (x3 + (1 : Int))) (x4 ++ ([(ByteArray.extract x0 (Int.toNat x2) (Int.toNat x3))] : List ByteArray))) else (none)) else (none)) else (none)) else (none)) else (none)) else (spec_l15Cut.l0 k x0 x1 x2 (wrap64 (x3 + (1 : Int))) x4)) else (none)) else (none))) else (some (x4))
end
def spec_l15Cut.f (k : Nat) (a0 : ByteArray) (a1 : Int) : Option ((List ByteArray)) := spec_l15Cut.l0 k a0 a1 (0 : Int) (0 : Int) ([] : List ByteArray)
mutual
def spec_l15Find.l0 : Nat → ByteArray → Int → Int → Option (Int)
  | 0, _, _, _ => none
  | k + 1, x0, x1, x2 => if (x2 < ((x0.size : Nat) : Int)) then (if ((0 : Int) ≤ x2) then (if (x2 < ((x0.size : Nat) : Int)) then (if ((btA x0 x2) = x1) then (some (x2)) else (spec_l15Find.l0 k x0 x1 (wrap64 (x2 + (1 : Int))))) else (none)) else (none)) else (some ((-(1 : Int))))
end
def spec_l15Find.f (k : Nat) (a0 : ByteArray) (a1 : Int) : Option (Int) := spec_l15Find.l0 k a0 a1 (0 : Int)
mutual
def spec_l15Num.l0 : Nat → ByteArray → Bool → Int → Int → Option (Int × Bool)
  | 0, _, _, _, _ => none
  | k + 1, x0, x1, x2, x3 => if (x3 < ((x0.size : Nat) : Int)) then (if ((0 : Int) ≤ x3) then (if (x3 < ((x0.size : Nat) : Int)) then (if ((btA x0 x3) < (48 : Int)) then (some ((0 : Int), false)) else (if ((0 : Int) ≤ x3) then (if (x3 < ((x0.size : Nat) : Int)) then (if ((btA x0 x3) > (57 : Int)) then (some ((0 : Int), false)) else (if ((0 : Int) ≤ x3) then (if (x3 < ((x0.size : Nat) : Int)) then (spec_l15Num.l0 k x0 x1 (wrap64 ((wrap64 (x2 * (10 : Int))) + (wrap64 (IntKind.wrap .u8 ((btA x0 x3) - (48 : Int)))))) (wrap64 (x3 + (1 : Int)))) else (none)) else (none))) else (none)) else (none))) else (none)) else (none)) else (if x1 = true then (some ((wrap64 ((0 : Int) - x2)), true)) else (some (x2, true)))
end
def spec_l15Num.f (k : Nat) (a0 : ByteArray) : Option (Int × Bool) := if (((a0.size : Nat) : Int) > (0 : Int)) then (if ((0 : Int) < ((a0.size : Nat) : Int)) then (if ((btA a0 (0 : Int)) = (45 : Int)) then (if ((1 : Int) ≤ ((a0.size : Nat) : Int)) then (if (((((ByteArray.extract a0 1 a0.size)).size : Nat) : Int) = (0 : Int)) then (some ((0 : Int), false)) else (if (((((ByteArray.extract a0 1 a0.size)).size : Nat) : Int) > (17 : Int)) then (some ((0 : Int), false)) else (if ((0 : Int) < ((((ByteArray.extract a0 1 a0.size)).size : Nat) : Int)) then (if ((btA (ByteArray.extract a0 1 a0.size) (0 : Int)) = (48 : Int)) then (if (((((ByteArray.extract a0 1 a0.size)).size : Nat) : Int) > (1 : Int)) then (some ((0 : Int), false)) else (if ((btA a0 (0 : Int)) = (45 : Int)) then (some ((0 : Int), false)) else (spec_l15Num.l0 k (ByteArray.extract a0 1 a0.size) (decide ((btA a0 (0 : Int)) = (45 : Int))) (0 : Int) (0 : Int)))) else (spec_l15Num.l0 k (ByteArray.extract a0 1 a0.size) (decide ((btA a0 (0 : Int)) = (45 : Int))) (0 : Int) (0 : Int))) else (none)))) else (none)) else (if (((a0.size : Nat) : Int) = (0 : Int)) then (some ((0 : Int), false)) else (if (((a0.size : Nat) : Int) > (17 : Int)) then (some ((0 : Int), false)) else (if ((0 : Int) < ((a0.size : Nat) : Int)) then (if ((btA a0 (0 : Int)) = (48 : Int)) then (if (((a0.size : Nat) : Int) > (1 : Int)) then (some ((0 : Int), false)) else (if ((btA a0 (0 : Int)) = (45 : Int)) then (some ((0 : Int), false)) else (spec_l15Num.l0 k a0 (decide ((btA a0 (0 : Int)) = (45 : Int))) (0 : Int) (0 : Int)))) else (spec_l15Num.l0 k a0 (decide ((btA a0 (0 : Int)) = (45 : Int))) (0 : Int) (0 : Int))) else (none))))) else (none)) else (if (((a0.size : Nat) : Int) = (0 : Int)) then (some ((0 : Int), false)) else (if (((a0.size : Nat) : Int) > (17 : Int)) then (some ((0 : Int), false)) else (if ((0 : Int) < ((a0.size : Nat) : Int)) then (if ((btA a0 (0 : Int)) = (48 : Int)) then (if (((a0.size : Nat) : Int) > (1 : Int)) then (some ((0 : Int), false)) else (spec_l15Num.l0 k a0 false (0 : Int) (0 : Int))) else (spec_l15Num.l0 k a0 false (0 : Int) (0 : Int))) else (none))))
mutual
def spec_BoxRead.l0 : Nat → Int → (List ByteArray) → (List S70) → Option ((List S70) × Bool)
  | 0, _, _, _ => none
  | k + 1, x0, x1, x2 => if (x0 < ((x1.length : Nat) : Int)) then (if ((0 : Int) ≤ x0) then (if (x0 < ((x1.length : Nat) : Int)) then ((spec_l15Find.f k (rdOf (default : ByteArray) x1 x0) (47 : Int)).bind fun t1 => (if (t1 < (0 : Int)) then (some (([] : List S70), false)) else (if ((0 : Int) ≤ x0) then (if (x0 < ((x1.length : Nat) : Int)) then (if ((0 : Int) ≤ t1) then (if (t1 ≤ ((((rdOf (default : ByteArray) x1 x0)).size : Nat) : Int)) then ((spec_l15Num.f k (ByteArray.extract (rdOf (default : ByteArray) x1 x0) 0 (Int.toNat t1))).bind fun t2 => (if ((0 : Int) ≤ x0) then (if (x0 < ((x1.length : Nat) : Int)) then (if ((0 : Int) ≤ (wrap64 (t1 + (1 : Int)))) then (if ((wrap64 (t1 + (1 : Int))) ≤ ((((rdOf (default : ByteArray) x1 x0)).size : Nat) : Int)) then ((spec_l15Num.f k (ByteArray.extract (rdOf (default : ByteArray) x1 x0) (Int.toNat (wrap64 (t1 + (1 : Int)))) ((rdOf (default : ByteArray) x1 x0)).size)).bind fun t3 => (if t2.2 = true then (if t3.2 = true then (if ((x2.length + 1) ≤ 8796093022208) then (spec_BoxRead.l0 k (wrap64 (x0 + (1 : Int))) x1 (x2 ++ ([(⟨t3.1, t2.1⟩ : S70)] : List S70))) else (none)) else (some (([] : List S70), false))) else (some (([] : List S70), false)))) else (none)) else (none)) else (none)) else (none))) else (none)) else (none)) else (none)) else (none)))) else (none)) else (none)) else ((spec_BoxOk.f k x2).bind fun t4 => (if t4 = true then (some (x2, true)) else (some (([] : List S70), false))))
end
def spec_BoxRead.f (k : Nat) (a0 : ByteArray) : Option ((List S70) × Bool) := if (((a0.size : Nat) : Int) > (100 : Int)) then (some (([] : List S70), false)) else ((spec_l15Cut.f k a0 (32 : Int)).bind fun t0 => (spec_BoxRead.l0 k (0 : Int) t0 ([] : List S70)))
def laws_FnBox.f (k : Nat) (l0 : List Int) (l1 : List Int) : Option (Bool) := if (((l0.length : Nat) : Int) > (1048576 : Int)) then (some (true)) else (if (((l1.length : Nat) : Int) > (1048576 : Int)) then (some (true)) else ((spec_DrawBoxText.f k l0).bind fun t0 => ((impl_BoxText.f k t0).bind fun t1 => ((impl_BoxRead.f k t1).bind fun t2 => ((spec_BoxText.f k t0).bind fun t3 => (if (t1 = t3) then ((impl_BoxOk.f k t0).bind fun t4 => ((spec_BoxOk.f k t0).bind fun t5 => (if (t4 == t5) = true then ((spec_BoxOk.f k t0).bind fun t6 => (if (t2.2 == t6) = true then (if t2.2 = true then ((impl_BoxSame.f k t2.1 t0).bind fun t7 => (if t7 = true then ((spec_DrawBoxRead.f k l1).bind fun t8 => ((impl_BoxRead.f k t8).bind fun t9 => ((spec_BoxRead.f k t8).bind fun t10 => (if (t9.2 == t10.2) = true then (if t9.2 = true then ((impl_BoxText.f k t9.1).bind fun t13 => (if (t13 = t8) then ((impl_BoxOk.f k t9.1).bind fun t14 => (if t14 = true then ((impl_BoxOpen.f).bind fun t15 => ((impl_BoxOk.f k t15).bind fun t16 => (some (t16)))) else (some (false)))) else (some (false)))) else ((impl_BoxOpen.f).bind fun t11 => ((impl_BoxOk.f k t11).bind fun t12 => (some (t12))))) else (some (false)))))) else (some (false)))) else ((spec_DrawBoxRead.f k l1).bind fun t17 => ((impl_BoxRead.f k t17).bind fun t18 => ((spec_BoxRead.f k t17).bind fun t19 => (if (t18.2 == t19.2) = true then (if t18.2 = true then ((impl_BoxText.f k t18.1).bind fun t22 => (if (t22 = t17) then ((impl_BoxOk.f k t18.1).bind fun t23 => (if t23 = true then ((impl_BoxOpen.f).bind fun t24 => ((impl_BoxOk.f k t24).bind fun t25 => (some (t25)))) else (some (false)))) else (some (false)))) else ((impl_BoxOpen.f).bind fun t20 => ((impl_BoxOk.f k t20).bind fun t21 => (some (t21))))) else (some (false))))))) else (some (false)))) else (some (false))))) else (some (false))))))))
open Go Go.Proofs Am
def tau : TypeId → Type
  | 3 => Int
  | 5 => Int
  | 9 => ByteArray
  | 70 => S70
  | _ => Unit
def tabL : List (TypeId × TI) := [(2, ⟨[.int .i64], .scal⟩), (3, ⟨[.int .i64], .scal⟩), (4, ⟨[.bool], .scal⟩), (5, ⟨[.int .u8], .scal⟩), (6, ⟨[.int .u8], .scal⟩), (9, ⟨[.str], .scal⟩), (28, ⟨[.sl 5], .sl 5⟩), (29, ⟨[.sl 70], .sl 70⟩), (42, ⟨[.sl 3], .sl 3⟩), (57, ⟨[.sl 9], .sl 9⟩), (70, ⟨[.int .i64, .int .i64], .st [(0, 3), (1, 3)]⟩), (98, ⟨[.sl 5, .int .i64], .st [(0, 28), (1, 3)]⟩)]
def rowT : (e : TypeId) → tau e → List (Lf tau)
  | 3, (x : Int) => [.i x]
  | 5, (x : Int) => [.i x]
  | 9, (x : ByteArray) => [.s x]
  | 70, (x : S70) => [.i x.f0, .i x.f1]
  | _, _ => []
instance : (e : TypeId) → Inhabited (tau e) := fun e => by unfold tau; split <;> first | exact ⟨(0 : Int)⟩ | exact ⟨false⟩ | exact ⟨(default : ByteArray)⟩ | exact ⟨[]⟩ | exact ⟨()⟩ | exact ⟨z70⟩
def of3 : List (Lf tau) → Int
  | [(.i y0)] => y0
  | _ => (0 : Int)
def of5 : List (Lf tau) → Int
  | [(.i y0)] => y0
  | _ => (0 : Int)
def of9 : List (Lf tau) → ByteArray
  | [(.s y0)] => y0
  | _ => (default : ByteArray)
def of70 : List (Lf tau) → S70
  | [(.i y0), (.i y1)] => (⟨y0, y1⟩ : S70)
  | _ => z70
def ofT : (e : TypeId) → List (Lf tau) → tau e
  | 3, l => of3 l
  | 5, l => of5 l
  | 9, l => of9 l
  | 70, l => of70 l
  | _, _ => default
def powName : String := Rows.fnBoxRow.named.getD 0 default
def GL : World → (Nat → Prop) → Prop := glA Tryd.prog powName Lib.pow10Tab 0 1
def TT : Tab tau := { get := fun t => lookN t tabL, row := rowT, of := ofT, el := fun t => memN t [3, 5, 9, 70], gl := GL, glN := glA_next }
def byT : TypeId → Nat := fun t => lookD 1 t [(2, 8), (3, 8), (4, 1), (5, 1), (6, 1), (9, 16), (28, 24), (29, 24), (42, 24), (57, 24), (70, 16), (98, 32)]
def modeL : List (Nat × Nat) := [(67, 1), (85, 1), (56, 1), (57, 1), (68, 1)]
def shpL : List (Nat × List PS) := [(91, [.one .any, .one .any]), (60, [.one .any, .one .any]), (52, [.one .any, .one .any]), (59, [.one (.own 9), .one .any]), (58, [.one .any]), (63, [.one .any]), (67, [.one .any, .one .any]), (84, []), (85, [.one .any, .one (.own 3)]), (56, [.one .any]), (57, [.one (.sl 5)]), (16, [.one (.sl 5)]), (64, [.one .any, .one .any, .one .any]), (20, [.one (.sl 70)]), (62, [.one (.sl 70)]), (65, [.one .any]), (21, [.one (.sl 70)]), (66, [.one (.sl 70), .one (.sl 70)]), (22, [.one (.sl 70), .one (.sl 70)]), (25, []), (17, [.one (.sl 70)]), (61, [.one .any]), (18, [.one .any]), (19, [.one (.sl 70)]), (68, [.one .any, .one (.own 9)]), (23, [.one (.sl 5)]), (50, [.one .any, .one .any]), (69, [.one .any, .one .any]), (70, [.one .any]), (24, [.one .any]), (4, [.one (.sl 5), .one (.sl 5)])]
def persL : List (Nat × List Nat) := [(59, [0]), (85, [1]), (68, [1])]
def pnL : List (Nat × Nat) := [(59, 1), (85, 1), (68, 1)]
def pnT : FuncId → Nat := fun f => lookD 0 f pnL
def mkE (keep : List (Nat × List (Nat × PS))) (res : List PS) (nb : NB) : Env tau := { T := TT, by_ := byT, mode := fun f => lookD 0 f modeL, shp := fun f => lookD [] f shpL, keep := fun i => lookN i keep, res := res, pers := fun f => lookD [] f persL, pn := pnT, nb := nb }
theorem asked : Asked Tryd.prog byT tabL := ⟨by kernel_rfl, by kernel_rfl, by kernel_rfl, by kernel_rfl⟩
theorem el_3 : ElOk TT 3 := by
 intro ti h
 replace h : some (⟨[.int .i64], .scal⟩ : TI) = some ti := h
 cases h
 refine ⟨fun x => rfl, fun l hl => ?_⟩
 obtain ⟨y0, l0, e0, h0⟩ := wts_i hl
 have e1 := wts_nil h0
 subst e1
 subst e0
 rfl
theorem el_5 : ElOk TT 5 := by
 intro ti h
 replace h : some (⟨[.int .u8], .scal⟩ : TI) = some ti := h
 cases h
 refine ⟨fun x => rfl, fun l hl => ?_⟩
 obtain ⟨y0, l0, e0, h0⟩ := wts_i hl
 have e1 := wts_nil h0
 subst e1
 subst e0
 rfl
theorem el_9 : ElOk TT 9 := by
 intro ti h
 replace h : some (⟨[.str], .scal⟩ : TI) = some ti := h
 cases h
 refine ⟨fun x => rfl, fun l hl => ?_⟩
 obtain ⟨y0, l0, e0, h0⟩ := wts_s hl
 have e1 := wts_nil h0
 subst e1
 subst e0
 rfl
theorem el_70 : ElOk TT 70 := by
 intro ti h
 replace h : some (⟨[.int .i64, .int .i64], .st [(0, 3), (1, 3)]⟩ : TI) = some ti := h
 cases h
 refine ⟨fun x => rfl, fun l hl => ?_⟩
 obtain ⟨y0, l0, e0, h0⟩ := wts_i hl
 obtain ⟨y1, l1, e1, h1⟩ := wts_i h0
 have e2 := wts_nil h1
 subst e2
 subst e1
 subst e0
 rfl
theorem pq : PQ Tryd.prog TT byT := pq_of asked rfl (fun e he => by
 have h := memN_iff.1 he
 simp only [List.mem_cons, List.not_mem_nil, or_false] at h
 rcases h with rfl | rfl | rfl | rfl
 · exact el_3
 · exact el_5
 · exact el_9
 · exact el_70)
theorem hmix : Tryd.prog.follows .mixedOrders = true := by kernel_rfl
noncomputable def c_91 (args : List (AV tau)) (m : Mem tau) (κ : AV tau → Mem tau → Option Unit) : Option Unit := match args, m.bx, m.rw with
  | [b0, b1], [], [] => bO (asS b0) fun a0 => bO (asS b1) fun a1 => callX (fun n => strings_TrimPrefix.f n a0 a1) fun t => κ (.str (t)) ⟨[], []⟩
  | _, _, _ => none
noncomputable def c_60 (args : List (AV tau)) (m : Mem tau) (κ : AV tau → Mem tau → Option Unit) : Option Unit := match args, m.bx, m.rw with
  | [b0, b1], [], [] => bO (asS b0) fun a0 => bO (asS b1) fun a1 => callX (fun n => strings_Cut.f n a0 a1) fun t => κ (.tup [.str (t.1), .str (t.2.1), .bool (t.2.2)]) ⟨[], []⟩
  | _, _, _ => none
noncomputable def c_52 (args : List (AV tau)) (m : Mem tau) (κ : AV tau → Mem tau → Option Unit) : Option Unit := match args, m.bx, m.rw with
  | [b0, b1], [], [] => bO (asS b0) fun a0 => bO (asS b1) fun a1 => callX (fun n => strings_Split.f n a0 a1) fun t => κ (.own 0 0) ⟨[], [some ⟨9, t, 0⟩]⟩
  | _, _, _ => none
noncomputable def c_59 (args : List (AV tau)) (m : Mem tau) (κ : AV tau → Mem tau → Option Unit) : Option Unit := match args, m.bx, m.rw with
  | [b0, b1], [], [r0] => bO (asOwn 0 b0) fun _ => bO (asRow 9 r0) fun l0 => bO (asS b1) fun a1 => callX (fun n => strings_Join.f n l0 a1) fun t => κ (.str (t)) ⟨[], [some ⟨9, l0, 0⟩]⟩
  | _, _, _ => none
noncomputable def c_58 (args : List (AV tau)) (m : Mem tau) (κ : AV tau → Mem tau → Option Unit) : Option Unit := match args, m.bx, m.rw with
  | [b0], [], [] => bO (asI .i64 b0) fun a0 => callX (fun n => strconv_Itoa.f n a0) fun t => κ (.str (t)) ⟨[], []⟩
  | _, _, _ => none
noncomputable def c_63 (args : List (AV tau)) (m : Mem tau) (κ : AV tau → Mem tau → Option Unit) : Option Unit := match args, m.bx, m.rw with
  | [b0], [], [] => bO (asI .i64 b0) fun a0 => callX (fun n => spec_l15Dec.f n a0) fun t => κ (.str (t)) ⟨[], []⟩
  | _, _, _ => none
noncomputable def c_67 (args : List (AV tau)) (m : Mem tau) (κ : AV tau → Mem tau → Option Unit) : Option Unit := match args, m.bx, m.rw with
  | [p0, b0], [some (t0_, [c0_0, c0_1])], [] => bO (asPtr 0 p0) fun _ => bO (asT 98 t0_) fun _ => bO (asSl 5 c0_0) fun s0_0 => bO (asI .i64 c0_1) fun s0_1 => bO (asI .i64 b0) fun a1 => callX (fun n => spec_l15Rd_pick.f n s0_0 s0_1 a1) fun t => κ (.int .i64 (t.1)) ⟨[some (98, [.sl 5 (s0_0), .int .i64 (t.2)])], []⟩
  | _, _, _ => none
def E_67 : Env tau := mkE [(0, [(0, .one .any), (1, .one .any)]), (1, [(0, .one .any), (1, .one .any)]), (2, [(0, .one .any), (1, .one .any)]), (3, []), (4, [(0, .one .any), (1, .one .any)]), (5, [(0, .one .any), (1, .one .any), (5, .one .any)]), (6, [(0, .one .any), (1, .one .any), (5, .one .any)]), (7, [(0, .one .any), (1, .one .any), (5, .one .any)]), (8, [(1, .one .any), (6, .one .any)]), (9, [(1, .one .any), (6, .one .any)])] [.one .any] ⟨1, 0⟩
noncomputable def c_84 (args : List (AV tau)) (m : Mem tau) (κ : AV tau → Mem tau → Option Unit) : Option Unit := match args, m.bx, m.rw with
  | [], [], [] => callX (fun n => spec_BoxOpen.f) fun t => κ (.own 0 0) ⟨[], [some ⟨70, t, 0⟩]⟩
  | _, _, _ => none
def E_84 : Env tau := mkE [(0, []), (1, [])] [.one (.own 70)] ⟨0, 0⟩
noncomputable def c_85 (args : List (AV tau)) (m : Mem tau) (κ : AV tau → Mem tau → Option Unit) : Option Unit := match args, m.bx, m.rw with
  | [p0, b0], [some (t0_, [c0_0, c0_1])], [r0] => bO (asPtr 0 p0) fun _ => bO (asT 98 t0_) fun _ => bO (asSl 5 c0_0) fun s0_0 => bO (asI .i64 c0_1) fun s0_1 => bO (asOwn 0 b0) fun _ => bO (asRow 3 r0) fun l1 => callX (fun n => spec_l15Rd_num.f n s0_0 s0_1 l1) fun t => κ (.int .i64 (t.1)) ⟨[some (98, [.sl 5 (s0_0), .int .i64 (t.2)])], [some ⟨3, l1, 0⟩]⟩
  | _, _, _ => none
def E_85 : Env tau := mkE [(0, [(0, .one .any), (1, .one (.own 3))]), (1, [(0, .one .any), (1, .one (.own 3))])] [.one .any] ⟨1, 1⟩
noncomputable def c_56 (args : List (AV tau)) (m : Mem tau) (κ : AV tau → Mem tau → Option Unit) : Option Unit := match args, m.bx, m.rw with
  | [p0], [some (t0_, [c0_0, c0_1])], [] => bO (asPtr 0 p0) fun _ => bO (asT 98 t0_) fun _ => bO (asSl 5 c0_0) fun s0_0 => bO (asI .i64 c0_1) fun s0_1 => callX (fun n => spec_l1Boxes.f n s0_0 s0_1) fun t => κ (.own 0 0) ⟨[some (98, [.sl 5 (s0_0), .int .i64 (t.2)])], [some ⟨70, t.1, 0⟩]⟩
  | _, _, _ => none
def E_56 : Env tau := mkE [(0, [(0, .one .any)]), (1, [(0, .one .any)]), (2, [(0, .one .any), (3, .one (.own 70))]), (3, [(0, .one .any), (3, .one (.own 70)), (4, .one .any)]), (4, [(0, .one .any), (3, .one (.own 70)), (4, .one .any)]), (5, [(0, .one .any), (3, .one (.own 70)), (4, .one .any)]), (6, [(0, .one .any), (3, .one (.own 70))]), (7, [(0, .one .any), (3, .one (.own 70)), (22, .one .any)]), (8, [(3, .one (.own 70))]), (9, [(0, .one .any), (3, .one (.own 70)), (22, .one .any)]), (10, [(0, .one .any), (3, .one (.own 70))]), (11, [(0, .one .any), (3, .one (.own 70)), (22, .one .any)]), (12, [(0, .one .any), (3, .one (.own 70))]), (13, [(3, .one (.own 70))])] [.one (.own 70)] ⟨1, 0⟩
noncomputable def c_57 (args : List (AV tau)) (m : Mem tau) (κ : AV tau → Mem tau → Option Unit) : Option Unit := match args, m.bx, m.rw with
  | [b0], [], [] => bO (asSl 5 b0) fun l0 => callX (fun n => spec_l15Open.f l0) fun t => κ (.ptr 0 0) ⟨[some (98, [.sl 5 (t.1), .int .i64 (t.2)])], []⟩
  | _, _, _ => none
def E_57 : Env tau := mkE [(0, [(0, .one (.own 5))]), (1, [(0, .one (.own 5))]), (2, [(0, .one (.own 5))]), (3, [(0, .one (.own 5))])] [.one .any] ⟨0, 0⟩
noncomputable def c_16 (args : List (AV tau)) (m : Mem tau) (κ : AV tau → Mem tau → Option Unit) : Option Unit := match args, m.bx, m.rw with
  | [b0], [], [] => bO (asSl 5 b0) fun l0 => callX (fun n => spec_DrawBoxText.f n l0) fun t => κ (.own 0 0) ⟨[], [some ⟨70, t, 0⟩]⟩
  | _, _, _ => none
def E_16 : Env tau := mkE [(0, [(0, .one (.own 5))]), (1, [(0, .one (.own 5))])] [.one (.own 70)] ⟨0, 0⟩
noncomputable def c_64 (args : List (AV tau)) (m : Mem tau) (κ : AV tau → Mem tau → Option Unit) : Option Unit := match args, m.bx, m.rw with
  | [b0, b1, b2], [], [] => bO (asI .i64 b0) fun a0 => bO (asI .i64 b1) fun a1 => bO (asI .i64 b2) fun a2 => callX (fun n => impl_in.f a0 a1 a2) fun t => κ (.bool (t)) ⟨[], []⟩
  | _, _, _ => none
def E_64 : Env tau := mkE [(0, [(0, .one .any), (1, .one .any), (2, .one .any)]), (1, [(0, .one .any), (1, .one .any), (2, .one .any)])] [.one .any] ⟨0, 0⟩
noncomputable def c_20 (args : List (AV tau)) (m : Mem tau) (κ : AV tau → Mem tau → Option Unit) : Option Unit := match args, m.bx, m.rw with
  | [b0], [], [] => bO (asSl 70 b0) fun l0 => callX (fun n => impl_BoxOk.f n l0) fun t => κ (.bool (t)) ⟨[], []⟩
  | _, _, _ => none
def E_20 : Env tau := mkE [(0, [(0, .one (.own 70))]), (1, [(0, .one (.own 70))]), (2, [(0, .one (.own 70)), (5, .one (.own 70)), (6, .one .any), (7, .one .any)]), (3, [(0, .one (.own 70)), (5, .one (.own 70)), (6, .one .any), (7, .one .any)]), (4, [(0, .one (.own 70)), (4, .one .any), (5, .one (.own 70)), (6, .one .any), (7, .one .any)]), (5, []), (6, [(0, .one (.own 70)), (5, .one (.own 70)), (6, .one .any), (7, .one .any)]), (7, [(0, .one (.own 70))])] [.one .any] ⟨0, 0⟩
noncomputable def c_62 (args : List (AV tau)) (m : Mem tau) (κ : AV tau → Mem tau → Option Unit) : Option Unit := match args, m.bx, m.rw with
  | [b0], [], [] => bO (asSl 70 b0) fun l0 => callX (fun n => impl_copied_impl_Box.f l0) fun t => κ (.own 0 0) ⟨[], [some ⟨70, t, 0⟩]⟩
  | _, _, _ => none
def E_62 : Env tau := mkE [(0, [(0, .one (.own 70))]), (1, [(0, .one (.own 70))]), (2, []), (3, [(0, .one (.own 70))]), (4, [(0, .one (.own 70)), (3, .one (.own 70))]), (5, [(3, .one (.own 70))])] [.one (.own 70)] ⟨0, 0⟩
noncomputable def c_65 (args : List (AV tau)) (m : Mem tau) (κ : AV tau → Mem tau → Option Unit) : Option Unit := match args, m.bx, m.rw with
  | [b0], [], [] => bO (asI .i64 b0) fun a0 => callX (fun n => spec_l1Num.f a0) fun t => κ (.bool (t)) ⟨[], []⟩
  | _, _, _ => none
def E_65 : Env tau := mkE [(0, [(0, .one .any)]), (1, [(0, .one .any)])] [.one .any] ⟨0, 0⟩
noncomputable def c_21 (args : List (AV tau)) (m : Mem tau) (κ : AV tau → Mem tau → Option Unit) : Option Unit := match args, m.bx, m.rw with
  | [b0], [], [] => bO (asSl 70 b0) fun l0 => callX (fun n => spec_BoxOk.f n l0) fun t => κ (.bool (t)) ⟨[], []⟩
  | _, _, _ => none
def E_21 : Env tau := mkE [(0, [(0, .one (.own 70))]), (1, [(0, .one (.own 70))]), (2, []), (3, [(0, .one (.own 70))]), (4, [(0, .one (.own 70)), (3, .one .any)]), (5, [(0, .one (.own 70)), (3, .one .any)]), (6, [(0, .one (.own 70)), (3, .one .any)]), (7, []), (8, [])] [.one .any] ⟨0, 0⟩
noncomputable def c_66 (args : List (AV tau)) (m : Mem tau) (κ : AV tau → Mem tau → Option Unit) : Option Unit := match args, m.bx, m.rw with
  | [b0, b1], [], [] => bO (asSl 70 b0) fun l0 => bO (asSl 70 b1) fun l1 => callX (fun n => impl_same_impl_Box.f n l0 l1) fun t => κ (.bool (t)) ⟨[], []⟩
  | _, _, _ => none
def E_66 : Env tau := mkE [(0, [(0, .one (.own 70)), (1, .one (.own 70))]), (1, [(0, .one (.own 70)), (1, .one (.own 70))]), (2, []), (3, [(0, .one (.own 70)), (1, .one (.own 70))]), (4, [(0, .one (.own 70)), (1, .one (.own 70)), (12, .one .any), (13, .one .any)]), (5, [(0, .one (.own 70)), (1, .one (.own 70)), (12, .one .any), (13, .one .any)]), (6, [(0, .one (.own 70)), (1, .one (.own 70)), (5, .one .any), (12, .one .any), (13, .one .any)]), (7, []), (8, [(0, .one (.own 70)), (1, .one (.own 70)), (12, .one .any), (13, .one .any)]), (9, [])] [.one .any] ⟨0, 0⟩
noncomputable def c_22 (args : List (AV tau)) (m : Mem tau) (κ : AV tau → Mem tau → Option Unit) : Option Unit := match args, m.bx, m.rw with
  | [b0, b1], [], [] => bO (asSl 70 b0) fun l0 => bO (asSl 70 b1) fun l1 => callX (fun n => impl_BoxSame.f n l0 l1) fun t => κ (.bool (t)) ⟨[], []⟩
  | _, _, _ => none
def E_22 : Env tau := mkE [(0, [(0, .one (.own 70)), (1, .one (.own 70))]), (1, [(0, .one (.own 70)), (1, .one (.own 70))])] [.one .any] ⟨0, 0⟩
noncomputable def c_25 (args : List (AV tau)) (m : Mem tau) (κ : AV tau → Mem tau → Option Unit) : Option Unit := match args, m.bx, m.rw with
  | [], [], [] => callX (fun n => impl_BoxOpen.f) fun t => κ (.own 0 0) ⟨[], [some ⟨70, t, 0⟩]⟩
  | _, _, _ => none
def E_25 : Env tau := mkE [(0, []), (1, [])] [.one (.own 70)] ⟨0, 0⟩
noncomputable def c_17 (args : List (AV tau)) (m : Mem tau) (κ : AV tau → Mem tau → Option Unit) : Option Unit := match args, m.bx, m.rw with
  | [b0], [], [] => bO (asSl 70 b0) fun l0 => callX (fun n => impl_BoxText.f n l0) fun t => κ (.str (t)) ⟨[], []⟩
  | _, _, _ => none
def E_17 : Env tau := mkE [(0, [(0, .one (.own 70))]), (1, [(0, .one (.own 70))]), (2, [(0, .one (.own 70)), (3, .one (.own 9))]), (3, [(3, .one (.own 9)), (6, .one (.own 70)), (7, .one .any), (8, .one .any)]), (4, [(3, .one (.own 9)), (6, .one (.own 70)), (7, .one .any), (8, .one .any)]), (5, [(3, .one (.own 9)), (5, .one .any), (6, .one (.own 70)), (7, .one .any), (8, .one .any)]), (6, [(3, .one (.own 9)), (6, .one (.own 70)), (7, .one .any), (8, .one .any)]), (7, [(3, .one (.own 9))])] [.one .any] ⟨0, 0⟩
noncomputable def c_61 (args : List (AV tau)) (m : Mem tau) (κ : AV tau → Mem tau → Option Unit) : Option Unit := match args, m.bx, m.rw with
  | [b0], [], [] => bO (asS b0) fun a0 => callX (fun n => impl_integer.f n a0) fun t => κ (.tup [.int .i64 (t.1), .bool (t.2)]) ⟨[], []⟩
  | _, _, _ => none
def E_61 : Env tau := mkE [(0, [(0, .one .any)]), (1, [(0, .one .any)]), (2, [(0, .one .any), (4, .one .any)]), (3, []), (4, [(0, .one .any), (4, .one .any)]), (5, [(0, .one .any), (4, .one .any), (5, .one .any)]), (6, [(0, .one .any), (4, .one .any), (5, .one .any), (6, .one .any)]), (7, [(0, .one .any), (4, .one .any), (5, .one .any), (6, .one .any)]), (8, [(0, .one .any), (4, .one .any), (5, .one .any), (6, .one .any)]), (9, []), (10, [(0, .one .any), (4, .one .any), (5, .one .any), (6, .one .any)]), (11, [(0, .one .any), (4, .one .any), (5, .one .any)]), (12, [(5, .one .any)]), (13, [(5, .one .any)])] [.one .any, .one .any] ⟨0, 0⟩
noncomputable def c_18 (args : List (AV tau)) (m : Mem tau) (κ : AV tau → Mem tau → Option Unit) : Option Unit := match args, m.bx, m.rw with
  | [b0], [], [] => bO (asS b0) fun a0 => callX (fun n => impl_BoxRead.f n a0) fun t => κ (.tup [.own 0 0, .bool (t.2)]) ⟨[], [some ⟨70, t.1, 0⟩]⟩
  | _, _, _ => none
def E_18 : Env tau := mkE [(0, [(0, .one .any)]), (1, [(0, .one .any)]), (2, []), (3, [(0, .one .any)]), (4, [(0, .one .any), (4, .one (.own 70))]), (5, [(0, .one .any), (4, .one (.own 70)), (18, .one (.own 9)), (19, .one .any), (20, .one .any)]), (6, [(0, .one .any), (4, .one (.own 70)), (18, .one (.own 9)), (19, .one .any), (20, .one .any)]), (7, [(0, .one .any), (4, .one (.own 70)), (6, .one .any), (18, .one (.own 9)), (19, .one .any), (20, .one .any)]), (8, [(0, .one .any), (4, .one (.own 70)), (7, .one .any), (8, .one .any), (18, .one (.own 9)), (19, .one .any), (20, .one .any)]), (9, [(0, .one .any), (4, .one (.own 70)), (8, .one .any), (10, .one .any), (11, .one .any), (18, .one (.own 9)), (19, .one .any), (20, .one .any)]), (10, [(0, .one .any), (4, .one (.own 70)), (10, .one .any), (11, .one .any), (12, .one .any), (13, .one .any), (18, .one (.own 9)), (19, .one .any), (20, .one .any)]), (11, []), (12, [(0, .one .any), (4, .one (.own 70)), (10, .one .any), (12, .one .any), (18, .one (.own 9)), (19, .one .any), (20, .one .any)]), (13, [(0, .one .any), (4, .one (.own 70)), (18, .one (.own 9)), (19, .one .any), (20, .one .any)]), (14, [(0, .one .any), (4, .one (.own 70))]), (15, []), (16, [(4, .one (.own 70))])] [.one (.own 70), .one .any] ⟨0, 0⟩
noncomputable def c_19 (args : List (AV tau)) (m : Mem tau) (κ : AV tau → Mem tau → Option Unit) : Option Unit := match args, m.bx, m.rw with
  | [b0], [], [] => bO (asSl 70 b0) fun l0 => callX (fun n => spec_BoxText.f n l0) fun t => κ (.str (t)) ⟨[], []⟩
  | _, _, _ => none
def E_19 : Env tau := mkE [(0, [(0, .one (.own 70))]), (1, [(0, .one (.own 70))]), (2, [(0, .one (.own 70)), (3, .one .any)]), (3, [(0, .one (.own 70)), (3, .one .any), (4, .one .any)]), (4, [(0, .one (.own 70)), (3, .one .any), (4, .one .any)]), (5, [(0, .one (.own 70)), (3, .one .any), (4, .one .any)]), (6, [(0, .one (.own 70)), (3, .one .any), (4, .one .any)]), (7, [(0, .one (.own 70)), (3, .one .any), (4, .one .any)]), (8, [(3, .one .any)])] [.one .any] ⟨0, 0⟩
noncomputable def c_68 (args : List (AV tau)) (m : Mem tau) (κ : AV tau → Mem tau → Option Unit) : Option Unit := match args, m.bx, m.rw with
  | [p0, b0], [some (t0_, [c0_0, c0_1])], [r0] => bO (asPtr 0 p0) fun _ => bO (asT 98 t0_) fun _ => bO (asSl 5 c0_0) fun s0_0 => bO (asI .i64 c0_1) fun s0_1 => bO (asOwn 0 b0) fun _ => bO (asRow 9 r0) fun l1 => callX (fun n => spec_l15Rd_of.f n s0_0 s0_1 l1) fun t => κ (.str (t.1)) ⟨[some (98, [.sl 5 (s0_0), .int .i64 (t.2)])], [some ⟨9, l1, 0⟩]⟩
  | _, _, _ => none
def E_68 : Env tau := mkE [(0, [(0, .one .any), (1, .one (.own 9))]), (1, [(0, .one .any), (1, .one (.own 9))])] [.one .any] ⟨1, 1⟩
noncomputable def c_23 (args : List (AV tau)) (m : Mem tau) (κ : AV tau → Mem tau → Option Unit) : Option Unit := match args, m.bx, m.rw with
  | [b0], [], [] => bO (asSl 5 b0) fun l0 => callX (fun n => spec_DrawBoxRead.f n l0) fun t => κ (.str (t)) ⟨[], []⟩
  | _, _, _ => none
def E_23 : Env tau := mkE [(0, [(0, .one (.own 5))]), (1, [(0, .one (.own 5))]), (2, [(3, .one .any)]), (3, [(3, .one .any), (4, .one .any)]), (4, [(4, .one .any)]), (5, [(3, .one .any), (4, .one .any)]), (6, [(3, .one .any), (4, .one .any), (5, .one .any)])] [.one .any] ⟨0, 0⟩
noncomputable def c_50 (args : List (AV tau)) (m : Mem tau) (κ : AV tau → Mem tau → Option Unit) : Option Unit := match args, m.bx, m.rw with
  | [b0, b1], [], [] => bO (asS b0) fun a0 => bO (asI .u8 b1) fun a1 => callX (fun n => spec_l15Cut.f n a0 a1) fun t => κ (.own 0 0) ⟨[], [some ⟨9, t, 0⟩]⟩
  | _, _, _ => none
def E_50 : Env tau := mkE [(0, [(0, .one .any), (1, .one .any)]), (1, [(0, .one .any), (1, .one .any)]), (2, [(0, .one .any), (1, .one .any), (5, .one (.own 9))]), (3, [(0, .one .any), (1, .one .any), (5, .one (.own 9)), (6, .one .any)]), (4, [(0, .one .any), (1, .one .any), (5, .one (.own 9)), (6, .one .any), (7, .one .any)]), (5, [(0, .one .any), (1, .one .any), (5, .one (.own 9)), (6, .one .any), (7, .one .any)]), (6, [(0, .one .any), (1, .one .any), (5, .one (.own 9)), (6, .one .any), (7, .one .any)]), (7, [(0, .one .any), (1, .one .any), (5, .one (.own 9)), (6, .one .any), (7, .one .any)]), (8, [(0, .one .any), (1, .one .any), (5, .one (.own 9)), (7, .one .any)]), (9, [(5, .one (.own 9))])] [.one (.own 9)] ⟨0, 0⟩
noncomputable def c_69 (args : List (AV tau)) (m : Mem tau) (κ : AV tau → Mem tau → Option Unit) : Option Unit := match args, m.bx, m.rw with
  | [b0, b1], [], [] => bO (asS b0) fun a0 => bO (asI .u8 b1) fun a1 => callX (fun n => spec_l15Find.f n a0 a1) fun t => κ (.int .i64 (t)) ⟨[], []⟩
  | _, _, _ => none
def E_69 : Env tau := mkE [(0, [(0, .one .any), (1, .one .any)]), (1, [(0, .one .any), (1, .one .any)]), (2, [(0, .one .any), (1, .one .any), (5, .one .any)]), (3, [(0, .one .any), (1, .one .any), (5, .one .any)]), (4, [(0, .one .any), (1, .one .any), (5, .one .any)]), (5, [(5, .one .any)]), (6, [])] [.one .any] ⟨0, 0⟩
noncomputable def c_70 (args : List (AV tau)) (m : Mem tau) (κ : AV tau → Mem tau → Option Unit) : Option Unit := match args, m.bx, m.rw with
  | [b0], [], [] => bO (asS b0) fun a0 => callX (fun n => spec_l15Num.f n a0) fun t => κ (.tup [.int .i64 (t.1), .bool (t.2)]) ⟨[], []⟩
  | _, _, _ => none
def E_70 : Env tau := mkE [(0, [(0, .one .any)]), (1, [(0, .one .any)]), (2, [(0, .one .any), (4, .one .any)]), (3, [(0, .one .any), (4, .one .any)]), (4, [(0, .one .any), (4, .one .any)]), (5, []), (6, [(0, .one .any), (4, .one .any)]), (7, [(0, .one .any), (4, .one .any), (5, .one .any)]), (8, [(0, .one .any), (4, .one .any), (5, .one .any), (6, .one .any)]), (9, [(0, .one .any), (4, .one .any), (5, .one .any), (6, .one .any)]), (10, [(0, .one .any), (4, .one .any), (5, .one .any), (6, .one .any)]), (11, []), (12, [(0, .one .any), (4, .one .any), (5, .one .any), (6, .one .any)]), (13, [(4, .one .any), (5, .one .any)]), (14, [(5, .one .any)]), (15, [(5, .one .any)])] [.one .any, .one .any] ⟨0, 0⟩
noncomputable def c_24 (args : List (AV tau)) (m : Mem tau) (κ : AV tau → Mem tau → Option Unit) : Option Unit := match args, m.bx, m.rw with
  | [b0], [], [] => bO (asS b0) fun a0 => callX (fun n => spec_BoxRead.f n a0) fun t => κ (.tup [.own 0 0, .bool (t.2)]) ⟨[], [some ⟨70, t.1, 0⟩]⟩
  | _, _, _ => none
def E_24 : Env tau := mkE [(0, [(0, .one .any)]), (1, [(0, .one .any)]), (2, []), (3, [(0, .one .any)]), (4, [(4, .one (.own 9))]), (5, [(4, .one (.own 9)), (5, .one (.own 70))]), (6, [(4, .one (.own 9)), (5, .one (.own 70)), (6, .one .any)]), (7, [(4, .one (.own 9)), (5, .one (.own 70)), (6, .one .any)]), (8, [(4, .one (.own 9)), (5, .one (.own 70)), (6, .one .any)]), (9, [(4, .one (.own 9)), (5, .one (.own 70)), (6, .one .any), (7, .one .any)]), (10, []), (11, [(4, .one (.own 9)), (5, .one (.own 70)), (6, .one .any), (7, .one .any)]), (12, [(4, .one (.own 9)), (5, .one (.own 70)), (6, .one .any), (7, .one .any), (8, .one .any), (9, .one .any)]), (13, [(4, .one (.own 9)), (5, .one (.own 70)), (6, .one .any), (8, .one .any), (9, .one .any), (10, .one .any), (11, .one .any)]), (14, []), (15, [(4, .one (.own 9)), (5, .one (.own 70)), (6, .one .any), (8, .one .any), (10, .one .any)]), (16, [(5, .one (.own 70))]), (17, []), (18, [(5, .one (.own 70))])] [.one (.own 70), .one .any] ⟨0, 0⟩
noncomputable def c_4 (args : List (AV tau)) (m : Mem tau) (κ : AV tau → Mem tau → Option Unit) : Option Unit := match args, m.bx, m.rw with
  | [b0, b1], [], [] => bO (asSl 5 b0) fun l0 => bO (asSl 5 b1) fun l1 => callX (fun n => laws_FnBox.f n l0 l1) fun t => κ (.bool (t)) ⟨[], []⟩
  | _, _, _ => none
def E_4 : Env tau := mkE [(0, [(0, .one (.own 5)), (1, .one (.own 5))]), (1, [(0, .one (.own 5)), (1, .one (.own 5))]), (2, []), (3, [(0, .one (.own 5)), (1, .one (.own 5))]), (4, [(1, .one (.own 5)), (5, .one (.own 70))]), (5, [(1, .one (.own 5)), (5, .one (.own 70)), (6, .one .any)]), (6, [(1, .one (.own 5)), (5, .one (.own 70)), (6, .one .any), (7, .one (.own 70)), (8, .one .any)]), (7, []), (8, [(1, .one (.own 5))]), (9, [(9, .one .any)]), (10, [(9, .one .any), (10, .one (.own 70)), (11, .one .any)]), (11, [(9, .one .any), (10, .one (.own 70)), (11, .one .any), (13, .one .any)])] [.one .any] ⟨0, 0⟩
end Go.Proofs.YtlpgpckggnimhaaDoor.PFnBox