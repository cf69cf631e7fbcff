/- The machine's texts of FnProgSame (definitions, table, contracts). Conditions: none. -/
import Derived.Test.YtlpgpckggnimhaaDoorProg
import Derived.Test.YtlpgpckggnimhaaDoorSWFnProgSame
import Derived.Test.YtlpgpckggnimhaaDoorAm38
import Derived.RowKit
import Derived.KernelRfl
import Derived.Test.YtlpgpckggnimhaaDoorAm41
import Derived.Test.YtlpgpckggnimhaaDoorRows
import Derived.Test.YtlpgpckggnimhaaDoorLay
set_option linter.unusedVariables false
set_option maxRecDepth 100000
namespace Go.Proofs.YtlpgpckggnimhaaDoor.PFnProgSame
open Go.RowKit Go.Proofs.YtlpgpckggnimhaaDoorW.PrintWords Go.Proofs.YtlpgpckggnimhaaDoorW.PrintLast Go.Proofs.YtlpgpckggnimhaaDoorW.PrintMore
def errW : Option Int → Value
  | none => .nilIface
  | some c => .iface 0 (.int .i64 c)
structure S60 where
  f0 : Int
  f1 : Int
  f2 : Int
  f3 : Int
def z60 : S60 := ⟨(0 : Int), (0 : Int), (0 : Int), (0 : Int)⟩
def rd_T60 (xs : List S60) (i : Int) : S60 := xs.getD i.toNat z60
def impl_in.f (a0 : Int) (a1 : Int) (a2 : Int) : Option (Bool) := if a0 ≥ a1 then (some (decide (a0 ≤ a2))) else (some false)
def impl_insOk_1.f (a0 : Int) : Option (Bool) := (impl_in.f a0 0 3).bind fun t124 => (some t124)
def impl_insOk_2.f (a0 : Int) : Option (Bool) := (impl_in.f a0 0 3).bind fun t125 => (some t125)
def impl_insOk.j0 : Nat → Int → Bool → Int → Int → Int → Int → Option (Bool)
  | 0, _, _, _, _, _, _ => none
  | k + 1, x6, x57, x127000, x127001, x127002, x127003 => if x57 = true then ((impl_insOk_1.f x127001).bind fun t133 => (if t133 = true then ((impl_insOk_1.f x127002).bind fun t134 => (if t134 = true then (some (x127003 == 0)) else (some false))) else (some false))) else (if x6 = 6 then ((impl_insOk_1.f x127001).bind fun t135 => (if t135 = true then ((impl_insOk_1.f x127002).bind fun t136 => (if t136 = true then ((impl_in.f x127003 1 10).bind fun t137 => (some t137)) else (some false))) else (some false))) else (if x6 = 7 then (if x127001 = 0 then (if x127002 = 0 then (some (x127003 == 0)) else (some false)) else (some false)) else (some false)))
def impl_insOk.f (k : Nat) (a0_0 : Int) (a0_1 : Int) (a0_2 : Int) (a0_3 : Int) : Option (Bool) := if a0_0 = 1 then ((impl_insOk_1.f a0_1).bind fun t127 => (if t127 = true then ((impl_insOk_2.f a0_2).bind fun t128 => (if t128 = true then (some (a0_3 == 0)) else (some false))) else (some false))) else (if a0_0 = 2 then ((impl_insOk_2.f a0_1).bind fun t129 => (if t129 = true then ((impl_insOk_1.f a0_2).bind fun t130 => (if t130 = true then (some (a0_3 == 0)) else (some false))) else (some false))) else (if a0_0 = 3 then ((impl_insOk_1.f a0_1).bind fun t131 => (if t131 = true then (if a0_2 = 0 then ((impl_in.f a0_3 (-1000000) 1000000).bind fun t132 => (some t132)) else (some false)) else (some false))) else (if a0_0 = 4 then (impl_insOk.j0 k a0_0 (a0_0 == 4) a0_0 a0_1 a0_2 a0_3) else (impl_insOk.j0 k a0_0 (a0_0 == 5) a0_0 a0_1 a0_2 a0_3))))
def impl_ProgOk.l0 : Nat → List (S60) → List (S60) → Int → Int → Option (Bool)
  | 0, _, _, _, _ => none
  | k + 1, x0, x5, x6, x7 => if x7 < x6 then (if 0 ≤ x7 then (if x7 < (x5.length : Int) then ((impl_insOk.f k ((rd_T60 x5 x7).f0) ((rd_T60 x5 x7).f1) ((rd_T60 x5 x7).f2) ((rd_T60 x5 x7).f3)).bind fun t140 => (if t140 = true then (impl_ProgOk.l0 k x0 x5 x6 (wrap64 (x7 + 1))) else (some false))) else (none)) else (none)) else (some (decide ((x0.length : Int) ≤ 10)))
def impl_ProgOk.f (k : Nat) (l0 : List (S60)) : Option (Bool) := impl_ProgOk.l0 k l0 l0 (l0.length : Int) 0
def spec_l1Num.f (a0 : Int) : Option (Bool) := if a0 ≥ (-1000000) then (some (decide (a0 ≤ 1000000))) else (some false)
def spec_l2Reg.f (a0 : Int) : Option (Bool) := if a0 ≥ 0 then (some (decide (a0 < 4))) else (some false)
def spec_l2Box.f (a0 : Int) : Option (Bool) := if a0 ≥ 0 then (some (decide (a0 < 4))) else (some false)
def spec_l2Ins.j0 : Nat → Int → Bool → Int → Int → Int → Int → Option (Bool)
  | 0, _, _, _, _, _, _ => none
  | k + 1, x4, x50, x142000, x142001, x142002, x142003 => if x50 = true then ((spec_l2Reg.f x142001).bind fun t148 => (if t148 = true then ((spec_l2Reg.f x142002).bind fun t149 => (if t149 = true then (some (x142003 == 0)) else (some false))) else (some false))) else (if x4 = 6 then ((spec_l2Reg.f x142001).bind fun t150 => (if t150 = true then ((spec_l2Reg.f x142002).bind fun t151 => (if t151 = true then (if x142003 ≥ 1 then (some (decide (x142003 ≤ 10))) else (some false)) else (some false))) else (some false))) else (if x4 = 7 then (if x142001 = 0 then (if x142002 = 0 then (some (x142003 == 0)) else (some false)) else (some false)) else (some false)))
def spec_l2Ins.f (k : Nat) (a0_0 : Int) (a0_1 : Int) (a0_2 : Int) (a0_3 : Int) : Option (Bool) := if a0_0 = 1 then ((spec_l2Reg.f a0_1).bind fun t142 => (if t142 = true then ((spec_l2Box.f a0_2).bind fun t143 => (if t143 = true then (some (a0_3 == 0)) else (some false))) else (some false))) else (if a0_0 = 2 then ((spec_l2Box.f a0_1).bind fun t144 => (if t144 = true then ((spec_l2Reg.f a0_2).bind fun t145 => (if t145 = true then (some (a0_3 == 0)) else (some false))) else (some false))) else (if a0_0 = 3 then ((spec_l2Reg.f a0_1).bind fun t146 => (if t146 = true then (if a0_2 = 0 then ((spec_l1Num.f a0_3).bind fun t147 => (some t147)) else (some false)) else (some false))) else (if a0_0 = 4 then (spec_l2Ins.j0 k a0_0 (a0_0 == 4) a0_0 a0_1 a0_2 a0_3) else (spec_l2Ins.j0 k a0_0 (a0_0 == 5) a0_0 a0_1 a0_2 a0_3))))
def spec_ProgOk.l0 : Nat → List (S60) → Int → Option (Bool)
  | 0, _, _ => none
  | k + 1, x0, x3 => if x3 < (x0.length : Int) then (if 0 ≤ x3 then ((spec_l2Ins.f k ((rd_T60 x0 x3).f0) ((rd_T60 x0 x3).f1) ((rd_T60 x0 x3).f2) ((rd_T60 x0 x3).f3)).bind fun t153 => (if t153 = true then (spec_ProgOk.l0 k x0 (wrap64 (x3 + 1))) else (some false))) else (none)) else (some true)
def spec_ProgOk.f (k : Nat) (l0 : List (S60)) : Option (Bool) := if (l0.length : Int) > 10 then (some false) else (spec_ProgOk.l0 k l0 0)
def impl_same_impl_Ins.l0 : Nat → List (S60) → List (S60) → Int → Int → Option (Bool)
  | 0, _, _, _, _ => none
  | k + 1, x0, x1, x12, x13 => if x13 < x12 then (if 0 ≤ x13 then (if x13 < (x0.length : Int) then (if x13 < (x1.length : Int) then (if (!(((rd_T60 x0 x13).f0) == ((rd_T60 x1 x13).f0)) || (!(((rd_T60 x0 x13).f1) == ((rd_T60 x1 x13).f1)) || (!(((rd_T60 x0 x13).f2) == ((rd_T60 x1 x13).f2)) || (!(((rd_T60 x0 x13).f3) == ((rd_T60 x1 x13).f3)))))) = true then (some false) else (impl_same_impl_Ins.l0 k x0 x1 x12 (wrap64 (x13 + 1)))) else (none)) else (none)) else (none)) else (some true)
def impl_same_impl_Ins.f (k : Nat) (l0 : List (S60)) (l1 : List (S60)) : Option (Bool) := if (l0.length : Int) = (l1.length : Int) then (impl_same_impl_Ins.l0 k l0 l1 (l0.length : Int) 0) else (some false)
def impl_ProgSame.f (k : Nat) (l0 : List (S60)) (l1 : List (S60)) : Option (Bool) := (impl_same_impl_Ins.f k l0 l1).bind fun t156 => (some t156)
def impl_copied_int.f (l0 : List Int) : Option (List Int) := if l0.length ≤ 35184372088832 then some l0 else none
def impl_boxesOf.l0 : Nat → List Int → Int → Bool → Bool → Bool → Bool → Option (List Int)
  | 0, _, _, _, _, _, _ => none
  | k + 1, x3, x7, x159000, x159001, x159002, x159003 => if x7 < 4 then (if 0 ≤ x7 then (if rdOf false [x159000, x159001, x159002, x159003] x7 = true then (if x3.length < 17592186044416 then (impl_boxesOf.l0 k (x3 ++ [x7]) (wrap64 (x7 + 1)) x159000 x159001 x159002 x159003) else (none)) else (impl_boxesOf.l0 k x3 (wrap64 (x7 + 1)) x159000 x159001 x159002 x159003)) else (none)) else ((impl_copied_int.f x3).bind fun t162 => (some t162))
def impl_boxesOf.f (k : Nat) (a0_0 : Bool) (a0_1 : Bool) (a0_2 : Bool) (a0_3 : Bool) : Option (List Int) := impl_boxesOf.l0 k ([] : List Int) 0 a0_0 a0_1 a0_2 a0_3
def impl_ProgPuts.l0 : Nat → List (S60) → Int → Int → Bool → Bool → Bool → Bool → Option (List Int)
  | 0, _, _, _, _, _, _, _ => none
  | k + 1, x6, x7, x8, x166000, x166001, x166002, x166003 => if x8 < x7 then (if 0 ≤ x8 then (if x8 < (x6.length : Int) then (if ((rd_T60 x6 x8).f0) = 2 then ((impl_in.f ((rd_T60 x6 x8).f1) 0 3).bind fun t168 => (if t168 = true then (if 0 ≤ ((rd_T60 x6 x8).f1) then (if ((rd_T60 x6 x8).f1) < 4 then (impl_ProgPuts.l0 k x6 x7 (wrap64 (x8 + 1)) (ixB ((rd_T60 x6 x8).f1) 0 true x166000) (ixB ((rd_T60 x6 x8).f1) 1 true x166001) (ixB ((rd_T60 x6 x8).f1) 2 true x166002) (ixB ((rd_T60 x6 x8).f1) 3 true x166003)) else (none)) else (none)) else (impl_ProgPuts.l0 k x6 x7 (wrap64 (x8 + 1)) x166000 x166001 x166002 x166003))) else (impl_ProgPuts.l0 k x6 x7 (wrap64 (x8 + 1)) x166000 x166001 x166002 x166003)) else (none)) else (none)) else ((impl_boxesOf.f k x166000 x166001 x166002 x166003).bind fun t170 => (some t170))
def impl_ProgPuts.f (k : Nat) (l0 : List (S60)) : Option (List Int) := impl_ProgPuts.l0 k l0 (l0.length : Int) 0 false false false false
def spec_l15Open.f (l0 : List Int) : Option (List Int × Int) := if (l0.length : Int) > 2000 then (if 2000 ≤ (l0.length : Int) then (some (l0.take 2000, 0)) else (none)) else (some (l0, 0))
def spec_l15Rd_pick.j0 : Nat → Int → Bool → List Int → Int → Option (Int × Int)
  | 0, _, _, _, _ => none
  | k + 1, x1, x24, x1000, x1001 => if x24 = true then (some (0, x1001)) else (if (wrap64 (x1001 - 1)) < (x1000.length : Int) then (if 0 ≤ (wrap64 (x1001 - 1)) then (if x1 = 0 then (none) else (some (Int.tmod (wrap64 (rd x1000 (wrap64 (x1001 - 1)))) x1, x1001))) else (none)) else (if (x1000.length : Int) = 0 then (none) else (if 0 ≤ (Int.tmod (wrap64 (x1001 - 1)) (x1000.length : Int)) then (if (Int.tmod (wrap64 (x1001 - 1)) (x1000.length : Int)) < (x1000.length : Int) then (if 0 ≤ (Int.tmod (wrap64 ((wrap64 ((wrap64 (x1001 - 1)) * 7)) + 3)) (x1000.length : Int)) then (if (Int.tmod (wrap64 ((wrap64 ((wrap64 (x1001 - 1)) * 7)) + 3)) (x1000.length : Int)) < (x1000.length : Int) then (if x1 = 0 then (none) else (some (Int.tmod (Go.bits .xor .i64 (wrap64 ((wrap64 ((wrap64 ((wrap64 ((wrap64 (rd x1000 (Int.tmod (wrap64 (x1001 - 1)) (x1000.length : Int)))) * 131)) + (wrap64 ((wrap64 (rd x1000 (Int.tmod (wrap64 ((wrap64 ((wrap64 (x1001 - 1)) * 7)) + 3)) (x1000.length : Int)))) * 1117)))) + (wrap64 ((wrap64 (x1001 - 1)) * 29)))) + (wrap64 ((wrap64 (Int.tdiv (wrap64 (x1001 - 1)) (x1000.length : Int))) * 53)))) (wrap64 (Int.tdiv (wrap64 ((wrap64 ((wrap64 ((wrap64 ((wrap64 (rd x1000 (Int.tmod (wrap64 (x1001 - 1)) (x1000.length : Int)))) * 131)) + (wrap64 ((wrap64 (rd x1000 (Int.tmod (wrap64 ((wrap64 ((wrap64 (x1001 - 1)) * 7)) + 3)) (x1000.length : Int)))) * 1117)))) + (wrap64 ((wrap64 (x1001 - 1)) * 29)))) + (wrap64 ((wrap64 (Int.tdiv (wrap64 (x1001 - 1)) (x1000.length : Int))) * 53)))) 64))) x1, x1001))) else (none)) else (none)) else (none)) else (none))))
def spec_l15Rd_pick.f (k : Nat) (s0_0 : List Int) (s0_1 : Int) (a1 : Int) : Option (Int × Int) := if a1 < 1 then (spec_l15Rd_pick.j0 k a1 true s0_0 (wrap64 (s0_1 + 1))) else (spec_l15Rd_pick.j0 k a1 ((s0_0.length : Int) == 0) s0_0 (wrap64 (s0_1 + 1)))
def spec_l15Rd_num.f (k : Nat) (s0_0 : List Int) (s0_1 : Int) (l1 : List Int) : Option (Int × Int) := (spec_l15Rd_pick.f k s0_0 s0_1 (l1.length : Int)).bind fun bt179 => (if 0 ≤ bt179.1 then (if bt179.1 < (l1.length : Int) then (some (rd l1 bt179.1, bt179.2)) else (none)) else (none))
def spec_l2Any.f (k : Nat) (s0_0 : List Int) (s0_1 : Int) : Option (Int × Int × Int × Int × Int) := (spec_l15Rd_num.f k s0_0 s0_1 (([1, 1, 2, 2, 3, 4, 4, 5, 6, 7] : List Int))).bind fun bt186 => ((spec_l15Rd_pick.f k s0_0 bt186.2 3).bind fun bt188 => ((spec_l15Rd_pick.f k s0_0 bt188.2 3).bind fun bt190 => (if bt186.1 = 3 then ((spec_l15Rd_num.f k s0_0 bt190.2 (([0, 1, 5, (-2), 100, 1000000] : List Int))).bind fun bt196 => (some (bt186.1, bt188.1, 0, bt196.1, bt196.2))) else (if bt186.1 = 6 then ((spec_l15Rd_pick.f k s0_0 bt190.2 3).bind fun bt198 => (some (bt186.1, bt188.1, bt190.1, wrap64 (1 + bt198.1), bt198.2))) else (if bt186.1 = 7 then ((spec_l15Rd_pick.f k s0_0 bt190.2 3).bind fun bt200 => (if bt200.1 > 0 then ((spec_l15Rd_pick.f k s0_0 bt200.2 4).bind fun bt202 => ((spec_l15Rd_pick.f k s0_0 bt202.2 4).bind fun bt204 => (some (4, bt202.1, bt204.1, 0, bt204.2)))) else (some (bt186.1, 0, 0, 0, bt200.2)))) else (some (bt186.1, bt188.1, bt190.1, 0, bt190.2)))))))
def spec_l2Prog.l0 : Nat → List (S60) → Int → List Int → Int → Option ((List (S60)) × Int)
  | 0, _, _, _, _ => none
  | k + 1, x5, x6, x1000, x1001 => if x6 > 0 then ((spec_l2Any.f k x1000 x1001).bind fun bt222 => (if x5.length < 4398046511104 then (spec_l2Prog.l0 k (x5 ++ [(⟨bt222.1, bt222.2.1, bt222.2.2.1, bt222.2.2.2.1⟩ : S60)]) (wrap64 (x6 - 1)) x1000 bt222.2.2.2.2) else (none))) else (some (x5, x1001))
def spec_l2Prog.f (k : Nat) (s0_0 : List Int) (s0_1 : Int) : Option ((List (S60)) × Int) := (spec_l15Rd_pick.f k s0_0 s0_1 3).bind fun bt206 => (if bt206.1 = 0 then ((spec_l15Rd_pick.f k s0_0 bt206.2 3).bind fun bt208 => ((spec_l15Rd_pick.f k s0_0 bt208.2 3).bind fun bt210 => ((spec_l15Rd_pick.f k s0_0 bt210.2 3).bind fun bt212 => (some ((([(⟨1, 0, bt208.1, 0⟩ : S60), (⟨3, 1, 0, wrap64 (1 + bt212.1)⟩ : S60), (⟨4, 0, 1, 0⟩ : S60), (⟨2, bt210.1, 0, 0⟩ : S60)] : List (S60))), bt212.2))))) else ((spec_l15Rd_pick.f k s0_0 bt206.2 8).bind fun bt220 => (spec_l2Prog.l0 k (([] : List (S60))) bt220.1 s0_0 bt220.2)))
def spec_l2Bent.l0 : Nat → List (S60) → Int → List Int → Int → Option ((List (S60)) × Int)
  | 0, _, _, _, _ => none
  | k + 1, x3, x4, x1000, x1001 => if (x3.length : Int) < 11 then (if 0 ≤ x4 then (if x4 < (x3.length : Int) then (if x3.length < 4398046511104 then (spec_l2Bent.l0 k (x3 ++ [(⟨(rd_T60 x3 x4).f0, (rd_T60 x3 x4).f1, (rd_T60 x3 x4).f2, (rd_T60 x3 x4).f3⟩ : S60)]) x4 x1000 x1001) else (none)) else (none)) else (none)) else (some (x3, x1001))
def spec_l2Bent.f (k : Nat) (s0_0 : List Int) (s0_1 : Int) : Option ((List (S60)) × Int) := (spec_l2Prog.f k s0_0 s0_1).bind fun bt230 => (if (bt230.1.length : Int) = 0 then (some (bt230.1, bt230.2)) else ((spec_l15Rd_pick.f k s0_0 bt230.2 (bt230.1.length : Int)).bind fun bt234 => ((spec_l15Rd_pick.f k s0_0 bt234.2 40).bind fun bt236 => (if bt236.1 = 0 then ((spec_l15Rd_num.f k s0_0 bt236.2 (([0, 8] : List Int))).bind fun bt241 => (if 0 ≤ bt234.1 then (if bt234.1 < (bt230.1.length : Int) then (some ((bt230.1.set (bt234.1 : Int).toNat (⟨bt241.1, (rd_T60 bt230.1 bt234.1).f1, (rd_T60 bt230.1 bt234.1).f2, (rd_T60 bt230.1 bt234.1).f3⟩ : S60)), bt241.2)) else (none)) else (none))) else (if bt236.1 = 1 then ((spec_l15Rd_num.f k s0_0 bt236.2 (([(-1), 4] : List Int))).bind fun bt247 => (if 0 ≤ bt234.1 then (if bt234.1 < (bt230.1.length : Int) then (some ((bt230.1.set (bt234.1 : Int).toNat (⟨(rd_T60 bt230.1 bt234.1).f0, bt247.1, (rd_T60 bt230.1 bt234.1).f2, (rd_T60 bt230.1 bt234.1).f3⟩ : S60)), bt247.2)) else (none)) else (none))) else (if bt236.1 = 2 then ((spec_l15Rd_num.f k s0_0 bt236.2 (([(-1), 11, 2000000] : List Int))).bind fun bt253 => (if 0 ≤ bt234.1 then (if bt234.1 < (bt230.1.length : Int) then (some ((bt230.1.set (bt234.1 : Int).toNat (⟨(rd_T60 bt230.1 bt234.1).f0, (rd_T60 bt230.1 bt234.1).f1, (rd_T60 bt230.1 bt234.1).f2, bt253.1⟩ : S60)), bt253.2)) else (none)) else (none))) else (if bt236.1 = 3 then (spec_l2Bent.l0 k bt230.1 bt234.1 s0_0 bt236.2) else (some (bt230.1, bt236.2)))))))))
def spec_DrawProgLoads.f (k : Nat) (l0 : List Int) : Option ((List (S60))) := (spec_l15Open.f l0).bind fun bt278 => ((spec_l2Bent.f k bt278.1 bt278.2).bind fun bt281 => (some bt281.1))
def spec_ProgSame.l0 : Nat → List (S60) → List (S60) → Int → Option (Bool)
  | 0, _, _, _ => none
  | k + 1, x0, x1, x5 => if x5 < (x0.length : Int) then (if 0 ≤ x5 then (if x5 < (x1.length : Int) then (if (!(((rd_T60 x0 x5).f0) == ((rd_T60 x1 x5).f0)) || (!(((rd_T60 x0 x5).f1) == ((rd_T60 x1 x5).f1)) || (!(((rd_T60 x0 x5).f2) == ((rd_T60 x1 x5).f2)) || (!(((rd_T60 x0 x5).f3) == ((rd_T60 x1 x5).f3)))))) = true then (some false) else (spec_ProgSame.l0 k x0 x1 (wrap64 (x5 + 1)))) else (none)) else (none)) else (some true)
def spec_ProgSame.f (k : Nat) (l0 : List (S60)) (l1 : List (S60)) : Option (Bool) := if (l0.length : Int) = (l1.length : Int) then (spec_ProgSame.l0 k l0 l1 0) else (some false)
open Am
def spec_DrawProgSame.f (k : Nat) (l0 : List Int) : Option ((List S60) × (List S60)) := (spec_l15Open.f l0).bind fun t0 => ((spec_l2Bent.f k t0.1 t0.2).bind fun t1 => ((spec_l15Open.f l0).bind fun t2 => ((spec_l2Bent.f k t2.1 t2.2).bind fun t3 => (if (((l0.length : Nat) : Int) > (0 : Int)) then (if ((0 : Int) < ((l0.length : Nat) : Int)) then (if ((Int.tmod (rd l0 (0 : Int)) (2 : Int)) = (1 : Int)) then (if (((t3.1).length + 1) ≤ 4398046511104) then (some (t1.1, (t3.1 ++ ([(⟨(7 : Int), (0 : Int), (0 : Int), (0 : Int)⟩ : S60)] : List S60)))) else (none)) else (some (t1.1, t3.1))) else (none)) else (some (t1.1, t3.1))))))
def impl_insText.f (k : Nat) (a0_0 : Int) (a0_1 : Int) (a0_2 : Int) (a0_3 : Int) : Option (ByteArray) := (strconv_Itoa.f k a0_1).bind fun t0 => (if ((1 + t0.size) ≤ 9223372036854775807) then ((strconv_Itoa.f k a0_2).bind fun t1 => (if ((1 + t1.size) ≤ 9223372036854775807) then ((strconv_Itoa.f k a0_3).bind fun t2 => (if ((1 + t2.size) ≤ 9223372036854775807) then (if (a0_0 = (1 : Int)) then (if ((4 + (((bs [32]) ++ t0)).size) ≤ 9223372036854775807) then (if (((((bs [108, 111, 97, 100]) ++ ((bs [32]) ++ t0))).size + (((bs [32]) ++ t1)).size) ≤ 9223372036854775807) then (some ((((bs [108, 111, 97, 100]) ++ ((bs [32]) ++ t0)) ++ ((bs [32]) ++ t1)))) else (none)) else (none)) else (if (a0_0 = (2 : Int)) then (if ((3 + (((bs [32]) ++ t0)).size) ≤ 9223372036854775807) then (if (((((bs [112, 117, 116]) ++ ((bs [32]) ++ t0))).size + (((bs [32]) ++ t1)).size) ≤ 9223372036854775807) then (some ((((bs [112, 117, 116]) ++ ((bs [32]) ++ t0)) ++ ((bs [32]) ++ t1)))) else (none)) else (none)) else (if (a0_0 = (3 : Int)) then (if ((3 + (((bs [32]) ++ t0)).size) ≤ 9223372036854775807) then (if (((((bs [110, 117, 109]) ++ ((bs [32]) ++ t0))).size + (((bs [32]) ++ t2)).size) ≤ 9223372036854775807) then (some ((((bs [110, 117, 109]) ++ ((bs [32]) ++ t0)) ++ ((bs [32]) ++ t2)))) else (none)) else (none)) else (if (a0_0 = (4 : Int)) then (if ((3 + (((bs [32]) ++ t0)).size) ≤ 9223372036854775807) then (if (((((bs [97, 100, 100]) ++ ((bs [32]) ++ t0))).size + (((bs [32]) ++ t1)).size) ≤ 9223372036854775807) then (some ((((bs [97, 100, 100]) ++ ((bs [32]) ++ t0)) ++ ((bs [32]) ++ t1)))) else (none)) else (none)) else (if (a0_0 = (5 : Int)) then (if ((3 + (((bs [32]) ++ t0)).size) ≤ 9223372036854775807) then (if (((((bs [115, 117, 98]) ++ ((bs [32]) ++ t0))).size + (((bs [32]) ++ t1)).size) ≤ 9223372036854775807) then (some ((((bs [115, 117, 98]) ++ ((bs [32]) ++ t0)) ++ ((bs [32]) ++ t1)))) else (none)) else (none)) else (if (a0_0 = (6 : Int)) then (if ((4 + (((bs [32]) ++ t0)).size) ≤ 9223372036854775807) then (if (((((bs [108, 101, 115, 115]) ++ ((bs [32]) ++ t0))).size + (((bs [32]) ++ t1)).size) ≤ 9223372036854775807) then (if ((((((bs [108, 101, 115, 115]) ++ ((bs [32]) ++ t0)) ++ ((bs [32]) ++ t1))).size + (((bs [32]) ++ t2)).size) ≤ 9223372036854775807) then (some (((((bs [108, 101, 115, 115]) ++ ((bs [32]) ++ t0)) ++ ((bs [32]) ++ t1)) ++ ((bs [32]) ++ t2)))) else (none)) else (none)) else (none)) else (if (a0_0 = (7 : Int)) then (some ((bs [102, 97, 105, 108]))) else (some ((bs [110, 111, 110, 101])))))))))) else (none))) else (none))) else (none))
mutual
def impl_ProgText.l0 : Nat → (List S60) → Int → Int → (List ByteArray) → Option (ByteArray)
  | 0, _, _, _, _ => none
  | k + 1, x0, x1, x2, x3 => if (x2 < x1) then (if ((0 : Int) ≤ x2) then (if (x2 < ((x0.length : Nat) : Int)) then ((impl_insText.f k ((rd_T60 x0 x2)).f0 ((rd_T60 x0 x2)).f1 ((rd_T60 x0 x2)).f2 ((rd_T60 x0 x2)).f3).bind fun t0 => (if ((x3.length + 1) ≤ 8796093022208) then (impl_ProgText.l0 k x0 x1 (wrap64 (x2 + (1 : Int))) (x3 ++ ([t0] : List ByteArray))) else (none))) else (none)) else (none)) else ((strings_Join.f k x3 (bs [44])).bind fun t1 => (some (t1)))
end
def impl_ProgText.f (k : Nat) (l0 : List S60) : Option (ByteArray) := impl_ProgText.l0 k l0 ((l0.length : Nat) : Int) (0 : Int) ([] : List ByteArray)
mutual
def laws_FnProgSame.l0 : Nat → Int → (List S60) → (List S60) → (List S60) → (List S60) → (List Int) → Option (Bool)
  | 0, _, _, _, _, _, _ => none
  | k + 1, x0, x1, x2, x3, x4, x5 => if (x0 < (4 : Int)) then (laws_FnProgSame.l1 k x0 false (0 : Int) x1 x2 x3 x4 x5) else ((spec_ProgOk.f k x1).bind fun t7 => (if t7 = true then ((spec_ProgOk.f k x2).bind fun t10 => (if t10 = true then ((spec_ProgOk.f k x3).bind fun t13 => (if t13 = true then ((impl_ProgSame.f k x1 x2).bind fun t16 => ((impl_ProgText.f k x1).bind fun t17 => ((impl_ProgText.f k x2).bind fun t18 => (if (t16 == (decide (t17 = t18))) = true then ((impl_ProgSame.f k x1 x3).bind fun t19 => ((impl_ProgText.f k x1).bind fun t20 => ((impl_ProgText.f k x3).bind fun t21 => (if (t19 == (decide (t20 = t21))) = true then ((impl_ProgOk.f k x4).bind fun t22 => (some ((t22 == (decide (((x4.length : Nat) : Int) ≤ (10 : Int))))))) else (some (false)))))) else (some (false)))))) else ((impl_ProgOk.f k x1).bind fun t14 => ((spec_ProgOk.f k x1).bind fun t15 => (some ((t14 == t15))))))) else ((impl_ProgOk.f k x1).bind fun t11 => ((spec_ProgOk.f k x1).bind fun t12 => (some ((t11 == t12))))))) else ((impl_ProgOk.f k x1).bind fun t8 => ((spec_ProgOk.f k x1).bind fun t9 => (some ((t8 == t9)))))))
def laws_FnProgSame.l1 : Nat → Int → Bool → Int → (List S60) → (List S60) → (List S60) → (List S60) → (List Int) → Option (Bool)
  | 0, _, _, _, _, _, _, _, _ => none
  | k + 1, x0, x1, x2, x3, x4, x5, x6, x7 => if (x2 < ((x7.length : Nat) : Int)) then (if x1 = true then (laws_FnProgSame.l1 k x0 true (wrap64 (x2 + (1 : Int))) x3 x4 x5 x6 x7) else (if ((0 : Int) ≤ x2) then (if (x2 < ((x7.length : Nat) : Int)) then (laws_FnProgSame.l1 k x0 (decide ((rd x7 x2) = x0)) (wrap64 (x2 + (1 : Int))) x3 x4 x5 x6 x7) else (none)) else (none))) else ((impl_ProgPuts.f k x3).bind fun t23 => ((impl_ProgPuts.f k x5).bind fun t24 => (laws_FnProgSame.l2 k x0 x1 false (0 : Int) x3 x4 x5 x6 x7 t23 t24)))
def laws_FnProgSame.l2 : Nat → Int → Bool → Bool → Int → (List S60) → (List S60) → (List S60) → (List S60) → (List Int) → (List Int) → (List Int) → Option (Bool)
  | 0, _, _, _, _, _, _, _, _, _, _, _ => none
  | k + 1, x0, x1, x2, x3, x4, x5, x6, x7, x8, x9, x10 => if (x3 < ((x9.length : Nat) : Int)) then (if x2 = true then (laws_FnProgSame.l2 k x0 x1 true (wrap64 (x3 + (1 : Int))) x4 x5 x6 x7 x8 x9 x10) else (if ((0 : Int) ≤ x3) then (if (x3 < ((x9.length : Nat) : Int)) then (laws_FnProgSame.l2 k x0 x1 (decide ((rd x9 x3) = x0)) (wrap64 (x3 + (1 : Int))) x4 x5 x6 x7 x8 x9 x10) else (none)) else (none))) else (laws_FnProgSame.l3 k x0 x1 x2 (0 : Int) x4 x5 x6 x7 x8 x10)
def laws_FnProgSame.l3 : Nat → Int → Bool → Bool → Int → (List S60) → (List S60) → (List S60) → (List S60) → (List Int) → (List Int) → Option (Bool)
  | 0, _, _, _, _, _, _, _, _, _, _ => none
  | k + 1, x0, x1, x2, x3, x4, x5, x6, x7, x8, x9 => if (x3 < ((x9.length : Nat) : Int)) then (if x2 = true then (laws_FnProgSame.l3 k x0 x1 true (wrap64 (x3 + (1 : Int))) x4 x5 x6 x7 x8 x9) else (if ((0 : Int) ≤ x3) then (if (x3 < ((x9.length : Nat) : Int)) then (laws_FnProgSame.l3 k x0 x1 (decide ((rd x9 x3) = x0)) (wrap64 (x3 + (1 : Int))) x4 x5 x6 x7 x8 x9) else (none)) else (none))) else (if (x1 == x2) = true then (laws_FnProgSame.l0 k (wrap64 (x0 + (1 : Int))) x4 x5 x6 x7 x8) else (some (false)))
end
def laws_FnProgSame.f (k : Nat) (l0 : List Int) (l1 : List Int) : Option (Bool) := if (((l0.length : Nat) : Int) > (1048576 : Int)) then (some (true)) else (if (((l1.length : Nat) : Int) > (1048576 : Int)) then (some (true)) else ((spec_DrawProgSame.f k l0).bind fun t0 => ((spec_DrawProgLoads.f k l1).bind fun t1 => ((impl_ProgSame.f k t0.1 t0.2).bind fun t2 => ((spec_ProgSame.f k t0.1 t0.2).bind fun t3 => (if (t2 == t3) = true then ((impl_ProgSame.f k t0.1 t1).bind fun t4 => ((impl_ProgSame.f k t1 t0.1).bind fun t5 => (if (t4 == t5) = true then (if ((0 + (t0.1).length) ≤ 4398046511104) then (if (((t0.1).length + t1.length) ≤ 4398046511104) then ((impl_ProgPuts.f k (t0.1 ++ t1)).bind fun t6 => (laws_FnProgSame.l0 k (0 : Int) t0.1 t0.2 t1 (t0.1 ++ t1) t6)) else (none)) else (none)) else (some (false))))) else (some (false))))))))
open Go Go.Proofs Am
def tau : TypeId → Type
  | 3 => Int
  | 5 => Int
  | 9 => ByteArray
  | 60 => S60
  | _ => Unit
def tabL : List (TypeId × TI) := [(2, ⟨[.int .i64], .scal⟩), (3, ⟨[.int .i64], .scal⟩), (4, ⟨[.bool], .scal⟩), (5, ⟨[.int .u8], .scal⟩), (6, ⟨[.int .u8], .scal⟩), (9, ⟨[.str], .scal⟩), (10, ⟨[.str], .scal⟩), (22, ⟨[.sl 60], .sl 60⟩), (28, ⟨[.sl 5], .sl 5⟩), (42, ⟨[.sl 3], .sl 3⟩), (57, ⟨[.sl 9], .sl 9⟩), (60, ⟨[.int .i64, .int .i64, .int .i64, .int .i64], .st [(0, 3), (1, 3), (2, 3), (3, 3)]⟩), (86, ⟨[.bool, .bool, .bool, .bool], .arr 4 4⟩), (98, ⟨[.sl 5, .int .i64], .st [(0, 28), (1, 3)]⟩)]
def rowT : (e : TypeId) → tau e → List (Lf tau)
  | 3, (x : Int) => [.i x]
  | 5, (x : Int) => [.i x]
  | 9, (x : ByteArray) => [.s x]
  | 60, (x : S60) => [.i x.f0, .i x.f1, .i x.f2, .i x.f3]
  | _, _ => []
instance : (e : TypeId) → Inhabited (tau e) := fun e => by unfold tau; split <;> first | exact ⟨(0 : Int)⟩ | exact ⟨false⟩ | exact ⟨(default : ByteArray)⟩ | exact ⟨[]⟩ | exact ⟨()⟩ | exact ⟨z60⟩
def of3 : List (Lf tau) → Int
  | [(.i y0)] => y0
  | _ => (0 : Int)
def of5 : List (Lf tau) → Int
  | [(.i y0)] => y0
  | _ => (0 : Int)
def of9 : List (Lf tau) → ByteArray
  | [(.s y0)] => y0
  | _ => (default : ByteArray)
def of60 : List (Lf tau) → S60
  | [(.i y0), (.i y1), (.i y2), (.i y3)] => (⟨y0, y1, y2, y3⟩ : S60)
  | _ => z60
def ofT : (e : TypeId) → List (Lf tau) → tau e
  | 3, l => of3 l
  | 5, l => of5 l
  | 9, l => of9 l
  | 60, l => of60 l
  | _, _ => default
def powName : String := Rows.fnProgSameRow.named.getD 0 default
def GL : World → (Nat → Prop) → Prop := glA Tryd.prog powName Lib.pow10Tab 0 1
def TT : Tab tau := { get := fun t => lookN t tabL, row := rowT, of := ofT, el := fun t => memN t [3, 5, 9, 60], gl := GL, glN := glA_next }
def byT : TypeId → Nat := fun t => lookD 1 t [(2, 8), (3, 8), (4, 1), (5, 1), (6, 1), (9, 16), (10, 16), (22, 24), (28, 24), (42, 24), (57, 24), (60, 32), (86, 4), (98, 32)]
def modeL : List (Nat × Nat) := [(57, 1), (67, 1), (85, 1), (106, 1), (92, 1), (71, 1)]
def shpL : List (Nat × List PS) := [(59, [.one (.own 9), .one .any]), (58, [.one .any]), (64, [.one .any, .one .any, .one .any]), (93, [.one .any]), (94, [.one .any]), (74, [.agg [.any, .any, .any, .any]]), (29, [.one (.sl 60)]), (65, [.one .any]), (95, [.one .any]), (96, [.one .any]), (75, [.agg [.any, .any, .any, .any]]), (30, [.one (.sl 60)]), (76, [.one (.sl 60), .one (.sl 60)]), (31, [.one (.sl 60), .one (.sl 60)]), (97, [.one (.sl 3)]), (77, [.agg [.any, .any, .any, .any]]), (34, [.one (.sl 60)]), (57, [.one (.sl 5)]), (67, [.one .any, .one .any]), (85, [.one .any, .one (.own 3)]), (106, [.one .any]), (92, [.one .any]), (71, [.one .any]), (46, [.one (.sl 5)]), (47, [.one (.sl 60), .one (.sl 60)]), (45, [.one (.sl 5)]), (72, [.agg [.any, .any, .any, .any]]), (27, [.one (.sl 60)]), (9, [.one (.sl 5), .one (.sl 5)])]
def persL : List (Nat × List Nat) := [(59, [0]), (85, [1])]
def pnL : List (Nat × Nat) := [(59, 1), (85, 1)]
def pnT : FuncId → Nat := fun f => lookD 0 f pnL
def mkE (keep : List (Nat × List (Nat × PS))) (res : List PS) (nb : NB) : Env tau := { T := TT, by_ := byT, mode := fun f => lookD 0 f modeL, shp := fun f => lookD [] f shpL, keep := fun i => lookN i keep, res := res, pers := fun f => lookD [] f persL, pn := pnT, nb := nb }
theorem asked : Asked Tryd.prog byT tabL := ⟨by kernel_rfl, by kernel_rfl, by kernel_rfl, by kernel_rfl⟩
theorem el_3 : ElOk TT 3 := by
 intro ti h
 replace h : some (⟨[.int .i64], .scal⟩ : TI) = some ti := h
 cases h
 refine ⟨fun x => rfl, fun l hl => ?_⟩
 obtain ⟨y0, l0, e0, h0⟩ := wts_i hl
 have e1 := wts_nil h0
 subst e1
 subst e0
 rfl
theorem el_5 : ElOk TT 5 := by
 intro ti h
 replace h : some (⟨[.int .u8], .scal⟩ : TI) = some ti := h
 cases h
 refine ⟨fun x => rfl, fun l hl => ?_⟩
 obtain ⟨y0, l0, e0, h0⟩ := wts_i hl
 have e1 := wts_nil h0
 subst e1
 subst e0
 rfl
theorem el_9 : ElOk TT 9 := by
 intro ti h
 replace h : some (⟨[.str], .scal⟩ : TI) = some ti := h
 cases h
 refine ⟨fun x => rfl, fun l hl => ?_⟩
 obtain ⟨y0, l0, e0, h0⟩ := wts_s hl
 have e1 := wts_nil h0
 subst e1
 subst e0
 rfl
theorem el_60 : ElOk TT 60 := by
 intro ti h
 replace h : some (⟨[.int .i64, .int .i64, .int .i64, .int .i64], .st [(0, 3), (1, 3), (2, 3), (3, 3)]⟩ : TI) = some ti := h
 cases h
 refine ⟨fun x => rfl, fun l hl => ?_⟩
 obtain ⟨y0, l0, e0, h0⟩ := wts_i hl
 obtain ⟨y1, l1, e1, h1⟩ := wts_i h0
 obtain ⟨y2, l2, e2, h2⟩ := wts_i h1
 obtain ⟨y3, l3, e3, h3⟩ := wts_i h2
 have e4 := wts_nil h3
 subst e4
 subst e3
 subst e2
 subst e1
 subst e0
 rfl
theorem pq : PQ Tryd.prog TT byT := pq_of asked rfl (fun e he => by
 have h := memN_iff.1 he
 simp only [List.mem_cons, List.not_mem_nil, or_false] at h
 rcases h with rfl | rfl | rfl | rfl
 · exact el_3
 · exact el_5
 · exact el_9
 · exact el_60)
theorem hmix : Tryd.prog.follows .mixedOrders = true := by kernel_rfl
noncomputable def c_59 (args : List (AV tau)) (m : Mem tau) (κ : AV tau → Mem tau → Option Unit) : Option Unit := match args, m.bx, m.rw with
  | [b0, b1], [], [r0] => bO (asOwn 0 b0) fun _ => bO (asRow 9 r0) fun l0 => bO (asS b1) fun a1 => callX (fun n => strings_Join.f n l0 a1) fun t => κ (.str (t)) ⟨[], [some ⟨9, l0, 0⟩]⟩
  | _, _, _ => none
noncomputable def c_58 (args : List (AV tau)) (m : Mem tau) (κ : AV tau → Mem tau → Option Unit) : Option Unit := match args, m.bx, m.rw with
  | [b0], [], [] => bO (asI .i64 b0) fun a0 => callX (fun n => strconv_Itoa.f n a0) fun t => κ (.str (t)) ⟨[], []⟩
  | _, _, _ => none
noncomputable def c_64 (args : List (AV tau)) (m : Mem tau) (κ : AV tau → Mem tau → Option Unit) : Option Unit := match args, m.bx, m.rw with
  | [b0, b1, b2], [], [] => bO (asI .i64 b0) fun a0 => bO (asI .i64 b1) fun a1 => bO (asI .i64 b2) fun a2 => callX (fun n => impl_in.f a0 a1 a2) fun t => κ (.bool (t)) ⟨[], []⟩
  | _, _, _ => none
def E_64 : Env tau := mkE [(0, [(0, .one .any), (1, .one .any), (2, .one .any)]), (1, [(0, .one .any), (1, .one .any), (2, .one .any)])] [.one .any] ⟨0, 0⟩
noncomputable def c_93 (args : List (AV tau)) (m : Mem tau) (κ : AV tau → Mem tau → Option Unit) : Option Unit := match args, m.bx, m.rw with
  | [b0], [], [] => bO (asI .i64 b0) fun a0 => callX (fun n => impl_insOk_1.f a0) fun t => κ (.bool (t)) ⟨[], []⟩
  | _, _, _ => none
def E_93 : Env tau := mkE [(0, [(0, .one .any)]), (1, [(0, .one .any)])] [.one .any] ⟨0, 0⟩
noncomputable def c_94 (args : List (AV tau)) (m : Mem tau) (κ : AV tau → Mem tau → Option Unit) : Option Unit := match args, m.bx, m.rw with
  | [b0], [], [] => bO (asI .i64 b0) fun a0 => callX (fun n => impl_insOk_2.f a0) fun t => κ (.bool (t)) ⟨[], []⟩
  | _, _, _ => none
def E_94 : Env tau := mkE [(0, [(0, .one .any)]), (1, [(0, .one .any)])] [.one .any] ⟨0, 0⟩
noncomputable def c_74 (args : List (AV tau)) (m : Mem tau) (κ : AV tau → Mem tau → Option Unit) : Option Unit := match args, m.bx, m.rw with
  | [.agg [b0, b1, b2, b3]], [], [] => bO (asI .i64 b0) fun a0_0 => bO (asI .i64 b1) fun a0_1 => bO (asI .i64 b2) fun a0_2 => bO (asI .i64 b3) fun a0_3 => callX (fun n => impl_insOk.f n a0_0 a0_1 a0_2 a0_3) fun t => κ (.bool (t)) ⟨[], []⟩
  | _, _, _ => none
def E_74 : Env tau := mkE [(0, [(0, .agg [.any, .any, .any, .any])]), (1, [(1, .one .any)]), (2, [(1, .one .any), (3, .one .any)]), (3, [(1, .one .any), (3, .one .any), (4, .one .any)]), (4, [(1, .one .any), (3, .one .any), (4, .one .any), (6, .one .any)]), (5, [(1, .one .any), (3, .one .any), (4, .one .any)]), (6, [(1, .one .any), (3, .one .any), (4, .one .any), (6, .one .any)]), (7, [(1, .one .any), (3, .one .any), (4, .one .any)]), (8, [(1, .one .any), (3, .one .any), (6, .one .any)]), (9, [(1, .one .any), (3, .one .any)]), (10, [(1, .one .any), (3, .one .any), (6, .one .any)]), (11, [(1, .one .any), (3, .one .any), (6, .one .any)]), (12, [(1, .one .any), (3, .one .any)]), (13, [(1, .one .any), (3, .one .any), (6, .one .any)]), (14, [(1, .one .any), (3, .one .any)]), (15, [(1, .one .any), (6, .one .any)]), (16, [(1, .one .any)]), (17, [])] [.one .any] ⟨0, 0⟩
noncomputable def c_29 (args : List (AV tau)) (m : Mem tau) (κ : AV tau → Mem tau → Option Unit) : Option Unit := match args, m.bx, m.rw with
  | [b0], [], [] => bO (asSl 60 b0) fun l0 => callX (fun n => impl_ProgOk.f n l0) fun t => κ (.bool (t)) ⟨[], []⟩
  | _, _, _ => none
def E_29 : Env tau := mkE [(0, [(0, .one (.own 60))]), (1, [(0, .one (.own 60))]), (2, [(0, .one (.own 60)), (5, .one (.own 60)), (6, .one .any), (7, .one .any)]), (3, [(0, .one (.own 60)), (5, .one (.own 60)), (6, .one .any), (7, .one .any)]), (4, [(0, .one (.own 60)), (4, .one .any), (5, .one (.own 60)), (6, .one .any), (7, .one .any)]), (5, []), (6, [(0, .one (.own 60)), (5, .one (.own 60)), (6, .one .any), (7, .one .any)]), (7, [(0, .one (.own 60))])] [.one .any] ⟨0, 0⟩
noncomputable def c_65 (args : List (AV tau)) (m : Mem tau) (κ : AV tau → Mem tau → Option Unit) : Option Unit := match args, m.bx, m.rw with
  | [b0], [], [] => bO (asI .i64 b0) fun a0 => callX (fun n => spec_l1Num.f a0) fun t => κ (.bool (t)) ⟨[], []⟩
  | _, _, _ => none
def E_65 : Env tau := mkE [(0, [(0, .one .any)]), (1, [(0, .one .any)])] [.one .any] ⟨0, 0⟩
noncomputable def c_95 (args : List (AV tau)) (m : Mem tau) (κ : AV tau → Mem tau → Option Unit) : Option Unit := match args, m.bx, m.rw with
  | [b0], [], [] => bO (asI .i64 b0) fun a0 => callX (fun n => spec_l2Reg.f a0) fun t => κ (.bool (t)) ⟨[], []⟩
  | _, _, _ => none
def E_95 : Env tau := mkE [(0, [(0, .one .any)]), (1, [(0, .one .any)])] [.one .any] ⟨0, 0⟩
noncomputable def c_96 (args : List (AV tau)) (m : Mem tau) (κ : AV tau → Mem tau → Option Unit) : Option Unit := match args, m.bx, m.rw with
  | [b0], [], [] => bO (asI .i64 b0) fun a0 => callX (fun n => spec_l2Box.f a0) fun t => κ (.bool (t)) ⟨[], []⟩
  | _, _, _ => none
def E_96 : Env tau := mkE [(0, [(0, .one .any)]), (1, [(0, .one .any)])] [.one .any] ⟨0, 0⟩
noncomputable def c_75 (args : List (AV tau)) (m : Mem tau) (κ : AV tau → Mem tau → Option Unit) : Option Unit := match args, m.bx, m.rw with
  | [.agg [b0, b1, b2, b3]], [], [] => bO (asI .i64 b0) fun a0_0 => bO (asI .i64 b1) fun a0_1 => bO (asI .i64 b2) fun a0_2 => bO (asI .i64 b3) fun a0_3 => callX (fun n => spec_l2Ins.f n a0_0 a0_1 a0_2 a0_3) fun t => κ (.bool (t)) ⟨[], []⟩
  | _, _, _ => none
def E_75 : Env tau := mkE [(0, [(0, .agg [.any, .any, .any, .any])]), (1, [(1, .one .any)]), (2, [(1, .one .any), (4, .one .any)]), (3, [(1, .one .any)]), (4, [(1, .one .any), (4, .one .any)]), (5, [(1, .one .any)]), (6, [(1, .one .any), (4, .one .any)]), (7, [(1, .one .any)]), (8, [(1, .one .any), (4, .one .any)]), (9, [(1, .one .any), (4, .one .any)]), (10, [(1, .one .any)]), (11, [(1, .one .any), (4, .one .any)]), (12, [(1, .one .any)]), (13, [(1, .one .any), (4, .one .any)]), (14, [(1, .one .any)]), (15, [])] [.one .any] ⟨0, 0⟩
noncomputable def c_30 (args : List (AV tau)) (m : Mem tau) (κ : AV tau → Mem tau → Option Unit) : Option Unit := match args, m.bx, m.rw with
  | [b0], [], [] => bO (asSl 60 b0) fun l0 => callX (fun n => spec_ProgOk.f n l0) fun t => κ (.bool (t)) ⟨[], []⟩
  | _, _, _ => none
def E_30 : Env tau := mkE [(0, [(0, .one (.own 60))]), (1, [(0, .one (.own 60))]), (2, []), (3, [(0, .one (.own 60))]), (4, [(0, .one (.own 60)), (3, .one .any)]), (5, [(0, .one (.own 60)), (3, .one .any)]), (6, [(0, .one (.own 60)), (3, .one .any)]), (7, []), (8, [])] [.one .any] ⟨0, 0⟩
noncomputable def c_76 (args : List (AV tau)) (m : Mem tau) (κ : AV tau → Mem tau → Option Unit) : Option Unit := match args, m.bx, m.rw with
  | [b0, b1], [], [] => bO (asSl 60 b0) fun l0 => bO (asSl 60 b1) fun l1 => callX (fun n => impl_same_impl_Ins.f n l0 l1) fun t => κ (.bool (t)) ⟨[], []⟩
  | _, _, _ => none
def E_76 : Env tau := mkE [(0, [(0, .one (.own 60)), (1, .one (.own 60))]), (1, [(0, .one (.own 60)), (1, .one (.own 60))]), (2, []), (3, [(0, .one (.own 60)), (1, .one (.own 60))]), (4, [(0, .one (.own 60)), (1, .one (.own 60)), (12, .one .any), (13, .one .any)]), (5, [(0, .one (.own 60)), (1, .one (.own 60)), (12, .one .any), (13, .one .any)]), (6, [(0, .one (.own 60)), (1, .one (.own 60)), (5, .one .any), (12, .one .any), (13, .one .any)]), (7, []), (8, [(0, .one (.own 60)), (1, .one (.own 60)), (12, .one .any), (13, .one .any)]), (9, [])] [.one .any] ⟨0, 0⟩
noncomputable def c_31 (args : List (AV tau)) (m : Mem tau) (κ : AV tau → Mem tau → Option Unit) : Option Unit := match args, m.bx, m.rw with
  | [b0, b1], [], [] => bO (asSl 60 b0) fun l0 => bO (asSl 60 b1) fun l1 => callX (fun n => impl_ProgSame.f n l0 l1) fun t => κ (.bool (t)) ⟨[], []⟩
  | _, _, _ => none
def E_31 : Env tau := mkE [(0, [(0, .one (.own 60)), (1, .one (.own 60))]), (1, [(0, .one (.own 60)), (1, .one (.own 60))])] [.one .any] ⟨0, 0⟩
noncomputable def c_97 (args : List (AV tau)) (m : Mem tau) (κ : AV tau → Mem tau → Option Unit) : Option Unit := match args, m.bx, m.rw with
  | [b0], [], [] => bO (asSl 3 b0) fun l0 => callX (fun n => impl_copied_int.f l0) fun t => κ (.own 0 0) ⟨[], [some ⟨3, t, 0⟩]⟩
  | _, _, _ => none
def E_97 : Env tau := mkE [(0, [(0, .one (.own 3))]), (1, [(0, .one (.own 3))]), (2, []), (3, [(0, .one (.own 3))]), (4, [(0, .one (.own 3)), (3, .one (.own 3))]), (5, [(3, .one (.own 3))])] [.one (.own 3)] ⟨0, 0⟩
noncomputable def c_77 (args : List (AV tau)) (m : Mem tau) (κ : AV tau → Mem tau → Option Unit) : Option Unit := match args, m.bx, m.rw with
  | [.agg [b0, b1, b2, b3]], [], [] => bO (asB b0) fun a0_0 => bO (asB b1) fun a0_1 => bO (asB b2) fun a0_2 => bO (asB b3) fun a0_3 => callX (fun n => impl_boxesOf.f n a0_0 a0_1 a0_2 a0_3) fun t => κ (.own 0 0) ⟨[], [some ⟨3, t, 0⟩]⟩
  | _, _, _ => none
def E_77 : Env tau := mkE [(0, [(0, .agg [.any, .any, .any, .any])]), (1, [(1, .one .any)]), (2, [(1, .one .any), (3, .one (.own 3))]), (3, [(3, .one (.own 3)), (6, .agg [.any, .any, .any, .any]), (7, .one .any)]), (4, [(3, .one (.own 3)), (6, .agg [.any, .any, .any, .any]), (7, .one .any)]), (5, [(3, .one (.own 3)), (4, .one .any), (5, .one .any), (6, .agg [.any, .any, .any, .any]), (7, .one .any)]), (6, [(3, .one (.own 3)), (4, .one .any), (6, .agg [.any, .any, .any, .any]), (7, .one .any)]), (7, [(3, .one (.own 3)), (6, .agg [.any, .any, .any, .any]), (7, .one .any)]), (8, [(3, .one (.own 3))])] [.one (.own 3)] ⟨0, 0⟩
noncomputable def c_34 (args : List (AV tau)) (m : Mem tau) (κ : AV tau → Mem tau → Option Unit) : Option Unit := match args, m.bx, m.rw with
  | [b0], [], [] => bO (asSl 60 b0) fun l0 => callX (fun n => impl_ProgPuts.f n l0) fun t => κ (.own 0 0) ⟨[], [some ⟨3, t, 0⟩]⟩
  | _, _, _ => none
def E_34 : Env tau := mkE [(0, [(0, .one (.own 60))]), (1, [(0, .one (.own 60))]), (2, [(0, .one (.own 60)), (3, .one .any)]), (3, [(3, .one .any), (6, .one (.own 60)), (7, .one .any), (8, .one .any)]), (4, [(3, .one .any), (6, .one (.own 60)), (7, .one .any), (8, .one .any)]), (5, [(3, .one .any), (5, .one .any), (6, .one (.own 60)), (7, .one .any), (8, .one .any)]), (6, [(3, .one .any), (5, .one .any), (6, .one (.own 60)), (7, .one .any), (8, .one .any)]), (7, [(3, .one .any), (6, .one (.own 60)), (7, .one .any), (8, .one .any)]), (8, [(3, .one .any)])] [.one (.own 3)] ⟨0, 0⟩
noncomputable def c_57 (args : List (AV tau)) (m : Mem tau) (κ : AV tau → Mem tau → Option Unit) : Option Unit := match args, m.bx, m.rw with
  | [b0], [], [] => bO (asSl 5 b0) fun l0 => callX (fun n => spec_l15Open.f l0) fun t => κ (.ptr 0 0) ⟨[some (98, [.sl 5 (t.1), .int .i64 (t.2)])], []⟩
  | _, _, _ => none
def E_57 : Env tau := mkE [(0, [(0, .one (.own 5))]), (1, [(0, .one (.own 5))]), (2, [(0, .one (.own 5))]), (3, [(0, .one (.own 5))])] [.one .any] ⟨0, 0⟩
noncomputable def c_67 (args : List (AV tau)) (m : Mem tau) (κ : AV tau → Mem tau → Option Unit) : Option Unit := match args, m.bx, m.rw with
  | [p0, b0], [some (t0_, [c0_0, c0_1])], [] => bO (asPtr 0 p0) fun _ => bO (asT 98 t0_) fun _ => bO (asSl 5 c0_0) fun s0_0 => bO (asI .i64 c0_1) fun s0_1 => bO (asI .i64 b0) fun a1 => callX (fun n => spec_l15Rd_pick.f n s0_0 s0_1 a1) fun t => κ (.int .i64 (t.1)) ⟨[some (98, [.sl 5 (s0_0), .int .i64 (t.2)])], []⟩
  | _, _, _ => none
def E_67 : Env tau := mkE [(0, [(0, .one .any), (1, .one .any)]), (1, [(0, .one .any), (1, .one .any)]), (2, [(0, .one .any), (1, .one .any)]), (3, []), (4, [(0, .one .any), (1, .one .any)]), (5, [(0, .one .any), (1, .one .any), (5, .one .any)]), (6, [(0, .one .any), (1, .one .any), (5, .one .any)]), (7, [(0, .one .any), (1, .one .any), (5, .one .any)]), (8, [(1, .one .any), (6, .one .any)]), (9, [(1, .one .any), (6, .one .any)])] [.one .any] ⟨1, 0⟩
noncomputable def c_85 (args : List (AV tau)) (m : Mem tau) (κ : AV tau → Mem tau → Option Unit) : Option Unit := match args, m.bx, m.rw with
  | [p0, b0], [some (t0_, [c0_0, c0_1])], [r0] => bO (asPtr 0 p0) fun _ => bO (asT 98 t0_) fun _ => bO (asSl 5 c0_0) fun s0_0 => bO (asI .i64 c0_1) fun s0_1 => bO (asOwn 0 b0) fun _ => bO (asRow 3 r0) fun l1 => callX (fun n => spec_l15Rd_num.f n s0_0 s0_1 l1) fun t => κ (.int .i64 (t.1)) ⟨[some (98, [.sl 5 (s0_0), .int .i64 (t.2)])], [some ⟨3, l1, 0⟩]⟩
  | _, _, _ => none
def E_85 : Env tau := mkE [(0, [(0, .one .any), (1, .one (.own 3))]), (1, [(0, .one .any), (1, .one (.own 3))])] [.one .any] ⟨1, 1⟩
noncomputable def c_106 (args : List (AV tau)) (m : Mem tau) (κ : AV tau → Mem tau → Option Unit) : Option Unit := match args, m.bx, m.rw with
  | [p0], [some (t0_, [c0_0, c0_1])], [] => bO (asPtr 0 p0) fun _ => bO (asT 98 t0_) fun _ => bO (asSl 5 c0_0) fun s0_0 => bO (asI .i64 c0_1) fun s0_1 => callX (fun n => spec_l2Any.f n s0_0 s0_1) fun t => κ (.agg [.int .i64 (t.1), .int .i64 (t.2.1), .int .i64 (t.2.2.1), .int .i64 (t.2.2.2.1)]) ⟨[some (98, [.sl 5 (s0_0), .int .i64 (t.2.2.2.2)])], []⟩
  | _, _, _ => none
def E_106 : Env tau := mkE [(0, [(0, .one .any)]), (1, [(0, .one .any), (2, .one .any)]), (2, [(0, .one .any), (2, .one .any), (3, .one .any)]), (3, [(0, .one .any), (2, .one .any), (3, .one .any), (13, .one .any)]), (4, [(0, .one .any), (2, .one .any), (3, .one .any)]), (5, [(0, .one .any), (2, .one .any), (3, .one .any)]), (6, [(0, .one .any), (2, .one .any), (3, .one .any), (13, .one .any)]), (7, [(0, .one .any), (2, .one .any), (3, .one .any)]), (8, [(0, .one .any), (2, .one .any), (3, .one .any), (13, .one .any)]), (9, [(0, .one .any), (2, .one .any), (3, .one .any)]), (10, [(0, .one .any), (2, .one .any)]), (11, [(2, .one .any), (3, .one .any)]), (12, [(2, .one .any), (3, .one .any)]), (13, [(2, .one .any), (3, .one .any)])] [.agg [.any, .any, .any, .any]] ⟨1, 0⟩
noncomputable def c_92 (args : List (AV tau)) (m : Mem tau) (κ : AV tau → Mem tau → Option Unit) : Option Unit := match args, m.bx, m.rw with
  | [p0], [some (t0_, [c0_0, c0_1])], [] => bO (asPtr 0 p0) fun _ => bO (asT 98 t0_) fun _ => bO (asSl 5 c0_0) fun s0_0 => bO (asI .i64 c0_1) fun s0_1 => callX (fun n => spec_l2Prog.f n s0_0 s0_1) fun t => κ (.own 0 0) ⟨[some (98, [.sl 5 (s0_0), .int .i64 (t.2)])], [some ⟨60, t.1, 0⟩]⟩
  | _, _, _ => none
def E_92 : Env tau := mkE [(0, [(0, .one .any)]), (1, [(0, .one .any)]), (2, [(0, .one .any)]), (3, [(0, .one .any), (3, .one .any)]), (4, [(0, .one .any), (3, .one .any), (4, .one .any)]), (5, [(0, .one .any)]), (6, [(0, .one .any), (5, .one (.own 60))]), (7, [(0, .one .any), (5, .one (.own 60)), (6, .one .any)]), (8, [(0, .one .any), (5, .one (.own 60)), (6, .one .any)]), (9, [(0, .one .any), (5, .one (.own 60)), (6, .one .any)]), (10, [(5, .one (.own 60))])] [.one (.own 60)] ⟨1, 0⟩
noncomputable def c_71 (args : List (AV tau)) (m : Mem tau) (κ : AV tau → Mem tau → Option Unit) : Option Unit := match args, m.bx, m.rw with
  | [p0], [some (t0_, [c0_0, c0_1])], [] => bO (asPtr 0 p0) fun _ => bO (asT 98 t0_) fun _ => bO (asSl 5 c0_0) fun s0_0 => bO (asI .i64 c0_1) fun s0_1 => callX (fun n => spec_l2Bent.f n s0_0 s0_1) fun t => κ (.own 0 0) ⟨[some (98, [.sl 5 (s0_0), .int .i64 (t.2)])], [some ⟨60, t.1, 0⟩]⟩
  | _, _, _ => none
def E_71 : Env tau := mkE [(0, [(0, .one .any)]), (1, [(0, .one .any)]), (2, [(0, .one .any), (3, .one (.own 60))]), (3, [(3, .one (.own 60))]), (4, [(0, .one .any), (3, .one (.own 60))]), (5, [(0, .one .any), (3, .one (.own 60)), (4, .one .any)]), (6, [(0, .one .any), (3, .one (.own 60)), (4, .one .any), (16, .one .any)]), (7, [(0, .one .any), (3, .one (.own 60)), (4, .one .any)]), (8, [(0, .one .any), (3, .one (.own 60)), (4, .one .any), (16, .one .any)]), (9, [(0, .one .any), (3, .one (.own 60)), (4, .one .any)]), (10, [(0, .one .any), (3, .one (.own 60)), (4, .one .any), (16, .one .any)]), (11, [(0, .one .any), (3, .one (.own 60)), (4, .one .any)]), (12, [(3, .one (.own 60)), (4, .one .any), (16, .one .any)]), (13, [(3, .one (.own 60)), (4, .one .any)]), (14, [(3, .one (.own 60)), (4, .one .any)]), (15, [(3, .one (.own 60))])] [.one (.own 60)] ⟨1, 0⟩
noncomputable def c_46 (args : List (AV tau)) (m : Mem tau) (κ : AV tau → Mem tau → Option Unit) : Option Unit := match args, m.bx, m.rw with
  | [b0], [], [] => bO (asSl 5 b0) fun l0 => callX (fun n => spec_DrawProgLoads.f n l0) fun t => κ (.own 0 0) ⟨[], [some ⟨60, t, 0⟩]⟩
  | _, _, _ => none
def E_46 : Env tau := mkE [(0, [(0, .one (.own 5))]), (1, [(0, .one (.own 5))])] [.one (.own 60)] ⟨0, 0⟩
noncomputable def c_47 (args : List (AV tau)) (m : Mem tau) (κ : AV tau → Mem tau → Option Unit) : Option Unit := match args, m.bx, m.rw with
  | [b0, b1], [], [] => bO (asSl 60 b0) fun l0 => bO (asSl 60 b1) fun l1 => callX (fun n => spec_ProgSame.f n l0 l1) fun t => κ (.bool (t)) ⟨[], []⟩
  | _, _, _ => none
def E_47 : Env tau := mkE [(0, [(0, .one (.own 60)), (1, .one (.own 60))]), (1, [(0, .one (.own 60)), (1, .one (.own 60))]), (2, []), (3, [(0, .one (.own 60)), (1, .one (.own 60))]), (4, [(0, .one (.own 60)), (1, .one (.own 60)), (5, .one .any)]), (5, [(0, .one (.own 60)), (1, .one (.own 60)), (5, .one .any)]), (6, [(0, .one (.own 60)), (1, .one (.own 60)), (5, .one .any)]), (7, []), (8, [])] [.one .any] ⟨0, 0⟩
noncomputable def c_45 (args : List (AV tau)) (m : Mem tau) (κ : AV tau → Mem tau → Option Unit) : Option Unit := match args, m.bx, m.rw with
  | [b0], [], [] => bO (asSl 5 b0) fun l0 => callX (fun n => spec_DrawProgSame.f n l0) fun t => κ (.tup [.own 0 0, .own 1 0]) ⟨[], [some ⟨60, t.1, 0⟩, some ⟨60, t.2, 0⟩]⟩
  | _, _, _ => none
def E_45 : Env tau := mkE [(0, [(0, .one (.own 5))]), (1, [(0, .one (.own 5))]), (2, [(0, .one (.own 5)), (4, .one (.own 60))]), (3, [(0, .one (.own 5)), (4, .one (.own 60)), (5, .one (.own 60))]), (4, [(4, .one (.own 60)), (5, .one (.own 60))]), (5, [(4, .one (.own 60)), (5, .one (.own 60))])] [.one (.own 60), .one (.own 60)] ⟨0, 0⟩
noncomputable def c_72 (args : List (AV tau)) (m : Mem tau) (κ : AV tau → Mem tau → Option Unit) : Option Unit := match args, m.bx, m.rw with
  | [.agg [b0, b1, b2, b3]], [], [] => bO (asI .i64 b0) fun a0_0 => bO (asI .i64 b1) fun a0_1 => bO (asI .i64 b2) fun a0_2 => bO (asI .i64 b3) fun a0_3 => callX (fun n => impl_insText.f n a0_0 a0_1 a0_2 a0_3) fun t => κ (.str (t)) ⟨[], []⟩
  | _, _, _ => none
def E_72 : Env tau := mkE [(0, [(0, .agg [.any, .any, .any, .any])]), (1, [(1, .one .any)]), (2, [(1, .one .any), (3, .one .any), (4, .one .any), (5, .one .any)]), (3, [(3, .one .any), (4, .one .any), (5, .one .any), (19, .one .any)]), (4, [(3, .one .any), (4, .one .any)]), (5, [(3, .one .any), (4, .one .any), (5, .one .any), (19, .one .any)]), (6, [(3, .one .any), (4, .one .any)]), (7, [(3, .one .any), (4, .one .any), (5, .one .any), (19, .one .any)]), (8, [(3, .one .any), (5, .one .any)]), (9, [(3, .one .any), (4, .one .any), (5, .one .any), (19, .one .any)]), (10, [(3, .one .any), (4, .one .any)]), (11, [(3, .one .any), (4, .one .any), (5, .one .any), (19, .one .any)]), (12, [(3, .one .any), (4, .one .any)]), (13, [(3, .one .any), (4, .one .any), (5, .one .any), (19, .one .any)]), (14, [(3, .one .any), (4, .one .any), (5, .one .any)]), (15, [(19, .one .any)]), (16, []), (17, [])] [.one .any] ⟨0, 0⟩
noncomputable def c_27 (args : List (AV tau)) (m : Mem tau) (κ : AV tau → Mem tau → Option Unit) : Option Unit := match args, m.bx, m.rw with
  | [b0], [], [] => bO (asSl 60 b0) fun l0 => callX (fun n => impl_ProgText.f n l0) fun t => κ (.str (t)) ⟨[], []⟩
  | _, _, _ => none
def E_27 : Env tau := mkE [(0, [(0, .one (.own 60))]), (1, [(0, .one (.own 60))]), (2, [(0, .one (.own 60)), (3, .one (.own 9))]), (3, [(3, .one (.own 9)), (6, .one (.own 60)), (7, .one .any), (8, .one .any)]), (4, [(3, .one (.own 9)), (6, .one (.own 60)), (7, .one .any), (8, .one .any)]), (5, [(3, .one (.own 9)), (5, .one .any), (6, .one (.own 60)), (7, .one .any), (8, .one .any)]), (6, [(3, .one (.own 9)), (6, .one (.own 60)), (7, .one .any), (8, .one .any)]), (7, [(3, .one (.own 9))])] [.one .any] ⟨0, 0⟩
noncomputable def c_9 (args : List (AV tau)) (m : Mem tau) (κ : AV tau → Mem tau → Option Unit) : Option Unit := match args, m.bx, m.rw with
  | [b0, b1], [], [] => bO (asSl 5 b0) fun l0 => bO (asSl 5 b1) fun l1 => callX (fun n => laws_FnProgSame.f n l0 l1) fun t => κ (.bool (t)) ⟨[], []⟩
  | _, _, _ => none
def E_9 : Env tau := mkE [(0, [(0, .one (.own 5)), (1, .one (.own 5))]), (1, [(0, .one (.own 5)), (1, .one (.own 5))]), (2, []), (3, [(0, .one (.own 5)), (1, .one (.own 5))]), (4, [(1, .one (.own 5)), (5, .one (.own 60)), (6, .one (.own 60))]), (5, [(5, .one (.own 60)), (6, .one (.own 60)), (7, .one (.own 60))]), (6, []), (7, [(5, .one (.own 60)), (6, .one (.own 60)), (7, .one (.own 60))]), (8, [(5, .one (.own 60)), (6, .one (.own 60)), (7, .one (.own 60)), (8, .one (.own 60))]), (9, [(5, .one (.own 60)), (6, .one (.own 60)), (7, .one (.own 60)), (8, .one (.own 60)), (9, .one (.own 3))]), (10, [(5, .one (.own 60)), (6, .one (.own 60)), (7, .one (.own 60)), (8, .one (.own 60)), (9, .one (.own 3)), (10, .one .any)]), (11, [(5, .one (.own 60)), (6, .one (.own 60)), (7, .one (.own 60)), (8, .one (.own 60)), (9, .one (.own 3)), (10, .one .any)]), (12, [(5, .one (.own 60)), (6, .one (.own 60)), (7, .one (.own 60)), (8, .one (.own 60)), (9, .one (.own 3)), (10, .one .any)]), (13, [(5, .one (.own 60)), (6, .one (.own 60)), (7, .one (.own 60)), (8, .one (.own 60)), (9, .one (.own 3)), (10, .one .any), (11, .one .any)]), (14, [(5, .one (.own 60)), (6, .one (.own 60)), (7, .one (.own 60)), (8, .one (.own 60)), (9, .one (.own 3)), (10, .one .any), (11, .one .any), (12, .one .any)]), (15, [(5, .one (.own 60)), (6, .one (.own 60)), (7, .one (.own 60)), (8, .one (.own 60)), (9, .one (.own 3)), (10, .one .any), (11, .one .any), (12, .one .any)]), (16, [(5, .one (.own 60)), (6, .one (.own 60)), (7, .one (.own 60)), (8, .one (.own 60)), (9, .one (.own 3)), (10, .one .any), (11, .one .any), (12, .one .any)]), (17, [(5, .one (.own 60)), (6, .one (.own 60)), (7, .one (.own 60)), (8, .one (.own 60)), (9, .one (.own 3)), (10, .one .any), (11, .one .any)]), (18, [(5, .one (.own 60)), (6, .one (.own 60)), (7, .one (.own 60)), (8, .one (.own 60)), (9, .one (.own 3)), (10, .one .any), (11, .one .any), (13, .one .any)]), (19, [(5, .one (.own 60)), (6, .one (.own 60)), (7, .one (.own 60)), (8, .one (.own 60)), (9, .one (.own 3)), (10, .one .any), (11, .one .any), (13, .one .any), (14, .one (.own 3))]), (20, [(5, .one (.own 60)), (6, .one (.own 60)), (7, .one (.own 60)), (8, .one (.own 60)), (9, .one (.own 3)), (10, .one .any), (11, .one .any), (13, .one .any), (14, .one (.own 3)), (15, .one (.own 3))]), (21, [(5, .one (.own 60)), (6, .one (.own 60)), (7, .one (.own 60)), (8, .one (.own 60)), (9, .one (.own 3)), (10, .one .any), (11, .one .any), (13, .one .any), (14, .one (.own 3)), (15, .one (.own 3)), (16, .one .any)]), (22, [(5, .one (.own 60)), (6, .one (.own 60)), (7, .one (.own 60)), (8, .one (.own 60)), (9, .one (.own 3)), (10, .one .any), (11, .one .any), (13, .one .any), (14, .one (.own 3)), (15, .one (.own 3)), (16, .one .any)]), (23, [(5, .one (.own 60)), (6, .one (.own 60)), (7, .one (.own 60)), (8, .one (.own 60)), (9, .one (.own 3)), (10, .one .any), (11, .one .any), (13, .one .any), (14, .one (.own 3)), (15, .one (.own 3)), (16, .one .any)]), (24, [(5, .one (.own 60)), (6, .one (.own 60)), (7, .one (.own 60)), (8, .one (.own 60)), (9, .one (.own 3)), (10, .one .any), (11, .one .any), (13, .one .any), (15, .one (.own 3))]), (25, [(5, .one (.own 60)), (6, .one (.own 60)), (7, .one (.own 60)), (8, .one (.own 60)), (9, .one (.own 3)), (10, .one .any), (11, .one .any), (13, .one .any), (15, .one (.own 3)), (17, .one .any)]), (26, [(5, .one (.own 60)), (6, .one (.own 60)), (7, .one (.own 60)), (8, .one (.own 60)), (9, .one (.own 3)), (10, .one .any), (11, .one .any), (13, .one .any), (15, .one (.own 3)), (17, .one .any)]), (27, [(5, .one (.own 60)), (6, .one (.own 60)), (7, .one (.own 60)), (8, .one (.own 60)), (9, .one (.own 3)), (10, .one .any), (11, .one .any), (13, .one .any), (15, .one (.own 3)), (17, .one .any)]), (28, [(5, .one (.own 60)), (6, .one (.own 60)), (7, .one (.own 60)), (8, .one (.own 60)), (9, .one (.own 3)), (10, .one .any), (11, .one .any), (13, .one .any)]), (29, []), (30, [(5, .one (.own 60)), (6, .one (.own 60)), (7, .one (.own 60)), (8, .one (.own 60))]), (31, [(5, .one (.own 60))]), (32, [(5, .one (.own 60)), (6, .one (.own 60)), (7, .one (.own 60)), (8, .one (.own 60))])] [.one .any] ⟨0, 0⟩
end Go.Proofs.YtlpgpckggnimhaaDoor.PFnProgSame