/- The machine's texts of FnExactProgText (definitions, table, contracts). Conditions: none. -/
import Derived.Test.YtlpgpckggnimhaaDoorProg
import Derived.Test.YtlpgpckggnimhaaDoorSWFnExactProgText
import Derived.Test.YtlpgpckggnimhaaDoorAm38
import Derived.RowKit
import Derived.KernelRfl
import Derived.Test.YtlpgpckggnimhaaDoorAm41
import Derived.Test.YtlpgpckggnimhaaDoorRows
import Derived.Test.YtlpgpckggnimhaaDoorLay
import Derived.Test.YtlpgpckggnimhaaDoorPFnExactProgTextx0
set_option linter.unusedVariables false
set_option maxRecDepth 100000
namespace Go.Proofs.YtlpgpckggnimhaaDoor.PFnExactProgText
open Go.RowKit Go.Proofs.YtlpgpckggnimhaaDoorW.PrintWords Go.Proofs.YtlpgpckggnimhaaDoorW.PrintLast Go.Proofs.YtlpgpckggnimhaaDoorW.PrintMore
def errW : Option Int → Value
  | none => .nilIface
  | some c => .iface 0 (.int .i64 c)
structure S60 where
  f0 : Int
  f1 : Int
  f2 : Int
  f3 : Int
def z60 : S60 := ⟨(0 : Int), (0 : Int), (0 : Int), (0 : Int)⟩
def rd_T60 (xs : List S60) (i : Int) : S60 := xs.getD i.toNat z60
structure S93 where
  f0 : Int
  f1 : Int
  f2 : Int
  f3 : Int
def z93 : S93 := ⟨(0 : Int), (0 : Int), (0 : Int), (0 : Int)⟩
def rd_T93 (xs : List S93) (i : Int) : S93 := xs.getD i.toNat z93
def laws_eqIns.f (a0_0 : Int) (a0_1 : Int) (a0_2 : Int) (a0_3 : Int) (a1_0 : Int) (a1_1 : Int) (a1_2 : Int) (a1_3 : Int) : Option (Bool) := if a0_0 = a1_0 then (if a0_1 = a1_1 then (if a0_2 = a1_2 then (if a0_3 = a1_3 then (some true) else (some false)) else (some false)) else (some false)) else (some false)
def laws_eqInsS.l0 : Nat → List (S60) → List (S60) → Int → Option (Bool)
  | 0, _, _, _ => none
  | k + 1, x0, x1, x5 => if x5 < (x0.length : Int) then (if 0 ≤ x5 then (if x5 < (x1.length : Int) then ((laws_eqIns.f ((rd_T60 x0 x5).f0) ((rd_T60 x0 x5).f1) ((rd_T60 x0 x5).f2) ((rd_T60 x0 x5).f3) ((rd_T60 x1 x5).f0) ((rd_T60 x1 x5).f1) ((rd_T60 x1 x5).f2) ((rd_T60 x1 x5).f3)).bind fun t105 => (if t105 = true then (laws_eqInsS.l0 k x0 x1 (wrap64 (x5 + 1))) else (some false))) else (none)) else (none)) else (some true)
def laws_eqInsS.f (k : Nat) (l0 : List (S60)) (l1 : List (S60)) : Option (Bool) := if (l0.length : Int) = (l1.length : Int) then (laws_eqInsS.l0 k l0 l1 0) else (some false)
def laws_szInsS.f (l0 : List (S93)) (a1 : Int) : Option (Int) := if (wrap64 (a1 - (l0.length : Int))) < 0 then (some (-1)) else (some (wrap64 (a1 - (l0.length : Int))))
def laws_toIns.f (a0_0 : Int) (a0_1 : Int) (a0_2 : Int) (a0_3 : Int) : Option (Int × Int × Int × Int) := some (a0_0, a0_1, a0_2, a0_3)
def laws_toInsS.l0 : Nat → List (S93) → List (S60) → Int → Option ((List (S60)))
  | 0, _, _, _ => none
  | k + 1, x0, x3, x4 => if x4 < (x0.length : Int) then (if 0 ≤ x4 then ((laws_toIns.f ((rd_T93 x0 x4).f0) ((rd_T93 x0 x4).f1) ((rd_T93 x0 x4).f2) ((rd_T93 x0 x4).f3)).bind fun bt162 => (if x4 < (x3.length : Int) then (laws_toInsS.l0 k x0 (x3.set (x4 : Int).toNat (⟨bt162.1, bt162.2.1, bt162.2.2.1, bt162.2.2.2⟩ : S60)) (wrap64 (x4 + 1))) else (none))) else (none)) else (some x3)
def laws_toInsS.f (k : Nat) (l0 : List (S93)) : Option ((List (S60))) := if 0 ≤ (l0.length : Int) then (if ((l0.length : Int) : Int).toNat ≤ 8796093022208 then (laws_toInsS.l0 k l0 (List.replicate ((l0.length : Int) : Int).toNat z60) 0) else (none)) else (none)
open Am
def spec_l2Words.f (k : Nat) : Option ((List ByteArray)) := some (([(bs []), (bs [108, 111, 97, 100]), (bs [112, 117, 116]), (bs [110, 117, 109]), (bs [97, 100, 100]), (bs [115, 117, 98]), (bs [108, 101, 115, 115]), (bs [102, 97, 105, 108])] : List ByteArray))
def spec_l2Text.f (k : Nat) (a0_0 : Int) (a0_1 : Int) (a0_2 : Int) (a0_3 : Int) : Option (ByteArray) := if (a0_0 = (1 : Int)) then (if (a0_0 = (1 : Int)) then ((spec_l2Words.f k).bind fun t0 => (if ((0 : Int) ≤ a0_0) then (if (a0_0 < ((t0.length : Nat) : Int)) then (if ((((rdOf (default : ByteArray) t0 a0_0)).size + 1) ≤ 9223372036854775807) then ((spec_l15Dec.f k a0_1).bind fun t1 => (if (((((rdOf (default : ByteArray) t0 a0_0) ++ (bs [32]))).size + t1.size) ≤ 9223372036854775807) then (if ((((((rdOf (default : ByteArray) t0 a0_0) ++ (bs [32])) ++ t1)).size + 1) ≤ 9223372036854775807) then ((spec_l15Dec.f k a0_2).bind fun t2 => (if (((((((rdOf (default : ByteArray) t0 a0_0) ++ (bs [32])) ++ t1) ++ (bs [32]))).size + t2.size) ≤ 9223372036854775807) then (some ((((((rdOf (default : ByteArray) t0 a0_0) ++ (bs [32])) ++ t1) ++ (bs [32])) ++ t2))) else (none))) else (none)) else (none))) else (none)) else (none)) else (none))) else (if (a0_0 = (3 : Int)) then ((spec_l15Dec.f k a0_1).bind fun t3 => (if ((4 + t3.size) ≤ 9223372036854775807) then (if (((((bs [110, 117, 109, 32]) ++ t3)).size + 1) ≤ 9223372036854775807) then ((spec_l15Dec.f k a0_3).bind fun t4 => (if ((((((bs [110, 117, 109, 32]) ++ t3) ++ (bs [32]))).size + t4.size) ≤ 9223372036854775807) then (some (((((bs [110, 117, 109, 32]) ++ t3) ++ (bs [32])) ++ t4))) else (none))) else (none)) else (none))) else (if (a0_0 = (6 : Int)) then ((spec_l15Dec.f k a0_1).bind fun t5 => (if ((5 + t5.size) ≤ 9223372036854775807) then (if (((((bs [108, 101, 115, 115, 32]) ++ t5)).size + 1) ≤ 9223372036854775807) then ((spec_l15Dec.f k a0_2).bind fun t6 => (if ((((((bs [108, 101, 115, 115, 32]) ++ t5) ++ (bs [32]))).size + t6.size) ≤ 9223372036854775807) then (if (((((((bs [108, 101, 115, 115, 32]) ++ t5) ++ (bs [32])) ++ t6)).size + 1) ≤ 9223372036854775807) then ((spec_l15Dec.f k a0_3).bind fun t7 => (if ((((((((bs [108, 101, 115, 115, 32]) ++ t5) ++ (bs [32])) ++ t6) ++ (bs [32]))).size + t7.size) ≤ 9223372036854775807) then (some (((((((bs [108, 101, 115, 115, 32]) ++ t5) ++ (bs [32])) ++ t6) ++ (bs [32])) ++ t7))) else (none))) else (none)) else (none))) else (none)) else (none))) else (if (a0_0 = (7 : Int)) then (some ((bs [102, 97, 105, 108]))) else (some ((bs [110, 111, 110, 101]))))))) else (if (a0_0 = (2 : Int)) then (if (a0_0 = (2 : Int)) then ((spec_l2Words.f k).bind fun t8 => (if ((0 : Int) ≤ a0_0) then (if (a0_0 < ((t8.length : Nat) : Int)) then (if ((((rdOf (default : ByteArray) t8 a0_0)).size + 1) ≤ 9223372036854775807) then ((spec_l15Dec.f k a0_1).bind fun t9 => (if (((((rdOf (default : ByteArray) t8 a0_0) ++ (bs [32]))).size + t9.size) ≤ 9223372036854775807) then (if ((((((rdOf (default : ByteArray) t8 a0_0) ++ (bs [32])) ++ t9)).size + 1) ≤ 9223372036854775807) then ((spec_l15Dec.f k a0_2).bind fun t10 => (if (((((((rdOf (default : ByteArray) t8 a0_0) ++ (bs [32])) ++ t9) ++ (bs [32]))).size + t10.size) ≤ 9223372036854775807) then (some ((((((rdOf (default : ByteArray) t8 a0_0) ++ (bs [32])) ++ t9) ++ (bs [32])) ++ t10))) else (none))) else (none)) else (none))) else (none)) else (none)) else (none))) else (if (a0_0 = (3 : Int)) then ((spec_l15Dec.f k a0_1).bind fun t11 => (if ((4 + t11.size) ≤ 9223372036854775807) then (if (((((bs [110, 117, 109, 32]) ++ t11)).size + 1) ≤ 9223372036854775807) then ((spec_l15Dec.f k a0_3).bind fun t12 => (if ((((((bs [110, 117, 109, 32]) ++ t11) ++ (bs [32]))).size + t12.size) ≤ 9223372036854775807) then (some (((((bs [110, 117, 109, 32]) ++ t11) ++ (bs [32])) ++ t12))) else (none))) else (none)) else (none))) else (if (a0_0 = (6 : Int)) then ((spec_l15Dec.f k a0_1).bind fun t13 => (if ((5 + t13.size) ≤ 9223372036854775807) then (if (((((bs [108, 101, 115, 115, 32]) ++ t13)).size + 1) ≤ 9223372036854775807) then ((spec_l15Dec.f k a0_2).bind fun t14 => (if ((((((bs [108, 101, 115, 115, 32]) ++ t13) ++ (bs [32]))).size + t14.size) ≤ 9223372036854775807) then (if (((((((bs [108, 101, 115, 115, 32]) ++ t13) ++ (bs [32])) ++ t14)).size + 1) ≤ 9223372036854775807) then ((spec_l15Dec.f k a0_3).bind fun t15 => (if ((((((((bs [108, 101, 115, 115, 32]) ++ t13) ++ (bs [32])) ++ t14) ++ (bs [32]))).size + t15.size) ≤ 9223372036854775807) then (some (((((((bs [108, 101, 115, 115, 32]) ++ t13) ++ (bs [32])) ++ t14) ++ (bs [32])) ++ t15))) else (none))) else (none)) else (none))) else (none)) else (none))) else (if (a0_0 = (7 : Int)) then (some ((bs [102, 97, 105, 108]))) else (some ((bs [110, 111, 110, 101]))))))) else (if (a0_0 = (4 : Int)) then (if (a0_0 = (4 : Int)) then ((spec_l2Words.f k).bind fun t16 => (if ((0 : Int) ≤ a0_0) then (if (a0_0 < ((t16.length : Nat) : Int)) then (if ((((rdOf (default : ByteArray) t16 a0_0)).size + 1) ≤ 9223372036854775807) then ((spec_l15Dec.f k a0_1).bind fun t17 => (if (((((rdOf (default : ByteArray) t16 a0_0) ++ (bs [32]))).size + t17.size) ≤ 9223372036854775807) then (if ((((((rdOf (default : ByteArray) t16 a0_0) ++ (bs [32])) ++ t17)).size + 1) ≤ 9223372036854775807) then ((spec_l15Dec.f k a0_2).bind fun t18 => (if (((((((rdOf (default : ByteArray) t16 a0_0) ++ (bs [32])) ++ t17) ++ (bs [32]))).size + t18.size) ≤ 9223372036854775807) then (some ((((((rdOf (default : ByteArray) t16 a0_0) ++ (bs [32])) ++ t17) ++ (bs [32])) ++ t18))) else (none))) else (none)) else (none))) else (none)) else (none)) else (none))) else (if (a0_0 = (3 : Int)) then ((spec_l15Dec.f k a0_1).bind fun t19 => (if ((4 + t19.size) ≤ 9223372036854775807) then (if (((((bs [110, 117, 109, 32]) ++ t19)).size + 1) ≤ 9223372036854775807) then ((spec_l15Dec.f k a0_3).bind fun t20 => (if ((((((bs [110, 117, 109, 32]) ++ t19) ++ (bs [32]))).size + t20.size) ≤ 9223372036854775807) then (some (((((bs [110, 117, 109, 32]) ++ t19) ++ (bs [32])) ++ t20))) else (none))) else (none)) else (none))) else (if (a0_0 = (6 : Int)) then ((spec_l15Dec.f k a0_1).bind fun t21 => (if ((5 + t21.size) ≤ 9223372036854775807) then (if (((((bs [108, 101, 115, 115, 32]) ++ t21)).size + 1) ≤ 9223372036854775807) then ((spec_l15Dec.f k a0_2).bind fun t22 => (if ((((((bs [108, 101, 115, 115, 32]) ++ t21) ++ (bs [32]))).size + t22.size) ≤ 9223372036854775807) then (if (((((((bs [108, 101, 115, 115, 32]) ++ t21) ++ (bs [32])) ++ t22)).size + 1) ≤ 9223372036854775807) then ((spec_l15Dec.f k a0_3).bind fun t23 => (if ((((((((bs [108, 101, 115, 115, 32]) ++ t21) ++ (bs [32])) ++ t22) ++ (bs [32]))).size + t23.size) ≤ 9223372036854775807) then (some (((((((bs [108, 101, 115, 115, 32]) ++ t21) ++ (bs [32])) ++ t22) ++ (bs [32])) ++ t23))) else (none))) else (none)) else (none))) else (none)) else (none))) else (if (a0_0 = (7 : Int)) then (some ((bs [102, 97, 105, 108]))) else (some ((bs [110, 111, 110, 101]))))))) else (if (a0_0 = (5 : Int)) then ((spec_l2Words.f k).bind fun t24 => (if ((0 : Int) ≤ a0_0) then (if (a0_0 < ((t24.length : Nat) : Int)) then (if ((((rdOf (default : ByteArray) t24 a0_0)).size + 1) ≤ 9223372036854775807) then ((spec_l15Dec.f k a0_1).bind fun t25 => (if (((((rdOf (default : ByteArray) t24 a0_0) ++ (bs [32]))).size + t25.size) ≤ 9223372036854775807) then (if ((((((rdOf (default : ByteArray) t24 a0_0) ++ (bs [32])) ++ t25)).size + 1) ≤ 9223372036854775807) then ((spec_l15Dec.f k a0_2).bind fun t26 => (if (((((((rdOf (default : ByteArray) t24 a0_0) ++ (bs [32])) ++ t25) ++ (bs [32]))).size + t26.size) ≤ 9223372036854775807) then (some ((((((rdOf (default : ByteArray) t24 a0_0) ++ (bs [32])) ++ t25) ++ (bs [32])) ++ t26))) else (none))) else (none)) else (none))) else (none)) else (none)) else (none))) else (if (a0_0 = (3 : Int)) then ((spec_l15Dec.f k a0_1).bind fun t27 => (if ((4 + t27.size) ≤ 9223372036854775807) then (if (((((bs [110, 117, 109, 32]) ++ t27)).size + 1) ≤ 9223372036854775807) then ((spec_l15Dec.f k a0_3).bind fun t28 => (if ((((((bs [110, 117, 109, 32]) ++ t27) ++ (bs [32]))).size + t28.size) ≤ 9223372036854775807) then (some (((((bs [110, 117, 109, 32]) ++ t27) ++ (bs [32])) ++ t28))) else (none))) else (none)) else (none))) else (if (a0_0 = (6 : Int)) then ((spec_l15Dec.f k a0_1).bind fun t29 => (if ((5 + t29.size) ≤ 9223372036854775807) then (if (((((bs [108, 101, 115, 115, 32]) ++ t29)).size + 1) ≤ 9223372036854775807) then ((spec_l15Dec.f k a0_2).bind fun t30 => (if ((((((bs [108, 101, 115, 115, 32]) ++ t29) ++ (bs [32]))).size + t30.size) ≤ 9223372036854775807) then (if (((((((bs [108, 101, 115, 115, 32]) ++ t29) ++ (bs [32])) ++ t30)).size + 1) ≤ 9223372036854775807) then ((spec_l15Dec.f k a0_3).bind fun t31 => (if ((((((((bs [108, 101, 115, 115, 32]) ++ t29) ++ (bs [32])) ++ t30) ++ (bs [32]))).size + t31.size) ≤ 9223372036854775807) then (some (((((((bs [108, 101, 115, 115, 32]) ++ t29) ++ (bs [32])) ++ t30) ++ (bs [32])) ++ t31))) else (none))) else (none)) else (none))) else (none)) else (none))) else (if (a0_0 = (7 : Int)) then (some ((bs [102, 97, 105, 108]))) else (some ((bs [110, 111, 110, 101])))))))))
mutual
def spec_ProgText.l0 : Nat → (List S60) → ByteArray → Int → Option (ByteArray)
  | 0, _, _, _ => none
  | k + 1, x0, x1, x2 => if (x2 < ((x0.length : Nat) : Int)) then (if (x2 > (0 : Int)) then (if ((x1.size + 1) ≤ 9223372036854775807) then (if ((0 : Int) ≤ x2) then (if (x2 < ((x0.length : Nat) : Int)) then ((spec_l2Text.f k ((rd_T60 x0 x2)).f0 ((rd_T60 x0 x2)).f1 ((rd_T60 x0 x2)).f2 ((rd_T60 x0 x2)).f3).bind fun t0 => (if ((((x1 ++ (bs [44]))).size + t0.size) ≤ 9223372036854775807) then (spec_ProgText.l0 k x0 ((x1 ++ (bs [44])) ++ t0) (wrap64 (x2 + (1 : Int)))) else (none))) else (none)) else (none)) else (none)) else (if ((0 : Int) ≤ x2) then (if (x2 < ((x0.length : Nat) : Int)) then ((spec_l2Text.f k ((rd_T60 x0 x2)).f0 ((rd_T60 x0 x2)).f1 ((rd_T60 x0 x2)).f2 ((rd_T60 x0 x2)).f3).bind fun t1 => (if ((x1.size + t1.size) ≤ 9223372036854775807) then (spec_ProgText.l0 k x0 (x1 ++ t1) (wrap64 (x2 + (1 : Int)))) else (none))) else (none)) else (none))) else (some (x1))
end
def spec_ProgText.f (k : Nat) (l0 : List S60) : Option (ByteArray) := spec_ProgText.l0 k l0 (bs []) (0 : Int)
def impl_insText.f (k : Nat) (a0_0 : Int) (a0_1 : Int) (a0_2 : Int) (a0_3 : Int) : Option (ByteArray) := (strconv_Itoa.f k a0_1).bind fun t0 => (if ((1 + t0.size) ≤ 9223372036854775807) then ((strconv_Itoa.f k a0_2).bind fun t1 => (if ((1 + t1.size) ≤ 9223372036854775807) then ((strconv_Itoa.f k a0_3).bind fun t2 => (if ((1 + t2.size) ≤ 9223372036854775807) then (if (a0_0 = (1 : Int)) then (if ((4 + (((bs [32]) ++ t0)).size) ≤ 9223372036854775807) then (if (((((bs [108, 111, 97, 100]) ++ ((bs [32]) ++ t0))).size + (((bs [32]) ++ t1)).size) ≤ 9223372036854775807) then (some ((((bs [108, 111, 97, 100]) ++ ((bs [32]) ++ t0)) ++ ((bs [32]) ++ t1)))) else (none)) else (none)) else (if (a0_0 = (2 : Int)) then (if ((3 + (((bs [32]) ++ t0)).size) ≤ 9223372036854775807) then (if (((((bs [112, 117, 116]) ++ ((bs [32]) ++ t0))).size + (((bs [32]) ++ t1)).size) ≤ 9223372036854775807) then (some ((((bs [112, 117, 116]) ++ ((bs [32]) ++ t0)) ++ ((bs [32]) ++ t1)))) else (none)) else (none)) else (if (a0_0 = (3 : Int)) then (if ((3 + (((bs [32]) ++ t0)).size) ≤ 9223372036854775807) then (if (((((bs [110, 117, 109]) ++ ((bs [32]) ++ t0))).size + (((bs [32]) ++ t2)).size) ≤ 9223372036854775807) then (some ((((bs [110, 117, 109]) ++ ((bs [32]) ++ t0)) ++ ((bs [32]) ++ t2)))) else (none)) else (none)) else (if (a0_0 = (4 : Int)) then (if ((3 + (((bs [32]) ++ t0)).size) ≤ 9223372036854775807) then (if (((((bs [97, 100, 100]) ++ ((bs [32]) ++ t0))).size + (((bs [32]) ++ t1)).size) ≤ 9223372036854775807) then (some ((((bs [97, 100, 100]) ++ ((bs [32]) ++ t0)) ++ ((bs [32]) ++ t1)))) else (none)) else (none)) else (if (a0_0 = (5 : Int)) then (if ((3 + (((bs [32]) ++ t0)).size) ≤ 9223372036854775807) then (if (((((bs [115, 117, 98]) ++ ((bs [32]) ++ t0))).size + (((bs [32]) ++ t1)).size) ≤ 9223372036854775807) then (some ((((bs [115, 117, 98]) ++ ((bs [32]) ++ t0)) ++ ((bs [32]) ++ t1)))) else (none)) else (none)) else (if (a0_0 = (6 : Int)) then (if ((4 + (((bs [32]) ++ t0)).size) ≤ 9223372036854775807) then (if (((((bs [108, 101, 115, 115]) ++ ((bs [32]) ++ t0))).size + (((bs [32]) ++ t1)).size) ≤ 9223372036854775807) then (if ((((((bs [108, 101, 115, 115]) ++ ((bs [32]) ++ t0)) ++ ((bs [32]) ++ t1))).size + (((bs [32]) ++ t2)).size) ≤ 9223372036854775807) then (some (((((bs [108, 101, 115, 115]) ++ ((bs [32]) ++ t0)) ++ ((bs [32]) ++ t1)) ++ ((bs [32]) ++ t2)))) else (none)) else (none)) else (none)) else (if (a0_0 = (7 : Int)) then (some ((bs [102, 97, 105, 108]))) else (some ((bs [110, 111, 110, 101])))))))))) else (none))) else (none))) else (none))
mutual
def impl_ProgText.l0 : Nat → (List S60) → Int → Int → (List ByteArray) → Option (ByteArray)
  | 0, _, _, _, _ => none
  | k + 1, x0, x1, x2, x3 => if (x2 < x1) then (if ((0 : Int) ≤ x2) then (if (x2 < ((x0.length : Nat) : Int)) then ((impl_insText.f k ((rd_T60 x0 x2)).f0 ((rd_T60 x0 x2)).f1 ((rd_T60 x0 x2)).f2 ((rd_T60 x0 x2)).f3).bind fun t0 => (if ((x3.length + 1) ≤ 8796093022208) then (impl_ProgText.l0 k x0 x1 (wrap64 (x2 + (1 : Int))) (x3 ++ ([t0] : List ByteArray))) else (none))) else (none)) else (none)) else ((strings_Join.f k x3 (bs [44])).bind fun t1 => (some (t1)))
end
def impl_ProgText.f (k : Nat) (l0 : List S60) : Option (ByteArray) := impl_ProgText.l0 k l0 ((l0.length : Nat) : Int) (0 : Int) ([] : List ByteArray)
def laws_FnExactProgText.f (k : Nat) (l0 : List S93) : Option (Bool) := (laws_szInsS.f l0 (1048576 : Int)).bind fun t0 => (if (t0 < (0 : Int)) then (some (true)) else ((laws_toInsS.f k l0).bind fun t1 => ((spec_ProgText.f k t1).bind fun t2 => ((laws_toInsS.f k l0).bind fun t3 => ((impl_ProgText.f k t3).bind fun t4 => (if (t4 = t2) then ((laws_toInsS.f k l0).bind fun t5 => ((laws_eqInsS.f k t3 t5).bind fun t6 => (if t6 = true then (some (true)) else (some (false))))) else (some (false))))))))
open Go Go.Proofs Am
def tau : TypeId → Type
  | 9 => ByteArray
  | 60 => S60
  | 93 => S93
  | _ => Unit
def tabL : List (TypeId × TI) := [(2, ⟨[.int .i64], .scal⟩), (3, ⟨[.int .i64], .scal⟩), (4, ⟨[.bool], .scal⟩), (6, ⟨[.int .u8], .scal⟩), (8, ⟨[.int .i64, .int .i64, .bool, .int .u8], .st [(0, 2), (1, 3), (2, 4), (3, 6)]⟩), (9, ⟨[.str], .scal⟩), (22, ⟨[.sl 60], .sl 60⟩), (50, ⟨[.sl 93], .sl 93⟩), (57, ⟨[.sl 9], .sl 9⟩), (60, ⟨[.int .i64, .int .i64, .int .i64, .int .i64], .st [(0, 3), (1, 3), (2, 3), (3, 3)]⟩), (93, ⟨[.int .i64, .int .i64, .int .i64, .int .i64], .st [(0, 3), (1, 3), (2, 3), (3, 3)]⟩)]
def rowT : (e : TypeId) → tau e → List (Lf tau)
  | 9, (x : ByteArray) => [.s x]
  | 60, (x : S60) => [.i x.f0, .i x.f1, .i x.f2, .i x.f3]
  | 93, (x : S93) => [.i x.f0, .i x.f1, .i x.f2, .i x.f3]
  | _, _ => []
instance : (e : TypeId) → Inhabited (tau e) := fun e => by unfold tau; split <;> first | exact ⟨(0 : Int)⟩ | exact ⟨false⟩ | exact ⟨(default : ByteArray)⟩ | exact ⟨[]⟩ | exact ⟨()⟩ | exact ⟨z60⟩ | exact ⟨z93⟩
def of9 : List (Lf tau) → ByteArray
  | [(.s y0)] => y0
  | _ => (default : ByteArray)
def of60 : List (Lf tau) → S60
  | [(.i y0), (.i y1), (.i y2), (.i y3)] => (⟨y0, y1, y2, y3⟩ : S60)
  | _ => z60
def of93 : List (Lf tau) → S93
  | [(.i y0), (.i y1), (.i y2), (.i y3)] => (⟨y0, y1, y2, y3⟩ : S93)
  | _ => z93
def ofT : (e : TypeId) → List (Lf tau) → tau e
  | 9, l => of9 l
  | 60, l => of60 l
  | 93, l => of93 l
  | _, _ => default
def powName : String := Rows.fnExactProgTextRow.named.getD 0 default
def GL : World → (Nat → Prop) → Prop := glA Tryd.prog powName Lib.pow10Tab 0 1
def TT : Tab tau := { get := fun t => lookN t tabL, row := rowT, of := ofT, el := fun t => memN t [9, 60, 93], gl := GL, glN := glA_next }
def byT : TypeId → Nat := fun t => lookD 1 t [(2, 8), (3, 8), (4, 1), (6, 1), (8, 24), (9, 16), (22, 24), (50, 24), (57, 24), (60, 32), (93, 32)]
def modeL : List (Nat × Nat) := []
def shpL : List (Nat × List PS) := [(59, [.one (.own 9), .one .any]), (58, [.one .any]), (63, [.one .any]), (55, [.agg [.any, .any, .any, .any], .agg [.any, .any, .any, .any]]), (13, [.one (.sl 60), .one (.sl 60)]), (43, [.one (.sl 93), .one .any]), (81, [.agg [.any, .any, .any, .any]]), (44, [.one (.sl 93)]), (82, []), (73, [.agg [.any, .any, .any, .any]]), (28, [.one (.sl 60)]), (72, [.agg [.any, .any, .any, .any]]), (27, [.one (.sl 60)]), (8, [.one (.sl 93)])]
def persL : List (Nat × List Nat) := [(59, [0])]
def pnL : List (Nat × Nat) := [(59, 1)]
def pnT : FuncId → Nat := fun f => lookD 0 f pnL
def mkE (keep : List (Nat × List (Nat × PS))) (res : List PS) (nb : NB) : Env tau := { T := TT, by_ := byT, mode := fun f => lookD 0 f modeL, shp := fun f => lookD [] f shpL, keep := fun i => lookN i keep, res := res, pers := fun f => lookD [] f persL, pn := pnT, nb := nb }
theorem asked : Asked Tryd.prog byT tabL := ⟨by kernel_rfl, by kernel_rfl, by kernel_rfl, by kernel_rfl⟩
theorem el_9 : ElOk TT 9 := by
 intro ti h
 replace h : some (⟨[.str], .scal⟩ : TI) = some ti := h
 cases h
 refine ⟨fun x => rfl, fun l hl => ?_⟩
 obtain ⟨y0, l0, e0, h0⟩ := wts_s hl
 have e1 := wts_nil h0
 subst e1
 subst e0
 rfl
theorem el_60 : ElOk TT 60 := by
 intro ti h
 replace h : some (⟨[.int .i64, .int .i64, .int .i64, .int .i64], .st [(0, 3), (1, 3), (2, 3), (3, 3)]⟩ : TI) = some ti := h
 cases h
 refine ⟨fun x => rfl, fun l hl => ?_⟩
 obtain ⟨y0, l0, e0, h0⟩ := wts_i hl
 obtain ⟨y1, l1, e1, h1⟩ := wts_i h0
 obtain ⟨y2, l2, e2, h2⟩ := wts_i h1
 obtain ⟨y3, l3, e3, h3⟩ := wts_i h2
 have e4 := wts_nil h3
 subst e4
 subst e3
 subst e2
 subst e1
 subst e0
 rfl
theorem el_93 : ElOk TT 93 := by
 intro ti h
 replace h : some (⟨[.int .i64, .int .i64, .int .i64, .int .i64], .st [(0, 3), (1, 3), (2, 3), (3, 3)]⟩ : TI) = some ti := h
 cases h
 refine ⟨fun x => rfl, fun l hl => ?_⟩
 obtain ⟨y0, l0, e0, h0⟩ := wts_i hl
 obtain ⟨y1, l1, e1, h1⟩ := wts_i h0
 obtain ⟨y2, l2, e2, h2⟩ := wts_i h1
 obtain ⟨y3, l3, e3, h3⟩ := wts_i h2
 have e4 := wts_nil h3
 subst e4
 subst e3
 subst e2
 subst e1
 subst e0
 rfl
theorem pq : PQ Tryd.prog TT byT := pq_of asked rfl (fun e he => by
 have h := memN_iff.1 he
 simp only [List.mem_cons, List.not_mem_nil, or_false] at h
 rcases h with rfl | rfl | rfl
 · exact el_9
 · exact el_60
 · exact el_93)
theorem hmix : Tryd.prog.follows .mixedOrders = true := by kernel_rfl
noncomputable def c_59 (args : List (AV tau)) (m : Mem tau) (κ : AV tau → Mem tau → Option Unit) : Option Unit := match args, m.bx, m.rw with
  | [b0, b1], [], [r0] => bO (asOwn 0 b0) fun _ => bO (asRow 9 r0) fun l0 => bO (asS b1) fun a1 => callX (fun n => strings_Join.f n l0 a1) fun t => κ (.str (t)) ⟨[], [some ⟨9, l0, 0⟩]⟩
  | _, _, _ => none
noncomputable def c_58 (args : List (AV tau)) (m : Mem tau) (κ : AV tau → Mem tau → Option Unit) : Option Unit := match args, m.bx, m.rw with
  | [b0], [], [] => bO (asI .i64 b0) fun a0 => callX (fun n => strconv_Itoa.f n a0) fun t => κ (.str (t)) ⟨[], []⟩
  | _, _, _ => none
noncomputable def c_63 (args : List (AV tau)) (m : Mem tau) (κ : AV tau → Mem tau → Option Unit) : Option Unit := match args, m.bx, m.rw with
  | [b0], [], [] => bO (asI .i64 b0) fun a0 => callX (fun n => spec_l15Dec.f n a0) fun t => κ (.str (t)) ⟨[], []⟩
  | _, _, _ => none
noncomputable def c_55 (args : List (AV tau)) (m : Mem tau) (κ : AV tau → Mem tau → Option Unit) : Option Unit := match args, m.bx, m.rw with
  | [.agg [b0, b1, b2, b3], .agg [b4, b5, b6, b7]], [], [] => bO (asI .i64 b0) fun a0_0 => bO (asI .i64 b1) fun a0_1 => bO (asI .i64 b2) fun a0_2 => bO (asI .i64 b3) fun a0_3 => bO (asI .i64 b4) fun a1_0 => bO (asI .i64 b5) fun a1_1 => bO (asI .i64 b6) fun a1_2 => bO (asI .i64 b7) fun a1_3 => callX (fun n => laws_eqIns.f a0_0 a0_1 a0_2 a0_3 a1_0 a1_1 a1_2 a1_3) fun t => κ (.bool (t)) ⟨[], []⟩
  | _, _, _ => none
def E_55 : Env tau := mkE [(0, [(0, .agg [.any, .any, .any, .any]), (1, .agg [.any, .any, .any, .any])]), (1, [(2, .one .any), (3, .one .any)]), (2, []), (3, [(2, .one .any), (3, .one .any)]), (4, []), (5, [(2, .one .any), (3, .one .any)]), (6, []), (7, [(2, .one .any), (3, .one .any)]), (8, []), (9, [])] [.one .any] ⟨0, 0⟩
noncomputable def c_13 (args : List (AV tau)) (m : Mem tau) (κ : AV tau → Mem tau → Option Unit) : Option Unit := match args, m.bx, m.rw with
  | [b0, b1], [], [] => bO (asSl 60 b0) fun l0 => bO (asSl 60 b1) fun l1 => callX (fun n => laws_eqInsS.f n l0 l1) fun t => κ (.bool (t)) ⟨[], []⟩
  | _, _, _ => none
def E_13 : Env tau := mkE [(0, [(0, .one (.own 60)), (1, .one (.own 60))]), (1, [(0, .one (.own 60)), (1, .one (.own 60))]), (2, []), (3, [(0, .one (.own 60)), (1, .one (.own 60))]), (4, [(0, .one (.own 60)), (1, .one (.own 60)), (5, .one .any)]), (5, [(0, .one (.own 60)), (1, .one (.own 60)), (5, .one .any)]), (6, [(0, .one (.own 60)), (1, .one (.own 60)), (5, .one .any)]), (7, []), (8, [])] [.one .any] ⟨0, 0⟩
noncomputable def c_43 (args : List (AV tau)) (m : Mem tau) (κ : AV tau → Mem tau → Option Unit) : Option Unit := match args, m.bx, m.rw with
  | [b0, b1], [], [] => bO (asSl 93 b0) fun l0 => bO (asI .i64 b1) fun a1 => callX (fun n => laws_szInsS.f l0 a1) fun t => κ (.int .i64 (t)) ⟨[], []⟩
  | _, _, _ => none
def E_43 : Env tau := mkE [(0, [(0, .one (.own 93)), (1, .one .any)]), (1, [(0, .one (.own 93)), (1, .one .any)]), (2, [(1, .one .any)]), (3, []), (4, [(1, .one .any)])] [.one .any] ⟨0, 0⟩
noncomputable def c_81 (args : List (AV tau)) (m : Mem tau) (κ : AV tau → Mem tau → Option Unit) : Option Unit := match args, m.bx, m.rw with
  | [.agg [b0, b1, b2, b3]], [], [] => bO (asI .i64 b0) fun a0_0 => bO (asI .i64 b1) fun a0_1 => bO (asI .i64 b2) fun a0_2 => bO (asI .i64 b3) fun a0_3 => callX (fun n => laws_toIns.f a0_0 a0_1 a0_2 a0_3) fun t => κ (.agg [.int .i64 (t.1), .int .i64 (t.2.1), .int .i64 (t.2.2.1), .int .i64 (t.2.2.2)]) ⟨[], []⟩
  | _, _, _ => none
def E_81 : Env tau := mkE [(0, [(0, .agg [.any, .any, .any, .any])]), (1, [(1, .one .any), (2, .one .any)]), (2, [(1, .one .any), (2, .one .any), (3, .one .any)]), (3, [(1, .one .any), (2, .one .any), (3, .one .any)]), (4, [(1, .one .any), (2, .one .any), (3, .one .any)]), (5, [(1, .one .any), (2, .one .any), (3, .one .any)]), (6, [(2, .one .any), (3, .one .any)])] [.agg [.any, .any, .any, .any]] ⟨0, 0⟩
noncomputable def c_44 (args : List (AV tau)) (m : Mem tau) (κ : AV tau → Mem tau → Option Unit) : Option Unit := match args, m.bx, m.rw with
  | [b0], [], [] => bO (asSl 93 b0) fun l0 => callX (fun n => laws_toInsS.f n l0) fun t => κ (.own 0 0) ⟨[], [some ⟨60, t, 0⟩]⟩
  | _, _, _ => none
def E_44 : Env tau := mkE [(0, [(0, .one (.own 93))]), (1, [(0, .one (.own 93))]), (2, [(0, .one (.own 93)), (3, .one (.own 60))]), (3, [(0, .one (.own 93)), (3, .one (.own 60)), (4, .one .any)]), (4, [(0, .one (.own 93)), (3, .one (.own 60)), (4, .one .any)]), (5, [(0, .one (.own 93)), (3, .one (.own 60)), (4, .one .any)]), (6, [(3, .one (.own 60))])] [.one (.own 60)] ⟨0, 0⟩
noncomputable def c_82 (args : List (AV tau)) (m : Mem tau) (κ : AV tau → Mem tau → Option Unit) : Option Unit := match args, m.bx, m.rw with
  | [], [], [] => callX (fun n => spec_l2Words.f n) fun t => κ (.own 0 0) ⟨[], [some ⟨9, t, 0⟩]⟩
  | _, _, _ => none
def E_82 : Env tau := mkE [(0, []), (1, [])] [.one (.own 9)] ⟨0, 0⟩
noncomputable def c_73 (args : List (AV tau)) (m : Mem tau) (κ : AV tau → Mem tau → Option Unit) : Option Unit := match args, m.bx, m.rw with
  | [.agg [b0, b1, b2, b3]], [], [] => bO (asI .i64 b0) fun a0_0 => bO (asI .i64 b1) fun a0_1 => bO (asI .i64 b2) fun a0_2 => bO (asI .i64 b3) fun a0_3 => callX (fun n => spec_l2Text.f n a0_0 a0_1 a0_2 a0_3) fun t => κ (.str (t)) ⟨[], []⟩
  | _, _, _ => none
def E_73 : Env tau := mkE [(0, [(0, .agg [.any, .any, .any, .any])]), (1, [(1, .one .any)]), (2, [(1, .one .any), (4, .one .any)]), (3, [(1, .one .any), (4, .one .any)]), (4, [(1, .one .any), (4, .one .any)]), (5, [(1, .one .any), (4, .one .any)]), (6, [(1, .one .any)]), (7, [(1, .one .any), (4, .one .any)]), (8, [(1, .one .any)]), (9, [(1, .one .any), (4, .one .any)]), (10, [(1, .one .any)]), (11, [(4, .one .any)]), (12, []), (13, [])] [.one .any] ⟨0, 0⟩
noncomputable def c_28 (args : List (AV tau)) (m : Mem tau) (κ : AV tau → Mem tau → Option Unit) : Option Unit := match args, m.bx, m.rw with
  | [b0], [], [] => bO (asSl 60 b0) fun l0 => callX (fun n => spec_ProgText.f n l0) fun t => κ (.str (t)) ⟨[], []⟩
  | _, _, _ => none
def E_28 : Env tau := mkE [(0, [(0, .one (.own 60))]), (1, [(0, .one (.own 60))]), (2, [(0, .one (.own 60)), (3, .one .any)]), (3, [(0, .one (.own 60)), (3, .one .any), (4, .one .any)]), (4, [(0, .one (.own 60)), (3, .one .any), (4, .one .any)]), (5, [(0, .one (.own 60)), (3, .one .any), (4, .one .any)]), (6, [(0, .one (.own 60)), (3, .one .any), (4, .one .any)]), (7, [(0, .one (.own 60)), (3, .one .any), (4, .one .any)]), (8, [(3, .one .any)])] [.one .any] ⟨0, 0⟩
noncomputable def c_72 (args : List (AV tau)) (m : Mem tau) (κ : AV tau → Mem tau → Option Unit) : Option Unit := match args, m.bx, m.rw with
  | [.agg [b0, b1, b2, b3]], [], [] => bO (asI .i64 b0) fun a0_0 => bO (asI .i64 b1) fun a0_1 => bO (asI .i64 b2) fun a0_2 => bO (asI .i64 b3) fun a0_3 => callX (fun n => impl_insText.f n a0_0 a0_1 a0_2 a0_3) fun t => κ (.str (t)) ⟨[], []⟩
  | _, _, _ => none
def E_72 : Env tau := mkE [(0, [(0, .agg [.any, .any, .any, .any])]), (1, [(1, .one .any)]), (2, [(1, .one .any), (3, .one .any), (4, .one .any), (5, .one .any)]), (3, [(3, .one .any), (4, .one .any), (5, .one .any), (19, .one .any)]), (4, [(3, .one .any), (4, .one .any)]), (5, [(3, .one .any), (4, .one .any), (5, .one .any), (19, .one .any)]), (6, [(3, .one .any), (4, .one .any)]), (7, [(3, .one .any), (4, .one .any), (5, .one .any), (19, .one .any)]), (8, [(3, .one .any), (5, .one .any)]), (9, [(3, .one .any), (4, .one .any), (5, .one .any), (19, .one .any)]), (10, [(3, .one .any), (4, .one .any)]), (11, [(3, .one .any), (4, .one .any), (5, .one .any), (19, .one .any)]), (12, [(3, .one .any), (4, .one .any)]), (13, [(3, .one .any), (4, .one .any), (5, .one .any), (19, .one .any)]), (14, [(3, .one .any), (4, .one .any), (5, .one .any)]), (15, [(19, .one .any)]), (16, []), (17, [])] [.one .any] ⟨0, 0⟩
noncomputable def c_27 (args : List (AV tau)) (m : Mem tau) (κ : AV tau → Mem tau → Option Unit) : Option Unit := match args, m.bx, m.rw with
  | [b0], [], [] => bO (asSl 60 b0) fun l0 => callX (fun n => impl_ProgText.f n l0) fun t => κ (.str (t)) ⟨[], []⟩
  | _, _, _ => none
def E_27 : Env tau := mkE [(0, [(0, .one (.own 60))]), (1, [(0, .one (.own 60))]), (2, [(0, .one (.own 60)), (3, .one (.own 9))]), (3, [(3, .one (.own 9)), (6, .one (.own 60)), (7, .one .any), (8, .one .any)]), (4, [(3, .one (.own 9)), (6, .one (.own 60)), (7, .one .any), (8, .one .any)]), (5, [(3, .one (.own 9)), (5, .one .any), (6, .one (.own 60)), (7, .one .any), (8, .one .any)]), (6, [(3, .one (.own 9)), (6, .one (.own 60)), (7, .one .any), (8, .one .any)]), (7, [(3, .one (.own 9))])] [.one .any] ⟨0, 0⟩
noncomputable def c_8 (args : List (AV tau)) (m : Mem tau) (κ : AV tau → Mem tau → Option Unit) : Option Unit := match args, m.bx, m.rw with
  | [b0], [], [] => bO (asSl 93 b0) fun l0 => callX (fun n => laws_FnExactProgText.f n l0) fun t => κ (.bool (t)) ⟨[], []⟩
  | _, _, _ => none
def E_8 : Env tau := mkE [(0, [(0, .one (.own 93))]), (1, [(0, .one (.own 93))]), (2, [(0, .one (.own 93)), (3, .one .any)]), (3, [(0, .one (.own 93)), (3, .one .any)]), (4, []), (5, [(0, .one (.own 93))]), (6, [(0, .one (.own 93)), (4, .one .any)]), (7, [(0, .one (.own 93)), (4, .one .any), (5, .one (.own 60))]), (8, [(0, .one (.own 93)), (4, .one .any), (5, .one (.own 60)), (6, .one .any)]), (9, []), (10, [(0, .one (.own 93)), (5, .one (.own 60))]), (11, []), (12, [])] [.one .any] ⟨0, 0⟩
end Go.Proofs.YtlpgpckggnimhaaDoor.PFnExactProgText