/- The machine's texts of FnExactBoxRead (definitions, table, contracts). Conditions: none. -/
import Derived.Test.YtlpgpckggnimhaaDoorProg
import Derived.Test.YtlpgpckggnimhaaDoorSWFnExactBoxRead
import Derived.Test.YtlpgpckggnimhaaDoorAm38
import Derived.RowKit
import Derived.KernelRfl
import Derived.Test.YtlpgpckggnimhaaDoorAm41
import Derived.Test.YtlpgpckggnimhaaDoorRows
import Derived.Test.YtlpgpckggnimhaaDoorLay
set_option linter.unusedVariables false
set_option maxRecDepth 100000
namespace Go.Proofs.YtlpgpckggnimhaaDoor.PFnExactBoxRead
open Go.RowKit Go.Proofs.YtlpgpckggnimhaaDoorW.PrintWords Go.Proofs.YtlpgpckggnimhaaDoorW.PrintLast Go.Proofs.YtlpgpckggnimhaaDoorW.PrintMore
def errW : Option Int → Value
  | none => .nilIface
  | some c => .iface 0 (.int .i64 c)
structure S70 where
  f0 : Int
  f1 : Int
def z70 : S70 := ⟨(0 : Int), (0 : Int)⟩
def rd_T70 (xs : List S70) (i : Int) : S70 := xs.getD i.toNat z70
def impl_in.f (a0 : Int) (a1 : Int) (a2 : Int) : Option (Bool) := if a0 ≥ a1 then (some (decide (a0 ≤ a2))) else (some false)
def impl_BoxOk.l0 : Nat → List (S70) → List (S70) → Int → Int → Option (Bool)
  | 0, _, _, _, _ => none
  | k + 1, x0, x5, x6, x7 => if x7 < x6 then (if 0 ≤ x7 then (if x7 < (x5.length : Int) then ((impl_in.f ((rd_T70 x5 x7).f0) 0 1000000).bind fun t125 => (if t125 = true then ((impl_in.f ((rd_T70 x5 x7).f1) (-1000000) 1000000).bind fun t126 => (if t126 = true then (impl_BoxOk.l0 k x0 x5 x6 (wrap64 (x7 + 1))) else (some false))) else (some false))) else (none)) else (none)) else (some ((x0.length : Int) == 4))
def impl_BoxOk.f (k : Nat) (l0 : List (S70)) : Option (Bool) := impl_BoxOk.l0 k l0 l0 (l0.length : Int) 0
def impl_copied_impl_Box.f (l0 : List (S70)) : Option (List (S70)) := if l0.length ≤ 17592186044416 then some l0 else none
def spec_l1Num.f (a0 : Int) : Option (Bool) := if a0 ≥ (-1000000) then (some (decide (a0 ≤ 1000000))) else (some false)
def spec_BoxOk.l0 : Nat → List (S70) → Int → Option (Bool)
  | 0, _, _ => none
  | k + 1, x0, x3 => if x3 < (x0.length : Int) then (if 0 ≤ x3 then (if ((rd_T70 x0 x3).f0) < 0 then (some false) else (if ((rd_T70 x0 x3).f0) > 1000000 then (some false) else ((spec_l1Num.f ((rd_T70 x0 x3).f1)).bind fun t136 => (if t136 = true then (spec_BoxOk.l0 k x0 (wrap64 (x3 + 1))) else (some false))))) else (none)) else (some true)
def spec_BoxOk.f (k : Nat) (l0 : List (S70)) : Option (Bool) := if (l0.length : Int) = 4 then (spec_BoxOk.l0 k l0 0) else (some false)
def laws_eqBox.f (a0_0 : Int) (a0_1 : Int) (a1_0 : Int) (a1_1 : Int) : Option (Bool) := if a0_0 = a1_0 then (if a0_1 = a1_1 then (some true) else (some false)) else (some false)
def laws_eqBoxS.l0 : Nat → List (S70) → List (S70) → Int → Option (Bool)
  | 0, _, _, _ => none
  | k + 1, x0, x1, x5 => if x5 < (x0.length : Int) then (if 0 ≤ x5 then (if x5 < (x1.length : Int) then ((laws_eqBox.f ((rd_T70 x0 x5).f0) ((rd_T70 x0 x5).f1) ((rd_T70 x1 x5).f0) ((rd_T70 x1 x5).f1)).bind fun t168 => (if t168 = true then (laws_eqBoxS.l0 k x0 x1 (wrap64 (x5 + 1))) else (some false))) else (none)) else (none)) else (some true)
def laws_eqBoxS.f (k : Nat) (l0 : List (S70)) (l1 : List (S70)) : Option (Bool) := if (l0.length : Int) = (l1.length : Int) then (laws_eqBoxS.l0 k l0 l1 0) else (some false)
def laws_markBoxS.l0 : Nat → List (S70) → Int → Int → Option (Int × (List (S70)))
  | 0, _, _, _ => none
  | k + 1, x0, x1, x5 => if x5 < (x0.length : Int) then (if 0 ≤ x5 then ((some (x0.set (x5 : Int).toNat (⟨x1, (rd_T70 x0 x5).f1⟩ : S70) : List (S70))).bind fun y169 => (laws_markBoxS.l0 k (y169.set (x5 : Int).toNat (⟨(rd_T70 y169 x5).f0, wrap64 (x1 + 1)⟩ : S70)) (wrap64 ((wrap64 (x1 + 1)) + 1)) (wrap64 (x5 + 1)))) else (none)) else (some (x1, x0))
def laws_markBoxS.f (k : Nat) (l0 : List (S70)) (a1 : Int) : Option (Int × (List (S70))) := laws_markBoxS.l0 k l0 a1 0
def laws_heldBoxS.l0 : Nat → List (S70) → Int → Int → Option (Int)
  | 0, _, _, _ => none
  | k + 1, x0, x1, x5 => if x5 < (x0.length : Int) then (if 0 ≤ x5 then (if ((rd_T70 x0 x5).f0) = x1 then (if ((rd_T70 x0 x5).f1) = (wrap64 (x1 + 1)) then (laws_heldBoxS.l0 k x0 (wrap64 ((wrap64 (x1 + 1)) + 1)) (wrap64 (x5 + 1))) else (some (-1))) else (some (-1))) else (none)) else (some x1)
def laws_heldBoxS.f (k : Nat) (l0 : List (S70)) (a1 : Int) : Option (Int) := laws_heldBoxS.l0 k l0 a1 0
open Am
mutual
def spec_l15Cut.l0 : Nat → ByteArray → Int → Int → Int → (List ByteArray) → Option ((List ByteArray))
  | 0, _, _, _, _, _ => none
  | k + 1, x0, x1, x2, x3, x4 => if (x3 ≤ ((x0.size : Nat) : Int)) then (if (x3 = ((x0.size : Nat) : Int)) then (if ((0 : Int) ≤ x3) then (if (x3 ≤ ((x0.size : Nat) : Int)) then (if ((0 : Int) ≤ x2) then (if (x2 ≤ x3) then (if ((x4.length + 1) ≤ 8796093022208) then (spec_l15Cut.l0 k x0 x1 (wrap64 (x3 + (1 : Int))) (wrap64 (x3 + (1 : Int))) (x4 ++ ([(ByteArray.extract x0 (Int.toNat x2) (Int.toNat x3))] : List ByteArray))) else (none)) else (none)) else (none)) else (none)) else (none)) else (if ((0 : Int) ≤ x3) then (if (x3 < ((x0.size : Nat) : Int)) then (if ((btA x0 x3) = x1) then (if ((0 : Int) ≤ x3) then (if (x3 ≤ ((x0.size : Nat) : Int)) then (if ((0 : Int) ≤ x2) then (if (x2 ≤ x3) then (if ((x4.length + 1) ≤ 8796093022208) then (spec_l15Cut.l0 k x0 x1 (wrap64 (x3 + (1 : Int))) (wrap64 (x3 + (1 : Int))) (x4 ++ ([(ByteArray.extract x0 (Int.toNat x2) (Int.toNat x3))] : List ByteArray))) else (none)) else (none)) else (none)) else (none)) else (none)) else (spec_l15Cut.l0 k x0 x1 x2 (wrap64 (x3 + (1 : Int))) x4)) else (none)) else (none))) else (some (x4))
end
def spec_l15Cut.f (k : Nat) (a0 : ByteArray) (a1 : Int) : Option ((List ByteArray)) := spec_l15Cut.l0 k a0 a1 (0 : Int) (0 : Int) ([] : List ByteArray)
mutual
def spec_l15Find.l0 : Nat → ByteArray → Int → Int → Option (Int)
  | 0, _, _, _ => none
  | k + 1, x0, x1, x2 => if (x2 < ((x0.size : Nat) : Int)) then (if ((0 : Int) ≤ x2) then (if (x2 < ((x0.size : Nat) : Int)) then (if ((btA x0 x2) = x1) then (some (x2)) else (spec_l15Find.l0 k x0 x1 (wrap64 (x2 + (1 : Int))))) else (none)) else (none)) else (some ((-(1 : Int))))
end
def spec_l15Find.f (k : Nat) (a0 : ByteArray) (a1 : Int) : Option (Int) := spec_l15Find.l0 k a0 a1 (0 : Int)
mutual
def spec_l15Num.l0 : Nat → ByteArray → Bool → Int → Int → Option (Int × Bool)
  | 0, _, _, _, _ => none
  | k + 1, x0, x1, x2, x3 => if (x3 < ((x0.size : Nat) : Int)) then (if ((0 : Int) ≤ x3) then (if (x3 < ((x0.size : Nat) : Int)) then (if ((btA x0 x3) < (48 : Int)) then (some ((0 : Int), false)) else (if ((0 : Int) ≤ x3) then (if (x3 < ((x0.size : Nat) : Int)) then (if ((btA x0 x3) > (57 : Int)) then (some ((0 : Int), false)) else (if ((0 : Int) ≤ x3) then (if (x3 < ((x0.size : Nat) : Int)) then (spec_l15Num.l0 k x0 x1 (wrap64 ((wrap64 (x2 * (10 : Int))) + (wrap64 (IntKind.wrap .u8 ((btA x0 x3) - (48 : Int)))))) (wrap64 (x3 + (1 : Int)))) else (none)) else (none))) else (none)) else (none))) else (none)) else (none)) else (if x1 = true then (some ((wrap64 ((0 : Int) - x2)), true)) else (some (x2, true)))
end
def spec_l15Num.f (k : Nat) (a0 : ByteArray) : Option (Int × Bool) := if (((a0.size : Nat) : Int) > (0 : Int)) then (if ((0 : Int) < ((a0.size : Nat) : Int)) then (if ((btA a0 (0 : Int)) = (45 : Int)) then (if ((1 : Int) ≤ ((a0.size : Nat) : Int)) then (if (((((ByteArray.extract a0 1 a0.size)).size : Nat) : Int) = (0 : Int)) then (some ((0 : Int), false)) else (if (((((ByteArray.extract a0 1 a0.size)).size : Nat) : Int) > (17 : Int)) then (some ((0 : Int), false)) else (if ((0 : Int) < ((((ByteArray.extract a0 1 a0.size)).size : Nat) : Int)) then (if ((btA (ByteArray.extract a0 1 a0.size) (0 : Int)) = (48 : Int)) then (if (((((ByteArray.extract a0 1 a0.size)).size : Nat) : Int) > (1 : Int)) then (some ((0 : Int), false)) else (if ((btA a0 (0 : Int)) = (45 : Int)) then (some ((0 : Int), false)) else (spec_l15Num.l0 k (ByteArray.extract a0 1 a0.size) (decide ((btA a0 (0 : Int)) = (45 : Int))) (0 : Int) (0 : Int)))) else (spec_l15Num.l0 k (ByteArray.extract a0 1 a0.size) (decide ((btA a0 (0 : Int)) = (45 : Int))) (0 : Int) (0 : Int))) else (none)))) else (none)) else (if (((a0.size : Nat) : Int) = (0 : Int)) then (some ((0 : Int), false)) else (if (((a0.size : Nat) : Int) > (17 : Int)) then (some ((0 : Int), false)) else (if ((0 : Int) < ((a0.size : Nat) : Int)) then (if ((btA a0 (0 : Int)) = (48 : Int)) then (if (((a0.size : Nat) : Int) > (1 : Int)) then (some ((0 : Int), false)) else (if ((btA a0 (0 : Int)) = (45 : Int)) then (some ((0 : Int), false)) else (spec_l15Num.l0 k a0 (decide ((btA a0 (0 : Int)) = (45 : Int))) (0 : Int) (0 : Int)))) else (spec_l15Num.l0 k a0 (decide ((btA a0 (0 : Int)) = (45 : Int))) (0 : Int) (0 : Int))) else (none))))) else (none)) else (if (((a0.size : Nat) : Int) = (0 : Int)) then (some ((0 : Int), false)) else (if (((a0.size : Nat) : Int) > (17 : Int)) then (some ((0 : Int), false)) else (if ((0 : Int) < ((a0.size : Nat) : Int)) then (if ((btA a0 (0 : Int)) = (48 : Int)) then (if (((a0.size : Nat) : Int) > (1 : Int)) then (some ((0 : Int), false)) else (spec_l15Num.l0 k a0 false (0 : Int) (0 : Int))) else (spec_l15Num.l0 k a0 false (0 : Int) (0 : Int))) else (none))))
mutual
def spec_BoxRead.l0 : Nat → Int → (List ByteArray) → (List S70) → Option ((List S70) × Bool)
  | 0, _, _, _ => none
  | k + 1, x0, x1, x2 => if (x0 < ((x1.length : Nat) : Int)) then (if ((0 : Int) ≤ x0) then (if (x0 < ((x1.length : Nat) : Int)) then ((spec_l15Find.f k (rdOf (default : ByteArray) x1 x0) (47 : Int)).bind fun t1 => (if (t1 < (0 : Int)) then (some (([] : List S70), false)) else (if ((0 : Int) ≤ x0) then (if (x0 < ((x1.length : Nat) : Int)) then (if ((0 : Int) ≤ t1) then (if (t1 ≤ ((((rdOf (default : ByteArray) x1 x0)).size : Nat) : Int)) then ((spec_l15Num.f k (ByteArray.extract (rdOf (default : ByteArray) x1 x0) 0 (Int.toNat t1))).bind fun t2 => (if ((0 : Int) ≤ x0) then (if (x0 < ((x1.length : Nat) : Int)) then (if ((0 : Int) ≤ (wrap64 (t1 + (1 : Int)))) then (if ((wrap64 (t1 + (1 : Int))) ≤ ((((rdOf (default : ByteArray) x1 x0)).size : Nat) : Int)) then ((spec_l15Num.f k (ByteArray.extract (rdOf (default : ByteArray) x1 x0) (Int.toNat (wrap64 (t1 + (1 : Int)))) ((rdOf (default : ByteArray) x1 x0)).size)).bind fun t3 => (if t2.2 = true then (if t3.2 = true then (if ((x2.length + 1) ≤ 8796093022208) then (spec_BoxRead.l0 k (wrap64 (x0 + (1 : Int))) x1 (x2 ++ ([(⟨t3.1, t2.1⟩ : S70)] : List S70))) else (none)) else (some (([] : List S70), false))) else (some (([] : List S70), false)))) else (none)) else (none)) else (none)) else (none))) else (none)) else (none)) else (none)) else (none)))) else (none)) else (none)) else ((spec_BoxOk.f k x2).bind fun t4 => (if t4 = true then (some (x2, true)) else (some (([] : List S70), false))))
end
def spec_BoxRead.f (k : Nat) (a0 : ByteArray) : Option ((List S70) × Bool) := if (((a0.size : Nat) : Int) > (100 : Int)) then (some (([] : List S70), false)) else ((spec_l15Cut.f k a0 (32 : Int)).bind fun t0 => (spec_BoxRead.l0 k (0 : Int) t0 ([] : List S70)))
mutual
def impl_integer.l0 : Nat → ByteArray → ByteArray → Int → Int → Option (Int × Bool)
  | 0, _, _, _, _ => none
  | k + 1, x0, x1, x2, x3 => if (x3 < ((x1.size : Nat) : Int)) then (if ((0 : Int) ≤ x3) then (if (x3 < ((x1.size : Nat) : Int)) then ((impl_in.f (wrap64 (btA x1 x3)) (48 : Int) (57 : Int)).bind fun t1 => (if t1 = true then (if ((0 : Int) ≤ x3) then (if (x3 < ((x1.size : Nat) : Int)) then (impl_integer.l0 k x0 x1 (wrap64 ((wrap64 ((10 : Int) * x2)) + (wrap64 (IntKind.wrap .u8 ((btA x1 x3) - (48 : Int)))))) (wrap64 (x3 + (1 : Int)))) else (none)) else (none)) else (some ((0 : Int), false)))) else (none)) else (none)) else (if (((x0.size : Nat) : Int) > ((x1.size : Nat) : Int)) then (some ((wrap64 ((0 : Int) - x2)), true)) else (some (x2, true)))
end
def impl_integer.f (k : Nat) (a0 : ByteArray) : Option (Int × Bool) := (strings_TrimPrefix.f k a0 (bs [45])).bind fun t0 => (if (((t0.size : Nat) : Int) < (1 : Int)) then (some ((0 : Int), false)) else (if (((t0.size : Nat) : Int) > (9 : Int)) then (some ((0 : Int), false)) else (if ((0 : Int) < ((t0.size : Nat) : Int)) then (if ((btA t0 (0 : Int)) = (48 : Int)) then (if (((t0.size : Nat) : Int) > (1 : Int)) then (some ((0 : Int), false)) else (if (((a0.size : Nat) : Int) > ((t0.size : Nat) : Int)) then (some ((0 : Int), false)) else (impl_integer.l0 k a0 t0 (0 : Int) (0 : Int)))) else (impl_integer.l0 k a0 t0 (0 : Int) (0 : Int))) else (none))))
mutual
def impl_BoxText.l0 : Nat → (List S70) → Int → Int → (List ByteArray) → Option (ByteArray)
  | 0, _, _, _, _ => none
  | k + 1, x0, x1, x2, x3 => if (x2 < x1) then (if ((0 : Int) ≤ x2) then (if (x2 < ((x0.length : Nat) : Int)) then ((strconv_Itoa.f k ((rd_T70 x0 x2)).f1).bind fun t0 => (if ((t0.size + 1) ≤ 9223372036854775807) then ((strconv_Itoa.f k ((rd_T70 x0 x2)).f0).bind fun t1 => (if ((((t0 ++ (bs [47]))).size + t1.size) ≤ 9223372036854775807) then (if ((x3.length + 1) ≤ 8796093022208) then (impl_BoxText.l0 k x0 x1 (wrap64 (x2 + (1 : Int))) (x3 ++ ([((t0 ++ (bs [47])) ++ t1)] : List ByteArray))) else (none)) else (none))) else (none))) else (none)) else (none)) else ((strings_Join.f k x3 (bs [32])).bind fun t2 => (some (t2)))
end
def impl_BoxText.f (k : Nat) (l0 : List S70) : Option (ByteArray) := impl_BoxText.l0 k l0 ((l0.length : Nat) : Int) (0 : Int) ([] : List ByteArray)
mutual
def impl_BoxRead.l0 : Nat → ByteArray → Int → Int → (List S70) → (List ByteArray) → Option ((List S70) × Bool)
  | 0, _, _, _, _, _ => none
  | k + 1, x0, x1, x2, x3, x4 => if (x2 < x1) then (if ((0 : Int) ≤ x2) then (if (x2 < ((x4.length : Nat) : Int)) then ((strings_Cut.f k (rdOf (default : ByteArray) x4 x2) (bs [47])).bind fun t1 => ((impl_integer.f k t1.1).bind fun t2 => ((impl_integer.f k (t1.2).1).bind fun t3 => (if t2.2 = true then (if t3.2 = true then (if ((x3.length + 1) ≤ 8796093022208) then (impl_BoxRead.l0 k x0 x1 (wrap64 (x2 + (1 : Int))) (x3 ++ ([(⟨t3.1, t2.1⟩ : S70)] : List S70)) x4) else (none)) else (some (([] : List S70), false))) else (some (([] : List S70), false)))))) else (none)) else (none)) else ((impl_BoxOk.f k x3).bind fun t4 => (if t4 = true then ((impl_BoxText.f k x3).bind fun t5 => (if (t5 = x0) then ((impl_copied_impl_Box.f x3).bind fun t6 => (some (t6, true))) else (some (([] : List S70), false)))) else (some (([] : List S70), false))))
end
def impl_BoxRead.f (k : Nat) (a0 : ByteArray) : Option ((List S70) × Bool) := if (((a0.size : Nat) : Int) > (100 : Int)) then (some (([] : List S70), false)) else ((strings_Split.f k a0 (bs [32])).bind fun t0 => (impl_BoxRead.l0 k a0 ((t0.length : Nat) : Int) (0 : Int) ([] : List S70) t0))
def laws_FnExactBoxRead.f (k : Nat) (a0 : ByteArray) : Option (Bool) := if (((a0.size : Nat) : Int) > (1048576 : Int)) then (some (true)) else ((spec_BoxRead.f k a0).bind fun t0 => ((impl_BoxRead.f k a0).bind fun t1 => ((laws_eqBoxS.f k t1.1 t0.1).bind fun t2 => (if t2 = true then (if (t1.2 == t0.2) = true then ((laws_markBoxS.f k t1.1 (1 : Int)).bind fun t3 => ((laws_heldBoxS.f k t3.2 (1 : Int)).bind fun t4 => (if (t4 < (0 : Int)) then (some (false)) else (if (t4 = t3.1) then ((impl_BoxRead.f k a0).bind fun t5 => ((laws_eqBoxS.f k t5.1 t0.1).bind fun t6 => (if t6 = true then (if (t5.2 == t0.2) = true then ((laws_heldBoxS.f k t3.2 (1 : Int)).bind fun t7 => (if (t7 < (0 : Int)) then (some (false)) else (if (t7 = t3.1) then (some (true)) else (some (false))))) else (some (false))) else (some (false))))) else (some (false)))))) else (some (false))) else (some (false))))))
open Go Go.Proofs Am
def tau : TypeId → Type
  | 9 => ByteArray
  | 70 => S70
  | _ => Unit
def tabL : List (TypeId × TI) := [(2, ⟨[.int .i64], .scal⟩), (3, ⟨[.int .i64], .scal⟩), (4, ⟨[.bool], .scal⟩), (5, ⟨[.int .u8], .scal⟩), (9, ⟨[.str], .scal⟩), (29, ⟨[.sl 70], .sl 70⟩), (57, ⟨[.sl 9], .sl 9⟩), (70, ⟨[.int .i64, .int .i64], .st [(0, 3), (1, 3)]⟩)]
def rowT : (e : TypeId) → tau e → List (Lf tau)
  | 9, (x : ByteArray) => [.s x]
  | 70, (x : S70) => [.i x.f0, .i x.f1]
  | _, _ => []
instance : (e : TypeId) → Inhabited (tau e) := fun e => by unfold tau; split <;> first | exact ⟨(0 : Int)⟩ | exact ⟨false⟩ | exact ⟨(default : ByteArray)⟩ | exact ⟨[]⟩ | exact ⟨()⟩ | exact ⟨z70⟩
def of9 : List (Lf tau) → ByteArray
  | [(.s y0)] => y0
  | _ => (default : ByteArray)
def of70 : List (Lf tau) → S70
  | [(.i y0), (.i y1)] => (⟨y0, y1⟩ : S70)
  | _ => z70
def ofT : (e : TypeId) → List (Lf tau) → tau e
  | 9, l => of9 l
  | 70, l => of70 l
  | _, _ => default
def powName : String := Rows.fnExactBoxReadRow.named.getD 3 default
def GL : World → (Nat → Prop) → Prop := glA Tryd.prog powName Lib.pow10Tab 0 1
def TT : Tab tau := { get := fun t => lookN t tabL, row := rowT, of := ofT, el := fun t => memN t [9, 70], gl := GL, glN := glA_next }
def byT : TypeId → Nat := fun t => lookD 1 t [(2, 8), (3, 8), (4, 1), (5, 1), (9, 16), (29, 24), (57, 24), (70, 16)]
def modeL : List (Nat × Nat) := []
def shpL : List (Nat × List PS) := [(59, [.one (.own 9), .one .any]), (58, [.one .any]), (91, [.one .any, .one .any]), (60, [.one .any, .one .any]), (52, [.one .any, .one .any]), (64, [.one .any, .one .any, .one .any]), (20, [.one (.sl 70)]), (62, [.one (.sl 70)]), (65, [.one .any]), (21, [.one (.sl 70)]), (80, [.agg [.any, .any], .agg [.any, .any]]), (39, [.one (.sl 70), .one (.sl 70)]), (48, [.one (.own 70), .one .any]), (49, [.one (.sl 70), .one .any]), (50, [.one .any, .one .any]), (69, [.one .any, .one .any]), (70, [.one .any]), (24, [.one .any]), (61, [.one .any]), (17, [.one (.sl 70)]), (18, [.one .any]), (10, [.one .any])]
def persL : List (Nat × List Nat) := [(59, [0]), (48, [0])]
def pnL : List (Nat × Nat) := [(59, 1), (48, 1)]
def pnT : FuncId → Nat := fun f => lookD 0 f pnL
def mkE (keep : List (Nat × List (Nat × PS))) (res : List PS) (nb : NB) : Env tau := { T := TT, by_ := byT, mode := fun f => lookD 0 f modeL, shp := fun f => lookD [] f shpL, keep := fun i => lookN i keep, res := res, pers := fun f => lookD [] f persL, pn := pnT, nb := nb }
theorem asked : Asked Tryd.prog byT tabL := ⟨by kernel_rfl, by kernel_rfl, by kernel_rfl, by kernel_rfl⟩
theorem el_9 : ElOk TT 9 := by
 intro ti h
 replace h : some (⟨[.str], .scal⟩ : TI) = some ti := h
 cases h
 refine ⟨fun x => rfl, fun l hl => ?_⟩
 obtain ⟨y0, l0, e0, h0⟩ := wts_s hl
 have e1 := wts_nil h0
 subst e1
 subst e0
 rfl
theorem el_70 : ElOk TT 70 := by
 intro ti h
 replace h : some (⟨[.int .i64, .int .i64], .st [(0, 3), (1, 3)]⟩ : TI) = some ti := h
 cases h
 refine ⟨fun x => rfl, fun l hl => ?_⟩
 obtain ⟨y0, l0, e0, h0⟩ := wts_i hl
 obtain ⟨y1, l1, e1, h1⟩ := wts_i h0
 have e2 := wts_nil h1
 subst e2
 subst e1
 subst e0
 rfl
theorem pq : PQ Tryd.prog TT byT := pq_of asked rfl (fun e he => by
 have h := memN_iff.1 he
 simp only [List.mem_cons, List.not_mem_nil, or_false] at h
 rcases h with rfl | rfl
 · exact el_9
 · exact el_70)
theorem hmix : Tryd.prog.follows .mixedOrders = true := by kernel_rfl
noncomputable def c_59 (args : List (AV tau)) (m : Mem tau) (κ : AV tau → Mem tau → Option Unit) : Option Unit := match args, m.bx, m.rw with
  | [b0, b1], [], [r0] => bO (asOwn 0 b0) fun _ => bO (asRow 9 r0) fun l0 => bO (asS b1) fun a1 => callX (fun n => strings_Join.f n l0 a1) fun t => κ (.str (t)) ⟨[], [some ⟨9, l0, 0⟩]⟩
  | _, _, _ => none
noncomputable def c_58 (args : List (AV tau)) (m : Mem tau) (κ : AV tau → Mem tau → Option Unit) : Option Unit := match args, m.bx, m.rw with
  | [b0], [], [] => bO (asI .i64 b0) fun a0 => callX (fun n => strconv_Itoa.f n a0) fun t => κ (.str (t)) ⟨[], []⟩
  | _, _, _ => none
noncomputable def c_91 (args : List (AV tau)) (m : Mem tau) (κ : AV tau → Mem tau → Option Unit) : Option Unit := match args, m.bx, m.rw with
  | [b0, b1], [], [] => bO (asS b0) fun a0 => bO (asS b1) fun a1 => callX (fun n => strings_TrimPrefix.f n a0 a1) fun t => κ (.str (t)) ⟨[], []⟩
  | _, _, _ => none
noncomputable def c_60 (args : List (AV tau)) (m : Mem tau) (κ : AV tau → Mem tau → Option Unit) : Option Unit := match args, m.bx, m.rw with
  | [b0, b1], [], [] => bO (asS b0) fun a0 => bO (asS b1) fun a1 => callX (fun n => strings_Cut.f n a0 a1) fun t => κ (.tup [.str (t.1), .str (t.2.1), .bool (t.2.2)]) ⟨[], []⟩
  | _, _, _ => none
noncomputable def c_52 (args : List (AV tau)) (m : Mem tau) (κ : AV tau → Mem tau → Option Unit) : Option Unit := match args, m.bx, m.rw with
  | [b0, b1], [], [] => bO (asS b0) fun a0 => bO (asS b1) fun a1 => callX (fun n => strings_Split.f n a0 a1) fun t => κ (.own 0 0) ⟨[], [some ⟨9, t, 0⟩]⟩
  | _, _, _ => none
noncomputable def c_64 (args : List (AV tau)) (m : Mem tau) (κ : AV tau → Mem tau → Option Unit) : Option Unit := match args, m.bx, m.rw with
  | [b0, b1, b2], [], [] => bO (asI .i64 b0) fun a0 => bO (asI .i64 b1) fun a1 => bO (asI .i64 b2) fun a2 => callX (fun n => impl_in.f a0 a1 a2) fun t => κ (.bool (t)) ⟨[], []⟩
  | _, _, _ => none
def E_64 : Env tau := mkE [(0, [(0, .one .any), (1, .one .any), (2, .one .any)]), (1, [(0, .one .any), (1, .one .any), (2, .one .any)])] [.one .any] ⟨0, 0⟩
noncomputable def c_20 (args : List (AV tau)) (m : Mem tau) (κ : AV tau → Mem tau → Option Unit) : Option Unit := match args, m.bx, m.rw with
  | [b0], [], [] => bO (asSl 70 b0) fun l0 => callX (fun n => impl_BoxOk.f n l0) fun t => κ (.bool (t)) ⟨[], []⟩
  | _, _, _ => none
def E_20 : Env tau := mkE [(0, [(0, .one (.own 70))]), (1, [(0, .one (.own 70))]), (2, [(0, .one (.own 70)), (5, .one (.own 70)), (6, .one .any), (7, .one .any)]), (3, [(0, .one (.own 70)), (5, .one (.own 70)), (6, .one .any), (7, .one .any)]), (4, [(0, .one (.own 70)), (4, .one .any), (5, .one (.own 70)), (6, .one .any), (7, .one .any)]), (5, []), (6, [(0, .one (.own 70)), (5, .one (.own 70)), (6, .one .any), (7, .one .any)]), (7, [(0, .one (.own 70))])] [.one .any] ⟨0, 0⟩
noncomputable def c_62 (args : List (AV tau)) (m : Mem tau) (κ : AV tau → Mem tau → Option Unit) : Option Unit := match args, m.bx, m.rw with
  | [b0], [], [] => bO (asSl 70 b0) fun l0 => callX (fun n => impl_copied_impl_Box.f l0) fun t => κ (.own 0 0) ⟨[], [some ⟨70, t, 0⟩]⟩
  | _, _, _ => none
def E_62 : Env tau := mkE [(0, [(0, .one (.own 70))]), (1, [(0, .one (.own 70))]), (2, []), (3, [(0, .one (.own 70))]), (4, [(0, .one (.own 70)), (3, .one (.own 70))]), (5, [(3, .one (.own 70))])] [.one (.own 70)] ⟨0, 0⟩
noncomputable def c_65 (args : List (AV tau)) (m : Mem tau) (κ : AV tau → Mem tau → Option Unit) : Option Unit := match args, m.bx, m.rw with
  | [b0], [], [] => bO (asI .i64 b0) fun a0 => callX (fun n => spec_l1Num.f a0) fun t => κ (.bool (t)) ⟨[], []⟩
  | _, _, _ => none
def E_65 : Env tau := mkE [(0, [(0, .one .any)]), (1, [(0, .one .any)])] [.one .any] ⟨0, 0⟩
noncomputable def c_21 (args : List (AV tau)) (m : Mem tau) (κ : AV tau → Mem tau → Option Unit) : Option Unit := match args, m.bx, m.rw with
  | [b0], [], [] => bO (asSl 70 b0) fun l0 => callX (fun n => spec_BoxOk.f n l0) fun t => κ (.bool (t)) ⟨[], []⟩
  | _, _, _ => none
def E_21 : Env tau := mkE [(0, [(0, .one (.own 70))]), (1, [(0, .one (.own 70))]), (2, []), (3, [(0, .one (.own 70))]), (4, [(0, .one (.own 70)), (3, .one .any)]), (5, [(0, .one (.own 70)), (3, .one .any)]), (6, [(0, .one (.own 70)), (3, .one .any)]), (7, []), (8, [])] [.one .any] ⟨0, 0⟩
noncomputable def c_80 (args : List (AV tau)) (m : Mem tau) (κ : AV tau → Mem tau → Option Unit) : Option Unit := match args, m.bx, m.rw with
  | [.agg [b0, b1], .agg [b2, b3]], [], [] => bO (asI .i64 b0) fun a0_0 => bO (asI .i64 b1) fun a0_1 => bO (asI .i64 b2) fun a1_0 => bO (asI .i64 b3) fun a1_1 => callX (fun n => laws_eqBox.f a0_0 a0_1 a1_0 a1_1) fun t => κ (.bool (t)) ⟨[], []⟩
  | _, _, _ => none
def E_80 : Env tau := mkE [(0, [(0, .agg [.any, .any]), (1, .agg [.any, .any])]), (1, [(2, .one .any), (3, .one .any)]), (2, []), (3, [(2, .one .any), (3, .one .any)]), (4, []), (5, [])] [.one .any] ⟨0, 0⟩
noncomputable def c_39 (args : List (AV tau)) (m : Mem tau) (κ : AV tau → Mem tau → Option Unit) : Option Unit := match args, m.bx, m.rw with
  | [b0, b1], [], [] => bO (asSl 70 b0) fun l0 => bO (asSl 70 b1) fun l1 => callX (fun n => laws_eqBoxS.f n l0 l1) fun t => κ (.bool (t)) ⟨[], []⟩
  | _, _, _ => none
def E_39 : Env tau := mkE [(0, [(0, .one (.own 70)), (1, .one (.own 70))]), (1, [(0, .one (.own 70)), (1, .one (.own 70))]), (2, []), (3, [(0, .one (.own 70)), (1, .one (.own 70))]), (4, [(0, .one (.own 70)), (1, .one (.own 70)), (5, .one .any)]), (5, [(0, .one (.own 70)), (1, .one (.own 70)), (5, .one .any)]), (6, [(0, .one (.own 70)), (1, .one (.own 70)), (5, .one .any)]), (7, []), (8, [])] [.one .any] ⟨0, 0⟩
noncomputable def c_48 (args : List (AV tau)) (m : Mem tau) (κ : AV tau → Mem tau → Option Unit) : Option Unit := match args, m.bx, m.rw with
  | [b0, b1], [], [r0] => bO (asOwn 0 b0) fun _ => bO (asRow 70 r0) fun l0 => bO (asI .i64 b1) fun a1 => callX (fun n => laws_markBoxS.f n l0 a1) fun t => κ (.int .i64 (t.1)) ⟨[], [some ⟨70, t.2, 0⟩]⟩
  | _, _, _ => none
def E_48 : Env tau := mkE [(0, [(0, .one (.own 70)), (1, .one .any)]), (1, [(0, .one (.own 70)), (1, .one .any)]), (2, [(0, .one (.own 70)), (1, .one .any), (5, .one .any)]), (3, [(0, .one (.own 70)), (1, .one .any), (5, .one .any)]), (4, [(0, .one (.own 70)), (1, .one .any), (5, .one .any)]), (5, [(0, .one (.own 70)), (1, .one .any), (5, .one .any)]), (6, [(0, .one (.own 70)), (1, .one .any), (5, .one .any)]), (7, [(0, .one (.own 70)), (1, .one .any), (5, .one .any)]), (8, [(1, .one .any)])] [.one .any] ⟨0, 1⟩
noncomputable def c_49 (args : List (AV tau)) (m : Mem tau) (κ : AV tau → Mem tau → Option Unit) : Option Unit := match args, m.bx, m.rw with
  | [b0, b1], [], [] => bO (asSl 70 b0) fun l0 => bO (asI .i64 b1) fun a1 => callX (fun n => laws_heldBoxS.f n l0 a1) fun t => κ (.int .i64 (t)) ⟨[], []⟩
  | _, _, _ => none
def E_49 : Env tau := mkE [(0, [(0, .one (.own 70)), (1, .one .any)]), (1, [(0, .one (.own 70)), (1, .one .any)]), (2, [(0, .one (.own 70)), (1, .one .any), (5, .one .any)]), (3, [(0, .one (.own 70)), (1, .one .any), (5, .one .any)]), (4, [(0, .one (.own 70)), (1, .one .any), (5, .one .any)]), (5, []), (6, [(0, .one (.own 70)), (1, .one .any), (5, .one .any)]), (7, [(0, .one (.own 70)), (1, .one .any), (5, .one .any)]), (8, []), (9, [(0, .one (.own 70)), (1, .one .any), (5, .one .any)]), (10, [(1, .one .any)])] [.one .any] ⟨0, 0⟩
noncomputable def c_50 (args : List (AV tau)) (m : Mem tau) (κ : AV tau → Mem tau → Option Unit) : Option Unit := match args, m.bx, m.rw with
  | [b0, b1], [], [] => bO (asS b0) fun a0 => bO (asI .u8 b1) fun a1 => callX (fun n => spec_l15Cut.f n a0 a1) fun t => κ (.own 0 0) ⟨[], [some ⟨9, t, 0⟩]⟩
  | _, _, _ => none
def E_50 : Env tau := mkE [(0, [(0, .one .any), (1, .one .any)]), (1, [(0, .one .any), (1, .one .any)]), (2, [(0, .one .any), (1, .one .any), (5, .one (.own 9))]), (3, [(0, .one .any), (1, .one .any), (5, .one (.own 9)), (6, .one .any)]), (4, [(0, .one .any), (1, .one .any), (5, .one (.own 9)), (6, .one .any), (7, .one .any)]), (5, [(0, .one .any), (1, .one .any), (5, .one (.own 9)), (6, .one .any), (7, .one .any)]), (6, [(0, .one .any), (1, .one .any), (5, .one (.own 9)), (6, .one .any), (7, .one .any)]), (7, [(0, .one .any), (1, .one .any), (5, .one (.own 9)), (6, .one .any), (7, .one .any)]), (8, [(0, .one .any), (1, .one .any), (5, .one (.own 9)), (7, .one .any)]), (9, [(5, .one (.own 9))])] [.one (.own 9)] ⟨0, 0⟩
noncomputable def c_69 (args : List (AV tau)) (m : Mem tau) (κ : AV tau → Mem tau → Option Unit) : Option Unit := match args, m.bx, m.rw with
  | [b0, b1], [], [] => bO (asS b0) fun a0 => bO (asI .u8 b1) fun a1 => callX (fun n => spec_l15Find.f n a0 a1) fun t => κ (.int .i64 (t)) ⟨[], []⟩
  | _, _, _ => none
def E_69 : Env tau := mkE [(0, [(0, .one .any), (1, .one .any)]), (1, [(0, .one .any), (1, .one .any)]), (2, [(0, .one .any), (1, .one .any), (5, .one .any)]), (3, [(0, .one .any), (1, .one .any), (5, .one .any)]), (4, [(0, .one .any), (1, .one .any), (5, .one .any)]), (5, [(5, .one .any)]), (6, [])] [.one .any] ⟨0, 0⟩
noncomputable def c_70 (args : List (AV tau)) (m : Mem tau) (κ : AV tau → Mem tau → Option Unit) : Option Unit := match args, m.bx, m.rw with
  | [b0], [], [] => bO (asS b0) fun a0 => callX (fun n => spec_l15Num.f n a0) fun t => κ (.tup [.int .i64 (t.1), .bool (t.2)]) ⟨[], []⟩
  | _, _, _ => none
def E_70 : Env tau := mkE [(0, [(0, .one .any)]), (1, [(0, .one .any)]), (2, [(0, .one .any), (4, .one .any)]), (3, [(0, .one .any), (4, .one .any)]), (4, [(0, .one .any), (4, .one .any)]), (5, []), (6, [(0, .one .any), (4, .one .any)]), (7, [(0, .one .any), (4, .one .any), (5, .one .any)]), (8, [(0, .one .any), (4, .one .any), (5, .one .any), (6, .one .any)]), (9, [(0, .one .any), (4, .one .any), (5, .one .any), (6, .one .any)]), (10, [(0, .one .any), (4, .one .any), (5, .one .any), (6, .one .any)]), (11, []), (12, [(0, .one .any), (4, .one .any), (5, .one .any), (6, .one .any)]), (13, [(4, .one .any), (5, .one .any)]), (14, [(5, .one .any)]), (15, [(5, .one .any)])] [.one .any, .one .any] ⟨0, 0⟩
noncomputable def c_24 (args : List (AV tau)) (m : Mem tau) (κ : AV tau → Mem tau → Option Unit) : Option Unit := match args, m.bx, m.rw with
  | [b0], [], [] => bO (asS b0) fun a0 => callX (fun n => spec_BoxRead.f n a0) fun t => κ (.tup [.own 0 0, .bool (t.2)]) ⟨[], [some ⟨70, t.1, 0⟩]⟩
  | _, _, _ => none
def E_24 : Env tau := mkE [(0, [(0, .one .any)]), (1, [(0, .one .any)]), (2, []), (3, [(0, .one .any)]), (4, [(4, .one (.own 9))]), (5, [(4, .one (.own 9)), (5, .one (.own 70))]), (6, [(4, .one (.own 9)), (5, .one (.own 70)), (6, .one .any)]), (7, [(4, .one (.own 9)), (5, .one (.own 70)), (6, .one .any)]), (8, [(4, .one (.own 9)), (5, .one (.own 70)), (6, .one .any)]), (9, [(4, .one (.own 9)), (5, .one (.own 70)), (6, .one .any), (7, .one .any)]), (10, []), (11, [(4, .one (.own 9)), (5, .one (.own 70)), (6, .one .any), (7, .one .any)]), (12, [(4, .one (.own 9)), (5, .one (.own 70)), (6, .one .any), (7, .one .any), (8, .one .any), (9, .one .any)]), (13, [(4, .one (.own 9)), (5, .one (.own 70)), (6, .one .any), (8, .one .any), (9, .one .any), (10, .one .any), (11, .one .any)]), (14, []), (15, [(4, .one (.own 9)), (5, .one (.own 70)), (6, .one .any), (8, .one .any), (10, .one .any)]), (16, [(5, .one (.own 70))]), (17, []), (18, [(5, .one (.own 70))])] [.one (.own 70), .one .any] ⟨0, 0⟩
noncomputable def c_61 (args : List (AV tau)) (m : Mem tau) (κ : AV tau → Mem tau → Option Unit) : Option Unit := match args, m.bx, m.rw with
  | [b0], [], [] => bO (asS b0) fun a0 => callX (fun n => impl_integer.f n a0) fun t => κ (.tup [.int .i64 (t.1), .bool (t.2)]) ⟨[], []⟩
  | _, _, _ => none
def E_61 : Env tau := mkE [(0, [(0, .one .any)]), (1, [(0, .one .any)]), (2, [(0, .one .any), (4, .one .any)]), (3, []), (4, [(0, .one .any), (4, .one .any)]), (5, [(0, .one .any), (4, .one .any), (5, .one .any)]), (6, [(0, .one .any), (4, .one .any), (5, .one .any), (6, .one .any)]), (7, [(0, .one .any), (4, .one .any), (5, .one .any), (6, .one .any)]), (8, [(0, .one .any), (4, .one .any), (5, .one .any), (6, .one .any)]), (9, []), (10, [(0, .one .any), (4, .one .any), (5, .one .any), (6, .one .any)]), (11, [(0, .one .any), (4, .one .any), (5, .one .any)]), (12, [(5, .one .any)]), (13, [(5, .one .any)])] [.one .any, .one .any] ⟨0, 0⟩
noncomputable def c_17 (args : List (AV tau)) (m : Mem tau) (κ : AV tau → Mem tau → Option Unit) : Option Unit := match args, m.bx, m.rw with
  | [b0], [], [] => bO (asSl 70 b0) fun l0 => callX (fun n => impl_BoxText.f n l0) fun t => κ (.str (t)) ⟨[], []⟩
  | _, _, _ => none
def E_17 : Env tau := mkE [(0, [(0, .one (.own 70))]), (1, [(0, .one (.own 70))]), (2, [(0, .one (.own 70)), (3, .one (.own 9))]), (3, [(3, .one (.own 9)), (6, .one (.own 70)), (7, .one .any), (8, .one .any)]), (4, [(3, .one (.own 9)), (6, .one (.own 70)), (7, .one .any), (8, .one .any)]), (5, [(3, .one (.own 9)), (5, .one .any), (6, .one (.own 70)), (7, .one .any), (8, .one .any)]), (6, [(3, .one (.own 9)), (6, .one (.own 70)), (7, .one .any), (8, .one .any)]), (7, [(3, .one (.own 9))])] [.one .any] ⟨0, 0⟩
noncomputable def c_18 (args : List (AV tau)) (m : Mem tau) (κ : AV tau → Mem tau → Option Unit) : Option Unit := match args, m.bx, m.rw with
  | [b0], [], [] => bO (asS b0) fun a0 => callX (fun n => impl_BoxRead.f n a0) fun t => κ (.tup [.own 0 0, .bool (t.2)]) ⟨[], [some ⟨70, t.1, 0⟩]⟩
  | _, _, _ => none
def E_18 : Env tau := mkE [(0, [(0, .one .any)]), (1, [(0, .one .any)]), (2, []), (3, [(0, .one .any)]), (4, [(0, .one .any), (4, .one (.own 70))]), (5, [(0, .one .any), (4, .one (.own 70)), (18, .one (.own 9)), (19, .one .any), (20, .one .any)]), (6, [(0, .one .any), (4, .one (.own 70)), (18, .one (.own 9)), (19, .one .any), (20, .one .any)]), (7, [(0, .one .any), (4, .one (.own 70)), (6, .one .any), (18, .one (.own 9)), (19, .one .any), (20, .one .any)]), (8, [(0, .one .any), (4, .one (.own 70)), (7, .one .any), (8, .one .any), (18, .one (.own 9)), (19, .one .any), (20, .one .any)]), (9, [(0, .one .any), (4, .one (.own 70)), (8, .one .any), (10, .one .any), (11, .one .any), (18, .one (.own 9)), (19, .one .any), (20, .one .any)]), (10, [(0, .one .any), (4, .one (.own 70)), (10, .one .any), (11, .one .any), (12, .one .any), (13, .one .any), (18, .one (.own 9)), (19, .one .any), (20, .one .any)]), (11, []), (12, [(0, .one .any), (4, .one (.own 70)), (10, .one .any), (12, .one .any), (18, .one (.own 9)), (19, .one .any), (20, .one .any)]), (13, [(0, .one .any), (4, .one (.own 70)), (18, .one (.own 9)), (19, .one .any), (20, .one .any)]), (14, [(0, .one .any), (4, .one (.own 70))]), (15, []), (16, [(4, .one (.own 70))])] [.one (.own 70), .one .any] ⟨0, 0⟩
noncomputable def c_10 (args : List (AV tau)) (m : Mem tau) (κ : AV tau → Mem tau → Option Unit) : Option Unit := match args, m.bx, m.rw with
  | [b0], [], [] => bO (asS b0) fun a0 => callX (fun n => laws_FnExactBoxRead.f n a0) fun t => κ (.bool (t)) ⟨[], []⟩
  | _, _, _ => none
def E_10 : Env tau := mkE [(0, [(0, .one .any)]), (1, [(0, .one .any)]), (2, []), (3, [(0, .one .any)]), (4, [(0, .one .any), (3, .one (.own 70)), (4, .one .any)]), (5, [(0, .one .any), (3, .one (.own 70)), (4, .one .any), (5, .one (.own 70)), (6, .one .any)]), (6, []), (7, [(0, .one .any), (3, .one (.own 70)), (4, .one .any), (5, .one (.own 70))]), (8, [(0, .one .any), (3, .one (.own 70)), (4, .one .any), (5, .one (.own 70)), (7, .one .any)]), (9, [(0, .one .any), (3, .one (.own 70)), (4, .one .any), (5, .one (.own 70)), (7, .one .any)]), (10, [(0, .one .any), (3, .one (.own 70)), (4, .one .any), (5, .one (.own 70)), (7, .one .any), (8, .one .any)]), (11, [(0, .one .any), (3, .one (.own 70)), (4, .one .any), (5, .one (.own 70)), (7, .one .any), (8, .one .any)]), (12, []), (13, [(0, .one .any), (3, .one (.own 70)), (4, .one .any), (5, .one (.own 70)), (7, .one .any), (8, .one .any)]), (14, []), (15, [(0, .one .any), (3, .one (.own 70)), (4, .one .any), (5, .one (.own 70)), (7, .one .any)]), (16, [(3, .one (.own 70)), (4, .one .any), (5, .one (.own 70)), (7, .one .any), (9, .one (.own 70)), (10, .one .any)]), (17, []), (18, [(5, .one (.own 70)), (7, .one .any)]), (19, [(5, .one (.own 70)), (7, .one .any), (8, .one .any)]), (20, [(7, .one .any), (8, .one .any)]), (21, []), (22, [(7, .one .any), (8, .one .any)]), (23, []), (24, [])] [.one .any] ⟨0, 0⟩
end Go.Proofs.YtlpgpckggnimhaaDoor.PFnExactBoxRead