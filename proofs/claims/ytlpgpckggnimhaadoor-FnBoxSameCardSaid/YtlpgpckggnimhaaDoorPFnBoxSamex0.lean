/- The machine's texts of FnBoxSame (definitions, table, contracts). Conditions: none. -/
import Derived.Test.YtlpgpckggnimhaaDoorProg
import Derived.Test.YtlpgpckggnimhaaDoorSWFnBoxSame
import Derived.Test.YtlpgpckggnimhaaDoorAm38
import Derived.RowKit
import Derived.KernelRfl
import Derived.Test.YtlpgpckggnimhaaDoorAm41
import Derived.Test.YtlpgpckggnimhaaDoorRows
import Derived.Test.YtlpgpckggnimhaaDoorLay
set_option linter.unusedVariables false
set_option maxRecDepth 100000
namespace Go.Proofs.YtlpgpckggnimhaaDoor.PFnBoxSame
open Go.RowKit Go.Proofs.YtlpgpckggnimhaaDoorW.PrintWords Go.Proofs.YtlpgpckggnimhaaDoorW.PrintLast Go.Proofs.YtlpgpckggnimhaaDoorW.PrintMore
def errW : Option Int → Value
  | none => .nilIface
  | some c => .iface 0 (.int .i64 c)
structure S70 where
  f0 : Int
  f1 : Int
def z70 : S70 := ⟨(0 : Int), (0 : Int)⟩
def rd_T70 (xs : List S70) (i : Int) : S70 := xs.getD i.toNat z70
def impl_same_impl_Box.l0 : Nat → List (S70) → List (S70) → Int → Int → Option (Bool)
  | 0, _, _, _, _ => none
  | k + 1, x0, x1, x12, x13 => if x13 < x12 then (if 0 ≤ x13 then (if x13 < (x0.length : Int) then (if x13 < (x1.length : Int) then (if (!(((rd_T70 x0 x13).f0) == ((rd_T70 x1 x13).f0)) || (!(((rd_T70 x0 x13).f1) == ((rd_T70 x1 x13).f1)))) = true then (some false) else (impl_same_impl_Box.l0 k x0 x1 x12 (wrap64 (x13 + 1)))) else (none)) else (none)) else (none)) else (some true)
def impl_same_impl_Box.f (k : Nat) (l0 : List (S70)) (l1 : List (S70)) : Option (Bool) := if (l0.length : Int) = (l1.length : Int) then (impl_same_impl_Box.l0 k l0 l1 (l0.length : Int) 0) else (some false)
def impl_BoxSame.f (k : Nat) (l0 : List (S70)) (l1 : List (S70)) : Option (Bool) := (impl_same_impl_Box.f k l0 l1).bind fun t125 => (some t125)
def spec_l15Rd_pick.j0 : Nat → Int → Bool → List Int → Int → Option (Int × Int)
  | 0, _, _, _, _ => none
  | k + 1, x1, x24, x1000, x1001 => if x24 = true then (some (0, x1001)) else (if (wrap64 (x1001 - 1)) < (x1000.length : Int) then (if 0 ≤ (wrap64 (x1001 - 1)) then (if x1 = 0 then (none) else (some (Int.tmod (wrap64 (rd x1000 (wrap64 (x1001 - 1)))) x1, x1001))) else (none)) else (if (x1000.length : Int) = 0 then (none) else (if 0 ≤ (Int.tmod (wrap64 (x1001 - 1)) (x1000.length : Int)) then (if (Int.tmod (wrap64 (x1001 - 1)) (x1000.length : Int)) < (x1000.length : Int) then (if 0 ≤ (Int.tmod (wrap64 ((wrap64 ((wrap64 (x1001 - 1)) * 7)) + 3)) (x1000.length : Int)) then (if (Int.tmod (wrap64 ((wrap64 ((wrap64 (x1001 - 1)) * 7)) + 3)) (x1000.length : Int)) < (x1000.length : Int) then (if x1 = 0 then (none) else (some (Int.tmod (Go.bits .xor .i64 (wrap64 ((wrap64 ((wrap64 ((wrap64 ((wrap64 (rd x1000 (Int.tmod (wrap64 (x1001 - 1)) (x1000.length : Int)))) * 131)) + (wrap64 ((wrap64 (rd x1000 (Int.tmod (wrap64 ((wrap64 ((wrap64 (x1001 - 1)) * 7)) + 3)) (x1000.length : Int)))) * 1117)))) + (wrap64 ((wrap64 (x1001 - 1)) * 29)))) + (wrap64 ((wrap64 (Int.tdiv (wrap64 (x1001 - 1)) (x1000.length : Int))) * 53)))) (wrap64 (Int.tdiv (wrap64 ((wrap64 ((wrap64 ((wrap64 ((wrap64 (rd x1000 (Int.tmod (wrap64 (x1001 - 1)) (x1000.length : Int)))) * 131)) + (wrap64 ((wrap64 (rd x1000 (Int.tmod (wrap64 ((wrap64 ((wrap64 (x1001 - 1)) * 7)) + 3)) (x1000.length : Int)))) * 1117)))) + (wrap64 ((wrap64 (x1001 - 1)) * 29)))) + (wrap64 ((wrap64 (Int.tdiv (wrap64 (x1001 - 1)) (x1000.length : Int))) * 53)))) 64))) x1, x1001))) else (none)) else (none)) else (none)) else (none))))
def spec_l15Rd_pick.f (k : Nat) (s0_0 : List Int) (s0_1 : Int) (a1 : Int) : Option (Int × Int) := if a1 < 1 then (spec_l15Rd_pick.j0 k a1 true s0_0 (wrap64 (s0_1 + 1))) else (spec_l15Rd_pick.j0 k a1 ((s0_0.length : Int) == 0) s0_0 (wrap64 (s0_1 + 1)))
def spec_BoxOpen.f  : Option ((List (S70))) := if 4 ≤ 17592186044416 then (some (List.replicate 4 z70)) else (none)
def spec_l15Rd_num.f (k : Nat) (s0_0 : List Int) (s0_1 : Int) (l1 : List Int) : Option (Int × Int) := (spec_l15Rd_pick.f k s0_0 s0_1 (l1.length : Int)).bind fun bt132 => (if 0 ≤ bt132.1 then (if bt132.1 < (l1.length : Int) then (some (rd l1 bt132.1, bt132.2)) else (none)) else (none))
def spec_l1Boxes.l0 : Nat → List (S70) → Int → List Int → Int → Option ((List (S70)) × Int)
  | 0, _, _, _, _ => none
  | k + 1, x3, x4, x1000, x1001 => if x4 < (x3.length : Int) then ((spec_l15Rd_pick.f k x1000 x1001 5).bind fun bt138 => ((spec_l15Rd_num.f k x1000 bt138.2 (([0, 1, 2, 5, (-3), 7, 100, 1000000, (-1000000)] : List Int))).bind fun bt143 => (if 0 ≤ x4 then (spec_l1Boxes.l0 k (x3.set (x4 : Int).toNat (⟨bt138.1, bt143.1⟩ : S70)) (wrap64 (x4 + 1)) x1000 bt143.2) else (none)))) else ((spec_l15Rd_pick.f k x1000 x1001 30).bind fun bt146 => (if bt146.1 = 0 then (if 3 ≤ (x3.length : Int) then (some ((x3.take (3 : Int).toNat), bt146.2)) else (none)) else (if bt146.1 = 1 then ((spec_l15Rd_pick.f k x1000 bt146.2 4).bind fun bt151 => ((spec_l15Rd_num.f k x1000 bt151.2 (([(-1), 1000001] : List Int))).bind fun bt156 => (if 0 ≤ bt151.1 then (if bt151.1 < (x3.length : Int) then (some ((x3.set (bt151.1 : Int).toNat (⟨bt156.1, (rd_T70 x3 bt151.1).f1⟩ : S70)), bt156.2)) else (none)) else (none)))) else (if bt146.1 = 2 then ((spec_l15Rd_pick.f k x1000 bt146.2 4).bind fun bt159 => ((spec_l15Rd_num.f k x1000 bt159.2 (([1000001, (-1000001)] : List Int))).bind fun bt164 => (if 0 ≤ bt159.1 then (if bt159.1 < (x3.length : Int) then (some ((x3.set (bt159.1 : Int).toNat (⟨(rd_T70 x3 bt159.1).f0, bt164.1⟩ : S70)), bt164.2)) else (none)) else (none)))) else (some (x3, bt146.2))))))
def spec_l1Boxes.f (k : Nat) (s0_0 : List Int) (s0_1 : Int) : Option ((List (S70)) × Int) := (spec_BoxOpen.f).bind fun t135 => (spec_l1Boxes.l0 k t135 0 s0_0 s0_1)
def spec_l15Open.f (l0 : List Int) : Option (List Int × Int) := if (l0.length : Int) > 2000 then (if 2000 ≤ (l0.length : Int) then (some (l0.take 2000, 0)) else (none)) else (some (l0, 0))
def spec_DrawBoxOk.f (k : Nat) (l0 : List Int) : Option ((List (S70))) := (spec_l15Open.f l0).bind fun bt187 => ((spec_l1Boxes.f k bt187.1 bt187.2).bind fun bt190 => (some bt190.1))
def spec_BoxSame.l0 : Nat → List (S70) → List (S70) → Int → Option (Bool)
  | 0, _, _, _ => none
  | k + 1, x0, x1, x5 => if x5 < (x0.length : Int) then (if 0 ≤ x5 then (if x5 < (x1.length : Int) then (if (!(((rd_T70 x0 x5).f0) == ((rd_T70 x1 x5).f0)) || (!(((rd_T70 x0 x5).f1) == ((rd_T70 x1 x5).f1)))) = true then (some false) else (spec_BoxSame.l0 k x0 x1 (wrap64 (x5 + 1)))) else (none)) else (none)) else (some true)
def spec_BoxSame.f (k : Nat) (l0 : List (S70)) (l1 : List (S70)) : Option (Bool) := if (l0.length : Int) = (l1.length : Int) then (spec_BoxSame.l0 k l0 l1 0) else (some false)
open Am
def spec_DrawBoxSame.f (k : Nat) (l0 : List Int) : Option ((List S70) × (List S70)) := (spec_l15Open.f l0).bind fun t0 => ((spec_l1Boxes.f k t0.1 t0.2).bind fun t1 => ((spec_l15Open.f l0).bind fun t2 => ((spec_l1Boxes.f k t2.1 t2.2).bind fun t3 => (if (((l0.length : Nat) : Int) > (0 : Int)) then (if ((0 : Int) < ((l0.length : Nat) : Int)) then (if ((Int.tmod (rd l0 (0 : Int)) (2 : Int)) = (1 : Int)) then (if ((0 : Int) < (((t3.1).length : Nat) : Int)) then (if ((0 : Int) < (((t3.1).length : Nat) : Int)) then (some (t1.1, (List.set t3.1 (Int.toNat (0 : Int)) (⟨(wrap64 (((rd_T70 t3.1 (0 : Int))).f0 + (1 : Int))), ((rd_T70 t3.1 (0 : Int))).f1⟩ : S70)))) else (none)) else (none)) else (some (t1.1, t3.1))) else (none)) else (some (t1.1, t3.1))))))
mutual
def impl_BoxText.l0 : Nat → (List S70) → Int → Int → (List ByteArray) → Option (ByteArray)
  | 0, _, _, _, _ => none
  | k + 1, x0, x1, x2, x3 => if (x2 < x1) then (if ((0 : Int) ≤ x2) then (if (x2 < ((x0.length : Nat) : Int)) then ((strconv_Itoa.f k ((rd_T70 x0 x2)).f1).bind fun t0 => (if ((t0.size + 1) ≤ 9223372036854775807) then ((strconv_Itoa.f k ((rd_T70 x0 x2)).f0).bind fun t1 => (if ((((t0 ++ (bs [47]))).size + t1.size) ≤ 9223372036854775807) then (if ((x3.length + 1) ≤ 8796093022208) then (impl_BoxText.l0 k x0 x1 (wrap64 (x2 + (1 : Int))) (x3 ++ ([((t0 ++ (bs [47])) ++ t1)] : List ByteArray))) else (none)) else (none))) else (none))) else (none)) else (none)) else ((strings_Join.f k x3 (bs [32])).bind fun t2 => (some (t2)))
end
def impl_BoxText.f (k : Nat) (l0 : List S70) : Option (ByteArray) := impl_BoxText.l0 k l0 ((l0.length : Nat) : Int) (0 : Int) ([] : List ByteArray)
def laws_FnBoxSame.f (k : Nat) (l0 : List Int) (l1 : List Int) : Option (Bool) := if (((l0.length : Nat) : Int) > (1048576 : Int)) then (some (true)) else (if (((l1.length : Nat) : Int) > (1048576 : Int)) then (some (true)) else ((spec_DrawBoxSame.f k l0).bind fun t0 => ((spec_DrawBoxOk.f k l1).bind fun t1 => ((impl_BoxSame.f k t0.1 t0.2).bind fun t2 => ((spec_BoxSame.f k t0.1 t0.2).bind fun t3 => (if (t2 == t3) = true then ((impl_BoxSame.f k t0.1 t1).bind fun t4 => ((impl_BoxSame.f k t1 t0.1).bind fun t5 => (if (t4 == t5) = true then ((impl_BoxSame.f k t0.1 t0.1).bind fun t6 => (if t6 = true then ((impl_BoxSame.f k t0.1 t0.2).bind fun t7 => ((impl_BoxText.f k t0.1).bind fun t8 => ((impl_BoxText.f k t0.2).bind fun t9 => (if (t7 == (decide (t8 = t9))) = true then ((impl_BoxSame.f k t0.1 t1).bind fun t10 => ((impl_BoxText.f k t0.1).bind fun t11 => ((impl_BoxText.f k t1).bind fun t12 => (some ((t10 == (decide (t11 = t12)))))))) else (some (false)))))) else (some (false)))) else (some (false))))) else (some (false))))))))
open Go Go.Proofs Am
def tau : TypeId → Type
  | 3 => Int
  | 5 => Int
  | 9 => ByteArray
  | 70 => S70
  | _ => Unit
def tabL : List (TypeId × TI) := [(2, ⟨[.int .i64], .scal⟩), (3, ⟨[.int .i64], .scal⟩), (4, ⟨[.bool], .scal⟩), (5, ⟨[.int .u8], .scal⟩), (9, ⟨[.str], .scal⟩), (28, ⟨[.sl 5], .sl 5⟩), (29, ⟨[.sl 70], .sl 70⟩), (42, ⟨[.sl 3], .sl 3⟩), (57, ⟨[.sl 9], .sl 9⟩), (70, ⟨[.int .i64, .int .i64], .st [(0, 3), (1, 3)]⟩), (98, ⟨[.sl 5, .int .i64], .st [(0, 28), (1, 3)]⟩)]
def rowT : (e : TypeId) → tau e → List (Lf tau)
  | 3, (x : Int) => [.i x]
  | 5, (x : Int) => [.i x]
  | 9, (x : ByteArray) => [.s x]
  | 70, (x : S70) => [.i x.f0, .i x.f1]
  | _, _ => []
instance : (e : TypeId) → Inhabited (tau e) := fun e => by unfold tau; split <;> first | exact ⟨(0 : Int)⟩ | exact ⟨false⟩ | exact ⟨(default : ByteArray)⟩ | exact ⟨[]⟩ | exact ⟨()⟩ | exact ⟨z70⟩
def of3 : List (Lf tau) → Int
  | [(.i y0)] => y0
  | _ => (0 : Int)
def of5 : List (Lf tau) → Int
  | [(.i y0)] => y0
  | _ => (0 : Int)
def of9 : List (Lf tau) → ByteArray
  | [(.s y0)] => y0
  | _ => (default : ByteArray)
def of70 : List (Lf tau) → S70
  | [(.i y0), (.i y1)] => (⟨y0, y1⟩ : S70)
  | _ => z70
def ofT : (e : TypeId) → List (Lf tau) → tau e
  | 3, l => of3 l
  | 5, l => of5 l
  | 9, l => of9 l
  | 70, l => of70 l
  | _, _ => default
def powName : String := Rows.fnBoxSameRow.named.getD 0 default
def GL : World → (Nat → Prop) → Prop := glA Tryd.prog powName Lib.pow10Tab 0 1
def TT : Tab tau := { get := fun t => lookN t tabL, row := rowT, of := ofT, el := fun t => memN t [3, 5, 9, 70], gl := GL, glN := glA_next }
def byT : TypeId → Nat := fun t => lookD 1 t [(2, 8), (3, 8), (4, 1), (5, 1), (9, 16), (28, 24), (29, 24), (42, 24), (57, 24), (70, 16), (98, 32)]
def modeL : List (Nat × Nat) := [(67, 1), (85, 1), (56, 1), (57, 1)]
def shpL : List (Nat × List PS) := [(59, [.one (.own 9), .one .any]), (58, [.one .any]), (66, [.one (.sl 70), .one (.sl 70)]), (22, [.one (.sl 70), .one (.sl 70)]), (67, [.one .any, .one .any]), (84, []), (85, [.one .any, .one (.own 3)]), (56, [.one .any]), (57, [.one (.sl 5)]), (41, [.one (.sl 5)]), (42, [.one (.sl 70), .one (.sl 70)]), (40, [.one (.sl 5)]), (17, [.one (.sl 70)]), (7, [.one (.sl 5), .one (.sl 5)])]
def persL : List (Nat × List Nat) := [(59, [0]), (85, [1])]
def pnL : List (Nat × Nat) := [(59, 1), (85, 1)]
def pnT : FuncId → Nat := fun f => lookD 0 f pnL
def mkE (keep : List (Nat × List (Nat × PS))) (res : List PS) (nb : NB) : Env tau := { T := TT, by_ := byT, mode := fun f => lookD 0 f modeL, shp := fun f => lookD [] f shpL, keep := fun i => lookN i keep, res := res, pers := fun f => lookD [] f persL, pn := pnT, nb := nb }
theorem asked : Asked Tryd.prog byT tabL := ⟨by kernel_rfl, by kernel_rfl, by kernel_rfl, by kernel_rfl⟩
theorem el_3 : ElOk TT 3 := by
 intro ti h
 replace h : some (⟨[.int .i64], .scal⟩ : TI) = some ti := h
 cases h
 refine ⟨fun x => rfl, fun l hl => ?_⟩
 obtain ⟨y0, l0, e0, h0⟩ := wts_i hl
 have e1 := wts_nil h0
 subst e1
 subst e0
 rfl
theorem el_5 : ElOk TT 5 := by
 intro ti h
 replace h : some (⟨[.int .u8], .scal⟩ : TI) = some ti := h
 cases h
 refine ⟨fun x => rfl, fun l hl => ?_⟩
 obtain ⟨y0, l0, e0, h0⟩ := wts_i hl
 have e1 := wts_nil h0
 subst e1
 subst e0
 rfl
theorem el_9 : ElOk TT 9 := by
 intro ti h
 replace h : some (⟨[.str], .scal⟩ : TI) = some ti := h
 cases h
 refine ⟨fun x => rfl, fun l hl => ?_⟩
 obtain ⟨y0, l0, e0, h0⟩ := wts_s hl
 have e1 := wts_nil h0
 subst e1
 subst e0
 rfl
theorem el_70 : ElOk TT 70 := by
 intro ti h
 replace h : some (⟨[.int .i64, .int .i64], .st [(0, 3), (1, 3)]⟩ : TI) = some ti := h
 cases h
 refine ⟨fun x => rfl, fun l hl => ?_⟩
 obtain ⟨y0, l0, e0, h0⟩ := wts_i hl
 obtain ⟨y1, l1, e1, h1⟩ := wts_i h0
 have e2 := wts_nil h1
 subst e2
 subst e1
 subst e0
 rfl
theorem pq : PQ Tryd.prog TT byT := pq_of asked rfl (fun e he => by
 have h := memN_iff.1 he
 simp only [List.mem_cons, List.not_mem_nil, or_false] at h
 rcases h with rfl | rfl | rfl | rfl
 · exact el_3
 · exact el_5
 · exact el_9
 · exact el_70)
theorem hmix : Tryd.prog.follows .mixedOrders = true := by kernel_rfl
noncomputable def c_59 (args : List (AV tau)) (m : Mem tau) (κ : AV tau → Mem tau → Option Unit) : Option Unit := match args, m.bx, m.rw with
  | [b0, b1], [], [r0] => bO (asOwn 0 b0) fun _ => bO (asRow 9 r0) fun l0 => bO (asS b1) fun a1 => callX (fun n => strings_Join.f n l0 a1) fun t => κ (.str (t)) ⟨[], [some ⟨9, l0, 0⟩]⟩
  | _, _, _ => none
noncomputable def c_58 (args : List (AV tau)) (m : Mem tau) (κ : AV tau → Mem tau → Option Unit) : Option Unit := match args, m.bx, m.rw with
  | [b0], [], [] => bO (asI .i64 b0) fun a0 => callX (fun n => strconv_Itoa.f n a0) fun t => κ (.str (t)) ⟨[], []⟩
  | _, _, _ => none
noncomputable def c_66 (args : List (AV tau)) (m : Mem tau) (κ : AV tau → Mem tau → Option Unit) : Option Unit := match args, m.bx, m.rw with
  | [b0, b1], [], [] => bO (asSl 70 b0) fun l0 => bO (asSl 70 b1) fun l1 => callX (fun n => impl_same_impl_Box.f n l0 l1) fun t => κ (.bool (t)) ⟨[], []⟩
  | _, _, _ => none
def E_66 : Env tau := mkE [(0, [(0, .one (.own 70)), (1, .one (.own 70))]), (1, [(0, .one (.own 70)), (1, .one (.own 70))]), (2, []), (3, [(0, .one (.own 70)), (1, .one (.own 70))]), (4, [(0, .one (.own 70)), (1, .one (.own 70)), (12, .one .any), (13, .one .any)]), (5, [(0, .one (.own 70)), (1, .one (.own 70)), (12, .one .any), (13, .one .any)]), (6, [(0, .one (.own 70)), (1, .one (.own 70)), (5, .one .any), (12, .one .any), (13, .one .any)]), (7, []), (8, [(0, .one (.own 70)), (1, .one (.own 70)), (12, .one .any), (13, .one .any)]), (9, [])] [.one .any] ⟨0, 0⟩
noncomputable def c_22 (args : List (AV tau)) (m : Mem tau) (κ : AV tau → Mem tau → Option Unit) : Option Unit := match args, m.bx, m.rw with
  | [b0, b1], [], [] => bO (asSl 70 b0) fun l0 => bO (asSl 70 b1) fun l1 => callX (fun n => impl_BoxSame.f n l0 l1) fun t => κ (.bool (t)) ⟨[], []⟩
  | _, _, _ => none
def E_22 : Env tau := mkE [(0, [(0, .one (.own 70)), (1, .one (.own 70))]), (1, [(0, .one (.own 70)), (1, .one (.own 70))])] [.one .any] ⟨0, 0⟩
noncomputable def c_67 (args : List (AV tau)) (m : Mem tau) (κ : AV tau → Mem tau → Option Unit) : Option Unit := match args, m.bx, m.rw with
  | [p0, b0], [some (t0_, [c0_0, c0_1])], [] => bO (asPtr 0 p0) fun _ => bO (asT 98 t0_) fun _ => bO (asSl 5 c0_0) fun s0_0 => bO (asI .i64 c0_1) fun s0_1 => bO (asI .i64 b0) fun a1 => callX (fun n => spec_l15Rd_pick.f n s0_0 s0_1 a1) fun t => κ (.int .i64 (t.1)) ⟨[some (98, [.sl 5 (s0_0), .int .i64 (t.2)])], []⟩
  | _, _, _ => none
def E_67 : Env tau := mkE [(0, [(0, .one .any), (1, .one .any)]), (1, [(0, .one .any), (1, .one .any)]), (2, [(0, .one .any), (1, .one .any)]), (3, []), (4, [(0, .one .any), (1, .one .any)]), (5, [(0, .one .any), (1, .one .any), (5, .one .any)]), (6, [(0, .one .any), (1, .one .any), (5, .one .any)]), (7, [(0, .one .any), (1, .one .any), (5, .one .any)]), (8, [(1, .one .any), (6, .one .any)]), (9, [(1, .one .any), (6, .one .any)])] [.one .any] ⟨1, 0⟩
noncomputable def c_84 (args : List (AV tau)) (m : Mem tau) (κ : AV tau → Mem tau → Option Unit) : Option Unit := match args, m.bx, m.rw with
  | [], [], [] => callX (fun n => spec_BoxOpen.f) fun t => κ (.own 0 0) ⟨[], [some ⟨70, t, 0⟩]⟩
  | _, _, _ => none
def E_84 : Env tau := mkE [(0, []), (1, [])] [.one (.own 70)] ⟨0, 0⟩
noncomputable def c_85 (args : List (AV tau)) (m : Mem tau) (κ : AV tau → Mem tau → Option Unit) : Option Unit := match args, m.bx, m.rw with
  | [p0, b0], [some (t0_, [c0_0, c0_1])], [r0] => bO (asPtr 0 p0) fun _ => bO (asT 98 t0_) fun _ => bO (asSl 5 c0_0) fun s0_0 => bO (asI .i64 c0_1) fun s0_1 => bO (asOwn 0 b0) fun _ => bO (asRow 3 r0) fun l1 => callX (fun n => spec_l15Rd_num.f n s0_0 s0_1 l1) fun t => κ (.int .i64 (t.1)) ⟨[some (98, [.sl 5 (s0_0), .int .i64 (t.2)])], [some ⟨3, l1, 0⟩]⟩
  | _, _, _ => none
def E_85 : Env tau := mkE [(0, [(0, .one .any), (1, .one (.own 3))]), (1, [(0, .one .any), (1, .one (.own 3))])] [.one .any] ⟨1, 1⟩
noncomputable def c_56 (args : List (AV tau)) (m : Mem tau) (κ : AV tau → Mem tau → Option Unit) : Option Unit := match args, m.bx, m.rw with
  | [p0], [some (t0_, [c0_0, c0_1])], [] => bO (asPtr 0 p0) fun _ => bO (asT 98 t0_) fun _ => bO (asSl 5 c0_0) fun s0_0 => bO (asI .i64 c0_1) fun s0_1 => callX (fun n => spec_l1Boxes.f n s0_0 s0_1) fun t => κ (.own 0 0) ⟨[some (98, [.sl 5 (s0_0), .int .i64 (t.2)])], [some ⟨70, t.1, 0⟩]⟩
  | _, _, _ => none
def E_56 : Env tau := mkE [(0, [(0, .one .any)]), (1, [(0, .one .any)]), (2, [(0, .one .any), (3, .one (.own 70))]), (3, [(0, .one .any), (3, .one (.own 70)), (4, .one .any)]), (4, [(0, .one .any), (3, .one (.own 70)), (4, .one .any)]), (5, [(0, .one .any), (3, .one (.own 70)), (4, .one .any)]), (6, [(0, .one .any), (3, .one (.own 70))]), (7, [(0, .one .any), (3, .one (.own 70)), (22, .one .any)]), (8, [(3, .one (.own 70))]), (9, [(0, .one .any), (3, .one (.own 70)), (22, .one .any)]), (10, [(0, .one .any), (3, .one (.own 70))]), (11, [(0, .one .any), (3, .one (.own 70)), (22, .one .any)]), (12, [(0, .one .any), (3, .one (.own 70))]), (13, [(3, .one (.own 70))])] [.one (.own 70)] ⟨1, 0⟩
noncomputable def c_57 (args : List (AV tau)) (m : Mem tau) (κ : AV tau → Mem tau → Option Unit) : Option Unit := match args, m.bx, m.rw with
  | [b0], [], [] => bO (asSl 5 b0) fun l0 => callX (fun n => spec_l15Open.f l0) fun t => κ (.ptr 0 0) ⟨[some (98, [.sl 5 (t.1), .int .i64 (t.2)])], []⟩
  | _, _, _ => none
def E_57 : Env tau := mkE [(0, [(0, .one (.own 5))]), (1, [(0, .one (.own 5))]), (2, [(0, .one (.own 5))]), (3, [(0, .one (.own 5))])] [.one .any] ⟨0, 0⟩
noncomputable def c_41 (args : List (AV tau)) (m : Mem tau) (κ : AV tau → Mem tau → Option Unit) : Option Unit := match args, m.bx, m.rw with
  | [b0], [], [] => bO (asSl 5 b0) fun l0 => callX (fun n => spec_DrawBoxOk.f n l0) fun t => κ (.own 0 0) ⟨[], [some ⟨70, t, 0⟩]⟩
  | _, _, _ => none
def E_41 : Env tau := mkE [(0, [(0, .one (.own 5))]), (1, [(0, .one (.own 5))])] [.one (.own 70)] ⟨0, 0⟩
noncomputable def c_42 (args : List (AV tau)) (m : Mem tau) (κ : AV tau → Mem tau → Option Unit) : Option Unit := match args, m.bx, m.rw with
  | [b0, b1], [], [] => bO (asSl 70 b0) fun l0 => bO (asSl 70 b1) fun l1 => callX (fun n => spec_BoxSame.f n l0 l1) fun t => κ (.bool (t)) ⟨[], []⟩
  | _, _, _ => none
def E_42 : Env tau := mkE [(0, [(0, .one (.own 70)), (1, .one (.own 70))]), (1, [(0, .one (.own 70)), (1, .one (.own 70))]), (2, []), (3, [(0, .one (.own 70)), (1, .one (.own 70))]), (4, [(0, .one (.own 70)), (1, .one (.own 70)), (5, .one .any)]), (5, [(0, .one (.own 70)), (1, .one (.own 70)), (5, .one .any)]), (6, [(0, .one (.own 70)), (1, .one (.own 70)), (5, .one .any)]), (7, []), (8, [])] [.one .any] ⟨0, 0⟩
noncomputable def c_40 (args : List (AV tau)) (m : Mem tau) (κ : AV tau → Mem tau → Option Unit) : Option Unit := match args, m.bx, m.rw with
  | [b0], [], [] => bO (asSl 5 b0) fun l0 => callX (fun n => spec_DrawBoxSame.f n l0) fun t => κ (.tup [.own 0 0, .own 1 0]) ⟨[], [some ⟨70, t.1, 0⟩, some ⟨70, t.2, 0⟩]⟩
  | _, _, _ => none
def E_40 : Env tau := mkE [(0, [(0, .one (.own 5))]), (1, [(0, .one (.own 5))]), (2, [(0, .one (.own 5)), (4, .one (.own 70))]), (3, [(0, .one (.own 5)), (4, .one (.own 70)), (5, .one (.own 70))]), (4, [(4, .one (.own 70)), (5, .one (.own 70))]), (5, [(4, .one (.own 70)), (5, .one (.own 70))])] [.one (.own 70), .one (.own 70)] ⟨0, 0⟩
noncomputable def c_17 (args : List (AV tau)) (m : Mem tau) (κ : AV tau → Mem tau → Option Unit) : Option Unit := match args, m.bx, m.rw with
  | [b0], [], [] => bO (asSl 70 b0) fun l0 => callX (fun n => impl_BoxText.f n l0) fun t => κ (.str (t)) ⟨[], []⟩
  | _, _, _ => none
def E_17 : Env tau := mkE [(0, [(0, .one (.own 70))]), (1, [(0, .one (.own 70))]), (2, [(0, .one (.own 70)), (3, .one (.own 9))]), (3, [(3, .one (.own 9)), (6, .one (.own 70)), (7, .one .any), (8, .one .any)]), (4, [(3, .one (.own 9)), (6, .one (.own 70)), (7, .one .any), (8, .one .any)]), (5, [(3, .one (.own 9)), (5, .one .any), (6, .one (.own 70)), (7, .one .any), (8, .one .any)]), (6, [(3, .one (.own 9)), (6, .one (.own 70)), (7, .one .any), (8, .one .any)]), (7, [(3, .one (.own 9))])] [.one .any] ⟨0, 0⟩
noncomputable def c_7 (args : List (AV tau)) (m : Mem tau) (κ : AV tau → Mem tau → Option Unit) : Option Unit := match args, m.bx, m.rw with
  | [b0, b1], [], [] => bO (asSl 5 b0) fun l0 => bO (asSl 5 b1) fun l1 => callX (fun n => laws_FnBoxSame.f n l0 l1) fun t => κ (.bool (t)) ⟨[], []⟩
  | _, _, _ => none
def E_7 : Env tau := mkE [(0, [(0, .one (.own 5)), (1, .one (.own 5))]), (1, [(0, .one (.own 5)), (1, .one (.own 5))]), (2, []), (3, [(0, .one (.own 5)), (1, .one (.own 5))]), (4, [(1, .one (.own 5)), (5, .one (.own 70)), (6, .one (.own 70))]), (5, [(5, .one (.own 70)), (6, .one (.own 70)), (7, .one (.own 70))]), (6, []), (7, [(5, .one (.own 70)), (6, .one (.own 70)), (7, .one (.own 70))])] [.one .any] ⟨0, 0⟩
end Go.Proofs.YtlpgpckggnimhaaDoor.PFnBoxSame