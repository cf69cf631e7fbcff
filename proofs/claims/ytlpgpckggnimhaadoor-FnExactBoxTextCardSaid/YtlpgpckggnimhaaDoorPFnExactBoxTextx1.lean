/- The machine's texts of FnExactBoxText (definitions, table, contracts). Conditions: none. -/
import Derived.Test.YtlpgpckggnimhaaDoorProg
import Derived.Test.YtlpgpckggnimhaaDoorSWFnExactBoxText
import Derived.Test.YtlpgpckggnimhaaDoorAm38
import Derived.RowKit
import Derived.KernelRfl
import Derived.Test.YtlpgpckggnimhaaDoorAm41
import Derived.Test.YtlpgpckggnimhaaDoorRows
import Derived.Test.YtlpgpckggnimhaaDoorLay
import Derived.Test.YtlpgpckggnimhaaDoorPFnExactBoxTextx0
set_option linter.unusedVariables false
set_option maxRecDepth 100000
namespace Go.Proofs.YtlpgpckggnimhaaDoor.PFnExactBoxText
open Go.RowKit Go.Proofs.YtlpgpckggnimhaaDoorW.PrintWords Go.Proofs.YtlpgpckggnimhaaDoorW.PrintLast Go.Proofs.YtlpgpckggnimhaaDoorW.PrintMore
def errW : Option Int → Value
  | none => .nilIface
  | some c => .iface 0 (.int .i64 c)
structure S70 where
  f0 : Int
  f1 : Int
def z70 : S70 := ⟨(0 : Int), (0 : Int)⟩
def rd_T70 (xs : List S70) (i : Int) : S70 := xs.getD i.toNat z70
structure S90 where
  f0 : Int
  f1 : Int
def z90 : S90 := ⟨(0 : Int), (0 : Int)⟩
def rd_T90 (xs : List S90) (i : Int) : S90 := xs.getD i.toNat z90
def laws_szBoxS.f (l0 : List (S90)) (a1 : Int) : Option (Int) := if (wrap64 (a1 - (l0.length : Int))) < 0 then (some (-1)) else (some (wrap64 (a1 - (l0.length : Int))))
def laws_toBox.f (a0_0 : Int) (a0_1 : Int) : Option (Int × Int) := some (a0_0, a0_1)
def laws_toBoxS.l0 : Nat → List (S90) → List (S70) → Int → Option ((List (S70)))
  | 0, _, _, _ => none
  | k + 1, x0, x3, x4 => if x4 < (x0.length : Int) then (if 0 ≤ x4 then ((laws_toBox.f ((rd_T90 x0 x4).f0) ((rd_T90 x0 x4).f1)).bind fun bt145 => (if x4 < (x3.length : Int) then (laws_toBoxS.l0 k x0 (x3.set (x4 : Int).toNat (⟨bt145.1, bt145.2⟩ : S70)) (wrap64 (x4 + 1))) else (none))) else (none)) else (some x3)
def laws_toBoxS.f (k : Nat) (l0 : List (S90)) : Option ((List (S70))) := if 0 ≤ (l0.length : Int) then (if ((l0.length : Int) : Int).toNat ≤ 17592186044416 then (laws_toBoxS.l0 k l0 (List.replicate ((l0.length : Int) : Int).toNat z70) 0) else (none)) else (none)
def laws_eqBox.f (a0_0 : Int) (a0_1 : Int) (a1_0 : Int) (a1_1 : Int) : Option (Bool) := if a0_0 = a1_0 then (if a0_1 = a1_1 then (some true) else (some false)) else (some false)
def laws_eqBoxS.l0 : Nat → List (S70) → List (S70) → Int → Option (Bool)
  | 0, _, _, _ => none
  | k + 1, x0, x1, x5 => if x5 < (x0.length : Int) then (if 0 ≤ x5 then (if x5 < (x1.length : Int) then ((laws_eqBox.f ((rd_T70 x0 x5).f0) ((rd_T70 x0 x5).f1) ((rd_T70 x1 x5).f0) ((rd_T70 x1 x5).f1)).bind fun t152 => (if t152 = true then (laws_eqBoxS.l0 k x0 x1 (wrap64 (x5 + 1))) else (some false))) else (none)) else (none)) else (some true)
def laws_eqBoxS.f (k : Nat) (l0 : List (S70)) (l1 : List (S70)) : Option (Bool) := if (l0.length : Int) = (l1.length : Int) then (laws_eqBoxS.l0 k l0 l1 0) else (some false)
open Am
mutual
def spec_BoxText.l0 : Nat → (List S70) → ByteArray → Int → Option (ByteArray)
  | 0, _, _, _ => none
  | k + 1, x0, x1, x2 => if (x2 < ((x0.length : Nat) : Int)) then (if (x2 > (0 : Int)) then (if ((x1.size + 1) ≤ 9223372036854775807) then (if ((0 : Int) ≤ x2) then (if (x2 < ((x0.length : Nat) : Int)) then (if ((0 : Int) ≤ x2) then (if (x2 < ((x0.length : Nat) : Int)) then ((spec_l15Dec.f k ((rd_T70 x0 x2)).f1).bind fun t0 => (if ((((x1 ++ (bs [32]))).size + t0.size) ≤ 9223372036854775807) then (if (((((x1 ++ (bs [32])) ++ t0)).size + 1) ≤ 9223372036854775807) then ((spec_l15Dec.f k ((rd_T70 x0 x2)).f0).bind fun t1 => (if ((((((x1 ++ (bs [32])) ++ t0) ++ (bs [47]))).size + t1.size) ≤ 9223372036854775807) then (spec_BoxText.l0 k x0 ((((x1 ++ (bs [32])) ++ t0) ++ (bs [47])) ++ t1) (wrap64 (x2 + (1 : Int)))) else (none))) else (none)) else (none))) else (none)) else (none)) else (none)) else (none)) else (none)) else (if ((0 : Int) ≤ x2) then (if (x2 < ((x0.length : Nat) : Int)) then (if ((0 : Int) ≤ x2) then (if (x2 < ((x0.length : Nat) : Int)) then ((spec_l15Dec.f k ((rd_T70 x0 x2)).f1).bind fun t2 => (if ((x1.size + t2.size) ≤ 9223372036854775807) then (if ((((x1 ++ t2)).size + 1) ≤ 9223372036854775807) then ((spec_l15Dec.f k ((rd_T70 x0 x2)).f0).bind fun t3 => (if (((((x1 ++ t2) ++ (bs [47]))).size + t3.size) ≤ 9223372036854775807) then (spec_BoxText.l0 k x0 (((x1 ++ t2) ++ (bs [47])) ++ t3) (wrap64 (x2 + (1 : Int)))) else (none))) else (none)) else (none))) else (none)) else (none)) else (none)) else (none))) else (some (x1))
end
def spec_BoxText.f (k : Nat) (l0 : List S70) : Option (ByteArray) := spec_BoxText.l0 k l0 (bs []) (0 : Int)
mutual
def impl_BoxText.l0 : Nat → (List S70) → Int → Int → (List ByteArray) → Option (ByteArray)
  | 0, _, _, _, _ => none
  | k + 1, x0, x1, x2, x3 => if (x2 < x1) then (if ((0 : Int) ≤ x2) then (if (x2 < ((x0.length : Nat) : Int)) then ((strconv_Itoa.f k ((rd_T70 x0 x2)).f1).bind fun t0 => (if ((t0.size + 1) ≤ 9223372036854775807) then ((strconv_Itoa.f k ((rd_T70 x0 x2)).f0).bind fun t1 => (if ((((t0 ++ (bs [47]))).size + t1.size) ≤ 9223372036854775807) then (if ((x3.length + 1) ≤ 8796093022208) then (impl_BoxText.l0 k x0 x1 (wrap64 (x2 + (1 : Int))) (x3 ++ ([((t0 ++ (bs [47])) ++ t1)] : List ByteArray))) else (none)) else (none))) else (none))) else (none)) else (none)) else ((strings_Join.f k x3 (bs [32])).bind fun t2 => (some (t2)))
end
def impl_BoxText.f (k : Nat) (l0 : List S70) : Option (ByteArray) := impl_BoxText.l0 k l0 ((l0.length : Nat) : Int) (0 : Int) ([] : List ByteArray)
def laws_FnExactBoxText.f (k : Nat) (l0 : List S90) : Option (Bool) := (laws_szBoxS.f l0 (1048576 : Int)).bind fun t0 => (if (t0 < (0 : Int)) then (some (true)) else ((laws_toBoxS.f k l0).bind fun t1 => ((spec_BoxText.f k t1).bind fun t2 => ((laws_toBoxS.f k l0).bind fun t3 => ((impl_BoxText.f k t3).bind fun t4 => (if (t4 = t2) then ((laws_toBoxS.f k l0).bind fun t5 => ((laws_eqBoxS.f k t3 t5).bind fun t6 => (if t6 = true then (some (true)) else (some (false))))) else (some (false))))))))
open Go Go.Proofs Am
def tau : TypeId → Type
  | 9 => ByteArray
  | 70 => S70
  | 90 => S90
  | _ => Unit
def tabL : List (TypeId × TI) := [(3, ⟨[.int .i64], .scal⟩), (4, ⟨[.bool], .scal⟩), (9, ⟨[.str], .scal⟩), (29, ⟨[.sl 70], .sl 70⟩), (44, ⟨[.sl 90], .sl 90⟩), (57, ⟨[.sl 9], .sl 9⟩), (70, ⟨[.int .i64, .int .i64], .st [(0, 3), (1, 3)]⟩), (90, ⟨[.int .i64, .int .i64], .st [(0, 3), (1, 3)]⟩)]
def rowT : (e : TypeId) → tau e → List (Lf tau)
  | 9, (x : ByteArray) => [.s x]
  | 70, (x : S70) => [.i x.f0, .i x.f1]
  | 90, (x : S90) => [.i x.f0, .i x.f1]
  | _, _ => []
instance : (e : TypeId) → Inhabited (tau e) := fun e => by unfold tau; split <;> first | exact ⟨(0 : Int)⟩ | exact ⟨false⟩ | exact ⟨(default : ByteArray)⟩ | exact ⟨[]⟩ | exact ⟨()⟩ | exact ⟨z70⟩ | exact ⟨z90⟩
def of9 : List (Lf tau) → ByteArray
  | [(.s y0)] => y0
  | _ => (default : ByteArray)
def of70 : List (Lf tau) → S70
  | [(.i y0), (.i y1)] => (⟨y0, y1⟩ : S70)
  | _ => z70
def of90 : List (Lf tau) → S90
  | [(.i y0), (.i y1)] => (⟨y0, y1⟩ : S90)
  | _ => z90
def ofT : (e : TypeId) → List (Lf tau) → tau e
  | 9, l => of9 l
  | 70, l => of70 l
  | 90, l => of90 l
  | _, _ => default
def powName : String := Rows.fnExactBoxTextRow.named.getD 0 default
def GL : World → (Nat → Prop) → Prop := glA Tryd.prog powName Lib.pow10Tab 0 1
def TT : Tab tau := { get := fun t => lookN t tabL, row := rowT, of := ofT, el := fun t => memN t [9, 70, 90], gl := GL, glN := glA_next }
def byT : TypeId → Nat := fun t => lookD 1 t [(3, 8), (4, 1), (9, 16), (29, 24), (44, 24), (57, 24), (70, 16), (90, 16)]
def modeL : List (Nat × Nat) := []
def shpL : List (Nat × List PS) := [(59, [.one (.own 9), .one .any]), (58, [.one .any]), (63, [.one .any]), (37, [.one (.sl 90), .one .any]), (79, [.agg [.any, .any]]), (38, [.one (.sl 90)]), (80, [.agg [.any, .any], .agg [.any, .any]]), (39, [.one (.sl 70), .one (.sl 70)]), (19, [.one (.sl 70)]), (17, [.one (.sl 70)]), (6, [.one (.sl 90)])]
def persL : List (Nat × List Nat) := [(59, [0])]
def pnL : List (Nat × Nat) := [(59, 1)]
def pnT : FuncId → Nat := fun f => lookD 0 f pnL
def mkE (keep : List (Nat × List (Nat × PS))) (res : List PS) (nb : NB) : Env tau := { T := TT, by_ := byT, mode := fun f => lookD 0 f modeL, shp := fun f => lookD [] f shpL, keep := fun i => lookN i keep, res := res, pers := fun f => lookD [] f persL, pn := pnT, nb := nb }
theorem asked : Asked Tryd.prog byT tabL := ⟨by kernel_rfl, by kernel_rfl, by kernel_rfl, by kernel_rfl⟩
theorem el_9 : ElOk TT 9 := by
 intro ti h
 replace h : some (⟨[.str], .scal⟩ : TI) = some ti := h
 cases h
 refine ⟨fun x => rfl, fun l hl => ?_⟩
 obtain ⟨y0, l0, e0, h0⟩ := wts_s hl
 have e1 := wts_nil h0
 subst e1
 subst e0
 rfl
theorem el_70 : ElOk TT 70 := by
 intro ti h
 replace h : some (⟨[.int .i64, .int .i64], .st [(0, 3), (1, 3)]⟩ : TI) = some ti := h
 cases h
 refine ⟨fun x => rfl, fun l hl => ?_⟩
 obtain ⟨y0, l0, e0, h0⟩ := wts_i hl
 obtain ⟨y1, l1, e1, h1⟩ := wts_i h0
 have e2 := wts_nil h1
 subst e2
 subst e1
 subst e0
 rfl
theorem el_90 : ElOk TT 90 := by
 intro ti h
 replace h : some (⟨[.int .i64, .int .i64], .st [(0, 3), (1, 3)]⟩ : TI) = some ti := h
 cases h
 refine ⟨fun x => rfl, fun l hl => ?_⟩
 obtain ⟨y0, l0, e0, h0⟩ := wts_i hl
 obtain ⟨y1, l1, e1, h1⟩ := wts_i h0
 have e2 := wts_nil h1
 subst e2
 subst e1
 subst e0
 rfl
theorem pq : PQ Tryd.prog TT byT := pq_of asked rfl (fun e he => by
 have h := memN_iff.1 he
 simp only [List.mem_cons, List.not_mem_nil, or_false] at h
 rcases h with rfl | rfl | rfl
 · exact el_9
 · exact el_70
 · exact el_90)
theorem hmix : Tryd.prog.follows .mixedOrders = true := by kernel_rfl
noncomputable def c_59 (args : List (AV tau)) (m : Mem tau) (κ : AV tau → Mem tau → Option Unit) : Option Unit := match args, m.bx, m.rw with
  | [b0, b1], [], [r0] => bO (asOwn 0 b0) fun _ => bO (asRow 9 r0) fun l0 => bO (asS b1) fun a1 => callX (fun n => strings_Join.f n l0 a1) fun t => κ (.str (t)) ⟨[], [some ⟨9, l0, 0⟩]⟩
  | _, _, _ => none
noncomputable def c_58 (args : List (AV tau)) (m : Mem tau) (κ : AV tau → Mem tau → Option Unit) : Option Unit := match args, m.bx, m.rw with
  | [b0], [], [] => bO (asI .i64 b0) fun a0 => callX (fun n => strconv_Itoa.f n a0) fun t => κ (.str (t)) ⟨[], []⟩
  | _, _, _ => none
noncomputable def c_63 (args : List (AV tau)) (m : Mem tau) (κ : AV tau → Mem tau → Option Unit) : Option Unit := match args, m.bx, m.rw with
  | [b0], [], [] => bO (asI .i64 b0) fun a0 => callX (fun n => spec_l15Dec.f n a0) fun t => κ (.str (t)) ⟨[], []⟩
  | _, _, _ => none
noncomputable def c_37 (args : List (AV tau)) (m : Mem tau) (κ : AV tau → Mem tau → Option Unit) : Option Unit := match args, m.bx, m.rw with
  | [b0, b1], [], [] => bO (asSl 90 b0) fun l0 => bO (asI .i64 b1) fun a1 => callX (fun n => laws_szBoxS.f l0 a1) fun t => κ (.int .i64 (t)) ⟨[], []⟩
  | _, _, _ => none
def E_37 : Env tau := mkE [(0, [(0, .one (.own 90)), (1, .one .any)]), (1, [(0, .one (.own 90)), (1, .one .any)]), (2, [(1, .one .any)]), (3, []), (4, [(1, .one .any)])] [.one .any] ⟨0, 0⟩
noncomputable def c_79 (args : List (AV tau)) (m : Mem tau) (κ : AV tau → Mem tau → Option Unit) : Option Unit := match args, m.bx, m.rw with
  | [.agg [b0, b1]], [], [] => bO (asI .i64 b0) fun a0_0 => bO (asI .i64 b1) fun a0_1 => callX (fun n => laws_toBox.f a0_0 a0_1) fun t => κ (.agg [.int .i64 (t.1), .int .i64 (t.2)]) ⟨[], []⟩
  | _, _, _ => none
def E_79 : Env tau := mkE [(0, [(0, .agg [.any, .any])]), (1, [(1, .one .any), (2, .one .any)]), (2, [(1, .one .any), (2, .one .any), (3, .one .any)]), (3, [(1, .one .any), (2, .one .any), (3, .one .any)]), (4, [(2, .one .any), (3, .one .any)])] [.agg [.any, .any]] ⟨0, 0⟩
noncomputable def c_38 (args : List (AV tau)) (m : Mem tau) (κ : AV tau → Mem tau → Option Unit) : Option Unit := match args, m.bx, m.rw with
  | [b0], [], [] => bO (asSl 90 b0) fun l0 => callX (fun n => laws_toBoxS.f n l0) fun t => κ (.own 0 0) ⟨[], [some ⟨70, t, 0⟩]⟩
  | _, _, _ => none
def E_38 : Env tau := mkE [(0, [(0, .one (.own 90))]), (1, [(0, .one (.own 90))]), (2, [(0, .one (.own 90)), (3, .one (.own 70))]), (3, [(0, .one (.own 90)), (3, .one (.own 70)), (4, .one .any)]), (4, [(0, .one (.own 90)), (3, .one (.own 70)), (4, .one .any)]), (5, [(0, .one (.own 90)), (3, .one (.own 70)), (4, .one .any)]), (6, [(3, .one (.own 70))])] [.one (.own 70)] ⟨0, 0⟩
noncomputable def c_80 (args : List (AV tau)) (m : Mem tau) (κ : AV tau → Mem tau → Option Unit) : Option Unit := match args, m.bx, m.rw with
  | [.agg [b0, b1], .agg [b2, b3]], [], [] => bO (asI .i64 b0) fun a0_0 => bO (asI .i64 b1) fun a0_1 => bO (asI .i64 b2) fun a1_0 => bO (asI .i64 b3) fun a1_1 => callX (fun n => laws_eqBox.f a0_0 a0_1 a1_0 a1_1) fun t => κ (.bool (t)) ⟨[], []⟩
  | _, _, _ => none
def E_80 : Env tau := mkE [(0, [(0, .agg [.any, .any]), (1, .agg [.any, .any])]), (1, [(2, .one .any), (3, .one .any)]), (2, []), (3, [(2, .one .any), (3, .one .any)]), (4, []), (5, [])] [.one .any] ⟨0, 0⟩
noncomputable def c_39 (args : List (AV tau)) (m : Mem tau) (κ : AV tau → Mem tau → Option Unit) : Option Unit := match args, m.bx, m.rw with
  | [b0, b1], [], [] => bO (asSl 70 b0) fun l0 => bO (asSl 70 b1) fun l1 => callX (fun n => laws_eqBoxS.f n l0 l1) fun t => κ (.bool (t)) ⟨[], []⟩
  | _, _, _ => none
def E_39 : Env tau := mkE [(0, [(0, .one (.own 70)), (1, .one (.own 70))]), (1, [(0, .one (.own 70)), (1, .one (.own 70))]), (2, []), (3, [(0, .one (.own 70)), (1, .one (.own 70))]), (4, [(0, .one (.own 70)), (1, .one (.own 70)), (5, .one .any)]), (5, [(0, .one (.own 70)), (1, .one (.own 70)), (5, .one .any)]), (6, [(0, .one (.own 70)), (1, .one (.own 70)), (5, .one .any)]), (7, []), (8, [])] [.one .any] ⟨0, 0⟩
noncomputable def c_19 (args : List (AV tau)) (m : Mem tau) (κ : AV tau → Mem tau → Option Unit) : Option Unit := match args, m.bx, m.rw with
  | [b0], [], [] => bO (asSl 70 b0) fun l0 => callX (fun n => spec_BoxText.f n l0) fun t => κ (.str (t)) ⟨[], []⟩
  | _, _, _ => none
def E_19 : Env tau := mkE [(0, [(0, .one (.own 70))]), (1, [(0, .one (.own 70))]), (2, [(0, .one (.own 70)), (3, .one .any)]), (3, [(0, .one (.own 70)), (3, .one .any), (4, .one .any)]), (4, [(0, .one (.own 70)), (3, .one .any), (4, .one .any)]), (5, [(0, .one (.own 70)), (3, .one .any), (4, .one .any)]), (6, [(0, .one (.own 70)), (3, .one .any), (4, .one .any)]), (7, [(0, .one (.own 70)), (3, .one .any), (4, .one .any)]), (8, [(3, .one .any)])] [.one .any] ⟨0, 0⟩
noncomputable def c_17 (args : List (AV tau)) (m : Mem tau) (κ : AV tau → Mem tau → Option Unit) : Option Unit := match args, m.bx, m.rw with
  | [b0], [], [] => bO (asSl 70 b0) fun l0 => callX (fun n => impl_BoxText.f n l0) fun t => κ (.str (t)) ⟨[], []⟩
  | _, _, _ => none
def E_17 : Env tau := mkE [(0, [(0, .one (.own 70))]), (1, [(0, .one (.own 70))]), (2, [(0, .one (.own 70)), (3, .one (.own 9))]), (3, [(3, .one (.own 9)), (6, .one (.own 70)), (7, .one .any), (8, .one .any)]), (4, [(3, .one (.own 9)), (6, .one (.own 70)), (7, .one .any), (8, .one .any)]), (5, [(3, .one (.own 9)), (5, .one .any), (6, .one (.own 70)), (7, .one .any), (8, .one .any)]), (6, [(3, .one (.own 9)), (6, .one (.own 70)), (7, .one .any), (8, .one .any)]), (7, [(3, .one (.own 9))])] [.one .any] ⟨0, 0⟩
noncomputable def c_6 (args : List (AV tau)) (m : Mem tau) (κ : AV tau → Mem tau → Option Unit) : Option Unit := match args, m.bx, m.rw with
  | [b0], [], [] => bO (asSl 90 b0) fun l0 => callX (fun n => laws_FnExactBoxText.f n l0) fun t => κ (.bool (t)) ⟨[], []⟩
  | _, _, _ => none
def E_6 : Env tau := mkE [(0, [(0, .one (.own 90))]), (1, [(0, .one (.own 90))]), (2, [(0, .one (.own 90)), (3, .one .any)]), (3, [(0, .one (.own 90)), (3, .one .any)]), (4, []), (5, [(0, .one (.own 90))]), (6, [(0, .one (.own 90)), (4, .one .any)]), (7, [(0, .one (.own 90)), (4, .one .any), (5, .one (.own 70))]), (8, [(0, .one (.own 90)), (4, .one .any), (5, .one (.own 70)), (6, .one .any)]), (9, []), (10, [(0, .one (.own 90)), (5, .one (.own 70))]), (11, []), (12, [])] [.one .any] ⟨0, 0⟩
end Go.Proofs.YtlpgpckggnimhaaDoor.PFnExactBoxText