-- Laid by this session's program out of the translation (gen.sh).
import Derived.Test.YtgdafcakefnpdaaPFnExecDox0
import Derived.Test.YtgdafcakefnpdaaPFnExecDox1
import Derived.Test.YtgdafcakefnpdaaPFnExecDox2
import Derived.Test.YtgdafcakefnpdaaPFnExecDox10
import Derived.Test.YtgdafcakefnpdaaPFnExecDox11
import Derived.Test.YtgdafcakefnpdaaPFnExecDox12
import Derived.Test.YtgdafcakefnpdaaPFnExecDox13
import Derived.Test.YtgdafcakefnpdaaPFnExecDox14
import Derived.Test.YtgdafcakefnpdaaPFnExecDox15
namespace Go.Proofs.Ytgdafcakefnpdaa.PFnExecDo
open Go.RowKit Go.Proofs.YtgdafcakefnpdaaW.PrintWords Go.Proofs.YtgdafcakefnpdaaW.PrintLast Go.Proofs.YtgdafcakefnpdaaW.PrintMore
attribute [local go_sem] max2_int min2_int max_two min_two max_three min_three max_four min_four   -- for this text's walks alone
set_option linter.unusedVariables false
set_option linter.unusedSimpArgs false

attribute [local go_sem high] eqA46
/-! ### laws_FnExecDo: function 4 -/
mutual
def laws_FnExecDo.l0 : Nat → List (S46) → List (S46) → Int → List (S48) → List (S36) → Int → Int → Option (Bool)
 | 0, _, _, _, _, _, _, _ => none
 | k + 1, x3, x5, x6, x464000, x464001, x464002, x464003 => if x6 < (x3.length : Int) then (laws_FnExecDo.l1 k x3 x5 x6 false 0 x464000 x464001 x464002 x464003) else (laws_FnExecDo.l2 k x3 x5 false 0 x464000 x464001 x464002 x464003)
def laws_FnExecDo.l1 : Nat → List (S46) → List (S46) → Int → Bool → Int → List (S48) → List (S36) → Int → Int → Option (Bool)
 | 0, _, _, _, _, _, _, _, _, _ => none
 | k + 1, x3, x5, x6, x7, x8, x464000, x464001, x464002, x464003 => if x8 < (x464001.length : Int) then (if 0 ≤ x8 then (if ((rd_T36 x464001 x8).f0) = x6 then (if 0 ≤ x6 then (if x6 < (x5.length : Int) then (if ((rd_T46 x5 x6).f1) = ((rd_T36 x464001 x8).f1) then (if x6 < (x3.length : Int) then (if ((rd_T46 x5 x6).f0) = (wrap64 (((rd_T46 x3 x6).f0) + 1)) then (laws_FnExecDo.l1 k x3 x5 x6 true (wrap64 (x8 + 1)) x464000 x464001 x464002 x464003) else (if ((rd_T46 x3 x6).f0) < 1000000 then (some false) else (laws_FnExecDo.l1 k x3 x5 x6 true (wrap64 (x8 + 1)) x464000 x464001 x464002 x464003))) else (none)) else (some false)) else (none)) else (none)) else (laws_FnExecDo.l1 k x3 x5 x6 x7 (wrap64 (x8 + 1)) x464000 x464001 x464002 x464003)) else (none)) else (if x7 = true then (laws_FnExecDo.l0 k x3 x5 (wrap64 (x6 + 1)) x464000 x464001 x464002 x464003) else (if 0 ≤ x6 then (if x6 < (x5.length : Int) then (if x6 < (x3.length : Int) then (if (!(((rd_T46 x5 x6).f0) == ((rd_T46 x3 x6).f0)) || (!(((rd_T46 x5 x6).f1) == ((rd_T46 x3 x6).f1)))) = true then (some false) else (laws_FnExecDo.l0 k x3 x5 (wrap64 (x6 + 1)) x464000 x464001 x464002 x464003)) else (none)) else (none)) else (none)))
def laws_FnExecDo.l2 : Nat → List (S46) → List (S46) → Bool → Int → List (S48) → List (S36) → Int → Int → Option (Bool)
 | 0, _, _, _, _, _, _, _, _ => none
 | k + 1, x3, x5, x9, x10, x464000, x464001, x464002, x464003 => if x10 < (x464000.length : Int) then (laws_FnExecDo.l3 k x3 x5 x9 x10 0 x464000 x464001 x464002 x464003) else ((impl_BoxOk.f k x5).bind fun t489 => (if t489 = true then (if x9 = true then ((impl_ExecFresh.f k x3 x464000 x464001 x464002 x464003).bind fun t490 => (if t490 = true then ((impl_ExecFresh.f k x5 x464000 x464001 x464002 x464003).bind fun t491 => (some (!t491))) else (some true))) else (some true)) else (some false)))
def laws_FnExecDo.l3 : Nat → List (S46) → List (S46) → Bool → Int → Int → List (S48) → List (S36) → Int → Int → Option (Bool)
 | 0, _, _, _, _, _, _, _, _, _ => none
 | k + 1, x3, x5, x9, x10, x11, x464000, x464001, x464002, x464003 => if x11 < (x464001.length : Int) then (if x9 = true then (laws_FnExecDo.l3 k x3 x5 true x10 (wrap64 (x11 + 1)) x464000 x464001 x464002 x464003) else (if 0 ≤ x10 then (if x10 < (x464000.length : Int) then (if 0 ≤ x11 then (if ((rd_T48 x464000 x10).f0) = ((rd_T36 x464001 x11).f0) then (if 0 ≤ ((rd_T48 x464000 x10).f0) then (if ((rd_T48 x464000 x10).f0) < (x3.length : Int) then (laws_FnExecDo.l3 k x3 x5 (decide (((rd_T46 x3 ((rd_T48 x464000 x10).f0)).f0) < 1000000)) x10 (wrap64 (x11 + 1)) x464000 x464001 x464002 x464003) else (none)) else (none)) else (laws_FnExecDo.l3 k x3 x5 false x10 (wrap64 (x11 + 1)) x464000 x464001 x464002 x464003)) else (none)) else (none)) else (none))) else (laws_FnExecDo.l2 k x3 x5 x9 (wrap64 (x10 + 1)) x464000 x464001 x464002 x464003)
end
def laws_FnExecDo.f (k : Nat) (l0 : List Int) : Option (Bool) := if (l0.length : Int) > 1048576 then (some true) else ((spec_DrawExecDo.f k l0).bind fun bt452 => ((impl_ExecDo.f k bt452.1 bt452.2.1 bt452.2.2.1 bt452.2.2.2.1 bt452.2.2.2.2).bind fun t464 => ((spec_ExecDo.f k bt452.1 bt452.2.1 bt452.2.2.1 bt452.2.2.2.1 bt452.2.2.2.2).bind fun t467 => ((impl_BoxSame.f k t464 t467).bind fun t470 => (if t470 = true then ((impl_ExecOk.f k bt452.2.1 bt452.2.2.1 bt452.2.2.2.1 bt452.2.2.2.2).bind fun t471 => ((spec_ExecOk.f k bt452.2.1 bt452.2.2.1 bt452.2.2.2.1 bt452.2.2.2.2).bind fun t472 => (if (t471 != t472) = true then (some false) else ((impl_ExecFresh.f k bt452.1 bt452.2.1 bt452.2.2.1 bt452.2.2.2.1 bt452.2.2.2.2).bind fun t473 => ((spec_ExecFresh.f k bt452.1 bt452.2.1 bt452.2.2.1 bt452.2.2.2.1 bt452.2.2.2.2).bind fun t474 => (if (t473 != t474) = true then (some false) else ((spec_BoxOk.f k bt452.1).bind fun t475 => (if t475 = true then ((spec_ExecOk.f k bt452.2.1 bt452.2.2.1 bt452.2.2.2.1 bt452.2.2.2.2).bind fun t476 => (if t476 = true then (laws_FnExecDo.l0 k bt452.1 t464 0 bt452.2.1 bt452.2.2.1 bt452.2.2.2.1 bt452.2.2.2.2) else (some ((t464.length : Int) == 0)))) else (some ((t464.length : Int) == 0)))))))))) else (some false))))))
theorem laws_FnExecDo.mono_l : ∀ k, (∀ y0 y1 y2 y3 y4 y5 y6, LeO (laws_FnExecDo.l0 k y0 y1 y2 y3 y4 y5 y6) (laws_FnExecDo.l0 (k + 1) y0 y1 y2 y3 y4 y5 y6)) ∧ (∀ y0 y1 y2 y3 y4 y5 y6 y7 y8, LeO (laws_FnExecDo.l1 k y0 y1 y2 y3 y4 y5 y6 y7 y8) (laws_FnExecDo.l1 (k + 1) y0 y1 y2 y3 y4 y5 y6 y7 y8)) ∧ (∀ y0 y1 y2 y3 y4 y5 y6 y7, LeO (laws_FnExecDo.l2 k y0 y1 y2 y3 y4 y5 y6 y7) (laws_FnExecDo.l2 (k + 1) y0 y1 y2 y3 y4 y5 y6 y7)) ∧ (∀ y0 y1 y2 y3 y4 y5 y6 y7 y8, LeO (laws_FnExecDo.l3 k y0 y1 y2 y3 y4 y5 y6 y7 y8) (laws_FnExecDo.l3 (k + 1) y0 y1 y2 y3 y4 y5 y6 y7 y8))
 | 0 => ⟨fun _ _ _ _ _ _ _ r h => by simp [laws_FnExecDo.l0] at h, fun _ _ _ _ _ _ _ _ _ r h => by simp [laws_FnExecDo.l1] at h, fun _ _ _ _ _ _ _ _ r h => by simp [laws_FnExecDo.l2] at h, fun _ _ _ _ _ _ _ _ _ r h => by simp [laws_FnExecDo.l3] at h⟩
 | k + 1 => by
  obtain ⟨J0, J1, J2, J3⟩ := laws_FnExecDo.mono_l k
  refine ⟨?_, ?_, ?_, ?_⟩
  ·intro y0 y1 y2 y3 y4 y5 y6
   unfold laws_FnExecDo.l0
   repeat' first
   | (with_reducible exact J0 _ _ _ _ _ _ _)
   | (with_reducible exact J1 _ _ _ _ _ _ _ _ _)
   | (with_reducible exact J2 _ _ _ _ _ _ _ _)
   | (with_reducible exact J3 _ _ _ _ _ _ _ _ _)
   | (with_reducible exact impl_BoxOk.mono _ _)
   | (with_reducible exact impl_BoxSame.mono _ _ _)
   | (with_reducible exact impl_ExecDo.mono _ _ _ _ _ _)
   | (with_reducible exact impl_ExecFresh.mono _ _ _ _ _ _)
   | (with_reducible exact impl_ExecOk.mono _ _ _ _ _)
   | (with_reducible exact spec_BoxOk.mono _ _)
   | (with_reducible exact spec_DrawExecDo.mono _ _)
   | (with_reducible exact spec_ExecDo.mono _ _ _ _ _ _)
   | (with_reducible exact spec_ExecFresh.mono _ _ _ _ _ _)
   | (with_reducible exact spec_ExecOk.mono _ _ _ _ _)
   | (with_reducible exact LeO.refl _)
   | (with_reducible exact LeO.none _)
   | (with_reducible refine LeO.ite ?_ ?_)
   | (with_reducible refine LeO.bind ?_ (fun _ => ?_))
   | exact J0 _ _ _ _ _ _ _
   | exact J1 _ _ _ _ _ _ _ _ _
   | exact J2 _ _ _ _ _ _ _ _
   | exact J3 _ _ _ _ _ _ _ _ _
   | exact impl_BoxOk.mono _ _
   | exact impl_BoxSame.mono _ _ _
   | exact impl_ExecDo.mono _ _ _ _ _ _
   | exact impl_ExecFresh.mono _ _ _ _ _ _
   | exact impl_ExecOk.mono _ _ _ _ _
   | exact spec_BoxOk.mono _ _
   | exact spec_DrawExecDo.mono _ _
   | exact spec_ExecDo.mono _ _ _ _ _ _
   | exact spec_ExecFresh.mono _ _ _ _ _ _
   | exact spec_ExecOk.mono _ _ _ _ _
   | exact LeO.none _
   | refine LeO.ite ?_ ?_
   | refine LeO.bind ?_ (fun _ => ?_)
  ·intro y0 y1 y2 y3 y4 y5 y6 y7 y8
   unfold laws_FnExecDo.l1
   repeat' first
   | (with_reducible exact J0 _ _ _ _ _ _ _)
   | (with_reducible exact J1 _ _ _ _ _ _ _ _ _)
   | (with_reducible exact J2 _ _ _ _ _ _ _ _)
   | (with_reducible exact J3 _ _ _ _ _ _ _ _ _)
   | (with_reducible exact impl_BoxOk.mono _ _)
   | (with_reducible exact impl_BoxSame.mono _ _ _)
   | (with_reducible exact impl_ExecDo.mono _ _ _ _ _ _)
   | (with_reducible exact impl_ExecFresh.mono _ _ _ _ _ _)
   | (with_reducible exact impl_ExecOk.mono _ _ _ _ _)
   | (with_reducible exact spec_BoxOk.mono _ _)
   | (with_reducible exact spec_DrawExecDo.mono _ _)
   | (with_reducible exact spec_ExecDo.mono _ _ _ _ _ _)
   | (with_reducible exact spec_ExecFresh.mono _ _ _ _ _ _)
   | (with_reducible exact spec_ExecOk.mono _ _ _ _ _)
   | (with_reducible exact LeO.refl _)
   | (with_reducible exact LeO.none _)
   | (with_reducible refine LeO.ite ?_ ?_)
   | (with_reducible refine LeO.bind ?_ (fun _ => ?_))
   | exact J0 _ _ _ _ _ _ _
   | exact J1 _ _ _ _ _ _ _ _ _
   | exact J2 _ _ _ _ _ _ _ _
   | exact J3 _ _ _ _ _ _ _ _ _
   | exact impl_BoxOk.mono _ _
   | exact impl_BoxSame.mono _ _ _
   | exact impl_ExecDo.mono _ _ _ _ _ _
   | exact impl_ExecFresh.mono _ _ _ _ _ _
   | exact impl_ExecOk.mono _ _ _ _ _
   | exact spec_BoxOk.mono _ _
   | exact spec_DrawExecDo.mono _ _
   | exact spec_ExecDo.mono _ _ _ _ _ _
   | exact spec_ExecFresh.mono _ _ _ _ _ _
   | exact spec_ExecOk.mono _ _ _ _ _
   | exact LeO.none _
   | refine LeO.ite ?_ ?_
   | refine LeO.bind ?_ (fun _ => ?_)
  ·intro y0 y1 y2 y3 y4 y5 y6 y7
   unfold laws_FnExecDo.l2
   repeat' first
   | (with_reducible exact J0 _ _ _ _ _ _ _)
   | (with_reducible exact J1 _ _ _ _ _ _ _ _ _)
   | (with_reducible exact J2 _ _ _ _ _ _ _ _)
   | (with_reducible exact J3 _ _ _ _ _ _ _ _ _)
   | (with_reducible exact impl_BoxOk.mono _ _)
   | (with_reducible exact impl_BoxSame.mono _ _ _)
   | (with_reducible exact impl_ExecDo.mono _ _ _ _ _ _)
   | (with_reducible exact impl_ExecFresh.mono _ _ _ _ _ _)
   | (with_reducible exact impl_ExecOk.mono _ _ _ _ _)
   | (with_reducible exact spec_BoxOk.mono _ _)
   | (with_reducible exact spec_DrawExecDo.mono _ _)
   | (with_reducible exact spec_ExecDo.mono _ _ _ _ _ _)
   | (with_reducible exact spec_ExecFresh.mono _ _ _ _ _ _)
   | (with_reducible exact spec_ExecOk.mono _ _ _ _ _)
   | (with_reducible exact LeO.refl _)
   | (with_reducible exact LeO.none _)
   | (with_reducible refine LeO.ite ?_ ?_)
   | (with_reducible refine LeO.bind ?_ (fun _ => ?_))
   | exact J0 _ _ _ _ _ _ _
   | exact J1 _ _ _ _ _ _ _ _ _
   | exact J2 _ _ _ _ _ _ _ _
   | exact J3 _ _ _ _ _ _ _ _ _
   | exact impl_BoxOk.mono _ _
   | exact impl_BoxSame.mono _ _ _
   | exact impl_ExecDo.mono _ _ _ _ _ _
   | exact impl_ExecFresh.mono _ _ _ _ _ _
   | exact impl_ExecOk.mono _ _ _ _ _
   | exact spec_BoxOk.mono _ _
   | exact spec_DrawExecDo.mono _ _
   | exact spec_ExecDo.mono _ _ _ _ _ _
   | exact spec_ExecFresh.mono _ _ _ _ _ _
   | exact spec_ExecOk.mono _ _ _ _ _
   | exact LeO.none _
   | refine LeO.ite ?_ ?_
   | refine LeO.bind ?_ (fun _ => ?_)
  ·intro y0 y1 y2 y3 y4 y5 y6 y7 y8
   unfold laws_FnExecDo.l3
   repeat' first
   | (with_reducible exact J0 _ _ _ _ _ _ _)
   | (with_reducible exact J1 _ _ _ _ _ _ _ _ _)
   | (with_reducible exact J2 _ _ _ _ _ _ _ _)
   | (with_reducible exact J3 _ _ _ _ _ _ _ _ _)
   | (with_reducible exact impl_BoxOk.mono _ _)
   | (with_reducible exact impl_BoxSame.mono _ _ _)
   | (with_reducible exact impl_ExecDo.mono _ _ _ _ _ _)
   | (with_reducible exact impl_ExecFresh.mono _ _ _ _ _ _)
   | (with_reducible exact impl_ExecOk.mono _ _ _ _ _)
   | (with_reducible exact spec_BoxOk.mono _ _)
   | (with_reducible exact spec_DrawExecDo.mono _ _)
   | (with_reducible exact spec_ExecDo.mono _ _ _ _ _ _)
   | (with_reducible exact spec_ExecFresh.mono _ _ _ _ _ _)
   | (with_reducible exact spec_ExecOk.mono _ _ _ _ _)
   | (with_reducible exact LeO.refl _)
   | (with_reducible exact LeO.none _)
   | (with_reducible refine LeO.ite ?_ ?_)
   | (with_reducible refine LeO.bind ?_ (fun _ => ?_))
   | exact J0 _ _ _ _ _ _ _
   | exact J1 _ _ _ _ _ _ _ _ _
   | exact J2 _ _ _ _ _ _ _ _
   | exact J3 _ _ _ _ _ _ _ _ _
   | exact impl_BoxOk.mono _ _
   | exact impl_BoxSame.mono _ _ _
   | exact impl_ExecDo.mono _ _ _ _ _ _
   | exact impl_ExecFresh.mono _ _ _ _ _ _
   | exact impl_ExecOk.mono _ _ _ _ _
   | exact spec_BoxOk.mono _ _
   | exact spec_DrawExecDo.mono _ _
   | exact spec_ExecDo.mono _ _ _ _ _ _
   | exact spec_ExecFresh.mono _ _ _ _ _ _
   | exact spec_ExecOk.mono _ _ _ _ _
   | exact LeO.none _
   | refine LeO.ite ?_ ?_
   | refine LeO.bind ?_ (fun _ => ?_)
theorem laws_FnExecDo.mono : ∀ a0 k, LeO (laws_FnExecDo.f k a0) (laws_FnExecDo.f (k + 1) a0) := by
 intro a0 k
 obtain ⟨J0, J1, J2, J3⟩ := laws_FnExecDo.mono_l k
 unfold laws_FnExecDo.f
 repeat' first
   | (with_reducible exact J0 _ _ _ _ _ _ _)
   | (with_reducible exact J1 _ _ _ _ _ _ _ _ _)
   | (with_reducible exact J2 _ _ _ _ _ _ _ _)
   | (with_reducible exact J3 _ _ _ _ _ _ _ _ _)
   | (with_reducible exact impl_BoxOk.mono _ _)
   | (with_reducible exact impl_BoxSame.mono _ _ _)
   | (with_reducible exact impl_ExecDo.mono _ _ _ _ _ _)
   | (with_reducible exact impl_ExecFresh.mono _ _ _ _ _ _)
   | (with_reducible exact impl_ExecOk.mono _ _ _ _ _)
   | (with_reducible exact spec_BoxOk.mono _ _)
   | (with_reducible exact spec_DrawExecDo.mono _ _)
   | (with_reducible exact spec_ExecDo.mono _ _ _ _ _ _)
   | (with_reducible exact spec_ExecFresh.mono _ _ _ _ _ _)
   | (with_reducible exact spec_ExecOk.mono _ _ _ _ _)
   | (with_reducible exact LeO.refl _)
   | (with_reducible exact LeO.none _)
   | (with_reducible refine LeO.ite ?_ ?_)
   | (with_reducible refine LeO.bind ?_ (fun _ => ?_))
   | exact J0 _ _ _ _ _ _ _
   | exact J1 _ _ _ _ _ _ _ _ _
   | exact J2 _ _ _ _ _ _ _ _
   | exact J3 _ _ _ _ _ _ _ _ _
   | exact impl_BoxOk.mono _ _
   | exact impl_BoxSame.mono _ _ _
   | exact impl_ExecDo.mono _ _ _ _ _ _
   | exact impl_ExecFresh.mono _ _ _ _ _ _
   | exact impl_ExecOk.mono _ _ _ _ _
   | exact spec_BoxOk.mono _ _
   | exact spec_DrawExecDo.mono _ _
   | exact spec_ExecDo.mono _ _ _ _ _ _
   | exact spec_ExecFresh.mono _ _ _ _ _ _
   | exact spec_ExecOk.mono _ _ _ _ _
   | exact LeO.none _
   | refine LeO.ite ?_ ?_
   | refine LeO.bind ?_ (fun _ => ?_)
def laws_FnExecDo.T5 : Bool × List (List Nat × List Nat) := (true, [([], []), ([], []), ([], []), ([1, 2], [1, 2]), ([0, 3, 3], [0, 3]), ([4], [4]), ([5, 4], [5]), ([6], [6]), ([7, 6, 6], [6, 7]), ([6], [6]), ([9, 8, 6], [6, 9]), ([8, 10, 6], [6, 8, 10]), ([6, 11], [6, 11]), ([12, 10], [12]), ([13], [13]), ([13], [13]), ([14, 15, 13, 13], [13, 14, 15]), ([13], [13]), ([13], [13]), ([17, 18, 16, 13], [13, 17, 18]), ([16, 19, 13], [13, 16, 19]), ([13, 20], [13, 20])])
def laws_FnExecDo.B5 : List Nat := [0, 0, 0, 6, 15, 31, 63, 127, 255, 127, 1023, 2047, 4095, 8191, 16383, 16383, 65535, 16383, 16383, 524287, 1048575, 2097151]
theorem laws_FnExecDo.tab5 : rtab .any (opsOf Try.f4 5) = laws_FnExecDo.T5 := by kernel_rfl
theorem laws_FnExecDo.bits5 : waitsOk laws_FnExecDo.T5.2 laws_FnExecDo.B5 = true := by kernel_rfl
def laws_FnExecDo.T18 : Bool × List (List Nat × List Nat) := (true, [([], []), ([], []), ([0, 1], [0, 1]), ([2], [2]), ([3], [3]), ([], []), ([5], [5]), ([], []), ([6, 7], [6, 7]), ([8], [8]), ([9], [9]), ([4, 10], [4, 10]), ([11], [11]), ([12], [12]), ([12], [12]), ([13, 14, 12], [12, 13, 14]), ([15, 12], [12, 15]), ([16, 12], [12, 16]), ([12], [12]), ([12], [12]), ([18, 19, 12], [12, 18, 19]), ([20, 12], [12, 20]), ([21, 12], [12, 21]), ([22, 12], [12, 22]), ([17, 23, 12], [12, 17, 23]), ([24, 12, 12], [12, 24]), ([25], [25]), ([25], [25]), ([26, 27, 25], [25, 26, 27]), ([28, 25], [25, 28]), ([29, 25], [25, 29]), ([30, 25], [25, 30]), ([25, 31, 12], [12, 25, 31]), ([12, 32], [12, 32])])
def laws_FnExecDo.B18 : List Nat := [0, 0, 3, 7, 15, 0, 32, 0, 224, 480, 992, 2047, 4095, 8191, 8191, 32767, 65535, 131071, 8191, 8191, 794623, 1843199, 3940351, 8134655, 16777215, 33554431, 67108863, 67108863, 268435455, 536870911, 1073741823, 2147483647, 4294967295, 8589934591]
theorem laws_FnExecDo.tab18 : rtab .any (opsOf Try.f4 18) = laws_FnExecDo.T18 := by kernel_rfl
theorem laws_FnExecDo.bits18 : waitsOk laws_FnExecDo.T18.2 laws_FnExecDo.B18 = true := by kernel_rfl
def laws_FnExecDo.T20 : Bool × List (List Nat × List Nat) := (true, [([], []), ([0], [0]), ([1], [1]), ([2], [2]), ([2], [2]), ([3, 4, 2], [2, 3, 4]), ([5, 2], [2, 5]), ([2], [2]), ([2], [2]), ([7, 8, 2], [2, 7, 8]), ([9, 2], [2, 9]), ([6, 10, 2], [2, 6, 10]), ([2, 11], [2, 11])])
def laws_FnExecDo.B20 : List Nat := [0, 1, 3, 7, 7, 31, 63, 7, 7, 391, 903, 2047, 4095]
theorem laws_FnExecDo.tab20 : rtab .any (opsOf Try.f4 20) = laws_FnExecDo.T20 := by kernel_rfl
theorem laws_FnExecDo.bits20 : waitsOk laws_FnExecDo.T20.2 laws_FnExecDo.B20 = true := by kernel_rfl
def laws_FnExecDo.T29 : Bool × List (List Nat × List Nat) := (true, [([], []), ([0], [0]), ([1], [1]), ([2, 1], [1, 2]), ([1], [1]), ([3, 4, 1], [1, 3, 4]), ([5, 1], [1, 5]), ([6, 1], [1, 6]), ([1], [1]), ([8, 1], [1, 8]), ([1], [1]), ([9, 10, 1], [1, 9, 10]), ([11, 1], [1, 11]), ([12, 1], [1, 12]), ([7, 13, 1], [1, 7, 13]), ([14, 1, 1], [1, 14]), ([15], [15]), ([15], [15]), ([17, 15], [15, 17]), ([15], [15]), ([18, 19, 15], [15, 18, 19]), ([20, 15], [15, 20]), ([21, 15], [15, 21]), ([16, 22, 15], [15, 16, 22]), ([23, 15], [15, 23]), ([24, 15], [15, 24]), ([25, 15], [15, 25]), ([15, 26, 1], [1, 15, 26]), ([1, 27], [1, 27]), ([28, 15, 0, 1, 2, 3, 4, 5, 6, 7, 8, 9, 10, 11, 12, 13, 14, 15, 16, 17, 18, 19, 20, 21, 22, 23, 24, 25, 26, 27, 28], [0, 28])])
def laws_FnExecDo.B29 : List Nat := [0, 1, 3, 7, 3, 31, 63, 127, 3, 259, 3, 1795, 3843, 7939, 16383, 32767, 65535, 65535, 196607, 65535, 983039, 2031615, 4128767, 8388607, 16777215, 33554431, 67108863, 134217727, 268435455, 536870911]
theorem laws_FnExecDo.tab29 : rtab .any (opsOf Try.f4 29) = laws_FnExecDo.T29 := by kernel_rfl
theorem laws_FnExecDo.bits29 : waitsOk laws_FnExecDo.T29.2 laws_FnExecDo.B29 = true := by kernel_rfl
set_option maxHeartbeats 8000000 in
set_option maxRecDepth 100000 in
theorem laws_FnExecDo.calls (k : Nat) (A0 : Option Addr) (c0 : Nat) (l0 : List Int) (r : Bool) (w : World) (Y0 : Kd.C (Kd.int .u8) w A0 l0.length l0) (ad0 : l0.length ≤ c0) (bP : r = true) (h : laws_FnExecDo.f k l0 = some r) :
  Calls Try.prog 4 #[.slice A0 l0.length c0] w fun e w' => e = .returned (.bool r) ∧ Below w.heap.size w w' := by
 have aB0 := Try.underlying30; have aB1 := Try.underlying46; have V0 := Aside0.mk Y0; have X0 := Aside0.mk ad0; clear Y0 ad0; have HB := Aside0.mk (Below.refl w.heap.size w); have bs := Aside0.mk bP; clear bP; have H : (if (l0.length : Int) > 1048576 then (some true) else ((spec_DrawExecDo.f k l0).bind fun F0 => ((impl_ExecDo.f k F0.1 F0.2.1 F0.2.2.1 F0.2.2.2.1 F0.2.2.2.2).bind fun a0 => ((spec_ExecDo.f k F0.1 F0.2.1 F0.2.2.1 F0.2.2.2.1 F0.2.2.2.2).bind fun a1 => ((impl_BoxSame.f k a0 a1).bind fun a2 => (if a2 = true then ((impl_ExecOk.f k F0.2.1 F0.2.2.1 F0.2.2.2.1 F0.2.2.2.2).bind fun a3 => ((spec_ExecOk.f k F0.2.1 F0.2.2.1 F0.2.2.2.1 F0.2.2.2.2).bind fun a4 => (if (a3 != a4) = true then (some false) else ((impl_ExecFresh.f k F0.1 F0.2.1 F0.2.2.1 F0.2.2.2.1 F0.2.2.2.2).bind fun a5 => ((spec_ExecFresh.f k F0.1 F0.2.1 F0.2.2.1 F0.2.2.2.1 F0.2.2.2.2).bind fun a6 => (if (a5 != a6) = true then (some false) else ((spec_BoxOk.f k F0.1).bind fun a7 => (if a7 = true then ((spec_ExecOk.f k F0.2.1 F0.2.2.1 F0.2.2.2.1 F0.2.2.2.2).bind fun a8 => (if a8 = true then (laws_FnExecDo.l0 k F0.1 a0 0 F0.2.1 F0.2.2.1 F0.2.2.2.1 F0.2.2.2.2) else (some ((a0.length : Int) == 0)))) else (some ((a0.length : Int) == 0)))))))))) else (some false))))))) = some r := h; clear h; by_cases c2 : (l0.length : Int) > 1048576
 ·rw [if_pos c2] at H; have u0 : decide (1048576 < (l0.length : Int)) = true := decide_eq_true c2; have u1 : decide (1048576 < l0.length) = true := decide_eq_true (by omega); clear c2; obtain rfl := Option.some.inj H
  go_enter Try.func4, Try.ntmps4
  go_wp2
  go_ret
  exact ⟨zq45_, zq59_⟩
 ·rw [if_neg c2] at H; have u0 : decide (1048576 < (l0.length : Int)) = false := decide_eq_false c2; have u1 : decide (1048576 < l0.length) = false := decide_eq_false (by omega); clear c2; replace H := Option.bind_eq_some_iff.mp H; obtain ⟨⟨a9, a10, a11, a12, a13⟩, G0, H⟩ := H; (try dsimp only at H); have A3 := Aside0.mk G0; clear G0; replace H := bs_ H; obtain ⟨a0, A4, H⟩ := H; (try dsimp only at H); replace H := bs_ H; obtain ⟨a1, A5, H⟩ := H; (try dsimp only at H); replace H := bs_ H; obtain ⟨a2, A6, H⟩ := H; (try dsimp only at H); replace H := ifB_ H
  rcases H with ⟨rfl, H⟩ | ⟨rfl, H⟩
  ·replace H := bs_ H; obtain ⟨a3, A8, H⟩ := H; (try dsimp only at H); replace H := bs_ H; obtain ⟨a4, A9, H⟩ := H; (try dsimp only at H); by_cases x0 : (a3 != a4) = true
   ·rw [if_pos x0] at H; have u2 : (a3 != a4) = true := x0; (try (have u3 : decide (a3 = a4) = false := by simpa using x0)); (try (have u4 : (a3 == a4) = false := by simpa using x0)); (try (have u5 : ¬ (a3 = a4) := by simpa using x0)); clear x0; exact absurd ((Option.some.inj H).trans bs.out) (by decide)
   ·rw [if_neg x0] at H; have u2 : (a3 != a4) = false := by simpa using x0
    (try (have u3 : decide (a3 = a4) = true := by simpa using x0)); (try (have u4 : (a3 == a4) = true := by simpa using x0)); clear x0; replace H := bs_ H; obtain ⟨a5, G1, H⟩ := H; (try dsimp only at H); replace H := bs_ H; obtain ⟨a6, G2, H⟩ := H; (try dsimp only at H); by_cases x1 : (a5 != a6) = true
    ·rw [if_pos x1] at H; have u5 : (a5 != a6) = true := x1; (try (have u6 : decide (a5 = a6) = false := by simpa using x1)); (try (have u7 : (a5 == a6) = false := by simpa using x1)); (try (have u9 : ¬ (a5 = a6) := by simpa using x1)); clear x1; exact absurd ((Option.some.inj H).trans bs.out) (by decide)
    ·rw [if_neg x1] at H; have u5 : (a5 != a6) = false := by simpa using x1
     (try (have u6 : decide (a5 = a6) = true := by simpa using x1)); (try (have u7 : (a5 == a6) = true := by simpa using x1)); clear x1; replace H := bs_ H; obtain ⟨a7, G3, H⟩ := H; (try dsimp only at H); replace H := ifB_ H
     rcases H with ⟨rfl, H⟩ | ⟨rfl, H⟩
     ·replace H := bs_ H; obtain ⟨a8, G4, H⟩ := H; (try dsimp only at H); replace H := ifB_ H
      rcases H with ⟨rfl, H⟩ | ⟨rfl, H⟩
      ·have H' := Aside0.mk H; clear H
       go_enter Try.func4, Try.ntmps4
       try go_wp2_with (first | ((with_reducible refine gate_callee (f := 16) rfl ?_); refine gl_ 17 Try.func16 #[.slice A0 l0.length c0] ?_; (with_reducible refine (spec_DrawExecDo.calls k _ _ l0 a9 a10 a11 a12 a13 _ ?_ ?_ A3.out).mono ?_); exact zq7c_; exact X0.out; rintro e r0 ⟨S0, S1, S2, rfl, D0, D1, D2, hb⟩; refine ⟨_, rfl, ?_⟩; have n_ := A4_ (Kd.R_lower D0 (below_size zq59_)) (Kd.R_lower D1 (below_size zq59_)) (Kd.R_lower D2 (below_size zq59_)) (below_step zq59_ hb); clear HB; obtain ⟨f2, f3, f4, HB⟩ := n_; (try clear hb); (try clear D0); (try clear D1); (try clear D2)) | ((with_reducible refine gate_dst (N := 4) rfl ?_); refine bxe_ (N := 4) (cs := #[.slice none 0 0, .slice none 0 0, .int .i64 0, .int .i64 0]) (t := 30) ?_; intro c6 hg r1 H_ hb; have n_ := A7_ (Kd.R_below zq13_ hb) (Kd.R_below zq14_ hb) (Kd.R_below zq15_ hb) (below_step zq59_ hb) (H_) ((zq95_ : w.heap.size ≤ c6)) ((zq95_ : w.heap.size ≤ c6)); clear f2 f3 f4 HB; obtain ⟨f2, f3, f4, HB, b0, y0, p0⟩ := n_; clear hb H_ hg; obtain ⟨o0, m0, E0⟩ := Kd.R_slice f3.out; subst E0; obtain ⟨k0, k4, k5, k6, l4, l5, l6, l7⟩ := bz4_ b0.out; obtain ⟨o1, m1, E1⟩ := Kd.R_slice f4.out; subst E1; obtain ⟨o2, m2, E2⟩ := Kd.R_slice f2.out; subst E2) | ((with_reducible refine gate_callee (f := 17) rfl ?_); refine gl_ 22 Try.func17 #[.slice o2 a9.length m2, .agg #[.slice o0 a10.length m0, .slice o1 a11.length m1, .int .i64 a12, .int .i64 a13]] ?_; (with_reducible refine (impl_ExecDo.calls k _ _ a9 _ _ a10 _ _ a11 a12 a13 a0 _ ?_ ?_ ?_ ?_ ?_ ?_ A4.out).mono ?_); exact zq8c_; exact zq32_; exact zq8d_; exact zq33_; exact zq8b_; exact zq34_; rintro e r2 ⟨S3, rfl, D0, hb⟩; refine ⟨_, rfl, ?_⟩; have n_ := A6_ (Kd.R_elder' zq7_ (Kd.R_base D0) hb) (Kd.R_below zq8_ hb) (Kd.R_below zq9_ hb) (Kd.R_lower (Kd.R_new' D0 (Kd.R_lt zq7_)) (below_size zq58_)) (blk_below (g := c6) (o := .cells #[.slice o0 a10.length m0, .slice o1 a11.length m1, .int .i64 a12, .int .i64 a13] 30 (0, 0)) zq2d_ hb) (below_step zq58_ hb); clear f2 f3 f4 b0 HB; obtain ⟨f2, f3, f4, f5, b0, HB⟩ := n_; (try clear hb)))
       have n_ := A6_ (Kd.R_drew f2.out) (Kd.R_drew f3.out) (Kd.R_drew f4.out) (Kd.R_drew f5.out) (blk_drew b0.out) (below_drew1 HB.out); clear f2 f3 f4 f5 b0 HB; obtain ⟨f2, f3, f4, f5, b0, HB⟩ := n_; refine start_ (n := 22) (S := fun w' => w'.cell? ⟨c6, 0, none⟩ = some (.slice o0 a10.length m0) ∧ w'.cell? ⟨c6, 1, none⟩ = some (.slice o1 a11.length m1) ∧ w'.cell? ⟨c6, 2, none⟩ = some (.int .i64 a12) ∧ w'.cell? ⟨c6, 3, none⟩ = some (.int .i64 a13)) (ds := []) #[false, false, false, false, false, false, false, false, false, false, false, false, false, false, false, false, false, false, false, false, false, false] (by kernel_rfl) rfl rfl ⟨(blk_cell b0.out 0).trans rfl, (blk_cell b0.out 1).trans rfl, (blk_cell b0.out 2).trans rfl, (blk_cell b0.out 3).trans rfl⟩ (fun hHeld => ?_); refine with_tabW laws_FnExecDo.tab5 laws_FnExecDo.bits5 (fun HT_ HW_ => ?_); generalize r2.drew = r3 at f2 f3 f4 f5 b0 HB hHeld ⊢; refine pw_ 0 23 ?_; refine pw_ 1 24 ?_; refine tw_ 2 25 ?_; refine on_ (i := 3) (N := some 26) rfl rfl (one_of HT_.out (by kernel_rfl)) (by decide) (fun K hK => ?_); refine goes_ Try.func19 (by kernel_rfl) rfl #[.slice o2 a9.length m2, .agg #[.slice o0 a10.length m0, .slice o1 a11.length m1, .int .i64 a12, .int .i64 a13]] (by rfl) rfl rfl zq0_ ?_
       with_reducible refine (spec_ExecDo.calls k _ _ a9 _ _ a10 _ _ a11 a12 a13 a1 _ ?side1 ?side2 ?side3 ?side4 ?side5 ?side6 A5.out).mono ?_
       (case side1 => exact zq70_); (case side2 => exact zq32_); (case side3 => exact zq71_); (case side4 => exact zq33_); (case side5 => exact zq72_); (case side6 => exact zq34_); rintro e r4 ⟨S4, rfl, D0, hb⟩; refine ⟨_, rfl, ?_⟩; have n_ := A7_ (Kd.R_elder' zq13_ (Kd.R_base D0) hb) (Kd.R_below zq14_ hb) (Kd.R_below zq15_ hb) (Kd.R_elder' zq16_ (Kd.R_base D0) hb) (Kd.R_lower (Kd.R_new' (Kd.R_new' D0 (Kd.R_lt zq13_)) (Kd.R_lt zq16_)) (below_size zq58_)) (blk_below (g := c6) (o := .cells #[.slice o0 a10.length m0, .slice o1 a11.length m1, .int .i64 a12, .int .i64 a13] 30 (0, 0)) zq1c_ hb) (below_step zq58_ hb); clear f2 f3 f4 f5 b0 HB; obtain ⟨f2, f3, f4, f5, f6, b0, HB⟩ := n_; (try clear hb); (try clear hb2); (try clear hk); (try clear hi); (try clear D0); obtain ⟨o3, m3, E3⟩ := Kd.R_slice f5.out; (first | subst E3 | (injection E3 with P0 P1 P2; have P3 := P0.symm; have P4 := P2.symm; clear P0 P1 P2; subst P3; subst P4)); obtain ⟨o4, m4, E4⟩ := Kd.R_slice f6.out; (first | subst E4 | (injection E4 with P0 P1 P2; have P3 := P0.symm; have P4 := P2.symm; clear P0 P1 P2; subst P3; subst P4)); refine hK.out _ _ ⟨(blk_cell b0.out 0).trans rfl, (blk_cell b0.out 1).trans rfl, (blk_cell b0.out 2).trans rfl, (blk_cell b0.out 3).trans rfl⟩ (fun hHeld => ?_); clear hK K; refine norm_ (a' := ?_) ?_ ?_
       rotate_left
       ·show Act.put _ (some 26) _ = _; simp only [Act.put, sA_, sZ_, sS_, i64_w, i32_w]; rfl
       refine on_ (i := 4) (N := some 27) rfl rfl (one_of HT_.out (by kernel_rfl)) (by decide) (fun K hK => ?_); refine goes_ Try.func18 (by kernel_rfl) rfl #[.slice o3 a0.length m3, .slice o4 a1.length m4] (by rfl) rfl rfl zq0_ ?_
       with_reducible refine (impl_BoxSame.calls k _ _ a0 _ _ a1 true _ ?side1 ?side2 ?side3 ?side4 A6.out).mono ?_
       (case side1 => exact zq73_); (case side2 => exact zq35_); (case side3 => exact zq74_); (case side4 => exact (Kd.R_reads' f6.out).2.1); rintro e w' ⟨rfl, ⟨nd, rfl⟩⟩; refine ⟨_, rfl, ?_⟩; refine hK.out _ _ ⟨(blk_cell b0.out 0).trans rfl, (blk_cell b0.out 1).trans rfl, (blk_cell b0.out 2).trans rfl, (blk_cell b0.out 3).trans rfl⟩ (fun hHeld => ?_); clear hK K; refine norm_ (a' := ?_) ?_ ?_
       rotate_left
       ·show Act.put _ (some 27) _ = _; simp only [Act.put, sA_, sZ_, sS_, i64_w, i32_w]; rfl
       refine pw_ 5 28 ?_; refine pw_ 6 29 ?_; refine tw_ 7 30 ?_; refine tw_ 9 32 ?_; refine on_ (i := 8) (N := some 31) rfl rfl (one_of HT_.out (by kernel_rfl)) (by decide) (fun K hK => ?_); refine goes_ Try.func20 (by kernel_rfl) rfl #[.agg #[.slice o0 a10.length m0, .slice o1 a11.length m1, .int .i64 a12, .int .i64 a13]] (by rfl) rfl rfl zq0_ ?_
       with_reducible refine (impl_ExecOk.calls k _ _ a10 _ _ a11 a12 a13 a3 _ ?side1 ?side2 ?side3 ?side4 A8.out).mono ?_
       (case side1 => exact zq71_); (case side2 => exact zq33_); (case side3 => exact zq72_); (case side4 => exact zq34_); rintro e r5 ⟨rfl, hb⟩; refine ⟨_, rfl, ?_⟩; have n_ := A7_ (Kd.R_below zq13_ hb) (Kd.R_below zq14_ hb) (Kd.R_below zq15_ hb) (Kd.R_below zq16_ hb) (Kd.R_below zq17_ hb) (blk_below (g := c6) (o := .cells #[.slice o0 a10.length m0, .slice o1 a11.length m1, .int .i64 a12, .int .i64 a13] 30 (0, 0)) zq1c_ hb) (below_step zq58_ hb); clear f2 f3 f4 f5 f6 b0 HB; obtain ⟨f2, f3, f4, f5, f6, b0, HB⟩ := n_; (try clear hb); (try clear hb2); (try clear hk); (try clear hi); refine hK.out _ _ ⟨(blk_cell b0.out 0).trans rfl, (blk_cell b0.out 1).trans rfl, (blk_cell b0.out 2).trans rfl, (blk_cell b0.out 3).trans rfl⟩ (fun hHeld => ?_); clear hK K; refine norm_ (a' := ?_) ?_ ?_
       rotate_left
       ·show Act.put _ (some 31) _ = _; simp only [Act.put, sA_, sZ_, sS_, i64_w, i32_w]; rfl
       refine on_ (i := 10) (N := some 33) rfl rfl (one_of HT_.out (by kernel_rfl)) (by decide) (fun K hK => ?_); refine goes_ Try.func21 (by kernel_rfl) rfl #[.agg #[.slice o0 a10.length m0, .slice o1 a11.length m1, .int .i64 a12, .int .i64 a13]] (by rfl) rfl rfl zq0_ ?_
       with_reducible refine (spec_ExecOk.calls k _ _ a10 _ _ a11 a12 a13 a4 _ ?side1 ?side2 ?side3 ?side4 A9.out).mono ?_
       (case side1 => exact zq71_); (case side2 => exact zq33_); (case side3 => exact zq72_); (case side4 => exact zq34_); rintro e r6 ⟨rfl, hb⟩; refine ⟨_, rfl, ?_⟩; have n_ := A7_ (Kd.R_below zq13_ hb) (Kd.R_below zq14_ hb) (Kd.R_below zq15_ hb) (Kd.R_below zq16_ hb) (Kd.R_below zq17_ hb) (blk_below (g := c6) (o := .cells #[.slice o0 a10.length m0, .slice o1 a11.length m1, .int .i64 a12, .int .i64 a13] 30 (0, 0)) zq1c_ hb) (below_step zq58_ hb); clear f2 f3 f4 f5 f6 b0 HB; obtain ⟨f2, f3, f4, f5, f6, b0, HB⟩ := n_; (try clear hb); (try clear hb2); (try clear hk); (try clear hi); refine hK.out _ _ ⟨(blk_cell b0.out 0).trans rfl, (blk_cell b0.out 1).trans rfl, (blk_cell b0.out 2).trans rfl, (blk_cell b0.out 3).trans rfl⟩ (fun hHeld => ?_); clear hK K; refine norm_ (a' := ?_) ?_ ?_
       rotate_left
       ·show Act.put _ (some 33) _ = _; simp only [Act.put, sA_, sZ_, sS_, i64_w, i32_w]; rfl
       refine pw_ 11 34 ?_; refine pw_ 12 35 ?_; refine pw_ 13 36 ?_; refine pw_ 14 37 ?_; refine pw_ 17 40 ?_; refine tw_ 15 38 ?_; refine tw_ 18 41 ?_; refine on_ (i := 16) (N := some 39) rfl rfl (one_of HT_.out (by kernel_rfl)) (by decide) (fun K hK => ?_); refine goes_ Try.func22 (by kernel_rfl) rfl #[.slice o2 a9.length m2, .agg #[.slice o0 a10.length m0, .slice o1 a11.length m1, .int .i64 a12, .int .i64 a13]] (by rfl) rfl rfl zq0_ ?_
       with_reducible refine (impl_ExecFresh.calls k _ _ a9 _ _ a10 _ _ a11 a12 a13 a5 _ ?side1 ?side2 ?side3 ?side4 ?side5 ?side6 G1.out).mono ?_
       (case side1 => exact zq70_); (case side2 => exact zq32_); (case side3 => exact zq71_); (case side4 => exact zq33_); (case side5 => exact zq72_); (case side6 => exact zq34_); rintro e r7 ⟨rfl, hb⟩; refine ⟨_, rfl, ?_⟩; have n_ := A7_ (Kd.R_below zq13_ hb) (Kd.R_below zq14_ hb) (Kd.R_below zq15_ hb) (Kd.R_below zq16_ hb) (Kd.R_below zq17_ hb) (blk_below (g := c6) (o := .cells #[.slice o0 a10.length m0, .slice o1 a11.length m1, .int .i64 a12, .int .i64 a13] 30 (0, 0)) zq1c_ hb) (below_step zq58_ hb); clear f2 f3 f4 f5 f6 b0 HB; obtain ⟨f2, f3, f4, f5, f6, b0, HB⟩ := n_; (try clear hb); (try clear hb2); (try clear hk); (try clear hi); refine hK.out _ _ ⟨(blk_cell b0.out 0).trans rfl, (blk_cell b0.out 1).trans rfl, (blk_cell b0.out 2).trans rfl, (blk_cell b0.out 3).trans rfl⟩ (fun hHeld => ?_); clear hK K; refine norm_ (a' := ?_) ?_ ?_
       rotate_left
       ·show Act.put _ (some 39) _ = _; simp only [Act.put, sA_, sZ_, sS_, i64_w, i32_w]; rfl
       refine on_ (i := 19) (N := some 42) rfl rfl (one_of HT_.out (by kernel_rfl)) (by decide) (fun K hK => ?_); refine goes_ Try.func23 (by kernel_rfl) rfl #[.slice o2 a9.length m2, .agg #[.slice o0 a10.length m0, .slice o1 a11.length m1, .int .i64 a12, .int .i64 a13]] (by rfl) rfl rfl zq0_ ?_
       with_reducible refine (spec_ExecFresh.calls k _ _ a9 _ _ a10 _ _ a11 a12 a13 a6 _ ?side1 ?side2 ?side3 ?side4 ?side5 ?side6 G2.out).mono ?_
       (case side1 => exact zq70_); (case side2 => exact zq32_); (case side3 => exact zq71_); (case side4 => exact zq33_); (case side5 => exact zq72_); (case side6 => exact zq34_); rintro e r8 ⟨rfl, hb⟩; refine ⟨_, rfl, ?_⟩; have n_ := A7_ (Kd.R_below zq13_ hb) (Kd.R_below zq14_ hb) (Kd.R_below zq15_ hb) (Kd.R_below zq16_ hb) (Kd.R_below zq17_ hb) (blk_below (g := c6) (o := .cells #[.slice o0 a10.length m0, .slice o1 a11.length m1, .int .i64 a12, .int .i64 a13] 30 (0, 0)) zq1c_ hb) (below_step zq58_ hb); clear f2 f3 f4 f5 f6 b0 HB; obtain ⟨f2, f3, f4, f5, f6, b0, HB⟩ := n_; (try clear hb); (try clear hb2); (try clear hk); (try clear hi); refine hK.out _ _ ⟨(blk_cell b0.out 0).trans rfl, (blk_cell b0.out 1).trans rfl, (blk_cell b0.out 2).trans rfl, (blk_cell b0.out 3).trans rfl⟩ (fun hHeld => ?_); clear hK K; refine norm_ (a' := ?_) ?_ ?_
       rotate_left
       ·show Act.put _ (some 42) _ = _; simp only [Act.put, sA_, sZ_, sS_, i64_w, i32_w]; rfl
       refine pw_ 20 43 ?_; refine pw_ 21 44 ?_; refine done_ (done_of HT_.out (by kernel_rfl)) ?_
       try go_wp2_with (first | ((with_reducible refine gate_callee (f := 24) rfl ?_); refine gl_ 46 Try.func24 #[.slice o2 a9.length m2] ?_; (with_reducible refine (spec_BoxOk.calls k _ _ a9 true _ ?_ ?_ G3.out).mono ?_); exact zq70_; exact zq32_; rintro e w' ⟨rfl, ⟨nd, rfl⟩⟩; refine ⟨_, rfl, ?_⟩; obtain ⟨k7, k8, k9, k10, l8, l9, l10, l11⟩ := bz4_ b0.out) | (go_at_call 21; (with_reducible refine (spec_ExecOk.calls k _ _ a10 _ _ a11 a12 a13 true _ ?_ ?_ ?_ ?_ G4.out).mono ?_); exact zq71_; exact zq33_; exact zq72_; exact zq34_; rintro e r9 ⟨rfl, hb⟩; have n_ := A7_ (Kd.R_below zq13_ hb) (Kd.R_below zq14_ hb) (Kd.R_below zq15_ hb) (Kd.R_below zq16_ hb) (Kd.R_below zq17_ hb) (blk_below (g := c6) (o := .cells #[.slice o0 a10.length m0, .slice o1 a11.length m1, .int .i64 a12, .int .i64 a13] 30 (0, 0)) zq1c_ hb) (below_step zq58_ hb); clear f2 f3 f4 f5 f6 b0 HB; obtain ⟨f2, f3, f4, f5, f6, b0, HB⟩ := n_; (try clear G4)))
       go_loopg [6] k (fun kq v6 w' => ∃ (e0 : Int), v6 = .int .i64 e0 ∧ Aside0 (laws_FnExecDo.l0 kq a9 a0 e0 a10 a11 a12 a13 = some r) ∧ Aside0 (kq ≤ k) ∧ Aside0 (Kd.R k46 46 w' w.heap.size (fun k_ => some k_ ≠ ((.slice o3 a0.length m3) : Value).ownBlock) (.slice o2 a9.length m2) a9) ∧ Aside0 (Kd.R k46 46 w' w.heap.size (fun k_ => some k_ ≠ ((.slice o2 a9.length m2) : Value).ownBlock) (.slice o3 a0.length m3) a0) ∧ Aside0 (Kd.R k48 48 w' w.heap.size (fun _ => True) (.slice o0 a10.length m0) a10) ∧ Aside0 (Kd.R k36 36 w' w.heap.size (fun _ => True) (.slice o1 a11.length m1) a11) ∧ Aside0 (w'.heap[c6]? = some (.cells #[(.slice o0 a10.length m0), (.slice o1 a11.length m1), .int .i64 a12, .int .i64 a13] 30 (0, 0))) ∧ Aside0 (Below w.heap.size w w'))
       case atStart => exact ⟨(0), zq46_, H', ⟨Nat.le_refl _⟩, ⟨by (with_reducible repeat (first | apply Kd.R_alloc | apply Kd.R_drewN | apply Kd.R_drew)); exact Kd.R_mono f2.out (fun _ hk => hk.1.2)⟩, ⟨by (with_reducible repeat (first | apply Kd.R_alloc | apply Kd.R_drewN | apply Kd.R_drew)); exact Kd.R_mono f5.out (fun _ hk => hk.1.2)⟩, ⟨zq14_⟩, ⟨zq15_⟩, ⟨zq1c_⟩, ⟨zq58_⟩⟩
       case round =>
        clear H'
        try clear c1
        try clear c2
        try clear u0
        try clear u1
        try clear p2
        try clear c4
        try clear c7
        try clear x0
        try clear u2
        try clear u3
        try clear u4
        try clear x1
        try clear u5
        try clear u6
        try clear u7
        try clear c15
        try clear c16
        try clear c17
        try clear c18
        try clear c19
        try clear c20
        try clear c21
        try clear c22
        try clear c23
        try clear c24
        try clear k0 k4 k5 k6 l4 l5 l6 l7
        try clear k7 k8 k9 k10 l8 l9 l10 l11
        obtain ⟨e0, rfl, HA, Z0, q0, q1, q2, q3, b0, HB⟩ := hrel
        cases gk with
        | zero => exact absurd HA.out (by simp [laws_FnExecDo.l0])
        | succ k1 =>
         have H := HA.out; clear HA; simp only [laws_FnExecDo.l0] at H; replace H := ifc_ H
         rcases H with ⟨c35b0, H⟩ | ⟨c35b0, H⟩
         ·have H' := Aside0.mk H; clear H
          go_wp2
          go_loopg [7, 8] k1 (fun kq v7 v8 w' => ∃ (e1 : Bool) (e2 : Int), v7 = .bool e1 ∧ v8 = .int .i64 e2 ∧ Aside0 (laws_FnExecDo.l1 kq a9 a0 e0 e1 e2 a10 a11 a12 a13 = some r) ∧ Aside0 (kq ≤ k1) ∧ Aside0 (Kd.R k46 46 w' w.heap.size (fun k_ => some k_ ≠ ((.slice o3 a0.length m3) : Value).ownBlock) (.slice o2 a9.length m2) a9) ∧ Aside0 (Kd.R k46 46 w' w.heap.size (fun k_ => some k_ ≠ ((.slice o2 a9.length m2) : Value).ownBlock) (.slice o3 a0.length m3) a0) ∧ Aside0 (Kd.R k48 48 w' w.heap.size (fun _ => True) (.slice o0 a10.length m0) a10) ∧ Aside0 (Kd.R k36 36 w' w.heap.size (fun _ => True) (.slice o1 a11.length m1) a11) ∧ Aside0 (w'.heap[c6]? = some (.cells #[(.slice o0 a10.length m0), (.slice o1 a11.length m1), .int .i64 a12, .int .i64 a13] 30 (0, 0))) ∧ Aside0 (Below w.heap.size w w'))
          case atStart => exact ⟨(false), (0), zq46_, zq46_, H', ⟨Nat.le_refl _⟩, ⟨zq18_⟩, ⟨zq19_⟩, ⟨zq1a_⟩, ⟨zq1b_⟩, ⟨zq1c_⟩, ⟨zq58_⟩⟩
          case round =>
           clear H'
           try clear c1
           try clear c2
           try clear u0
           try clear u1
           try clear p2
           try clear c3
           try clear c4
           try clear c7
           try clear x0
           try clear u2
           try clear u3
           try clear u4
           try clear x1
           try clear u5
           try clear u6
           try clear u7
           try clear c15
           try clear c16
           try clear c17
           try clear c18
           try clear c19
           try clear c20
           try clear c21
           try clear c22
           try clear c23
           try clear c24
           try clear c35
           try clear c35b0
           try clear k0 k4 k5 k6 l4 l5 l6 l7
           try clear k7 k8 k9 k10 l8 l9 l10 l11
           try clear p2
           obtain ⟨e1, e2, rfl, rfl, HA, Z1, q0, q1, q2, q3, b0, HB⟩ := hrel
           cases gk with
           | zero => exact absurd HA.out (by simp [laws_FnExecDo.l1])
           | succ k2 =>
            have H := HA.out; clear HA; simp only [laws_FnExecDo.l1] at H; replace H := ifc_ H
            rcases H with ⟨c36b0, H⟩ | ⟨c36b0, H⟩
            ·as_aux_lemma =>
              replace H := ifd_ H; obtain ⟨u9, H⟩ := H; by_cases x2 : ((rd_T36 a11 e2).f0) = e0
              ·rw [if_pos x2] at H; have u10 : (((rd_T36 a11 e2).f0) == e0) = true := beq_iff_eq.mpr x2; have u11 : (((rd_T36 a11 e2).f0) != e0) = false := bne_eq_false_iff_eq.mpr x2; clear x2; replace H := ifd2_ H; obtain ⟨u12, u13, H⟩ := H; by_cases x3 : ((rd_T46 a0 e0).f1) = ((rd_T36 a11 e2).f1)
               ·rw [if_pos x3] at H; have u14 : (((rd_T46 a0 e0).f1) == ((rd_T36 a11 e2).f1)) = true := beq_iff_eq.mpr x3; have u15 : (((rd_T46 a0 e0).f1) != ((rd_T36 a11 e2).f1)) = false := bne_eq_false_iff_eq.mpr x3; clear x3; replace H := ifd_ H; obtain ⟨u16, H⟩ := H; by_cases x4 : ((rd_T46 a0 e0).f0) = (wrap64 (((rd_T46 a9 e0).f0) + 1))
                ·rw [if_pos x4] at H; have u17 : (((rd_T46 a0 e0).f0) == (wrap64 (((rd_T46 a9 e0).f0) + 1))) = true := beq_iff_eq.mpr x4; have u18 : (((rd_T46 a0 e0).f0) != (wrap64 (((rd_T46 a9 e0).f0) + 1))) = false := bne_eq_false_iff_eq.mpr x4; clear x4; have H' := Aside0.mk H; clear H; obtain ⟨k11, k12, k13, k14, l12, l13, l14, l15⟩ := bz4_ b0.out; have t0 : 0 ≤ (e2 : Int) := of_decide_eq_true zq41_; have s0 : e2 < (a11.length : Int) := of_decide_eq_true zq41_; obtain ⟨v0, M0, n0, n1⟩ := at_T36 (Kd.R_reads' q3.out).2.2 e2 t0 s0; cases M0; replace t0 := eq_true t0; replace s0 := eq_true s0
                 try go_wp2
                 have n_ := A6_ (Kd.R_drew q0.out) (Kd.R_drew q1.out) (Kd.R_drew q2.out) (Kd.R_drew q3.out) (blk_drew b0.out) (below_drew1 HB.out); clear q0 q1 q2 q3 b0 HB; obtain ⟨q0, q1, q2, q3, b0, HB⟩ := n_; have t1 : 0 ≤ (e0 : Int) := of_decide_eq_true zq41_; have s1 : e0 < (a0.length : Int) := of_decide_eq_true zq41_; obtain ⟨v1, M1, n2, n3⟩ := at_T46 (Kd.R_reads' q1.out).2.2 e0 t1 s1; cases M1; replace t1 := eq_true t1; replace s1 := eq_true s1; have t2 : 0 ≤ (e2 : Int) := of_decide_eq_true zq41_; have s2 : e2 < (a11.length : Int) := of_decide_eq_true zq41_; obtain ⟨v2, M2, n4, n5⟩ := at_T36 (Kd.R_reads' q3.out).2.2 e2 t2 s2; obtain rfl : v0 = v2 := (by injection M2); replace t2 := eq_true t2; replace s2 := eq_true s2; have t3 : 0 ≤ (e0 : Int) := of_decide_eq_true zq41_; have s3 : e0 < (a0.length : Int) := of_decide_eq_true zq41_; obtain ⟨v3, M3, n6, n7⟩ := at_T46 (Kd.R_reads' q1.out).2.2 e0 t3 s3; obtain rfl : v1 = v3 := (by injection M3); replace t3 := eq_true t3; replace s3 := eq_true s3; have t4 : 0 ≤ (e0 : Int) := of_decide_eq_true zq41_; have s4 : e0 < (a9.length : Int) := of_decide_eq_true zq41_; obtain ⟨v4, M4, n8, n9⟩ := at_T46 (Kd.R_reads' q0.out).2.2 e0 t4 s4; cases M4; replace t4 := eq_true t4; replace s4 := eq_true s4; refine start_ (n := 34) (S := fun w' => w'.cell? ⟨c6, 0, none⟩ = some (.slice o0 a10.length m0) ∧ w'.cell? ⟨c6, 1, none⟩ = some (.slice (some v0) a11.length m1) ∧ w'.cell? ⟨c6, 2, none⟩ = some (.int .i64 a12) ∧ w'.cell? ⟨c6, 3, none⟩ = some (.int .i64 a13) ∧ w'.cell? (v1.add ((e0).toNat * 2)) = some (.int .i64 ((rd_T46 a0 e0).f0)) ∧ w'.cell? ⟨(v1.add ((e0).toNat * 2)).block, (v1.add ((e0).toNat * 2)).off + 1, none⟩ = some (.int .i64 ((rd_T46 a0 e0).f1)) ∧ w'.cell? (v0.add ((e2).toNat * 2)) = some (.int .i64 ((rd_T36 a11 e2).f0)) ∧ w'.cell? ⟨(v0.add ((e2).toNat * 2)).block, (v0.add ((e2).toNat * 2)).off + 1, none⟩ = some (.int .i64 ((rd_T36 a11 e2).f1)) ∧ w'.cell? (v1.add ((e0).toNat * 2)) = some (.int .i64 ((rd_T46 a0 e0).f0)) ∧ w'.cell? ⟨(v1.add ((e0).toNat * 2)).block, (v1.add ((e0).toNat * 2)).off + 1, none⟩ = some (.int .i64 ((rd_T46 a0 e0).f1)) ∧ w'.cell? (v4.add ((e0).toNat * 2)) = some (.int .i64 ((rd_T46 a9 e0).f0)) ∧ w'.cell? ⟨(v4.add ((e0).toNat * 2)).block, (v4.add ((e0).toNat * 2)).off + 1, none⟩ = some (.int .i64 ((rd_T46 a9 e0).f1))) (ds := []) #[false, false, false, false, false, false, false, false, false, false, false, false, false, false, false, false, false, false, false, false, false, false, false, false, false, false, false, false, false, false, false, false, false, false] (by kernel_rfl) rfl rfl ⟨(blk_cell b0.out 0).trans rfl, (blk_cell b0.out 1).trans rfl, (blk_cell b0.out 2).trans rfl, (blk_cell b0.out 3).trans rfl, n2, n3, n4, n5, n6, n7, n8, n9⟩ (fun hHeld => ?_); refine with_tabW laws_FnExecDo.tab18 laws_FnExecDo.bits18 (fun HT_ HW_ => ?_); generalize wr.drew = r10 at q0 q1 q2 q3 b0 HB n2 n3 n4 n5 n6 n7 n8 n9 hHeld ⊢; refine pw_ 0 77 ?_; refine pw_ 1 78 ?_; refine pw_ 2 79 ?_; refine pw_ 3 80 ?_; refine pw_ 5 82 ?_; refine pw_ 7 84 ?_; refine tw_ 4 81 ?_; refine tw_ 6 83 ?_; refine pw_ 8 85 ?_; refine pw_ 9 86 ?_; refine tw_ 10 87 ?_; refine pw_ 11 88 ?_; refine pw_ 12 89 ?_; refine pw_ 13 90 ?_; refine pw_ 14 91 ?_; refine pw_ 15 92 ?_; refine pw_ 16 93 ?_; refine pw_ 18 95 ?_; refine pw_ 19 96 ?_; refine pw_ 20 97 ?_; refine pw_ 21 98 ?_; refine tw_ 17 94 ?_; refine tw_ 22 99 ?_; refine pw_ 23 100 ?_; refine pw_ 24 101 ?_; refine pw_ 25 102 ?_; refine pu_ (i := 26) (N := some 103) (v := undef) (a' := ?_) rfl rfl (any_of HT_.out (by kernel_rfl)) (fun _ _ _ h => h) (Or.inr ⟨by rfl, rfl⟩) ?_ ?_; rotate_left; (· (simp only [Act.put, sA_, sZ_, sS_, i64_w, i32_w]; rfl)); refine pu_ (i := 27) (N := some 104) (v := undef) (a' := ?_) rfl rfl (any_of HT_.out (by kernel_rfl)) (fun _ _ _ h => h) (Or.inr ⟨by rfl, rfl⟩) ?_ ?_
                 rotate_left; (· (simp only [Act.put, sA_, sZ_, sS_, i64_w, i32_w]; rfl))
                 refine pu_ (i := 28) (N := some 105) (v := undef) (a' := ?_) rfl rfl (any_of HT_.out (by kernel_rfl)) (fun _ _ _ h => h) (Or.inr ⟨by rfl, rfl⟩) ?_ ?_; rotate_left; (· (simp only [Act.put, sA_, sZ_, sS_, i64_w, i32_w]; rfl)); refine pu_ (i := 29) (N := some 106) (v := undef) (a' := ?_) rfl rfl (any_of HT_.out (by kernel_rfl)) (fun _ _ _ h => h) (Or.inr ⟨by rfl, rfl⟩) ?_ ?_
                 rotate_left; (· (simp only [Act.put, sA_, sZ_, sS_, i64_w, i32_w]; rfl))
                 refine pu_ (i := 30) (N := some 107) (v := undef) (a' := ?_) rfl rfl (any_of HT_.out (by kernel_rfl)) (fun _ _ _ h => h) (Or.inr ⟨by rfl, rfl⟩) ?_ ?_; rotate_left; (· (simp only [Act.put, sA_, sZ_, sS_, i64_w, i32_w]; rfl)); refine pu_ (i := 31) (N := some 108) (v := undef) (a' := ?_) rfl rfl (any_of HT_.out (by kernel_rfl)) (fun _ _ _ h => h) (Or.inr ⟨by rfl, rfl⟩) ?_ ?_
                 rotate_left; (· (simp only [Act.put, sA_, sZ_, sS_, i64_w, i32_w]; rfl))
                 refine pw_ 32 109 ?_; refine pw_ 33 110 ?_; refine done_ (done_of HT_.out (by kernel_rfl)) ?_
                 try go_wp2
                 go_roundg k2
                 case measure => have := Z0.out; have := Z1.out; omega
                 case rel => exact ⟨(true), (wrap64 (e2 + 1)), zq46_, zq46_, H', ⟨zq48_⟩, ⟨zq18_⟩, ⟨zq19_⟩, ⟨zq1a_⟩, ⟨zq1b_⟩, ⟨zq1c_⟩, ⟨zq58_⟩⟩
                ·rw [if_neg x4] at H; have u17 : (((rd_T46 a0 e0).f0) == (wrap64 (((rd_T46 a9 e0).f0) + 1))) = false := beq_eq_false_iff_ne.mpr x4; have u18 : (((rd_T46 a0 e0).f0) != (wrap64 (((rd_T46 a9 e0).f0) + 1))) = true := bne_iff_ne.mpr x4; replace H := ifc_ H
                 rcases H with ⟨c46b0, H⟩ | ⟨c46b0, H⟩
                 ·exact absurd ((Option.some.inj H).trans bs.out) (by decide)
                 ·have H' := Aside0.mk H; clear H; obtain ⟨k11, k12, k13, k14, l12, l13, l14, l15⟩ := bz4_ b0.out; have t0 : 0 ≤ (e2 : Int) := of_decide_eq_true zq41_; have s0 : e2 < (a11.length : Int) := of_decide_eq_true zq41_; obtain ⟨v0, M0, n0, n1⟩ := at_T36 (Kd.R_reads' q3.out).2.2 e2 t0 s0; cases M0; replace t0 := eq_true t0; replace s0 := eq_true s0
                  try go_wp2
                  have n_ := A6_ (Kd.R_drew q0.out) (Kd.R_drew q1.out) (Kd.R_drew q2.out) (Kd.R_drew q3.out) (blk_drew b0.out) (below_drew1 HB.out); clear q0 q1 q2 q3 b0 HB; obtain ⟨q0, q1, q2, q3, b0, HB⟩ := n_; have t1 : 0 ≤ (e0 : Int) := of_decide_eq_true zq41_; have s1 : e0 < (a0.length : Int) := of_decide_eq_true zq41_; obtain ⟨v1, M1, n2, n3⟩ := at_T46 (Kd.R_reads' q1.out).2.2 e0 t1 s1; cases M1; replace t1 := eq_true t1; replace s1 := eq_true s1; have t2 : 0 ≤ (e2 : Int) := of_decide_eq_true zq41_; have s2 : e2 < (a11.length : Int) := of_decide_eq_true zq41_; obtain ⟨v2, M2, n4, n5⟩ := at_T36 (Kd.R_reads' q3.out).2.2 e2 t2 s2; obtain rfl : v0 = v2 := (by injection M2); replace t2 := eq_true t2; replace s2 := eq_true s2; have t3 : 0 ≤ (e0 : Int) := of_decide_eq_true zq41_; have s3 : e0 < (a0.length : Int) := of_decide_eq_true zq41_; obtain ⟨v3, M3, n6, n7⟩ := at_T46 (Kd.R_reads' q1.out).2.2 e0 t3 s3; obtain rfl : v1 = v3 := (by injection M3); replace t3 := eq_true t3; replace s3 := eq_true s3; have t4 : 0 ≤ (e0 : Int) := of_decide_eq_true zq41_; have s4 : e0 < (a9.length : Int) := of_decide_eq_true zq41_; obtain ⟨v4, M4, n8, n9⟩ := at_T46 (Kd.R_reads' q0.out).2.2 e0 t4 s4; cases M4; replace t4 := eq_true t4; replace s4 := eq_true s4; have t5 : 0 ≤ (e0 : Int) := of_decide_eq_true zq41_; have s5 : e0 < (a9.length : Int) := of_decide_eq_true zq41_; obtain ⟨v5, M5, n10, n11⟩ := at_T46 (Kd.R_reads' q0.out).2.2 e0 t5 s5; obtain rfl : v4 = v5 := (by injection M5); replace t5 := eq_true t5; replace s5 := eq_true s5; refine start_ (n := 34) (S := fun w' => w'.cell? ⟨c6, 0, none⟩ = some (.slice o0 a10.length m0) ∧ w'.cell? ⟨c6, 1, none⟩ = some (.slice (some v0) a11.length m1) ∧ w'.cell? ⟨c6, 2, none⟩ = some (.int .i64 a12) ∧ w'.cell? ⟨c6, 3, none⟩ = some (.int .i64 a13) ∧ w'.cell? (v1.add ((e0).toNat * 2)) = some (.int .i64 ((rd_T46 a0 e0).f0)) ∧ w'.cell? ⟨(v1.add ((e0).toNat * 2)).block, (v1.add ((e0).toNat * 2)).off + 1, none⟩ = some (.int .i64 ((rd_T46 a0 e0).f1)) ∧ w'.cell? (v0.add ((e2).toNat * 2)) = some (.int .i64 ((rd_T36 a11 e2).f0)) ∧ w'.cell? ⟨(v0.add ((e2).toNat * 2)).block, (v0.add ((e2).toNat * 2)).off + 1, none⟩ = some (.int .i64 ((rd_T36 a11 e2).f1)) ∧ w'.cell? (v1.add ((e0).toNat * 2)) = some (.int .i64 ((rd_T46 a0 e0).f0)) ∧ w'.cell? ⟨(v1.add ((e0).toNat * 2)).block, (v1.add ((e0).toNat * 2)).off + 1, none⟩ = some (.int .i64 ((rd_T46 a0 e0).f1)) ∧ w'.cell? (v4.add ((e0).toNat * 2)) = some (.int .i64 ((rd_T46 a9 e0).f0)) ∧ w'.cell? ⟨(v4.add ((e0).toNat * 2)).block, (v4.add ((e0).toNat * 2)).off + 1, none⟩ = some (.int .i64 ((rd_T46 a9 e0).f1)) ∧ w'.cell? (v4.add ((e0).toNat * 2)) = some (.int .i64 ((rd_T46 a9 e0).f0)) ∧ w'.cell? ⟨(v4.add ((e0).toNat * 2)).block, (v4.add ((e0).toNat * 2)).off + 1, none⟩ = some (.int .i64 ((rd_T46 a9 e0).f1))) (ds := []) #[false, false, false, false, false, false, false, false, false, false, false, false, false, false, false, false, false, false, false, false, false, false, false, false, false, false, false, false, false, false, false, false, false, false] (by kernel_rfl) rfl rfl ⟨(blk_cell b0.out 0).trans rfl, (blk_cell b0.out 1).trans rfl, (blk_cell b0.out 2).trans rfl, (blk_cell b0.out 3).trans rfl, n2, n3, n4, n5, n6, n7, n8, n9, n10, n11⟩ (fun hHeld => ?_); refine with_tabW laws_FnExecDo.tab18 laws_FnExecDo.bits18 (fun HT_ HW_ => ?_); generalize wr.drew = r10 at q0 q1 q2 q3 b0 HB n2 n3 n4 n5 n6 n7 n8 n9 n10 n11 hHeld ⊢; refine pw_ 0 77 ?_; refine pw_ 1 78 ?_; refine pw_ 2 79 ?_; refine pw_ 3 80 ?_; refine pw_ 5 82 ?_; refine pw_ 7 84 ?_; refine tw_ 4 81 ?_; refine tw_ 6 83 ?_; refine pw_ 8 85 ?_; refine pw_ 9 86 ?_; refine tw_ 10 87 ?_; refine pw_ 11 88 ?_; refine pw_ 12 89 ?_; refine pw_ 13 90 ?_; refine pw_ 14 91 ?_; refine pw_ 15 92 ?_; refine pw_ 16 93 ?_; refine pw_ 18 95 ?_; refine pw_ 19 96 ?_; refine pw_ 20 97 ?_; refine pw_ 21 98 ?_; refine tw_ 17 94 ?_; refine tw_ 22 99 ?_; refine pw_ 23 100 ?_; refine pw_ 24 101 ?_; refine pw_ 25 102 ?_; refine pw_ 26 103 ?_; refine pw_ 27 104 ?_
                  refine pw_ 28 105 ?_; refine pw_ 29 106 ?_; refine tw_ 30 107 ?_; refine pw_ 31 108 ?_; refine pw_ 32 109 ?_; refine pw_ 33 110 ?_; refine done_ (done_of HT_.out (by kernel_rfl)) ?_
                  try go_wp2
                  go_roundg k2
                  case measure => have := Z0.out; have := Z1.out; omega
                  case rel => exact ⟨(true), (wrap64 (e2 + 1)), zq46_, zq46_, H', ⟨zq48_⟩, ⟨zq18_⟩, ⟨zq19_⟩, ⟨zq1a_⟩, ⟨zq1b_⟩, ⟨zq1c_⟩, ⟨zq58_⟩⟩
               ·rw [if_neg x3] at H; have u14 : (((rd_T46 a0 e0).f1) == ((rd_T36 a11 e2).f1)) = false := beq_eq_false_iff_ne.mpr x3; have u15 : (((rd_T46 a0 e0).f1) != ((rd_T36 a11 e2).f1)) = true := bne_iff_ne.mpr x3; exact absurd ((Option.some.inj H).trans bs.out) (by decide)
              ·rw [if_neg x2] at H; have u10 : (((rd_T36 a11 e2).f0) == e0) = false := beq_eq_false_iff_ne.mpr x2; have u11 : (((rd_T36 a11 e2).f0) != e0) = true := bne_iff_ne.mpr x2; have H' := Aside0.mk H; clear H; obtain ⟨k11, k12, k13, k14, l12, l13, l14, l15⟩ := bz4_ b0.out; have t0 : 0 ≤ (e2 : Int) := of_decide_eq_true zq41_; have s0 : e2 < (a11.length : Int) := of_decide_eq_true zq41_; obtain ⟨v0, M0, n0, n1⟩ := at_T36 (Kd.R_reads' q3.out).2.2 e2 t0 s0; cases M0; replace t0 := eq_true t0; replace s0 := eq_true s0
               go_wp2
               go_roundg k2
               case measure => have := Z0.out; have := Z1.out; omega
               case rel => exact ⟨(e1), (wrap64 (e2 + 1)), zq46_, zq46_, H', ⟨zq48_⟩, ⟨zq18_⟩, ⟨zq19_⟩, ⟨zq1a_⟩, ⟨zq1b_⟩, ⟨zq1c_⟩, ⟨zq58_⟩⟩
            ·as_aux_lemma =>
              replace H := ifB_ H
              rcases H with ⟨rfl, H⟩ | ⟨rfl, H⟩
              ·have H' := Aside0.mk H; clear H; obtain ⟨k11, k12, k13, k14, l12, l13, l14, l15⟩ := bz4_ b0.out
               try go_wp2
               have n_ := A6_ (Kd.R_drew q0.out) (Kd.R_drew q1.out) (Kd.R_drew q2.out) (Kd.R_drew q3.out) (blk_drew b0.out) (below_drew1 HB.out); clear q0 q1 q2 q3 b0 HB; obtain ⟨q0, q1, q2, q3, b0, HB⟩ := n_; refine start_ (n := 13) (S := fun w' => True) (ds := []) #[false, false, false, false, false, false, false, false, false, false, false, false, false] (by kernel_rfl) rfl rfl trivial (fun hHeld => ?_); refine with_tabW laws_FnExecDo.tab20 laws_FnExecDo.bits20 (fun HT_ HW_ => ?_); generalize wr.drew = r10 at q0 q1 q2 q3 b0 HB hHeld ⊢; refine pw_ 0 111 ?_; refine pw_ 1 112 ?_; refine pw_ 2 113 ?_; refine pu_ (i := 3) (N := some 114) (v := undef) (a' := ?_) rfl rfl (any_of HT_.out (by kernel_rfl)) (fun _ _ _ h => h) (Or.inr ⟨by rfl, rfl⟩) ?_ ?_; rotate_left; (· (simp only [Act.put, sA_, sZ_, sS_, i64_w, i32_w]; rfl)); refine pu_ (i := 4) (N := some 115) (v := undef) (a' := ?_) rfl rfl (any_of HT_.out (by kernel_rfl)) (fun _ _ _ h => h) (Or.inr ⟨by rfl, rfl⟩) ?_ ?_
               rotate_left; (· (simp only [Act.put, sA_, sZ_, sS_, i64_w, i32_w]; rfl))
               refine pu_ (i := 5) (N := some 116) (v := undef) (a' := ?_) rfl rfl (any_of HT_.out (by kernel_rfl)) (fun _ _ _ h => h) (Or.inr ⟨by rfl, rfl⟩) ?_ ?_; rotate_left; (· (simp only [Act.put, sA_, sZ_, sS_, i64_w, i32_w]; rfl)); refine pu_ (i := 6) (N := some 117) (v := undef) (a' := ?_) rfl rfl (any_of HT_.out (by kernel_rfl)) (fun _ _ _ h => h) (Or.inr ⟨by rfl, rfl⟩) ?_ ?_
               rotate_left; (· (simp only [Act.put, sA_, sZ_, sS_, i64_w, i32_w]; rfl))
               refine pu_ (i := 7) (N := some 118) (v := undef) (a' := ?_) rfl rfl (any_of HT_.out (by kernel_rfl)) (fun _ _ _ h => h) (Or.inr ⟨by rfl, rfl⟩) ?_ ?_; rotate_left; (· (simp only [Act.put, sA_, sZ_, sS_, i64_w, i32_w]; rfl)); refine pu_ (i := 8) (N := some 119) (v := undef) (a' := ?_) rfl rfl (any_of HT_.out (by kernel_rfl)) (fun _ _ _ h => h) (Or.inr ⟨by rfl, rfl⟩) ?_ ?_
               rotate_left; (· (simp only [Act.put, sA_, sZ_, sS_, i64_w, i32_w]; rfl))
               refine pu_ (i := 9) (N := some 120) (v := undef) (a' := ?_) rfl rfl (any_of HT_.out (by kernel_rfl)) (fun _ _ _ h => h) (Or.inr ⟨by rfl, rfl⟩) ?_ ?_; rotate_left; (· (simp only [Act.put, sA_, sZ_, sS_, i64_w, i32_w]; rfl)); refine pu_ (i := 10) (N := some 121) (v := undef) (a' := ?_) rfl rfl (any_of HT_.out (by kernel_rfl)) (fun _ _ _ h => h) (Or.inr ⟨by rfl, rfl⟩) ?_ ?_
               rotate_left; (· (simp only [Act.put, sA_, sZ_, sS_, i64_w, i32_w]; rfl))
               refine pu_ (i := 11) (N := some 122) (v := undef) (a' := ?_) rfl rfl (any_of HT_.out (by kernel_rfl)) (fun _ _ _ h => h) (Or.inr ⟨by rfl, rfl⟩) ?_ ?_; rotate_left; (· (simp only [Act.put, sA_, sZ_, sS_, i64_w, i32_w]; rfl)); refine pw_ 12 123 ?_; refine done_ (done_of HT_.out (by kernel_rfl)) ?_
               try go_wp2
               go_roundg k2
               case measure => have := Z0.out; have := Z1.out; omega
               case rel => exact ⟨(wrap64 (e0 + 1)), zq46_, H', ⟨zq48_⟩, ⟨zq18_⟩, ⟨zq19_⟩, ⟨zq1a_⟩, ⟨zq1b_⟩, ⟨zq1c_⟩, ⟨zq58_⟩⟩
              ·replace H := ifd3_ H; obtain ⟨u9, u10, u11, H⟩ := H; by_cases x2 : (!(((rd_T46 a0 e0).f0) == ((rd_T46 a9 e0).f0)) || (!(((rd_T46 a0 e0).f1) == ((rd_T46 a9 e0).f1)))) = true
               ·rw [if_pos x2] at H; have u12 : (!(((rd_T46 a0 e0).f0) == ((rd_T46 a9 e0).f0)) || (!(((rd_T46 a0 e0).f1) == ((rd_T46 a9 e0).f1)))) = true := x2; clear x2; exact absurd ((Option.some.inj H).trans bs.out) (by decide)
               ·rw [if_neg x2] at H; have u12 : (!(((rd_T46 a0 e0).f0) == ((rd_T46 a9 e0).f0)) || (!(((rd_T46 a0 e0).f1) == ((rd_T46 a9 e0).f1)))) = false := by simpa using x2
                clear x2; have H' := Aside0.mk H; clear H; obtain ⟨k11, k12, k13, k14, l12, l13, l14, l15⟩ := bz4_ b0.out
                try go_wp2
                have n_ := A6_ (Kd.R_drew q0.out) (Kd.R_drew q1.out) (Kd.R_drew q2.out) (Kd.R_drew q3.out) (blk_drew b0.out) (below_drew1 HB.out); clear q0 q1 q2 q3 b0 HB; obtain ⟨q0, q1, q2, q3, b0, HB⟩ := n_; have t0 : 0 ≤ (e0 : Int) := of_decide_eq_true zq41_; have s0 : e0 < (a0.length : Int) := of_decide_eq_true zq41_; obtain ⟨v0, M0, n0, n1⟩ := at_T46 (Kd.R_reads' q1.out).2.2 e0 t0 s0; cases M0; replace t0 := eq_true t0; replace s0 := eq_true s0; have t1 : 0 ≤ (e0 : Int) := of_decide_eq_true zq41_; have s1 : e0 < (a9.length : Int) := of_decide_eq_true zq41_; obtain ⟨v1, M1, n2, n3⟩ := at_T46 (Kd.R_reads' q0.out).2.2 e0 t1 s1; cases M1; replace t1 := eq_true t1; replace s1 := eq_true s1; refine start_ (n := 13) (S := fun w' => w'.cell? (v0.add ((e0).toNat * 2)) = some (.int .i64 ((rd_T46 a0 e0).f0)) ∧ w'.cell? ⟨(v0.add ((e0).toNat * 2)).block, (v0.add ((e0).toNat * 2)).off + 1, none⟩ = some (.int .i64 ((rd_T46 a0 e0).f1)) ∧ w'.cell? (v1.add ((e0).toNat * 2)) = some (.int .i64 ((rd_T46 a9 e0).f0)) ∧ w'.cell? ⟨(v1.add ((e0).toNat * 2)).block, (v1.add ((e0).toNat * 2)).off + 1, none⟩ = some (.int .i64 ((rd_T46 a9 e0).f1))) (ds := []) #[false, false, false, false, false, false, false, false, false, false, false, false, false] (by kernel_rfl) rfl rfl ⟨n0, n1, n2, n3⟩ (fun hHeld => ?_); refine with_tabW laws_FnExecDo.tab20 laws_FnExecDo.bits20 (fun HT_ HW_ => ?_); generalize wr.drew = r10 at q0 q1 q2 q3 b0 HB n0 n1 n2 n3 hHeld ⊢; refine pw_ 0 111 ?_; refine pw_ 1 112 ?_; refine pw_ 2 113 ?_; refine pw_ 3 114 ?_; refine pw_ 4 115 ?_; refine pw_ 5 116 ?_; refine pw_ 7 118 ?_; refine pw_ 8 119 ?_; refine pw_ 9 120 ?_; refine tw_ 6 117 ?_; refine tw_ 10 121 ?_; refine pw_ 11 122 ?_; refine pw_ 12 123 ?_; refine done_ (done_of HT_.out (by kernel_rfl)) ?_
                try go_wp2
                go_roundg k2
                case measure => have := Z0.out; have := Z1.out; omega
                case rel => exact ⟨(wrap64 (e0 + 1)), zq46_, H', ⟨zq48_⟩, ⟨zq18_⟩, ⟨zq19_⟩, ⟨zq1a_⟩, ⟨zq1b_⟩, ⟨zq1c_⟩, ⟨zq58_⟩⟩
         ·have H' := Aside0.mk H; clear H
          go_wp2
          go_loopg [9, 10] k1 (fun kq v9 S5 w' => ∃ (e1 : Bool) (e2 : Int), v9 = .bool e1 ∧ S5 = .int .i64 e2 ∧ Aside0 (laws_FnExecDo.l2 kq a9 a0 e1 e2 a10 a11 a12 a13 = some r) ∧ Aside0 (kq ≤ k1) ∧ Aside0 (Kd.R k46 46 w' w.heap.size (fun k_ => some k_ ≠ ((.slice o3 a0.length m3) : Value).ownBlock) (.slice o2 a9.length m2) a9) ∧ Aside0 (Kd.R k46 46 w' w.heap.size (fun k_ => some k_ ≠ ((.slice o2 a9.length m2) : Value).ownBlock) (.slice o3 a0.length m3) a0) ∧ Aside0 (Kd.R k48 48 w' w.heap.size (fun _ => True) (.slice o0 a10.length m0) a10) ∧ Aside0 (Kd.R k36 36 w' w.heap.size (fun _ => True) (.slice o1 a11.length m1) a11) ∧ Aside0 (w'.heap[c6]? = some (.cells #[(.slice o0 a10.length m0), (.slice o1 a11.length m1), .int .i64 a12, .int .i64 a13] 30 (0, 0))) ∧ Aside0 (Below w.heap.size w w'))
          case atStart => exact ⟨(false), (0), zq46_, zq46_, H', ⟨Nat.le_refl _⟩, ⟨zq18_⟩, ⟨zq19_⟩, ⟨zq1a_⟩, ⟨zq1b_⟩, ⟨zq1c_⟩, ⟨zq58_⟩⟩
          case round =>
           clear H'
           try clear p2
           try clear c3
           try clear c4
           try clear p4
           try clear q4
           try clear hx4
           try clear c5
           try clear p6
           try clear c35
           try clear c35b0
           try clear c36
           try clear c36b0
           try clear c37
           try clear x2
           try clear u9
           try clear u10
           try clear c39
           try clear c40
           try clear x3
           try clear u11
           try clear u12
           try clear c42
           try clear p47
           try clear q47
           try clear hx47
           try clear p48
           try clear q48
           try clear hx48
           try clear c50
           try clear c53
           try clear u13
           try clear c54
           try clear u14
           try clear c55
           try clear u15
           try clear x4
           try clear u16
           try clear k11 k12 k13 k14 l12 l13 l14 l15
           try clear k15 k16 k17 k18 l16 l17 l18 l19
           try clear k19 k20 k21 k22 l20 l21 l22 l23
           try clear n0
           try clear n1
           try clear n2
           try clear n3
           try clear n4
           try clear n5
           try clear t0
           try clear t1
           try clear t2
           try clear s0
           try clear s1
           try clear s2
           obtain ⟨e1, e2, rfl, rfl, HA, Z1, q0, q1, q2, q3, b0, HB⟩ := hrel
           cases gk with
           | zero => exact absurd HA.out (by simp [laws_FnExecDo.l2])
           | succ k2 =>
            have H := HA.out; clear HA; simp only [laws_FnExecDo.l2] at H; replace H := ifc_ H
            rcases H with ⟨c59b0, H⟩ | ⟨c59b0, H⟩
            ·have H' := Aside0.mk H; clear H; obtain ⟨k23, k24, k25, k26, l24, l25, l26, l27⟩ := bz4_ b0.out
             go_wp2
             go_loopg [9, 11] k2 (fun kq v9 S6 w' => ∃ (e3 : Bool) (e4 : Int), v9 = .bool e3 ∧ S6 = .int .i64 e4 ∧ Aside0 (laws_FnExecDo.l3 kq a9 a0 e3 e2 e4 a10 a11 a12 a13 = some r) ∧ Aside0 (kq ≤ k2) ∧ Aside0 (Kd.R k46 46 w' w.heap.size (fun k_ => some k_ ≠ ((.slice o3 a0.length m3) : Value).ownBlock) (.slice o2 a9.length m2) a9) ∧ Aside0 (Kd.R k46 46 w' w.heap.size (fun k_ => some k_ ≠ ((.slice o2 a9.length m2) : Value).ownBlock) (.slice o3 a0.length m3) a0) ∧ Aside0 (Kd.R k48 48 w' w.heap.size (fun _ => True) (.slice o0 a10.length m0) a10) ∧ Aside0 (Kd.R k36 36 w' w.heap.size (fun _ => True) (.slice o1 a11.length m1) a11) ∧ Aside0 (w'.heap[c6]? = some (.cells #[(.slice o0 a10.length m0), (.slice o1 a11.length m1), .int .i64 a12, .int .i64 a13] 30 (0, 0))) ∧ Aside0 (Below w.heap.size w w'))
             case atStart => exact ⟨(e1), (0), zq46_, zq46_, H', ⟨Nat.le_refl _⟩, ⟨zq18_⟩, ⟨zq19_⟩, ⟨zq1a_⟩, ⟨zq1b_⟩, ⟨zq1c_⟩, ⟨zq58_⟩⟩
             case round =>
              clear H'
              try clear p2
              try clear c3
              try clear c4
              try clear p4
              try clear q4
              try clear hx4
              try clear c5
              try clear p6
              try clear c35
              try clear c35b0
              try clear c36
              try clear c36b0
              try clear c37
              try clear x2
              try clear u9
              try clear u10
              try clear c39
              try clear c40
              try clear x3
              try clear u11
              try clear u12
              try clear c42
              try clear p47
              try clear q47
              try clear hx47
              try clear p48
              try clear q48
              try clear hx48
              try clear c50
              try clear c53
              try clear u13
              try clear c54
              try clear u14
              try clear c55
              try clear u15
              try clear x4
              try clear u16
              try clear c59
              try clear c59b0
              try clear k11 k12 k13 k14 l12 l13 l14 l15
              try clear k15 k16 k17 k18 l16 l17 l18 l19
              try clear k19 k20 k21 k22 l20 l21 l22 l23
              try clear k23 k24 k25 k26 l24 l25 l26 l27
              try clear n0
              try clear n1
              try clear n2
              try clear n3
              try clear n4
              try clear n5
              try clear p2
              try clear p4
              try clear p47
              try clear t0
              try clear p48
              try clear t1
              try clear t2
              try clear p6
              try clear q4
              try clear q47
              try clear s0
              try clear q48
              try clear s1
              try clear s2
              obtain ⟨e3, e4, rfl, rfl, HA, Z2, q0, q1, q2, q3, b0, HB⟩ := hrel
              cases gk with
              | zero => exact absurd HA.out (by simp [laws_FnExecDo.l3])
              | succ k3 =>
               have H := HA.out; clear HA; simp only [laws_FnExecDo.l3] at H; replace H := ifc_ H
               rcases H with ⟨c61b0, H⟩ | ⟨c61b0, H⟩
               ·as_aux_lemma =>
                 replace H := ifB_ H
                 rcases H with ⟨rfl, H⟩ | ⟨rfl, H⟩
                 ·have H' := Aside0.mk H; clear H; obtain ⟨k27, k28, k29, k30, l28, l29, l30, l31⟩ := bz4_ b0.out
                  try go_wp2
                  have n_ := A6_ (Kd.R_drew q0.out) (Kd.R_drew q1.out) (Kd.R_drew q2.out) (Kd.R_drew q3.out) (blk_drew b0.out) (below_drew1 HB.out); clear q0 q1 q2 q3 b0 HB; obtain ⟨q0, q1, q2, q3, b0, HB⟩ := n_; refine start_ (n := 30) (S := fun w' => True) (ds := []) #[false, false, false, false, false, false, false, false, false, false, false, false, false, false, false, false, false, false, false, false, false, false, false, false, false, false, false, false, false, false] (by kernel_rfl) rfl rfl trivial (fun hHeld => ?_); refine with_tabW laws_FnExecDo.tab29 laws_FnExecDo.bits29 (fun HT_ HW_ => ?_); generalize wr.drew = r10 at q0 q1 q2 q3 b0 HB hHeld ⊢; refine pw_ 0 138 ?_; refine pw_ 1 139 ?_; refine pu_ (i := 2) (N := some 140) (v := undef) (a' := ?_) rfl rfl (any_of HT_.out (by kernel_rfl)) (fun _ _ _ h => h) (Or.inr ⟨by rfl, rfl⟩) ?_ ?_; rotate_left; (· (simp only [Act.put, sA_, sZ_, sS_, i64_w, i32_w]; rfl)); refine pu_ (i := 3) (N := some 141) (v := undef) (a' := ?_) rfl rfl (any_of HT_.out (by kernel_rfl)) (fun _ _ _ h => h) (Or.inr ⟨by rfl, rfl⟩) ?_ ?_
                  rotate_left; (· (simp only [Act.put, sA_, sZ_, sS_, i64_w, i32_w]; rfl))
                  refine pu_ (i := 4) (N := some 142) (v := undef) (a' := ?_) rfl rfl (any_of HT_.out (by kernel_rfl)) (fun _ _ _ h => h) (Or.inr ⟨by rfl, rfl⟩) ?_ ?_; rotate_left; (· (simp only [Act.put, sA_, sZ_, sS_, i64_w, i32_w]; rfl)); refine pu_ (i := 5) (N := some 143) (v := undef) (a' := ?_) rfl rfl (any_of HT_.out (by kernel_rfl)) (fun _ _ _ h => h) (Or.inr ⟨by rfl, rfl⟩) ?_ ?_
                  rotate_left; (· (simp only [Act.put, sA_, sZ_, sS_, i64_w, i32_w]; rfl))
                  refine pu_ (i := 6) (N := some 144) (v := undef) (a' := ?_) rfl rfl (any_of HT_.out (by kernel_rfl)) (fun _ _ _ h => h) (Or.inr ⟨by rfl, rfl⟩) ?_ ?_; rotate_left; (· (simp only [Act.put, sA_, sZ_, sS_, i64_w, i32_w]; rfl)); refine pu_ (i := 7) (N := some 145) (v := undef) (a' := ?_) rfl rfl (any_of HT_.out (by kernel_rfl)) (fun _ _ _ h => h) (Or.inr ⟨by rfl, rfl⟩) ?_ ?_
                  rotate_left; (· (simp only [Act.put, sA_, sZ_, sS_, i64_w, i32_w]; rfl))
                  refine pu_ (i := 8) (N := some 146) (v := undef) (a' := ?_) rfl rfl (any_of HT_.out (by kernel_rfl)) (fun _ _ _ h => h) (Or.inr ⟨by rfl, rfl⟩) ?_ ?_; rotate_left; (· (simp only [Act.put, sA_, sZ_, sS_, i64_w, i32_w]; rfl)); refine pu_ (i := 9) (N := some 147) (v := undef) (a' := ?_) rfl rfl (any_of HT_.out (by kernel_rfl)) (fun _ _ _ h => h) (Or.inr ⟨by rfl, rfl⟩) ?_ ?_
                  rotate_left; (· (simp only [Act.put, sA_, sZ_, sS_, i64_w, i32_w]; rfl))
                  refine pu_ (i := 10) (N := some 148) (v := undef) (a' := ?_) rfl rfl (any_of HT_.out (by kernel_rfl)) (fun _ _ _ h => h) (Or.inr ⟨by rfl, rfl⟩) ?_ ?_; rotate_left; (· (simp only [Act.put, sA_, sZ_, sS_, i64_w, i32_w]; rfl)); refine pu_ (i := 11) (N := some 149) (v := undef) (a' := ?_) rfl rfl (any_of HT_.out (by kernel_rfl)) (fun _ _ _ h => h) (Or.inr ⟨by rfl, rfl⟩) ?_ ?_
                  rotate_left; (· (simp only [Act.put, sA_, sZ_, sS_, i64_w, i32_w]; rfl))
                  refine pu_ (i := 12) (N := some 150) (v := undef) (a' := ?_) rfl rfl (any_of HT_.out (by kernel_rfl)) (fun _ _ _ h => h) (Or.inr ⟨by rfl, rfl⟩) ?_ ?_; rotate_left; (· (simp only [Act.put, sA_, sZ_, sS_, i64_w, i32_w]; rfl)); refine pu_ (i := 13) (N := some 151) (v := undef) (a' := ?_) rfl rfl (any_of HT_.out (by kernel_rfl)) (fun _ _ _ h => h) (Or.inr ⟨by rfl, rfl⟩) ?_ ?_
                  rotate_left; (· (simp only [Act.put, sA_, sZ_, sS_, i64_w, i32_w]; rfl))
                  refine pu_ (i := 14) (N := some 152) (v := undef) (a' := ?_) rfl rfl (any_of HT_.out (by kernel_rfl)) (fun _ _ _ h => h) (Or.inr ⟨by rfl, rfl⟩) ?_ ?_; rotate_left; (· (simp only [Act.put, sA_, sZ_, sS_, i64_w, i32_w]; rfl)); refine pu_ (i := 15) (N := some 153) (v := undef) (a' := ?_) rfl rfl (any_of HT_.out (by kernel_rfl)) (fun _ _ _ h => h) (Or.inr ⟨by rfl, rfl⟩) ?_ ?_
                  rotate_left; (· (simp only [Act.put, sA_, sZ_, sS_, i64_w, i32_w]; rfl))
                  refine pu_ (i := 16) (N := some 154) (v := undef) (a' := ?_) rfl rfl (any_of HT_.out (by kernel_rfl)) (fun _ _ _ h => h) (Or.inr ⟨by rfl, rfl⟩) ?_ ?_; rotate_left; (· (simp only [Act.put, sA_, sZ_, sS_, i64_w, i32_w]; rfl)); refine pu_ (i := 17) (N := some 155) (v := undef) (a' := ?_) rfl rfl (any_of HT_.out (by kernel_rfl)) (fun _ _ _ h => h) (Or.inr ⟨by rfl, rfl⟩) ?_ ?_
                  rotate_left; (· (simp only [Act.put, sA_, sZ_, sS_, i64_w, i32_w]; rfl))
                  refine pu_ (i := 18) (N := some 156) (v := undef) (a' := ?_) rfl rfl (any_of HT_.out (by kernel_rfl)) (fun _ _ _ h => h) (Or.inr ⟨by rfl, rfl⟩) ?_ ?_; rotate_left; (· (simp only [Act.put, sA_, sZ_, sS_, i64_w, i32_w]; rfl)); refine pu_ (i := 19) (N := some 157) (v := undef) (a' := ?_) rfl rfl (any_of HT_.out (by kernel_rfl)) (fun _ _ _ h => h) (Or.inr ⟨by rfl, rfl⟩) ?_ ?_
                  rotate_left; (· (simp only [Act.put, sA_, sZ_, sS_, i64_w, i32_w]; rfl))
                  refine pu_ (i := 20) (N := some 158) (v := undef) (a' := ?_) rfl rfl (any_of HT_.out (by kernel_rfl)) (fun _ _ _ h => h) (Or.inr ⟨by rfl, rfl⟩) ?_ ?_; rotate_left; (· (simp only [Act.put, sA_, sZ_, sS_, i64_w, i32_w]; rfl)); refine pu_ (i := 21) (N := some 159) (v := undef) (a' := ?_) rfl rfl (any_of HT_.out (by kernel_rfl)) (fun _ _ _ h => h) (Or.inr ⟨by rfl, rfl⟩) ?_ ?_
                  rotate_left; (· (simp only [Act.put, sA_, sZ_, sS_, i64_w, i32_w]; rfl))
                  refine pu_ (i := 22) (N := some 160) (v := undef) (a' := ?_) rfl rfl (any_of HT_.out (by kernel_rfl)) (fun _ _ _ h => h) (Or.inr ⟨by rfl, rfl⟩) ?_ ?_; rotate_left; (· (simp only [Act.put, sA_, sZ_, sS_, i64_w, i32_w]; rfl)); refine pu_ (i := 23) (N := some 161) (v := undef) (a' := ?_) rfl rfl (any_of HT_.out (by kernel_rfl)) (fun _ _ _ h => h) (Or.inr ⟨by rfl, rfl⟩) ?_ ?_
                  rotate_left; (· (simp only [Act.put, sA_, sZ_, sS_, i64_w, i32_w]; rfl))
                  refine pu_ (i := 24) (N := some 162) (v := undef) (a' := ?_) rfl rfl (any_of HT_.out (by kernel_rfl)) (fun _ _ _ h => h) (Or.inr ⟨by rfl, rfl⟩) ?_ ?_; rotate_left; (· (simp only [Act.put, sA_, sZ_, sS_, i64_w, i32_w]; rfl)); refine pu_ (i := 25) (N := some 163) (v := undef) (a' := ?_) rfl rfl (any_of HT_.out (by kernel_rfl)) (fun _ _ _ h => h) (Or.inr ⟨by rfl, rfl⟩) ?_ ?_
                  rotate_left; (· (simp only [Act.put, sA_, sZ_, sS_, i64_w, i32_w]; rfl))
                  refine pu_ (i := 26) (N := some 164) (v := undef) (a' := ?_) rfl rfl (any_of HT_.out (by kernel_rfl)) (fun _ _ _ h => h) (Or.inr ⟨by rfl, rfl⟩) ?_ ?_; rotate_left; (· (simp only [Act.put, sA_, sZ_, sS_, i64_w, i32_w]; rfl)); refine pu_ (i := 27) (N := some 165) (v := undef) (a' := ?_) rfl rfl (any_of HT_.out (by kernel_rfl)) (fun _ _ _ h => h) (Or.inr ⟨by rfl, rfl⟩) ?_ ?_
                  rotate_left; (· (simp only [Act.put, sA_, sZ_, sS_, i64_w, i32_w]; rfl))
                  refine pw_ 28 166 ?_; refine pw_ 29 9 ?_; refine done_ (done_of HT_.out (by kernel_rfl)) ?_
                  try go_wp2
                  go_roundg k3
                  case measure => have := Z0.out; have := Z1.out; have := Z2.out; omega
                  case rel => exact ⟨(true), (wrap64 (e4 + 1)), zq46_, zq46_, H', ⟨zq47_⟩, ⟨zq18_⟩, ⟨zq19_⟩, ⟨zq1a_⟩, ⟨zq1b_⟩, ⟨zq1c_⟩, ⟨zq58_⟩⟩
                 ·replace H := ifd3_ H; obtain ⟨u17, u18, u19, H⟩ := H; by_cases x5 : ((rd_T48 a10 e2).f0) = ((rd_T36 a11 e4).f0)
                  ·rw [if_pos x5] at H; have u20 : (((rd_T48 a10 e2).f0) == ((rd_T36 a11 e4).f0)) = true := beq_iff_eq.mpr x5; have u21 : (((rd_T48 a10 e2).f0) != ((rd_T36 a11 e4).f0)) = false := bne_eq_false_iff_eq.mpr x5; clear x5; replace H := ifd2_ H; obtain ⟨u22, u23, H⟩ := H; have H' := Aside0.mk H; clear H; obtain ⟨k27, k28, k29, k30, l28, l29, l30, l31⟩ := bz4_ b0.out
                   try go_wp2
                   have n_ := A6_ (Kd.R_drew q0.out) (Kd.R_drew q1.out) (Kd.R_drew q2.out) (Kd.R_drew q3.out) (blk_drew b0.out) (below_drew1 HB.out); clear q0 q1 q2 q3 b0 HB; obtain ⟨q0, q1, q2, q3, b0, HB⟩ := n_; have t3 : 0 ≤ (e2 : Int) := of_decide_eq_true zq41_; have s3 : e2 < (a10.length : Int) := of_decide_eq_true zq41_; obtain ⟨v0, M0, n6, n7⟩ := at_T48 (Kd.R_reads' q2.out).2.2 e2 t3 s3; cases M0; replace t3 := eq_true t3; replace s3 := eq_true s3; have t4 : 0 ≤ (e4 : Int) := of_decide_eq_true zq41_; have s4 : e4 < (a11.length : Int) := of_decide_eq_true zq41_; obtain ⟨v1, M1, n8, n9⟩ := at_T36 (Kd.R_reads' q3.out).2.2 e4 t4 s4; cases M1; replace t4 := eq_true t4; replace s4 := eq_true s4; have t5 : 0 ≤ (e2 : Int) := of_decide_eq_true zq41_; have s5 : e2 < (a10.length : Int) := of_decide_eq_true zq41_; obtain ⟨v2, M2, n10, n11⟩ := at_T48 (Kd.R_reads' q2.out).2.2 e2 t5 s5; obtain rfl : v0 = v2 := (by injection M2); replace t5 := eq_true t5; replace s5 := eq_true s5; have t6 : 0 ≤ (((rd_T48 a10 e2).f0) : Int) := of_decide_eq_true zq41_; have s6 : ((rd_T48 a10 e2).f0) < (a9.length : Int) := of_decide_eq_true zq41_; obtain ⟨v3, M3, n12, n13⟩ := at_T46 (Kd.R_reads' q0.out).2.2 ((rd_T48 a10 e2).f0) t6 s6; cases M3; replace t6 := eq_true t6; replace s6 := eq_true s6; refine start_ (n := 30) (S := fun w' => w'.cell? ⟨c6, 0, none⟩ = some (.slice (some v0) a10.length m0) ∧ w'.cell? ⟨c6, 1, none⟩ = some (.slice (some v1) a11.length m1) ∧ w'.cell? ⟨c6, 2, none⟩ = some (.int .i64 a12) ∧ w'.cell? ⟨c6, 3, none⟩ = some (.int .i64 a13) ∧ w'.cell? (v0.add ((e2).toNat * 2)) = some (.int .i64 ((rd_T48 a10 e2).f0)) ∧ w'.cell? ⟨(v0.add ((e2).toNat * 2)).block, (v0.add ((e2).toNat * 2)).off + 1, none⟩ = some (.int .i64 ((rd_T48 a10 e2).f1)) ∧ w'.cell? (v1.add ((e4).toNat * 2)) = some (.int .i64 ((rd_T36 a11 e4).f0)) ∧ w'.cell? ⟨(v1.add ((e4).toNat * 2)).block, (v1.add ((e4).toNat * 2)).off + 1, none⟩ = some (.int .i64 ((rd_T36 a11 e4).f1)) ∧ w'.cell? (v0.add ((e2).toNat * 2)) = some (.int .i64 ((rd_T48 a10 e2).f0)) ∧ w'.cell? ⟨(v0.add ((e2).toNat * 2)).block, (v0.add ((e2).toNat * 2)).off + 1, none⟩ = some (.int .i64 ((rd_T48 a10 e2).f1)) ∧ w'.cell? (v3.add ((((rd_T48 a10 e2).f0)).toNat * 2)) = some (.int .i64 ((rd_T46 a9 ((rd_T48 a10 e2).f0)).f0)) ∧ w'.cell? ⟨(v3.add ((((rd_T48 a10 e2).f0)).toNat * 2)).block, (v3.add ((((rd_T48 a10 e2).f0)).toNat * 2)).off + 1, none⟩ = some (.int .i64 ((rd_T46 a9 ((rd_T48 a10 e2).f0)).f1))) (ds := []) #[false, false, false, false, false, false, false, false, false, false, false, false, false, false, false, false, false, false, false, false, false, false, false, false, false, false, false, false, false, false] (by kernel_rfl) rfl rfl ⟨(blk_cell b0.out 0).trans rfl, (blk_cell b0.out 1).trans rfl, (blk_cell b0.out 2).trans rfl, (blk_cell b0.out 3).trans rfl, n6, n7, n8, n9, n10, n11, n12, n13⟩ (fun hHeld => ?_); refine with_tabW laws_FnExecDo.tab29 laws_FnExecDo.bits29 (fun HT_ HW_ => ?_); generalize wr.drew = r10 at q0 q1 q2 q3 b0 HB n6 n7 n8 n9 n10 n11 n12 n13 hHeld ⊢; refine pw_ 0 138 ?_; refine pw_ 1 139 ?_; refine pw_ 2 140 ?_; refine pw_ 4 142 ?_; refine pw_ 8 146 ?_; refine pw_ 10 148 ?_; refine tw_ 3 141 ?_; refine pw_ 5 143 ?_; refine pw_ 6 144 ?_; refine tw_ 7 145 ?_; refine tw_ 9 147 ?_; refine pw_ 11 149 ?_; refine pw_ 12 150 ?_; refine tw_ 13 151 ?_; refine pw_ 14 152 ?_; refine pw_ 15 153 ?_; refine pw_ 16 154 ?_; refine pw_ 17 155 ?_; refine pw_ 19 157 ?_; refine tw_ 18 156 ?_; refine pw_ 20 158 ?_; refine pw_ 21 159 ?_; refine tw_ 22 160 ?_; refine pw_ 23 161 ?_; refine pw_ 24 162 ?_; refine tw_ 25 163 ?_; refine pw_ 26 164 ?_; refine pw_ 27 165 ?_; refine pw_ 28 166 ?_; refine pw_ 29 9 ?_; refine done_ (done_of HT_.out (by kernel_rfl)) ?_
                   try go_wp2
                   go_roundg k3
                   case measure => have := Z0.out; have := Z1.out; have := Z2.out; omega
                   case rel => exact ⟨(decide (((rd_T46 a9 ((rd_T48 a10 e2).f0)).f0) < 1000000)), (wrap64 (e4 + 1)), zq46_, zq46_, H', ⟨zq47_⟩, ⟨zq18_⟩, ⟨zq19_⟩, ⟨zq1a_⟩, ⟨zq1b_⟩, ⟨zq1c_⟩, ⟨zq58_⟩⟩
                  ·rw [if_neg x5] at H; have u20 : (((rd_T48 a10 e2).f0) == ((rd_T36 a11 e4).f0)) = false := beq_eq_false_iff_ne.mpr x5; have u21 : (((rd_T48 a10 e2).f0) != ((rd_T36 a11 e4).f0)) = true := bne_iff_ne.mpr x5; have H' := Aside0.mk H; clear H; obtain ⟨k27, k28, k29, k30, l28, l29, l30, l31⟩ := bz4_ b0.out
                   try go_wp2
                   have n_ := A6_ (Kd.R_drew q0.out) (Kd.R_drew q1.out) (Kd.R_drew q2.out) (Kd.R_drew q3.out) (blk_drew b0.out) (below_drew1 HB.out); clear q0 q1 q2 q3 b0 HB; obtain ⟨q0, q1, q2, q3, b0, HB⟩ := n_; have t3 : 0 ≤ (e2 : Int) := of_decide_eq_true zq41_; have s3 : e2 < (a10.length : Int) := of_decide_eq_true zq41_; obtain ⟨v0, M0, n6, n7⟩ := at_T48 (Kd.R_reads' q2.out).2.2 e2 t3 s3; cases M0; replace t3 := eq_true t3; replace s3 := eq_true s3; have t4 : 0 ≤ (e4 : Int) := of_decide_eq_true zq41_; have s4 : e4 < (a11.length : Int) := of_decide_eq_true zq41_; obtain ⟨v1, M1, n8, n9⟩ := at_T36 (Kd.R_reads' q3.out).2.2 e4 t4 s4; cases M1; replace t4 := eq_true t4; replace s4 := eq_true s4; refine start_ (n := 30) (S := fun w' => w'.cell? ⟨c6, 0, none⟩ = some (.slice (some v0) a10.length m0) ∧ w'.cell? ⟨c6, 1, none⟩ = some (.slice (some v1) a11.length m1) ∧ w'.cell? ⟨c6, 2, none⟩ = some (.int .i64 a12) ∧ w'.cell? ⟨c6, 3, none⟩ = some (.int .i64 a13) ∧ w'.cell? (v0.add ((e2).toNat * 2)) = some (.int .i64 ((rd_T48 a10 e2).f0)) ∧ w'.cell? ⟨(v0.add ((e2).toNat * 2)).block, (v0.add ((e2).toNat * 2)).off + 1, none⟩ = some (.int .i64 ((rd_T48 a10 e2).f1)) ∧ w'.cell? (v1.add ((e4).toNat * 2)) = some (.int .i64 ((rd_T36 a11 e4).f0)) ∧ w'.cell? ⟨(v1.add ((e4).toNat * 2)).block, (v1.add ((e4).toNat * 2)).off + 1, none⟩ = some (.int .i64 ((rd_T36 a11 e4).f1))) (ds := []) #[false, false, false, false, false, false, false, false, false, false, false, false, false, false, false, false, false, false, false, false, false, false, false, false, false, false, false, false, false, false] (by kernel_rfl) rfl rfl ⟨(blk_cell b0.out 0).trans rfl, (blk_cell b0.out 1).trans rfl, (blk_cell b0.out 2).trans rfl, (blk_cell b0.out 3).trans rfl, n6, n7, n8, n9⟩ (fun hHeld => ?_); refine with_tabW laws_FnExecDo.tab29 laws_FnExecDo.bits29 (fun HT_ HW_ => ?_); generalize wr.drew = r10 at q0 q1 q2 q3 b0 HB n6 n7 n8 n9 hHeld ⊢; refine pw_ 0 138 ?_; refine pw_ 1 139 ?_; refine pw_ 2 140 ?_; refine pw_ 4 142 ?_; refine pw_ 8 146 ?_; refine pw_ 10 148 ?_; refine tw_ 3 141 ?_; refine pw_ 5 143 ?_; refine pw_ 6 144 ?_; refine tw_ 7 145 ?_; refine tw_ 9 147 ?_; refine pw_ 11 149 ?_; refine pw_ 12 150 ?_; refine tw_ 13 151 ?_; refine pw_ 14 152 ?_; refine pw_ 15 153 ?_; refine pu_ (i := 16) (N := some 154) (v := undef) (a' := ?_) rfl rfl (any_of HT_.out (by kernel_rfl)) (fun _ _ _ h => h) (Or.inr ⟨by rfl, rfl⟩) ?_ ?_; rotate_left; (· (simp only [Act.put, sA_, sZ_, sS_, i64_w, i32_w]; rfl)); refine pu_ (i := 17) (N := some 155) (v := undef) (a' := ?_) rfl rfl (any_of HT_.out (by kernel_rfl)) (fun _ _ _ h => h) (Or.inr ⟨by rfl, rfl⟩) ?_ ?_
                   rotate_left; (· (simp only [Act.put, sA_, sZ_, sS_, i64_w, i32_w]; rfl))
                   refine pu_ (i := 18) (N := some 156) (v := undef) (a' := ?_) rfl rfl (any_of HT_.out (by kernel_rfl)) (fun _ _ _ h => h) (Or.inr ⟨by rfl, rfl⟩) ?_ ?_; rotate_left; (· (simp only [Act.put, sA_, sZ_, sS_, i64_w, i32_w]; rfl)); refine pu_ (i := 19) (N := some 157) (v := undef) (a' := ?_) rfl rfl (any_of HT_.out (by kernel_rfl)) (fun _ _ _ h => h) (Or.inr ⟨by rfl, rfl⟩) ?_ ?_
                   rotate_left; (· (simp only [Act.put, sA_, sZ_, sS_, i64_w, i32_w]; rfl))
                   refine pu_ (i := 20) (N := some 158) (v := undef) (a' := ?_) rfl rfl (any_of HT_.out (by kernel_rfl)) (fun _ _ _ h => h) (Or.inr ⟨by rfl, rfl⟩) ?_ ?_; rotate_left; (· (simp only [Act.put, sA_, sZ_, sS_, i64_w, i32_w]; rfl)); refine pu_ (i := 21) (N := some 159) (v := undef) (a' := ?_) rfl rfl (any_of HT_.out (by kernel_rfl)) (fun _ _ _ h => h) (Or.inr ⟨by rfl, rfl⟩) ?_ ?_
                   rotate_left; (· (simp only [Act.put, sA_, sZ_, sS_, i64_w, i32_w]; rfl))
                   refine pu_ (i := 22) (N := some 160) (v := undef) (a' := ?_) rfl rfl (any_of HT_.out (by kernel_rfl)) (fun _ _ _ h => h) (Or.inr ⟨by rfl, rfl⟩) ?_ ?_; rotate_left; (· (simp only [Act.put, sA_, sZ_, sS_, i64_w, i32_w]; rfl)); refine pu_ (i := 23) (N := some 161) (v := undef) (a' := ?_) rfl rfl (any_of HT_.out (by kernel_rfl)) (fun _ _ _ h => h) (Or.inr ⟨by rfl, rfl⟩) ?_ ?_
                   rotate_left; (· (simp only [Act.put, sA_, sZ_, sS_, i64_w, i32_w]; rfl))
                   refine pu_ (i := 24) (N := some 162) (v := undef) (a' := ?_) rfl rfl (any_of HT_.out (by kernel_rfl)) (fun _ _ _ h => h) (Or.inr ⟨by rfl, rfl⟩) ?_ ?_; rotate_left; (· (simp only [Act.put, sA_, sZ_, sS_, i64_w, i32_w]; rfl)); refine pu_ (i := 25) (N := some 163) (v := undef) (a' := ?_) rfl rfl (any_of HT_.out (by kernel_rfl)) (fun _ _ _ h => h) (Or.inr ⟨by rfl, rfl⟩) ?_ ?_
                   rotate_left; (· (simp only [Act.put, sA_, sZ_, sS_, i64_w, i32_w]; rfl))
                   refine pu_ (i := 26) (N := some 164) (v := undef) (a' := ?_) rfl rfl (any_of HT_.out (by kernel_rfl)) (fun _ _ _ h => h) (Or.inr ⟨by rfl, rfl⟩) ?_ ?_; rotate_left; (· (simp only [Act.put, sA_, sZ_, sS_, i64_w, i32_w]; rfl)); refine pw_ 27 165 ?_; refine pw_ 28 166 ?_; refine pw_ 29 9 ?_; refine done_ (done_of HT_.out (by kernel_rfl)) ?_
                   try go_wp2
                   go_roundg k3
                   case measure => have := Z0.out; have := Z1.out; have := Z2.out; omega
                   case rel => exact ⟨(false), (wrap64 (e4 + 1)), zq46_, zq46_, H', ⟨zq47_⟩, ⟨zq18_⟩, ⟨zq19_⟩, ⟨zq1a_⟩, ⟨zq1b_⟩, ⟨zq1c_⟩, ⟨zq58_⟩⟩
               ·have H' := Aside0.mk H; clear H; obtain ⟨k27, k28, k29, k30, l28, l29, l30, l31⟩ := bz4_ b0.out
                go_wp2
                go_roundg k3
                case measure => have := Z0.out; have := Z1.out; have := Z2.out; omega
                case rel => exact ⟨(e3), (wrap64 (e2 + 1)), zq46_, zq46_, H', ⟨zq47_⟩, ⟨zq18_⟩, ⟨zq19_⟩, ⟨zq1a_⟩, ⟨zq1b_⟩, ⟨zq1c_⟩, ⟨zq58_⟩⟩
            ·as_aux_lemma =>
              replace H := bs_ H; obtain ⟨a14, G5, H⟩ := H; (try dsimp only at H); replace H := ifB_ H
              rcases H with ⟨rfl, H⟩ | ⟨rfl, H⟩
              ·replace H := ifB_ H
               rcases H with ⟨rfl, H⟩ | ⟨rfl, H⟩
               ·replace H := bs_ H; obtain ⟨a15, G6, H⟩ := H; (try dsimp only at H); replace H := ifB_ H
                rcases H with ⟨rfl, H⟩ | ⟨rfl, H⟩
                ·replace H := bs_ H; obtain ⟨a16, G7, H⟩ := H; (try dsimp only at H); obtain rfl := Option.some.inj H; obtain ⟨k23, k24, k25, k26, l24, l25, l26, l27⟩ := bz4_ b0.out
                 go_wp2_with (first | ((with_reducible refine gate_callee (f := 25) rfl ?_); refine gl_ 168 Try.func25 #[.slice o3 a0.length m3] ?_; (with_reducible refine (impl_BoxOk.calls k2 _ _ a0 true _ ?_ ?_ G5.out).mono ?_); exact zq76_; exact (Kd.R_reads' q1.out).2.1; rintro e r10 ⟨rfl, hb⟩; refine ⟨_, rfl, ?_⟩; have n_ := A6_ (Kd.R_below zq18_ hb) (Kd.R_below zq19_ hb) (Kd.R_below zq1a_ hb) (Kd.R_below zq1b_ hb) (blk_below (g := c6) (o := .cells #[.slice o0 a10.length m0, .slice o1 a11.length m1, .int .i64 a12, .int .i64 a13] 30 (0, 0)) zq1c_ hb) (below_step zq58_ hb); clear q0 q1 q2 q3 b0 HB; obtain ⟨q0, q1, q2, q3, b0, HB⟩ := n_; (try clear hb); obtain ⟨k27, k28, k29, k30, l28, l29, l30, l31⟩ := bz4_ b0.out) | (go_at_call 22; (with_reducible refine (impl_ExecFresh.calls k2 _ _ a9 _ _ a10 _ _ a11 a12 a13 true _ ?_ ?_ ?_ ?_ ?_ ?_ G6.out).mono ?_); exact zq75_; exact (Kd.R_reads' q0.out).2.1; exact zq77_; exact (Kd.R_reads' q2.out).2.1; exact zq78_; exact (Kd.R_reads' q3.out).2.1; rintro e r11 ⟨rfl, hb⟩; have n_ := A6_ (Kd.R_below zq18_ hb) (Kd.R_below zq19_ hb) (Kd.R_below zq1a_ hb) (Kd.R_below zq1b_ hb) (blk_below (g := c6) (o := .cells #[.slice o0 a10.length m0, .slice o1 a11.length m1, .int .i64 a12, .int .i64 a13] 30 (0, 0)) zq1c_ hb) (below_step zq58_ hb); clear q0 q1 q2 q3 b0 HB; obtain ⟨q0, q1, q2, q3, b0, HB⟩ := n_; (try clear hb); (try clear G6); obtain ⟨k31, k32, k33, k34, l32, l33, l34, l35⟩ := bz4_ b0.out) | (go_at_call 22; (with_reducible refine (impl_ExecFresh.calls k2 _ _ a0 _ _ a10 _ _ a11 a12 a13 a16 _ ?_ ?_ ?_ ?_ ?_ ?_ G7.out).mono ?_); exact zq76_; exact (Kd.R_reads' q1.out).2.1; exact zq77_; exact (Kd.R_reads' q2.out).2.1; exact zq78_; exact (Kd.R_reads' q3.out).2.1; rintro e r12 ⟨rfl, hb⟩; have n_ := A6_ (Kd.R_below zq18_ hb) (Kd.R_below zq19_ hb) (Kd.R_below zq1a_ hb) (Kd.R_below zq1b_ hb) (blk_below (g := c6) (o := .cells #[.slice o0 a10.length m0, .slice o1 a11.length m1, .int .i64 a12, .int .i64 a13] 30 (0, 0)) zq1c_ hb) (below_step zq58_ hb); clear q0 q1 q2 q3 b0 HB; obtain ⟨q0, q1, q2, q3, b0, HB⟩ := n_; (try clear hb); (try clear G7)))
                 go_ret
                 exact ⟨zq45_, zq58_⟩
                ·obtain rfl := Option.some.inj H; obtain ⟨k23, k24, k25, k26, l24, l25, l26, l27⟩ := bz4_ b0.out
                 go_wp2_with (first | ((with_reducible refine gate_callee (f := 25) rfl ?_); refine gl_ 168 Try.func25 #[.slice o3 a0.length m3] ?_; (with_reducible refine (impl_BoxOk.calls k2 _ _ a0 true _ ?_ ?_ G5.out).mono ?_); exact zq76_; exact (Kd.R_reads' q1.out).2.1; rintro e r10 ⟨rfl, hb⟩; refine ⟨_, rfl, ?_⟩; have n_ := A6_ (Kd.R_below zq18_ hb) (Kd.R_below zq19_ hb) (Kd.R_below zq1a_ hb) (Kd.R_below zq1b_ hb) (blk_below (g := c6) (o := .cells #[.slice o0 a10.length m0, .slice o1 a11.length m1, .int .i64 a12, .int .i64 a13] 30 (0, 0)) zq1c_ hb) (below_step zq58_ hb); clear q0 q1 q2 q3 b0 HB; obtain ⟨q0, q1, q2, q3, b0, HB⟩ := n_; (try clear hb); obtain ⟨k27, k28, k29, k30, l28, l29, l30, l31⟩ := bz4_ b0.out) | (go_at_call 22; (with_reducible refine (impl_ExecFresh.calls k2 _ _ a9 _ _ a10 _ _ a11 a12 a13 false _ ?_ ?_ ?_ ?_ ?_ ?_ G6.out).mono ?_); exact zq75_; exact (Kd.R_reads' q0.out).2.1; exact zq77_; exact (Kd.R_reads' q2.out).2.1; exact zq78_; exact (Kd.R_reads' q3.out).2.1; rintro e r11 ⟨rfl, hb⟩; have n_ := A6_ (Kd.R_below zq18_ hb) (Kd.R_below zq19_ hb) (Kd.R_below zq1a_ hb) (Kd.R_below zq1b_ hb) (blk_below (g := c6) (o := .cells #[.slice o0 a10.length m0, .slice o1 a11.length m1, .int .i64 a12, .int .i64 a13] 30 (0, 0)) zq1c_ hb) (below_step zq58_ hb); clear q0 q1 q2 q3 b0 HB; obtain ⟨q0, q1, q2, q3, b0, HB⟩ := n_; (try clear hb); (try clear G6)))
                 go_ret
                 exact ⟨zq45_, zq58_⟩
               ·obtain rfl := Option.some.inj H; obtain ⟨k23, k24, k25, k26, l24, l25, l26, l27⟩ := bz4_ b0.out
                go_wp2_with (first | ((with_reducible refine gate_callee (f := 25) rfl ?_); refine gl_ 168 Try.func25 #[.slice o3 a0.length m3] ?_; (with_reducible refine (impl_BoxOk.calls k2 _ _ a0 true _ ?_ ?_ G5.out).mono ?_); exact zq76_; exact (Kd.R_reads' q1.out).2.1; rintro e r10 ⟨rfl, hb⟩; refine ⟨_, rfl, ?_⟩; have n_ := A6_ (Kd.R_below zq18_ hb) (Kd.R_below zq19_ hb) (Kd.R_below zq1a_ hb) (Kd.R_below zq1b_ hb) (blk_below (g := c6) (o := .cells #[.slice o0 a10.length m0, .slice o1 a11.length m1, .int .i64 a12, .int .i64 a13] 30 (0, 0)) zq1c_ hb) (below_step zq58_ hb); clear q0 q1 q2 q3 b0 HB; obtain ⟨q0, q1, q2, q3, b0, HB⟩ := n_; (try clear hb)))
                go_ret
                exact ⟨zq45_, zq58_⟩
              ·exact absurd ((Option.some.inj H).trans bs.out) (by decide)
      ·obtain rfl := Option.some.inj H
       go_enter Try.func4, Try.ntmps4
       try go_wp2_with (first | ((with_reducible refine gate_callee (f := 16) rfl ?_); refine gl_ 17 Try.func16 #[.slice A0 l0.length c0] ?_; (with_reducible refine (spec_DrawExecDo.calls k _ _ l0 a9 a10 a11 a12 a13 _ ?_ ?_ A3.out).mono ?_); exact zq7c_; exact X0.out; rintro e r0 ⟨S0, S1, S2, rfl, D0, D1, D2, hb⟩; refine ⟨_, rfl, ?_⟩; have n_ := A4_ (Kd.R_lower D0 (below_size zq59_)) (Kd.R_lower D1 (below_size zq59_)) (Kd.R_lower D2 (below_size zq59_)) (below_step zq59_ hb); clear HB; obtain ⟨f2, f3, f4, HB⟩ := n_; (try clear hb); (try clear D0); (try clear D1); (try clear D2)) | ((with_reducible refine gate_dst (N := 4) rfl ?_); refine bxe_ (N := 4) (cs := #[.slice none 0 0, .slice none 0 0, .int .i64 0, .int .i64 0]) (t := 30) ?_; intro c6 hg r1 H_ hb; have n_ := A7_ (Kd.R_below zq13_ hb) (Kd.R_below zq14_ hb) (Kd.R_below zq15_ hb) (below_step zq59_ hb) (H_) ((zq95_ : w.heap.size ≤ c6)) ((zq95_ : w.heap.size ≤ c6)); clear f2 f3 f4 HB; obtain ⟨f2, f3, f4, HB, b0, y0, p0⟩ := n_; clear hb H_ hg; obtain ⟨o0, m0, E0⟩ := Kd.R_slice f3.out; subst E0; obtain ⟨k0, k4, k5, k6, l4, l5, l6, l7⟩ := bz4_ b0.out; obtain ⟨o1, m1, E1⟩ := Kd.R_slice f4.out; subst E1; obtain ⟨o2, m2, E2⟩ := Kd.R_slice f2.out; subst E2) | ((with_reducible refine gate_callee (f := 17) rfl ?_); refine gl_ 22 Try.func17 #[.slice o2 a9.length m2, .agg #[.slice o0 a10.length m0, .slice o1 a11.length m1, .int .i64 a12, .int .i64 a13]] ?_; (with_reducible refine (impl_ExecDo.calls k _ _ a9 _ _ a10 _ _ a11 a12 a13 a0 _ ?_ ?_ ?_ ?_ ?_ ?_ A4.out).mono ?_); exact zq8c_; exact zq32_; exact zq8d_; exact zq33_; exact zq8b_; exact zq34_; rintro e r2 ⟨S3, rfl, D0, hb⟩; refine ⟨_, rfl, ?_⟩; have n_ := A6_ (Kd.R_elder' zq7_ (Kd.R_base D0) hb) (Kd.R_below zq8_ hb) (Kd.R_below zq9_ hb) (Kd.R_lower (Kd.R_new' D0 (Kd.R_lt zq7_)) (below_size zq58_)) (blk_below (g := c6) (o := .cells #[.slice o0 a10.length m0, .slice o1 a11.length m1, .int .i64 a12, .int .i64 a13] 30 (0, 0)) zq2d_ hb) (below_step zq58_ hb); clear f2 f3 f4 b0 HB; obtain ⟨f2, f3, f4, f5, b0, HB⟩ := n_; (try clear hb)))
       have n_ := A6_ (Kd.R_drew f2.out) (Kd.R_drew f3.out) (Kd.R_drew f4.out) (Kd.R_drew f5.out) (blk_drew b0.out) (below_drew1 HB.out); clear f2 f3 f4 f5 b0 HB; obtain ⟨f2, f3, f4, f5, b0, HB⟩ := n_; refine start_ (n := 22) (S := fun w' => w'.cell? ⟨c6, 0, none⟩ = some (.slice o0 a10.length m0) ∧ w'.cell? ⟨c6, 1, none⟩ = some (.slice o1 a11.length m1) ∧ w'.cell? ⟨c6, 2, none⟩ = some (.int .i64 a12) ∧ w'.cell? ⟨c6, 3, none⟩ = some (.int .i64 a13)) (ds := []) #[false, false, false, false, false, false, false, false, false, false, false, false, false, false, false, false, false, false, false, false, false, false] (by kernel_rfl) rfl rfl ⟨(blk_cell b0.out 0).trans rfl, (blk_cell b0.out 1).trans rfl, (blk_cell b0.out 2).trans rfl, (blk_cell b0.out 3).trans rfl⟩ (fun hHeld => ?_); refine with_tabW laws_FnExecDo.tab5 laws_FnExecDo.bits5 (fun HT_ HW_ => ?_); generalize r2.drew = r3 at f2 f3 f4 f5 b0 HB hHeld ⊢; refine pw_ 0 23 ?_; refine pw_ 1 24 ?_; refine tw_ 2 25 ?_; refine on_ (i := 3) (N := some 26) rfl rfl (one_of HT_.out (by kernel_rfl)) (by decide) (fun K hK => ?_); refine goes_ Try.func19 (by kernel_rfl) rfl #[.slice o2 a9.length m2, .agg #[.slice o0 a10.length m0, .slice o1 a11.length m1, .int .i64 a12, .int .i64 a13]] (by rfl) rfl rfl zq0_ ?_
       with_reducible refine (spec_ExecDo.calls k _ _ a9 _ _ a10 _ _ a11 a12 a13 a1 _ ?side1 ?side2 ?side3 ?side4 ?side5 ?side6 A5.out).mono ?_
       (case side1 => exact zq70_); (case side2 => exact zq32_); (case side3 => exact zq71_); (case side4 => exact zq33_); (case side5 => exact zq72_); (case side6 => exact zq34_); rintro e r4 ⟨S4, rfl, D0, hb⟩; refine ⟨_, rfl, ?_⟩; have n_ := A7_ (Kd.R_elder' zq13_ (Kd.R_base D0) hb) (Kd.R_below zq14_ hb) (Kd.R_below zq15_ hb) (Kd.R_elder' zq16_ (Kd.R_base D0) hb) (Kd.R_lower (Kd.R_new' (Kd.R_new' D0 (Kd.R_lt zq13_)) (Kd.R_lt zq16_)) (below_size zq58_)) (blk_below (g := c6) (o := .cells #[.slice o0 a10.length m0, .slice o1 a11.length m1, .int .i64 a12, .int .i64 a13] 30 (0, 0)) zq1c_ hb) (below_step zq58_ hb); clear f2 f3 f4 f5 b0 HB; obtain ⟨f2, f3, f4, f5, f6, b0, HB⟩ := n_; (try clear hb); (try clear hb2); (try clear hk); (try clear hi); (try clear D0); obtain ⟨o3, m3, E3⟩ := Kd.R_slice f5.out; (first | subst E3 | (injection E3 with P0 P1 P2; have P3 := P0.symm; have P4 := P2.symm; clear P0 P1 P2; subst P3; subst P4)); obtain ⟨o4, m4, E4⟩ := Kd.R_slice f6.out; (first | subst E4 | (injection E4 with P0 P1 P2; have P3 := P0.symm; have P4 := P2.symm; clear P0 P1 P2; subst P3; subst P4)); refine hK.out _ _ ⟨(blk_cell b0.out 0).trans rfl, (blk_cell b0.out 1).trans rfl, (blk_cell b0.out 2).trans rfl, (blk_cell b0.out 3).trans rfl⟩ (fun hHeld => ?_); clear hK K; refine norm_ (a' := ?_) ?_ ?_
       rotate_left
       ·show Act.put _ (some 26) _ = _; simp only [Act.put, sA_, sZ_, sS_, i64_w, i32_w]; rfl
       refine on_ (i := 4) (N := some 27) rfl rfl (one_of HT_.out (by kernel_rfl)) (by decide) (fun K hK => ?_); refine goes_ Try.func18 (by kernel_rfl) rfl #[.slice o3 a0.length m3, .slice o4 a1.length m4] (by rfl) rfl rfl zq0_ ?_
       with_reducible refine (impl_BoxSame.calls k _ _ a0 _ _ a1 true _ ?side1 ?side2 ?side3 ?side4 A6.out).mono ?_
       (case side1 => exact zq73_); (case side2 => exact zq35_); (case side3 => exact zq74_); (case side4 => exact (Kd.R_reads' f6.out).2.1); rintro e w' ⟨rfl, ⟨nd, rfl⟩⟩; refine ⟨_, rfl, ?_⟩; refine hK.out _ _ ⟨(blk_cell b0.out 0).trans rfl, (blk_cell b0.out 1).trans rfl, (blk_cell b0.out 2).trans rfl, (blk_cell b0.out 3).trans rfl⟩ (fun hHeld => ?_); clear hK K; refine norm_ (a' := ?_) ?_ ?_
       rotate_left
       ·show Act.put _ (some 27) _ = _; simp only [Act.put, sA_, sZ_, sS_, i64_w, i32_w]; rfl
       refine pw_ 5 28 ?_; refine pw_ 6 29 ?_; refine tw_ 7 30 ?_; refine tw_ 9 32 ?_; refine on_ (i := 8) (N := some 31) rfl rfl (one_of HT_.out (by kernel_rfl)) (by decide) (fun K hK => ?_); refine goes_ Try.func20 (by kernel_rfl) rfl #[.agg #[.slice o0 a10.length m0, .slice o1 a11.length m1, .int .i64 a12, .int .i64 a13]] (by rfl) rfl rfl zq0_ ?_
       with_reducible refine (impl_ExecOk.calls k _ _ a10 _ _ a11 a12 a13 a3 _ ?side1 ?side2 ?side3 ?side4 A8.out).mono ?_
       (case side1 => exact zq71_); (case side2 => exact zq33_); (case side3 => exact zq72_); (case side4 => exact zq34_); rintro e r5 ⟨rfl, hb⟩; refine ⟨_, rfl, ?_⟩; have n_ := A7_ (Kd.R_below zq13_ hb) (Kd.R_below zq14_ hb) (Kd.R_below zq15_ hb) (Kd.R_below zq16_ hb) (Kd.R_below zq17_ hb) (blk_below (g := c6) (o := .cells #[.slice o0 a10.length m0, .slice o1 a11.length m1, .int .i64 a12, .int .i64 a13] 30 (0, 0)) zq1c_ hb) (below_step zq58_ hb); clear f2 f3 f4 f5 f6 b0 HB; obtain ⟨f2, f3, f4, f5, f6, b0, HB⟩ := n_; (try clear hb); (try clear hb2); (try clear hk); (try clear hi); refine hK.out _ _ ⟨(blk_cell b0.out 0).trans rfl, (blk_cell b0.out 1).trans rfl, (blk_cell b0.out 2).trans rfl, (blk_cell b0.out 3).trans rfl⟩ (fun hHeld => ?_); clear hK K; refine norm_ (a' := ?_) ?_ ?_
       rotate_left
       ·show Act.put _ (some 31) _ = _; simp only [Act.put, sA_, sZ_, sS_, i64_w, i32_w]; rfl
       refine on_ (i := 10) (N := some 33) rfl rfl (one_of HT_.out (by kernel_rfl)) (by decide) (fun K hK => ?_); refine goes_ Try.func21 (by kernel_rfl) rfl #[.agg #[.slice o0 a10.length m0, .slice o1 a11.length m1, .int .i64 a12, .int .i64 a13]] (by rfl) rfl rfl zq0_ ?_
       with_reducible refine (spec_ExecOk.calls k _ _ a10 _ _ a11 a12 a13 a4 _ ?side1 ?side2 ?side3 ?side4 A9.out).mono ?_
       (case side1 => exact zq71_); (case side2 => exact zq33_); (case side3 => exact zq72_); (case side4 => exact zq34_); rintro e r6 ⟨rfl, hb⟩; refine ⟨_, rfl, ?_⟩; have n_ := A7_ (Kd.R_below zq13_ hb) (Kd.R_below zq14_ hb) (Kd.R_below zq15_ hb) (Kd.R_below zq16_ hb) (Kd.R_below zq17_ hb) (blk_below (g := c6) (o := .cells #[.slice o0 a10.length m0, .slice o1 a11.length m1, .int .i64 a12, .int .i64 a13] 30 (0, 0)) zq1c_ hb) (below_step zq58_ hb); clear f2 f3 f4 f5 f6 b0 HB; obtain ⟨f2, f3, f4, f5, f6, b0, HB⟩ := n_; (try clear hb); (try clear hb2); (try clear hk); (try clear hi); refine hK.out _ _ ⟨(blk_cell b0.out 0).trans rfl, (blk_cell b0.out 1).trans rfl, (blk_cell b0.out 2).trans rfl, (blk_cell b0.out 3).trans rfl⟩ (fun hHeld => ?_); clear hK K; refine norm_ (a' := ?_) ?_ ?_
       rotate_left
       ·show Act.put _ (some 33) _ = _; simp only [Act.put, sA_, sZ_, sS_, i64_w, i32_w]; rfl
       refine pw_ 11 34 ?_; refine pw_ 12 35 ?_; refine pw_ 13 36 ?_; refine pw_ 14 37 ?_; refine pw_ 17 40 ?_; refine tw_ 15 38 ?_; refine tw_ 18 41 ?_; refine on_ (i := 16) (N := some 39) rfl rfl (one_of HT_.out (by kernel_rfl)) (by decide) (fun K hK => ?_); refine goes_ Try.func22 (by kernel_rfl) rfl #[.slice o2 a9.length m2, .agg #[.slice o0 a10.length m0, .slice o1 a11.length m1, .int .i64 a12, .int .i64 a13]] (by rfl) rfl rfl zq0_ ?_
       with_reducible refine (impl_ExecFresh.calls k _ _ a9 _ _ a10 _ _ a11 a12 a13 a5 _ ?side1 ?side2 ?side3 ?side4 ?side5 ?side6 G1.out).mono ?_
       (case side1 => exact zq70_); (case side2 => exact zq32_); (case side3 => exact zq71_); (case side4 => exact zq33_); (case side5 => exact zq72_); (case side6 => exact zq34_); rintro e r7 ⟨rfl, hb⟩; refine ⟨_, rfl, ?_⟩; have n_ := A7_ (Kd.R_below zq13_ hb) (Kd.R_below zq14_ hb) (Kd.R_below zq15_ hb) (Kd.R_below zq16_ hb) (Kd.R_below zq17_ hb) (blk_below (g := c6) (o := .cells #[.slice o0 a10.length m0, .slice o1 a11.length m1, .int .i64 a12, .int .i64 a13] 30 (0, 0)) zq1c_ hb) (below_step zq58_ hb); clear f2 f3 f4 f5 f6 b0 HB; obtain ⟨f2, f3, f4, f5, f6, b0, HB⟩ := n_; (try clear hb); (try clear hb2); (try clear hk); (try clear hi); refine hK.out _ _ ⟨(blk_cell b0.out 0).trans rfl, (blk_cell b0.out 1).trans rfl, (blk_cell b0.out 2).trans rfl, (blk_cell b0.out 3).trans rfl⟩ (fun hHeld => ?_); clear hK K; refine norm_ (a' := ?_) ?_ ?_
       rotate_left
       ·show Act.put _ (some 39) _ = _; simp only [Act.put, sA_, sZ_, sS_, i64_w, i32_w]; rfl
       refine on_ (i := 19) (N := some 42) rfl rfl (one_of HT_.out (by kernel_rfl)) (by decide) (fun K hK => ?_); refine goes_ Try.func23 (by kernel_rfl) rfl #[.slice o2 a9.length m2, .agg #[.slice o0 a10.length m0, .slice o1 a11.length m1, .int .i64 a12, .int .i64 a13]] (by rfl) rfl rfl zq0_ ?_
       with_reducible refine (spec_ExecFresh.calls k _ _ a9 _ _ a10 _ _ a11 a12 a13 a6 _ ?side1 ?side2 ?side3 ?side4 ?side5 ?side6 G2.out).mono ?_
       (case side1 => exact zq70_); (case side2 => exact zq32_); (case side3 => exact zq71_); (case side4 => exact zq33_); (case side5 => exact zq72_); (case side6 => exact zq34_); rintro e r8 ⟨rfl, hb⟩; refine ⟨_, rfl, ?_⟩; have n_ := A7_ (Kd.R_below zq13_ hb) (Kd.R_below zq14_ hb) (Kd.R_below zq15_ hb) (Kd.R_below zq16_ hb) (Kd.R_below zq17_ hb) (blk_below (g := c6) (o := .cells #[.slice o0 a10.length m0, .slice o1 a11.length m1, .int .i64 a12, .int .i64 a13] 30 (0, 0)) zq1c_ hb) (below_step zq58_ hb); clear f2 f3 f4 f5 f6 b0 HB; obtain ⟨f2, f3, f4, f5, f6, b0, HB⟩ := n_; (try clear hb); (try clear hb2); (try clear hk); (try clear hi); refine hK.out _ _ ⟨(blk_cell b0.out 0).trans rfl, (blk_cell b0.out 1).trans rfl, (blk_cell b0.out 2).trans rfl, (blk_cell b0.out 3).trans rfl⟩ (fun hHeld => ?_); clear hK K; refine norm_ (a' := ?_) ?_ ?_
       rotate_left
       ·show Act.put _ (some 42) _ = _; simp only [Act.put, sA_, sZ_, sS_, i64_w, i32_w]; rfl
       refine pw_ 20 43 ?_; refine pw_ 21 44 ?_; refine done_ (done_of HT_.out (by kernel_rfl)) ?_
       try go_wp2_with (first | ((with_reducible refine gate_callee (f := 24) rfl ?_); refine gl_ 46 Try.func24 #[.slice o2 a9.length m2] ?_; (with_reducible refine (spec_BoxOk.calls k _ _ a9 true _ ?_ ?_ G3.out).mono ?_); exact zq70_; exact zq32_; rintro e w' ⟨rfl, ⟨nd, rfl⟩⟩; refine ⟨_, rfl, ?_⟩; obtain ⟨k7, k8, k9, k10, l8, l9, l10, l11⟩ := bz4_ b0.out) | (go_at_call 21; (with_reducible refine (spec_ExecOk.calls k _ _ a10 _ _ a11 a12 a13 false _ ?_ ?_ ?_ ?_ G4.out).mono ?_); exact zq71_; exact zq33_; exact zq72_; exact zq34_; rintro e r9 ⟨rfl, hb⟩; have n_ := A7_ (Kd.R_below zq13_ hb) (Kd.R_below zq14_ hb) (Kd.R_below zq15_ hb) (Kd.R_below zq16_ hb) (Kd.R_below zq17_ hb) (blk_below (g := c6) (o := .cells #[.slice o0 a10.length m0, .slice o1 a11.length m1, .int .i64 a12, .int .i64 a13] 30 (0, 0)) zq1c_ hb) (below_step zq58_ hb); clear f2 f3 f4 f5 f6 b0 HB; obtain ⟨f2, f3, f4, f5, f6, b0, HB⟩ := n_; (try clear G4)))
       go_ret
       exact ⟨zq45_, zq58_⟩
     ·obtain rfl := Option.some.inj H
      go_enter Try.func4, Try.ntmps4
      try go_wp2_with (first | ((with_reducible refine gate_callee (f := 16) rfl ?_); refine gl_ 17 Try.func16 #[.slice A0 l0.length c0] ?_; (with_reducible refine (spec_DrawExecDo.calls k _ _ l0 a9 a10 a11 a12 a13 _ ?_ ?_ A3.out).mono ?_); exact zq7c_; exact X0.out; rintro e r0 ⟨S0, S1, S2, rfl, D0, D1, D2, hb⟩; refine ⟨_, rfl, ?_⟩; have n_ := A4_ (Kd.R_lower D0 (below_size zq59_)) (Kd.R_lower D1 (below_size zq59_)) (Kd.R_lower D2 (below_size zq59_)) (below_step zq59_ hb); clear HB; obtain ⟨f2, f3, f4, HB⟩ := n_; (try clear hb); (try clear D0); (try clear D1); (try clear D2)) | ((with_reducible refine gate_dst (N := 4) rfl ?_); refine bxe_ (N := 4) (cs := #[.slice none 0 0, .slice none 0 0, .int .i64 0, .int .i64 0]) (t := 30) ?_; intro c6 hg r1 H_ hb; have n_ := A7_ (Kd.R_below zq13_ hb) (Kd.R_below zq14_ hb) (Kd.R_below zq15_ hb) (below_step zq59_ hb) (H_) ((zq95_ : w.heap.size ≤ c6)) ((zq95_ : w.heap.size ≤ c6)); clear f2 f3 f4 HB; obtain ⟨f2, f3, f4, HB, b0, y0, p0⟩ := n_; clear hb H_ hg; obtain ⟨o0, m0, E0⟩ := Kd.R_slice f3.out; subst E0; obtain ⟨k0, k4, k5, k6, l4, l5, l6, l7⟩ := bz4_ b0.out; obtain ⟨o1, m1, E1⟩ := Kd.R_slice f4.out; subst E1; obtain ⟨o2, m2, E2⟩ := Kd.R_slice f2.out; subst E2) | ((with_reducible refine gate_callee (f := 17) rfl ?_); refine gl_ 22 Try.func17 #[.slice o2 a9.length m2, .agg #[.slice o0 a10.length m0, .slice o1 a11.length m1, .int .i64 a12, .int .i64 a13]] ?_; (with_reducible refine (impl_ExecDo.calls k _ _ a9 _ _ a10 _ _ a11 a12 a13 a0 _ ?_ ?_ ?_ ?_ ?_ ?_ A4.out).mono ?_); exact zq8c_; exact zq32_; exact zq8d_; exact zq33_; exact zq8b_; exact zq34_; rintro e r2 ⟨S3, rfl, D0, hb⟩; refine ⟨_, rfl, ?_⟩; have n_ := A6_ (Kd.R_elder' zq7_ (Kd.R_base D0) hb) (Kd.R_below zq8_ hb) (Kd.R_below zq9_ hb) (Kd.R_lower (Kd.R_new' D0 (Kd.R_lt zq7_)) (below_size zq58_)) (blk_below (g := c6) (o := .cells #[.slice o0 a10.length m0, .slice o1 a11.length m1, .int .i64 a12, .int .i64 a13] 30 (0, 0)) zq2d_ hb) (below_step zq58_ hb); clear f2 f3 f4 b0 HB; obtain ⟨f2, f3, f4, f5, b0, HB⟩ := n_; (try clear hb)))
      have n_ := A6_ (Kd.R_drew f2.out) (Kd.R_drew f3.out) (Kd.R_drew f4.out) (Kd.R_drew f5.out) (blk_drew b0.out) (below_drew1 HB.out); clear f2 f3 f4 f5 b0 HB; obtain ⟨f2, f3, f4, f5, b0, HB⟩ := n_; refine start_ (n := 22) (S := fun w' => w'.cell? ⟨c6, 0, none⟩ = some (.slice o0 a10.length m0) ∧ w'.cell? ⟨c6, 1, none⟩ = some (.slice o1 a11.length m1) ∧ w'.cell? ⟨c6, 2, none⟩ = some (.int .i64 a12) ∧ w'.cell? ⟨c6, 3, none⟩ = some (.int .i64 a13)) (ds := []) #[false, false, false, false, false, false, false, false, false, false, false, false, false, false, false, false, false, false, false, false, false, false] (by kernel_rfl) rfl rfl ⟨(blk_cell b0.out 0).trans rfl, (blk_cell b0.out 1).trans rfl, (blk_cell b0.out 2).trans rfl, (blk_cell b0.out 3).trans rfl⟩ (fun hHeld => ?_); refine with_tabW laws_FnExecDo.tab5 laws_FnExecDo.bits5 (fun HT_ HW_ => ?_); generalize r2.drew = r3 at f2 f3 f4 f5 b0 HB hHeld ⊢; refine pw_ 0 23 ?_; refine pw_ 1 24 ?_; refine tw_ 2 25 ?_; refine on_ (i := 3) (N := some 26) rfl rfl (one_of HT_.out (by kernel_rfl)) (by decide) (fun K hK => ?_); refine goes_ Try.func19 (by kernel_rfl) rfl #[.slice o2 a9.length m2, .agg #[.slice o0 a10.length m0, .slice o1 a11.length m1, .int .i64 a12, .int .i64 a13]] (by rfl) rfl rfl zq0_ ?_
      with_reducible refine (spec_ExecDo.calls k _ _ a9 _ _ a10 _ _ a11 a12 a13 a1 _ ?side1 ?side2 ?side3 ?side4 ?side5 ?side6 A5.out).mono ?_
      (case side1 => exact zq70_); (case side2 => exact zq32_); (case side3 => exact zq71_); (case side4 => exact zq33_); (case side5 => exact zq72_); (case side6 => exact zq34_); rintro e r4 ⟨S4, rfl, D0, hb⟩; refine ⟨_, rfl, ?_⟩; have n_ := A7_ (Kd.R_elder' zq13_ (Kd.R_base D0) hb) (Kd.R_below zq14_ hb) (Kd.R_below zq15_ hb) (Kd.R_elder' zq16_ (Kd.R_base D0) hb) (Kd.R_lower (Kd.R_new' (Kd.R_new' D0 (Kd.R_lt zq13_)) (Kd.R_lt zq16_)) (below_size zq58_)) (blk_below (g := c6) (o := .cells #[.slice o0 a10.length m0, .slice o1 a11.length m1, .int .i64 a12, .int .i64 a13] 30 (0, 0)) zq1c_ hb) (below_step zq58_ hb); clear f2 f3 f4 f5 b0 HB; obtain ⟨f2, f3, f4, f5, f6, b0, HB⟩ := n_; (try clear hb); (try clear hb2); (try clear hk); (try clear hi); (try clear D0); obtain ⟨o3, m3, E3⟩ := Kd.R_slice f5.out; (first | subst E3 | (injection E3 with P0 P1 P2; have P3 := P0.symm; have P4 := P2.symm; clear P0 P1 P2; subst P3; subst P4)); obtain ⟨o4, m4, E4⟩ := Kd.R_slice f6.out; (first | subst E4 | (injection E4 with P0 P1 P2; have P3 := P0.symm; have P4 := P2.symm; clear P0 P1 P2; subst P3; subst P4)); refine hK.out _ _ ⟨(blk_cell b0.out 0).trans rfl, (blk_cell b0.out 1).trans rfl, (blk_cell b0.out 2).trans rfl, (blk_cell b0.out 3).trans rfl⟩ (fun hHeld => ?_); clear hK K; refine norm_ (a' := ?_) ?_ ?_
      rotate_left
      ·show Act.put _ (some 26) _ = _; simp only [Act.put, sA_, sZ_, sS_, i64_w, i32_w]; rfl
      refine on_ (i := 4) (N := some 27) rfl rfl (one_of HT_.out (by kernel_rfl)) (by decide) (fun K hK => ?_); refine goes_ Try.func18 (by kernel_rfl) rfl #[.slice o3 a0.length m3, .slice o4 a1.length m4] (by rfl) rfl rfl zq0_ ?_
      with_reducible refine (impl_BoxSame.calls k _ _ a0 _ _ a1 true _ ?side1 ?side2 ?side3 ?side4 A6.out).mono ?_
      (case side1 => exact zq73_); (case side2 => exact zq35_); (case side3 => exact zq74_); (case side4 => exact (Kd.R_reads' f6.out).2.1); rintro e w' ⟨rfl, ⟨nd, rfl⟩⟩; refine ⟨_, rfl, ?_⟩; refine hK.out _ _ ⟨(blk_cell b0.out 0).trans rfl, (blk_cell b0.out 1).trans rfl, (blk_cell b0.out 2).trans rfl, (blk_cell b0.out 3).trans rfl⟩ (fun hHeld => ?_); clear hK K; refine norm_ (a' := ?_) ?_ ?_
      rotate_left
      ·show Act.put _ (some 27) _ = _; simp only [Act.put, sA_, sZ_, sS_, i64_w, i32_w]; rfl
      refine pw_ 5 28 ?_; refine pw_ 6 29 ?_; refine tw_ 7 30 ?_; refine tw_ 9 32 ?_; refine on_ (i := 8) (N := some 31) rfl rfl (one_of HT_.out (by kernel_rfl)) (by decide) (fun K hK => ?_); refine goes_ Try.func20 (by kernel_rfl) rfl #[.agg #[.slice o0 a10.length m0, .slice o1 a11.length m1, .int .i64 a12, .int .i64 a13]] (by rfl) rfl rfl zq0_ ?_
      with_reducible refine (impl_ExecOk.calls k _ _ a10 _ _ a11 a12 a13 a3 _ ?side1 ?side2 ?side3 ?side4 A8.out).mono ?_
      (case side1 => exact zq71_); (case side2 => exact zq33_); (case side3 => exact zq72_); (case side4 => exact zq34_); rintro e r5 ⟨rfl, hb⟩; refine ⟨_, rfl, ?_⟩; have n_ := A7_ (Kd.R_below zq13_ hb) (Kd.R_below zq14_ hb) (Kd.R_below zq15_ hb) (Kd.R_below zq16_ hb) (Kd.R_below zq17_ hb) (blk_below (g := c6) (o := .cells #[.slice o0 a10.length m0, .slice o1 a11.length m1, .int .i64 a12, .int .i64 a13] 30 (0, 0)) zq1c_ hb) (below_step zq58_ hb); clear f2 f3 f4 f5 f6 b0 HB; obtain ⟨f2, f3, f4, f5, f6, b0, HB⟩ := n_; (try clear hb); (try clear hb2); (try clear hk); (try clear hi); refine hK.out _ _ ⟨(blk_cell b0.out 0).trans rfl, (blk_cell b0.out 1).trans rfl, (blk_cell b0.out 2).trans rfl, (blk_cell b0.out 3).trans rfl⟩ (fun hHeld => ?_); clear hK K; refine norm_ (a' := ?_) ?_ ?_
      rotate_left
      ·show Act.put _ (some 31) _ = _; simp only [Act.put, sA_, sZ_, sS_, i64_w, i32_w]; rfl
      refine on_ (i := 10) (N := some 33) rfl rfl (one_of HT_.out (by kernel_rfl)) (by decide) (fun K hK => ?_); refine goes_ Try.func21 (by kernel_rfl) rfl #[.agg #[.slice o0 a10.length m0, .slice o1 a11.length m1, .int .i64 a12, .int .i64 a13]] (by rfl) rfl rfl zq0_ ?_
      with_reducible refine (spec_ExecOk.calls k _ _ a10 _ _ a11 a12 a13 a4 _ ?side1 ?side2 ?side3 ?side4 A9.out).mono ?_
      (case side1 => exact zq71_); (case side2 => exact zq33_); (case side3 => exact zq72_); (case side4 => exact zq34_); rintro e r6 ⟨rfl, hb⟩; refine ⟨_, rfl, ?_⟩; have n_ := A7_ (Kd.R_below zq13_ hb) (Kd.R_below zq14_ hb) (Kd.R_below zq15_ hb) (Kd.R_below zq16_ hb) (Kd.R_below zq17_ hb) (blk_below (g := c6) (o := .cells #[.slice o0 a10.length m0, .slice o1 a11.length m1, .int .i64 a12, .int .i64 a13] 30 (0, 0)) zq1c_ hb) (below_step zq58_ hb); clear f2 f3 f4 f5 f6 b0 HB; obtain ⟨f2, f3, f4, f5, f6, b0, HB⟩ := n_; (try clear hb); (try clear hb2); (try clear hk); (try clear hi); refine hK.out _ _ ⟨(blk_cell b0.out 0).trans rfl, (blk_cell b0.out 1).trans rfl, (blk_cell b0.out 2).trans rfl, (blk_cell b0.out 3).trans rfl⟩ (fun hHeld => ?_); clear hK K; refine norm_ (a' := ?_) ?_ ?_
      rotate_left
      ·show Act.put _ (some 33) _ = _; simp only [Act.put, sA_, sZ_, sS_, i64_w, i32_w]; rfl
      refine pw_ 11 34 ?_; refine pw_ 12 35 ?_; refine pw_ 13 36 ?_; refine pw_ 14 37 ?_; refine pw_ 17 40 ?_; refine tw_ 15 38 ?_; refine tw_ 18 41 ?_; refine on_ (i := 16) (N := some 39) rfl rfl (one_of HT_.out (by kernel_rfl)) (by decide) (fun K hK => ?_); refine goes_ Try.func22 (by kernel_rfl) rfl #[.slice o2 a9.length m2, .agg #[.slice o0 a10.length m0, .slice o1 a11.length m1, .int .i64 a12, .int .i64 a13]] (by rfl) rfl rfl zq0_ ?_
      with_reducible refine (impl_ExecFresh.calls k _ _ a9 _ _ a10 _ _ a11 a12 a13 a5 _ ?side1 ?side2 ?side3 ?side4 ?side5 ?side6 G1.out).mono ?_
      (case side1 => exact zq70_); (case side2 => exact zq32_); (case side3 => exact zq71_); (case side4 => exact zq33_); (case side5 => exact zq72_); (case side6 => exact zq34_); rintro e r7 ⟨rfl, hb⟩; refine ⟨_, rfl, ?_⟩; have n_ := A7_ (Kd.R_below zq13_ hb) (Kd.R_below zq14_ hb) (Kd.R_below zq15_ hb) (Kd.R_below zq16_ hb) (Kd.R_below zq17_ hb) (blk_below (g := c6) (o := .cells #[.slice o0 a10.length m0, .slice o1 a11.length m1, .int .i64 a12, .int .i64 a13] 30 (0, 0)) zq1c_ hb) (below_step zq58_ hb); clear f2 f3 f4 f5 f6 b0 HB; obtain ⟨f2, f3, f4, f5, f6, b0, HB⟩ := n_; (try clear hb); (try clear hb2); (try clear hk); (try clear hi); refine hK.out _ _ ⟨(blk_cell b0.out 0).trans rfl, (blk_cell b0.out 1).trans rfl, (blk_cell b0.out 2).trans rfl, (blk_cell b0.out 3).trans rfl⟩ (fun hHeld => ?_); clear hK K; refine norm_ (a' := ?_) ?_ ?_
      rotate_left
      ·show Act.put _ (some 39) _ = _; simp only [Act.put, sA_, sZ_, sS_, i64_w, i32_w]; rfl
      refine on_ (i := 19) (N := some 42) rfl rfl (one_of HT_.out (by kernel_rfl)) (by decide) (fun K hK => ?_); refine goes_ Try.func23 (by kernel_rfl) rfl #[.slice o2 a9.length m2, .agg #[.slice o0 a10.length m0, .slice o1 a11.length m1, .int .i64 a12, .int .i64 a13]] (by rfl) rfl rfl zq0_ ?_
      with_reducible refine (spec_ExecFresh.calls k _ _ a9 _ _ a10 _ _ a11 a12 a13 a6 _ ?side1 ?side2 ?side3 ?side4 ?side5 ?side6 G2.out).mono ?_
      (case side1 => exact zq70_); (case side2 => exact zq32_); (case side3 => exact zq71_); (case side4 => exact zq33_); (case side5 => exact zq72_); (case side6 => exact zq34_); rintro e r8 ⟨rfl, hb⟩; refine ⟨_, rfl, ?_⟩; have n_ := A7_ (Kd.R_below zq13_ hb) (Kd.R_below zq14_ hb) (Kd.R_below zq15_ hb) (Kd.R_below zq16_ hb) (Kd.R_below zq17_ hb) (blk_below (g := c6) (o := .cells #[.slice o0 a10.length m0, .slice o1 a11.length m1, .int .i64 a12, .int .i64 a13] 30 (0, 0)) zq1c_ hb) (below_step zq58_ hb); clear f2 f3 f4 f5 f6 b0 HB; obtain ⟨f2, f3, f4, f5, f6, b0, HB⟩ := n_; (try clear hb); (try clear hb2); (try clear hk); (try clear hi); refine hK.out _ _ ⟨(blk_cell b0.out 0).trans rfl, (blk_cell b0.out 1).trans rfl, (blk_cell b0.out 2).trans rfl, (blk_cell b0.out 3).trans rfl⟩ (fun hHeld => ?_); clear hK K; refine norm_ (a' := ?_) ?_ ?_
      rotate_left
      ·show Act.put _ (some 42) _ = _; simp only [Act.put, sA_, sZ_, sS_, i64_w, i32_w]; rfl
      refine pw_ 20 43 ?_; refine pw_ 21 44 ?_; refine done_ (done_of HT_.out (by kernel_rfl)) ?_
      try go_wp2_with (first | ((with_reducible refine gate_callee (f := 24) rfl ?_); refine gl_ 46 Try.func24 #[.slice o2 a9.length m2] ?_; (with_reducible refine (spec_BoxOk.calls k _ _ a9 false _ ?_ ?_ G3.out).mono ?_); exact zq70_; exact zq32_; rintro e w' ⟨rfl, ⟨nd, rfl⟩⟩; refine ⟨_, rfl, ?_⟩))
      go_ret
      exact ⟨zq45_, zq58_⟩
  ·exact absurd ((Option.some.inj H).trans bs.out) (by decide)

/-- THE ONE PURE STATEMENT of laws_FnExecDo: yours. -/
def laws_FnExecDo.Pure : Prop := ∀ (l0 : List Int), l0.length ≤ maxLen → l0.length * 1 ≤ 140737488351232 → (∀ x ∈ l0, (Lit.int .u8 x).wf = true) → ∃ k, laws_FnExecDo.f k l0 = some true
theorem laws_FnExecDo.walk (P : laws_FnExecDo.Pure) (a0 : Option Addr) (bm0 bn0 : Nat) (z0 : List Int) (w : World) (w0 : (a0 = none ∧ bm0 = 0 ∧ bn0 = 0 ∧ z0 = []) ∨ ∃ x, a0 = some x ∧ bm0 ≤ bn0 ∧ bn0 ≤ maxLen ∧ z0.length = bn0 ∧ (∀ i, i < z0.length → w.cell? (x.add i) = some (.int .u8 (z0.getD i 0))) ∧ ∀ n ∈ z0, (Lit.int .u8 n).wf = true) (y0 : bm0 * 1 ≤ 140737488351232) :
  Calls Try.prog 4 #[.slice a0 bm0 bn0] w fun e w' => e = .returned (.bool true) ∧ Below w.heap.size w w' := by
 obtain ⟨l0, rfl, Y0, bZ0, ca0, ad0⟩ := ReadsInt.ofRowC w0
 obtain ⟨k, h⟩ := P l0 bZ0 y0 ca0
 refine (laws_FnExecDo.calls k _ _ l0 true w (Kd.C_of_reads (d := (0 : Int)) (h1 := fun _ => rfl) Y0) ad0 rfl h).mono ?_
 rintro e w' ⟨rfl, hd⟩
 exact ⟨rfl, hd⟩

end Go.Proofs.Ytgdafcakefnpdaa.PFnExecDo
