-- Laid by this session's program out of the translation (gen.sh).
import Derived.Test.YtgdafcakefnpdaaPFnExactExecRunx0
import Derived.Test.YtgdafcakefnpdaaPFnExactExecRunx1
import Derived.Test.YtgdafcakefnpdaaPFnExactExecRunx2
namespace Go.Proofs.Ytgdafcakefnpdaa.PFnExactExecRun
open Go.RowKit Go.Proofs.YtgdafcakefnpdaaW.PrintWords Go.Proofs.YtgdafcakefnpdaaW.PrintLast Go.Proofs.YtgdafcakefnpdaaW.PrintMore
attribute [local go_sem] max2_int min2_int max_two min_two max_three min_three max_four min_four   -- for this text's walks alone
set_option linter.unusedVariables false
set_option linter.unusedSimpArgs false

/-! ### impl_ExecRun: function 13 -/
mutual
def impl_ExecRun.j0 : Nat → List (S46) → List (S34) → Bool → Option ((List (S48)) × (List (S36)) × Int × Int)
 | 0, _, _, _ => none
 | k + 1, x0, x1, x20 => if x20 = true then (some (([] : List (S48)), ([] : List (S36)), 0, 3)) else (impl_ExecRun.l0 k x0 x1 0 0 0 0 0 ([] : List (S48)) ([] : List (S36)) 0 0)
def impl_ExecRun.l0 : Nat → List (S46) → List (S34) → Int → Int → Int → Int → Int → List (S48) → List (S36) → Int → Int → Option ((List (S48)) × (List (S36)) × Int × Int)
 | 0, _, _, _, _, _, _, _, _, _, _, _ => none
 | k + 1, x0, x1, x7, x132000, x132001, x132002, x132003, x133000, x133001, x133002, x133003 => if x7 < (x1.length : Int) then (if 0 ≤ x7 then (if ((rd_T34 x1 x7).f0) = 1 then ((impl_putAt.f k x133000 x133001 x133002 x133003 ((rd_T34 x1 x7).f2)).bind fun t141 => (if t141 ≥ 0 then (if 0 ≤ t141 then (if t141 < (x133001.length : Int) then (if 0 ≤ ((rd_T34 x1 x7).f1) then (if ((rd_T34 x1 x7).f1) < 4 then (impl_ExecRun.j2 k x0 x1 x7 (ixI ((rd_T34 x1 x7).f1) 0 ((rd_T36 x133001 t141).f1) x132000) (ixI ((rd_T34 x1 x7).f1) 1 ((rd_T36 x133001 t141).f1) x132001) (ixI ((rd_T34 x1 x7).f1) 2 ((rd_T36 x133001 t141).f1) x132002) (ixI ((rd_T34 x1 x7).f1) 3 ((rd_T36 x133001 t141).f1) x132003) x133000 x133001 x133002 x133003) else (none)) else (none)) else (none)) else (none)) else ((impl_readAt.f k x133000 x133001 x133002 x133003 ((rd_T34 x1 x7).f2)).bind fun t143 => (if t143 < 0 then (if 0 ≤ ((rd_T34 x1 x7).f2) then (if ((rd_T34 x1 x7).f2) < (x0.length : Int) then (if x133000.length < 8796093022208 then (if 0 ≤ ((rd_T34 x1 x7).f1) then (if ((rd_T34 x1 x7).f1) < 4 then (impl_ExecRun.j2 k x0 x1 x7 (ixI ((rd_T34 x1 x7).f1) 0 ((rd_T46 x0 ((rd_T34 x1 x7).f2)).f1) x132000) (ixI ((rd_T34 x1 x7).f1) 1 ((rd_T46 x0 ((rd_T34 x1 x7).f2)).f1) x132001) (ixI ((rd_T34 x1 x7).f1) 2 ((rd_T46 x0 ((rd_T34 x1 x7).f2)).f1) x132002) (ixI ((rd_T34 x1 x7).f1) 3 ((rd_T46 x0 ((rd_T34 x1 x7).f2)).f1) x132003) (x133000 ++ [(⟨(rd_T34 x1 x7).f2, (rd_T46 x0 ((rd_T34 x1 x7).f2)).f0⟩ : S48)]) x133001 x133002 x133003) else (none)) else (none)) else (none)) else (none)) else (none)) else (if 0 ≤ ((rd_T34 x1 x7).f2) then (if ((rd_T34 x1 x7).f2) < (x0.length : Int) then (if 0 ≤ ((rd_T34 x1 x7).f1) then (if ((rd_T34 x1 x7).f1) < 4 then (impl_ExecRun.j2 k x0 x1 x7 (ixI ((rd_T34 x1 x7).f1) 0 ((rd_T46 x0 ((rd_T34 x1 x7).f2)).f1) x132000) (ixI ((rd_T34 x1 x7).f1) 1 ((rd_T46 x0 ((rd_T34 x1 x7).f2)).f1) x132001) (ixI ((rd_T34 x1 x7).f1) 2 ((rd_T46 x0 ((rd_T34 x1 x7).f2)).f1) x132002) (ixI ((rd_T34 x1 x7).f1) 3 ((rd_T46 x0 ((rd_T34 x1 x7).f2)).f1) x132003) x133000 x133001 x133002 x133003) else (none)) else (none)) else (none)) else (none)))))) else (if ((rd_T34 x1 x7).f0) = 2 then ((impl_putAt.f k x133000 x133001 x133002 x133003 ((rd_T34 x1 x7).f1)).bind fun t150 => (if t150 ≥ 0 then (if 0 ≤ ((rd_T34 x1 x7).f2) then (if ((rd_T34 x1 x7).f2) < 4 then (if 0 ≤ t150 then (if t150 < (x133001.length : Int) then (impl_ExecRun.j2 k x0 x1 x7 x132000 x132001 x132002 x132003 x133000 (x133001.set (t150 : Int).toNat (⟨(rd_T36 x133001 t150).f0, rd [x132000, x132001, x132002, x132003] ((rd_T34 x1 x7).f2)⟩ : S36)) x133002 x133003) else (none)) else (none)) else (none)) else (none)) else (if 0 ≤ ((rd_T34 x1 x7).f2) then (if ((rd_T34 x1 x7).f2) < 4 then (if x133001.length < 8796093022208 then (impl_ExecRun.j2 k x0 x1 x7 x132000 x132001 x132002 x132003 x133000 (x133001 ++ [(⟨(rd_T34 x1 x7).f1, rd [x132000, x132001, x132002, x132003] ((rd_T34 x1 x7).f2)⟩ : S36)]) x133002 x133003) else (none)) else (none)) else (none)))) else (if ((rd_T34 x1 x7).f0) = 3 then (if 0 ≤ ((rd_T34 x1 x7).f1) then (if ((rd_T34 x1 x7).f1) < 4 then (impl_ExecRun.j2 k x0 x1 x7 (ixI ((rd_T34 x1 x7).f1) 0 ((rd_T34 x1 x7).f3) x132000) (ixI ((rd_T34 x1 x7).f1) 1 ((rd_T34 x1 x7).f3) x132001) (ixI ((rd_T34 x1 x7).f1) 2 ((rd_T34 x1 x7).f3) x132002) (ixI ((rd_T34 x1 x7).f1) 3 ((rd_T34 x1 x7).f3) x132003) x133000 x133001 x133002 x133003) else (none)) else (none)) else (if ((rd_T34 x1 x7).f0) = 4 then (if 0 ≤ ((rd_T34 x1 x7).f1) then (if ((rd_T34 x1 x7).f1) < 4 then (if 0 ≤ ((rd_T34 x1 x7).f2) then (if ((rd_T34 x1 x7).f2) < 4 then (impl_ExecRun.j2 k x0 x1 x7 (ixI ((rd_T34 x1 x7).f1) 0 (wrap64 ((rd [x132000, x132001, x132002, x132003] ((rd_T34 x1 x7).f1)) + (rd [x132000, x132001, x132002, x132003] ((rd_T34 x1 x7).f2)))) x132000) (ixI ((rd_T34 x1 x7).f1) 1 (wrap64 ((rd [x132000, x132001, x132002, x132003] ((rd_T34 x1 x7).f1)) + (rd [x132000, x132001, x132002, x132003] ((rd_T34 x1 x7).f2)))) x132001) (ixI ((rd_T34 x1 x7).f1) 2 (wrap64 ((rd [x132000, x132001, x132002, x132003] ((rd_T34 x1 x7).f1)) + (rd [x132000, x132001, x132002, x132003] ((rd_T34 x1 x7).f2)))) x132002) (ixI ((rd_T34 x1 x7).f1) 3 (wrap64 ((rd [x132000, x132001, x132002, x132003] ((rd_T34 x1 x7).f1)) + (rd [x132000, x132001, x132002, x132003] ((rd_T34 x1 x7).f2)))) x132003) x133000 x133001 x133002 x133003) else (none)) else (none)) else (none)) else (none)) else (if ((rd_T34 x1 x7).f0) = 5 then (if 0 ≤ ((rd_T34 x1 x7).f1) then (if ((rd_T34 x1 x7).f1) < 4 then (if 0 ≤ ((rd_T34 x1 x7).f2) then (if ((rd_T34 x1 x7).f2) < 4 then (impl_ExecRun.j2 k x0 x1 x7 (ixI ((rd_T34 x1 x7).f1) 0 (wrap64 ((rd [x132000, x132001, x132002, x132003] ((rd_T34 x1 x7).f1)) - (rd [x132000, x132001, x132002, x132003] ((rd_T34 x1 x7).f2)))) x132000) (ixI ((rd_T34 x1 x7).f1) 1 (wrap64 ((rd [x132000, x132001, x132002, x132003] ((rd_T34 x1 x7).f1)) - (rd [x132000, x132001, x132002, x132003] ((rd_T34 x1 x7).f2)))) x132001) (ixI ((rd_T34 x1 x7).f1) 2 (wrap64 ((rd [x132000, x132001, x132002, x132003] ((rd_T34 x1 x7).f1)) - (rd [x132000, x132001, x132002, x132003] ((rd_T34 x1 x7).f2)))) x132002) (ixI ((rd_T34 x1 x7).f1) 3 (wrap64 ((rd [x132000, x132001, x132002, x132003] ((rd_T34 x1 x7).f1)) - (rd [x132000, x132001, x132002, x132003] ((rd_T34 x1 x7).f2)))) x132003) x133000 x133001 x133002 x133003) else (none)) else (none)) else (none)) else (none)) else (if ((rd_T34 x1 x7).f0) = 6 then (if 0 ≤ ((rd_T34 x1 x7).f1) then (if ((rd_T34 x1 x7).f1) < 4 then (if 0 ≤ ((rd_T34 x1 x7).f2) then (if ((rd_T34 x1 x7).f2) < 4 then (if (rd [x132000, x132001, x132002, x132003] ((rd_T34 x1 x7).f1)) < (rd [x132000, x132001, x132002, x132003] ((rd_T34 x1 x7).f2)) then (impl_ExecRun.j2 k x0 x1 (wrap64 (x7 + ((rd_T34 x1 x7).f3))) x132000 x132001 x132002 x132003 x133000 x133001 x133002 x133003) else (impl_ExecRun.j2 k x0 x1 x7 x132000 x132001 x132002 x132003 x133000 x133001 x133002 x133003)) else (none)) else (none)) else (none)) else (none)) else (if ((rd_T34 x1 x7).f0) = 7 then ((impl_copied_impl_Read.f x133000).bind fun t155 => (some (t155, ([] : List (S36)), 0, 1))) else (impl_ExecRun.j2 k x0 x1 x7 x132000 x132001 x132002 x132003 x133000 x133001 x133002 x133003)))))))) else (none)) else ((impl_copied_impl_Read.f x133000).bind fun t133 => ((impl_copied_impl_Put.f x133001).bind fun t136 => (some (t133, t136, x132000, 0))))
def impl_ExecRun.j2 : Nat → List (S46) → List (S34) → Int → Int → Int → Int → Int → List (S48) → List (S36) → Int → Int → Option ((List (S48)) × (List (S36)) × Int × Int)
 | 0, _, _, _, _, _, _, _, _, _, _, _ => none
 | k + 1, x0, x1, x7, x132000, x132001, x132002, x132003, x133000, x133001, x133002, x133003 => impl_ExecRun.l1 k x0 x1 x7 0 x132000 x132001 x132002 x132003 x133000 x133001 x133002 x133003 x132000 x132001 x132002 x132003
def impl_ExecRun.l1 : Nat → List (S46) → List (S34) → Int → Int → Int → Int → Int → Int → List (S48) → List (S36) → Int → Int → Int → Int → Int → Int → Option ((List (S48)) × (List (S36)) × Int × Int)
 | 0, _, _, _, _, _, _, _, _, _, _, _, _, _, _, _, _ => none
 | k + 1, x0, x1, x7, x162, x132000, x132001, x132002, x132003, x133000, x133001, x133002, x133003, x159000, x159001, x159002, x159003 => if x162 < 4 then (if 0 ≤ x162 then ((impl_in.f (rd [x159000, x159001, x159002, x159003] x162) (-1000000) 1000000).bind fun t159 => (if t159 = true then (impl_ExecRun.l1 k x0 x1 x7 (wrap64 (x162 + 1)) x132000 x132001 x132002 x132003 x133000 x133001 x133002 x133003 x159000 x159001 x159002 x159003) else ((impl_copied_impl_Read.f x133000).bind fun t160 => (some (t160, ([] : List (S36)), 0, 2))))) else (none)) else (impl_ExecRun.l0 k x0 x1 (wrap64 (x7 + 1)) x132000 x132001 x132002 x132003 x133000 x133001 x133002 x133003)
end
def impl_ExecRun.f (k : Nat) (l0 : List (S46)) (l1 : List (S34)) : Option ((List (S48)) × (List (S36)) × Int × Int) := (impl_BoxOk.f k l0).bind fun t129 => (if t129 = true then ((impl_ProgOk.f k l1).bind fun t130 => (impl_ExecRun.j0 k l0 l1 (!t130))) else (impl_ExecRun.j0 k l0 l1 true))
theorem impl_ExecRun.mono_l : ∀ k, (∀ y0 y1 y2, LeO (impl_ExecRun.j0 k y0 y1 y2) (impl_ExecRun.j0 (k + 1) y0 y1 y2)) ∧ (∀ y0 y1 y2 y3 y4 y5 y6 y7 y8 y9 y10, LeO (impl_ExecRun.l0 k y0 y1 y2 y3 y4 y5 y6 y7 y8 y9 y10) (impl_ExecRun.l0 (k + 1) y0 y1 y2 y3 y4 y5 y6 y7 y8 y9 y10)) ∧ (∀ y0 y1 y2 y3 y4 y5 y6 y7 y8 y9 y10, LeO (impl_ExecRun.j2 k y0 y1 y2 y3 y4 y5 y6 y7 y8 y9 y10) (impl_ExecRun.j2 (k + 1) y0 y1 y2 y3 y4 y5 y6 y7 y8 y9 y10)) ∧ (∀ y0 y1 y2 y3 y4 y5 y6 y7 y8 y9 y10 y11 y12 y13 y14 y15, LeO (impl_ExecRun.l1 k y0 y1 y2 y3 y4 y5 y6 y7 y8 y9 y10 y11 y12 y13 y14 y15) (impl_ExecRun.l1 (k + 1) y0 y1 y2 y3 y4 y5 y6 y7 y8 y9 y10 y11 y12 y13 y14 y15))
 | 0 => ⟨fun _ _ _ r h => by simp [impl_ExecRun.j0] at h, fun _ _ _ _ _ _ _ _ _ _ _ r h => by simp [impl_ExecRun.l0] at h, fun _ _ _ _ _ _ _ _ _ _ _ r h => by simp [impl_ExecRun.j2] at h, fun _ _ _ _ _ _ _ _ _ _ _ _ _ _ _ _ r h => by simp [impl_ExecRun.l1] at h⟩
 | k + 1 => by
  obtain ⟨ih0, ih1, ih2, ih3⟩ := impl_ExecRun.mono_l k
  refine ⟨?_, ?_, ?_, ?_⟩
  ·intro y0 y1 y2
   unfold impl_ExecRun.j0
   repeat' first
   | (with_reducible exact ih0 _ _ _)
   | (with_reducible exact ih1 _ _ _ _ _ _ _ _ _ _ _)
   | (with_reducible exact ih2 _ _ _ _ _ _ _ _ _ _ _)
   | (with_reducible exact ih3 _ _ _ _ _ _ _ _ _ _ _ _ _ _ _ _)
   | (with_reducible exact impl_BoxOk.mono _ _)
   | (with_reducible exact impl_ProgOk.mono _ _)
   | (with_reducible exact impl_putAt.mono _ _ _ _ _ _)
   | (with_reducible exact impl_readAt.mono _ _ _ _ _ _)
   | (with_reducible exact LeO.refl _)
   | (with_reducible exact LeO.none _)
   | (with_reducible refine LeO.ite ?_ ?_)
   | (with_reducible refine LeO.bind ?_ (fun _ => ?_))
   | exact ih0 _ _ _
   | exact ih1 _ _ _ _ _ _ _ _ _ _ _
   | exact ih2 _ _ _ _ _ _ _ _ _ _ _
   | exact ih3 _ _ _ _ _ _ _ _ _ _ _ _ _ _ _ _
   | exact impl_BoxOk.mono _ _
   | exact impl_ProgOk.mono _ _
   | exact impl_putAt.mono _ _ _ _ _ _
   | exact impl_readAt.mono _ _ _ _ _ _
   | exact LeO.none _
   | refine LeO.ite ?_ ?_
   | refine LeO.bind ?_ (fun _ => ?_)
  ·intro y0 y1 y2 y3 y4 y5 y6 y7 y8 y9 y10
   unfold impl_ExecRun.l0
   repeat' first
   | (with_reducible exact ih0 _ _ _)
   | (with_reducible exact ih1 _ _ _ _ _ _ _ _ _ _ _)
   | (with_reducible exact ih2 _ _ _ _ _ _ _ _ _ _ _)
   | (with_reducible exact ih3 _ _ _ _ _ _ _ _ _ _ _ _ _ _ _ _)
   | (with_reducible exact impl_BoxOk.mono _ _)
   | (with_reducible exact impl_ProgOk.mono _ _)
   | (with_reducible exact impl_putAt.mono _ _ _ _ _ _)
   | (with_reducible exact impl_readAt.mono _ _ _ _ _ _)
   | (with_reducible exact LeO.refl _)
   | (with_reducible exact LeO.none _)
   | (with_reducible refine LeO.ite ?_ ?_)
   | (with_reducible refine LeO.bind ?_ (fun _ => ?_))
   | exact ih0 _ _ _
   | exact ih1 _ _ _ _ _ _ _ _ _ _ _
   | exact ih2 _ _ _ _ _ _ _ _ _ _ _
   | exact ih3 _ _ _ _ _ _ _ _ _ _ _ _ _ _ _ _
   | exact impl_BoxOk.mono _ _
   | exact impl_ProgOk.mono _ _
   | exact impl_putAt.mono _ _ _ _ _ _
   | exact impl_readAt.mono _ _ _ _ _ _
   | exact LeO.none _
   | refine LeO.ite ?_ ?_
   | refine LeO.bind ?_ (fun _ => ?_)
  ·intro y0 y1 y2 y3 y4 y5 y6 y7 y8 y9 y10
   unfold impl_ExecRun.j2
   repeat' first
   | (with_reducible exact ih0 _ _ _)
   | (with_reducible exact ih1 _ _ _ _ _ _ _ _ _ _ _)
   | (with_reducible exact ih2 _ _ _ _ _ _ _ _ _ _ _)
   | (with_reducible exact ih3 _ _ _ _ _ _ _ _ _ _ _ _ _ _ _ _)
   | (with_reducible exact impl_BoxOk.mono _ _)
   | (with_reducible exact impl_ProgOk.mono _ _)
   | (with_reducible exact impl_putAt.mono _ _ _ _ _ _)
   | (with_reducible exact impl_readAt.mono _ _ _ _ _ _)
   | (with_reducible exact LeO.refl _)
   | (with_reducible exact LeO.none _)
   | (with_reducible refine LeO.ite ?_ ?_)
   | (with_reducible refine LeO.bind ?_ (fun _ => ?_))
   | exact ih0 _ _ _
   | exact ih1 _ _ _ _ _ _ _ _ _ _ _
   | exact ih2 _ _ _ _ _ _ _ _ _ _ _
   | exact ih3 _ _ _ _ _ _ _ _ _ _ _ _ _ _ _ _
   | exact impl_BoxOk.mono _ _
   | exact impl_ProgOk.mono _ _
   | exact impl_putAt.mono _ _ _ _ _ _
   | exact impl_readAt.mono _ _ _ _ _ _
   | exact LeO.none _
   | refine LeO.ite ?_ ?_
   | refine LeO.bind ?_ (fun _ => ?_)
  ·intro y0 y1 y2 y3 y4 y5 y6 y7 y8 y9 y10 y11 y12 y13 y14 y15
   unfold impl_ExecRun.l1
   repeat' first
   | (with_reducible exact ih0 _ _ _)
   | (with_reducible exact ih1 _ _ _ _ _ _ _ _ _ _ _)
   | (with_reducible exact ih2 _ _ _ _ _ _ _ _ _ _ _)
   | (with_reducible exact ih3 _ _ _ _ _ _ _ _ _ _ _ _ _ _ _ _)
   | (with_reducible exact impl_BoxOk.mono _ _)
   | (with_reducible exact impl_ProgOk.mono _ _)
   | (with_reducible exact impl_putAt.mono _ _ _ _ _ _)
   | (with_reducible exact impl_readAt.mono _ _ _ _ _ _)
   | (with_reducible exact LeO.refl _)
   | (with_reducible exact LeO.none _)
   | (with_reducible refine LeO.ite ?_ ?_)
   | (with_reducible refine LeO.bind ?_ (fun _ => ?_))
   | exact ih0 _ _ _
   | exact ih1 _ _ _ _ _ _ _ _ _ _ _
   | exact ih2 _ _ _ _ _ _ _ _ _ _ _
   | exact ih3 _ _ _ _ _ _ _ _ _ _ _ _ _ _ _ _
   | exact impl_BoxOk.mono _ _
   | exact impl_ProgOk.mono _ _
   | exact impl_putAt.mono _ _ _ _ _ _
   | exact impl_readAt.mono _ _ _ _ _ _
   | exact LeO.none _
   | refine LeO.ite ?_ ?_
   | refine LeO.bind ?_ (fun _ => ?_)
theorem impl_ExecRun.mono : ∀ a0 a1 k, LeO (impl_ExecRun.f k a0 a1) (impl_ExecRun.f (k + 1) a0 a1) := by
 intro a0 a1 k
 obtain ⟨ih0, ih1, ih2, ih3⟩ := impl_ExecRun.mono_l k
 unfold impl_ExecRun.f
 repeat' first
   | (with_reducible exact ih0 _ _ _)
   | (with_reducible exact ih1 _ _ _ _ _ _ _ _ _ _ _)
   | (with_reducible exact ih2 _ _ _ _ _ _ _ _ _ _ _)
   | (with_reducible exact ih3 _ _ _ _ _ _ _ _ _ _ _ _ _ _ _ _)
   | (with_reducible exact impl_BoxOk.mono _ _)
   | (with_reducible exact impl_ProgOk.mono _ _)
   | (with_reducible exact impl_putAt.mono _ _ _ _ _ _)
   | (with_reducible exact impl_readAt.mono _ _ _ _ _ _)
   | (with_reducible exact LeO.refl _)
   | (with_reducible exact LeO.none _)
   | (with_reducible refine LeO.ite ?_ ?_)
   | (with_reducible refine LeO.bind ?_ (fun _ => ?_))
   | exact ih0 _ _ _
   | exact ih1 _ _ _ _ _ _ _ _ _ _ _
   | exact ih2 _ _ _ _ _ _ _ _ _ _ _
   | exact ih3 _ _ _ _ _ _ _ _ _ _ _ _ _ _ _ _
   | exact impl_BoxOk.mono _ _
   | exact impl_ProgOk.mono _ _
   | exact impl_putAt.mono _ _ _ _ _ _
   | exact impl_readAt.mono _ _ _ _ _ _
   | exact LeO.none _
   | refine LeO.ite ?_ ?_
   | refine LeO.bind ?_ (fun _ => ?_)
def impl_ExecRun.T13 : Bool × List (List Nat × List Nat) := (true, [([], []), ([0], [0]), ([], []), ([2], [2]), ([], []), ([3, 4], [3, 4]), ([5], [5]), ([6], [6]), ([1, 0, 1, 2, 3, 4, 5, 6, 7], [1]), ([8, 7, 0, 1, 2, 3, 4, 5, 6, 7], [7, 8])])
def impl_ExecRun.B13 : List Nat := [0, 1, 0, 4, 0, 28, 60, 124, 255, 511]
theorem impl_ExecRun.tab13 : rtab .any (opsOf Try.f13 13) = impl_ExecRun.T13 := by kernel_rfl
theorem impl_ExecRun.bits13 : waitsOk impl_ExecRun.T13.2 impl_ExecRun.B13 = true := by kernel_rfl
def impl_ExecRun.T15 : Bool × List (List Nat × List Nat) := (true, [([], []), ([0], [0]), ([], []), ([2], [2]), ([], []), ([], []), ([5], [5]), ([4, 6], [4, 6]), ([7], [7]), ([8], [8]), ([3, 9], [3, 9]), ([10], [10]), ([1, 11], [1, 11]), ([0, 1, 2, 3, 4, 5, 6, 7, 8, 9, 10, 11, 12], []), ([13, 12, 12, 0, 1, 2, 3, 4, 5, 6, 7, 8, 9, 10, 11, 12], [12, 13])])
def impl_ExecRun.B15 : List Nat := [0, 1, 0, 4, 0, 0, 32, 112, 240, 496, 1020, 2044, 4095, 8191, 16383]
theorem impl_ExecRun.tab15 : rtab .any (opsOf Try.f13 15) = impl_ExecRun.T15 := by kernel_rfl
theorem impl_ExecRun.bits15 : waitsOk impl_ExecRun.T15.2 impl_ExecRun.B15 = true := by kernel_rfl
def impl_ExecRun.T16 : Bool × List (List Nat × List Nat) := (true, [([], []), ([0], [0]), ([], []), ([], []), ([3], [3]), ([2, 4], [2, 4]), ([5], [5]), ([6], [6]), ([1, 0, 1, 2, 3, 4, 5, 6, 7], [1]), ([8, 7, 0, 1, 2, 3, 4, 5, 6, 7], [7, 8])])
def impl_ExecRun.B16 : List Nat := [0, 1, 0, 0, 8, 28, 60, 124, 255, 511]
theorem impl_ExecRun.tab16 : rtab .any (opsOf Try.f13 16) = impl_ExecRun.T16 := by kernel_rfl
theorem impl_ExecRun.bits16 : waitsOk impl_ExecRun.T16.2 impl_ExecRun.B16 = true := by kernel_rfl
def impl_ExecRun.T20 : Bool × List (List Nat × List Nat) := (true, [([], []), ([0], [0]), ([], []), ([], []), ([3], [3]), ([4], [4]), ([5], [5]), ([1, 2, 0, 1, 2, 3, 4, 5, 6], [1, 2]), ([7, 0, 1, 2, 3, 4, 5, 6], [7]), ([8, 6, 0, 1, 2, 3, 4, 5, 6], [6, 8])])
def impl_ExecRun.B20 : List Nat := [0, 1, 0, 0, 8, 24, 56, 127, 255, 511]
theorem impl_ExecRun.tab20 : rtab .any (opsOf Try.f13 20) = impl_ExecRun.T20 := by kernel_rfl
theorem impl_ExecRun.bits20 : waitsOk impl_ExecRun.T20.2 impl_ExecRun.B20 = true := by kernel_rfl
def impl_ExecRun.T21 : Bool × List (List Nat × List Nat) := (true, [([], []), ([0], [0]), ([], []), ([2], [2]), ([], []), ([4], [4]), ([5], [5]), ([6], [6]), ([3, 7], [3, 7]), ([8], [8]), ([1, 9], [1, 9]), ([0, 1, 2, 3, 4, 5, 6, 7, 8, 9, 10], []), ([11, 10, 10, 0, 1, 2, 3, 4, 5, 6, 7, 8, 9, 10], [10, 11])])
def impl_ExecRun.B21 : List Nat := [0, 1, 0, 4, 0, 16, 48, 112, 252, 508, 1023, 2047, 4095]
theorem impl_ExecRun.tab21 : rtab .any (opsOf Try.f13 21) = impl_ExecRun.T21 := by kernel_rfl
theorem impl_ExecRun.bits21 : waitsOk impl_ExecRun.T21.2 impl_ExecRun.B21 = true := by kernel_rfl
def impl_ExecRun.T25 : Bool × List (List Nat × List Nat) := (true, [([], []), ([0], [0]), ([1], [1]), ([2], [2]), ([], []), ([4], [4]), ([5], [5]), ([6], [6]), ([3, 7], [3, 7]), ([1, 0, 1, 2, 3, 4, 5, 6, 7, 8], [1]), ([9, 8, 0, 1, 2, 3, 4, 5, 6, 7, 8], [8, 9])])
def impl_ExecRun.B25 : List Nat := [0, 1, 3, 7, 0, 16, 48, 112, 255, 511, 1023]
theorem impl_ExecRun.tab25 : rtab .any (opsOf Try.f13 25) = impl_ExecRun.T25 := by kernel_rfl
theorem impl_ExecRun.bits25 : waitsOk impl_ExecRun.T25.2 impl_ExecRun.B25 = true := by kernel_rfl
def impl_ExecRun.T27 : Bool × List (List Nat × List Nat) := (true, [([], []), ([0], [0]), ([1], [1]), ([2], [2]), ([], []), ([4], [4]), ([5], [5]), ([6], [6]), ([3, 7], [3, 7]), ([1, 0, 1, 2, 3, 4, 5, 6, 7, 8], [1]), ([9, 8, 0, 1, 2, 3, 4, 5, 6, 7, 8], [8, 9])])
def impl_ExecRun.B27 : List Nat := [0, 1, 3, 7, 0, 16, 48, 112, 255, 511, 1023]
theorem impl_ExecRun.tab27 : rtab .any (opsOf Try.f13 27) = impl_ExecRun.T27 := by kernel_rfl
theorem impl_ExecRun.bits27 : waitsOk impl_ExecRun.T27.2 impl_ExecRun.B27 = true := by kernel_rfl
def impl_ExecRun.T29 : Bool × List (List Nat × List Nat) := (true, [([], []), ([0], [0]), ([1], [1]), ([2], [2]), ([], []), ([4], [4]), ([5], [5]), ([6], [6]), ([3, 7], [3, 7])])
def impl_ExecRun.B29 : List Nat := [0, 1, 3, 7, 0, 16, 48, 112, 255]
theorem impl_ExecRun.tab29 : rtab .any (opsOf Try.f13 29) = impl_ExecRun.T29 := by kernel_rfl
theorem impl_ExecRun.bits29 : waitsOk impl_ExecRun.T29.2 impl_ExecRun.B29 = true := by kernel_rfl
def impl_ExecRun.T39 : Bool × List (List Nat × List Nat) := (true, [([], []), ([0], [0]), ([1], [1]), ([], []), ([3], [3]), ([4, 2], [4]), ([], []), ([6], [6]), ([2, 5, 7], [2, 5, 7]), ([8, 5, 0, 1, 2, 3, 4, 5, 6, 7, 8], [8])])
def impl_ExecRun.B39 : List Nat := [0, 1, 3, 0, 8, 31, 0, 64, 255, 511]
theorem impl_ExecRun.tab39 : rtab .any (opsOf Try.f13 39) = impl_ExecRun.T39 := by kernel_rfl
theorem impl_ExecRun.bits39 : waitsOk impl_ExecRun.T39.2 impl_ExecRun.B39 = true := by kernel_rfl
set_option maxHeartbeats 8000000 in
set_option maxRecDepth 100000 in
theorem impl_ExecRun.calls (k : Nat) (A0 : Option Addr) (c0 : Nat) (l0 : List (S46)) (A1 : Option Addr) (c1 : Nat) (l1 : List (S34)) (r1 : List (S48)) (r2 : List (S36)) (r3 : Int) (r4 : Int) (w : World) (hr0 : Kd.C k46 w A0 l0.length l0) (hc0 : l0.length ≤ c0) (hr1 : Kd.C k34 w A1 l1.length l1) (hc1 : l1.length ≤ c1) (h : impl_ExecRun.f k l0 l1 = some (r1, r2, r3, r4)) :
  Calls Try.prog 13 #[.slice A0 l0.length c0, .slice A1 l1.length c1] w fun e w' => ∃ v0_ v1_ : Value, e = .returned (.agg #[v0_, v1_, .int .i64 r3, .int .i64 r4]) ∧ Kd.R k48 48 w' w.heap.size (fun _ => True) v0_ r1 ∧ Kd.R k36 36 w' w.heap.size (fun _ => True) v1_ r2 ∧ Below w.heap.size w w' := by
 have hu30 := Try.underlying30
 have hu86 := Try.underlying86
 have hu34 := Try.underlying34
 have hu48 := Try.underlying48
 have hu36 := Try.underlying36
 have HR0 := Aside0.mk hr0
 have HC0 := Aside0.mk hc0
 clear hr0 hc0
 have HR1 := Aside0.mk hr1
 have HC1 := Aside0.mk hc1
 clear hr1 hc1
 have HB := Aside0.mk (Below.refl w.heap.size w)
 have H : ((impl_BoxOk.f k l0).bind fun t129 => (if t129 = true then ((impl_ProgOk.f k l1).bind fun t130 => (impl_ExecRun.j0 k l0 l1 (!t130))) else (impl_ExecRun.j0 k l0 l1 true))) = some (r1, r2, r3, r4) := h
 clear h
 have HC3 := Aside0.mk H
 clear H
 go_enter Try.func13, Try.ntmps13
 go_upto_region 1 with (first | ((with_reducible refine gate_dst (N := 4) rfl ?_); refine bxe_ (N := 4) (cs := #[.slice none 0 0, .slice none 0 0, .int .i64 0, .int .i64 0]) (t := 30) ?_; intro gb128 hg w4 hbox hb; have n_ := A4_ (below_step zqa3_ hb) (hbox) ((zqd6_ : w.heap.size ≤ gb128)) ((zqd6_ : w.heap.size ≤ gb128)); clear HB; obtain ⟨HB, BK128, GW128, GE128⟩ := n_; clear hb hbox hg))
 (try simp only [Act.put, List.setIfInBounds_toArray, List.set_cons_zero, List.set_cons_succ])
 go_cut [20] (fun v20 wc => ∃ (kq : Nat) (x20_2 : Bool), v20 = .bool x20_2 ∧ Aside0 (impl_ExecRun.j0 kq l0 l1 x20_2 = some (r1, r2, r3, r4)) ∧ Aside0 (kq ≤ k) ∧ Aside0 (wc.heap[gb128]? = some (.cells #[(.slice none 0 0), (.slice none 0 0), .int .i64 0, .int .i64 0] 30 (0, 0))) ∧ Aside0 (Below w.heap.size w wc))
 case first =>
  have H := HC3.out
  clear HC3
  replace H := Option.bind_eq_some_iff.mp H
  obtain ⟨t129, A50, H⟩ := H
  (try dsimp only at H)
  have A5 := Aside0.mk A50
  clear A50
  by_cases c6 : t129 = true
  ·subst c6
   rw [if_pos rfl] at H
   replace H := Option.bind_eq_some_iff.mp H
   obtain ⟨t130, A70, H⟩ := H
   (try dsimp only at H)
   have A7 := Aside0.mk A70
   clear A70
   have H' := Aside0.mk H
   clear H
   go_wp2_with (first | ((with_reducible refine gate_callee (f := 25) rfl ?_); refine goesL_ (some 14) rfl rfl Try.func25 (by kernel_rfl) rfl #[.slice A0 l0.length c0] rfl zq1_ ?_; (with_reducible refine (impl_BoxOk.calls k _ _ l0 true _ ?side1 ?side2 A5.out).mono ?_); (case side1 => exact zqac_); (case side2 => exact HC0.out); rintro e w8 ⟨rfl, hb⟩; refine ⟨_, rfl, ?_⟩; have n_ := A2_ (blk_below (g := gb128) (o := .cells #[.slice none 0 0, .slice none 0 0, .int .i64 0, .int .i64 0] 30 (0, 0)) zq36_ hb) (below_step zq83_ hb); clear BK128 HB; obtain ⟨BK128, HB⟩ := n_; (try clear hb)) | (go_at_call 60; (with_reducible refine (impl_ProgOk.calls k _ _ l1 t130 _ ?side1 ?side2 A7.out).mono ?_); (case side1 => exact zqaf_); (case side2 => exact HC1.out); rintro e w9 ⟨rfl, hb⟩; have n_ := A2_ (blk_below (g := gb128) (o := .cells #[.slice none 0 0, .slice none 0 0, .int .i64 0, .int .i64 0] 30 (0, 0)) zq36_ hb) (below_step zq83_ hb); clear BK128 HB; obtain ⟨BK128, HB⟩ := n_; (try clear hb); (try clear A7)))
   go_meet
   case rel => exact ⟨_, (!t130), zq76_, H', ⟨zq74_⟩, ⟨zq36_⟩, ⟨zq83_⟩⟩
  ·replace c6 := Bool.eq_false_iff.mpr c6
   subst c6
   rw [if_neg (show ¬ (false = true) by decide)] at H
   have H' := Aside0.mk H
   clear H
   go_wp2_with (first | ((with_reducible refine gate_callee (f := 25) rfl ?_); refine goesL_ (some 14) rfl rfl Try.func25 (by kernel_rfl) rfl #[.slice A0 l0.length c0] rfl zq1_ ?_; (with_reducible refine (impl_BoxOk.calls k _ _ l0 false _ ?side1 ?side2 A5.out).mono ?_); (case side1 => exact zqac_); (case side2 => exact HC0.out); rintro e w10 ⟨rfl, hb⟩; refine ⟨_, rfl, ?_⟩; have n_ := A2_ (blk_below (g := gb128) (o := .cells #[.slice none 0 0, .slice none 0 0, .int .i64 0, .int .i64 0] 30 (0, 0)) zq36_ hb) (below_step zq83_ hb); clear BK128 HB; obtain ⟨BK128, HB⟩ := n_; (try clear hb)))
   go_meet
   case rel => exact ⟨_, (true), zq76_, H', ⟨zq74_⟩, ⟨zq36_⟩, ⟨zq83_⟩⟩
 case rest =>
  clear HC3
  try clear c1
  try clear c2
  try clear p2
  try clear c6
  obtain ⟨kq, x20_2, rfl, HA, HJ2, BK128, HB⟩ := hcut
  cases kq with
  | zero => exact absurd HA.out (by simp [impl_ExecRun.j0])
  | succ kj2 =>
   have H := HA.out
   clear HA
   simp only [impl_ExecRun.j0] at H
   by_cases c11 : x20_2 = true
   ·subst c11
    rw [if_pos rfl] at H
    simp only [Option.some.injEq, Prod.mk.injEq] at H
    obtain ⟨rfl, rfl, rfl, rfl⟩ := H
    have hcz12_0 := bc0_ BK128.out
    have hcz12_1 := bc1_ BK128.out
    have hcz12_2 := bc2_ BK128.out
    have hcz12_3 := bc3_ BK128.out
    have hfz12_0 := blk_frozen BK128.out 0
    have hfz12_1 := blk_frozen BK128.out 1
    have hfz12_2 := blk_frozen BK128.out 2
    have hfz12_3 := blk_frozen BK128.out 3
    go_wp2
    refine bodyPost_ret (results_cell_row rfl _ _ gb128 30 #[.slice none 0 0, .slice none 0 0, .int .i64 0, .int .i64 3] (0, 0) _ rfl (by (with_reducible repeat (first | refine blk_drewN ?_ _ | refine blk_drew ?_ | refine blk_alloc ?_ _)); refine blk_put (cs := #[.slice none 0 0, .slice none 0 0, .int .i64 0, .int .i64 0]) ?_ 3 _ rfl; (with_reducible repeat (first | refine blk_drewN ?_ _ | refine blk_drew ?_ | refine blk_alloc ?_ _)); refine blk_put (cs := #[.slice none 0 0, .slice none 0 0, .int .i64 0, .int .i64 0]) ?_ 2 _ rfl; (with_reducible repeat (first | refine blk_drewN ?_ _ | refine blk_drew ?_ | refine blk_alloc ?_ _)); refine blk_put (cs := #[.slice none 0 0, .slice none 0 0, .int .i64 0, .int .i64 0]) ?_ 1 _ rfl; (with_reducible repeat (first | refine blk_drewN ?_ _ | refine blk_drew ?_ | refine blk_alloc ?_ _)); refine blk_put (cs := #[.slice none 0 0, .slice none 0 0, .int .i64 0, .int .i64 0]) ?_ 0 _ rfl; (with_reducible repeat (first | refine blk_drewN ?_ _ | refine blk_drew ?_ | refine blk_alloc ?_ _)); exact BK128.out) Try.underlying30 rfl (by kernel_rfl)) rfl ?_
    exact ⟨_, _, zq75_, zq72_, zq72_, zq83_⟩
   ·replace c11 := Bool.eq_false_iff.mpr c11
    subst c11
    rw [if_neg (show ¬ (false = true) by decide)] at H
    have H' := Aside0.mk H
    clear H
    go_wp2_with (first | ((with_reducible refine gate_dst (N := 5) rfl ?_); refine bxe_ (N := 5) (cs := #[.int .i64 0, .int .i64 0, .int .i64 0, .int .i64 0]) (t := 86) ?_; intro gb131 hg w13 hbox hb; have n_ := A7_ (blk_below (g := gb128) (o := .cells #[.slice none 0 0, .slice none 0 0, .int .i64 0, .int .i64 0] 30 (0, 0)) zq36_ hb) (below_step zq83_ hb) (hbox) ((by rw [hg]; exact (below_size zq83_) : w.heap.size ≤ gb131)) ((by rw [hg]; exact (below_size zq83_) : w.heap.size ≤ gb131)) ((zqe8_ : gb128 ≠ gb131)) ((zqd9_ : gb131 ≠ gb128)); clear BK128 HB; obtain ⟨BK128, HB, BK131, GW131, GE131, NB128_131, NB131_128⟩ := n_; clear hb hbox hg) | ((with_reducible refine gate_dst (N := 6) rfl ?_); refine bxe_ (N := 6) (cs := #[.slice none 0 0, .slice none 0 0, .int .i64 0, .int .i64 0]) (t := 30) ?_; intro gb132 hg w14 hbox hb; have n0_ := Aside0.mk (blk_below (g := gb128) (o := .cells #[.slice none 0 0, .slice none 0 0, .int .i64 0, .int .i64 0] 30 (0, 0)) zq36_ hb); have n1_ := Aside0.mk (blk_below (g := gb131) (o := .cells #[.int .i64 0, .int .i64 0, .int .i64 0, .int .i64 0] 86 (0, 0)) zq37_ hb); have n2_ := Aside0.mk (below_step zq82_ hb); have n3_ := Aside0.mk (hbox); have n4_ := Aside0.mk ((by rw [hg]; exact (below_size zq82_) : w.heap.size ≤ gb132)); have n5_ := Aside0.mk ((by rw [hg]; exact (below_size zq82_) : w.heap.size ≤ gb132)); have n6_ := Aside0.mk ((zqe8_ : gb128 ≠ gb132)); have n7_ := Aside0.mk ((zqd9_ : gb132 ≠ gb128)); have n8_ := Aside0.mk ((by rw [hg]; exact Nat.ne_of_lt (blk_lt (g := gb131) (o := .cells #[.int .i64 0, .int .i64 0, .int .i64 0, .int .i64 0] 86 (0, 0)) zq37_) : gb131 ≠ gb132)); have n9_ := Aside0.mk ((by rw [hg]; exact Nat.ne_of_gt (blk_lt (g := gb131) (o := .cells #[.int .i64 0, .int .i64 0, .int .i64 0, .int .i64 0] 86 (0, 0)) zq37_) : gb132 ≠ gb131)); clear BK128; clear BK131; clear HB; have BK128 := n0_; have BK131 := n1_; have HB := n2_; have BK132 := n3_; have GW132 := n4_; have GE132 := n5_; have NB128_132 := n6_; have NB132_128 := n7_; have NB131_132 := n8_; have NB132_131 := n9_; clear n0_ n1_ n2_ n3_ n4_ n5_ n6_ n7_ n8_ n9_; clear hb hbox hg; have hnb15 := NB132_128.out; have hnc15 := NB128_132.out; have hnb16 := NB132_131.out; have hnc16 := NB131_132.out; have hcz17_0 := bc0_ BK132.out; have hcz17_1 := bc1_ BK132.out; have hcz17_2 := bc2_ BK132.out; have hcz17_3 := bc3_ BK132.out; have hfz17_0 := blk_frozen BK132.out 0; have hfz17_1 := blk_frozen BK132.out 1; have hfz17_2 := blk_frozen BK132.out 2; have hfz17_3 := blk_frozen BK132.out 3))
    go_loopg [7] kj2 (fun kq v7 w' => ∃ (x7_2 : Int) (x129002_2 : Int) (x129003_2 : Int) (x132000_2 : Int) (x132001_2 : Int) (x132002_2 : Int) (x132003_2 : Int) (x133000_2 : List (S48)) (x133001_2 : List (S36)) (u133000 : Value) (u133001 : Value), v7 = .int .i64 x7_2 ∧ Aside0 (impl_ExecRun.l0 kq l0 l1 x7_2 x132000_2 x132001_2 x132002_2 x132003_2 x133000_2 x133001_2 0 0 = some (r1, r2, r3, r4)) ∧ Aside0 (kq ≤ kj2) ∧ Aside0 (Kd.R k48 48 w' w.heap.size (fun _ => True) u133000 x133000_2) ∧ Aside0 (Kd.R k36 36 w' w.heap.size (fun _ => True) u133001 x133001_2) ∧ Aside0 (w'.heap[gb128]? = some (.cells #[(.slice none 0 0), (.slice none 0 0), .int .i64 x129002_2, .int .i64 x129003_2] 30 (0, 0))) ∧ Aside0 (w'.heap[gb131]? = some (.cells #[.int .i64 x132000_2, .int .i64 x132001_2, .int .i64 x132002_2, .int .i64 x132003_2] 86 (0, 0))) ∧ Aside0 (w'.heap[gb132]? = some (.cells #[u133000, u133001, .int .i64 0, .int .i64 0] 30 (0, 0))) ∧ Aside0 (Below w.heap.size w w'))
    case atStart => exact ⟨(0), (0), (0), (0), (0), (0), (0), (([] : List (S48))), (([] : List (S36))), (.slice none 0 0), (.slice none 0 0), zq76_, H', ⟨Nat.le_refl _⟩, ⟨zq72_⟩, ⟨zq72_⟩, ⟨by (with_reducible repeat (first | refine blk_drewN ?_ _ | refine blk_drew ?_ | refine blk_alloc ?_ _)); refine blk_far ?_ NB128_132.out _; (with_reducible repeat (first | refine blk_drewN ?_ _ | refine blk_drew ?_ | refine blk_alloc ?_ _)); refine blk_far ?_ NB128_132.out _; (with_reducible repeat (first | refine blk_drewN ?_ _ | refine blk_drew ?_ | refine blk_alloc ?_ _)); refine blk_far ?_ NB128_132.out _; (with_reducible repeat (first | refine blk_drewN ?_ _ | refine blk_drew ?_ | refine blk_alloc ?_ _)); refine blk_far ?_ NB128_132.out _; (with_reducible repeat (first | refine blk_drewN ?_ _ | refine blk_drew ?_ | refine blk_alloc ?_ _)); exact BK128.out⟩, ⟨by (with_reducible repeat (first | refine blk_drewN ?_ _ | refine blk_drew ?_ | refine blk_alloc ?_ _)); refine blk_far ?_ NB131_132.out _; (with_reducible repeat (first | refine blk_drewN ?_ _ | refine blk_drew ?_ | refine blk_alloc ?_ _)); refine blk_far ?_ NB131_132.out _; (with_reducible repeat (first | refine blk_drewN ?_ _ | refine blk_drew ?_ | refine blk_alloc ?_ _)); refine blk_far ?_ NB131_132.out _; (with_reducible repeat (first | refine blk_drewN ?_ _ | refine blk_drew ?_ | refine blk_alloc ?_ _)); refine blk_far ?_ NB131_132.out _; (with_reducible repeat (first | refine blk_drewN ?_ _ | refine blk_drew ?_ | refine blk_alloc ?_ _)); exact BK131.out⟩, ⟨by (with_reducible repeat (first | refine blk_drewN ?_ _ | refine blk_drew ?_ | refine blk_alloc ?_ _)); refine blk_put (cs := #[.slice none 0 0, .slice none 0 0, .int .i64 0, .int .i64 0]) ?_ 3 _ rfl; (with_reducible repeat (first | refine blk_drewN ?_ _ | refine blk_drew ?_ | refine blk_alloc ?_ _)); refine blk_put (cs := #[.slice none 0 0, .slice none 0 0, .int .i64 0, .int .i64 0]) ?_ 2 _ rfl; (with_reducible repeat (first | refine blk_drewN ?_ _ | refine blk_drew ?_ | refine blk_alloc ?_ _)); refine blk_put (cs := #[.slice none 0 0, .slice none 0 0, .int .i64 0, .int .i64 0]) ?_ 1 _ rfl; (with_reducible repeat (first | refine blk_drewN ?_ _ | refine blk_drew ?_ | refine blk_alloc ?_ _)); refine blk_put (cs := #[.slice none 0 0, .slice none 0 0, .int .i64 0, .int .i64 0]) ?_ 0 _ rfl; (with_reducible repeat (first | refine blk_drewN ?_ _ | refine blk_drew ?_ | refine blk_alloc ?_ _)); exact BK132.out⟩, ⟨zq81_⟩⟩
    case round =>
     clear H'
     try clear c1
     try clear c2
     try clear p2
     try clear c6
     try clear c11
     try clear c13
     try clear c15
     try clear c16
     try clear hcz12_0 hcz12_1 hcz12_2 hcz12_3 hfz12_0 hfz12_1 hfz12_2 hfz12_3
     try clear hcz17_0 hcz17_1 hcz17_2 hcz17_3 hfz17_0 hfz17_1 hfz17_2 hfz17_3
     try clear p2
     obtain ⟨x7_2, x129002_2, x129003_2, x132000_2, x132001_2, x132002_2, x132003_2, x133000_2, x133001_2, u133000, u133001, rfl, HA, HK2, HO_133000, HO_133001, BK128, BK131, BK132, HB⟩ := hrel
     cases gk with
     | zero => exact absurd HA.out (by simp [impl_ExecRun.l0])
     | succ k2 =>
      have H := HA.out
      clear HA
      simp only [impl_ExecRun.l0] at H
      by_cases c18 : x7_2 < (l1.length : Int)
      ·rw [if_pos c18] at H
       have c18b0 : decide (x7_2 < (l1.length : Int)) = true := decide_eq_true c18
       clear c18
       by_cases c19 : 0 ≤ x7_2
       ·rw [if_pos c19] at H
        have c19b0 : decide (0 ≤ x7_2) = true := decide_eq_true c19
        clear c19
        have HC20 := Aside0.mk H
        clear H
        have p139 : 0 ≤ (x7_2 : Int) := of_decide_eq_true zq71_
        have q139 : x7_2 < (l1.length : Int) := of_decide_eq_true zq71_
        obtain ⟨ad139, e139, hx139_0, hx139_1, hx139_2, hx139_3⟩ := at_T34 HR1.out x7_2 p139 q139
        cases e139
        replace hx139_0 := (HB.out.cell (World.block_lt_of_cell? w _ hx139_0)).trans hx139_0
        replace hx139_1 := (HB.out.cell (World.block_lt_of_cell? w _ hx139_1)).trans hx139_1
        replace hx139_2 := (HB.out.cell (World.block_lt_of_cell? w _ hx139_2)).trans hx139_2
        replace hx139_3 := (HB.out.cell (World.block_lt_of_cell? w _ hx139_3)).trans hx139_3
        replace p139 := eq_true p139
        replace q139 := eq_true q139
        go_upto_block 2 with (first | ((with_reducible refine gate_dst (N := 8) rfl ?_); refine bxe_ (N := 8) (cs := #[.int .i64 0, .int .i64 0, .int .i64 0, .int .i64 0]) (t := 34) ?_; intro gb140 hg w21 hbox hb; have n0_ := Aside0.mk (Kd.R_below zq24_ hb); have n1_ := Aside0.mk (Kd.R_below zq25_ hb); have n2_ := Aside0.mk (blk_below (g := gb128) (o := .cells #[.slice none 0 0, .slice none 0 0, .int .i64 x129002_2, .int .i64 x129003_2] 30 (0, 0)) zq36_ hb); have n3_ := Aside0.mk (blk_below (g := gb131) (o := .cells #[.int .i64 x132000_2, .int .i64 x132001_2, .int .i64 x132002_2, .int .i64 x132003_2] 86 (0, 0)) zq37_ hb); have n4_ := Aside0.mk (blk_below (g := gb132) (o := .cells #[u133000, u133001, .int .i64 0, .int .i64 0] 30 (0, 0)) zq38_ hb); have n5_ := Aside0.mk (below_step zq81_ hb); have n6_ := Aside0.mk (hbox); have n7_ := Aside0.mk ((by rw [hg]; exact (below_size zq81_) : w.heap.size ≤ gb140)); have n8_ := Aside0.mk ((by rw [hg]; exact (below_size zq81_) : w.heap.size ≤ gb140)); have n9_ := Aside0.mk ((by rw [hg]; exact Nat.ne_of_lt (blk_lt (g := gb128) (o := .cells #[.slice none 0 0, .slice none 0 0, .int .i64 x129002_2, .int .i64 x129003_2] 30 (0, 0)) zq36_) : gb128 ≠ gb140)); have n10_ := Aside0.mk ((by rw [hg]; exact Nat.ne_of_gt (blk_lt (g := gb128) (o := .cells #[.slice none 0 0, .slice none 0 0, .int .i64 x129002_2, .int .i64 x129003_2] 30 (0, 0)) zq36_) : gb140 ≠ gb128)); have n11_ := Aside0.mk ((by rw [hg]; exact Nat.ne_of_lt (blk_lt (g := gb131) (o := .cells #[.int .i64 x132000_2, .int .i64 x132001_2, .int .i64 x132002_2, .int .i64 x132003_2] 86 (0, 0)) zq37_) : gb131 ≠ gb140)); have n12_ := Aside0.mk ((by rw [hg]; exact Nat.ne_of_gt (blk_lt (g := gb131) (o := .cells #[.int .i64 x132000_2, .int .i64 x132001_2, .int .i64 x132002_2, .int .i64 x132003_2] 86 (0, 0)) zq37_) : gb140 ≠ gb131)); have n13_ := Aside0.mk ((by rw [hg]; exact Nat.ne_of_lt (blk_lt (g := gb132) (o := .cells #[u133000, u133001, .int .i64 0, .int .i64 0] 30 (0, 0)) zq38_) : gb132 ≠ gb140)); have n14_ := Aside0.mk ((by rw [hg]; exact Nat.ne_of_gt (blk_lt (g := gb132) (o := .cells #[u133000, u133001, .int .i64 0, .int .i64 0] 30 (0, 0)) zq38_) : gb140 ≠ gb132)); clear HO_133000; clear HO_133001; clear BK128; clear BK131; clear BK132; clear HB; have HO_133000 := n0_; have HO_133001 := n1_; have BK128 := n2_; have BK131 := n3_; have BK132 := n4_; have HB := n5_; have BK140 := n6_; have GW140 := n7_; have GE140 := n8_; have NB128_140 := n9_; have NB140_128 := n10_; have NB131_140 := n11_; have NB140_131 := n12_; have NB132_140 := n13_; have NB140_132 := n14_; clear n0_ n1_ n2_ n3_ n4_ n5_ n6_ n7_ n8_ n9_ n10_ n11_ n12_ n13_ n14_; clear hb hbox hg; have hnb22 := NB140_128.out; have hnc22 := NB128_140.out; have hnb23 := NB140_131.out; have hnc23 := NB131_140.out; have hnb24 := NB140_132.out; have hnc24 := NB132_140.out; have hcz25_0 := bc0_ BK140.out; have hcz25_1 := bc1_ BK140.out; have hcz25_2 := bc2_ BK140.out; have hcz25_3 := bc3_ BK140.out; have hfz25_0 := blk_frozen BK140.out 0; have hfz25_1 := blk_frozen BK140.out 1; have hfz25_2 := blk_frozen BK140.out 2; have hfz25_3 := blk_frozen BK140.out 3))
        (try simp only [Act.put, List.setIfInBounds_toArray, List.set_cons_zero, List.set_cons_succ])
        go_cut [7] (fun v7 wc => ∃ (kq : Nat) (x7_19 : Int) (x129002_19 : Int) (x129003_19 : Int) (x132000_19 : Int) (x132001_19 : Int) (x132002_19 : Int) (x132003_19 : Int) (x133000_19 : List (S48)) (x133001_19 : List (S36)) (u133000 : Value) (u133001 : Value), v7 = .int .i64 x7_19 ∧ Aside0 (impl_ExecRun.j2 kq l0 l1 x7_19 x132000_19 x132001_19 x132002_19 x132003_19 x133000_19 x133001_19 0 0 = some (r1, r2, r3, r4)) ∧ Aside0 (kq ≤ k2) ∧ Aside0 (Kd.R k48 48 wc w.heap.size (fun _ => True) u133000 x133000_19) ∧ Aside0 (Kd.R k36 36 wc w.heap.size (fun _ => True) u133001 x133001_19) ∧ Aside0 (wc.heap[gb128]? = some (.cells #[(.slice none 0 0), (.slice none 0 0), .int .i64 x129002_19, .int .i64 x129003_19] 30 (0, 0))) ∧ Aside0 (wc.heap[gb131]? = some (.cells #[.int .i64 x132000_19, .int .i64 x132001_19, .int .i64 x132002_19, .int .i64 x132003_19] 86 (0, 0))) ∧ Aside0 (wc.heap[gb132]? = some (.cells #[u133000, u133001, .int .i64 0, .int .i64 0] 30 (0, 0))) ∧ Aside0 (wc.heap[gb140]? = some (.cells #[.int .i64 ((rd_T34 l1 x7_2).f0), .int .i64 ((rd_T34 l1 x7_2).f1), .int .i64 ((rd_T34 l1 x7_2).f2), .int .i64 ((rd_T34 l1 x7_2).f3)] 34 (0, 0))) ∧ Aside0 (Below w.heap.size w wc))
        case first =>
         have H := HC20.out
         clear HC20
         by_cases c26 : ((rd_T34 l1 x7_2).f0) = 1
         ·rw [if_pos c26] at H
          have c26b0 : (((rd_T34 l1 x7_2).f0) == 1) = true := beq_iff_eq.mpr c26
          have c26b1 : (((rd_T34 l1 x7_2).f0) != 1) = false := bne_eq_false_iff_eq.mpr c26
          clear c26
          (first | rw [c26b0] | (simp only [i64_w, i32_w]; rw [c26b0]) | skip)
          replace H := Option.bind_eq_some_iff.mp H
          obtain ⟨t141, A270, H⟩ := H
          (try dsimp only at H)
          have A27 := Aside0.mk A270
          clear A270
          by_cases c28 : t141 ≥ 0
          ·as_aux_lemma =>
            rw [if_pos c28] at H
            have c28b0 : decide (0 ≤ t141) = true := decide_eq_true c28
            clear c28
            by_cases c29 : 0 ≤ t141
            ·rw [if_pos c29] at H
             have c29b0 : decide (0 ≤ t141) = true := decide_eq_true c29
             clear c29
             by_cases c30 : t141 < (x133001_2.length : Int)
             ·rw [if_pos c30] at H
              have c30b0 : decide (t141 < (x133001_2.length : Int)) = true := decide_eq_true c30
              clear c30
              by_cases c31 : 0 ≤ ((rd_T34 l1 x7_2).f1)
              ·rw [if_pos c31] at H
               have c31b0 : decide (0 ≤ ((rd_T34 l1 x7_2).f1)) = true := decide_eq_true c31
               clear c31
               by_cases c32 : ((rd_T34 l1 x7_2).f1) < 4
               ·rw [if_pos c32] at H
                have c32b0 : decide (((rd_T34 l1 x7_2).f1) < 4) = true := decide_eq_true c32
                clear c32
                have H' := Aside0.mk H
                clear H
                have hnb33 := NB132_128.out
                have hnc33 := NB128_132.out
                have hnb34 := NB132_131.out
                have hnc34 := NB131_132.out
                have hnb35 := NB132_140.out
                have hnc35 := NB140_132.out
                have hcz36_0 : w21.cell? ⟨gb132, 0, none⟩ = some (u133000) := (blk_cell BK132.out 0).trans rfl
                have hcz36_1 : w21.cell? ⟨gb132, 1, none⟩ = some (u133001) := (blk_cell BK132.out 1).trans rfl
                have hcz36_2 := bc2_ BK132.out
                have hcz36_3 := bc3_ BK132.out
                have hfz36_0 := blk_frozen BK132.out 0
                have hfz36_1 := blk_frozen BK132.out 1
                have hfz36_2 := blk_frozen BK132.out 2
                have hfz36_3 := blk_frozen BK132.out 3
                have hnb37 := NB140_128.out
                have hnc37 := NB128_140.out
                have hnb38 := NB140_131.out
                have hnc38 := NB131_140.out
                have hcz39_0 := bc0_ BK140.out
                have hcz39_1 := bc1_ BK140.out
                have hcz39_2 := bc2_ BK140.out
                have hcz39_3 := bc3_ BK140.out
                have hfz39_0 := blk_frozen BK140.out 0
                have hfz39_1 := blk_frozen BK140.out 1
                have hfz39_2 := blk_frozen BK140.out 2
                have hfz39_3 := blk_frozen BK140.out 3
                obtain ⟨Ao40, co40, eo40⟩ := Kd.R_slice HO_133000.out
                subst eo40
                obtain ⟨Ao41, co41, eo41⟩ := Kd.R_slice HO_133001.out
                subst eo41
                try go_wp2_with (first | ((with_reducible refine gate_callee (f := 61) rfl ?_); refine goesL_ (some 40) rfl rfl Try.func61 (by kernel_rfl) rfl #[.agg #[.slice Ao40 x133000_2.length co40, .slice Ao41 x133001_2.length co41, .int .i64 0, .int .i64 0], .int .i64 ((rd_T34 l1 x7_2).f2)] rfl zq1_ ?_; (with_reducible refine (impl_putAt.calls k2 _ _ x133000_2 _ _ x133001_2 0 0 ((rd_T34 l1 x7_2).f2) t141 _ ?side1 ?side2 ?side3 ?side4 A27.out).mono ?_); (case side1 => refine (Kd.R_reads' (e := 48) (base := w.heap.size) (ok := fun k_ => True) (n := x133000_2.length) (c := co40) ?_).2.2; exact zq2_); (case side2 => exact zq67_); (case side3 => refine (Kd.R_reads' (e := 36) (base := w.heap.size) (ok := fun k_ => True) (n := x133001_2.length) (c := co41) ?_).2.2; exact zq3_); (case side4 => exact zq68_); rintro e w42 ⟨rfl, hb⟩; refine ⟨_, rfl, ?_⟩; have n_ := A7_ (Kd.R_below zq2_ hb) (Kd.R_below zq3_ hb) (blk_below (g := gb128) (o := .cells #[.slice none 0 0, .slice none 0 0, .int .i64 x129002_2, .int .i64 x129003_2] 30 (0, 0)) zq57_ hb) (blk_below (g := gb131) (o := .cells #[.int .i64 x132000_2, .int .i64 x132001_2, .int .i64 x132002_2, .int .i64 x132003_2] 86 (0, 0)) zq59_ hb) (blk_below (g := gb132) (o := .cells #[.slice Ao40 x133000_2.length co40, .slice Ao41 x133001_2.length co41, .int .i64 0, .int .i64 0] 30 (0, 0)) zq5b_ hb) (blk_below (g := gb140) (o := .cells #[.int .i64 ((rd_T34 l1 x7_2).f0), .int .i64 ((rd_T34 l1 x7_2).f1), .int .i64 ((rd_T34 l1 x7_2).f2), .int .i64 ((rd_T34 l1 x7_2).f3)] 34 (0, 0)) zq64_ hb) (below_step zq80_ hb); clear HO_133000 HO_133001 BK128 BK131 BK132 BK140 HB; obtain ⟨HO_133000, HO_133001, BK128, BK131, BK132, BK140, HB⟩ := n_; (try clear hb)))
                have n_ := A7_ (Kd.R_drew HO_133000.out) (Kd.R_drew HO_133001.out) (blk_drew BK128.out) (blk_drew BK131.out) (blk_drew BK132.out) (blk_drew BK140.out) (below_drew1 HB.out)
                clear HO_133000 HO_133001 BK128 BK131 BK132 BK140 HB
                obtain ⟨HO_133000, HO_133001, BK128, BK131, BK132, BK140, HB⟩ := n_
                have p142 : 0 ≤ (t141 : Int) := of_decide_eq_true zq71_
                have q142 : t141 < (x133001_2.length : Int) := of_decide_eq_true zq71_
                obtain ⟨ad142, e142, hx142_0, hx142_1⟩ := at_T36 (Kd.R_reads' HO_133001.out).2.2 t141 p142 q142
                cases e142
                replace p142 := eq_true p142
                replace q142 := eq_true q142
                have p44_ : 0 ≤ ((rd_T34 l1 x7_2).f1) := of_decide_eq_true zq71_
                have q44_ : ((rd_T34 l1 x7_2).f1) < 4 := of_decide_eq_true zq71_
                have pt44_ := eq_true p44_
                have qt44_ := eq_true q44_
                refine start_ (n := 10) (S := fun w' => w'.cell? ⟨gb140, 0, none⟩ = some (.int .i64 ((rd_T34 l1 x7_2).f0)) ∧ w'.cell? ⟨gb140, 1, none⟩ = some (.int .i64 ((rd_T34 l1 x7_2).f1)) ∧ w'.cell? ⟨gb140, 2, none⟩ = some (.int .i64 ((rd_T34 l1 x7_2).f2)) ∧ w'.cell? ⟨gb140, 3, none⟩ = some (.int .i64 ((rd_T34 l1 x7_2).f3)) ∧ w'.cell? ⟨gb132, 0, none⟩ = some (.slice Ao40 x133000_2.length co40) ∧ w'.cell? ⟨gb132, 1, none⟩ = some (.slice (some ad142) x133001_2.length co41) ∧ w'.cell? ⟨gb132, 2, none⟩ = some (.int .i64 0) ∧ w'.cell? ⟨gb132, 3, none⟩ = some (.int .i64 0) ∧ w'.cell? ⟨gb131, 0, none⟩ = some (.int .i64 x132000_2) ∧ w'.cell? ⟨gb131, 1, none⟩ = some (.int .i64 x132001_2) ∧ w'.cell? ⟨gb131, 2, none⟩ = some (.int .i64 x132002_2) ∧ w'.cell? ⟨gb131, 3, none⟩ = some (.int .i64 x132003_2) ∧ w'.cell? (ad142.add ((t141).toNat * 2)) = some (.int .i64 ((rd_T36 x133001_2 t141).f0)) ∧ w'.cell? ⟨(ad142.add ((t141).toNat * 2)).block, (ad142.add ((t141).toNat * 2)).off + 1, none⟩ = some (.int .i64 ((rd_T36 x133001_2 t141).f1))) (ds := [9]) #[false, false, false, false, false, false, false, false, false, false] (by kernel_rfl) rfl rfl ⟨(blk_cell BK140.out 0).trans rfl, (blk_cell BK140.out 1).trans rfl, (blk_cell BK140.out 2).trans rfl, (blk_cell BK140.out 3).trans rfl, (blk_cell BK132.out 0).trans rfl, (blk_cell BK132.out 1).trans rfl, (blk_cell BK132.out 2).trans rfl, (blk_cell BK132.out 3).trans rfl, (blk_cell BK131.out 0).trans rfl, (blk_cell BK131.out 1).trans rfl, (blk_cell BK131.out 2).trans rfl, (blk_cell BK131.out 3).trans rfl, hx142_0, hx142_1⟩ (fun hHeld => ?_); refine with_tabW impl_ExecRun.tab13 impl_ExecRun.bits13 (fun HT_ HW_ => ?_)
                generalize w42.drew = w43 at HO_133000 HO_133001 BK128 BK131 BK132 BK140 HB hx142_0 hx142_1 hHeld ⊢
                refine pv_ (i := 0) (N := some 43) rfl rfl ?_
                refine pv_ (i := 2) (N := some 45) rfl rfl ?_
                refine pv_ (i := 4) (N := some 47) rfl rfl ?_
                refine tv_ (i := 1) (N := some 44) rfl rfl ?_
                refine tv_ (i := 3) (N := some 46) rfl rfl ?_
                refine pv_ (i := 5) (N := some 48) rfl rfl ?_
                refine pv_ (i := 6) (N := some 49) rfl rfl ?_
                refine tv_ (i := 7) (N := some 50) rfl rfl ?_
                refine pv_ (i := 8) (N := some 51) rfl rfl ?_
                refine last_ (i := 9) (N := none) #[true, true, true, true, true, true, true, true, true, true] rfl rfl (one_of HT_.out (by kernel_rfl)) (by decide) (fun K hK => ?_)
                have h44_ := ixcellI4 ((rd_T34 l1 x7_2).f1) p44_ q44_ BK131.out
                have hf44 := blk_frozen BK131.out ((rd_T34 l1 x7_2).f1).toNat
                have hn44_0 := NB128_131.out
                have hn44_2 := NB132_131.out
                have hn44_3 := NB140_131.out
                have hm44_0 := NB131_128.out
                have hm44_2 := NB131_132.out
                have hm44_3 := NB131_140.out
                refine skip_ (w1 := ?_) (by rfl) rfl ?_ ?_
                rotate_left
                ·go_simp
                 rfl
                refine hK.out _ _ ?_
                clear hK K
                refine done_ (done_of HT_.out (by kernel_rfl)) ?_
                have n0_ : Aside0 (Kd.R k48 48 (w43.setCell ⟨gb131, ((rd_T34 l1 x7_2).f1).toNat, none⟩ (.int .i64 ((rd_T36 x133001_2 t141).f1))) w.heap.size (fun _ => True) (.slice Ao40 x133000_2.length co40) x133000_2) := ⟨by (with_reducible repeat (first | apply Kd.R_alloc | apply Kd.R_drewN | apply Kd.R_drew)); exact Kd.R_mono (Kd.R_far (p := ⟨gb131, ((rd_T34 l1 x7_2).f1).toNat, none⟩) (Kd.R_types HO_133000.out BK131.out (by decide)) (fun _ hk => hk.2) (.int .i64 ((rd_T36 x133001_2 t141).f1))) (fun _ hk => trivial)⟩
                have n1_ : Aside0 (Kd.R k36 36 (w43.setCell ⟨gb131, ((rd_T34 l1 x7_2).f1).toNat, none⟩ (.int .i64 ((rd_T36 x133001_2 t141).f1))) w.heap.size (fun _ => True) (.slice (some ad142) x133001_2.length co41) x133001_2) := ⟨by (with_reducible repeat (first | apply Kd.R_alloc | apply Kd.R_drewN | apply Kd.R_drew)); exact Kd.R_mono (Kd.R_far (p := ⟨gb131, ((rd_T34 l1 x7_2).f1).toNat, none⟩) (Kd.R_types HO_133001.out BK131.out (by decide)) (fun _ hk => hk.2) (.int .i64 ((rd_T36 x133001_2 t141).f1))) (fun _ hk => trivial)⟩
                have n2_ : Aside0 ((w43.setCell ⟨gb131, ((rd_T34 l1 x7_2).f1).toNat, none⟩ (.int .i64 ((rd_T36 x133001_2 t141).f1))).heap[gb128]? = some (.cells #[.slice none 0 0, .slice none 0 0, .int .i64 x129002_2, .int .i64 x129003_2] 30 (0, 0))) := ⟨zq55_⟩
                have n3_ : Aside0 ((w43.setCell ⟨gb131, ((rd_T34 l1 x7_2).f1).toNat, none⟩ (.int .i64 ((rd_T36 x133001_2 t141).f1))).heap[gb131]? = some (.cells #[.int .i64 (ixI ((rd_T34 l1 x7_2).f1) 0 ((rd_T36 x133001_2 t141).f1) x132000_2), .int .i64 (ixI ((rd_T34 l1 x7_2).f1) 1 ((rd_T36 x133001_2 t141).f1) x132001_2), .int .i64 (ixI ((rd_T34 l1 x7_2).f1) 2 ((rd_T36 x133001_2 t141).f1) x132002_2), .int .i64 (ixI ((rd_T34 l1 x7_2).f1) 3 ((rd_T36 x133001_2 t141).f1) x132003_2)] 86 (0, 0))) := ⟨by (with_reducible repeat (first | refine blk_drewN ?_ _ | refine blk_drew ?_ | refine blk_alloc ?_ _)); refine blk_put (cs := #[.int .i64 x132000_2, .int .i64 x132001_2, .int .i64 x132002_2, .int .i64 x132003_2]) ?_ ((rd_T34 l1 x7_2).f1).toNat _ (ixputI4 ((rd_T34 l1 x7_2).f1) ((rd_T36 x133001_2 t141).f1) x132000_2 x132001_2 x132002_2 x132003_2 p44_ q44_); (with_reducible repeat (first | refine blk_drewN ?_ _ | refine blk_drew ?_ | refine blk_alloc ?_ _)); exact BK131.out⟩
                have n4_ : Aside0 ((w43.setCell ⟨gb131, ((rd_T34 l1 x7_2).f1).toNat, none⟩ (.int .i64 ((rd_T36 x133001_2 t141).f1))).heap[gb132]? = some (.cells #[.slice Ao40 x133000_2.length co40, .slice (some ad142) x133001_2.length co41, .int .i64 0, .int .i64 0] 30 (0, 0))) := ⟨zq5a_⟩
                have n5_ : Aside0 ((w43.setCell ⟨gb131, ((rd_T34 l1 x7_2).f1).toNat, none⟩ (.int .i64 ((rd_T36 x133001_2 t141).f1))).heap[gb140]? = some (.cells #[.int .i64 ((rd_T34 l1 x7_2).f0), .int .i64 ((rd_T34 l1 x7_2).f1), .int .i64 ((rd_T34 l1 x7_2).f2), .int .i64 ((rd_T34 l1 x7_2).f3)] 34 (0, 0))) := ⟨zq5c_⟩
                have n6_ : Aside0 (Below w.heap.size w (w43.setCell ⟨gb131, ((rd_T34 l1 x7_2).f1).toNat, none⟩ (.int .i64 ((rd_T36 x133001_2 t141).f1)))) := ⟨zq80_⟩
                (try clear HO_133000)
                (try clear HO_133001)
                (try clear BK128)
                (try clear BK131)
                (try clear BK132)
                (try clear BK140)
                (try clear HB)
                generalize (w43.setCell ⟨gb131, ((rd_T34 l1 x7_2).f1).toNat, none⟩ (.int .i64 ((rd_T36 x133001_2 t141).f1))) = w45 at n0_ n1_ n2_ n3_ n4_ n5_ n6_ ⊢
                have HO_133000 := n0_
                have HO_133001 := n1_
                have BK128 := n2_
                have BK131 := n3_
                have BK132 := n4_
                have BK140 := n5_
                have HB := n6_
                clear n0_ n1_ n2_ n3_ n4_ n5_ n6_
                try go_wp2
                go_meet
                case rel => exact ⟨_, (x7_2), (x129002_2), (x129003_2), ((ixI ((rd_T34 l1 x7_2).f1) 0 ((rd_T36 x133001_2 t141).f1) x132000_2)), ((ixI ((rd_T34 l1 x7_2).f1) 1 ((rd_T36 x133001_2 t141).f1) x132001_2)), ((ixI ((rd_T34 l1 x7_2).f1) 2 ((rd_T36 x133001_2 t141).f1) x132002_2)), ((ixI ((rd_T34 l1 x7_2).f1) 3 ((rd_T36 x133001_2 t141).f1) x132003_2)), (x133000_2), (x133001_2), (.slice Ao40 x133000_2.length co40), (.slice (some ad142) x133001_2.length co41), zq76_, H', ⟨zq77_⟩, ⟨zq24_⟩, ⟨zq25_⟩, ⟨zq36_⟩, ⟨zq37_⟩, ⟨zq38_⟩, ⟨zq39_⟩, ⟨zq80_⟩⟩
               ·rw [if_neg c32] at H
                exact absurd H (by simp)
              ·rw [if_neg c31] at H
               exact absurd H (by simp)
             ·rw [if_neg c30] at H
              exact absurd H (by simp)
            ·rw [if_neg c29] at H
             exact absurd H (by simp)
          ·rw [if_neg c28] at H
           have c28b0 : decide (0 ≤ t141) = false := decide_eq_false c28
           clear c28
           replace H := Option.bind_eq_some_iff.mp H
           obtain ⟨t143, A460, H⟩ := H
           (try dsimp only at H)
           have A46 := Aside0.mk A460
           clear A460
           by_cases c47 : t143 < 0
           ·rw [if_pos c47] at H
            have c47b0 : decide (t143 < 0) = true := decide_eq_true c47
            clear c47
            by_cases c48 : 0 ≤ ((rd_T34 l1 x7_2).f2)
            ·rw [if_pos c48] at H
             have c48b0 : decide (0 ≤ ((rd_T34 l1 x7_2).f2)) = true := decide_eq_true c48
             clear c48
             by_cases c49 : ((rd_T34 l1 x7_2).f2) < (l0.length : Int)
             ·rw [if_pos c49] at H
              have c49b0 : decide (((rd_T34 l1 x7_2).f2) < (l0.length : Int)) = true := decide_eq_true c49
              clear c49
              by_cases c50 : x133000_2.length < 8796093022208
              ·rw [if_pos c50] at H
               have LMc50 := Aside0.mk c50
               clear c50
               obtain ⟨y145, hy145⟩ : ∃ y_ : List (S48), y_ = (x133000_2 ++ [(⟨(rd_T34 l1 x7_2).f2, (rd_T46 l0 ((rd_T34 l1 x7_2).f2)).f0⟩ : S48)]) := ⟨_, rfl⟩
               replace H : (if 0 ≤ ((rd_T34 l1 x7_2).f1) then (if ((rd_T34 l1 x7_2).f1) < 4 then (impl_ExecRun.j2 k2 l0 l1 x7_2 (ixI ((rd_T34 l1 x7_2).f1) 0 ((rd_T46 l0 ((rd_T34 l1 x7_2).f2)).f1) x132000_2) (ixI ((rd_T34 l1 x7_2).f1) 1 ((rd_T46 l0 ((rd_T34 l1 x7_2).f2)).f1) x132001_2) (ixI ((rd_T34 l1 x7_2).f1) 2 ((rd_T46 l0 ((rd_T34 l1 x7_2).f2)).f1) x132002_2) (ixI ((rd_T34 l1 x7_2).f1) 3 ((rd_T46 l0 ((rd_T34 l1 x7_2).f2)).f1) x132003_2) y145 x133001_2 0 0) else (none)) else (none)) = some (r1, r2, r3, r4) := by first | (rw [hy145]; with_reducible exact H) | (have H2_ := (Option.bind_some _ _).symm.trans H; rw [hy145]; with_reducible exact H2_) | (have H2_ := (Option.bind_some _ _).symm.trans H; with_reducible exact H2_) | with_reducible exact H | (rw [hy145]; exact H) | exact H
               have Ny145 := Aside0.mk hy145
               clear hy145
               by_cases c51 : 0 ≤ ((rd_T34 l1 x7_2).f1)
               ·rw [if_pos c51] at H
                have c51b0 : decide (0 ≤ ((rd_T34 l1 x7_2).f1)) = true := decide_eq_true c51
                clear c51
                by_cases c52 : ((rd_T34 l1 x7_2).f1) < 4
                ·rw [if_pos c52] at H
                 have c52b0 : decide (((rd_T34 l1 x7_2).f1) < 4) = true := decide_eq_true c52
                 clear c52
                 have H' := Aside0.mk H
                 clear H
                 have hnb53 := NB132_128.out
                 have hnc53 := NB128_132.out
                 have hnb54 := NB132_131.out
                 have hnc54 := NB131_132.out
                 have hnb55 := NB132_140.out
                 have hnc55 := NB140_132.out
                 have hcz56_0 : w21.cell? ⟨gb132, 0, none⟩ = some (u133000) := (blk_cell BK132.out 0).trans rfl
                 have hcz56_1 : w21.cell? ⟨gb132, 1, none⟩ = some (u133001) := (blk_cell BK132.out 1).trans rfl
                 have hcz56_2 := bc2_ BK132.out
                 have hcz56_3 := bc3_ BK132.out
                 have hfz56_0 := blk_frozen BK132.out 0
                 have hfz56_1 := blk_frozen BK132.out 1
                 have hfz56_2 := blk_frozen BK132.out 2
                 have hfz56_3 := blk_frozen BK132.out 3
                 have hnb57 := NB140_128.out
                 have hnc57 := NB128_140.out
                 have hnb58 := NB140_131.out
                 have hnc58 := NB131_140.out
                 have hcz59_0 := bc0_ BK140.out
                 have hcz59_1 := bc1_ BK140.out
                 have hcz59_2 := bc2_ BK140.out
                 have hcz59_3 := bc3_ BK140.out
                 have hfz59_0 := blk_frozen BK140.out 0
                 have hfz59_1 := blk_frozen BK140.out 1
                 have hfz59_2 := blk_frozen BK140.out 2
                 have hfz59_3 := blk_frozen BK140.out 3
                 obtain ⟨Ao60, co60, eo60⟩ := Kd.R_slice HO_133000.out
                 subst eo60
                 obtain ⟨Ao61, co61, eo61⟩ := Kd.R_slice HO_133001.out
                 subst eo61
                 try go_wp2_with (first | ((with_reducible refine gate_callee (f := 61) rfl ?_); refine goesL_ (some 40) rfl rfl Try.func61 (by kernel_rfl) rfl #[.agg #[.slice Ao60 x133000_2.length co60, .slice Ao61 x133001_2.length co61, .int .i64 0, .int .i64 0], .int .i64 ((rd_T34 l1 x7_2).f2)] rfl zq1_ ?_; (with_reducible refine (impl_putAt.calls k2 _ _ x133000_2 _ _ x133001_2 0 0 ((rd_T34 l1 x7_2).f2) t141 _ ?side1 ?side2 ?side3 ?side4 A27.out).mono ?_); (case side1 => refine (Kd.R_reads' (e := 48) (base := w.heap.size) (ok := fun k_ => True) (n := x133000_2.length) (c := co60) ?_).2.2; exact zq2_); (case side2 => exact zq67_); (case side3 => refine (Kd.R_reads' (e := 36) (base := w.heap.size) (ok := fun k_ => True) (n := x133001_2.length) (c := co61) ?_).2.2; exact zq3_); (case side4 => exact zq68_); rintro e w62 ⟨rfl, hb⟩; refine ⟨_, rfl, ?_⟩; have n_ := A7_ (Kd.R_below zq2_ hb) (Kd.R_below zq3_ hb) (blk_below (g := gb128) (o := .cells #[.slice none 0 0, .slice none 0 0, .int .i64 x129002_2, .int .i64 x129003_2] 30 (0, 0)) zq57_ hb) (blk_below (g := gb131) (o := .cells #[.int .i64 x132000_2, .int .i64 x132001_2, .int .i64 x132002_2, .int .i64 x132003_2] 86 (0, 0)) zq59_ hb) (blk_below (g := gb132) (o := .cells #[.slice Ao60 x133000_2.length co60, .slice Ao61 x133001_2.length co61, .int .i64 0, .int .i64 0] 30 (0, 0)) zq5b_ hb) (blk_below (g := gb140) (o := .cells #[.int .i64 ((rd_T34 l1 x7_2).f0), .int .i64 ((rd_T34 l1 x7_2).f1), .int .i64 ((rd_T34 l1 x7_2).f2), .int .i64 ((rd_T34 l1 x7_2).f3)] 34 (0, 0)) zq64_ hb) (below_step zq80_ hb); clear HO_133000 HO_133001 BK128 BK131 BK132 BK140 HB; obtain ⟨HO_133000, HO_133001, BK128, BK131, BK132, BK140, HB⟩ := n_; (try clear hb); have hcz63_0 := bc0_ BK132.out; have hcz63_1 := bc1_ BK132.out; have hcz63_2 := bc2_ BK132.out; have hcz63_3 := bc3_ BK132.out; have hfz63_0 := blk_frozen BK132.out 0; have hfz63_1 := blk_frozen BK132.out 1; have hfz63_2 := blk_frozen BK132.out 2; have hfz63_3 := blk_frozen BK132.out 3; have hcz64_0 := bc0_ BK140.out; have hcz64_1 := bc1_ BK140.out; have hcz64_2 := bc2_ BK140.out; have hcz64_3 := bc3_ BK140.out; have hfz64_0 := blk_frozen BK140.out 0; have hfz64_1 := blk_frozen BK140.out 1; have hfz64_2 := blk_frozen BK140.out 2; have hfz64_3 := blk_frozen BK140.out 3) | ((with_reducible refine gate_callee (f := 62) rfl ?_); refine goesL_ (some 55) rfl rfl Try.func62 (by kernel_rfl) rfl #[.agg #[.slice Ao60 x133000_2.length co60, .slice Ao61 x133001_2.length co61, .int .i64 0, .int .i64 0], .int .i64 ((rd_T34 l1 x7_2).f2)] rfl zq1_ ?_; (with_reducible refine (impl_readAt.calls k2 _ _ x133000_2 _ _ x133001_2 0 0 ((rd_T34 l1 x7_2).f2) t143 _ ?side1 ?side2 ?side3 ?side4 A46.out).mono ?_); (case side1 => exact zqb9_); (case side2 => exact zq67_); (case side3 => exact zqba_); (case side4 => exact zq68_); rintro e w65 ⟨rfl, hb⟩; refine ⟨_, rfl, ?_⟩; have n_ := A7_ (Kd.R_below zq24_ hb) (Kd.R_below zq25_ hb) (blk_below (g := gb128) (o := .cells #[.slice none 0 0, .slice none 0 0, .int .i64 x129002_2, .int .i64 x129003_2] 30 (0, 0)) zq36_ hb) (blk_below (g := gb131) (o := .cells #[.int .i64 x132000_2, .int .i64 x132001_2, .int .i64 x132002_2, .int .i64 x132003_2] 86 (0, 0)) zq37_ hb) (blk_below (g := gb132) (o := .cells #[.slice Ao60 x133000_2.length co60, .slice Ao61 x133001_2.length co61, .int .i64 0, .int .i64 0] 30 (0, 0)) zq38_ hb) (blk_below (g := gb140) (o := .cells #[.int .i64 ((rd_T34 l1 x7_2).f0), .int .i64 ((rd_T34 l1 x7_2).f1), .int .i64 ((rd_T34 l1 x7_2).f2), .int .i64 ((rd_T34 l1 x7_2).f3)] 34 (0, 0)) zq39_ hb) (below_step zq80_ hb); clear HO_133000 HO_133001 BK128 BK131 BK132 BK140 HB; obtain ⟨HO_133000, HO_133001, BK128, BK131, BK132, BK140, HB⟩ := n_; (try clear hb)))
                 have n_ := A7_ (Kd.R_drew HO_133000.out) (Kd.R_drew HO_133001.out) (blk_drew BK128.out) (blk_drew BK131.out) (blk_drew BK132.out) (blk_drew BK140.out) (below_drew1 HB.out)
                 clear HO_133000 HO_133001 BK128 BK131 BK132 BK140 HB
                 obtain ⟨HO_133000, HO_133001, BK128, BK131, BK132, BK140, HB⟩ := n_
                 have p144 : 0 ≤ (((rd_T34 l1 x7_2).f2) : Int) := of_decide_eq_true zq71_
                 have q144 : ((rd_T34 l1 x7_2).f2) < (l0.length : Int) := of_decide_eq_true zq71_
                 obtain ⟨ad144, e144, hx144_0, hx144_1⟩ := at_T46 HR0.out ((rd_T34 l1 x7_2).f2) p144 q144
                 have hw144_1 := hx144_1
                 have hw144_0 := hx144_0
                 cases e144
                 replace hx144_0 := (HB.out.cell (World.block_lt_of_cell? w _ hx144_0)).trans hx144_0
                 replace hx144_1 := (HB.out.cell (World.block_lt_of_cell? w _ hx144_1)).trans hx144_1
                 replace p144 := eq_true p144
                 replace q144 := eq_true q144
                 refine start_ (n := 15) (S := fun w' => w'.cell? ⟨gb132, 0, none⟩ = some (.slice Ao60 x133000_2.length co60) ∧ w'.cell? ⟨gb132, 1, none⟩ = some (.slice Ao61 x133001_2.length co61) ∧ w'.cell? ⟨gb132, 2, none⟩ = some (.int .i64 0) ∧ w'.cell? ⟨gb132, 3, none⟩ = some (.int .i64 0) ∧ w'.cell? ⟨gb140, 0, none⟩ = some (.int .i64 ((rd_T34 l1 x7_2).f0)) ∧ w'.cell? ⟨gb140, 1, none⟩ = some (.int .i64 ((rd_T34 l1 x7_2).f1)) ∧ w'.cell? ⟨gb140, 2, none⟩ = some (.int .i64 ((rd_T34 l1 x7_2).f2)) ∧ w'.cell? ⟨gb140, 3, none⟩ = some (.int .i64 ((rd_T34 l1 x7_2).f3)) ∧ w'.cell? (ad144.add ((((rd_T34 l1 x7_2).f2)).toNat * 2)) = some (.int .i64 ((rd_T46 l0 ((rd_T34 l1 x7_2).f2)).f0)) ∧ w'.cell? ⟨(ad144.add ((((rd_T34 l1 x7_2).f2)).toNat * 2)).block, (ad144.add ((((rd_T34 l1 x7_2).f2)).toNat * 2)).off + 1, none⟩ = some (.int .i64 ((rd_T46 l0 ((rd_T34 l1 x7_2).f2)).f1))) (ds := [14]) #[false, false, false, false, false, false, false, false, false, false, false, false, false, false, false] (by kernel_rfl) rfl rfl ⟨(blk_cell BK132.out 0).trans rfl, (blk_cell BK132.out 1).trans rfl, (blk_cell BK132.out 2).trans rfl, (blk_cell BK132.out 3).trans rfl, (blk_cell BK140.out 0).trans rfl, (blk_cell BK140.out 1).trans rfl, (blk_cell BK140.out 2).trans rfl, (blk_cell BK140.out 3).trans rfl, ((HB.out.cell (World.block_lt_of_cell? w _ hw144_0)).trans hw144_0), ((HB.out.cell (World.block_lt_of_cell? w _ hw144_1)).trans hw144_1)⟩ (fun hHeld => ?_); refine with_tabW impl_ExecRun.tab15 impl_ExecRun.bits15 (fun HT_ HW_ => ?_)
                 generalize w65.drew = w66 at HO_133000 HO_133001 BK128 BK131 BK132 BK140 HB hx144_0 hx144_1 hHeld ⊢
                 refine pv_ (i := 0) (N := some 57) rfl rfl ?_
                 refine pv_ (i := 2) (N := some 59) rfl rfl ?_
                 refine pv_ (i := 4) (N := some 61) rfl rfl ?_
                 refine pv_ (i := 5) (N := some 62) rfl rfl ?_
                 refine tv_ (i := 1) (N := some 58) rfl rfl ?_
                 refine tv_ (i := 3) (N := some 60) rfl rfl ?_
                 refine tv_ (i := 6) (N := some 63) rfl rfl ?_
                 refine pv_ (i := 7) (N := some 64) rfl rfl ?_
                 refine pv_ (i := 8) (N := some 65) rfl rfl ?_
                 refine tv_ (i := 9) (N := some 66) rfl rfl ?_
                 refine pv_ (i := 10) (N := some 67) rfl rfl ?_
                 refine on_ (i := 11) (N := some 68) rfl rfl (one_of HT_.out (by kernel_rfl)) (by decide) (fun K hK => ?_)
                 refine value_ (w1 := ?_) (v := ?_) (by rfl) rfl ?_ ?_
                 rotate_left 2
                 ·go_simp
                  constructor
                  ·rfl
                  ·rfl
                 refine hK.out _ _ ⟨(blk_cell (blk_alloc BK132.out _) 0).trans rfl, (blk_cell (blk_alloc BK132.out _) 1).trans rfl, (blk_cell (blk_alloc BK132.out _) 2).trans rfl, (blk_cell (blk_alloc BK132.out _) 3).trans rfl, (blk_cell (blk_alloc BK140.out _) 0).trans rfl, (blk_cell (blk_alloc BK140.out _) 1).trans rfl, (blk_cell (blk_alloc BK140.out _) 2).trans rfl, (blk_cell (blk_alloc BK140.out _) 3).trans rfl, (World.cell?_alloc_lt _ _ _ (World.block_lt_of_cell? _ _ (((HB.out.cell (World.block_lt_of_cell? w _ hw144_0)).trans hw144_0)))).trans (((HB.out.cell (World.block_lt_of_cell? w _ hw144_0)).trans hw144_0)), (World.cell?_alloc_lt _ _ _ (World.block_lt_of_cell? _ _ (((HB.out.cell (World.block_lt_of_cell? w _ hw144_1)).trans hw144_1)))).trans (((HB.out.cell (World.block_lt_of_cell? w _ hw144_1)).trans hw144_1))⟩ (fun hHeld => ?_)
                 clear hK K
                 refine norm_ (a' := ?_) ?_ ?_
                 rotate_left
                 ·show Act.put _ (some 68) _ = _
                  simp only [Act.put, sA_, sZ_, sS_, i64_w, i32_w]
                  rfl
                 refine on_ (i := 12) (N := some 69) rfl rfl (one_of HT_.out (by kernel_rfl)) (by decide) (fun K hK => ?_)
                 refine Kd.R_append_step k48 (w0 := w) w.heap.size (by rfl) (.tmp 58) (.tmp 68) 27 48 (.agg #[(.int .i64 0), (.int .i64 0)]) 16 rfl Try.underlying27 info48 rfl (by decide) (by omega) (.slice Ao60 x133000_2.length co60) x133000_2 (⟨(rd_T34 l1 x7_2).f2, (rd_T46 l0 ((rd_T34 l1 x7_2).f2)).f0⟩ : S48) [.int .i64 ((rd_T34 l1 x7_2).f2), .int .i64 ((rd_T46 l0 ((rd_T34 l1 x7_2).f2)).f0)] (fun _ => True) (fun _ => False) rfl rfl ?aP (fun _ hk => hk.elim) ?aF ?aO ?aB ?aS ?aL ?_
                 (case aP => exact k48_mkM _ _ _ (⟨(rd_T34 l1 x7_2).f2, (rd_T46 l0 ((rd_T34 l1 x7_2).f2)).f0⟩ : S48))
                 (case aB => exact zq80_)
                 (case aF => exact (fun _ _ => trivial))
                 (case aO => exact zq24_)
                 (case aS => exact (below_size zq80_))
                 (case aL => have := LMc50.out; omega)
                 intro v146 w67 ho hb hg hat
                 rw [← Ny145.out] at ho
                 have n_ := A7_ (Kd.R_over' zq25_ (Kd.R_typed zq24_) (by decide) hg) (blk_grown (g := gb128) (o := .cells #[.slice none 0 0, .slice none 0 0, .int .i64 x129002_2, .int .i64 x129003_2] 30 (0, 0)) zq36_ hg (Kd.R_ne HO_133000.out BK128.out (by decide))) (blk_grown (g := gb131) (o := .cells #[.int .i64 x132000_2, .int .i64 x132001_2, .int .i64 x132002_2, .int .i64 x132003_2] 86 (0, 0)) zq37_ hg (Kd.R_ne HO_133000.out BK131.out (by decide))) (blk_grown (g := gb132) (o := .cells #[.slice Ao60 x133000_2.length co60, .slice Ao61 x133001_2.length co61, .int .i64 0, .int .i64 0] 30 (0, 0)) zq38_ hg (Kd.R_ne HO_133000.out BK132.out (by decide))) (blk_grown (g := gb140) (o := .cells #[.int .i64 ((rd_T34 l1 x7_2).f0), .int .i64 ((rd_T34 l1 x7_2).f1), .int .i64 ((rd_T34 l1 x7_2).f2), .int .i64 ((rd_T34 l1 x7_2).f3)] 34 (0, 0)) zq39_ hg (Kd.R_ne HO_133000.out BK140.out (by decide))) (hb) (ho)
                 clear HO_133001 BK128 BK131 BK132 BK140 HB HO_133000
                 obtain ⟨HO_133001, BK128, BK131, BK132, BK140, HB, HO147⟩ := n_
                 clear ho hb hg hat
                 obtain ⟨Ao68, co68, eo68⟩ := Kd.R_slice HO147.out
                 (first | subst eo68 | (injection eo68 with f1_ f2_ f3_; have f4_ := f1_.symm; have f5_ := f3_.symm; clear f1_ f2_ f3_; subst f4_; subst f5_))
                 refine hK.out _ _ ⟨(blk_cell BK132.out 0).trans rfl, (blk_cell BK132.out 1).trans rfl, (blk_cell BK132.out 2).trans rfl, (blk_cell BK132.out 3).trans rfl, (blk_cell BK140.out 0).trans rfl, (blk_cell BK140.out 1).trans rfl, (blk_cell BK140.out 2).trans rfl, (blk_cell BK140.out 3).trans rfl, ((HB.out.cell (World.block_lt_of_cell? w _ hw144_0)).trans hw144_0), ((HB.out.cell (World.block_lt_of_cell? w _ hw144_1)).trans hw144_1)⟩ (fun hHeld => ?_)
                 clear hK K
                 refine norm_ (a' := ?_) ?_ ?_
                 rotate_left
                 ·show Act.put _ (some 69) _ = _
                  simp only [Act.put, sA_, sZ_, sS_, i64_w, i32_w]
                  rfl
                 refine pv_ (i := 13) (N := some 70) rfl rfl ?_
                 refine last_ (i := 14) (N := none) #[true, true, true, true, true, true, true, true, true, true, true, true, true, true, true] rfl rfl (one_of HT_.out (by kernel_rfl)) (by decide) (fun K hK => ?_)
                 have hs69 : w67.cell? ⟨gb132, 0, none⟩ = some (.slice Ao60 x133000_2.length co60) := (blk_cell BK132.out 0).trans rfl
                 have hfs69 := blk_frozen BK132.out 0
                 have hns69_0 := NB128_132.out
                 have hns69_1 := NB131_132.out
                 have hns69_3 := NB140_132.out
                 have hms69_0 := NB132_128.out
                 have hms69_1 := NB132_131.out
                 have hms69_3 := NB132_140.out
                 refine skip_ (w1 := ?_) (by rfl) rfl ?_ ?_
                 rotate_left
                 ·go_simp
                  rfl
                 refine hK.out _ _ ?_
                 clear hK K
                 refine done_ (done_of HT_.out (by kernel_rfl)) ?_
                 try go_wp2
                 have n0_ : Aside0 (Kd.R k36 36 (w67.setCell ⟨gb132, 0, none⟩ (.slice Ao68 y145.length co68)) w.heap.size (fun _ => True) (.slice Ao61 x133001_2.length co61) x133001_2) := ⟨by (with_reducible repeat (first | apply Kd.R_alloc | apply Kd.R_drewN | apply Kd.R_drew)); exact Kd.R_mono (Kd.R_far (p := ⟨gb132, 0, none⟩) (Kd.R_types HO_133001.out BK132.out (by decide)) (fun _ hk => hk.2) (.slice Ao68 y145.length co68)) (fun _ hk => trivial)⟩
                 have n1_ : Aside0 (Kd.R k48 48 (w67.setCell ⟨gb132, 0, none⟩ (.slice Ao68 y145.length co68)) w.heap.size (fun _ => True) (.slice Ao68 y145.length co68) y145) := ⟨by (with_reducible repeat (first | apply Kd.R_alloc | apply Kd.R_drewN | apply Kd.R_drew)); exact Kd.R_mono (Kd.R_far (p := ⟨gb132, 0, none⟩) (Kd.R_types HO147.out BK132.out (by decide)) (fun _ hk => hk.2) (.slice Ao68 y145.length co68)) (fun _ hk => trivial)⟩
                 have n2_ : Aside0 ((w67.setCell ⟨gb132, 0, none⟩ (.slice Ao68 y145.length co68)).heap[gb128]? = some (.cells #[.slice none 0 0, .slice none 0 0, .int .i64 x129002_2, .int .i64 x129003_2] 30 (0, 0))) := ⟨zq56_⟩
                 have n3_ : Aside0 ((w67.setCell ⟨gb132, 0, none⟩ (.slice Ao68 y145.length co68)).heap[gb131]? = some (.cells #[.int .i64 x132000_2, .int .i64 x132001_2, .int .i64 x132002_2, .int .i64 x132003_2] 86 (0, 0))) := ⟨zq58_⟩
                 have n4_ : Aside0 ((w67.setCell ⟨gb132, 0, none⟩ (.slice Ao68 y145.length co68)).heap[gb132]? = some (.cells #[.slice Ao68 y145.length co68, .slice Ao61 x133001_2.length co61, .int .i64 0, .int .i64 0] 30 (0, 0))) := ⟨by (with_reducible repeat (first | refine blk_drewN ?_ _ | refine blk_drew ?_ | refine blk_alloc ?_ _)); refine blk_put (cs := #[.slice Ao60 x133000_2.length co60, .slice Ao61 x133001_2.length co61, .int .i64 0, .int .i64 0]) ?_ 0 _ rfl; (with_reducible repeat (first | refine blk_drewN ?_ _ | refine blk_drew ?_ | refine blk_alloc ?_ _)); exact BK132.out⟩
                 have n5_ : Aside0 ((w67.setCell ⟨gb132, 0, none⟩ (.slice Ao68 y145.length co68)).heap[gb140]? = some (.cells #[.int .i64 ((rd_T34 l1 x7_2).f0), .int .i64 ((rd_T34 l1 x7_2).f1), .int .i64 ((rd_T34 l1 x7_2).f2), .int .i64 ((rd_T34 l1 x7_2).f3)] 34 (0, 0))) := ⟨zq5d_⟩
                 have n6_ : Aside0 (Below w.heap.size w (w67.setCell ⟨gb132, 0, none⟩ (.slice Ao68 y145.length co68))) := ⟨zq80_⟩
                 (try clear HO_133001)
                 (try clear HO147)
                 (try clear BK128)
                 (try clear BK131)
                 (try clear BK132)
                 (try clear BK140)
                 (try clear HB)
                 generalize (w67.setCell ⟨gb132, 0, none⟩ (.slice Ao68 y145.length co68)) = w70 at n0_ n1_ n2_ n3_ n4_ n5_ n6_ ⊢
                 have HO_133001 := n0_
                 have HO147 := n1_
                 have BK128 := n2_
                 have BK131 := n3_
                 have BK132 := n4_
                 have BK140 := n5_
                 have HB := n6_
                 clear n0_ n1_ n2_ n3_ n4_ n5_ n6_
                 have n_ := A7_ (Kd.R_drew HO_133001.out) (Kd.R_drew HO147.out) (blk_drew BK128.out) (blk_drew BK131.out) (blk_drew BK132.out) (blk_drew BK140.out) (below_drew1 HB.out)
                 clear HO_133001 HO147 BK128 BK131 BK132 BK140 HB
                 obtain ⟨HO_133001, HO147, BK128, BK131, BK132, BK140, HB⟩ := n_
                 have p148 : 0 ≤ (((rd_T34 l1 x7_2).f2) : Int) := of_decide_eq_true zq71_
                 have q148 : ((rd_T34 l1 x7_2).f2) < (l0.length : Int) := of_decide_eq_true zq71_
                 obtain ⟨ad148, e148, hx148_0, hx148_1⟩ := at_T46 HR0.out ((rd_T34 l1 x7_2).f2) p148 q148
                 have hw148_1 := hx148_1
                 have hw148_0 := hx148_0
                 obtain rfl : ad144 = ad148 := (by injection e148)
                 replace hx148_0 := (HB.out.cell (World.block_lt_of_cell? w _ hx148_0)).trans hx148_0
                 replace hx148_1 := (HB.out.cell (World.block_lt_of_cell? w _ hx148_1)).trans hx148_1
                 replace p148 := eq_true p148
                 replace q148 := eq_true q148
                 have p72_ : 0 ≤ ((rd_T34 l1 x7_2).f1) := of_decide_eq_true zq71_
                 have q72_ : ((rd_T34 l1 x7_2).f1) < 4 := of_decide_eq_true zq71_
                 have pt72_ := eq_true p72_
                 have qt72_ := eq_true q72_
                 refine start_ (n := 10) (S := fun w' => w'.cell? ⟨gb140, 0, none⟩ = some (.int .i64 ((rd_T34 l1 x7_2).f0)) ∧ w'.cell? ⟨gb140, 1, none⟩ = some (.int .i64 ((rd_T34 l1 x7_2).f1)) ∧ w'.cell? ⟨gb140, 2, none⟩ = some (.int .i64 ((rd_T34 l1 x7_2).f2)) ∧ w'.cell? ⟨gb140, 3, none⟩ = some (.int .i64 ((rd_T34 l1 x7_2).f3)) ∧ w'.cell? ⟨gb131, 0, none⟩ = some (.int .i64 x132000_2) ∧ w'.cell? ⟨gb131, 1, none⟩ = some (.int .i64 x132001_2) ∧ w'.cell? ⟨gb131, 2, none⟩ = some (.int .i64 x132002_2) ∧ w'.cell? ⟨gb131, 3, none⟩ = some (.int .i64 x132003_2) ∧ w'.cell? (ad144.add ((((rd_T34 l1 x7_2).f2)).toNat * 2)) = some (.int .i64 ((rd_T46 l0 ((rd_T34 l1 x7_2).f2)).f0)) ∧ w'.cell? ⟨(ad144.add ((((rd_T34 l1 x7_2).f2)).toNat * 2)).block, (ad144.add ((((rd_T34 l1 x7_2).f2)).toNat * 2)).off + 1, none⟩ = some (.int .i64 ((rd_T46 l0 ((rd_T34 l1 x7_2).f2)).f1))) (ds := [9]) #[false, false, false, false, false, false, false, false, false, false] (by kernel_rfl) rfl rfl ⟨(blk_cell BK140.out 0).trans rfl, (blk_cell BK140.out 1).trans rfl, (blk_cell BK140.out 2).trans rfl, (blk_cell BK140.out 3).trans rfl, (blk_cell BK131.out 0).trans rfl, (blk_cell BK131.out 1).trans rfl, (blk_cell BK131.out 2).trans rfl, (blk_cell BK131.out 3).trans rfl, ((HB.out.cell (World.block_lt_of_cell? w _ hw148_0)).trans hw148_0), ((HB.out.cell (World.block_lt_of_cell? w _ hw148_1)).trans hw148_1)⟩ (fun hHeld => ?_); refine with_tabW impl_ExecRun.tab16 impl_ExecRun.bits16 (fun HT_ HW_ => ?_)
                 generalize w70.drew = w71 at HO_133001 HO147 BK128 BK131 BK132 BK140 HB hx148_0 hx148_1 hHeld ⊢
                 refine pv_ (i := 0) (N := some 71) rfl rfl ?_
                 refine pv_ (i := 2) (N := some 73) rfl rfl ?_
                 refine pv_ (i := 3) (N := some 74) rfl rfl ?_
                 refine tv_ (i := 1) (N := some 72) rfl rfl ?_
                 refine tv_ (i := 4) (N := some 75) rfl rfl ?_
                 refine pv_ (i := 5) (N := some 76) rfl rfl ?_
                 refine pv_ (i := 6) (N := some 77) rfl rfl ?_
                 refine tv_ (i := 7) (N := some 78) rfl rfl ?_
                 refine pv_ (i := 8) (N := some 79) rfl rfl ?_
                 refine last_ (i := 9) (N := none) #[true, true, true, true, true, true, true, true, true, true] rfl rfl (one_of HT_.out (by kernel_rfl)) (by decide) (fun K hK => ?_)
                 have h72_ := ixcellI4 ((rd_T34 l1 x7_2).f1) p72_ q72_ BK131.out
                 have hf72 := blk_frozen BK131.out ((rd_T34 l1 x7_2).f1).toNat
                 have hn72_0 := NB128_131.out
                 have hn72_2 := NB132_131.out
                 have hn72_3 := NB140_131.out
                 have hm72_0 := NB131_128.out
                 have hm72_2 := NB131_132.out
                 have hm72_3 := NB131_140.out
                 refine skip_ (w1 := ?_) (by rfl) rfl ?_ ?_
                 rotate_left
                 ·go_simp
                  rfl
                 refine hK.out _ _ ?_
                 clear hK K
                 refine done_ (done_of HT_.out (by kernel_rfl)) ?_
                 have n0_ : Aside0 (Kd.R k36 36 (w71.setCell ⟨gb131, ((rd_T34 l1 x7_2).f1).toNat, none⟩ (.int .i64 ((rd_T46 l0 ((rd_T34 l1 x7_2).f2)).f1))) w.heap.size (fun _ => True) (.slice Ao61 x133001_2.length co61) x133001_2) := ⟨zq2d_⟩
                 have n1_ : Aside0 (Kd.R k48 48 (w71.setCell ⟨gb131, ((rd_T34 l1 x7_2).f1).toNat, none⟩ (.int .i64 ((rd_T46 l0 ((rd_T34 l1 x7_2).f2)).f1))) w.heap.size (fun _ => True) (.slice Ao68 y145.length co68) y145) := ⟨by (with_reducible repeat (first | apply Kd.R_alloc | apply Kd.R_drewN | apply Kd.R_drew)); exact Kd.R_mono (Kd.R_far (p := ⟨gb131, ((rd_T34 l1 x7_2).f1).toNat, none⟩) (Kd.R_types HO147.out BK131.out (by decide)) (fun _ hk => hk.2) (.int .i64 ((rd_T46 l0 ((rd_T34 l1 x7_2).f2)).f1))) (fun _ hk => trivial)⟩
                 have n2_ : Aside0 ((w71.setCell ⟨gb131, ((rd_T34 l1 x7_2).f1).toNat, none⟩ (.int .i64 ((rd_T46 l0 ((rd_T34 l1 x7_2).f2)).f1))).heap[gb128]? = some (.cells #[.slice none 0 0, .slice none 0 0, .int .i64 x129002_2, .int .i64 x129003_2] 30 (0, 0))) := ⟨zq55_⟩
                 have n3_ : Aside0 ((w71.setCell ⟨gb131, ((rd_T34 l1 x7_2).f1).toNat, none⟩ (.int .i64 ((rd_T46 l0 ((rd_T34 l1 x7_2).f2)).f1))).heap[gb131]? = some (.cells #[.int .i64 (ixI ((rd_T34 l1 x7_2).f1) 0 ((rd_T46 l0 ((rd_T34 l1 x7_2).f2)).f1) x132000_2), .int .i64 (ixI ((rd_T34 l1 x7_2).f1) 1 ((rd_T46 l0 ((rd_T34 l1 x7_2).f2)).f1) x132001_2), .int .i64 (ixI ((rd_T34 l1 x7_2).f1) 2 ((rd_T46 l0 ((rd_T34 l1 x7_2).f2)).f1) x132002_2), .int .i64 (ixI ((rd_T34 l1 x7_2).f1) 3 ((rd_T46 l0 ((rd_T34 l1 x7_2).f2)).f1) x132003_2)] 86 (0, 0))) := ⟨by (with_reducible repeat (first | refine blk_drewN ?_ _ | refine blk_drew ?_ | refine blk_alloc ?_ _)); refine blk_put (cs := #[.int .i64 x132000_2, .int .i64 x132001_2, .int .i64 x132002_2, .int .i64 x132003_2]) ?_ ((rd_T34 l1 x7_2).f1).toNat _ (ixputI4 ((rd_T34 l1 x7_2).f1) ((rd_T46 l0 ((rd_T34 l1 x7_2).f2)).f1) x132000_2 x132001_2 x132002_2 x132003_2 p72_ q72_); (with_reducible repeat (first | refine blk_drewN ?_ _ | refine blk_drew ?_ | refine blk_alloc ?_ _)); exact BK131.out⟩
                 have n4_ : Aside0 ((w71.setCell ⟨gb131, ((rd_T34 l1 x7_2).f1).toNat, none⟩ (.int .i64 ((rd_T46 l0 ((rd_T34 l1 x7_2).f2)).f1))).heap[gb132]? = some (.cells #[.slice Ao68 y145.length co68, .slice Ao61 x133001_2.length co61, .int .i64 0, .int .i64 0] 30 (0, 0))) := ⟨zq5a_⟩
                 have n5_ : Aside0 ((w71.setCell ⟨gb131, ((rd_T34 l1 x7_2).f1).toNat, none⟩ (.int .i64 ((rd_T46 l0 ((rd_T34 l1 x7_2).f2)).f1))).heap[gb140]? = some (.cells #[.int .i64 ((rd_T34 l1 x7_2).f0), .int .i64 ((rd_T34 l1 x7_2).f1), .int .i64 ((rd_T34 l1 x7_2).f2), .int .i64 ((rd_T34 l1 x7_2).f3)] 34 (0, 0))) := ⟨zq5c_⟩
                 have n6_ : Aside0 (Below w.heap.size w (w71.setCell ⟨gb131, ((rd_T34 l1 x7_2).f1).toNat, none⟩ (.int .i64 ((rd_T46 l0 ((rd_T34 l1 x7_2).f2)).f1)))) := ⟨zq80_⟩
                 (try clear HO_133001)
                 (try clear HO147)
                 (try clear BK128)
                 (try clear BK131)
                 (try clear BK132)
                 (try clear BK140)
                 (try clear HB)
                 generalize (w71.setCell ⟨gb131, ((rd_T34 l1 x7_2).f1).toNat, none⟩ (.int .i64 ((rd_T46 l0 ((rd_T34 l1 x7_2).f2)).f1))) = w73 at n0_ n1_ n2_ n3_ n4_ n5_ n6_ ⊢
                 have HO_133001 := n0_
                 have HO147 := n1_
                 have BK128 := n2_
                 have BK131 := n3_
                 have BK132 := n4_
                 have BK140 := n5_
                 have HB := n6_
                 clear n0_ n1_ n2_ n3_ n4_ n5_ n6_
                 try go_wp2
                 go_meet
                 case rel => exact ⟨_, (x7_2), (x129002_2), (x129003_2), ((ixI ((rd_T34 l1 x7_2).f1) 0 ((rd_T46 l0 ((rd_T34 l1 x7_2).f2)).f1) x132000_2)), ((ixI ((rd_T34 l1 x7_2).f1) 1 ((rd_T46 l0 ((rd_T34 l1 x7_2).f2)).f1) x132001_2)), ((ixI ((rd_T34 l1 x7_2).f1) 2 ((rd_T46 l0 ((rd_T34 l1 x7_2).f2)).f1) x132002_2)), ((ixI ((rd_T34 l1 x7_2).f1) 3 ((rd_T46 l0 ((rd_T34 l1 x7_2).f2)).f1) x132003_2)), (y145), (x133001_2), (.slice Ao68 y145.length co68), (.slice Ao61 x133001_2.length co61), zq76_, H', ⟨zq77_⟩, ⟨by (with_reducible repeat (first | apply Kd.R_alloc | apply Kd.R_drewN | apply Kd.R_drew)); exact HO147.out⟩, ⟨zq25_⟩, ⟨zq36_⟩, ⟨zq37_⟩, ⟨zq38_⟩, ⟨zq39_⟩, ⟨zq80_⟩⟩
                ·rw [if_neg c52] at H
                 exact absurd H (by simp)
               ·rw [if_neg c51] at H
                exact absurd H (by simp)
              ·rw [if_neg c50] at H
               exact absurd H (by simp)
             ·rw [if_neg c49] at H
              exact absurd H (by simp)
            ·rw [if_neg c48] at H
             exact absurd H (by simp)
           ·as_aux_lemma =>
             rw [if_neg c47] at H
             have c47b0 : decide (t143 < 0) = false := decide_eq_false c47
             clear c47
             by_cases c74 : 0 ≤ ((rd_T34 l1 x7_2).f2)
             ·rw [if_pos c74] at H
              have c74b0 : decide (0 ≤ ((rd_T34 l1 x7_2).f2)) = true := decide_eq_true c74
              clear c74
              by_cases c75 : ((rd_T34 l1 x7_2).f2) < (l0.length : Int)
              ·rw [if_pos c75] at H
               have c75b0 : decide (((rd_T34 l1 x7_2).f2) < (l0.length : Int)) = true := decide_eq_true c75
               clear c75
               by_cases c76 : 0 ≤ ((rd_T34 l1 x7_2).f1)
               ·rw [if_pos c76] at H
                have c76b0 : decide (0 ≤ ((rd_T34 l1 x7_2).f1)) = true := decide_eq_true c76
                clear c76
                by_cases c77 : ((rd_T34 l1 x7_2).f1) < 4
                ·rw [if_pos c77] at H
                 have c77b0 : decide (((rd_T34 l1 x7_2).f1) < 4) = true := decide_eq_true c77
                 clear c77
                 have H' := Aside0.mk H
                 clear H
                 have hnb78 := NB132_128.out
                 have hnc78 := NB128_132.out
                 have hnb79 := NB132_131.out
                 have hnc79 := NB131_132.out
                 have hnb80 := NB132_140.out
                 have hnc80 := NB140_132.out
                 have hcz81_0 : w21.cell? ⟨gb132, 0, none⟩ = some (u133000) := (blk_cell BK132.out 0).trans rfl
                 have hcz81_1 : w21.cell? ⟨gb132, 1, none⟩ = some (u133001) := (blk_cell BK132.out 1).trans rfl
                 have hcz81_2 := bc2_ BK132.out
                 have hcz81_3 := bc3_ BK132.out
                 have hfz81_0 := blk_frozen BK132.out 0
                 have hfz81_1 := blk_frozen BK132.out 1
                 have hfz81_2 := blk_frozen BK132.out 2
                 have hfz81_3 := blk_frozen BK132.out 3
                 have hnb82 := NB140_128.out
                 have hnc82 := NB128_140.out
                 have hnb83 := NB140_131.out
                 have hnc83 := NB131_140.out
                 have hcz84_0 := bc0_ BK140.out
                 have hcz84_1 := bc1_ BK140.out
                 have hcz84_2 := bc2_ BK140.out
                 have hcz84_3 := bc3_ BK140.out
                 have hfz84_0 := blk_frozen BK140.out 0
                 have hfz84_1 := blk_frozen BK140.out 1
                 have hfz84_2 := blk_frozen BK140.out 2
                 have hfz84_3 := blk_frozen BK140.out 3
                 obtain ⟨Ao85, co85, eo85⟩ := Kd.R_slice HO_133000.out
                 subst eo85
                 obtain ⟨Ao86, co86, eo86⟩ := Kd.R_slice HO_133001.out
                 subst eo86
                 try go_wp2_with (first | ((with_reducible refine gate_callee (f := 61) rfl ?_); refine goesL_ (some 40) rfl rfl Try.func61 (by kernel_rfl) rfl #[.agg #[.slice Ao85 x133000_2.length co85, .slice Ao86 x133001_2.length co86, .int .i64 0, .int .i64 0], .int .i64 ((rd_T34 l1 x7_2).f2)] rfl zq1_ ?_; (with_reducible refine (impl_putAt.calls k2 _ _ x133000_2 _ _ x133001_2 0 0 ((rd_T34 l1 x7_2).f2) t141 _ ?side1 ?side2 ?side3 ?side4 A27.out).mono ?_); (case side1 => refine (Kd.R_reads' (e := 48) (base := w.heap.size) (ok := fun k_ => True) (n := x133000_2.length) (c := co85) ?_).2.2; exact zq2_); (case side2 => exact zq67_); (case side3 => refine (Kd.R_reads' (e := 36) (base := w.heap.size) (ok := fun k_ => True) (n := x133001_2.length) (c := co86) ?_).2.2; exact zq3_); (case side4 => exact zq68_); rintro e w87 ⟨rfl, hb⟩; refine ⟨_, rfl, ?_⟩; have n_ := A7_ (Kd.R_below zq2_ hb) (Kd.R_below zq3_ hb) (blk_below (g := gb128) (o := .cells #[.slice none 0 0, .slice none 0 0, .int .i64 x129002_2, .int .i64 x129003_2] 30 (0, 0)) zq57_ hb) (blk_below (g := gb131) (o := .cells #[.int .i64 x132000_2, .int .i64 x132001_2, .int .i64 x132002_2, .int .i64 x132003_2] 86 (0, 0)) zq59_ hb) (blk_below (g := gb132) (o := .cells #[.slice Ao85 x133000_2.length co85, .slice Ao86 x133001_2.length co86, .int .i64 0, .int .i64 0] 30 (0, 0)) zq5b_ hb) (blk_below (g := gb140) (o := .cells #[.int .i64 ((rd_T34 l1 x7_2).f0), .int .i64 ((rd_T34 l1 x7_2).f1), .int .i64 ((rd_T34 l1 x7_2).f2), .int .i64 ((rd_T34 l1 x7_2).f3)] 34 (0, 0)) zq64_ hb) (below_step zq80_ hb); clear HO_133000 HO_133001 BK128 BK131 BK132 BK140 HB; obtain ⟨HO_133000, HO_133001, BK128, BK131, BK132, BK140, HB⟩ := n_; (try clear hb); have hcz88_0 := bc0_ BK132.out; have hcz88_1 := bc1_ BK132.out; have hcz88_2 := bc2_ BK132.out; have hcz88_3 := bc3_ BK132.out; have hfz88_0 := blk_frozen BK132.out 0; have hfz88_1 := blk_frozen BK132.out 1; have hfz88_2 := blk_frozen BK132.out 2; have hfz88_3 := blk_frozen BK132.out 3; have hcz89_0 := bc0_ BK140.out; have hcz89_1 := bc1_ BK140.out; have hcz89_2 := bc2_ BK140.out; have hcz89_3 := bc3_ BK140.out; have hfz89_0 := blk_frozen BK140.out 0; have hfz89_1 := blk_frozen BK140.out 1; have hfz89_2 := blk_frozen BK140.out 2; have hfz89_3 := blk_frozen BK140.out 3) | ((with_reducible refine gate_callee (f := 62) rfl ?_); refine goesL_ (some 55) rfl rfl Try.func62 (by kernel_rfl) rfl #[.agg #[.slice Ao85 x133000_2.length co85, .slice Ao86 x133001_2.length co86, .int .i64 0, .int .i64 0], .int .i64 ((rd_T34 l1 x7_2).f2)] rfl zq1_ ?_; (with_reducible refine (impl_readAt.calls k2 _ _ x133000_2 _ _ x133001_2 0 0 ((rd_T34 l1 x7_2).f2) t143 _ ?side1 ?side2 ?side3 ?side4 A46.out).mono ?_); (case side1 => exact zqb9_); (case side2 => exact zq67_); (case side3 => exact zqba_); (case side4 => exact zq68_); rintro e w90 ⟨rfl, hb⟩; refine ⟨_, rfl, ?_⟩; have n_ := A7_ (Kd.R_below zq24_ hb) (Kd.R_below zq25_ hb) (blk_below (g := gb128) (o := .cells #[.slice none 0 0, .slice none 0 0, .int .i64 x129002_2, .int .i64 x129003_2] 30 (0, 0)) zq36_ hb) (blk_below (g := gb131) (o := .cells #[.int .i64 x132000_2, .int .i64 x132001_2, .int .i64 x132002_2, .int .i64 x132003_2] 86 (0, 0)) zq37_ hb) (blk_below (g := gb132) (o := .cells #[.slice Ao85 x133000_2.length co85, .slice Ao86 x133001_2.length co86, .int .i64 0, .int .i64 0] 30 (0, 0)) zq38_ hb) (blk_below (g := gb140) (o := .cells #[.int .i64 ((rd_T34 l1 x7_2).f0), .int .i64 ((rd_T34 l1 x7_2).f1), .int .i64 ((rd_T34 l1 x7_2).f2), .int .i64 ((rd_T34 l1 x7_2).f3)] 34 (0, 0)) zq39_ hb) (below_step zq80_ hb); clear HO_133000 HO_133001 BK128 BK131 BK132 BK140 HB; obtain ⟨HO_133000, HO_133001, BK128, BK131, BK132, BK140, HB⟩ := n_; (try clear hb)))
                 have n_ := A7_ (Kd.R_drew HO_133000.out) (Kd.R_drew HO_133001.out) (blk_drew BK128.out) (blk_drew BK131.out) (blk_drew BK132.out) (blk_drew BK140.out) (below_drew1 HB.out)
                 clear HO_133000 HO_133001 BK128 BK131 BK132 BK140 HB
                 obtain ⟨HO_133000, HO_133001, BK128, BK131, BK132, BK140, HB⟩ := n_
                 have p149 : 0 ≤ (((rd_T34 l1 x7_2).f2) : Int) := of_decide_eq_true zq71_
                 have q149 : ((rd_T34 l1 x7_2).f2) < (l0.length : Int) := of_decide_eq_true zq71_
                 obtain ⟨ad149, e149, hx149_0, hx149_1⟩ := at_T46 HR0.out ((rd_T34 l1 x7_2).f2) p149 q149
                 have hw149_1 := hx149_1
                 have hw149_0 := hx149_0
                 cases e149
                 replace hx149_0 := (HB.out.cell (World.block_lt_of_cell? w _ hx149_0)).trans hx149_0
                 replace hx149_1 := (HB.out.cell (World.block_lt_of_cell? w _ hx149_1)).trans hx149_1
                 replace p149 := eq_true p149
                 replace q149 := eq_true q149
                 have p92_ : 0 ≤ ((rd_T34 l1 x7_2).f1) := of_decide_eq_true zq71_
                 have q92_ : ((rd_T34 l1 x7_2).f1) < 4 := of_decide_eq_true zq71_
                 have pt92_ := eq_true p92_
                 have qt92_ := eq_true q92_
                 refine start_ (n := 10) (S := fun w' => w'.cell? ⟨gb140, 0, none⟩ = some (.int .i64 ((rd_T34 l1 x7_2).f0)) ∧ w'.cell? ⟨gb140, 1, none⟩ = some (.int .i64 ((rd_T34 l1 x7_2).f1)) ∧ w'.cell? ⟨gb140, 2, none⟩ = some (.int .i64 ((rd_T34 l1 x7_2).f2)) ∧ w'.cell? ⟨gb140, 3, none⟩ = some (.int .i64 ((rd_T34 l1 x7_2).f3)) ∧ w'.cell? ⟨gb131, 0, none⟩ = some (.int .i64 x132000_2) ∧ w'.cell? ⟨gb131, 1, none⟩ = some (.int .i64 x132001_2) ∧ w'.cell? ⟨gb131, 2, none⟩ = some (.int .i64 x132002_2) ∧ w'.cell? ⟨gb131, 3, none⟩ = some (.int .i64 x132003_2) ∧ w'.cell? (ad149.add ((((rd_T34 l1 x7_2).f2)).toNat * 2)) = some (.int .i64 ((rd_T46 l0 ((rd_T34 l1 x7_2).f2)).f0)) ∧ w'.cell? ⟨(ad149.add ((((rd_T34 l1 x7_2).f2)).toNat * 2)).block, (ad149.add ((((rd_T34 l1 x7_2).f2)).toNat * 2)).off + 1, none⟩ = some (.int .i64 ((rd_T46 l0 ((rd_T34 l1 x7_2).f2)).f1))) (ds := [9]) #[false, false, false, false, false, false, false, false, false, false] (by kernel_rfl) rfl rfl ⟨(blk_cell BK140.out 0).trans rfl, (blk_cell BK140.out 1).trans rfl, (blk_cell BK140.out 2).trans rfl, (blk_cell BK140.out 3).trans rfl, (blk_cell BK131.out 0).trans rfl, (blk_cell BK131.out 1).trans rfl, (blk_cell BK131.out 2).trans rfl, (blk_cell BK131.out 3).trans rfl, ((HB.out.cell (World.block_lt_of_cell? w _ hw149_0)).trans hw149_0), ((HB.out.cell (World.block_lt_of_cell? w _ hw149_1)).trans hw149_1)⟩ (fun hHeld => ?_); refine with_tabW impl_ExecRun.tab16 impl_ExecRun.bits16 (fun HT_ HW_ => ?_)
                 generalize w90.drew = w91 at HO_133000 HO_133001 BK128 BK131 BK132 BK140 HB hx149_0 hx149_1 hHeld ⊢
                 refine pv_ (i := 0) (N := some 71) rfl rfl ?_
                 refine pv_ (i := 2) (N := some 73) rfl rfl ?_
                 refine pv_ (i := 3) (N := some 74) rfl rfl ?_
                 refine tv_ (i := 1) (N := some 72) rfl rfl ?_
                 refine tv_ (i := 4) (N := some 75) rfl rfl ?_
                 refine pv_ (i := 5) (N := some 76) rfl rfl ?_
                 refine pv_ (i := 6) (N := some 77) rfl rfl ?_
                 refine tv_ (i := 7) (N := some 78) rfl rfl ?_
                 refine pv_ (i := 8) (N := some 79) rfl rfl ?_
                 refine last_ (i := 9) (N := none) #[true, true, true, true, true, true, true, true, true, true] rfl rfl (one_of HT_.out (by kernel_rfl)) (by decide) (fun K hK => ?_)
                 have h92_ := ixcellI4 ((rd_T34 l1 x7_2).f1) p92_ q92_ BK131.out
                 have hf92 := blk_frozen BK131.out ((rd_T34 l1 x7_2).f1).toNat
                 have hn92_0 := NB128_131.out
                 have hn92_2 := NB132_131.out
                 have hn92_3 := NB140_131.out
                 have hm92_0 := NB131_128.out
                 have hm92_2 := NB131_132.out
                 have hm92_3 := NB131_140.out
                 refine skip_ (w1 := ?_) (by rfl) rfl ?_ ?_
                 rotate_left
                 ·go_simp
                  rfl
                 refine hK.out _ _ ?_
                 clear hK K
                 refine done_ (done_of HT_.out (by kernel_rfl)) ?_
                 have n0_ : Aside0 (Kd.R k48 48 (w91.setCell ⟨gb131, ((rd_T34 l1 x7_2).f1).toNat, none⟩ (.int .i64 ((rd_T46 l0 ((rd_T34 l1 x7_2).f2)).f1))) w.heap.size (fun _ => True) (.slice Ao85 x133000_2.length co85) x133000_2) := ⟨by (with_reducible repeat (first | apply Kd.R_alloc | apply Kd.R_drewN | apply Kd.R_drew)); exact Kd.R_mono (Kd.R_far (p := ⟨gb131, ((rd_T34 l1 x7_2).f1).toNat, none⟩) (Kd.R_types HO_133000.out BK131.out (by decide)) (fun _ hk => hk.2) (.int .i64 ((rd_T46 l0 ((rd_T34 l1 x7_2).f2)).f1))) (fun _ hk => trivial)⟩
                 have n1_ : Aside0 (Kd.R k36 36 (w91.setCell ⟨gb131, ((rd_T34 l1 x7_2).f1).toNat, none⟩ (.int .i64 ((rd_T46 l0 ((rd_T34 l1 x7_2).f2)).f1))) w.heap.size (fun _ => True) (.slice Ao86 x133001_2.length co86) x133001_2) := ⟨zq2d_⟩
                 have n2_ : Aside0 ((w91.setCell ⟨gb131, ((rd_T34 l1 x7_2).f1).toNat, none⟩ (.int .i64 ((rd_T46 l0 ((rd_T34 l1 x7_2).f2)).f1))).heap[gb128]? = some (.cells #[.slice none 0 0, .slice none 0 0, .int .i64 x129002_2, .int .i64 x129003_2] 30 (0, 0))) := ⟨zq55_⟩
                 have n3_ : Aside0 ((w91.setCell ⟨gb131, ((rd_T34 l1 x7_2).f1).toNat, none⟩ (.int .i64 ((rd_T46 l0 ((rd_T34 l1 x7_2).f2)).f1))).heap[gb131]? = some (.cells #[.int .i64 (ixI ((rd_T34 l1 x7_2).f1) 0 ((rd_T46 l0 ((rd_T34 l1 x7_2).f2)).f1) x132000_2), .int .i64 (ixI ((rd_T34 l1 x7_2).f1) 1 ((rd_T46 l0 ((rd_T34 l1 x7_2).f2)).f1) x132001_2), .int .i64 (ixI ((rd_T34 l1 x7_2).f1) 2 ((rd_T46 l0 ((rd_T34 l1 x7_2).f2)).f1) x132002_2), .int .i64 (ixI ((rd_T34 l1 x7_2).f1) 3 ((rd_T46 l0 ((rd_T34 l1 x7_2).f2)).f1) x132003_2)] 86 (0, 0))) := ⟨by (with_reducible repeat (first | refine blk_drewN ?_ _ | refine blk_drew ?_ | refine blk_alloc ?_ _)); refine blk_put (cs := #[.int .i64 x132000_2, .int .i64 x132001_2, .int .i64 x132002_2, .int .i64 x132003_2]) ?_ ((rd_T34 l1 x7_2).f1).toNat _ (ixputI4 ((rd_T34 l1 x7_2).f1) ((rd_T46 l0 ((rd_T34 l1 x7_2).f2)).f1) x132000_2 x132001_2 x132002_2 x132003_2 p92_ q92_); (with_reducible repeat (first | refine blk_drewN ?_ _ | refine blk_drew ?_ | refine blk_alloc ?_ _)); exact BK131.out⟩
                 have n4_ : Aside0 ((w91.setCell ⟨gb131, ((rd_T34 l1 x7_2).f1).toNat, none⟩ (.int .i64 ((rd_T46 l0 ((rd_T34 l1 x7_2).f2)).f1))).heap[gb132]? = some (.cells #[.slice Ao85 x133000_2.length co85, .slice Ao86 x133001_2.length co86, .int .i64 0, .int .i64 0] 30 (0, 0))) := ⟨zq5a_⟩
                 have n5_ : Aside0 ((w91.setCell ⟨gb131, ((rd_T34 l1 x7_2).f1).toNat, none⟩ (.int .i64 ((rd_T46 l0 ((rd_T34 l1 x7_2).f2)).f1))).heap[gb140]? = some (.cells #[.int .i64 ((rd_T34 l1 x7_2).f0), .int .i64 ((rd_T34 l1 x7_2).f1), .int .i64 ((rd_T34 l1 x7_2).f2), .int .i64 ((rd_T34 l1 x7_2).f3)] 34 (0, 0))) := ⟨zq5c_⟩
                 have n6_ : Aside0 (Below w.heap.size w (w91.setCell ⟨gb131, ((rd_T34 l1 x7_2).f1).toNat, none⟩ (.int .i64 ((rd_T46 l0 ((rd_T34 l1 x7_2).f2)).f1)))) := ⟨zq80_⟩
                 (try clear HO_133000)
                 (try clear HO_133001)
                 (try clear BK128)
                 (try clear BK131)
                 (try clear BK132)
                 (try clear BK140)
                 (try clear HB)
                 generalize (w91.setCell ⟨gb131, ((rd_T34 l1 x7_2).f1).toNat, none⟩ (.int .i64 ((rd_T46 l0 ((rd_T34 l1 x7_2).f2)).f1))) = w93 at n0_ n1_ n2_ n3_ n4_ n5_ n6_ ⊢
                 have HO_133000 := n0_
                 have HO_133001 := n1_
                 have BK128 := n2_
                 have BK131 := n3_
                 have BK132 := n4_
                 have BK140 := n5_
                 have HB := n6_
                 clear n0_ n1_ n2_ n3_ n4_ n5_ n6_
                 try go_wp2
                 go_meet
                 case rel => exact ⟨_, (x7_2), (x129002_2), (x129003_2), ((ixI ((rd_T34 l1 x7_2).f1) 0 ((rd_T46 l0 ((rd_T34 l1 x7_2).f2)).f1) x132000_2)), ((ixI ((rd_T34 l1 x7_2).f1) 1 ((rd_T46 l0 ((rd_T34 l1 x7_2).f2)).f1) x132001_2)), ((ixI ((rd_T34 l1 x7_2).f1) 2 ((rd_T46 l0 ((rd_T34 l1 x7_2).f2)).f1) x132002_2)), ((ixI ((rd_T34 l1 x7_2).f1) 3 ((rd_T46 l0 ((rd_T34 l1 x7_2).f2)).f1) x132003_2)), (x133000_2), (x133001_2), (.slice Ao85 x133000_2.length co85), (.slice Ao86 x133001_2.length co86), zq76_, H', ⟨zq77_⟩, ⟨zq24_⟩, ⟨zq25_⟩, ⟨zq36_⟩, ⟨zq37_⟩, ⟨zq38_⟩, ⟨zq39_⟩, ⟨zq80_⟩⟩
                ·rw [if_neg c77] at H
                 exact absurd H (by simp)
               ·rw [if_neg c76] at H
                exact absurd H (by simp)
              ·rw [if_neg c75] at H
               exact absurd H (by simp)
             ·rw [if_neg c74] at H
              exact absurd H (by simp)
         ·rw [if_neg c26] at H
          have c26b0 : (((rd_T34 l1 x7_2).f0) == 1) = false := beq_eq_false_iff_ne.mpr c26
          have c26b1 : (((rd_T34 l1 x7_2).f0) != 1) = true := bne_iff_ne.mpr c26
          (first | rw [c26b0] | (simp only [i64_w, i32_w]; rw [c26b0]) | skip)
          by_cases c94 : ((rd_T34 l1 x7_2).f0) = 2
          ·rw [if_pos c94] at H
           have c94b0 : (((rd_T34 l1 x7_2).f0) == 2) = true := beq_iff_eq.mpr c94
           have c94b1 : (((rd_T34 l1 x7_2).f0) != 2) = false := bne_eq_false_iff_eq.mpr c94
           clear c94
           replace H := Option.bind_eq_some_iff.mp H
           obtain ⟨t150, A950, H⟩ := H
           (try dsimp only at H)
           have A95 := Aside0.mk A950
           clear A950
           by_cases c96 : t150 ≥ 0
           ·as_aux_lemma =>
             rw [if_pos c96] at H
             have c96b0 : decide (0 ≤ t150) = true := decide_eq_true c96
             clear c96
             by_cases c97 : 0 ≤ ((rd_T34 l1 x7_2).f2)
             ·rw [if_pos c97] at H
              have c97b0 : decide (0 ≤ ((rd_T34 l1 x7_2).f2)) = true := decide_eq_true c97
              clear c97
              by_cases c98 : ((rd_T34 l1 x7_2).f2) < 4
              ·rw [if_pos c98] at H
               have c98b0 : decide (((rd_T34 l1 x7_2).f2) < 4) = true := decide_eq_true c98
               clear c98
               by_cases c99 : 0 ≤ t150
               ·rw [if_pos c99] at H
                have c99b0 : decide (0 ≤ t150) = true := decide_eq_true c99
                clear c99
                by_cases c100 : t150 < (x133001_2.length : Int)
                ·rw [if_pos c100] at H
                 have c100b0 : decide (t150 < (x133001_2.length : Int)) = true := decide_eq_true c100
                 clear c100
                 obtain ⟨y151, hy151⟩ : ∃ y_ : List (S36), y_ = (x133001_2.set (t150 : Int).toNat (⟨(rd_T36 x133001_2 t150).f0, rd [x132000_2, x132001_2, x132002_2, x132003_2] ((rd_T34 l1 x7_2).f2)⟩ : S36)) := ⟨_, rfl⟩
                 replace H : (impl_ExecRun.j2 k2 l0 l1 x7_2 x132000_2 x132001_2 x132002_2 x132003_2 x133000_2 y151 0 0) = some (r1, r2, r3, r4) := by first | (rw [hy151]; with_reducible exact H) | (have H2_ := (Option.bind_some _ _).symm.trans H; rw [hy151]; with_reducible exact H2_) | (have H2_ := (Option.bind_some _ _).symm.trans H; with_reducible exact H2_) | with_reducible exact H | (rw [hy151]; exact H) | exact H
                 have Ny151 := Aside0.mk hy151
                 clear hy151
                 have H' := Aside0.mk H
                 clear H
                 have hnb102 := NB132_128.out
                 have hnc102 := NB128_132.out
                 have hnb103 := NB132_131.out
                 have hnc103 := NB131_132.out
                 have hnb104 := NB132_140.out
                 have hnc104 := NB140_132.out
                 have hcz105_0 : w21.cell? ⟨gb132, 0, none⟩ = some (u133000) := (blk_cell BK132.out 0).trans rfl
                 have hcz105_1 : w21.cell? ⟨gb132, 1, none⟩ = some (u133001) := (blk_cell BK132.out 1).trans rfl
                 have hcz105_2 := bc2_ BK132.out
                 have hcz105_3 := bc3_ BK132.out
                 have hfz105_0 := blk_frozen BK132.out 0
                 have hfz105_1 := blk_frozen BK132.out 1
                 have hfz105_2 := blk_frozen BK132.out 2
                 have hfz105_3 := blk_frozen BK132.out 3
                 have hnb106 := NB140_128.out
                 have hnc106 := NB128_140.out
                 have hnb107 := NB140_131.out
                 have hnc107 := NB131_140.out
                 have hcz108_0 := bc0_ BK140.out
                 have hcz108_1 := bc1_ BK140.out
                 have hcz108_2 := bc2_ BK140.out
                 have hcz108_3 := bc3_ BK140.out
                 have hfz108_0 := blk_frozen BK140.out 0
                 have hfz108_1 := blk_frozen BK140.out 1
                 have hfz108_2 := blk_frozen BK140.out 2
                 have hfz108_3 := blk_frozen BK140.out 3
                 obtain ⟨Ao109, co109, eo109⟩ := Kd.R_slice HO_133000.out
                 subst eo109
                 obtain ⟨Ao110, co110, eo110⟩ := Kd.R_slice HO_133001.out
                 subst eo110
                 try go_wp2_with (first | ((with_reducible refine gate_callee (f := 61) rfl ?_); refine goesL_ (some 85) rfl rfl Try.func61 (by kernel_rfl) rfl #[.agg #[.slice Ao109 x133000_2.length co109, .slice Ao110 x133001_2.length co110, .int .i64 0, .int .i64 0], .int .i64 ((rd_T34 l1 x7_2).f1)] rfl zq1_ ?_; (with_reducible refine (impl_putAt.calls k2 _ _ x133000_2 _ _ x133001_2 0 0 ((rd_T34 l1 x7_2).f1) t150 _ ?side1 ?side2 ?side3 ?side4 A95.out).mono ?_); (case side1 => refine (Kd.R_reads' (e := 48) (base := w.heap.size) (ok := fun k_ => True) (n := x133000_2.length) (c := co109) ?_).2.2; exact zq2_); (case side2 => exact zq67_); (case side3 => refine (Kd.R_reads' (e := 36) (base := w.heap.size) (ok := fun k_ => True) (n := x133001_2.length) (c := co110) ?_).2.2; exact zq3_); (case side4 => exact zq68_); rintro e w111 ⟨rfl, hb⟩; refine ⟨_, rfl, ?_⟩; have n_ := A7_ (Kd.R_below zq2_ hb) (Kd.R_below zq3_ hb) (blk_below (g := gb128) (o := .cells #[.slice none 0 0, .slice none 0 0, .int .i64 x129002_2, .int .i64 x129003_2] 30 (0, 0)) zq57_ hb) (blk_below (g := gb131) (o := .cells #[.int .i64 x132000_2, .int .i64 x132001_2, .int .i64 x132002_2, .int .i64 x132003_2] 86 (0, 0)) zq59_ hb) (blk_below (g := gb132) (o := .cells #[.slice Ao109 x133000_2.length co109, .slice Ao110 x133001_2.length co110, .int .i64 0, .int .i64 0] 30 (0, 0)) zq5b_ hb) (blk_below (g := gb140) (o := .cells #[.int .i64 ((rd_T34 l1 x7_2).f0), .int .i64 ((rd_T34 l1 x7_2).f1), .int .i64 ((rd_T34 l1 x7_2).f2), .int .i64 ((rd_T34 l1 x7_2).f3)] 34 (0, 0)) zq64_ hb) (below_step zq80_ hb); clear HO_133000 HO_133001 BK128 BK131 BK132 BK140 HB; obtain ⟨HO_133000, HO_133001, BK128, BK131, BK132, BK140, HB⟩ := n_; (try clear hb)))
                 have n_ := A7_ (Kd.R_drew HO_133000.out) (Kd.R_drew HO_133001.out) (blk_drew BK128.out) (blk_drew BK131.out) (blk_drew BK132.out) (blk_drew BK140.out) (below_drew1 HB.out)
                 clear HO_133000 HO_133001 BK128 BK131 BK132 BK140 HB
                 obtain ⟨HO_133000, HO_133001, BK128, BK131, BK132, BK140, HB⟩ := n_
                 have hnb114 := NB131_128.out
                 have hnc114 := NB128_131.out
                 have p113_ : 0 ≤ ((rd_T34 l1 x7_2).f2) := of_decide_eq_true zq71_
                 have q113_ : ((rd_T34 l1 x7_2).f2) < 4 := of_decide_eq_true zq71_
                 have hxx113 := ixcellI4 ((rd_T34 l1 x7_2).f2) p113_ q113_ BK131.out
                 have hxf113 := blk_frozen BK131.out ((rd_T34 l1 x7_2).f2).toNat
                 have pt113_ := eq_true p113_
                 have qt113_ := eq_true q113_
                 have p101 : 0 ≤ (t150 : Int) := of_decide_eq_true zq71_
                 have q101 : (t150 : Int) < ((x133001_2.length : Int) : Int) := of_decide_eq_true zq71_
                 obtain ⟨go101, co101, eo101, gb101, gl101, cl101, HG101⟩ := Kd.R_form HO_133001.out (by omega)
                 (first | cases eo101 | (injection eo101 with ea_ en_ ec_; (first | subst ea_ | (injection ea_ with ea_; subst ea_)); subst ec_; clear en_))
                 have GB101 := Aside0.mk gb101
                 have GG101 := Aside0.mk HG101
                 clear gb101 gl101 HG101
                 obtain ⟨ce101, hcl101, hM101, hcc101, hfr101⟩ := Kd.R_elem HO_133001.out z36 (t150 : Int) p101 q101
                 obtain rfl := k36_openM hM101
                 have hx101_0 : World.cell? _ ⟨go101, (t150 : Int).toNat * 2, none⟩ = some (.int .i64 ((rd_T36 x133001_2 t150).f0)) := hcc101 0 _ rfl
                 have hx101_1 : World.cell? _ ⟨go101, (t150 : Int).toNat * 2 + 1, none⟩ = some (.int .i64 ((rd_T36 x133001_2 t150).f1)) := hcc101 1 _ rfl
                 have hf101_0 : World.frozen? _ ⟨go101, (t150 : Int).toNat * 2, none⟩ = false := hfr101 0
                 have hf101_1 : World.frozen? _ ⟨go101, (t150 : Int).toNat * 2 + 1, none⟩ = false := hfr101 1
                 clear hcl101 hcc101 hfr101 hM101
                 replace p101 := eq_true p101
                 replace q101 := eq_true q101
                 obtain ⟨ce115, hcl115, hM115, hcc115, hfr115⟩ := Kd.R_elem HO_133001.out z36 (t150 : Int) (of_decide_eq_true zq71_) zqc9_
                 obtain rfl := k36_openM hM115
                 have HP115 := (Kd.R_seg HO_133001.out (t150 : Int) (of_decide_eq_true zq71_) zqc9_ (seg := [.int .i64 (rd [x132000_2, x132001_2, x132002_2, x132003_2] ((rd_T34 l1 x7_2).f2))]) (j := 1) hcl115 hcc115 (show 2 ≤ 2 from by decide) (x' := (⟨(rd_T36 x133001_2 t150).f0, rd [x132000_2, x132001_2, x132002_2, x132003_2] ((rd_T34 l1 x7_2).f2)⟩ : S36)) (k36_mkM _ _ _ (⟨(rd_T36 x133001_2 t150).f0, rd [x132000_2, x132001_2, x132002_2, x132003_2] ((rd_T34 l1 x7_2).f2)⟩ : S36) ) (fun _ hk => hk)).1
                 rw [← Ny151.out] at HP115
                 have HQ115 := Aside0.mk HP115
                 clear hcl115 hcc115 hfr115 hM115 HP115
                 refine start_ (n := 10) (S := fun w' => w'.cell? ⟨gb132, 0, none⟩ = some (.slice Ao109 x133000_2.length co109) ∧ w'.cell? ⟨gb132, 1, none⟩ = some (.slice (some ⟨go101, 0, none⟩) x133001_2.length co110) ∧ w'.cell? ⟨gb132, 2, none⟩ = some (.int .i64 0) ∧ w'.cell? ⟨gb132, 3, none⟩ = some (.int .i64 0) ∧ w'.cell? ⟨gb140, 0, none⟩ = some (.int .i64 ((rd_T34 l1 x7_2).f0)) ∧ w'.cell? ⟨gb140, 1, none⟩ = some (.int .i64 ((rd_T34 l1 x7_2).f1)) ∧ w'.cell? ⟨gb140, 2, none⟩ = some (.int .i64 ((rd_T34 l1 x7_2).f2)) ∧ w'.cell? ⟨gb140, 3, none⟩ = some (.int .i64 ((rd_T34 l1 x7_2).f3)) ∧ w'.cell? ⟨gb131, 0, none⟩ = some (.int .i64 x132000_2) ∧ w'.cell? ⟨gb131, 1, none⟩ = some (.int .i64 x132001_2) ∧ w'.cell? ⟨gb131, 2, none⟩ = some (.int .i64 x132002_2) ∧ w'.cell? ⟨gb131, 3, none⟩ = some (.int .i64 x132003_2) ∧ w'.cell? ⟨gb131, ((rd_T34 l1 x7_2).f2).toNat, none⟩ = some (.int .i64 (rd [x132000_2, x132001_2, x132002_2, x132003_2] ((rd_T34 l1 x7_2).f2)))) (ds := [9]) #[false, false, false, false, false, false, false, false, false, false] (by kernel_rfl) rfl rfl ⟨(blk_cell BK132.out 0).trans rfl, (blk_cell BK132.out 1).trans rfl, (blk_cell BK132.out 2).trans rfl, (blk_cell BK132.out 3).trans rfl, (blk_cell BK140.out 0).trans rfl, (blk_cell BK140.out 1).trans rfl, (blk_cell BK140.out 2).trans rfl, (blk_cell BK140.out 3).trans rfl, (blk_cell BK131.out 0).trans rfl, (blk_cell BK131.out 1).trans rfl, (blk_cell BK131.out 2).trans rfl, (blk_cell BK131.out 3).trans rfl, (ixcellI4 ((rd_T34 l1 x7_2).f2) p113_ q113_ BK131.out)⟩ (fun hHeld => ?_); refine with_tabW impl_ExecRun.tab20 impl_ExecRun.bits20 (fun HT_ HW_ => ?_)
                 generalize w111.drew = w112 at HO_133000 HO_133001 BK128 BK131 BK132 BK140 HB GG101 HQ115 hf101_0 hf101_1 hx101_0 hx101_1 hHeld ⊢
                 refine pv_ (i := 0) (N := some 88) rfl rfl ?_
                 refine pv_ (i := 2) (N := some 90) rfl rfl ?_
                 refine pv_ (i := 3) (N := some 91) rfl rfl ?_
                 refine tv_ (i := 1) (N := some 89) rfl rfl ?_
                 refine tv_ (i := 4) (N := some 92) rfl rfl ?_
                 refine pv_ (i := 5) (N := some 93) rfl rfl ?_
                 refine tv_ (i := 6) (N := some 94) rfl rfl ?_
                 refine pv_ (i := 7) (N := some 95) rfl rfl ?_
                 refine pv_ (i := 8) (N := some 96) rfl rfl ?_
                 refine last_ (i := 9) (N := none) #[true, true, true, true, true, true, true, true, true, true] rfl rfl (one_of HT_.out (by kernel_rfl)) (by decide) (fun K hK => ?_)
                 refine skip_ (w1 := ?_) (by rfl) rfl ?_ ?_
                 rotate_left
                 ·go_simp
                  rfl
                 refine hK.out _ _ ?_
                 clear hK K
                 refine done_ (done_of HT_.out (by kernel_rfl)) ?_
                 try go_wp2
                 go_meet
                 case rel => exact ⟨_, (x7_2), (x129002_2), (x129003_2), (x132000_2), (x132001_2), (x132002_2), (x132003_2), (x133000_2), (y151), (.slice Ao109 x133000_2.length co109), (.slice (some ⟨go101, 0, none⟩) x133001_2.length co110), zq76_, H', ⟨zq77_⟩, ⟨by (with_reducible repeat (first | apply Kd.R_alloc | apply Kd.R_drewN | apply Kd.R_drew)); exact Kd.R_mono (Kd.R_far (p := ⟨go101, (t150 : Int).toNat * 2 + 1, none⟩) (Kd.R_types HO_133000.out GG101.out (by decide)) (fun _ hk => hk.2) (.int .i64 (rd [x132000_2, x132001_2, x132002_2, x132003_2] ((rd_T34 l1 x7_2).f2)))) (fun _ hk => trivial)⟩, ⟨by (with_reducible repeat (first | apply Kd.R_alloc | apply Kd.R_drewN | apply Kd.R_drew)); exact HQ115.out⟩, ⟨by (with_reducible repeat (first | refine blk_drewN ?_ _ | refine blk_drew ?_ | refine blk_alloc ?_ _)); refine blk_far ?_ (by have h_ := Kd.R_ne HO_133001.out BK128.out (by decide); intro e_; exact h_ (by rw [e_]; rfl)) _; (with_reducible repeat (first | refine blk_drewN ?_ _ | refine blk_drew ?_ | refine blk_alloc ?_ _)); exact BK128.out⟩, ⟨by (with_reducible repeat (first | refine blk_drewN ?_ _ | refine blk_drew ?_ | refine blk_alloc ?_ _)); refine blk_far ?_ (by have h_ := Kd.R_ne HO_133001.out BK131.out (by decide); intro e_; exact h_ (by rw [e_]; rfl)) _; (with_reducible repeat (first | refine blk_drewN ?_ _ | refine blk_drew ?_ | refine blk_alloc ?_ _)); exact BK131.out⟩, ⟨by (with_reducible repeat (first | refine blk_drewN ?_ _ | refine blk_drew ?_ | refine blk_alloc ?_ _)); refine blk_far ?_ (by have h_ := Kd.R_ne HO_133001.out BK132.out (by decide); intro e_; exact h_ (by rw [e_]; rfl)) _; (with_reducible repeat (first | refine blk_drewN ?_ _ | refine blk_drew ?_ | refine blk_alloc ?_ _)); exact BK132.out⟩, ⟨by (with_reducible repeat (first | refine blk_drewN ?_ _ | refine blk_drew ?_ | refine blk_alloc ?_ _)); refine blk_far ?_ (by have h_ := Kd.R_ne HO_133001.out BK140.out (by decide); intro e_; exact h_ (by rw [e_]; rfl)) _; (with_reducible repeat (first | refine blk_drewN ?_ _ | refine blk_drew ?_ | refine blk_alloc ?_ _)); exact BK140.out⟩, ⟨by repeat (first | (with_reducible first | exact HB.out | apply below_alloc | apply pw_below_drewN | apply below_drew1 | refine below_set ?_ GB101.out | refine below_set ?_ GE128.out | refine below_set ?_ GE131.out | refine below_set ?_ GE132.out | refine below_set ?_ GE140.out) | exact HB.out)⟩⟩
                ·rw [if_neg c100] at H
                 exact absurd H (by simp)
               ·rw [if_neg c99] at H
                exact absurd H (by simp)
              ·rw [if_neg c98] at H
               exact absurd H (by simp)
             ·rw [if_neg c97] at H
              exact absurd H (by simp)
           ·as_aux_lemma =>
             rw [if_neg c96] at H
             have c96b0 : decide (0 ≤ t150) = false := decide_eq_false c96
             clear c96
             by_cases c116 : 0 ≤ ((rd_T34 l1 x7_2).f2)
             ·rw [if_pos c116] at H
              have c116b0 : decide (0 ≤ ((rd_T34 l1 x7_2).f2)) = true := decide_eq_true c116
              clear c116
              by_cases c117 : ((rd_T34 l1 x7_2).f2) < 4
              ·rw [if_pos c117] at H
               have c117b0 : decide (((rd_T34 l1 x7_2).f2) < 4) = true := decide_eq_true c117
               clear c117
               by_cases c118 : x133001_2.length < 8796093022208
               ·rw [if_pos c118] at H
                have LMc118 := Aside0.mk c118
                clear c118
                obtain ⟨y152, hy152⟩ : ∃ y_ : List (S36), y_ = (x133001_2 ++ [(⟨(rd_T34 l1 x7_2).f1, rd [x132000_2, x132001_2, x132002_2, x132003_2] ((rd_T34 l1 x7_2).f2)⟩ : S36)]) := ⟨_, rfl⟩
                replace H : (impl_ExecRun.j2 k2 l0 l1 x7_2 x132000_2 x132001_2 x132002_2 x132003_2 x133000_2 y152 0 0) = some (r1, r2, r3, r4) := by first | (rw [hy152]; with_reducible exact H) | (have H2_ := (Option.bind_some _ _).symm.trans H; rw [hy152]; with_reducible exact H2_) | (have H2_ := (Option.bind_some _ _).symm.trans H; with_reducible exact H2_) | with_reducible exact H | (rw [hy152]; exact H) | exact H
                have Ny152 := Aside0.mk hy152
                clear hy152
                have H' := Aside0.mk H
                clear H
                have hnb119 := NB132_128.out
                have hnc119 := NB128_132.out
                have hnb120 := NB132_131.out
                have hnc120 := NB131_132.out
                have hnb121 := NB132_140.out
                have hnc121 := NB140_132.out
                have hcz122_0 : w21.cell? ⟨gb132, 0, none⟩ = some (u133000) := (blk_cell BK132.out 0).trans rfl
                have hcz122_1 : w21.cell? ⟨gb132, 1, none⟩ = some (u133001) := (blk_cell BK132.out 1).trans rfl
                have hcz122_2 := bc2_ BK132.out
                have hcz122_3 := bc3_ BK132.out
                have hfz122_0 := blk_frozen BK132.out 0
                have hfz122_1 := blk_frozen BK132.out 1
                have hfz122_2 := blk_frozen BK132.out 2
                have hfz122_3 := blk_frozen BK132.out 3
                have hnb123 := NB140_128.out
                have hnc123 := NB128_140.out
                have hnb124 := NB140_131.out
                have hnc124 := NB131_140.out
                have hcz125_0 := bc0_ BK140.out
                have hcz125_1 := bc1_ BK140.out
                have hcz125_2 := bc2_ BK140.out
                have hcz125_3 := bc3_ BK140.out
                have hfz125_0 := blk_frozen BK140.out 0
                have hfz125_1 := blk_frozen BK140.out 1
                have hfz125_2 := blk_frozen BK140.out 2
                have hfz125_3 := blk_frozen BK140.out 3
                obtain ⟨Ao126, co126, eo126⟩ := Kd.R_slice HO_133000.out
                subst eo126
                obtain ⟨Ao127, co127, eo127⟩ := Kd.R_slice HO_133001.out
                subst eo127
                try go_wp2_with (first | ((with_reducible refine gate_callee (f := 61) rfl ?_); refine goesL_ (some 85) rfl rfl Try.func61 (by kernel_rfl) rfl #[.agg #[.slice Ao126 x133000_2.length co126, .slice Ao127 x133001_2.length co127, .int .i64 0, .int .i64 0], .int .i64 ((rd_T34 l1 x7_2).f1)] rfl zq1_ ?_; (with_reducible refine (impl_putAt.calls k2 _ _ x133000_2 _ _ x133001_2 0 0 ((rd_T34 l1 x7_2).f1) t150 _ ?side1 ?side2 ?side3 ?side4 A95.out).mono ?_); (case side1 => refine (Kd.R_reads' (e := 48) (base := w.heap.size) (ok := fun k_ => True) (n := x133000_2.length) (c := co126) ?_).2.2; exact zq2_); (case side2 => exact zq67_); (case side3 => refine (Kd.R_reads' (e := 36) (base := w.heap.size) (ok := fun k_ => True) (n := x133001_2.length) (c := co127) ?_).2.2; exact zq3_); (case side4 => exact zq68_); rintro e w128 ⟨rfl, hb⟩; refine ⟨_, rfl, ?_⟩; have n_ := A7_ (Kd.R_below zq2_ hb) (Kd.R_below zq3_ hb) (blk_below (g := gb128) (o := .cells #[.slice none 0 0, .slice none 0 0, .int .i64 x129002_2, .int .i64 x129003_2] 30 (0, 0)) zq57_ hb) (blk_below (g := gb131) (o := .cells #[.int .i64 x132000_2, .int .i64 x132001_2, .int .i64 x132002_2, .int .i64 x132003_2] 86 (0, 0)) zq59_ hb) (blk_below (g := gb132) (o := .cells #[.slice Ao126 x133000_2.length co126, .slice Ao127 x133001_2.length co127, .int .i64 0, .int .i64 0] 30 (0, 0)) zq5b_ hb) (blk_below (g := gb140) (o := .cells #[.int .i64 ((rd_T34 l1 x7_2).f0), .int .i64 ((rd_T34 l1 x7_2).f1), .int .i64 ((rd_T34 l1 x7_2).f2), .int .i64 ((rd_T34 l1 x7_2).f3)] 34 (0, 0)) zq64_ hb) (below_step zq80_ hb); clear HO_133000 HO_133001 BK128 BK131 BK132 BK140 HB; obtain ⟨HO_133000, HO_133001, BK128, BK131, BK132, BK140, HB⟩ := n_; (try clear hb)))
                have n_ := A7_ (Kd.R_drew HO_133000.out) (Kd.R_drew HO_133001.out) (blk_drew BK128.out) (blk_drew BK131.out) (blk_drew BK132.out) (blk_drew BK140.out) (below_drew1 HB.out)
                clear HO_133000 HO_133001 BK128 BK131 BK132 BK140 HB
                obtain ⟨HO_133000, HO_133001, BK128, BK131, BK132, BK140, HB⟩ := n_
                have hnb131 := NB131_128.out
                have hnc131 := NB128_131.out
                have p130_ : 0 ≤ ((rd_T34 l1 x7_2).f2) := of_decide_eq_true zq71_
                have q130_ : ((rd_T34 l1 x7_2).f2) < 4 := of_decide_eq_true zq71_
                have hxx130 := ixcellI4 ((rd_T34 l1 x7_2).f2) p130_ q130_ BK131.out
                have hxf130 := blk_frozen BK131.out ((rd_T34 l1 x7_2).f2).toNat
                have pt130_ := eq_true p130_
                have qt130_ := eq_true q130_
                refine start_ (n := 13) (S := fun w' => w'.cell? ⟨gb132, 0, none⟩ = some (.slice Ao126 x133000_2.length co126) ∧ w'.cell? ⟨gb132, 1, none⟩ = some (.slice Ao127 x133001_2.length co127) ∧ w'.cell? ⟨gb132, 2, none⟩ = some (.int .i64 0) ∧ w'.cell? ⟨gb132, 3, none⟩ = some (.int .i64 0) ∧ w'.cell? ⟨gb140, 0, none⟩ = some (.int .i64 ((rd_T34 l1 x7_2).f0)) ∧ w'.cell? ⟨gb140, 1, none⟩ = some (.int .i64 ((rd_T34 l1 x7_2).f1)) ∧ w'.cell? ⟨gb140, 2, none⟩ = some (.int .i64 ((rd_T34 l1 x7_2).f2)) ∧ w'.cell? ⟨gb140, 3, none⟩ = some (.int .i64 ((rd_T34 l1 x7_2).f3)) ∧ w'.cell? ⟨gb131, 0, none⟩ = some (.int .i64 x132000_2) ∧ w'.cell? ⟨gb131, 1, none⟩ = some (.int .i64 x132001_2) ∧ w'.cell? ⟨gb131, 2, none⟩ = some (.int .i64 x132002_2) ∧ w'.cell? ⟨gb131, 3, none⟩ = some (.int .i64 x132003_2) ∧ w'.cell? ⟨gb131, ((rd_T34 l1 x7_2).f2).toNat, none⟩ = some (.int .i64 (rd [x132000_2, x132001_2, x132002_2, x132003_2] ((rd_T34 l1 x7_2).f2)))) (ds := [12]) #[false, false, false, false, false, false, false, false, false, false, false, false, false] (by kernel_rfl) rfl rfl ⟨(blk_cell BK132.out 0).trans rfl, (blk_cell BK132.out 1).trans rfl, (blk_cell BK132.out 2).trans rfl, (blk_cell BK132.out 3).trans rfl, (blk_cell BK140.out 0).trans rfl, (blk_cell BK140.out 1).trans rfl, (blk_cell BK140.out 2).trans rfl, (blk_cell BK140.out 3).trans rfl, (blk_cell BK131.out 0).trans rfl, (blk_cell BK131.out 1).trans rfl, (blk_cell BK131.out 2).trans rfl, (blk_cell BK131.out 3).trans rfl, (ixcellI4 ((rd_T34 l1 x7_2).f2) p130_ q130_ BK131.out)⟩ (fun hHeld => ?_); refine with_tabW impl_ExecRun.tab21 impl_ExecRun.bits21 (fun HT_ HW_ => ?_)
                generalize w128.drew = w129 at HO_133000 HO_133001 BK128 BK131 BK132 BK140 HB hHeld ⊢
                refine pv_ (i := 0) (N := some 97) rfl rfl ?_
                refine pv_ (i := 2) (N := some 99) rfl rfl ?_
                refine pv_ (i := 4) (N := some 101) rfl rfl ?_
                refine tv_ (i := 1) (N := some 98) rfl rfl ?_
                refine tv_ (i := 3) (N := some 100) rfl rfl ?_
                refine tv_ (i := 5) (N := some 102) rfl rfl ?_
                refine pv_ (i := 6) (N := some 103) rfl rfl ?_
                refine tv_ (i := 7) (N := some 104) rfl rfl ?_
                refine pv_ (i := 8) (N := some 105) rfl rfl ?_
                refine on_ (i := 9) (N := some 106) rfl rfl (one_of HT_.out (by kernel_rfl)) (by decide) (fun K hK => ?_)
                refine value_ (w1 := ?_) (v := ?_) (by rfl) rfl ?_ ?_
                rotate_left 2
                ·go_simp
                 constructor
                 ·rfl
                 ·rfl
                refine hK.out _ _ ⟨(blk_cell (blk_alloc BK132.out _) 0).trans rfl, (blk_cell (blk_alloc BK132.out _) 1).trans rfl, (blk_cell (blk_alloc BK132.out _) 2).trans rfl, (blk_cell (blk_alloc BK132.out _) 3).trans rfl, (blk_cell (blk_alloc BK140.out _) 0).trans rfl, (blk_cell (blk_alloc BK140.out _) 1).trans rfl, (blk_cell (blk_alloc BK140.out _) 2).trans rfl, (blk_cell (blk_alloc BK140.out _) 3).trans rfl, (blk_cell (blk_alloc BK131.out _) 0).trans rfl, (blk_cell (blk_alloc BK131.out _) 1).trans rfl, (blk_cell (blk_alloc BK131.out _) 2).trans rfl, (blk_cell (blk_alloc BK131.out _) 3).trans rfl, (ixcellI4 ((rd_T34 l1 x7_2).f2) p130_ q130_ (blk_alloc BK131.out _))⟩ (fun hHeld => ?_)
                clear hK K
                refine norm_ (a' := ?_) ?_ ?_
                rotate_left
                ·show Act.put _ (some 106) _ = _
                 simp only [Act.put, sA_, sZ_, sS_, i64_w, i32_w]
                 rfl
                refine on_ (i := 10) (N := some 107) rfl rfl (one_of HT_.out (by kernel_rfl)) (by decide) (fun K hK => ?_)
                refine Kd.R_append_step k36 (w0 := w) w.heap.size (by rfl) (.tmp 98) (.tmp 106) 28 36 (.agg #[(.int .i64 0), (.int .i64 0)]) 16 rfl Try.underlying28 info36 rfl (by decide) (by omega) (.slice Ao127 x133001_2.length co127) x133001_2 (⟨(rd_T34 l1 x7_2).f1, rd [x132000_2, x132001_2, x132002_2, x132003_2] ((rd_T34 l1 x7_2).f2)⟩ : S36) [.int .i64 ((rd_T34 l1 x7_2).f1), .int .i64 (rd [x132000_2, x132001_2, x132002_2, x132003_2] ((rd_T34 l1 x7_2).f2))] (fun _ => True) (fun _ => False) rfl rfl ?aP (fun _ hk => hk.elim) ?aF ?aO ?aB ?aS ?aL ?_
                (case aP => exact k36_mkM _ _ _ (⟨(rd_T34 l1 x7_2).f1, rd [x132000_2, x132001_2, x132002_2, x132003_2] ((rd_T34 l1 x7_2).f2)⟩ : S36))
                (case aB => exact zq80_)
                (case aF => exact (fun _ _ => trivial))
                (case aO => exact zq25_)
                (case aS => exact (below_size zq80_))
                (case aL => have := LMc118.out; omega)
                intro v153 w132 ho hb hg hat
                rw [← Ny152.out] at ho
                have n_ := A7_ (Kd.R_over' zq24_ (Kd.R_typed zq25_) (by decide) hg) (blk_grown (g := gb128) (o := .cells #[.slice none 0 0, .slice none 0 0, .int .i64 x129002_2, .int .i64 x129003_2] 30 (0, 0)) zq36_ hg (Kd.R_ne HO_133001.out BK128.out (by decide))) (blk_grown (g := gb131) (o := .cells #[.int .i64 x132000_2, .int .i64 x132001_2, .int .i64 x132002_2, .int .i64 x132003_2] 86 (0, 0)) zq37_ hg (Kd.R_ne HO_133001.out BK131.out (by decide))) (blk_grown (g := gb132) (o := .cells #[.slice Ao126 x133000_2.length co126, .slice Ao127 x133001_2.length co127, .int .i64 0, .int .i64 0] 30 (0, 0)) zq38_ hg (Kd.R_ne HO_133001.out BK132.out (by decide))) (blk_grown (g := gb140) (o := .cells #[.int .i64 ((rd_T34 l1 x7_2).f0), .int .i64 ((rd_T34 l1 x7_2).f1), .int .i64 ((rd_T34 l1 x7_2).f2), .int .i64 ((rd_T34 l1 x7_2).f3)] 34 (0, 0)) zq39_ hg (Kd.R_ne HO_133001.out BK140.out (by decide))) (hb) (ho)
                clear HO_133000 BK128 BK131 BK132 BK140 HB HO_133001
                obtain ⟨HO_133000, BK128, BK131, BK132, BK140, HB, HO154⟩ := n_
                clear ho hb hg hat
                obtain ⟨Ao133, co133, eo133⟩ := Kd.R_slice HO154.out
                (first | subst eo133 | (injection eo133 with f1_ f2_ f3_; have f4_ := f1_.symm; have f5_ := f3_.symm; clear f1_ f2_ f3_; subst f4_; subst f5_))
                refine hK.out _ _ ⟨(blk_cell BK132.out 0).trans rfl, (blk_cell BK132.out 1).trans rfl, (blk_cell BK132.out 2).trans rfl, (blk_cell BK132.out 3).trans rfl, (blk_cell BK140.out 0).trans rfl, (blk_cell BK140.out 1).trans rfl, (blk_cell BK140.out 2).trans rfl, (blk_cell BK140.out 3).trans rfl, (blk_cell BK131.out 0).trans rfl, (blk_cell BK131.out 1).trans rfl, (blk_cell BK131.out 2).trans rfl, (blk_cell BK131.out 3).trans rfl, (ixcellI4 ((rd_T34 l1 x7_2).f2) p130_ q130_ BK131.out)⟩ (fun hHeld => ?_)
                clear hK K
                refine norm_ (a' := ?_) ?_ ?_
                rotate_left
                ·show Act.put _ (some 107) _ = _
                 simp only [Act.put, sA_, sZ_, sS_, i64_w, i32_w]
                 rfl
                refine pv_ (i := 11) (N := some 108) rfl rfl ?_
                refine last_ (i := 12) (N := none) #[true, true, true, true, true, true, true, true, true, true, true, true, true] rfl rfl (one_of HT_.out (by kernel_rfl)) (by decide) (fun K hK => ?_)
                have hs134 : w132.cell? ⟨gb132, 1, none⟩ = some (.slice Ao127 x133001_2.length co127) := (blk_cell BK132.out 1).trans rfl
                have hfs134 := blk_frozen BK132.out 1
                have hns134_0 := NB128_132.out
                have hns134_1 := NB131_132.out
                have hns134_3 := NB140_132.out
                have hms134_0 := NB132_128.out
                have hms134_1 := NB132_131.out
                have hms134_3 := NB132_140.out
                refine skip_ (w1 := ?_) (by rfl) rfl ?_ ?_
                rotate_left
                ·go_simp
                 rfl
                refine hK.out _ _ ?_
                clear hK K
                refine done_ (done_of HT_.out (by kernel_rfl)) ?_
                try go_wp2
                go_meet
                case rel => exact ⟨_, (x7_2), (x129002_2), (x129003_2), (x132000_2), (x132001_2), (x132002_2), (x132003_2), (x133000_2), (y152), (.slice Ao126 x133000_2.length co126), (.slice Ao133 y152.length co133), zq76_, H', ⟨zq77_⟩, ⟨by (with_reducible repeat (first | apply Kd.R_alloc | apply Kd.R_drewN | apply Kd.R_drew)); exact Kd.R_mono (Kd.R_far (p := ⟨gb132, 1, none⟩) (Kd.R_types HO_133000.out BK132.out (by decide)) (fun _ hk => hk.2) (.slice Ao133 y152.length co133)) (fun _ hk => trivial)⟩, ⟨by (with_reducible repeat (first | apply Kd.R_alloc | apply Kd.R_drewN | apply Kd.R_drew)); exact Kd.R_mono (Kd.R_far (p := ⟨gb132, 1, none⟩) (Kd.R_types HO154.out BK132.out (by decide)) (fun _ hk => hk.2) (.slice Ao133 y152.length co133)) (fun _ hk => trivial)⟩, ⟨zq56_⟩, ⟨zq58_⟩, ⟨by (with_reducible repeat (first | refine blk_drewN ?_ _ | refine blk_drew ?_ | refine blk_alloc ?_ _)); refine blk_put (cs := #[.slice Ao126 x133000_2.length co126, .slice Ao127 x133001_2.length co127, .int .i64 0, .int .i64 0]) ?_ 1 _ rfl; (with_reducible repeat (first | refine blk_drewN ?_ _ | refine blk_drew ?_ | refine blk_alloc ?_ _)); exact BK132.out⟩, ⟨zq5d_⟩, ⟨zq80_⟩⟩
               ·rw [if_neg c118] at H
                exact absurd H (by simp)
              ·rw [if_neg c117] at H
               exact absurd H (by simp)
             ·rw [if_neg c116] at H
              exact absurd H (by simp)
          ·rw [if_neg c94] at H
           have c94b0 : (((rd_T34 l1 x7_2).f0) == 2) = false := beq_eq_false_iff_ne.mpr c94
           have c94b1 : (((rd_T34 l1 x7_2).f0) != 2) = true := bne_iff_ne.mpr c94
           by_cases c135 : ((rd_T34 l1 x7_2).f0) = 3
           ·as_aux_lemma =>
             rw [if_pos c135] at H
             have c135b0 : (((rd_T34 l1 x7_2).f0) == 3) = true := beq_iff_eq.mpr c135
             have c135b1 : (((rd_T34 l1 x7_2).f0) != 3) = false := bne_eq_false_iff_eq.mpr c135
             clear c135
             by_cases c136 : 0 ≤ ((rd_T34 l1 x7_2).f1)
             ·rw [if_pos c136] at H
              have c136b0 : decide (0 ≤ ((rd_T34 l1 x7_2).f1)) = true := decide_eq_true c136
              clear c136
              by_cases c137 : ((rd_T34 l1 x7_2).f1) < 4
              ·rw [if_pos c137] at H
               have c137b0 : decide (((rd_T34 l1 x7_2).f1) < 4) = true := decide_eq_true c137
               clear c137
               have H' := Aside0.mk H
               clear H
               have hnb138 := NB140_128.out
               have hnc138 := NB128_140.out
               have hnb139 := NB140_131.out
               have hnc139 := NB131_140.out
               have hnb140 := NB140_132.out
               have hnc140 := NB132_140.out
               have hcz141_0 := bc0_ BK140.out
               have hcz141_1 := bc1_ BK140.out
               have hcz141_2 := bc2_ BK140.out
               have hcz141_3 := bc3_ BK140.out
               have hfz141_0 := blk_frozen BK140.out 0
               have hfz141_1 := blk_frozen BK140.out 1
               have hfz141_2 := blk_frozen BK140.out 2
               have hfz141_3 := blk_frozen BK140.out 3
               have hnb143 := NB131_128.out
               have hnc143 := NB128_131.out
               have hnb144 := NB131_132.out
               have hnc144 := NB132_131.out
               have p142_ : 0 ≤ ((rd_T34 l1 x7_2).f1) := of_decide_eq_true zq71_
               have q142_ : ((rd_T34 l1 x7_2).f1) < 4 := of_decide_eq_true zq71_
               have hxx142 := ixcellI4 (w := w21) ((rd_T34 l1 x7_2).f1) p142_ q142_ BK131.out
               have hxf142 := blk_frozen BK131.out ((rd_T34 l1 x7_2).f1).toNat
               have pt142_ := eq_true p142_
               have qt142_ := eq_true q142_
               go_wp2_with (first | ((with_reducible refine gate_store (t := 3) (p := 115) rfl ?_); refine store_event (t := 3) (p := 115) (v := ?vo_w145) (w1 := ?wo_w145) ?hg ?ho ?hn ?hr ?_; (case ho => rfl); (case hg => rfl); (case hn => rfl); (case hr => first | (go_simp; done) | (go_simp; rfl)); intro w145 hw; have n0_ : Aside0 (Kd.R k48 48 w145 w.heap.size (fun _ => True) u133000 x133000_2) := ⟨(by rw [hw]; exact (by (with_reducible repeat (first | apply Kd.R_alloc | apply Kd.R_drewN | apply Kd.R_drew)); exact Kd.R_mono (Kd.R_far (p := ⟨gb131, ((rd_T34 l1 x7_2).f1).toNat, none⟩) (Kd.R_far (p := ⟨gb140, 3, none⟩) (Kd.R_far (p := ⟨gb140, 2, none⟩) (Kd.R_far (p := ⟨gb140, 1, none⟩) (Kd.R_far (p := ⟨gb140, 0, none⟩) (Kd.R_types (Kd.R_types HO_133000.out BK140.out (by decide)) BK131.out (by decide)) (fun _ hk => hk.1.2) (.int .i64 ((rd_T34 l1 x7_2).f0))) (fun _ hk => hk.1.2) (.int .i64 ((rd_T34 l1 x7_2).f1))) (fun _ hk => hk.1.2) (.int .i64 ((rd_T34 l1 x7_2).f2))) (fun _ hk => hk.1.2) (.int .i64 ((rd_T34 l1 x7_2).f3))) (fun _ hk => hk.2) (.int .i64 ((rd_T34 l1 x7_2).f3))) (fun _ hk => trivial)))⟩; have n1_ : Aside0 (Kd.R k36 36 w145 w.heap.size (fun _ => True) u133001 x133001_2) := ⟨(by rw [hw]; exact (by (with_reducible repeat (first | apply Kd.R_alloc | apply Kd.R_drewN | apply Kd.R_drew)); exact Kd.R_mono (Kd.R_far (p := ⟨gb131, ((rd_T34 l1 x7_2).f1).toNat, none⟩) (Kd.R_far (p := ⟨gb140, 3, none⟩) (Kd.R_far (p := ⟨gb140, 2, none⟩) (Kd.R_far (p := ⟨gb140, 1, none⟩) (Kd.R_far (p := ⟨gb140, 0, none⟩) (Kd.R_types (Kd.R_types HO_133001.out BK140.out (by decide)) BK131.out (by decide)) (fun _ hk => hk.1.2) (.int .i64 ((rd_T34 l1 x7_2).f0))) (fun _ hk => hk.1.2) (.int .i64 ((rd_T34 l1 x7_2).f1))) (fun _ hk => hk.1.2) (.int .i64 ((rd_T34 l1 x7_2).f2))) (fun _ hk => hk.1.2) (.int .i64 ((rd_T34 l1 x7_2).f3))) (fun _ hk => hk.2) (.int .i64 ((rd_T34 l1 x7_2).f3))) (fun _ hk => trivial)))⟩; have n2_ : Aside0 (w145.heap[gb128]? = some (.cells #[.slice none 0 0, .slice none 0 0, .int .i64 x129002_2, .int .i64 x129003_2] 30 (0, 0))) := ⟨(by rw [hw]; exact (by (with_reducible repeat (first | refine blk_drewN ?_ _ | refine blk_drew ?_ | refine blk_alloc ?_ _)); refine blk_far ?_ NB128_131.out _; (with_reducible repeat (first | refine blk_drewN ?_ _ | refine blk_drew ?_ | refine blk_alloc ?_ _)); refine blk_far ?_ NB128_140.out _; (with_reducible repeat (first | refine blk_drewN ?_ _ | refine blk_drew ?_ | refine blk_alloc ?_ _)); refine blk_far ?_ NB128_140.out _; (with_reducible repeat (first | refine blk_drewN ?_ _ | refine blk_drew ?_ | refine blk_alloc ?_ _)); refine blk_far ?_ NB128_140.out _; (with_reducible repeat (first | refine blk_drewN ?_ _ | refine blk_drew ?_ | refine blk_alloc ?_ _)); refine blk_far ?_ NB128_140.out _; (with_reducible repeat (first | refine blk_drewN ?_ _ | refine blk_drew ?_ | refine blk_alloc ?_ _)); exact BK128.out))⟩; have n3_ : Aside0 (w145.heap[gb131]? = some (.cells #[.int .i64 (ixI ((rd_T34 l1 x7_2).f1) 0 ((rd_T34 l1 x7_2).f3) x132000_2), .int .i64 (ixI ((rd_T34 l1 x7_2).f1) 1 ((rd_T34 l1 x7_2).f3) x132001_2), .int .i64 (ixI ((rd_T34 l1 x7_2).f1) 2 ((rd_T34 l1 x7_2).f3) x132002_2), .int .i64 (ixI ((rd_T34 l1 x7_2).f1) 3 ((rd_T34 l1 x7_2).f3) x132003_2)] 86 (0, 0))) := ⟨(by rw [hw]; exact (by (with_reducible repeat (first | refine blk_drewN ?_ _ | refine blk_drew ?_ | refine blk_alloc ?_ _)); refine blk_put (cs := #[.int .i64 x132000_2, .int .i64 x132001_2, .int .i64 x132002_2, .int .i64 x132003_2]) ?_ ((rd_T34 l1 x7_2).f1).toNat _ (ixputI4 ((rd_T34 l1 x7_2).f1) ((rd_T34 l1 x7_2).f3) x132000_2 x132001_2 x132002_2 x132003_2 p142_ q142_); (with_reducible repeat (first | refine blk_drewN ?_ _ | refine blk_drew ?_ | refine blk_alloc ?_ _)); refine blk_far ?_ NB131_140.out _; (with_reducible repeat (first | refine blk_drewN ?_ _ | refine blk_drew ?_ | refine blk_alloc ?_ _)); refine blk_far ?_ NB131_140.out _; (with_reducible repeat (first | refine blk_drewN ?_ _ | refine blk_drew ?_ | refine blk_alloc ?_ _)); refine blk_far ?_ NB131_140.out _; (with_reducible repeat (first | refine blk_drewN ?_ _ | refine blk_drew ?_ | refine blk_alloc ?_ _)); refine blk_far ?_ NB131_140.out _; (with_reducible repeat (first | refine blk_drewN ?_ _ | refine blk_drew ?_ | refine blk_alloc ?_ _)); exact BK131.out))⟩; have n4_ : Aside0 (w145.heap[gb132]? = some (.cells #[u133000, u133001, .int .i64 0, .int .i64 0] 30 (0, 0))) := ⟨(by rw [hw]; exact (by (with_reducible repeat (first | refine blk_drewN ?_ _ | refine blk_drew ?_ | refine blk_alloc ?_ _)); refine blk_far ?_ NB132_131.out _; (with_reducible repeat (first | refine blk_drewN ?_ _ | refine blk_drew ?_ | refine blk_alloc ?_ _)); refine blk_far ?_ NB132_140.out _; (with_reducible repeat (first | refine blk_drewN ?_ _ | refine blk_drew ?_ | refine blk_alloc ?_ _)); refine blk_far ?_ NB132_140.out _; (with_reducible repeat (first | refine blk_drewN ?_ _ | refine blk_drew ?_ | refine blk_alloc ?_ _)); refine blk_far ?_ NB132_140.out _; (with_reducible repeat (first | refine blk_drewN ?_ _ | refine blk_drew ?_ | refine blk_alloc ?_ _)); refine blk_far ?_ NB132_140.out _; (with_reducible repeat (first | refine blk_drewN ?_ _ | refine blk_drew ?_ | refine blk_alloc ?_ _)); exact BK132.out))⟩; have n5_ : Aside0 (w145.heap[gb140]? = some (.cells #[.int .i64 ((rd_T34 l1 x7_2).f0), .int .i64 ((rd_T34 l1 x7_2).f1), .int .i64 ((rd_T34 l1 x7_2).f2), .int .i64 ((rd_T34 l1 x7_2).f3)] 34 (0, 0))) := ⟨(by rw [hw]; exact (by (with_reducible repeat (first | refine blk_drewN ?_ _ | refine blk_drew ?_ | refine blk_alloc ?_ _)); refine blk_far ?_ NB140_131.out _; (with_reducible repeat (first | refine blk_drewN ?_ _ | refine blk_drew ?_ | refine blk_alloc ?_ _)); refine blk_put (cs := #[.int .i64 ((rd_T34 l1 x7_2).f0), .int .i64 ((rd_T34 l1 x7_2).f1), .int .i64 ((rd_T34 l1 x7_2).f2), .int .i64 0]) ?_ 3 _ rfl; (with_reducible repeat (first | refine blk_drewN ?_ _ | refine blk_drew ?_ | refine blk_alloc ?_ _)); refine blk_put (cs := #[.int .i64 ((rd_T34 l1 x7_2).f0), .int .i64 ((rd_T34 l1 x7_2).f1), .int .i64 0, .int .i64 0]) ?_ 2 _ rfl; (with_reducible repeat (first | refine blk_drewN ?_ _ | refine blk_drew ?_ | refine blk_alloc ?_ _)); refine blk_put (cs := #[.int .i64 ((rd_T34 l1 x7_2).f0), .int .i64 0, .int .i64 0, .int .i64 0]) ?_ 1 _ rfl; (with_reducible repeat (first | refine blk_drewN ?_ _ | refine blk_drew ?_ | refine blk_alloc ?_ _)); refine blk_put (cs := #[.int .i64 0, .int .i64 0, .int .i64 0, .int .i64 0]) ?_ 0 _ rfl; (with_reducible repeat (first | refine blk_drewN ?_ _ | refine blk_drew ?_ | refine blk_alloc ?_ _)); exact BK140.out))⟩; have n6_ : Aside0 (Below w.heap.size w w145) := ⟨(by rw [hw]; exact zq80_)⟩; clear hw; clear HO_133000; clear HO_133001; clear BK128; clear BK131; clear BK132; clear BK140; clear HB; have HO_133000 := n0_; have HO_133001 := n1_; have BK128 := n2_; have BK131 := n3_; have BK132 := n4_; have BK140 := n5_; have HB := n6_; clear n0_ n1_ n2_ n3_ n4_ n5_ n6_))
               go_meet
               case rel => exact ⟨_, (x7_2), (x129002_2), (x129003_2), ((ixI ((rd_T34 l1 x7_2).f1) 0 ((rd_T34 l1 x7_2).f3) x132000_2)), ((ixI ((rd_T34 l1 x7_2).f1) 1 ((rd_T34 l1 x7_2).f3) x132001_2)), ((ixI ((rd_T34 l1 x7_2).f1) 2 ((rd_T34 l1 x7_2).f3) x132002_2)), ((ixI ((rd_T34 l1 x7_2).f1) 3 ((rd_T34 l1 x7_2).f3) x132003_2)), (x133000_2), (x133001_2), (u133000), (u133001), zq76_, H', ⟨zq77_⟩, ⟨zq24_⟩, ⟨zq25_⟩, ⟨zq36_⟩, ⟨zq37_⟩, ⟨zq38_⟩, ⟨zq39_⟩, ⟨zq80_⟩⟩
              ·rw [if_neg c137] at H
               exact absurd H (by simp)
             ·rw [if_neg c136] at H
              exact absurd H (by simp)
           ·rw [if_neg c135] at H
            have c135b0 : (((rd_T34 l1 x7_2).f0) == 3) = false := beq_eq_false_iff_ne.mpr c135
            have c135b1 : (((rd_T34 l1 x7_2).f0) != 3) = true := bne_iff_ne.mpr c135
            by_cases c146 : ((rd_T34 l1 x7_2).f0) = 4
            ·as_aux_lemma =>
              rw [if_pos c146] at H
              have c146b0 : (((rd_T34 l1 x7_2).f0) == 4) = true := beq_iff_eq.mpr c146
              have c146b1 : (((rd_T34 l1 x7_2).f0) != 4) = false := bne_eq_false_iff_eq.mpr c146
              clear c146
              by_cases c147 : 0 ≤ ((rd_T34 l1 x7_2).f1)
              ·rw [if_pos c147] at H
               have c147b0 : decide (0 ≤ ((rd_T34 l1 x7_2).f1)) = true := decide_eq_true c147
               clear c147
               by_cases c148 : ((rd_T34 l1 x7_2).f1) < 4
               ·rw [if_pos c148] at H
                have c148b0 : decide (((rd_T34 l1 x7_2).f1) < 4) = true := decide_eq_true c148
                clear c148
                by_cases c149 : 0 ≤ ((rd_T34 l1 x7_2).f2)
                ·rw [if_pos c149] at H
                 have c149b0 : decide (0 ≤ ((rd_T34 l1 x7_2).f2)) = true := decide_eq_true c149
                 clear c149
                 by_cases c150 : ((rd_T34 l1 x7_2).f2) < 4
                 ·rw [if_pos c150] at H
                  have c150b0 : decide (((rd_T34 l1 x7_2).f2) < 4) = true := decide_eq_true c150
                  clear c150
                  have H' := Aside0.mk H
                  clear H
                  try go_wp2
                  have n0_ : Aside0 (Kd.R k48 48 ((((w21.setCell ⟨gb140, 0, none⟩ (.int .i64 ((rd_T34 l1 x7_2).f0))).setCell ⟨gb140, 1, none⟩ (.int .i64 ((rd_T34 l1 x7_2).f1))).setCell ⟨gb140, 2, none⟩ (.int .i64 ((rd_T34 l1 x7_2).f2))).setCell ⟨gb140, 3, none⟩ (.int .i64 ((rd_T34 l1 x7_2).f3))) w.heap.size (fun _ => True) u133000 x133000_2) := ⟨zq2e_⟩
                  have n1_ : Aside0 (Kd.R k36 36 ((((w21.setCell ⟨gb140, 0, none⟩ (.int .i64 ((rd_T34 l1 x7_2).f0))).setCell ⟨gb140, 1, none⟩ (.int .i64 ((rd_T34 l1 x7_2).f1))).setCell ⟨gb140, 2, none⟩ (.int .i64 ((rd_T34 l1 x7_2).f2))).setCell ⟨gb140, 3, none⟩ (.int .i64 ((rd_T34 l1 x7_2).f3))) w.heap.size (fun _ => True) u133001 x133001_2) := ⟨zq2f_⟩
                  have n2_ : Aside0 (((((w21.setCell ⟨gb140, 0, none⟩ (.int .i64 ((rd_T34 l1 x7_2).f0))).setCell ⟨gb140, 1, none⟩ (.int .i64 ((rd_T34 l1 x7_2).f1))).setCell ⟨gb140, 2, none⟩ (.int .i64 ((rd_T34 l1 x7_2).f2))).setCell ⟨gb140, 3, none⟩ (.int .i64 ((rd_T34 l1 x7_2).f3))).heap[gb128]? = some (.cells #[.slice none 0 0, .slice none 0 0, .int .i64 x129002_2, .int .i64 x129003_2] 30 (0, 0))) := ⟨zq57_⟩
                  have n3_ : Aside0 (((((w21.setCell ⟨gb140, 0, none⟩ (.int .i64 ((rd_T34 l1 x7_2).f0))).setCell ⟨gb140, 1, none⟩ (.int .i64 ((rd_T34 l1 x7_2).f1))).setCell ⟨gb140, 2, none⟩ (.int .i64 ((rd_T34 l1 x7_2).f2))).setCell ⟨gb140, 3, none⟩ (.int .i64 ((rd_T34 l1 x7_2).f3))).heap[gb131]? = some (.cells #[.int .i64 x132000_2, .int .i64 x132001_2, .int .i64 x132002_2, .int .i64 x132003_2] 86 (0, 0))) := ⟨zq59_⟩
                  have n4_ : Aside0 (((((w21.setCell ⟨gb140, 0, none⟩ (.int .i64 ((rd_T34 l1 x7_2).f0))).setCell ⟨gb140, 1, none⟩ (.int .i64 ((rd_T34 l1 x7_2).f1))).setCell ⟨gb140, 2, none⟩ (.int .i64 ((rd_T34 l1 x7_2).f2))).setCell ⟨gb140, 3, none⟩ (.int .i64 ((rd_T34 l1 x7_2).f3))).heap[gb132]? = some (.cells #[u133000, u133001, .int .i64 0, .int .i64 0] 30 (0, 0))) := ⟨zq5b_⟩
                  have n5_ : Aside0 (((((w21.setCell ⟨gb140, 0, none⟩ (.int .i64 ((rd_T34 l1 x7_2).f0))).setCell ⟨gb140, 1, none⟩ (.int .i64 ((rd_T34 l1 x7_2).f1))).setCell ⟨gb140, 2, none⟩ (.int .i64 ((rd_T34 l1 x7_2).f2))).setCell ⟨gb140, 3, none⟩ (.int .i64 ((rd_T34 l1 x7_2).f3))).heap[gb140]? = some (.cells #[.int .i64 ((rd_T34 l1 x7_2).f0), .int .i64 ((rd_T34 l1 x7_2).f1), .int .i64 ((rd_T34 l1 x7_2).f2), .int .i64 ((rd_T34 l1 x7_2).f3)] 34 (0, 0))) := ⟨zq64_⟩
                  have n6_ : Aside0 (Below w.heap.size w ((((w21.setCell ⟨gb140, 0, none⟩ (.int .i64 ((rd_T34 l1 x7_2).f0))).setCell ⟨gb140, 1, none⟩ (.int .i64 ((rd_T34 l1 x7_2).f1))).setCell ⟨gb140, 2, none⟩ (.int .i64 ((rd_T34 l1 x7_2).f2))).setCell ⟨gb140, 3, none⟩ (.int .i64 ((rd_T34 l1 x7_2).f3)))) := ⟨zq80_⟩
                  (try clear HO_133000)
                  (try clear HO_133001)
                  (try clear BK128)
                  (try clear BK131)
                  (try clear BK132)
                  (try clear BK140)
                  (try clear HB)
                  generalize ((((w21.setCell ⟨gb140, 0, none⟩ (.int .i64 ((rd_T34 l1 x7_2).f0))).setCell ⟨gb140, 1, none⟩ (.int .i64 ((rd_T34 l1 x7_2).f1))).setCell ⟨gb140, 2, none⟩ (.int .i64 ((rd_T34 l1 x7_2).f2))).setCell ⟨gb140, 3, none⟩ (.int .i64 ((rd_T34 l1 x7_2).f3))) = w151 at n0_ n1_ n2_ n3_ n4_ n5_ n6_ ⊢
                  have HO_133000 := n0_
                  have HO_133001 := n1_
                  have BK128 := n2_
                  have BK131 := n3_
                  have BK132 := n4_
                  have BK140 := n5_
                  have HB := n6_
                  clear n0_ n1_ n2_ n3_ n4_ n5_ n6_
                  have n_ := A7_ (Kd.R_drew HO_133000.out) (Kd.R_drew HO_133001.out) (blk_drew BK128.out) (blk_drew BK131.out) (blk_drew BK132.out) (blk_drew BK140.out) (below_drew1 HB.out)
                  clear HO_133000 HO_133001 BK128 BK131 BK132 BK140 HB
                  obtain ⟨HO_133000, HO_133001, BK128, BK131, BK132, BK140, HB⟩ := n_
                  have hnb154 := NB131_128.out
                  have hnc154 := NB128_131.out
                  have hnb155 := NB131_132.out
                  have hnc155 := NB132_131.out
                  have hnb156 := NB131_140.out
                  have hnc156 := NB140_131.out
                  have p153_ : 0 ≤ ((rd_T34 l1 x7_2).f1) := of_decide_eq_true zq71_
                  have q153_ : ((rd_T34 l1 x7_2).f1) < 4 := of_decide_eq_true zq71_
                  have hxx153 := ixcellI4 ((rd_T34 l1 x7_2).f1) p153_ q153_ BK131.out
                  have hxf153 := blk_frozen BK131.out ((rd_T34 l1 x7_2).f1).toNat
                  have pt153_ := eq_true p153_
                  have qt153_ := eq_true q153_
                  have p157_ : 0 ≤ ((rd_T34 l1 x7_2).f2) := of_decide_eq_true zq71_
                  have q157_ : ((rd_T34 l1 x7_2).f2) < 4 := of_decide_eq_true zq71_
                  have hxx157 := ixcellI4 ((rd_T34 l1 x7_2).f2) p157_ q157_ BK131.out
                  have hxf157 := blk_frozen BK131.out ((rd_T34 l1 x7_2).f2).toNat
                  have pt157_ := eq_true p157_
                  have qt157_ := eq_true q157_
                  have p158_ : 0 ≤ ((rd_T34 l1 x7_2).f1) := of_decide_eq_true zq71_
                  have q158_ : ((rd_T34 l1 x7_2).f1) < 4 := of_decide_eq_true zq71_
                  have pt158_ := eq_true p158_
                  have qt158_ := eq_true q158_
                  refine start_ (n := 11) (S := fun w' => w'.cell? ⟨gb140, 0, none⟩ = some (.int .i64 ((rd_T34 l1 x7_2).f0)) ∧ w'.cell? ⟨gb140, 1, none⟩ = some (.int .i64 ((rd_T34 l1 x7_2).f1)) ∧ w'.cell? ⟨gb140, 2, none⟩ = some (.int .i64 ((rd_T34 l1 x7_2).f2)) ∧ w'.cell? ⟨gb140, 3, none⟩ = some (.int .i64 ((rd_T34 l1 x7_2).f3)) ∧ w'.cell? ⟨gb131, 0, none⟩ = some (.int .i64 x132000_2) ∧ w'.cell? ⟨gb131, 1, none⟩ = some (.int .i64 x132001_2) ∧ w'.cell? ⟨gb131, 2, none⟩ = some (.int .i64 x132002_2) ∧ w'.cell? ⟨gb131, 3, none⟩ = some (.int .i64 x132003_2) ∧ w'.cell? ⟨gb131, ((rd_T34 l1 x7_2).f1).toNat, none⟩ = some (.int .i64 (rd [x132000_2, x132001_2, x132002_2, x132003_2] ((rd_T34 l1 x7_2).f1))) ∧ w'.cell? ⟨gb131, ((rd_T34 l1 x7_2).f2).toNat, none⟩ = some (.int .i64 (rd [x132000_2, x132001_2, x132002_2, x132003_2] ((rd_T34 l1 x7_2).f2)))) (ds := [10]) #[false, false, false, false, false, false, false, false, false, false, false] (by kernel_rfl) rfl rfl ⟨(blk_cell BK140.out 0).trans rfl, (blk_cell BK140.out 1).trans rfl, (blk_cell BK140.out 2).trans rfl, (blk_cell BK140.out 3).trans rfl, (blk_cell BK131.out 0).trans rfl, (blk_cell BK131.out 1).trans rfl, (blk_cell BK131.out 2).trans rfl, (blk_cell BK131.out 3).trans rfl, (ixcellI4 ((rd_T34 l1 x7_2).f1) p153_ q153_ BK131.out), (ixcellI4 ((rd_T34 l1 x7_2).f2) p157_ q157_ BK131.out)⟩ (fun hHeld => ?_); refine with_tabW impl_ExecRun.tab25 impl_ExecRun.bits25 (fun HT_ HW_ => ?_)
                  generalize w151.drew = w152 at HO_133000 HO_133001 BK128 BK131 BK132 BK140 HB hHeld ⊢
                  refine pv_ (i := 0) (N := some 118) rfl rfl ?_
                  refine pv_ (i := 4) (N := some 122) rfl rfl ?_
                  refine tv_ (i := 1) (N := some 119) rfl rfl ?_
                  refine pv_ (i := 2) (N := some 120) rfl rfl ?_
                  refine tv_ (i := 3) (N := some 121) rfl rfl ?_
                  refine tv_ (i := 5) (N := some 123) rfl rfl ?_
                  refine pv_ (i := 6) (N := some 124) rfl rfl ?_
                  refine tv_ (i := 7) (N := some 125) rfl rfl ?_
                  refine pv_ (i := 8) (N := some 126) rfl rfl ?_
                  refine pv_ (i := 9) (N := some 127) rfl rfl ?_
                  refine last_ (i := 10) (N := none) #[true, true, true, true, true, true, true, true, true, true, true] rfl rfl (one_of HT_.out (by kernel_rfl)) (by decide) (fun K hK => ?_)
                  have h158_ := ixcellI4 ((rd_T34 l1 x7_2).f1) p158_ q158_ BK131.out
                  have hf158 := blk_frozen BK131.out ((rd_T34 l1 x7_2).f1).toNat
                  have hn158_0 := NB128_131.out
                  have hn158_2 := NB132_131.out
                  have hn158_3 := NB140_131.out
                  have hm158_0 := NB131_128.out
                  have hm158_2 := NB131_132.out
                  have hm158_3 := NB131_140.out
                  refine skip_ (w1 := ?_) (by rfl) rfl ?_ ?_
                  rotate_left
                  ·go_simp
                   rfl
                  refine hK.out _ _ ?_
                  clear hK K
                  refine done_ (done_of HT_.out (by kernel_rfl)) ?_
                  have n0_ : Aside0 (Kd.R k48 48 (w152.setCell ⟨gb131, ((rd_T34 l1 x7_2).f1).toNat, none⟩ (.int .i64 (wrap64 ((rd [x132000_2, x132001_2, x132002_2, x132003_2] ((rd_T34 l1 x7_2).f1)) + (rd [x132000_2, x132001_2, x132002_2, x132003_2] ((rd_T34 l1 x7_2).f2)))))) w.heap.size (fun _ => True) u133000 x133000_2) := ⟨by (with_reducible repeat (first | apply Kd.R_alloc | apply Kd.R_drewN | apply Kd.R_drew)); exact Kd.R_mono (Kd.R_far (p := ⟨gb131, ((rd_T34 l1 x7_2).f1).toNat, none⟩) (Kd.R_types HO_133000.out BK131.out (by decide)) (fun _ hk => hk.2) (.int .i64 (wrap64 ((rd [x132000_2, x132001_2, x132002_2, x132003_2] ((rd_T34 l1 x7_2).f1)) + (rd [x132000_2, x132001_2, x132002_2, x132003_2] ((rd_T34 l1 x7_2).f2)))))) (fun _ hk => trivial)⟩
                  have n1_ : Aside0 (Kd.R k36 36 (w152.setCell ⟨gb131, ((rd_T34 l1 x7_2).f1).toNat, none⟩ (.int .i64 (wrap64 ((rd [x132000_2, x132001_2, x132002_2, x132003_2] ((rd_T34 l1 x7_2).f1)) + (rd [x132000_2, x132001_2, x132002_2, x132003_2] ((rd_T34 l1 x7_2).f2)))))) w.heap.size (fun _ => True) u133001 x133001_2) := ⟨by (with_reducible repeat (first | apply Kd.R_alloc | apply Kd.R_drewN | apply Kd.R_drew)); exact Kd.R_mono (Kd.R_far (p := ⟨gb131, ((rd_T34 l1 x7_2).f1).toNat, none⟩) (Kd.R_types HO_133001.out BK131.out (by decide)) (fun _ hk => hk.2) (.int .i64 (wrap64 ((rd [x132000_2, x132001_2, x132002_2, x132003_2] ((rd_T34 l1 x7_2).f1)) + (rd [x132000_2, x132001_2, x132002_2, x132003_2] ((rd_T34 l1 x7_2).f2)))))) (fun _ hk => trivial)⟩
                  have n2_ : Aside0 ((w152.setCell ⟨gb131, ((rd_T34 l1 x7_2).f1).toNat, none⟩ (.int .i64 (wrap64 ((rd [x132000_2, x132001_2, x132002_2, x132003_2] ((rd_T34 l1 x7_2).f1)) + (rd [x132000_2, x132001_2, x132002_2, x132003_2] ((rd_T34 l1 x7_2).f2)))))).heap[gb128]? = some (.cells #[.slice none 0 0, .slice none 0 0, .int .i64 x129002_2, .int .i64 x129003_2] 30 (0, 0))) := ⟨zq55_⟩
                  have n3_ : Aside0 ((w152.setCell ⟨gb131, ((rd_T34 l1 x7_2).f1).toNat, none⟩ (.int .i64 (wrap64 ((rd [x132000_2, x132001_2, x132002_2, x132003_2] ((rd_T34 l1 x7_2).f1)) + (rd [x132000_2, x132001_2, x132002_2, x132003_2] ((rd_T34 l1 x7_2).f2)))))).heap[gb131]? = some (.cells #[.int .i64 (ixI ((rd_T34 l1 x7_2).f1) 0 (wrap64 ((rd [x132000_2, x132001_2, x132002_2, x132003_2] ((rd_T34 l1 x7_2).f1)) + (rd [x132000_2, x132001_2, x132002_2, x132003_2] ((rd_T34 l1 x7_2).f2)))) x132000_2), .int .i64 (ixI ((rd_T34 l1 x7_2).f1) 1 (wrap64 ((rd [x132000_2, x132001_2, x132002_2, x132003_2] ((rd_T34 l1 x7_2).f1)) + (rd [x132000_2, x132001_2, x132002_2, x132003_2] ((rd_T34 l1 x7_2).f2)))) x132001_2), .int .i64 (ixI ((rd_T34 l1 x7_2).f1) 2 (wrap64 ((rd [x132000_2, x132001_2, x132002_2, x132003_2] ((rd_T34 l1 x7_2).f1)) + (rd [x132000_2, x132001_2, x132002_2, x132003_2] ((rd_T34 l1 x7_2).f2)))) x132002_2), .int .i64 (ixI ((rd_T34 l1 x7_2).f1) 3 (wrap64 ((rd [x132000_2, x132001_2, x132002_2, x132003_2] ((rd_T34 l1 x7_2).f1)) + (rd [x132000_2, x132001_2, x132002_2, x132003_2] ((rd_T34 l1 x7_2).f2)))) x132003_2)] 86 (0, 0))) := ⟨by (with_reducible repeat (first | refine blk_drewN ?_ _ | refine blk_drew ?_ | refine blk_alloc ?_ _)); refine blk_put (cs := #[.int .i64 x132000_2, .int .i64 x132001_2, .int .i64 x132002_2, .int .i64 x132003_2]) ?_ ((rd_T34 l1 x7_2).f1).toNat _ (ixputI4 ((rd_T34 l1 x7_2).f1) (wrap64 ((rd [x132000_2, x132001_2, x132002_2, x132003_2] ((rd_T34 l1 x7_2).f1)) + (rd [x132000_2, x132001_2, x132002_2, x132003_2] ((rd_T34 l1 x7_2).f2)))) x132000_2 x132001_2 x132002_2 x132003_2 p158_ q158_); (with_reducible repeat (first | refine blk_drewN ?_ _ | refine blk_drew ?_ | refine blk_alloc ?_ _)); exact BK131.out⟩
                  have n4_ : Aside0 ((w152.setCell ⟨gb131, ((rd_T34 l1 x7_2).f1).toNat, none⟩ (.int .i64 (wrap64 ((rd [x132000_2, x132001_2, x132002_2, x132003_2] ((rd_T34 l1 x7_2).f1)) + (rd [x132000_2, x132001_2, x132002_2, x132003_2] ((rd_T34 l1 x7_2).f2)))))).heap[gb132]? = some (.cells #[u133000, u133001, .int .i64 0, .int .i64 0] 30 (0, 0))) := ⟨zq5a_⟩
                  have n5_ : Aside0 ((w152.setCell ⟨gb131, ((rd_T34 l1 x7_2).f1).toNat, none⟩ (.int .i64 (wrap64 ((rd [x132000_2, x132001_2, x132002_2, x132003_2] ((rd_T34 l1 x7_2).f1)) + (rd [x132000_2, x132001_2, x132002_2, x132003_2] ((rd_T34 l1 x7_2).f2)))))).heap[gb140]? = some (.cells #[.int .i64 ((rd_T34 l1 x7_2).f0), .int .i64 ((rd_T34 l1 x7_2).f1), .int .i64 ((rd_T34 l1 x7_2).f2), .int .i64 ((rd_T34 l1 x7_2).f3)] 34 (0, 0))) := ⟨zq5c_⟩
                  have n6_ : Aside0 (Below w.heap.size w (w152.setCell ⟨gb131, ((rd_T34 l1 x7_2).f1).toNat, none⟩ (.int .i64 (wrap64 ((rd [x132000_2, x132001_2, x132002_2, x132003_2] ((rd_T34 l1 x7_2).f1)) + (rd [x132000_2, x132001_2, x132002_2, x132003_2] ((rd_T34 l1 x7_2).f2))))))) := ⟨zq80_⟩
                  (try clear HO_133000)
                  (try clear HO_133001)
                  (try clear BK128)
                  (try clear BK131)
                  (try clear BK132)
                  (try clear BK140)
                  (try clear HB)
                  generalize (w152.setCell ⟨gb131, ((rd_T34 l1 x7_2).f1).toNat, none⟩ (.int .i64 (wrap64 ((rd [x132000_2, x132001_2, x132002_2, x132003_2] ((rd_T34 l1 x7_2).f1)) + (rd [x132000_2, x132001_2, x132002_2, x132003_2] ((rd_T34 l1 x7_2).f2)))))) = w159 at n0_ n1_ n2_ n3_ n4_ n5_ n6_ ⊢
                  have HO_133000 := n0_
                  have HO_133001 := n1_
                  have BK128 := n2_
                  have BK131 := n3_
                  have BK132 := n4_
                  have BK140 := n5_
                  have HB := n6_
                  clear n0_ n1_ n2_ n3_ n4_ n5_ n6_
                  try go_wp2
                  go_meet
                  case rel => exact ⟨_, (x7_2), (x129002_2), (x129003_2), ((ixI ((rd_T34 l1 x7_2).f1) 0 (wrap64 ((rd [x132000_2, x132001_2, x132002_2, x132003_2] ((rd_T34 l1 x7_2).f1)) + (rd [x132000_2, x132001_2, x132002_2, x132003_2] ((rd_T34 l1 x7_2).f2)))) x132000_2)), ((ixI ((rd_T34 l1 x7_2).f1) 1 (wrap64 ((rd [x132000_2, x132001_2, x132002_2, x132003_2] ((rd_T34 l1 x7_2).f1)) + (rd [x132000_2, x132001_2, x132002_2, x132003_2] ((rd_T34 l1 x7_2).f2)))) x132001_2)), ((ixI ((rd_T34 l1 x7_2).f1) 2 (wrap64 ((rd [x132000_2, x132001_2, x132002_2, x132003_2] ((rd_T34 l1 x7_2).f1)) + (rd [x132000_2, x132001_2, x132002_2, x132003_2] ((rd_T34 l1 x7_2).f2)))) x132002_2)), ((ixI ((rd_T34 l1 x7_2).f1) 3 (wrap64 ((rd [x132000_2, x132001_2, x132002_2, x132003_2] ((rd_T34 l1 x7_2).f1)) + (rd [x132000_2, x132001_2, x132002_2, x132003_2] ((rd_T34 l1 x7_2).f2)))) x132003_2)), (x133000_2), (x133001_2), (u133000), (u133001), zq76_, H', ⟨zq77_⟩, ⟨zq24_⟩, ⟨zq25_⟩, ⟨zq36_⟩, ⟨zq37_⟩, ⟨zq38_⟩, ⟨zq39_⟩, ⟨zq80_⟩⟩
                 ·rw [if_neg c150] at H
                  exact absurd H (by simp)
                ·rw [if_neg c149] at H
                 exact absurd H (by simp)
               ·rw [if_neg c148] at H
                exact absurd H (by simp)
              ·rw [if_neg c147] at H
               exact absurd H (by simp)
            ·rw [if_neg c146] at H
             have c146b0 : (((rd_T34 l1 x7_2).f0) == 4) = false := beq_eq_false_iff_ne.mpr c146
             have c146b1 : (((rd_T34 l1 x7_2).f0) != 4) = true := bne_iff_ne.mpr c146
             by_cases c160 : ((rd_T34 l1 x7_2).f0) = 5
             ·as_aux_lemma =>
               rw [if_pos c160] at H
               have c160b0 : (((rd_T34 l1 x7_2).f0) == 5) = true := beq_iff_eq.mpr c160
               have c160b1 : (((rd_T34 l1 x7_2).f0) != 5) = false := bne_eq_false_iff_eq.mpr c160
               clear c160
               by_cases c161 : 0 ≤ ((rd_T34 l1 x7_2).f1)
               ·rw [if_pos c161] at H
                have c161b0 : decide (0 ≤ ((rd_T34 l1 x7_2).f1)) = true := decide_eq_true c161
                clear c161
                by_cases c162 : ((rd_T34 l1 x7_2).f1) < 4
                ·rw [if_pos c162] at H
                 have c162b0 : decide (((rd_T34 l1 x7_2).f1) < 4) = true := decide_eq_true c162
                 clear c162
                 by_cases c163 : 0 ≤ ((rd_T34 l1 x7_2).f2)
                 ·rw [if_pos c163] at H
                  have c163b0 : decide (0 ≤ ((rd_T34 l1 x7_2).f2)) = true := decide_eq_true c163
                  clear c163
                  by_cases c164 : ((rd_T34 l1 x7_2).f2) < 4
                  ·rw [if_pos c164] at H
                   have c164b0 : decide (((rd_T34 l1 x7_2).f2) < 4) = true := decide_eq_true c164
                   clear c164
                   have H' := Aside0.mk H
                   clear H
                   try go_wp2
                   have n0_ : Aside0 (Kd.R k48 48 ((((w21.setCell ⟨gb140, 0, none⟩ (.int .i64 ((rd_T34 l1 x7_2).f0))).setCell ⟨gb140, 1, none⟩ (.int .i64 ((rd_T34 l1 x7_2).f1))).setCell ⟨gb140, 2, none⟩ (.int .i64 ((rd_T34 l1 x7_2).f2))).setCell ⟨gb140, 3, none⟩ (.int .i64 ((rd_T34 l1 x7_2).f3))) w.heap.size (fun _ => True) u133000 x133000_2) := ⟨zq2e_⟩
                   have n1_ : Aside0 (Kd.R k36 36 ((((w21.setCell ⟨gb140, 0, none⟩ (.int .i64 ((rd_T34 l1 x7_2).f0))).setCell ⟨gb140, 1, none⟩ (.int .i64 ((rd_T34 l1 x7_2).f1))).setCell ⟨gb140, 2, none⟩ (.int .i64 ((rd_T34 l1 x7_2).f2))).setCell ⟨gb140, 3, none⟩ (.int .i64 ((rd_T34 l1 x7_2).f3))) w.heap.size (fun _ => True) u133001 x133001_2) := ⟨zq2f_⟩
                   have n2_ : Aside0 (((((w21.setCell ⟨gb140, 0, none⟩ (.int .i64 ((rd_T34 l1 x7_2).f0))).setCell ⟨gb140, 1, none⟩ (.int .i64 ((rd_T34 l1 x7_2).f1))).setCell ⟨gb140, 2, none⟩ (.int .i64 ((rd_T34 l1 x7_2).f2))).setCell ⟨gb140, 3, none⟩ (.int .i64 ((rd_T34 l1 x7_2).f3))).heap[gb128]? = some (.cells #[.slice none 0 0, .slice none 0 0, .int .i64 x129002_2, .int .i64 x129003_2] 30 (0, 0))) := ⟨zq57_⟩
                   have n3_ : Aside0 (((((w21.setCell ⟨gb140, 0, none⟩ (.int .i64 ((rd_T34 l1 x7_2).f0))).setCell ⟨gb140, 1, none⟩ (.int .i64 ((rd_T34 l1 x7_2).f1))).setCell ⟨gb140, 2, none⟩ (.int .i64 ((rd_T34 l1 x7_2).f2))).setCell ⟨gb140, 3, none⟩ (.int .i64 ((rd_T34 l1 x7_2).f3))).heap[gb131]? = some (.cells #[.int .i64 x132000_2, .int .i64 x132001_2, .int .i64 x132002_2, .int .i64 x132003_2] 86 (0, 0))) := ⟨zq59_⟩
                   have n4_ : Aside0 (((((w21.setCell ⟨gb140, 0, none⟩ (.int .i64 ((rd_T34 l1 x7_2).f0))).setCell ⟨gb140, 1, none⟩ (.int .i64 ((rd_T34 l1 x7_2).f1))).setCell ⟨gb140, 2, none⟩ (.int .i64 ((rd_T34 l1 x7_2).f2))).setCell ⟨gb140, 3, none⟩ (.int .i64 ((rd_T34 l1 x7_2).f3))).heap[gb132]? = some (.cells #[u133000, u133001, .int .i64 0, .int .i64 0] 30 (0, 0))) := ⟨zq5b_⟩
                   have n5_ : Aside0 (((((w21.setCell ⟨gb140, 0, none⟩ (.int .i64 ((rd_T34 l1 x7_2).f0))).setCell ⟨gb140, 1, none⟩ (.int .i64 ((rd_T34 l1 x7_2).f1))).setCell ⟨gb140, 2, none⟩ (.int .i64 ((rd_T34 l1 x7_2).f2))).setCell ⟨gb140, 3, none⟩ (.int .i64 ((rd_T34 l1 x7_2).f3))).heap[gb140]? = some (.cells #[.int .i64 ((rd_T34 l1 x7_2).f0), .int .i64 ((rd_T34 l1 x7_2).f1), .int .i64 ((rd_T34 l1 x7_2).f2), .int .i64 ((rd_T34 l1 x7_2).f3)] 34 (0, 0))) := ⟨zq64_⟩
                   have n6_ : Aside0 (Below w.heap.size w ((((w21.setCell ⟨gb140, 0, none⟩ (.int .i64 ((rd_T34 l1 x7_2).f0))).setCell ⟨gb140, 1, none⟩ (.int .i64 ((rd_T34 l1 x7_2).f1))).setCell ⟨gb140, 2, none⟩ (.int .i64 ((rd_T34 l1 x7_2).f2))).setCell ⟨gb140, 3, none⟩ (.int .i64 ((rd_T34 l1 x7_2).f3)))) := ⟨zq80_⟩
                   (try clear HO_133000)
                   (try clear HO_133001)
                   (try clear BK128)
                   (try clear BK131)
                   (try clear BK132)
                   (try clear BK140)
                   (try clear HB)
                   generalize ((((w21.setCell ⟨gb140, 0, none⟩ (.int .i64 ((rd_T34 l1 x7_2).f0))).setCell ⟨gb140, 1, none⟩ (.int .i64 ((rd_T34 l1 x7_2).f1))).setCell ⟨gb140, 2, none⟩ (.int .i64 ((rd_T34 l1 x7_2).f2))).setCell ⟨gb140, 3, none⟩ (.int .i64 ((rd_T34 l1 x7_2).f3))) = w165 at n0_ n1_ n2_ n3_ n4_ n5_ n6_ ⊢
                   have HO_133000 := n0_
                   have HO_133001 := n1_
                   have BK128 := n2_
                   have BK131 := n3_
                   have BK132 := n4_
                   have BK140 := n5_
                   have HB := n6_
                   clear n0_ n1_ n2_ n3_ n4_ n5_ n6_
                   have n_ := A7_ (Kd.R_drew HO_133000.out) (Kd.R_drew HO_133001.out) (blk_drew BK128.out) (blk_drew BK131.out) (blk_drew BK132.out) (blk_drew BK140.out) (below_drew1 HB.out)
                   clear HO_133000 HO_133001 BK128 BK131 BK132 BK140 HB
                   obtain ⟨HO_133000, HO_133001, BK128, BK131, BK132, BK140, HB⟩ := n_
                   have hnb168 := NB131_128.out
                   have hnc168 := NB128_131.out
                   have hnb169 := NB131_132.out
                   have hnc169 := NB132_131.out
                   have hnb170 := NB131_140.out
                   have hnc170 := NB140_131.out
                   have p167_ : 0 ≤ ((rd_T34 l1 x7_2).f1) := of_decide_eq_true zq71_
                   have q167_ : ((rd_T34 l1 x7_2).f1) < 4 := of_decide_eq_true zq71_
                   have hxx167 := ixcellI4 ((rd_T34 l1 x7_2).f1) p167_ q167_ BK131.out
                   have hxf167 := blk_frozen BK131.out ((rd_T34 l1 x7_2).f1).toNat
                   have pt167_ := eq_true p167_
                   have qt167_ := eq_true q167_
                   have p171_ : 0 ≤ ((rd_T34 l1 x7_2).f2) := of_decide_eq_true zq71_
                   have q171_ : ((rd_T34 l1 x7_2).f2) < 4 := of_decide_eq_true zq71_
                   have hxx171 := ixcellI4 ((rd_T34 l1 x7_2).f2) p171_ q171_ BK131.out
                   have hxf171 := blk_frozen BK131.out ((rd_T34 l1 x7_2).f2).toNat
                   have pt171_ := eq_true p171_
                   have qt171_ := eq_true q171_
                   have p172_ : 0 ≤ ((rd_T34 l1 x7_2).f1) := of_decide_eq_true zq71_
                   have q172_ : ((rd_T34 l1 x7_2).f1) < 4 := of_decide_eq_true zq71_
                   have pt172_ := eq_true p172_
                   have qt172_ := eq_true q172_
                   refine start_ (n := 11) (S := fun w' => w'.cell? ⟨gb140, 0, none⟩ = some (.int .i64 ((rd_T34 l1 x7_2).f0)) ∧ w'.cell? ⟨gb140, 1, none⟩ = some (.int .i64 ((rd_T34 l1 x7_2).f1)) ∧ w'.cell? ⟨gb140, 2, none⟩ = some (.int .i64 ((rd_T34 l1 x7_2).f2)) ∧ w'.cell? ⟨gb140, 3, none⟩ = some (.int .i64 ((rd_T34 l1 x7_2).f3)) ∧ w'.cell? ⟨gb131, 0, none⟩ = some (.int .i64 x132000_2) ∧ w'.cell? ⟨gb131, 1, none⟩ = some (.int .i64 x132001_2) ∧ w'.cell? ⟨gb131, 2, none⟩ = some (.int .i64 x132002_2) ∧ w'.cell? ⟨gb131, 3, none⟩ = some (.int .i64 x132003_2) ∧ w'.cell? ⟨gb131, ((rd_T34 l1 x7_2).f1).toNat, none⟩ = some (.int .i64 (rd [x132000_2, x132001_2, x132002_2, x132003_2] ((rd_T34 l1 x7_2).f1))) ∧ w'.cell? ⟨gb131, ((rd_T34 l1 x7_2).f2).toNat, none⟩ = some (.int .i64 (rd [x132000_2, x132001_2, x132002_2, x132003_2] ((rd_T34 l1 x7_2).f2)))) (ds := [10]) #[false, false, false, false, false, false, false, false, false, false, false] (by kernel_rfl) rfl rfl ⟨(blk_cell BK140.out 0).trans rfl, (blk_cell BK140.out 1).trans rfl, (blk_cell BK140.out 2).trans rfl, (blk_cell BK140.out 3).trans rfl, (blk_cell BK131.out 0).trans rfl, (blk_cell BK131.out 1).trans rfl, (blk_cell BK131.out 2).trans rfl, (blk_cell BK131.out 3).trans rfl, (ixcellI4 ((rd_T34 l1 x7_2).f1) p167_ q167_ BK131.out), (ixcellI4 ((rd_T34 l1 x7_2).f2) p171_ q171_ BK131.out)⟩ (fun hHeld => ?_); refine with_tabW impl_ExecRun.tab27 impl_ExecRun.bits27 (fun HT_ HW_ => ?_)
                   generalize w165.drew = w166 at HO_133000 HO_133001 BK128 BK131 BK132 BK140 HB hHeld ⊢
                   refine pv_ (i := 0) (N := some 130) rfl rfl ?_
                   refine pv_ (i := 4) (N := some 134) rfl rfl ?_
                   refine tv_ (i := 1) (N := some 131) rfl rfl ?_
                   refine pv_ (i := 2) (N := some 132) rfl rfl ?_
                   refine tv_ (i := 3) (N := some 133) rfl rfl ?_
                   refine tv_ (i := 5) (N := some 135) rfl rfl ?_
                   refine pv_ (i := 6) (N := some 136) rfl rfl ?_
                   refine tv_ (i := 7) (N := some 137) rfl rfl ?_
                   refine pv_ (i := 8) (N := some 138) rfl rfl ?_
                   refine pv_ (i := 9) (N := some 139) rfl rfl ?_
                   refine last_ (i := 10) (N := none) #[true, true, true, true, true, true, true, true, true, true, true] rfl rfl (one_of HT_.out (by kernel_rfl)) (by decide) (fun K hK => ?_)
                   have h172_ := ixcellI4 ((rd_T34 l1 x7_2).f1) p172_ q172_ BK131.out
                   have hf172 := blk_frozen BK131.out ((rd_T34 l1 x7_2).f1).toNat
                   have hn172_0 := NB128_131.out
                   have hn172_2 := NB132_131.out
                   have hn172_3 := NB140_131.out
                   have hm172_0 := NB131_128.out
                   have hm172_2 := NB131_132.out
                   have hm172_3 := NB131_140.out
                   refine skip_ (w1 := ?_) (by rfl) rfl ?_ ?_
                   rotate_left
                   ·go_simp
                    rfl
                   refine hK.out _ _ ?_
                   clear hK K
                   refine done_ (done_of HT_.out (by kernel_rfl)) ?_
                   have n0_ : Aside0 (Kd.R k48 48 (w166.setCell ⟨gb131, ((rd_T34 l1 x7_2).f1).toNat, none⟩ (.int .i64 (wrap64 ((rd [x132000_2, x132001_2, x132002_2, x132003_2] ((rd_T34 l1 x7_2).f1)) - (rd [x132000_2, x132001_2, x132002_2, x132003_2] ((rd_T34 l1 x7_2).f2)))))) w.heap.size (fun _ => True) u133000 x133000_2) := ⟨by (with_reducible repeat (first | apply Kd.R_alloc | apply Kd.R_drewN | apply Kd.R_drew)); exact Kd.R_mono (Kd.R_far (p := ⟨gb131, ((rd_T34 l1 x7_2).f1).toNat, none⟩) (Kd.R_types HO_133000.out BK131.out (by decide)) (fun _ hk => hk.2) (.int .i64 (wrap64 ((rd [x132000_2, x132001_2, x132002_2, x132003_2] ((rd_T34 l1 x7_2).f1)) - (rd [x132000_2, x132001_2, x132002_2, x132003_2] ((rd_T34 l1 x7_2).f2)))))) (fun _ hk => trivial)⟩
                   have n1_ : Aside0 (Kd.R k36 36 (w166.setCell ⟨gb131, ((rd_T34 l1 x7_2).f1).toNat, none⟩ (.int .i64 (wrap64 ((rd [x132000_2, x132001_2, x132002_2, x132003_2] ((rd_T34 l1 x7_2).f1)) - (rd [x132000_2, x132001_2, x132002_2, x132003_2] ((rd_T34 l1 x7_2).f2)))))) w.heap.size (fun _ => True) u133001 x133001_2) := ⟨by (with_reducible repeat (first | apply Kd.R_alloc | apply Kd.R_drewN | apply Kd.R_drew)); exact Kd.R_mono (Kd.R_far (p := ⟨gb131, ((rd_T34 l1 x7_2).f1).toNat, none⟩) (Kd.R_types HO_133001.out BK131.out (by decide)) (fun _ hk => hk.2) (.int .i64 (wrap64 ((rd [x132000_2, x132001_2, x132002_2, x132003_2] ((rd_T34 l1 x7_2).f1)) - (rd [x132000_2, x132001_2, x132002_2, x132003_2] ((rd_T34 l1 x7_2).f2)))))) (fun _ hk => trivial)⟩
                   have n2_ : Aside0 ((w166.setCell ⟨gb131, ((rd_T34 l1 x7_2).f1).toNat, none⟩ (.int .i64 (wrap64 ((rd [x132000_2, x132001_2, x132002_2, x132003_2] ((rd_T34 l1 x7_2).f1)) - (rd [x132000_2, x132001_2, x132002_2, x132003_2] ((rd_T34 l1 x7_2).f2)))))).heap[gb128]? = some (.cells #[.slice none 0 0, .slice none 0 0, .int .i64 x129002_2, .int .i64 x129003_2] 30 (0, 0))) := ⟨zq55_⟩
                   have n3_ : Aside0 ((w166.setCell ⟨gb131, ((rd_T34 l1 x7_2).f1).toNat, none⟩ (.int .i64 (wrap64 ((rd [x132000_2, x132001_2, x132002_2, x132003_2] ((rd_T34 l1 x7_2).f1)) - (rd [x132000_2, x132001_2, x132002_2, x132003_2] ((rd_T34 l1 x7_2).f2)))))).heap[gb131]? = some (.cells #[.int .i64 (ixI ((rd_T34 l1 x7_2).f1) 0 (wrap64 ((rd [x132000_2, x132001_2, x132002_2, x132003_2] ((rd_T34 l1 x7_2).f1)) - (rd [x132000_2, x132001_2, x132002_2, x132003_2] ((rd_T34 l1 x7_2).f2)))) x132000_2), .int .i64 (ixI ((rd_T34 l1 x7_2).f1) 1 (wrap64 ((rd [x132000_2, x132001_2, x132002_2, x132003_2] ((rd_T34 l1 x7_2).f1)) - (rd [x132000_2, x132001_2, x132002_2, x132003_2] ((rd_T34 l1 x7_2).f2)))) x132001_2), .int .i64 (ixI ((rd_T34 l1 x7_2).f1) 2 (wrap64 ((rd [x132000_2, x132001_2, x132002_2, x132003_2] ((rd_T34 l1 x7_2).f1)) - (rd [x132000_2, x132001_2, x132002_2, x132003_2] ((rd_T34 l1 x7_2).f2)))) x132002_2), .int .i64 (ixI ((rd_T34 l1 x7_2).f1) 3 (wrap64 ((rd [x132000_2, x132001_2, x132002_2, x132003_2] ((rd_T34 l1 x7_2).f1)) - (rd [x132000_2, x132001_2, x132002_2, x132003_2] ((rd_T34 l1 x7_2).f2)))) x132003_2)] 86 (0, 0))) := ⟨by (with_reducible repeat (first | refine blk_drewN ?_ _ | refine blk_drew ?_ | refine blk_alloc ?_ _)); refine blk_put (cs := #[.int .i64 x132000_2, .int .i64 x132001_2, .int .i64 x132002_2, .int .i64 x132003_2]) ?_ ((rd_T34 l1 x7_2).f1).toNat _ (ixputI4 ((rd_T34 l1 x7_2).f1) (wrap64 ((rd [x132000_2, x132001_2, x132002_2, x132003_2] ((rd_T34 l1 x7_2).f1)) - (rd [x132000_2, x132001_2, x132002_2, x132003_2] ((rd_T34 l1 x7_2).f2)))) x132000_2 x132001_2 x132002_2 x132003_2 p172_ q172_); (with_reducible repeat (first | refine blk_drewN ?_ _ | refine blk_drew ?_ | refine blk_alloc ?_ _)); exact BK131.out⟩
                   have n4_ : Aside0 ((w166.setCell ⟨gb131, ((rd_T34 l1 x7_2).f1).toNat, none⟩ (.int .i64 (wrap64 ((rd [x132000_2, x132001_2, x132002_2, x132003_2] ((rd_T34 l1 x7_2).f1)) - (rd [x132000_2, x132001_2, x132002_2, x132003_2] ((rd_T34 l1 x7_2).f2)))))).heap[gb132]? = some (.cells #[u133000, u133001, .int .i64 0, .int .i64 0] 30 (0, 0))) := ⟨zq5a_⟩
                   have n5_ : Aside0 ((w166.setCell ⟨gb131, ((rd_T34 l1 x7_2).f1).toNat, none⟩ (.int .i64 (wrap64 ((rd [x132000_2, x132001_2, x132002_2, x132003_2] ((rd_T34 l1 x7_2).f1)) - (rd [x132000_2, x132001_2, x132002_2, x132003_2] ((rd_T34 l1 x7_2).f2)))))).heap[gb140]? = some (.cells #[.int .i64 ((rd_T34 l1 x7_2).f0), .int .i64 ((rd_T34 l1 x7_2).f1), .int .i64 ((rd_T34 l1 x7_2).f2), .int .i64 ((rd_T34 l1 x7_2).f3)] 34 (0, 0))) := ⟨zq5c_⟩
                   have n6_ : Aside0 (Below w.heap.size w (w166.setCell ⟨gb131, ((rd_T34 l1 x7_2).f1).toNat, none⟩ (.int .i64 (wrap64 ((rd [x132000_2, x132001_2, x132002_2, x132003_2] ((rd_T34 l1 x7_2).f1)) - (rd [x132000_2, x132001_2, x132002_2, x132003_2] ((rd_T34 l1 x7_2).f2))))))) := ⟨zq80_⟩
                   (try clear HO_133000)
                   (try clear HO_133001)
                   (try clear BK128)
                   (try clear BK131)
                   (try clear BK132)
                   (try clear BK140)
                   (try clear HB)
                   generalize (w166.setCell ⟨gb131, ((rd_T34 l1 x7_2).f1).toNat, none⟩ (.int .i64 (wrap64 ((rd [x132000_2, x132001_2, x132002_2, x132003_2] ((rd_T34 l1 x7_2).f1)) - (rd [x132000_2, x132001_2, x132002_2, x132003_2] ((rd_T34 l1 x7_2).f2)))))) = w173 at n0_ n1_ n2_ n3_ n4_ n5_ n6_ ⊢
                   have HO_133000 := n0_
                   have HO_133001 := n1_
                   have BK128 := n2_
                   have BK131 := n3_
                   have BK132 := n4_
                   have BK140 := n5_
                   have HB := n6_
                   clear n0_ n1_ n2_ n3_ n4_ n5_ n6_
                   try go_wp2
                   go_meet
                   case rel => exact ⟨_, (x7_2), (x129002_2), (x129003_2), ((ixI ((rd_T34 l1 x7_2).f1) 0 (wrap64 ((rd [x132000_2, x132001_2, x132002_2, x132003_2] ((rd_T34 l1 x7_2).f1)) - (rd [x132000_2, x132001_2, x132002_2, x132003_2] ((rd_T34 l1 x7_2).f2)))) x132000_2)), ((ixI ((rd_T34 l1 x7_2).f1) 1 (wrap64 ((rd [x132000_2, x132001_2, x132002_2, x132003_2] ((rd_T34 l1 x7_2).f1)) - (rd [x132000_2, x132001_2, x132002_2, x132003_2] ((rd_T34 l1 x7_2).f2)))) x132001_2)), ((ixI ((rd_T34 l1 x7_2).f1) 2 (wrap64 ((rd [x132000_2, x132001_2, x132002_2, x132003_2] ((rd_T34 l1 x7_2).f1)) - (rd [x132000_2, x132001_2, x132002_2, x132003_2] ((rd_T34 l1 x7_2).f2)))) x132002_2)), ((ixI ((rd_T34 l1 x7_2).f1) 3 (wrap64 ((rd [x132000_2, x132001_2, x132002_2, x132003_2] ((rd_T34 l1 x7_2).f1)) - (rd [x132000_2, x132001_2, x132002_2, x132003_2] ((rd_T34 l1 x7_2).f2)))) x132003_2)), (x133000_2), (x133001_2), (u133000), (u133001), zq76_, H', ⟨zq77_⟩, ⟨zq24_⟩, ⟨zq25_⟩, ⟨zq36_⟩, ⟨zq37_⟩, ⟨zq38_⟩, ⟨zq39_⟩, ⟨zq80_⟩⟩
                  ·rw [if_neg c164] at H
                   exact absurd H (by simp)
                 ·rw [if_neg c163] at H
                  exact absurd H (by simp)
                ·rw [if_neg c162] at H
                 exact absurd H (by simp)
               ·rw [if_neg c161] at H
                exact absurd H (by simp)
             ·rw [if_neg c160] at H
              have c160b0 : (((rd_T34 l1 x7_2).f0) == 5) = false := beq_eq_false_iff_ne.mpr c160
              have c160b1 : (((rd_T34 l1 x7_2).f0) != 5) = true := bne_iff_ne.mpr c160
              by_cases c174 : ((rd_T34 l1 x7_2).f0) = 6
              ·rw [if_pos c174] at H
               have c174b0 : (((rd_T34 l1 x7_2).f0) == 6) = true := beq_iff_eq.mpr c174
               have c174b1 : (((rd_T34 l1 x7_2).f0) != 6) = false := bne_eq_false_iff_eq.mpr c174
               clear c174
               by_cases c175 : 0 ≤ ((rd_T34 l1 x7_2).f1)
               ·rw [if_pos c175] at H
                have c175b0 : decide (0 ≤ ((rd_T34 l1 x7_2).f1)) = true := decide_eq_true c175
                clear c175
                by_cases c176 : ((rd_T34 l1 x7_2).f1) < 4
                ·rw [if_pos c176] at H
                 have c176b0 : decide (((rd_T34 l1 x7_2).f1) < 4) = true := decide_eq_true c176
                 clear c176
                 by_cases c177 : 0 ≤ ((rd_T34 l1 x7_2).f2)
                 ·rw [if_pos c177] at H
                  have c177b0 : decide (0 ≤ ((rd_T34 l1 x7_2).f2)) = true := decide_eq_true c177
                  clear c177
                  by_cases c178 : ((rd_T34 l1 x7_2).f2) < 4
                  ·rw [if_pos c178] at H
                   have c178b0 : decide (((rd_T34 l1 x7_2).f2) < 4) = true := decide_eq_true c178
                   clear c178
                   by_cases c179 : (rd [x132000_2, x132001_2, x132002_2, x132003_2] ((rd_T34 l1 x7_2).f1)) < (rd [x132000_2, x132001_2, x132002_2, x132003_2] ((rd_T34 l1 x7_2).f2))
                   ·as_aux_lemma =>
                     rw [if_pos c179] at H
                     have c179b0 : decide ((rd [x132000_2, x132001_2, x132002_2, x132003_2] ((rd_T34 l1 x7_2).f1)) < (rd [x132000_2, x132001_2, x132002_2, x132003_2] ((rd_T34 l1 x7_2).f2))) = true := decide_eq_true c179
                     clear c179
                     have H' := Aside0.mk H
                     clear H
                     try go_wp2
                     have n0_ : Aside0 (Kd.R k48 48 ((((w21.setCell ⟨gb140, 0, none⟩ (.int .i64 ((rd_T34 l1 x7_2).f0))).setCell ⟨gb140, 1, none⟩ (.int .i64 ((rd_T34 l1 x7_2).f1))).setCell ⟨gb140, 2, none⟩ (.int .i64 ((rd_T34 l1 x7_2).f2))).setCell ⟨gb140, 3, none⟩ (.int .i64 ((rd_T34 l1 x7_2).f3))) w.heap.size (fun _ => True) u133000 x133000_2) := ⟨zq2e_⟩
                     have n1_ : Aside0 (Kd.R k36 36 ((((w21.setCell ⟨gb140, 0, none⟩ (.int .i64 ((rd_T34 l1 x7_2).f0))).setCell ⟨gb140, 1, none⟩ (.int .i64 ((rd_T34 l1 x7_2).f1))).setCell ⟨gb140, 2, none⟩ (.int .i64 ((rd_T34 l1 x7_2).f2))).setCell ⟨gb140, 3, none⟩ (.int .i64 ((rd_T34 l1 x7_2).f3))) w.heap.size (fun _ => True) u133001 x133001_2) := ⟨zq2f_⟩
                     have n2_ : Aside0 (((((w21.setCell ⟨gb140, 0, none⟩ (.int .i64 ((rd_T34 l1 x7_2).f0))).setCell ⟨gb140, 1, none⟩ (.int .i64 ((rd_T34 l1 x7_2).f1))).setCell ⟨gb140, 2, none⟩ (.int .i64 ((rd_T34 l1 x7_2).f2))).setCell ⟨gb140, 3, none⟩ (.int .i64 ((rd_T34 l1 x7_2).f3))).heap[gb128]? = some (.cells #[.slice none 0 0, .slice none 0 0, .int .i64 x129002_2, .int .i64 x129003_2] 30 (0, 0))) := ⟨zq57_⟩
                     have n3_ : Aside0 (((((w21.setCell ⟨gb140, 0, none⟩ (.int .i64 ((rd_T34 l1 x7_2).f0))).setCell ⟨gb140, 1, none⟩ (.int .i64 ((rd_T34 l1 x7_2).f1))).setCell ⟨gb140, 2, none⟩ (.int .i64 ((rd_T34 l1 x7_2).f2))).setCell ⟨gb140, 3, none⟩ (.int .i64 ((rd_T34 l1 x7_2).f3))).heap[gb131]? = some (.cells #[.int .i64 x132000_2, .int .i64 x132001_2, .int .i64 x132002_2, .int .i64 x132003_2] 86 (0, 0))) := ⟨zq59_⟩
                     have n4_ : Aside0 (((((w21.setCell ⟨gb140, 0, none⟩ (.int .i64 ((rd_T34 l1 x7_2).f0))).setCell ⟨gb140, 1, none⟩ (.int .i64 ((rd_T34 l1 x7_2).f1))).setCell ⟨gb140, 2, none⟩ (.int .i64 ((rd_T34 l1 x7_2).f2))).setCell ⟨gb140, 3, none⟩ (.int .i64 ((rd_T34 l1 x7_2).f3))).heap[gb132]? = some (.cells #[u133000, u133001, .int .i64 0, .int .i64 0] 30 (0, 0))) := ⟨zq5b_⟩
                     have n5_ : Aside0 (((((w21.setCell ⟨gb140, 0, none⟩ (.int .i64 ((rd_T34 l1 x7_2).f0))).setCell ⟨gb140, 1, none⟩ (.int .i64 ((rd_T34 l1 x7_2).f1))).setCell ⟨gb140, 2, none⟩ (.int .i64 ((rd_T34 l1 x7_2).f2))).setCell ⟨gb140, 3, none⟩ (.int .i64 ((rd_T34 l1 x7_2).f3))).heap[gb140]? = some (.cells #[.int .i64 ((rd_T34 l1 x7_2).f0), .int .i64 ((rd_T34 l1 x7_2).f1), .int .i64 ((rd_T34 l1 x7_2).f2), .int .i64 ((rd_T34 l1 x7_2).f3)] 34 (0, 0))) := ⟨zq64_⟩
                     have n6_ : Aside0 (Below w.heap.size w ((((w21.setCell ⟨gb140, 0, none⟩ (.int .i64 ((rd_T34 l1 x7_2).f0))).setCell ⟨gb140, 1, none⟩ (.int .i64 ((rd_T34 l1 x7_2).f1))).setCell ⟨gb140, 2, none⟩ (.int .i64 ((rd_T34 l1 x7_2).f2))).setCell ⟨gb140, 3, none⟩ (.int .i64 ((rd_T34 l1 x7_2).f3)))) := ⟨zq80_⟩
                     (try clear HO_133000)
                     (try clear HO_133001)
                     (try clear BK128)
                     (try clear BK131)
                     (try clear BK132)
                     (try clear BK140)
                     (try clear HB)
                     generalize ((((w21.setCell ⟨gb140, 0, none⟩ (.int .i64 ((rd_T34 l1 x7_2).f0))).setCell ⟨gb140, 1, none⟩ (.int .i64 ((rd_T34 l1 x7_2).f1))).setCell ⟨gb140, 2, none⟩ (.int .i64 ((rd_T34 l1 x7_2).f2))).setCell ⟨gb140, 3, none⟩ (.int .i64 ((rd_T34 l1 x7_2).f3))) = w180 at n0_ n1_ n2_ n3_ n4_ n5_ n6_ ⊢
                     have HO_133000 := n0_
                     have HO_133001 := n1_
                     have BK128 := n2_
                     have BK131 := n3_
                     have BK132 := n4_
                     have BK140 := n5_
                     have HB := n6_
                     clear n0_ n1_ n2_ n3_ n4_ n5_ n6_
                     have n_ := A7_ (Kd.R_drew HO_133000.out) (Kd.R_drew HO_133001.out) (blk_drew BK128.out) (blk_drew BK131.out) (blk_drew BK132.out) (blk_drew BK140.out) (below_drew1 HB.out)
                     clear HO_133000 HO_133001 BK128 BK131 BK132 BK140 HB
                     obtain ⟨HO_133000, HO_133001, BK128, BK131, BK132, BK140, HB⟩ := n_
                     have hnb183 := NB131_128.out
                     have hnc183 := NB128_131.out
                     have hnb184 := NB131_132.out
                     have hnc184 := NB132_131.out
                     have hnb185 := NB131_140.out
                     have hnc185 := NB140_131.out
                     have p182_ : 0 ≤ ((rd_T34 l1 x7_2).f1) := of_decide_eq_true zq71_
                     have q182_ : ((rd_T34 l1 x7_2).f1) < 4 := of_decide_eq_true zq71_
                     have hxx182 := ixcellI4 ((rd_T34 l1 x7_2).f1) p182_ q182_ BK131.out
                     have hxf182 := blk_frozen BK131.out ((rd_T34 l1 x7_2).f1).toNat
                     have pt182_ := eq_true p182_
                     have qt182_ := eq_true q182_
                     have p186_ : 0 ≤ ((rd_T34 l1 x7_2).f2) := of_decide_eq_true zq71_
                     have q186_ : ((rd_T34 l1 x7_2).f2) < 4 := of_decide_eq_true zq71_
                     have hxx186 := ixcellI4 ((rd_T34 l1 x7_2).f2) p186_ q186_ BK131.out
                     have hxf186 := blk_frozen BK131.out ((rd_T34 l1 x7_2).f2).toNat
                     have pt186_ := eq_true p186_
                     have qt186_ := eq_true q186_
                     refine start_ (n := 9) (S := fun w' => w'.cell? ⟨gb140, 0, none⟩ = some (.int .i64 ((rd_T34 l1 x7_2).f0)) ∧ w'.cell? ⟨gb140, 1, none⟩ = some (.int .i64 ((rd_T34 l1 x7_2).f1)) ∧ w'.cell? ⟨gb140, 2, none⟩ = some (.int .i64 ((rd_T34 l1 x7_2).f2)) ∧ w'.cell? ⟨gb140, 3, none⟩ = some (.int .i64 ((rd_T34 l1 x7_2).f3)) ∧ w'.cell? ⟨gb131, 0, none⟩ = some (.int .i64 x132000_2) ∧ w'.cell? ⟨gb131, 1, none⟩ = some (.int .i64 x132001_2) ∧ w'.cell? ⟨gb131, 2, none⟩ = some (.int .i64 x132002_2) ∧ w'.cell? ⟨gb131, 3, none⟩ = some (.int .i64 x132003_2) ∧ w'.cell? ⟨gb131, ((rd_T34 l1 x7_2).f1).toNat, none⟩ = some (.int .i64 (rd [x132000_2, x132001_2, x132002_2, x132003_2] ((rd_T34 l1 x7_2).f1))) ∧ w'.cell? ⟨gb131, ((rd_T34 l1 x7_2).f2).toNat, none⟩ = some (.int .i64 (rd [x132000_2, x132001_2, x132002_2, x132003_2] ((rd_T34 l1 x7_2).f2)))) (ds := []) #[false, false, false, false, false, false, false, false, false] (by kernel_rfl) rfl rfl ⟨(blk_cell BK140.out 0).trans rfl, (blk_cell BK140.out 1).trans rfl, (blk_cell BK140.out 2).trans rfl, (blk_cell BK140.out 3).trans rfl, (blk_cell BK131.out 0).trans rfl, (blk_cell BK131.out 1).trans rfl, (blk_cell BK131.out 2).trans rfl, (blk_cell BK131.out 3).trans rfl, (ixcellI4 ((rd_T34 l1 x7_2).f1) p182_ q182_ BK131.out), (ixcellI4 ((rd_T34 l1 x7_2).f2) p186_ q186_ BK131.out)⟩ (fun hHeld => ?_); refine with_tabW impl_ExecRun.tab29 impl_ExecRun.bits29 (fun HT_ HW_ => ?_)
                     generalize w180.drew = w181 at HO_133000 HO_133001 BK128 BK131 BK132 BK140 HB hHeld ⊢
                     refine pv_ (i := 0) (N := some 142) rfl rfl ?_
                     refine pv_ (i := 4) (N := some 146) rfl rfl ?_
                     refine tv_ (i := 1) (N := some 143) rfl rfl ?_
                     refine pv_ (i := 2) (N := some 144) rfl rfl ?_
                     refine tv_ (i := 3) (N := some 145) rfl rfl ?_
                     refine tv_ (i := 5) (N := some 147) rfl rfl ?_
                     refine pv_ (i := 6) (N := some 148) rfl rfl ?_
                     refine tv_ (i := 7) (N := some 149) rfl rfl ?_
                     refine pv_ (i := 8) (N := some 150) rfl rfl ?_
                     refine done_ (done_of HT_.out (by kernel_rfl)) ?_
                     have hnb187 := NB140_128.out
                     have hnc187 := NB128_140.out
                     have hnb188 := NB140_132.out
                     have hnc188 := NB132_140.out
                     have hcz189_0 := bc0_ BK140.out
                     have hcz189_1 := bc1_ BK140.out
                     have hcz189_2 := bc2_ BK140.out
                     have hcz189_3 := bc3_ BK140.out
                     have hfz189_0 := blk_frozen BK140.out 0
                     have hfz189_1 := blk_frozen BK140.out 1
                     have hfz189_2 := blk_frozen BK140.out 2
                     have hfz189_3 := blk_frozen BK140.out 3
                     try go_wp2
                     go_meet
                     case rel => exact ⟨_, (wrap64 (x7_2 + ((rd_T34 l1 x7_2).f3))), (x129002_2), (x129003_2), (x132000_2), (x132001_2), (x132002_2), (x132003_2), (x133000_2), (x133001_2), (u133000), (u133001), zq76_, H', ⟨zq77_⟩, ⟨zq24_⟩, ⟨zq25_⟩, ⟨zq36_⟩, ⟨zq37_⟩, ⟨zq38_⟩, ⟨zq39_⟩, ⟨zq80_⟩⟩
                   ·as_aux_lemma =>
                     rw [if_neg c179] at H
                     have c179b0 : decide ((rd [x132000_2, x132001_2, x132002_2, x132003_2] ((rd_T34 l1 x7_2).f1)) < (rd [x132000_2, x132001_2, x132002_2, x132003_2] ((rd_T34 l1 x7_2).f2))) = false := decide_eq_false c179
                     clear c179
                     have H' := Aside0.mk H
                     clear H
                     try go_wp2
                     have n0_ : Aside0 (Kd.R k48 48 ((((w21.setCell ⟨gb140, 0, none⟩ (.int .i64 ((rd_T34 l1 x7_2).f0))).setCell ⟨gb140, 1, none⟩ (.int .i64 ((rd_T34 l1 x7_2).f1))).setCell ⟨gb140, 2, none⟩ (.int .i64 ((rd_T34 l1 x7_2).f2))).setCell ⟨gb140, 3, none⟩ (.int .i64 ((rd_T34 l1 x7_2).f3))) w.heap.size (fun _ => True) u133000 x133000_2) := ⟨zq2e_⟩
                     have n1_ : Aside0 (Kd.R k36 36 ((((w21.setCell ⟨gb140, 0, none⟩ (.int .i64 ((rd_T34 l1 x7_2).f0))).setCell ⟨gb140, 1, none⟩ (.int .i64 ((rd_T34 l1 x7_2).f1))).setCell ⟨gb140, 2, none⟩ (.int .i64 ((rd_T34 l1 x7_2).f2))).setCell ⟨gb140, 3, none⟩ (.int .i64 ((rd_T34 l1 x7_2).f3))) w.heap.size (fun _ => True) u133001 x133001_2) := ⟨zq2f_⟩
                     have n2_ : Aside0 (((((w21.setCell ⟨gb140, 0, none⟩ (.int .i64 ((rd_T34 l1 x7_2).f0))).setCell ⟨gb140, 1, none⟩ (.int .i64 ((rd_T34 l1 x7_2).f1))).setCell ⟨gb140, 2, none⟩ (.int .i64 ((rd_T34 l1 x7_2).f2))).setCell ⟨gb140, 3, none⟩ (.int .i64 ((rd_T34 l1 x7_2).f3))).heap[gb128]? = some (.cells #[.slice none 0 0, .slice none 0 0, .int .i64 x129002_2, .int .i64 x129003_2] 30 (0, 0))) := ⟨zq57_⟩
                     have n3_ : Aside0 (((((w21.setCell ⟨gb140, 0, none⟩ (.int .i64 ((rd_T34 l1 x7_2).f0))).setCell ⟨gb140, 1, none⟩ (.int .i64 ((rd_T34 l1 x7_2).f1))).setCell ⟨gb140, 2, none⟩ (.int .i64 ((rd_T34 l1 x7_2).f2))).setCell ⟨gb140, 3, none⟩ (.int .i64 ((rd_T34 l1 x7_2).f3))).heap[gb131]? = some (.cells #[.int .i64 x132000_2, .int .i64 x132001_2, .int .i64 x132002_2, .int .i64 x132003_2] 86 (0, 0))) := ⟨zq59_⟩
                     have n4_ : Aside0 (((((w21.setCell ⟨gb140, 0, none⟩ (.int .i64 ((rd_T34 l1 x7_2).f0))).setCell ⟨gb140, 1, none⟩ (.int .i64 ((rd_T34 l1 x7_2).f1))).setCell ⟨gb140, 2, none⟩ (.int .i64 ((rd_T34 l1 x7_2).f2))).setCell ⟨gb140, 3, none⟩ (.int .i64 ((rd_T34 l1 x7_2).f3))).heap[gb132]? = some (.cells #[u133000, u133001, .int .i64 0, .int .i64 0] 30 (0, 0))) := ⟨zq5b_⟩
                     have n5_ : Aside0 (((((w21.setCell ⟨gb140, 0, none⟩ (.int .i64 ((rd_T34 l1 x7_2).f0))).setCell ⟨gb140, 1, none⟩ (.int .i64 ((rd_T34 l1 x7_2).f1))).setCell ⟨gb140, 2, none⟩ (.int .i64 ((rd_T34 l1 x7_2).f2))).setCell ⟨gb140, 3, none⟩ (.int .i64 ((rd_T34 l1 x7_2).f3))).heap[gb140]? = some (.cells #[.int .i64 ((rd_T34 l1 x7_2).f0), .int .i64 ((rd_T34 l1 x7_2).f1), .int .i64 ((rd_T34 l1 x7_2).f2), .int .i64 ((rd_T34 l1 x7_2).f3)] 34 (0, 0))) := ⟨zq64_⟩
                     have n6_ : Aside0 (Below w.heap.size w ((((w21.setCell ⟨gb140, 0, none⟩ (.int .i64 ((rd_T34 l1 x7_2).f0))).setCell ⟨gb140, 1, none⟩ (.int .i64 ((rd_T34 l1 x7_2).f1))).setCell ⟨gb140, 2, none⟩ (.int .i64 ((rd_T34 l1 x7_2).f2))).setCell ⟨gb140, 3, none⟩ (.int .i64 ((rd_T34 l1 x7_2).f3)))) := ⟨zq80_⟩
                     (try clear HO_133000)
                     (try clear HO_133001)
                     (try clear BK128)
                     (try clear BK131)
                     (try clear BK132)
                     (try clear BK140)
                     (try clear HB)
                     generalize ((((w21.setCell ⟨gb140, 0, none⟩ (.int .i64 ((rd_T34 l1 x7_2).f0))).setCell ⟨gb140, 1, none⟩ (.int .i64 ((rd_T34 l1 x7_2).f1))).setCell ⟨gb140, 2, none⟩ (.int .i64 ((rd_T34 l1 x7_2).f2))).setCell ⟨gb140, 3, none⟩ (.int .i64 ((rd_T34 l1 x7_2).f3))) = w190 at n0_ n1_ n2_ n3_ n4_ n5_ n6_ ⊢
                     have HO_133000 := n0_
                     have HO_133001 := n1_
                     have BK128 := n2_
                     have BK131 := n3_
                     have BK132 := n4_
                     have BK140 := n5_
                     have HB := n6_
                     clear n0_ n1_ n2_ n3_ n4_ n5_ n6_
                     have n_ := A7_ (Kd.R_drew HO_133000.out) (Kd.R_drew HO_133001.out) (blk_drew BK128.out) (blk_drew BK131.out) (blk_drew BK132.out) (blk_drew BK140.out) (below_drew1 HB.out)
                     clear HO_133000 HO_133001 BK128 BK131 BK132 BK140 HB
                     obtain ⟨HO_133000, HO_133001, BK128, BK131, BK132, BK140, HB⟩ := n_
                     have hnb193 := NB131_128.out
                     have hnc193 := NB128_131.out
                     have hnb194 := NB131_132.out
                     have hnc194 := NB132_131.out
                     have hnb195 := NB131_140.out
                     have hnc195 := NB140_131.out
                     have p192_ : 0 ≤ ((rd_T34 l1 x7_2).f1) := of_decide_eq_true zq71_
                     have q192_ : ((rd_T34 l1 x7_2).f1) < 4 := of_decide_eq_true zq71_
                     have hxx192 := ixcellI4 ((rd_T34 l1 x7_2).f1) p192_ q192_ BK131.out
                     have hxf192 := blk_frozen BK131.out ((rd_T34 l1 x7_2).f1).toNat
                     have pt192_ := eq_true p192_
                     have qt192_ := eq_true q192_
                     have p196_ : 0 ≤ ((rd_T34 l1 x7_2).f2) := of_decide_eq_true zq71_
                     have q196_ : ((rd_T34 l1 x7_2).f2) < 4 := of_decide_eq_true zq71_
                     have hxx196 := ixcellI4 ((rd_T34 l1 x7_2).f2) p196_ q196_ BK131.out
                     have hxf196 := blk_frozen BK131.out ((rd_T34 l1 x7_2).f2).toNat
                     have pt196_ := eq_true p196_
                     have qt196_ := eq_true q196_
                     refine start_ (n := 9) (S := fun w' => w'.cell? ⟨gb140, 0, none⟩ = some (.int .i64 ((rd_T34 l1 x7_2).f0)) ∧ w'.cell? ⟨gb140, 1, none⟩ = some (.int .i64 ((rd_T34 l1 x7_2).f1)) ∧ w'.cell? ⟨gb140, 2, none⟩ = some (.int .i64 ((rd_T34 l1 x7_2).f2)) ∧ w'.cell? ⟨gb140, 3, none⟩ = some (.int .i64 ((rd_T34 l1 x7_2).f3)) ∧ w'.cell? ⟨gb131, 0, none⟩ = some (.int .i64 x132000_2) ∧ w'.cell? ⟨gb131, 1, none⟩ = some (.int .i64 x132001_2) ∧ w'.cell? ⟨gb131, 2, none⟩ = some (.int .i64 x132002_2) ∧ w'.cell? ⟨gb131, 3, none⟩ = some (.int .i64 x132003_2) ∧ w'.cell? ⟨gb131, ((rd_T34 l1 x7_2).f1).toNat, none⟩ = some (.int .i64 (rd [x132000_2, x132001_2, x132002_2, x132003_2] ((rd_T34 l1 x7_2).f1))) ∧ w'.cell? ⟨gb131, ((rd_T34 l1 x7_2).f2).toNat, none⟩ = some (.int .i64 (rd [x132000_2, x132001_2, x132002_2, x132003_2] ((rd_T34 l1 x7_2).f2)))) (ds := []) #[false, false, false, false, false, false, false, false, false] (by kernel_rfl) rfl rfl ⟨(blk_cell BK140.out 0).trans rfl, (blk_cell BK140.out 1).trans rfl, (blk_cell BK140.out 2).trans rfl, (blk_cell BK140.out 3).trans rfl, (blk_cell BK131.out 0).trans rfl, (blk_cell BK131.out 1).trans rfl, (blk_cell BK131.out 2).trans rfl, (blk_cell BK131.out 3).trans rfl, (ixcellI4 ((rd_T34 l1 x7_2).f1) p192_ q192_ BK131.out), (ixcellI4 ((rd_T34 l1 x7_2).f2) p196_ q196_ BK131.out)⟩ (fun hHeld => ?_); refine with_tabW impl_ExecRun.tab29 impl_ExecRun.bits29 (fun HT_ HW_ => ?_)
                     generalize w190.drew = w191 at HO_133000 HO_133001 BK128 BK131 BK132 BK140 HB hHeld ⊢
                     refine pv_ (i := 0) (N := some 142) rfl rfl ?_
                     refine pv_ (i := 4) (N := some 146) rfl rfl ?_
                     refine tv_ (i := 1) (N := some 143) rfl rfl ?_
                     refine pv_ (i := 2) (N := some 144) rfl rfl ?_
                     refine tv_ (i := 3) (N := some 145) rfl rfl ?_
                     refine tv_ (i := 5) (N := some 147) rfl rfl ?_
                     refine pv_ (i := 6) (N := some 148) rfl rfl ?_
                     refine tv_ (i := 7) (N := some 149) rfl rfl ?_
                     refine pv_ (i := 8) (N := some 150) rfl rfl ?_
                     refine done_ (done_of HT_.out (by kernel_rfl)) ?_
                     try go_wp2
                     go_meet
                     case rel => exact ⟨_, (x7_2), (x129002_2), (x129003_2), (x132000_2), (x132001_2), (x132002_2), (x132003_2), (x133000_2), (x133001_2), (u133000), (u133001), zq76_, H', ⟨zq77_⟩, ⟨zq24_⟩, ⟨zq25_⟩, ⟨zq36_⟩, ⟨zq37_⟩, ⟨zq38_⟩, ⟨zq39_⟩, ⟨zq80_⟩⟩
                  ·rw [if_neg c178] at H
                   exact absurd H (by simp)
                 ·rw [if_neg c177] at H
                  exact absurd H (by simp)
                ·rw [if_neg c176] at H
                 exact absurd H (by simp)
               ·rw [if_neg c175] at H
                exact absurd H (by simp)
              ·as_aux_lemma =>
                rw [if_neg c174] at H
                have c174b0 : (((rd_T34 l1 x7_2).f0) == 6) = false := beq_eq_false_iff_ne.mpr c174
                have c174b1 : (((rd_T34 l1 x7_2).f0) != 6) = true := bne_iff_ne.mpr c174
                by_cases c197 : ((rd_T34 l1 x7_2).f0) = 7
                ·rw [if_pos c197] at H
                 have c197b0 : (((rd_T34 l1 x7_2).f0) == 7) = true := beq_iff_eq.mpr c197
                 have c197b1 : (((rd_T34 l1 x7_2).f0) != 7) = false := bne_eq_false_iff_eq.mpr c197
                 clear c197
                 replace H := Option.bind_eq_some_iff.mp H
                 obtain ⟨t155, A1980, H⟩ := H
                 (try dsimp only at H)
                 have A198 := Aside0.mk A1980
                 clear A1980
                 simp only [Option.some.injEq, Prod.mk.injEq] at H
                 obtain ⟨rfl, rfl, rfl, rfl⟩ := H
                 have hnb199 := NB132_128.out
                 have hnc199 := NB128_132.out
                 have hnb200 := NB132_131.out
                 have hnc200 := NB131_132.out
                 have hnb201 := NB132_140.out
                 have hnc201 := NB140_132.out
                 have hcz202_0 : w21.cell? ⟨gb132, 0, none⟩ = some (u133000) := (blk_cell BK132.out 0).trans rfl
                 have hcz202_1 : w21.cell? ⟨gb132, 1, none⟩ = some (u133001) := (blk_cell BK132.out 1).trans rfl
                 have hcz202_2 := bc2_ BK132.out
                 have hcz202_3 := bc3_ BK132.out
                 have hfz202_0 := blk_frozen BK132.out 0
                 have hfz202_1 := blk_frozen BK132.out 1
                 have hfz202_2 := blk_frozen BK132.out 2
                 have hfz202_3 := blk_frozen BK132.out 3
                 obtain ⟨Ao203, co203, eo203⟩ := Kd.R_slice HO_133000.out
                 subst eo203
                 go_wp2_with (first | ((with_reducible refine gate_callee (f := 63) rfl ?_); refine goesL_ (some 159) rfl rfl Try.func63 (by kernel_rfl) rfl #[.slice Ao203 x133000_2.length co203] rfl zq1_ ?_; (with_reducible refine (impl_copied_impl_Read.calls _ _ x133000_2 t155 _ ?side1 ?side2 A198.out).mono ?_); (case side1 => refine (Kd.R_reads' (e := 48) (base := w.heap.size) (ok := fun k_ => True) (n := x133000_2.length) (c := co203) ?_).2.2; exact zq2_); (case side2 => exact zq67_); rintro e w204 ⟨v156, rfl, ho0, hb⟩; refine ⟨_, rfl, ?_⟩; have n_ := A8_ (Kd.R_elder' zq2_ (Kd.R_base ho0) hb) (Kd.R_below zq3_ hb) (Kd.R_lower (Kd.R_new' ho0 (Kd.R_lt zq2_)) (below_size zq80_)) (blk_below (g := gb128) (o := .cells #[.slice none 0 0, .slice none 0 0, .int .i64 x129002_2, .int .i64 x129003_2] 30 (0, 0)) zq57_ hb) (blk_below (g := gb131) (o := .cells #[.int .i64 x132000_2, .int .i64 x132001_2, .int .i64 x132002_2, .int .i64 x132003_2] 86 (0, 0)) zq59_ hb) (blk_below (g := gb132) (o := .cells #[.slice Ao203 x133000_2.length co203, u133001, .int .i64 0, .int .i64 0] 30 (0, 0)) zq5b_ hb) (blk_below (g := gb140) (o := .cells #[.int .i64 ((rd_T34 l1 x7_2).f0), .int .i64 ((rd_T34 l1 x7_2).f1), .int .i64 ((rd_T34 l1 x7_2).f2), .int .i64 ((rd_T34 l1 x7_2).f3)] 34 (0, 0)) zq64_ hb) (below_step zq80_ hb); clear HO_133000 HO_133001 BK128 BK131 BK132 BK140 HB; obtain ⟨HO_133000, HO_133001, HO157, BK128, BK131, BK132, BK140, HB⟩ := n_; (try clear hb); (try clear ho0); obtain ⟨Ao205, co205, eo205⟩ := Kd.R_slice HO157.out; subst eo205; have hnb206 := NB128_131.out; have hnc206 := NB131_128.out; have hnb207 := NB128_140.out; have hnc207 := NB140_128.out; have hcz208_0 := bc0_ BK128.out; have hcz208_1 := bc1_ BK128.out; have hcz208_2 := bc2_ BK128.out; have hcz208_3 := bc3_ BK128.out; have hfz208_0 := blk_frozen BK128.out 0; have hfz208_1 := blk_frozen BK128.out 1; have hfz208_2 := blk_frozen BK128.out 2; have hfz208_3 := blk_frozen BK128.out 3))
                 refine bodyPost_ret (results_cell_row rfl _ _ gb128 30 #[.slice Ao205 t155.length co205, .slice none 0 0, .int .i64 0, .int .i64 1] (0, 0) _ rfl (by (with_reducible repeat (first | refine blk_drewN ?_ _ | refine blk_drew ?_ | refine blk_alloc ?_ _)); refine blk_put (cs := #[.slice Ao205 t155.length co205, .slice none 0 0, .int .i64 0, .int .i64 x129003_2]) ?_ 3 _ rfl; (with_reducible repeat (first | refine blk_drewN ?_ _ | refine blk_drew ?_ | refine blk_alloc ?_ _)); refine blk_put (cs := #[.slice Ao205 t155.length co205, .slice none 0 0, .int .i64 x129002_2, .int .i64 x129003_2]) ?_ 2 _ rfl; (with_reducible repeat (first | refine blk_drewN ?_ _ | refine blk_drew ?_ | refine blk_alloc ?_ _)); refine blk_put (cs := #[.slice Ao205 t155.length co205, .slice none 0 0, .int .i64 x129002_2, .int .i64 x129003_2]) ?_ 1 _ rfl; (with_reducible repeat (first | refine blk_drewN ?_ _ | refine blk_drew ?_ | refine blk_alloc ?_ _)); refine blk_put (cs := #[.slice none 0 0, .slice none 0 0, .int .i64 x129002_2, .int .i64 x129003_2]) ?_ 0 _ rfl; (with_reducible repeat (first | refine blk_drewN ?_ _ | refine blk_drew ?_ | refine blk_alloc ?_ _)); exact BK128.out) Try.underlying30 rfl (by kernel_rfl)) rfl ?_
                 exact ⟨_, _, zq75_, by (with_reducible repeat (first | apply Kd.R_alloc | apply Kd.R_drewN | apply Kd.R_drew)); exact Kd.R_mono (Kd.R_far (p := ⟨gb128, 3, none⟩) (Kd.R_far (p := ⟨gb128, 2, none⟩) (Kd.R_far (p := ⟨gb128, 1, none⟩) (Kd.R_far (p := ⟨gb128, 0, none⟩) (Kd.R_types HO157.out BK128.out (by decide)) (fun _ hk => hk.2) (.slice Ao205 t155.length co205)) (fun _ hk => hk.2) (.slice none 0 0)) (fun _ hk => hk.2) (.int .i64 0)) (fun _ hk => hk.2) (.int .i64 1)) (fun _ hk => trivial), zq72_, zq80_⟩
                ·rw [if_neg c197] at H
                 have c197b0 : (((rd_T34 l1 x7_2).f0) == 7) = false := beq_eq_false_iff_ne.mpr c197
                 have c197b1 : (((rd_T34 l1 x7_2).f0) != 7) = true := bne_iff_ne.mpr c197
                 have H' := Aside0.mk H
                 clear H
                 go_wp2
                 go_meet
                 case rel => exact ⟨_, (x7_2), (x129002_2), (x129003_2), (x132000_2), (x132001_2), (x132002_2), (x132003_2), (x133000_2), (x133001_2), (u133000), (u133001), zq76_, H', ⟨zq77_⟩, ⟨zq2e_⟩, ⟨zq2f_⟩, ⟨zq57_⟩, ⟨zq59_⟩, ⟨zq5b_⟩, ⟨zq64_⟩, ⟨zq80_⟩⟩
        case rest =>
         clear HC20
         try clear c1
         try clear p1
         try clear q1
         try clear c2
         try clear p2
         try clear c6
         try clear p6
         try clear c16
         try clear p16
         try clear q16
         try clear c17
         try clear p17
         try clear q17
         try clear hf17
         try clear c18
         try clear p18
         try clear q18
         try clear c19
         try clear p19
         try clear q19
         try clear c20
         try clear c63
         try clear p64
         try clear c160
         try clear c160b0
         try clear c160b1
         try clear c161
         try clear c161b0
         try clear c162
         try clear c162b0
         try clear c163
         try clear c163b0
         try clear c164
         try clear c164b0
         try clear p167
         try clear q167
         try clear c168
         try clear c169
         try clear c170
         try clear p171
         try clear q171
         try clear p172
         try clear q172
         try clear hf172
         try clear c174
         try clear c174b0
         try clear c174b1
         try clear c175
         try clear c175b0
         try clear c176
         try clear c176b0
         try clear c177
         try clear c177b0
         try clear c178
         try clear c178b0
         try clear c179
         try clear c179b0
         try clear p182
         try clear q182
         try clear c183
         try clear c184
         try clear c185
         try clear p186
         try clear q186
         try clear c187
         try clear c188
         try clear p192
         try clear q192
         try clear c193
         try clear c194
         try clear c195
         try clear p196
         try clear q196
         try clear c197
         try clear c197b0
         try clear c197b1
         try clear c199
         try clear c200
         try clear c201
         try clear c206
         try clear c207
         try clear hcz189_0 hcz189_1 hcz189_2 hcz189_3 hfz189_0 hfz189_1 hfz189_2 hfz189_3
         try clear hcz202_0 hcz202_1 hcz202_2 hcz202_3 hfz202_0 hfz202_1 hfz202_2 hfz202_3
         try clear hcz208_0 hcz208_1 hcz208_2 hcz208_3 hfz208_0 hfz208_1 hfz208_2 hfz208_3
         obtain ⟨kq, x7_19, x129002_19, x129003_19, x132000_19, x132001_19, x132002_19, x132003_19, x133000_19, x133001_19, u133000, u133001, rfl, HA, HJ19, HO_133000, HO_133001, BK128, BK131, BK132, BK140, HB⟩ := hcut
         cases kq with
         | zero => exact absurd HA.out (by simp [impl_ExecRun.j2])
         | succ kj19 =>
          have H := HA.out
          clear HA
          simp only [impl_ExecRun.j2] at H
          have H' := Aside0.mk H
          clear H
          have hnb209 := NB131_128.out
          have hnc209 := NB128_131.out
          have hnb210 := NB131_132.out
          have hnc210 := NB132_131.out
          have hnb211 := NB131_140.out
          have hnc211 := NB140_131.out
          have hcz212_0 := bc0_ BK131.out
          have hcz212_1 := bc1_ BK131.out
          have hcz212_2 := bc2_ BK131.out
          have hcz212_3 := bc3_ BK131.out
          have hfz212_0 := blk_frozen BK131.out 0
          have hfz212_1 := blk_frozen BK131.out 1
          have hfz212_2 := blk_frozen BK131.out 2
          have hfz212_3 := blk_frozen BK131.out 3
          go_wp2
          go_loopg [162] kj19 (fun kq v162 w' => ∃ (x162_4 : Int) (x129002_4 : Int) (x129003_4 : Int), v162 = .int .i64 x162_4 ∧ Aside0 (impl_ExecRun.l1 kq l0 l1 x7_19 x162_4 x132000_19 x132001_19 x132002_19 x132003_19 x133000_19 x133001_19 0 0 x132000_19 x132001_19 x132002_19 x132003_19 = some (r1, r2, r3, r4)) ∧ Aside0 (kq ≤ kj19) ∧ Aside0 (Kd.R k48 48 w' w.heap.size (fun _ => True) u133000 x133000_19) ∧ Aside0 (Kd.R k36 36 w' w.heap.size (fun _ => True) u133001 x133001_19) ∧ Aside0 (w'.heap[gb128]? = some (.cells #[(.slice none 0 0), (.slice none 0 0), .int .i64 x129002_4, .int .i64 x129003_4] 30 (0, 0))) ∧ Aside0 (w'.heap[gb131]? = some (.cells #[.int .i64 x132000_19, .int .i64 x132001_19, .int .i64 x132002_19, .int .i64 x132003_19] 86 (0, 0))) ∧ Aside0 (w'.heap[gb132]? = some (.cells #[u133000, u133001, .int .i64 0, .int .i64 0] 30 (0, 0))) ∧ Aside0 (w'.heap[gb140]? = some (.cells #[.int .i64 ((rd_T34 l1 x7_2).f0), .int .i64 ((rd_T34 l1 x7_2).f1), .int .i64 ((rd_T34 l1 x7_2).f2), .int .i64 ((rd_T34 l1 x7_2).f3)] 34 (0, 0))) ∧ Aside0 (Below w.heap.size w w'))
          case atStart => exact ⟨(0), (x129002_19), (x129003_19), zq76_, H', ⟨Nat.le_refl _⟩, ⟨zq24_⟩, ⟨zq25_⟩, ⟨zq36_⟩, ⟨zq37_⟩, ⟨zq38_⟩, ⟨zq39_⟩, ⟨zq80_⟩⟩
          case round =>
           clear H'
           try clear c1
           try clear p1
           try clear q1
           try clear c2
           try clear p2
           try clear c6
           try clear p6
           try clear c16
           try clear p16
           try clear q16
           try clear c17
           try clear p17
           try clear q17
           try clear hf17
           try clear c18
           try clear p18
           try clear q18
           try clear c19
           try clear p19
           try clear q19
           try clear c20
           try clear c21
           try clear c63
           try clear p64
           try clear c160
           try clear c160b0
           try clear c160b1
           try clear c161
           try clear c161b0
           try clear c162
           try clear c162b0
           try clear c163
           try clear c163b0
           try clear c164
           try clear c164b0
           try clear p167
           try clear q167
           try clear c168
           try clear c169
           try clear c170
           try clear p171
           try clear q171
           try clear p172
           try clear q172
           try clear hf172
           try clear c174
           try clear c174b0
           try clear c174b1
           try clear c175
           try clear c175b0
           try clear c176
           try clear c176b0
           try clear c177
           try clear c177b0
           try clear c178
           try clear c178b0
           try clear c179
           try clear c179b0
           try clear p182
           try clear q182
           try clear c183
           try clear c184
           try clear c185
           try clear p186
           try clear q186
           try clear c187
           try clear c188
           try clear p192
           try clear q192
           try clear c193
           try clear c194
           try clear c195
           try clear p196
           try clear q196
           try clear c197
           try clear c197b0
           try clear c197b1
           try clear c199
           try clear c200
           try clear c201
           try clear c206
           try clear c207
           try clear c209
           try clear c210
           try clear c211
           try clear hcz189_0 hcz189_1 hcz189_2 hcz189_3 hfz189_0 hfz189_1 hfz189_2 hfz189_3
           try clear hcz202_0 hcz202_1 hcz202_2 hcz202_3 hfz202_0 hfz202_1 hfz202_2 hfz202_3
           try clear hcz208_0 hcz208_1 hcz208_2 hcz208_3 hfz208_0 hfz208_1 hfz208_2 hfz208_3
           try clear hcz212_0 hcz212_1 hcz212_2 hcz212_3 hfz212_0 hfz212_1 hfz212_2 hfz212_3
           try clear p1
           try clear p16
           try clear p167
           try clear p17
           try clear p171
           try clear p172
           try clear p18
           try clear p182
           try clear p186
           try clear p19
           try clear p192
           try clear p196
           try clear p2
           try clear p6
           try clear p64
           try clear q1
           try clear q16
           try clear q167
           try clear q17
           try clear q171
           try clear q172
           try clear q18
           try clear q182
           try clear q186
           try clear q19
           try clear q192
           try clear q196
           obtain ⟨x162_4, x129002_4, x129003_4, rfl, HA, HK4, HO_133000, HO_133001, BK128, BK131, BK132, BK140, HB⟩ := hrel
           cases gk with
           | zero => exact absurd HA.out (by simp [impl_ExecRun.l1])
           | succ k4 =>
            have H := HA.out
            clear HA
            simp only [impl_ExecRun.l1] at H
            by_cases c213 : x162_4 < 4
            ·as_aux_lemma =>
              rw [if_pos c213] at H
              have c213b0 : decide (x162_4 < 4) = true := decide_eq_true c213
              clear c213
              by_cases c214 : 0 ≤ x162_4
              ·rw [if_pos c214] at H
               have c214b0 : decide (0 ≤ x162_4) = true := decide_eq_true c214
               clear c214
               replace H := Option.bind_eq_some_iff.mp H
               obtain ⟨t159, A2150, H⟩ := H
               (try dsimp only at H)
               have A215 := Aside0.mk A2150
               clear A2150
               by_cases c216 : t159 = true
               ·subst c216
                rw [if_pos rfl] at H
                have H' := Aside0.mk H
                clear H
                have p217 : 0 ≤ x162_4 := of_decide_eq_true zq71_
                have q217 : x162_4 < 4 := of_decide_eq_true zq71_
                have hix217 := agxI4 (P := Try.prog) Try.underlying86 Try.underlying3 (by kernel_rfl) x132000_19 x132001_19 x132002_19 x132003_19 x162_4 p217 q217
                replace p217 := eq_true p217
                replace q217 := eq_true q217
                go_wp2_with (first | ((with_reducible refine gate_callee (f := 64) rfl ?_); refine goesL_ (some 166) rfl rfl Try.func64 (by kernel_rfl) rfl #[.int .i64 (rd [x132000_19, x132001_19, x132002_19, x132003_19] x162_4), .int .i64 (-1000000), .int .i64 1000000] rfl zq1_ ?_; (with_reducible refine (impl_in.calls (rd [x132000_19, x132001_19, x132002_19, x132003_19] x162_4) (-1000000) 1000000 true _ A215.out).mono ?_); rintro e w' ⟨rfl, ⟨nd, rfl⟩⟩; refine ⟨_, rfl, ?_⟩))
                go_roundg k4
                case measure => have := HJ2.out; have := HK2.out; have := HJ19.out; have := HK4.out; omega
                case rel => exact ⟨(wrap64 (x162_4 + 1)), (x129002_4), (x129003_4), zq76_, H', ⟨by have := HJ2.out; have := HK2.out; have := HJ19.out; have := HK4.out; omega⟩, ⟨zq24_⟩, ⟨zq25_⟩, ⟨zq36_⟩, ⟨zq37_⟩, ⟨zq38_⟩, ⟨zq39_⟩, ⟨zq80_⟩⟩
               ·replace c216 := Bool.eq_false_iff.mpr c216
                subst c216
                rw [if_neg (show ¬ (false = true) by decide)] at H
                replace H := Option.bind_eq_some_iff.mp H
                obtain ⟨t160, A2180, H⟩ := H
                (try dsimp only at H)
                have A218 := Aside0.mk A2180
                clear A2180
                simp only [Option.some.injEq, Prod.mk.injEq] at H
                obtain ⟨rfl, rfl, rfl, rfl⟩ := H
                have p219 : 0 ≤ x162_4 := of_decide_eq_true zq71_
                have q219 : x162_4 < 4 := of_decide_eq_true zq71_
                have hix219 := agxI4 (P := Try.prog) Try.underlying86 Try.underlying3 (by kernel_rfl) x132000_19 x132001_19 x132002_19 x132003_19 x162_4 p219 q219
                replace p219 := eq_true p219
                replace q219 := eq_true q219
                go_wp2_with (first | ((with_reducible refine gate_callee (f := 64) rfl ?_); refine goesL_ (some 166) rfl rfl Try.func64 (by kernel_rfl) rfl #[.int .i64 (rd [x132000_19, x132001_19, x132002_19, x132003_19] x162_4), .int .i64 (-1000000), .int .i64 1000000] rfl zq1_ ?_; (with_reducible refine (impl_in.calls (rd [x132000_19, x132001_19, x132002_19, x132003_19] x162_4) (-1000000) 1000000 false _ A215.out).mono ?_); rintro e w' ⟨rfl, ⟨nd, rfl⟩⟩; refine ⟨_, rfl, ?_⟩; (try (rw [drewN_self wr]; generalize hq_ : World.drewN wr _ = wr; have n0_ : Aside0 (Kd.R k48 48 wr w.heap.size (fun _ => True) u133000 x133000_19) := ⟨by rw [← hq_]; exact zq24_⟩; have n1_ : Aside0 (Kd.R k36 36 wr w.heap.size (fun _ => True) u133001 x133001_19) := ⟨by rw [← hq_]; exact zq25_⟩; have n2_ : Aside0 (wr.heap[gb128]? = some (.cells #[.slice none 0 0, .slice none 0 0, .int .i64 x129002_4, .int .i64 x129003_4] 30 (0, 0))) := ⟨by rw [← hq_]; exact zq36_⟩; have n3_ : Aside0 (wr.heap[gb131]? = some (.cells #[.int .i64 x132000_19, .int .i64 x132001_19, .int .i64 x132002_19, .int .i64 x132003_19] 86 (0, 0))) := ⟨by rw [← hq_]; exact zq37_⟩; have n4_ : Aside0 (wr.heap[gb132]? = some (.cells #[u133000, u133001, .int .i64 0, .int .i64 0] 30 (0, 0))) := ⟨by rw [← hq_]; exact zq38_⟩; have n5_ : Aside0 (wr.heap[gb140]? = some (.cells #[.int .i64 ((rd_T34 l1 x7_2).f0), .int .i64 ((rd_T34 l1 x7_2).f1), .int .i64 ((rd_T34 l1 x7_2).f2), .int .i64 ((rd_T34 l1 x7_2).f3)] 34 (0, 0))) := ⟨by rw [← hq_]; exact zq39_⟩; have n6_ : Aside0 (Below w.heap.size w wr) := ⟨by rw [← hq_]; exact zq80_⟩; clear HO_133000 HO_133001 BK128 BK131 BK132 BK140 HB hq_; have HO_133000 := n0_; have HO_133001 := n1_; have BK128 := n2_; have BK131 := n3_; have BK132 := n4_; have BK140 := n5_; have HB := n6_; clear n0_ n1_ n2_ n3_ n4_ n5_ n6_)); have hnb220 := NB132_128.out; have hnc220 := NB128_132.out; have hnb221 := NB132_131.out; have hnc221 := NB131_132.out; have hnb222 := NB132_140.out; have hnc222 := NB140_132.out; have hcz223_0 : wr.cell? ⟨gb132, 0, none⟩ = some (u133000) := (blk_cell BK132.out 0).trans rfl; have hcz223_1 : wr.cell? ⟨gb132, 1, none⟩ = some (u133001) := (blk_cell BK132.out 1).trans rfl; have hcz223_2 := bc2_ BK132.out; have hcz223_3 := bc3_ BK132.out; have hfz223_0 := blk_frozen BK132.out 0; have hfz223_1 := blk_frozen BK132.out 1; have hfz223_2 := blk_frozen BK132.out 2; have hfz223_3 := blk_frozen BK132.out 3; obtain ⟨Ao224, co224, eo224⟩ := Kd.R_slice HO_133000.out; subst eo224) | ((with_reducible refine gate_callee (f := 63) rfl ?_); refine goesL_ (some 170) rfl rfl Try.func63 (by kernel_rfl) rfl #[.slice Ao224 x133000_19.length co224] rfl zq1_ ?_; (with_reducible refine (impl_copied_impl_Read.calls _ _ x133000_19 t160 _ ?side1 ?side2 A218.out).mono ?_); (case side1 => exact zqb9_); (case side2 => exact zq67_); rintro e w225 ⟨v161, rfl, ho0, hb⟩; refine ⟨_, rfl, ?_⟩; have n_ := A8_ (Kd.R_elder' zq24_ (Kd.R_base ho0) hb) (Kd.R_below zq25_ hb) (Kd.R_lower (Kd.R_new' ho0 (Kd.R_lt zq24_)) (below_size zq80_)) (blk_below (g := gb128) (o := .cells #[.slice none 0 0, .slice none 0 0, .int .i64 x129002_4, .int .i64 x129003_4] 30 (0, 0)) zq36_ hb) (blk_below (g := gb131) (o := .cells #[.int .i64 x132000_19, .int .i64 x132001_19, .int .i64 x132002_19, .int .i64 x132003_19] 86 (0, 0)) zq37_ hb) (blk_below (g := gb132) (o := .cells #[.slice Ao224 x133000_19.length co224, u133001, .int .i64 0, .int .i64 0] 30 (0, 0)) zq38_ hb) (blk_below (g := gb140) (o := .cells #[.int .i64 ((rd_T34 l1 x7_2).f0), .int .i64 ((rd_T34 l1 x7_2).f1), .int .i64 ((rd_T34 l1 x7_2).f2), .int .i64 ((rd_T34 l1 x7_2).f3)] 34 (0, 0)) zq39_ hb) (below_step zq80_ hb); clear HO_133000 HO_133001 BK128 BK131 BK132 BK140 HB; obtain ⟨HO_133000, HO_133001, HO162, BK128, BK131, BK132, BK140, HB⟩ := n_; obtain ⟨Ao226, co226, eo226⟩ := Kd.R_slice HO162.out; subst eo226; have hnb227 := NB128_131.out; have hnc227 := NB131_128.out; have hnb228 := NB128_140.out; have hnc228 := NB140_128.out; have hcz229_0 := bc0_ BK128.out; have hcz229_1 := bc1_ BK128.out; have hcz229_2 := bc2_ BK128.out; have hcz229_3 := bc3_ BK128.out; have hfz229_0 := blk_frozen BK128.out 0; have hfz229_1 := blk_frozen BK128.out 1; have hfz229_2 := blk_frozen BK128.out 2; have hfz229_3 := blk_frozen BK128.out 3))
                refine bodyPost_ret (results_cell_row rfl _ _ gb128 30 #[.slice Ao226 t160.length co226, .slice none 0 0, .int .i64 0, .int .i64 2] (0, 0) _ rfl (by (with_reducible repeat (first | refine blk_drewN ?_ _ | refine blk_drew ?_ | refine blk_alloc ?_ _)); refine blk_put (cs := #[.slice Ao226 t160.length co226, .slice none 0 0, .int .i64 0, .int .i64 x129003_4]) ?_ 3 _ rfl; (with_reducible repeat (first | refine blk_drewN ?_ _ | refine blk_drew ?_ | refine blk_alloc ?_ _)); refine blk_put (cs := #[.slice Ao226 t160.length co226, .slice none 0 0, .int .i64 x129002_4, .int .i64 x129003_4]) ?_ 2 _ rfl; (with_reducible repeat (first | refine blk_drewN ?_ _ | refine blk_drew ?_ | refine blk_alloc ?_ _)); refine blk_put (cs := #[.slice Ao226 t160.length co226, .slice none 0 0, .int .i64 x129002_4, .int .i64 x129003_4]) ?_ 1 _ rfl; (with_reducible repeat (first | refine blk_drewN ?_ _ | refine blk_drew ?_ | refine blk_alloc ?_ _)); refine blk_put (cs := #[.slice none 0 0, .slice none 0 0, .int .i64 x129002_4, .int .i64 x129003_4]) ?_ 0 _ rfl; (with_reducible repeat (first | refine blk_drewN ?_ _ | refine blk_drew ?_ | refine blk_alloc ?_ _)); exact BK128.out) Try.underlying30 rfl (by kernel_rfl)) rfl ?_
                exact ⟨_, _, zq75_, by (with_reducible repeat (first | apply Kd.R_alloc | apply Kd.R_drewN | apply Kd.R_drew)); exact Kd.R_mono (Kd.R_far (p := ⟨gb128, 3, none⟩) (Kd.R_far (p := ⟨gb128, 2, none⟩) (Kd.R_far (p := ⟨gb128, 1, none⟩) (Kd.R_far (p := ⟨gb128, 0, none⟩) (Kd.R_types HO162.out BK128.out (by decide)) (fun _ hk => hk.2) (.slice Ao226 t160.length co226)) (fun _ hk => hk.2) (.slice none 0 0)) (fun _ hk => hk.2) (.int .i64 0)) (fun _ hk => hk.2) (.int .i64 2)) (fun _ hk => trivial), zq72_, zq80_⟩
              ·rw [if_neg c214] at H
               exact absurd H (by simp)
            ·rw [if_neg c213] at H
             have c213b0 : decide (x162_4 < 4) = false := decide_eq_false c213
             clear c213
             have H' := Aside0.mk H
             clear H
             go_wp2
             go_roundg k4
             case measure => have := HJ2.out; have := HK2.out; have := HJ19.out; have := HK4.out; omega
             case rel => exact ⟨(wrap64 (x7_19 + 1)), (x129002_4), (x129003_4), (x132000_19), (x132001_19), (x132002_19), (x132003_19), (x133000_19), (x133001_19), (u133000), (u133001), zq76_, H', ⟨by have := HJ2.out; have := HK2.out; have := HJ19.out; have := HK4.out; omega⟩, ⟨zq24_⟩, ⟨zq25_⟩, ⟨zq36_⟩, ⟨zq37_⟩, ⟨zq38_⟩, ⟨zq80_⟩⟩
       ·rw [if_neg c19] at H
        exact absurd H (by simp)
      ·as_aux_lemma =>
        rw [if_neg c18] at H
        have c18b0 : decide (x7_2 < (l1.length : Int)) = false := decide_eq_false c18
        clear c18
        replace H := Option.bind_eq_some_iff.mp H
        obtain ⟨t133, A2300, H⟩ := H
        (try dsimp only at H)
        have A230 := Aside0.mk A2300
        clear A2300
        replace H := Option.bind_eq_some_iff.mp H
        obtain ⟨t136, A2310, H⟩ := H
        (try dsimp only at H)
        have A231 := Aside0.mk A2310
        clear A2310
        simp only [Option.some.injEq, Prod.mk.injEq] at H
        obtain ⟨rfl, rfl, rfl, rfl⟩ := H
        try go_wp2
        have n_ := A6_ (Kd.R_drew HO_133000.out) (Kd.R_drew HO_133001.out) (blk_drew BK128.out) (blk_drew BK131.out) (blk_drew BK132.out) (below_drew1 HB.out)
        clear HO_133000 HO_133001 BK128 BK131 BK132 HB
        obtain ⟨HO_133000, HO_133001, BK128, BK131, BK132, HB⟩ := n_
        obtain ⟨Ao233, co233, eo233⟩ := Kd.R_slice HO_133000.out
        (first | subst eo233 | (injection eo233 with f1_ f2_ f3_; have f4_ := f1_.symm; have f5_ := f3_.symm; clear f1_ f2_ f3_; subst f4_; subst f5_))
        refine start_ (n := 10) (S := fun w' => w'.cell? ⟨gb132, 0, none⟩ = some (.slice Ao233 x133000_2.length co233) ∧ w'.cell? ⟨gb132, 1, none⟩ = some (u133001) ∧ w'.cell? ⟨gb132, 2, none⟩ = some (.int .i64 0) ∧ w'.cell? ⟨gb132, 3, none⟩ = some (.int .i64 0) ∧ w'.cell? ⟨gb131, 0, none⟩ = some (.int .i64 x132000_2) ∧ w'.cell? ⟨gb131, 1, none⟩ = some (.int .i64 x132001_2) ∧ w'.cell? ⟨gb131, 2, none⟩ = some (.int .i64 x132002_2) ∧ w'.cell? ⟨gb131, 3, none⟩ = some (.int .i64 x132003_2)) (ds := []) #[false, false, false, false, false, false, false, false, false, false] (by kernel_rfl) rfl rfl ⟨(blk_cell BK132.out 0).trans rfl, (blk_cell BK132.out 1).trans rfl, (blk_cell BK132.out 2).trans rfl, (blk_cell BK132.out 3).trans rfl, (blk_cell BK131.out 0).trans rfl, (blk_cell BK131.out 1).trans rfl, (blk_cell BK131.out 2).trans rfl, (blk_cell BK131.out 3).trans rfl⟩ (fun hHeld => ?_); refine with_tabW impl_ExecRun.tab39 impl_ExecRun.bits39 (fun HT_ HW_ => ?_)
        generalize wr.drew = w232 at HO_133000 HO_133001 BK128 BK131 BK132 HB hHeld ⊢
        refine pv_ (i := 0) (N := some 173) rfl rfl ?_
        refine pv_ (i := 3) (N := some 176) rfl rfl ?_
        refine pv_ (i := 6) (N := some 179) rfl rfl ?_
        refine tv_ (i := 1) (N := some 174) rfl rfl ?_
        refine tv_ (i := 4) (N := some 177) rfl rfl ?_
        refine tv_ (i := 7) (N := some 180) rfl rfl ?_
        refine on_ (i := 2) (N := some 175) rfl rfl (one_of HT_.out (by kernel_rfl)) (by decide) (fun K hK => ?_)
        refine goes_ Try.func63 (by kernel_rfl) rfl #[.slice Ao233 x133000_2.length co233] (by rfl) rfl rfl zq1_ ?_
        with_reducible refine (impl_copied_impl_Read.calls _ _ x133000_2 t133 _ ?side1 ?side2 A230.out).mono ?_
        (case side1 => exact zqb9_)
        (case side2 => exact zq67_)
        rintro e w234 ⟨v134, rfl, ho0, hb⟩
        refine ⟨_, rfl, ?_⟩
        have n_ := A7_ (Kd.R_elder' zq24_ (Kd.R_base ho0) hb) (Kd.R_below zq25_ hb) (Kd.R_lower (Kd.R_new' ho0 (Kd.R_lt zq24_)) (below_size zq81_)) (blk_below (g := gb128) (o := .cells #[.slice none 0 0, .slice none 0 0, .int .i64 x129002_2, .int .i64 x129003_2] 30 (0, 0)) zq36_ hb) (blk_below (g := gb131) (o := .cells #[.int .i64 x132000_2, .int .i64 x132001_2, .int .i64 x132002_2, .int .i64 x132003_2] 86 (0, 0)) zq37_ hb) (blk_below (g := gb132) (o := .cells #[.slice Ao233 x133000_2.length co233, u133001, .int .i64 0, .int .i64 0] 30 (0, 0)) zq38_ hb) (below_step zq81_ hb)
        clear HO_133000 HO_133001 BK128 BK131 BK132 HB
        obtain ⟨HO_133000, HO_133001, HO135, BK128, BK131, BK132, HB⟩ := n_
        (try clear hb)
        (try clear hb2)
        (try clear hk)
        (try clear hi)
        (try clear ho0)
        obtain ⟨Ao235, co235, eo235⟩ := Kd.R_slice HO_133001.out
        (first | subst eo235 | (injection eo235 with f1_ f2_ f3_; have f4_ := f1_.symm; have f5_ := f3_.symm; clear f1_ f2_ f3_; subst f4_; subst f5_))
        refine hK.out _ _ ⟨(blk_cell BK132.out 0).trans rfl, (blk_cell BK132.out 1).trans rfl, (blk_cell BK132.out 2).trans rfl, (blk_cell BK132.out 3).trans rfl, (blk_cell BK131.out 0).trans rfl, (blk_cell BK131.out 1).trans rfl, (blk_cell BK131.out 2).trans rfl, (blk_cell BK131.out 3).trans rfl⟩ (fun hHeld => ?_)
        clear hK K
        refine norm_ (a' := ?_) ?_ ?_
        rotate_left
        ·show Act.put _ (some 175) _ = _
         simp only [Act.put, sA_, sZ_, sS_, i64_w, i32_w]
         rfl
        refine on_ (i := 5) (N := some 178) rfl rfl (one_of HT_.out (by kernel_rfl)) (by decide) (fun K hK => ?_)
        refine goes_ Try.func65 (by kernel_rfl) rfl #[.slice Ao235 x133001_2.length co235] (by rfl) rfl rfl zq1_ ?_
        with_reducible refine (impl_copied_impl_Put.calls _ _ x133001_2 t136 _ ?side1 ?side2 A231.out).mono ?_
        (case side1 => exact zqba_)
        (case side2 => exact zq68_)
        rintro e w236 ⟨v137, rfl, ho0, hb⟩
        refine ⟨_, rfl, ?_⟩
        have n_ := A8_ (Kd.R_below zq24_ hb) (Kd.R_elder' zq25_ (Kd.R_base ho0) hb) (Kd.R_below (by (with_reducible repeat (first | apply Kd.R_alloc | apply Kd.R_drewN | apply Kd.R_drew)); exact HO135.out) hb) (Kd.R_lower (Kd.R_new' ho0 (Kd.R_lt zq25_)) (below_size zq81_)) (blk_below (g := gb128) (o := .cells #[.slice none 0 0, .slice none 0 0, .int .i64 x129002_2, .int .i64 x129003_2] 30 (0, 0)) zq36_ hb) (blk_below (g := gb131) (o := .cells #[.int .i64 x132000_2, .int .i64 x132001_2, .int .i64 x132002_2, .int .i64 x132003_2] 86 (0, 0)) zq37_ hb) (blk_below (g := gb132) (o := .cells #[.slice Ao233 x133000_2.length co233, .slice Ao235 x133001_2.length co235, .int .i64 0, .int .i64 0] 30 (0, 0)) zq38_ hb) (below_step zq81_ hb)
        clear HO_133000 HO_133001 HO135 BK128 BK131 BK132 HB
        obtain ⟨HO_133000, HO_133001, HO135, HO138, BK128, BK131, BK132, HB⟩ := n_
        (try clear hb)
        (try clear hb2)
        (try clear hk)
        (try clear hi)
        (try clear ho0)
        obtain ⟨Ao237, co237, eo237⟩ := Kd.R_slice HO138.out
        (first | subst eo237 | (injection eo237 with f1_ f2_ f3_; have f4_ := f1_.symm; have f5_ := f3_.symm; clear f1_ f2_ f3_; subst f4_; subst f5_))
        obtain ⟨Ao238, co238, eo238⟩ := Kd.R_slice HO135.out
        (first | subst eo238 | (injection eo238 with f1_ f2_ f3_; have f4_ := f1_.symm; have f5_ := f3_.symm; clear f1_ f2_ f3_; subst f4_; subst f5_))
        refine hK.out _ _ ⟨(blk_cell BK132.out 0).trans rfl, (blk_cell BK132.out 1).trans rfl, (blk_cell BK132.out 2).trans rfl, (blk_cell BK132.out 3).trans rfl, (blk_cell BK131.out 0).trans rfl, (blk_cell BK131.out 1).trans rfl, (blk_cell BK131.out 2).trans rfl, (blk_cell BK131.out 3).trans rfl⟩ (fun hHeld => ?_)
        clear hK K
        refine norm_ (a' := ?_) ?_ ?_
        rotate_left
        ·show Act.put _ (some 178) _ = _
         simp only [Act.put, sA_, sZ_, sS_, i64_w, i32_w]
         rfl
        refine pv_ (i := 8) (N := some 181) rfl rfl ?_
        refine on_ (i := 9) (N := none) rfl rfl (one_of HT_.out (by kernel_rfl)) (by decide) (fun K hK => ?_)
        have hs239 : w236.cell? ⟨gb128, 0, none⟩ = some (.slice none 0 0) := (blk_cell BK128.out 0).trans rfl
        have hfs239 := blk_frozen BK128.out 0
        have hns239_1 := NB131_128.out
        have hns239_2 := NB132_128.out
        have hms239_1 := NB128_131.out
        have hms239_2 := NB128_132.out
        have hs240 : w236.cell? ⟨gb128, 1, none⟩ = some (.slice none 0 0) := (blk_cell BK128.out 1).trans rfl
        have hfs240 := blk_frozen BK128.out 1
        have hns240_1 := NB131_128.out
        have hns240_2 := NB132_128.out
        have hms240_1 := NB128_131.out
        have hms240_2 := NB128_132.out
        have hs241 : w236.cell? ⟨gb128, 2, none⟩ = some (.int .i64 x129002_2) := (blk_cell BK128.out 2).trans rfl
        have hfs241 := blk_frozen BK128.out 2
        have hns241_1 := NB131_128.out
        have hns241_2 := NB132_128.out
        have hms241_1 := NB128_131.out
        have hms241_2 := NB128_132.out
        have hs242 : w236.cell? ⟨gb128, 3, none⟩ = some (.int .i64 x129003_2) := (blk_cell BK128.out 3).trans rfl
        have hfs242 := blk_frozen BK128.out 3
        have hns242_1 := NB131_128.out
        have hns242_2 := NB132_128.out
        have hms242_1 := NB128_131.out
        have hms242_2 := NB128_132.out
        refine skip_ (w1 := ?_) (by rfl) rfl ?_ ?_
        rotate_left
        ·go_simp
         rfl
        refine hK.out _ _ ⟨((cell_far (p := ⟨gb128, _, none⟩) NB132_128.out _).trans (((cell_far (p := ⟨gb128, _, none⟩) NB132_128.out _).trans (((cell_far (p := ⟨gb128, _, none⟩) NB132_128.out _).trans (((cell_far (p := ⟨gb128, _, none⟩) NB132_128.out _).trans (hHeld.1)))))))), ((cell_far (p := ⟨gb128, _, none⟩) NB132_128.out _).trans (((cell_far (p := ⟨gb128, _, none⟩) NB132_128.out _).trans (((cell_far (p := ⟨gb128, _, none⟩) NB132_128.out _).trans (((cell_far (p := ⟨gb128, _, none⟩) NB132_128.out _).trans (hHeld.2.1)))))))), ((cell_far (p := ⟨gb128, _, none⟩) NB132_128.out _).trans (((cell_far (p := ⟨gb128, _, none⟩) NB132_128.out _).trans (((cell_far (p := ⟨gb128, _, none⟩) NB132_128.out _).trans (((cell_far (p := ⟨gb128, _, none⟩) NB132_128.out _).trans (hHeld.2.2.1)))))))), ((cell_far (p := ⟨gb128, _, none⟩) NB132_128.out _).trans (((cell_far (p := ⟨gb128, _, none⟩) NB132_128.out _).trans (((cell_far (p := ⟨gb128, _, none⟩) NB132_128.out _).trans (((cell_far (p := ⟨gb128, _, none⟩) NB132_128.out _).trans (hHeld.2.2.2.1)))))))), ((cell_far (p := ⟨gb128, _, none⟩) NB131_128.out _).trans (((cell_far (p := ⟨gb128, _, none⟩) NB131_128.out _).trans (((cell_far (p := ⟨gb128, _, none⟩) NB131_128.out _).trans (((cell_far (p := ⟨gb128, _, none⟩) NB131_128.out _).trans (hHeld.2.2.2.2.1)))))))), ((cell_far (p := ⟨gb128, _, none⟩) NB131_128.out _).trans (((cell_far (p := ⟨gb128, _, none⟩) NB131_128.out _).trans (((cell_far (p := ⟨gb128, _, none⟩) NB131_128.out _).trans (((cell_far (p := ⟨gb128, _, none⟩) NB131_128.out _).trans (hHeld.2.2.2.2.2.1)))))))), ((cell_far (p := ⟨gb128, _, none⟩) NB131_128.out _).trans (((cell_far (p := ⟨gb128, _, none⟩) NB131_128.out _).trans (((cell_far (p := ⟨gb128, _, none⟩) NB131_128.out _).trans (((cell_far (p := ⟨gb128, _, none⟩) NB131_128.out _).trans (hHeld.2.2.2.2.2.2.1)))))))), ((cell_far (p := ⟨gb128, _, none⟩) NB131_128.out _).trans (((cell_far (p := ⟨gb128, _, none⟩) NB131_128.out _).trans (((cell_far (p := ⟨gb128, _, none⟩) NB131_128.out _).trans (((cell_far (p := ⟨gb128, _, none⟩) NB131_128.out _).trans (hHeld.2.2.2.2.2.2.2))))))))⟩ (fun hHeld => ?_)
        clear hK K
        refine done_ (done_of HT_.out (by kernel_rfl)) ?_
        try go_wp2
        refine bodyPost_ret (results_cell_row rfl _ _ gb128 30 #[.slice Ao238 t133.length co238, .slice Ao237 t136.length co237, .int .i64 x132000_2, .int .i64 0] (0, 0) _ rfl (by (with_reducible repeat (first | refine blk_drewN ?_ _ | refine blk_drew ?_ | refine blk_alloc ?_ _)); refine blk_put (cs := #[.slice Ao238 t133.length co238, .slice Ao237 t136.length co237, .int .i64 x132000_2, .int .i64 x129003_2]) ?_ 3 _ rfl; (with_reducible repeat (first | refine blk_drewN ?_ _ | refine blk_drew ?_ | refine blk_alloc ?_ _)); refine blk_put (cs := #[.slice Ao238 t133.length co238, .slice Ao237 t136.length co237, .int .i64 x129002_2, .int .i64 x129003_2]) ?_ 2 _ rfl; (with_reducible repeat (first | refine blk_drewN ?_ _ | refine blk_drew ?_ | refine blk_alloc ?_ _)); refine blk_put (cs := #[.slice Ao238 t133.length co238, .slice none 0 0, .int .i64 x129002_2, .int .i64 x129003_2]) ?_ 1 _ rfl; (with_reducible repeat (first | refine blk_drewN ?_ _ | refine blk_drew ?_ | refine blk_alloc ?_ _)); refine blk_put (cs := #[.slice none 0 0, .slice none 0 0, .int .i64 x129002_2, .int .i64 x129003_2]) ?_ 0 _ rfl; (with_reducible repeat (first | refine blk_drewN ?_ _ | refine blk_drew ?_ | refine blk_alloc ?_ _)); exact BK128.out) Try.underlying30 rfl (by kernel_rfl)) rfl ?_
        exact ⟨_, _, zq75_, by (with_reducible repeat (first | apply Kd.R_alloc | apply Kd.R_drewN | apply Kd.R_drew)); exact Kd.R_mono (Kd.R_far (p := ⟨gb128, 3, none⟩) (Kd.R_far (p := ⟨gb128, 2, none⟩) (Kd.R_far (p := ⟨gb128, 1, none⟩) (Kd.R_far (p := ⟨gb128, 0, none⟩) (Kd.R_types HO135.out BK128.out (by decide)) (fun _ hk => hk.2) (.slice Ao238 t133.length co238)) (fun _ hk => hk.2) (.slice Ao237 t136.length co237)) (fun _ hk => hk.2) (.int .i64 x132000_2)) (fun _ hk => hk.2) (.int .i64 0)) (fun _ hk => trivial), by (with_reducible repeat (first | apply Kd.R_alloc | apply Kd.R_drewN | apply Kd.R_drew)); exact Kd.R_mono (Kd.R_far (p := ⟨gb128, 3, none⟩) (Kd.R_far (p := ⟨gb128, 2, none⟩) (Kd.R_far (p := ⟨gb128, 1, none⟩) (Kd.R_far (p := ⟨gb128, 0, none⟩) (Kd.R_types HO138.out BK128.out (by decide)) (fun _ hk => hk.2) (.slice Ao238 t133.length co238)) (fun _ hk => hk.2) (.slice Ao237 t136.length co237)) (fun _ hk => hk.2) (.int .i64 x132000_2)) (fun _ hk => hk.2) (.int .i64 0)) (fun _ hk => trivial), zq81_⟩

end Go.Proofs.Ytgdafcakefnpdaa.PFnExactExecRun
