-- Laid by this session's program out of the translation (gen.sh).
import Derived.Test.YtgdafcakefnpdaaPFnExactExecRunx0
import Derived.Test.YtgdafcakefnpdaaPFnExactExecRunx4
import Derived.Test.YtgdafcakefnpdaaPFnExactExecRunx5
import Derived.Test.YtgdafcakefnpdaaPFnExactExecRunx7
namespace Go.Proofs.Ytgdafcakefnpdaa.PFnExactExecRun
open Go.RowKit Go.Proofs.YtgdafcakefnpdaaW.PrintWords Go.Proofs.YtgdafcakefnpdaaW.PrintLast Go.Proofs.YtgdafcakefnpdaaW.PrintMore
attribute [local go_sem] max2_int min2_int max_two min_two max_three min_three max_four min_four   -- for this text's walks alone
set_option linter.unusedVariables false
set_option linter.unusedSimpArgs false

/-! ### spec_ExecRun: function 15 -/
mutual
def spec_ExecRun.j0 : Nat → List (S46) → List (S34) → Bool → Option ((List (S48)) × (List (S36)) × Int × Int)
 | 0, _, _, _ => none
 | k + 1, x0, x1, x16 => if x16 = true then (some (([] : List (S48)), ([] : List (S36)), 0, 3)) else (if 4 ≤ 35184372088832 then (spec_ExecRun.l0 k x0 x1 (List.replicate 4 0) 0 ([] : List (S48)) ([] : List (S36)) 0 0) else (none))
def spec_ExecRun.l0 : Nat → List (S46) → List (S34) → List Int → Int → List (S48) → List (S36) → Int → Int → Option ((List (S48)) × (List (S36)) × Int × Int)
 | 0, _, _, _, _, _, _, _, _ => none
 | k + 1, x0, x1, x6, x7, x236000, x236001, x236002, x236003 => if x7 < (x1.length : Int) then (spec_ExecRun.j2 k x0 x1 x6 x7 (x236003 == 0) x236000 x236001 x236002 x236003) else (spec_ExecRun.j2 k x0 x1 x6 x7 false x236000 x236001 x236002 x236003)
def spec_ExecRun.j2 : Nat → List (S46) → List (S34) → List Int → Int → Bool → List (S48) → List (S36) → Int → Int → Option ((List (S48)) × (List (S36)) × Int × Int)
 | 0, _, _, _, _, _, _, _, _, _ => none
 | k + 1, x0, x1, x6, x7, x28, x236000, x236001, x236002, x236003 => if x28 = true then (if 0 ≤ x7 then (if x7 < (x1.length : Int) then (if ((rd_T34 x1 x7).f0) = 6 then (if 0 ≤ ((rd_T34 x1 x7).f1) then (if ((rd_T34 x1 x7).f1) < (x6.length : Int) then (if 0 ≤ ((rd_T34 x1 x7).f2) then (if ((rd_T34 x1 x7).f2) < (x6.length : Int) then (if (rd x6 ((rd_T34 x1 x7).f1)) < (rd x6 ((rd_T34 x1 x7).f2)) then (spec_ExecRun.l0 k x0 x1 x6 (wrap64 ((wrap64 (x7 + ((rd_T34 x1 x7).f3))) + 1)) x236000 x236001 x236002 x236003) else (spec_ExecRun.l0 k x0 x1 x6 (wrap64 (x7 + 1)) x236000 x236001 x236002 x236003)) else (none)) else (none)) else (none)) else (none)) else ((spec_l3Step.f k x0 x236000 x236001 x236002 x236003 x6 ((rd_T34 x1 x7).f0) ((rd_T34 x1 x7).f1) ((rd_T34 x1 x7).f2) ((rd_T34 x1 x7).f3)).bind fun bt244 => (spec_ExecRun.l0 k x0 x1 bt244.2.2.2.2 (wrap64 (x7 + 1)) bt244.1 bt244.2.1 bt244.2.2.1 bt244.2.2.2.1))) else (none)) else (none)) else (if x236003 = 0 then (if 0 < (x6.length : Int) then (some (x236000, x236001, rd x6 0, x236003)) else (none)) else (some (x236000, ([] : List (S36)), x236002, x236003)))
end
def spec_ExecRun.f (k : Nat) (l0 : List (S46)) (l1 : List (S34)) : Option ((List (S48)) × (List (S36)) × Int × Int) := (spec_BoxOk.f k l0).bind fun t233 => (if t233 = true then ((spec_ProgOk.f k l1).bind fun t234 => (spec_ExecRun.j0 k l0 l1 (!t234))) else (spec_ExecRun.j0 k l0 l1 true))
theorem spec_ExecRun.mono_l : ∀ k, (∀ y0 y1 y2, LeO (spec_ExecRun.j0 k y0 y1 y2) (spec_ExecRun.j0 (k + 1) y0 y1 y2)) ∧ (∀ y0 y1 y2 y3 y4 y5 y6 y7, LeO (spec_ExecRun.l0 k y0 y1 y2 y3 y4 y5 y6 y7) (spec_ExecRun.l0 (k + 1) y0 y1 y2 y3 y4 y5 y6 y7)) ∧ (∀ y0 y1 y2 y3 y4 y5 y6 y7 y8, LeO (spec_ExecRun.j2 k y0 y1 y2 y3 y4 y5 y6 y7 y8) (spec_ExecRun.j2 (k + 1) y0 y1 y2 y3 y4 y5 y6 y7 y8))
 | 0 => ⟨fun _ _ _ r h => by simp [spec_ExecRun.j0] at h, fun _ _ _ _ _ _ _ _ r h => by simp [spec_ExecRun.l0] at h, fun _ _ _ _ _ _ _ _ _ r h => by simp [spec_ExecRun.j2] at h⟩
 | k + 1 => by
  obtain ⟨ih0, ih1, ih2⟩ := spec_ExecRun.mono_l k
  refine ⟨?_, ?_, ?_⟩
  ·intro y0 y1 y2
   unfold spec_ExecRun.j0
   repeat' first
   | (with_reducible exact ih0 _ _ _)
   | (with_reducible exact ih1 _ _ _ _ _ _ _ _)
   | (with_reducible exact ih2 _ _ _ _ _ _ _ _ _)
   | (with_reducible exact spec_BoxOk.mono _ _)
   | (with_reducible exact spec_ProgOk.mono _ _)
   | (with_reducible exact spec_l3Step.mono _ _ _ _ _ _ _ _ _ _ _)
   | (with_reducible exact LeO.refl _)
   | (with_reducible exact LeO.none _)
   | (with_reducible refine LeO.ite ?_ ?_)
   | (with_reducible refine LeO.bind ?_ (fun _ => ?_))
   | exact ih0 _ _ _
   | exact ih1 _ _ _ _ _ _ _ _
   | exact ih2 _ _ _ _ _ _ _ _ _
   | exact spec_BoxOk.mono _ _
   | exact spec_ProgOk.mono _ _
   | exact spec_l3Step.mono _ _ _ _ _ _ _ _ _ _ _
   | exact LeO.none _
   | refine LeO.ite ?_ ?_
   | refine LeO.bind ?_ (fun _ => ?_)
  ·intro y0 y1 y2 y3 y4 y5 y6 y7
   unfold spec_ExecRun.l0
   repeat' first
   | (with_reducible exact ih0 _ _ _)
   | (with_reducible exact ih1 _ _ _ _ _ _ _ _)
   | (with_reducible exact ih2 _ _ _ _ _ _ _ _ _)
   | (with_reducible exact spec_BoxOk.mono _ _)
   | (with_reducible exact spec_ProgOk.mono _ _)
   | (with_reducible exact spec_l3Step.mono _ _ _ _ _ _ _ _ _ _ _)
   | (with_reducible exact LeO.refl _)
   | (with_reducible exact LeO.none _)
   | (with_reducible refine LeO.ite ?_ ?_)
   | (with_reducible refine LeO.bind ?_ (fun _ => ?_))
   | exact ih0 _ _ _
   | exact ih1 _ _ _ _ _ _ _ _
   | exact ih2 _ _ _ _ _ _ _ _ _
   | exact spec_BoxOk.mono _ _
   | exact spec_ProgOk.mono _ _
   | exact spec_l3Step.mono _ _ _ _ _ _ _ _ _ _ _
   | exact LeO.none _
   | refine LeO.ite ?_ ?_
   | refine LeO.bind ?_ (fun _ => ?_)
  ·intro y0 y1 y2 y3 y4 y5 y6 y7 y8
   unfold spec_ExecRun.j2
   repeat' first
   | (with_reducible exact ih0 _ _ _)
   | (with_reducible exact ih1 _ _ _ _ _ _ _ _)
   | (with_reducible exact ih2 _ _ _ _ _ _ _ _ _)
   | (with_reducible exact spec_BoxOk.mono _ _)
   | (with_reducible exact spec_ProgOk.mono _ _)
   | (with_reducible exact spec_l3Step.mono _ _ _ _ _ _ _ _ _ _ _)
   | (with_reducible exact LeO.refl _)
   | (with_reducible exact LeO.none _)
   | (with_reducible refine LeO.ite ?_ ?_)
   | (with_reducible refine LeO.bind ?_ (fun _ => ?_))
   | exact ih0 _ _ _
   | exact ih1 _ _ _ _ _ _ _ _
   | exact ih2 _ _ _ _ _ _ _ _ _
   | exact spec_BoxOk.mono _ _
   | exact spec_ProgOk.mono _ _
   | exact spec_l3Step.mono _ _ _ _ _ _ _ _ _ _ _
   | exact LeO.none _
   | refine LeO.ite ?_ ?_
   | refine LeO.bind ?_ (fun _ => ?_)
theorem spec_ExecRun.mono : ∀ a0 a1 k, LeO (spec_ExecRun.f k a0 a1) (spec_ExecRun.f (k + 1) a0 a1) := by
 intro a0 a1 k
 obtain ⟨ih0, ih1, ih2⟩ := spec_ExecRun.mono_l k
 unfold spec_ExecRun.f
 repeat' first
   | (with_reducible exact ih0 _ _ _)
   | (with_reducible exact ih1 _ _ _ _ _ _ _ _)
   | (with_reducible exact ih2 _ _ _ _ _ _ _ _ _)
   | (with_reducible exact spec_BoxOk.mono _ _)
   | (with_reducible exact spec_ProgOk.mono _ _)
   | (with_reducible exact spec_l3Step.mono _ _ _ _ _ _ _ _ _ _ _)
   | (with_reducible exact LeO.refl _)
   | (with_reducible exact LeO.none _)
   | (with_reducible refine LeO.ite ?_ ?_)
   | (with_reducible refine LeO.bind ?_ (fun _ => ?_))
   | exact ih0 _ _ _
   | exact ih1 _ _ _ _ _ _ _ _
   | exact ih2 _ _ _ _ _ _ _ _ _
   | exact spec_BoxOk.mono _ _
   | exact spec_ProgOk.mono _ _
   | exact spec_l3Step.mono _ _ _ _ _ _ _ _ _ _ _
   | exact LeO.none _
   | refine LeO.ite ?_ ?_
   | refine LeO.bind ?_ (fun _ => ?_)
set_option maxHeartbeats 8000000 in
set_option maxRecDepth 100000 in
theorem spec_ExecRun.calls (k : Nat) (A0 : Option Addr) (c0 : Nat) (l0 : List (S46)) (A1 : Option Addr) (c1 : Nat) (l1 : List (S34)) (r1 : List (S48)) (r2 : List (S36)) (r3 : Int) (r4 : Int) (w : World) (hr0 : Kd.C k46 w A0 l0.length l0) (hc0 : l0.length ≤ c0) (hr1 : Kd.C k34 w A1 l1.length l1) (hc1 : l1.length ≤ c1) (h : spec_ExecRun.f k l0 l1 = some (r1, r2, r3, r4)) :
  Calls Try.prog 15 #[.slice A0 l0.length c0, .slice A1 l1.length c1] w fun e w' => ∃ v0_ v1_ : Value, e = .returned (.agg #[v0_, v1_, .int .i64 r3, .int .i64 r4]) ∧ Kd.R k48 48 w' w.heap.size (fun _ => True) v0_ r1 ∧ Kd.R k36 36 w' w.heap.size (fun _ => True) v1_ r2 ∧ Below w.heap.size w w' := by
 have hu30 := Try.underlying30
 have hu34 := Try.underlying34
 have HR0 := Aside0.mk hr0
 have HC0 := Aside0.mk hc0
 clear hr0 hc0
 have HR1 := Aside0.mk hr1
 have HC1 := Aside0.mk hc1
 clear hr1 hc1
 have HB := Aside0.mk (Below.refl w.heap.size w)
 have H : ((spec_BoxOk.f k l0).bind fun t233 => (if t233 = true then ((spec_ProgOk.f k l1).bind fun t234 => (spec_ExecRun.j0 k l0 l1 (!t234))) else (spec_ExecRun.j0 k l0 l1 true))) = some (r1, r2, r3, r4) := h
 clear h
 have HC3 := Aside0.mk H
 clear H
 go_enter Try.func15, Try.ntmps15
 go_upto_region 1 with (first | ((with_reducible refine gate_dst (N := 4) rfl ?_); refine bxe_ (N := 4) (cs := #[.slice none 0 0, .slice none 0 0, .int .i64 0, .int .i64 0]) (t := 30) ?_; intro gb232 hg w4 hbox hb; have n_ := A4_ (below_step zqa3_ hb) (hbox) ((zqd6_ : w.heap.size ≤ gb232)) ((zqd6_ : w.heap.size ≤ gb232)); clear HB; obtain ⟨HB, BK232, GW232, GE232⟩ := n_; clear hb hbox hg))
 repeat (go_quiet (first | ((with_reducible refine gate_dst (N := 4) rfl ?_); refine bxe_ (N := 4) (cs := #[.slice none 0 0, .slice none 0 0, .int .i64 0, .int .i64 0]) (t := 30) ?_; intro gb232 hg w4 hbox hb; have n_ := A4_ (below_step zqa3_ hb) (hbox) ((zqd6_ : w.heap.size ≤ gb232)) ((zqd6_ : w.heap.size ≤ gb232)); clear HB; obtain ⟨HB, BK232, GW232, GE232⟩ := n_; clear hb hbox hg)); go_upto_region 1 with (first | ((with_reducible refine gate_dst (N := 4) rfl ?_); refine bxe_ (N := 4) (cs := #[.slice none 0 0, .slice none 0 0, .int .i64 0, .int .i64 0]) (t := 30) ?_; intro gb232 hg w4 hbox hb; have n_ := A4_ (below_step zqa3_ hb) (hbox) ((zqd6_ : w.heap.size ≤ gb232)) ((zqd6_ : w.heap.size ≤ gb232)); clear HB; obtain ⟨HB, BK232, GW232, GE232⟩ := n_; clear hb hbox hg)))
 (try simp only [Act.put, List.setIfInBounds_toArray, List.set_cons_zero, List.set_cons_succ])
 go_cut [16] (fun v16 wc => ∃ (kq : Nat) (x16_2 : Bool), v16 = .bool x16_2 ∧ Aside0 (spec_ExecRun.j0 kq l0 l1 x16_2 = some (r1, r2, r3, r4)) ∧ Aside0 (kq ≤ k) ∧ Aside0 (wc.heap[gb232]? = some (.cells #[(.slice none 0 0), (.slice none 0 0), .int .i64 0, .int .i64 0] 30 (0, 0))) ∧ Aside0 (Below w.heap.size w wc))
 case first =>
  have H := HC3.out
  clear HC3
  replace H := Option.bind_eq_some_iff.mp H
  obtain ⟨t233, A50, H⟩ := H
  (try dsimp only at H)
  have A5 := Aside0.mk A50
  clear A50
  by_cases c6 : t233 = true
  ·as_aux_lemma =>
    subst c6
    rw [if_pos rfl] at H
    replace H := Option.bind_eq_some_iff.mp H
    obtain ⟨t234, A70, H⟩ := H
    (try dsimp only at H)
    have A7 := Aside0.mk A70
    clear A70
    have H' := Aside0.mk H
    clear H
    go_wp2_with (first | (go_at_call 24; (with_reducible refine (spec_BoxOk.calls k _ _ l0 true _ ?side1 ?side2 A5.out).mono ?_); (case side1 => exact zqac_); (case side2 => exact HC0.out); rintro e w' ⟨rfl, ⟨nd, rfl⟩⟩; (try first | exact ⟨rfl, _, World.drewN_drewN _ _ _⟩ | exact ⟨rfl, _, Eq.trans (World.drewN_drewN _ _ _) (congrArg (World.drewN _) (Nat.add_assoc _ _ _))⟩); (try clear A5)) | (go_at_call 26; (with_reducible refine (spec_ProgOk.calls k _ _ l1 t234 _ ?side1 ?side2 A7.out).mono ?_); (case side1 => exact zqce_); (case side2 => exact HC1.out); rintro e w8 ⟨rfl, hb⟩; have n_ := A2_ (blk_below (g := gb232) (o := .cells #[.slice none 0 0, .slice none 0 0, .int .i64 0, .int .i64 0] 30 (0, 0)) zq42_ hb) (below_step zq8f_ hb); clear BK232 HB; obtain ⟨BK232, HB⟩ := n_; (try clear A7)))
    repeat (go_quiet (first | (go_at_call 24; (with_reducible refine (spec_BoxOk.calls k _ _ l0 true _ ?side1 ?side2 A5.out).mono ?_); (case side1 => exact zqac_); (case side2 => exact HC0.out); rintro e w' ⟨rfl, ⟨nd, rfl⟩⟩; (try first | exact ⟨rfl, _, World.drewN_drewN _ _ _⟩ | exact ⟨rfl, _, Eq.trans (World.drewN_drewN _ _ _) (congrArg (World.drewN _) (Nat.add_assoc _ _ _))⟩); (try clear A5)) | (go_at_call 26; (with_reducible refine (spec_ProgOk.calls k _ _ l1 t234 _ ?side1 ?side2 A7.out).mono ?_); (case side1 => exact zqce_); (case side2 => exact HC1.out); rintro e w8 ⟨rfl, hb⟩; have n_ := A2_ (blk_below (g := gb232) (o := .cells #[.slice none 0 0, .slice none 0 0, .int .i64 0, .int .i64 0] 30 (0, 0)) zq42_ hb) (below_step zq8f_ hb); clear BK232 HB; obtain ⟨BK232, HB⟩ := n_; (try clear A7))); try go_wp2_with (first | (go_at_call 24; (with_reducible refine (spec_BoxOk.calls k _ _ l0 true _ ?side1 ?side2 A5.out).mono ?_); (case side1 => exact zqac_); (case side2 => exact HC0.out); rintro e w' ⟨rfl, ⟨nd, rfl⟩⟩; (try first | exact ⟨rfl, _, World.drewN_drewN _ _ _⟩ | exact ⟨rfl, _, Eq.trans (World.drewN_drewN _ _ _) (congrArg (World.drewN _) (Nat.add_assoc _ _ _))⟩); (try clear A5)) | (go_at_call 26; (with_reducible refine (spec_ProgOk.calls k _ _ l1 t234 _ ?side1 ?side2 A7.out).mono ?_); (case side1 => exact zqce_); (case side2 => exact HC1.out); rintro e w8 ⟨rfl, hb⟩; have n_ := A2_ (blk_below (g := gb232) (o := .cells #[.slice none 0 0, .slice none 0 0, .int .i64 0, .int .i64 0] 30 (0, 0)) zq42_ hb) (below_step zq8f_ hb); clear BK232 HB; obtain ⟨BK232, HB⟩ := n_; (try clear A7))))
    go_meet
    case rel => exact ⟨_, (!t234), zq76_, H', ⟨zq74_⟩, ⟨zq42_⟩, ⟨zq8f_⟩⟩
  ·replace c6 := Bool.eq_false_iff.mpr c6
   subst c6
   rw [if_neg (show ¬ (false = true) by decide)] at H
   have H' := Aside0.mk H
   clear H
   go_wp2_with (first | (go_at_call 24; (with_reducible refine (spec_BoxOk.calls k _ _ l0 false _ ?side1 ?side2 A5.out).mono ?_); (case side1 => exact zqac_); (case side2 => exact HC0.out); rintro e w' ⟨rfl, ⟨nd, rfl⟩⟩; (try first | exact ⟨rfl, _, World.drewN_drewN _ _ _⟩ | exact ⟨rfl, _, Eq.trans (World.drewN_drewN _ _ _) (congrArg (World.drewN _) (Nat.add_assoc _ _ _))⟩); (try clear A5)))
   repeat (go_quiet (first | (go_at_call 24; (with_reducible refine (spec_BoxOk.calls k _ _ l0 false _ ?side1 ?side2 A5.out).mono ?_); (case side1 => exact zqac_); (case side2 => exact HC0.out); rintro e w' ⟨rfl, ⟨nd, rfl⟩⟩; (try first | exact ⟨rfl, _, World.drewN_drewN _ _ _⟩ | exact ⟨rfl, _, Eq.trans (World.drewN_drewN _ _ _) (congrArg (World.drewN _) (Nat.add_assoc _ _ _))⟩); (try clear A5))); try go_wp2_with (first | (go_at_call 24; (with_reducible refine (spec_BoxOk.calls k _ _ l0 false _ ?side1 ?side2 A5.out).mono ?_); (case side1 => exact zqac_); (case side2 => exact HC0.out); rintro e w' ⟨rfl, ⟨nd, rfl⟩⟩; (try first | exact ⟨rfl, _, World.drewN_drewN _ _ _⟩ | exact ⟨rfl, _, Eq.trans (World.drewN_drewN _ _ _) (congrArg (World.drewN _) (Nat.add_assoc _ _ _))⟩); (try clear A5))))
   go_meet
   case rel => exact ⟨_, (true), zq76_, H', ⟨zq74_⟩, ⟨zq42_⟩, ⟨zq8f_⟩⟩
 case rest =>
  clear HC3
  try clear c1
  try clear p2
  try clear c6
  obtain ⟨kq, x16_2, rfl, HA, HJ2, BK232, HB⟩ := hcut
  cases kq with
  | zero => exact absurd HA.out (by simp [spec_ExecRun.j0])
  | succ kj2 =>
   have H := HA.out
   clear HA
   simp only [spec_ExecRun.j0] at H
   by_cases c9 : x16_2 = true
   ·subst c9
    rw [if_pos rfl] at H
    simp only [Option.some.injEq, Prod.mk.injEq] at H
    obtain ⟨rfl, rfl, rfl, rfl⟩ := H
    have hcz10_0 := bc0_ BK232.out
    have hcz10_1 := bc1_ BK232.out
    have hcz10_2 := bc2_ BK232.out
    have hcz10_3 := bc3_ BK232.out
    have hfz10_0 := blk_frozen BK232.out 0
    have hfz10_1 := blk_frozen BK232.out 1
    have hfz10_2 := blk_frozen BK232.out 2
    have hfz10_3 := blk_frozen BK232.out 3
    go_wp2
    repeat (go_quiet (fail); try go_wp2)
    refine bodyPost_ret (results_cell_row rfl _ _ gb232 30 #[.slice none 0 0, .slice none 0 0, .int .i64 0, .int .i64 3] (0, 0) _ rfl (by (with_reducible repeat (first | refine blk_drewN ?_ _ | refine blk_drew ?_ | refine blk_alloc ?_ _)); refine blk_put (cs := #[.slice none 0 0, .slice none 0 0, .int .i64 0, .int .i64 0]) ?_ 3 _ rfl; (with_reducible repeat (first | refine blk_drewN ?_ _ | refine blk_drew ?_ | refine blk_alloc ?_ _)); refine blk_put (cs := #[.slice none 0 0, .slice none 0 0, .int .i64 0, .int .i64 0]) ?_ 2 _ rfl; (with_reducible repeat (first | refine blk_drewN ?_ _ | refine blk_drew ?_ | refine blk_alloc ?_ _)); refine blk_put (cs := #[.slice none 0 0, .slice none 0 0, .int .i64 0, .int .i64 0]) ?_ 1 _ rfl; (with_reducible repeat (first | refine blk_drewN ?_ _ | refine blk_drew ?_ | refine blk_alloc ?_ _)); refine blk_put (cs := #[.slice none 0 0, .slice none 0 0, .int .i64 0, .int .i64 0]) ?_ 0 _ rfl; (with_reducible repeat (first | refine blk_drewN ?_ _ | refine blk_drew ?_ | refine blk_alloc ?_ _)); exact BK232.out) Try.underlying30 rfl (by kernel_rfl)) rfl ?_
    exact ⟨_, _, zq75_, zq72_, zq72_, zq8f_⟩
   ·replace c9 := Bool.eq_false_iff.mpr c9
    subst c9
    rw [if_neg (show ¬ (false = true) by decide)] at H
    by_cases c11 : 4 ≤ 35184372088832
    ·rw [if_pos c11] at H
     have c11b0 := eq_true c11
     have c11b1 : decide (4 ≤ 35184372088832) = true := decide_eq_true c11
     clear c11
     obtain ⟨y236, hy236⟩ : ∃ y_ : List Int, y_ = (List.replicate 4 0) := ⟨_, rfl⟩
     replace H : (spec_ExecRun.l0 kj2 l0 l1 y236 0 ([] : List (S48)) ([] : List (S36)) 0 0) = some (r1, r2, r3, r4) := by first | (rw [hy236]; with_reducible exact H) | (have H2_ := (Option.bind_some _ _).symm.trans H; rw [hy236]; with_reducible exact H2_) | (have H2_ := (Option.bind_some _ _).symm.trans H; with_reducible exact H2_) | with_reducible exact H | (rw [hy236]; exact H) | exact H
     have Ny236 := Aside0.mk hy236
     clear hy236
     have H' := Aside0.mk H
     clear H
     go_wp2_with (first | ((with_reducible refine gate_dst (N := 5) rfl ?_); refine bxe_ (N := 5) (cs := #[.slice none 0 0, .slice none 0 0, .int .i64 0, .int .i64 0]) (t := 30) ?_; intro gb235 hg w12 hbox hb; have n_ := A7_ (blk_below (g := gb232) (o := .cells #[.slice none 0 0, .slice none 0 0, .int .i64 0, .int .i64 0] 30 (0, 0)) zq42_ hb) (below_step zq8f_ hb) (hbox) ((zqd0_ : w.heap.size ≤ gb235)) ((zqd0_ : w.heap.size ≤ gb235)) ((zqeb_ : gb232 ≠ gb235)) ((zqdc_ : gb235 ≠ gb232)); clear BK232 HB; obtain ⟨BK232, HB, BK235, GW235, GE235, NB232_235, NB235_232⟩ := n_; clear hb hbox hg; have hnb13 := NB235_232.out; have hnc13 := NB232_235.out; have hcz14_0 := bc0_ BK235.out; have hcz14_1 := bc1_ BK235.out; have hcz14_2 := bc2_ BK235.out; have hcz14_3 := bc3_ BK235.out; have hfz14_0 := blk_frozen BK235.out 0; have hfz14_1 := blk_frozen BK235.out 1; have hfz14_2 := blk_frozen BK235.out 2; have hfz14_3 := blk_frozen BK235.out 3) | ((with_reducible refine gate_dst (N := 19) rfl ?_); refine Kd.R_make (Kd.int .i64) _ 3 rfl (N := 19) rfl 52 _ _ rfl 4 rfl rfl Try.underlying52 (.int .i64 0) 8 info3 rfl (by decide) (by omega) 0 (ok := fun _ => True) (okp := fun _ => True) rfl (fun _ hk => hk) trivial (by omega) (by omega) (Below.refl _ _) (Nat.le_refl _) ?_; intro v237 w15 ho16 hb hg_ hnew_; clear hg_ hnew_; (first | rw [← Ny236.out] at ho16 | (simp only [Int.reduceToNat] at ho16; rw [← Ny236.out] at ho16)); have n_ := A4_ (Kd.R_lower ho16 (below_size zq8e_)) (blk_below (g := gb232) (o := .cells #[.slice none 0 0, .slice none 0 0, .int .i64 0, .int .i64 0] 30 (0, 0)) zq60_ hb) (blk_below (g := gb235) (o := .cells #[.slice none 0 0, .slice none 0 0, .int .i64 0, .int .i64 0] 30 (0, 0)) zq66_ hb) (below_step zq8e_ hb); clear BK232 BK235 HB; obtain ⟨HO238, BK232, BK235, HB⟩ := n_; clear hb ho16))
     repeat (go_quiet (first | ((with_reducible refine gate_dst (N := 5) rfl ?_); refine bxe_ (N := 5) (cs := #[.slice none 0 0, .slice none 0 0, .int .i64 0, .int .i64 0]) (t := 30) ?_; intro gb235 hg w12 hbox hb; have n_ := A7_ (blk_below (g := gb232) (o := .cells #[.slice none 0 0, .slice none 0 0, .int .i64 0, .int .i64 0] 30 (0, 0)) zq42_ hb) (below_step zq8f_ hb) (hbox) ((zqd0_ : w.heap.size ≤ gb235)) ((zqd0_ : w.heap.size ≤ gb235)) ((zqeb_ : gb232 ≠ gb235)) ((zqdc_ : gb235 ≠ gb232)); clear BK232 HB; obtain ⟨BK232, HB, BK235, GW235, GE235, NB232_235, NB235_232⟩ := n_; clear hb hbox hg; have hnb13 := NB235_232.out; have hnc13 := NB232_235.out; have hcz14_0 := bc0_ BK235.out; have hcz14_1 := bc1_ BK235.out; have hcz14_2 := bc2_ BK235.out; have hcz14_3 := bc3_ BK235.out; have hfz14_0 := blk_frozen BK235.out 0; have hfz14_1 := blk_frozen BK235.out 1; have hfz14_2 := blk_frozen BK235.out 2; have hfz14_3 := blk_frozen BK235.out 3) | ((with_reducible refine gate_dst (N := 19) rfl ?_); refine Kd.R_make (Kd.int .i64) _ 3 rfl (N := 19) rfl 52 _ _ rfl 4 rfl rfl Try.underlying52 (.int .i64 0) 8 info3 rfl (by decide) (by omega) 0 (ok := fun _ => True) (okp := fun _ => True) rfl (fun _ hk => hk) trivial (by omega) (by omega) (Below.refl _ _) (Nat.le_refl _) ?_; intro v237 w15 ho16 hb hg_ hnew_; clear hg_ hnew_; (first | rw [← Ny236.out] at ho16 | (simp only [Int.reduceToNat] at ho16; rw [← Ny236.out] at ho16)); have n_ := A4_ (Kd.R_lower ho16 (below_size zq8e_)) (blk_below (g := gb232) (o := .cells #[.slice none 0 0, .slice none 0 0, .int .i64 0, .int .i64 0] 30 (0, 0)) zq60_ hb) (blk_below (g := gb235) (o := .cells #[.slice none 0 0, .slice none 0 0, .int .i64 0, .int .i64 0] 30 (0, 0)) zq66_ hb) (below_step zq8e_ hb); clear BK232 BK235 HB; obtain ⟨HO238, BK232, BK235, HB⟩ := n_; clear hb ho16)); try go_wp2_with (first | ((with_reducible refine gate_dst (N := 5) rfl ?_); refine bxe_ (N := 5) (cs := #[.slice none 0 0, .slice none 0 0, .int .i64 0, .int .i64 0]) (t := 30) ?_; intro gb235 hg w12 hbox hb; have n_ := A7_ (blk_below (g := gb232) (o := .cells #[.slice none 0 0, .slice none 0 0, .int .i64 0, .int .i64 0] 30 (0, 0)) zq42_ hb) (below_step zq8f_ hb) (hbox) ((zqd0_ : w.heap.size ≤ gb235)) ((zqd0_ : w.heap.size ≤ gb235)) ((zqeb_ : gb232 ≠ gb235)) ((zqdc_ : gb235 ≠ gb232)); clear BK232 HB; obtain ⟨BK232, HB, BK235, GW235, GE235, NB232_235, NB235_232⟩ := n_; clear hb hbox hg; have hnb13 := NB235_232.out; have hnc13 := NB232_235.out; have hcz14_0 := bc0_ BK235.out; have hcz14_1 := bc1_ BK235.out; have hcz14_2 := bc2_ BK235.out; have hcz14_3 := bc3_ BK235.out; have hfz14_0 := blk_frozen BK235.out 0; have hfz14_1 := blk_frozen BK235.out 1; have hfz14_2 := blk_frozen BK235.out 2; have hfz14_3 := blk_frozen BK235.out 3) | ((with_reducible refine gate_dst (N := 19) rfl ?_); refine Kd.R_make (Kd.int .i64) _ 3 rfl (N := 19) rfl 52 _ _ rfl 4 rfl rfl Try.underlying52 (.int .i64 0) 8 info3 rfl (by decide) (by omega) 0 (ok := fun _ => True) (okp := fun _ => True) rfl (fun _ hk => hk) trivial (by omega) (by omega) (Below.refl _ _) (Nat.le_refl _) ?_; intro v237 w15 ho16 hb hg_ hnew_; clear hg_ hnew_; (first | rw [← Ny236.out] at ho16 | (simp only [Int.reduceToNat] at ho16; rw [← Ny236.out] at ho16)); have n_ := A4_ (Kd.R_lower ho16 (below_size zq8e_)) (blk_below (g := gb232) (o := .cells #[.slice none 0 0, .slice none 0 0, .int .i64 0, .int .i64 0] 30 (0, 0)) zq60_ hb) (blk_below (g := gb235) (o := .cells #[.slice none 0 0, .slice none 0 0, .int .i64 0, .int .i64 0] 30 (0, 0)) zq66_ hb) (below_step zq8e_ hb); clear BK232 BK235 HB; obtain ⟨HO238, BK232, BK235, HB⟩ := n_; clear hb ho16)))
     go_loopg [7] kj2 (fun kq v7 w' => ∃ (x6_2 : List Int) (x7_2 : Int) (x236000_2 : List (S48)) (x236001_2 : List (S36)) (x236002_2 : Int) (x236003_2 : Int) (u236000 : Value) (u236001 : Value), v7 = .int .i64 x7_2 ∧ Aside0 (spec_ExecRun.l0 kq l0 l1 x6_2 x7_2 x236000_2 x236001_2 x236002_2 x236003_2 = some (r1, r2, r3, r4)) ∧ Aside0 (kq ≤ kj2) ∧ Aside0 (Kd.R (Kd.int .i64) 3 w' w.heap.size (fun _ => True) v237 x6_2) ∧ Aside0 (Kd.R k48 48 w' w.heap.size (fun _ => True) u236000 x236000_2) ∧ Aside0 (Kd.R k36 36 w' w.heap.size (fun _ => True) u236001 x236001_2) ∧ Aside0 (w'.heap[gb232]? = some (.cells #[(.slice none 0 0), (.slice none 0 0), .int .i64 0, .int .i64 0] 30 (0, 0))) ∧ Aside0 (w'.heap[gb235]? = some (.cells #[u236000, u236001, .int .i64 x236002_2, .int .i64 x236003_2] 30 (0, 0))) ∧ Aside0 (Below w.heap.size w w'))
     case atStart => exact ⟨(y236), (0), (([] : List (S48))), (([] : List (S36))), (0), (0), (.slice none 0 0), (.slice none 0 0), zq76_, H', ⟨Nat.le_refl _⟩, ⟨by (with_reducible repeat (first | apply Kd.R_alloc | apply Kd.R_drewN | apply Kd.R_drew)); exact HO238.out⟩, ⟨zq72_⟩, ⟨zq72_⟩, ⟨zq42_⟩, ⟨zq43_⟩, ⟨zq8e_⟩⟩
     case round =>
      clear H'
      try clear c1
      try clear p2
      try clear c6
      try clear c9
      try clear c11
      try clear c11b0
      try clear c11b1
      try clear c13
      try clear c15
      try clear hcz10_0 hcz10_1 hcz10_2 hcz10_3 hfz10_0 hfz10_1 hfz10_2 hfz10_3
      try clear hcz14_0 hcz14_1 hcz14_2 hcz14_3 hfz14_0 hfz14_1 hfz14_2 hfz14_3
      try clear p2
      obtain ⟨x6_2, x7_2, x236000_2, x236001_2, x236002_2, x236003_2, u236000, u236001, rfl, HA, HK2, HO_6, HO_236000, HO_236001, BK232, BK235, HB⟩ := hrel
      cases gk with
      | zero => exact absurd HA.out (by simp [spec_ExecRun.l0])
      | succ k2 =>
       have H := HA.out
       clear HA
       simp only [spec_ExecRun.l0] at H
       have HC17 := Aside0.mk H
       clear H
       go_upto_region 6 with (fail)
       repeat (go_quiet (fail); go_upto_region 6 with (fail))
       go_cut [28] (fun v28 wc => ∃ (kq : Nat) (x28_16 : Bool), v28 = .bool x28_16 ∧ Aside0 (spec_ExecRun.j2 kq l0 l1 x6_2 x7_2 x28_16 x236000_2 x236001_2 x236002_2 x236003_2 = some (r1, r2, r3, r4)) ∧ Aside0 (kq ≤ k2) ∧ Aside0 (Kd.R (Kd.int .i64) 3 wc w.heap.size (fun _ => True) v237 x6_2) ∧ Aside0 (Kd.R k48 48 wc w.heap.size (fun _ => True) u236000 x236000_2) ∧ Aside0 (Kd.R k36 36 wc w.heap.size (fun _ => True) u236001 x236001_2) ∧ Aside0 (wc.heap[gb232]? = some (.cells #[(.slice none 0 0), (.slice none 0 0), .int .i64 0, .int .i64 0] 30 (0, 0))) ∧ Aside0 (wc.heap[gb235]? = some (.cells #[u236000, u236001, .int .i64 x236002_2, .int .i64 x236003_2] 30 (0, 0))) ∧ Aside0 (Below w.heap.size w wc))
       case first =>
        have H := HC17.out
        clear HC17
        by_cases c18 : x7_2 < (l1.length : Int)
        ·rw [if_pos c18] at H
         have c18b0 : decide (x7_2 < (l1.length : Int)) = true := decide_eq_true c18
         clear c18
         (first | rw [c18b0] | (simp only [i64_w, i32_w]; rw [c18b0]) | skip)
         have H' := Aside0.mk H
         clear H
         have hnb19 := NB235_232.out
         have hnc19 := NB232_235.out
         have hcz20_0 : wr.cell? ⟨gb235, 0, none⟩ = some (u236000) := (blk_cell BK235.out 0).trans rfl
         have hcz20_1 : wr.cell? ⟨gb235, 1, none⟩ = some (u236001) := (blk_cell BK235.out 1).trans rfl
         have hcz20_2 := bc2_ BK235.out
         have hcz20_3 := bc3_ BK235.out
         have hfz20_0 := blk_frozen BK235.out 0
         have hfz20_1 := blk_frozen BK235.out 1
         have hfz20_2 := blk_frozen BK235.out 2
         have hfz20_3 := blk_frozen BK235.out 3
         go_wp2
         repeat (go_quiet (fail); try go_wp2)
         go_meet
         case rel => exact ⟨_, ((x236003_2 == 0)), zq76_, H', ⟨zq77_⟩, ⟨zq2c_⟩, ⟨zq29_⟩, ⟨zq2a_⟩, ⟨zq42_⟩, ⟨zq43_⟩, ⟨zq8e_⟩⟩
        ·rw [if_neg c18] at H
         have c18b0 : decide (x7_2 < (l1.length : Int)) = false := decide_eq_false c18
         clear c18
         (first | rw [c18b0] | (simp only [i64_w, i32_w]; rw [c18b0]) | skip)
         have H' := Aside0.mk H
         clear H
         go_wp2
         repeat (go_quiet (fail); try go_wp2)
         go_meet
         case rel => exact ⟨_, (false), zq76_, H', ⟨zq77_⟩, ⟨zq2c_⟩, ⟨zq29_⟩, ⟨zq2a_⟩, ⟨zq42_⟩, ⟨zq43_⟩, ⟨zq8e_⟩⟩
       case rest =>
        clear HC17
        try clear c1
        try clear p2
        try clear c6
        try clear c9
        try clear c11
        try clear c11b0
        try clear c11b1
        try clear c13
        try clear c15
        try clear c18
        try clear c18b0
        try clear c19
        try clear hcz10_0 hcz10_1 hcz10_2 hcz10_3 hfz10_0 hfz10_1 hfz10_2 hfz10_3
        try clear hcz14_0 hcz14_1 hcz14_2 hcz14_3 hfz14_0 hfz14_1 hfz14_2 hfz14_3
        try clear hcz20_0 hcz20_1 hcz20_2 hcz20_3 hfz20_0 hfz20_1 hfz20_2 hfz20_3
        try clear p2
        obtain ⟨kq, x28_16, rfl, HA, HJ16, HO_6, HO_236000, HO_236001, BK232, BK235, HB⟩ := hcut
        cases kq with
        | zero => exact absurd HA.out (by simp [spec_ExecRun.j2])
        | succ kj16 =>
         have H := HA.out
         clear HA
         simp only [spec_ExecRun.j2] at H
         by_cases c21 : x28_16 = true
         ·subst c21
          rw [if_pos rfl] at H
          by_cases c22 : 0 ≤ x7_2
          ·rw [if_pos c22] at H
           have c22b0 : decide (0 ≤ x7_2) = true := decide_eq_true c22
           clear c22
           by_cases c23 : x7_2 < (l1.length : Int)
           ·rw [if_pos c23] at H
            have c23b0 : decide (x7_2 < (l1.length : Int)) = true := decide_eq_true c23
            clear c23
            by_cases c24 : ((rd_T34 l1 x7_2).f0) = 6
            ·rw [if_pos c24] at H
             have c24b0 : (((rd_T34 l1 x7_2).f0) == 6) = true := beq_iff_eq.mpr c24
             have c24b1 : (((rd_T34 l1 x7_2).f0) != 6) = false := bne_eq_false_iff_eq.mpr c24
             clear c24
             by_cases c25 : 0 ≤ ((rd_T34 l1 x7_2).f1)
             ·rw [if_pos c25] at H
              have c25b0 : decide (0 ≤ ((rd_T34 l1 x7_2).f1)) = true := decide_eq_true c25
              clear c25
              by_cases c26 : ((rd_T34 l1 x7_2).f1) < (x6_2.length : Int)
              ·rw [if_pos c26] at H
               have c26b0 : decide (((rd_T34 l1 x7_2).f1) < (x6_2.length : Int)) = true := decide_eq_true c26
               clear c26
               by_cases c27 : 0 ≤ ((rd_T34 l1 x7_2).f2)
               ·rw [if_pos c27] at H
                have c27b0 : decide (0 ≤ ((rd_T34 l1 x7_2).f2)) = true := decide_eq_true c27
                clear c27
                by_cases c28 : ((rd_T34 l1 x7_2).f2) < (x6_2.length : Int)
                ·rw [if_pos c28] at H
                 have c28b0 : decide (((rd_T34 l1 x7_2).f2) < (x6_2.length : Int)) = true := decide_eq_true c28
                 clear c28
                 by_cases c29 : (rd x6_2 ((rd_T34 l1 x7_2).f1)) < (rd x6_2 ((rd_T34 l1 x7_2).f2))
                 ·rw [if_pos c29] at H
                  have c29b0 : decide ((rd x6_2 ((rd_T34 l1 x7_2).f1)) < (rd x6_2 ((rd_T34 l1 x7_2).f2))) = true := decide_eq_true c29
                  clear c29
                  have H' := Aside0.mk H
                  clear H
                  have p240 : 0 ≤ (x7_2 : Int) := of_decide_eq_true zq71_
                  have q240 : x7_2 < (l1.length : Int) := of_decide_eq_true zq71_
                  obtain ⟨ad240, e240, hx240_0, hx240_1, hx240_2, hx240_3⟩ := at_T34 HR1.out x7_2 p240 q240
                  cases e240
                  replace hx240_0 := (HB.out.cell (World.block_lt_of_cell? w _ hx240_0)).trans hx240_0
                  replace hx240_1 := (HB.out.cell (World.block_lt_of_cell? w _ hx240_1)).trans hx240_1
                  replace hx240_2 := (HB.out.cell (World.block_lt_of_cell? w _ hx240_2)).trans hx240_2
                  replace hx240_3 := (HB.out.cell (World.block_lt_of_cell? w _ hx240_3)).trans hx240_3
                  replace p240 := eq_true p240
                  replace q240 := eq_true q240
                  go_wp2_with (first | ((with_reducible refine gate_dst (N := 8) rfl ?_); refine bxe_ (N := 8) (cs := #[.int .i64 0, .int .i64 0, .int .i64 0, .int .i64 0]) (t := 34) ?_; intro gb241 hg w30 hbox hb; have n0_ := Aside0.mk (Kd.R_below zq2c_ hb); have n1_ := Aside0.mk (Kd.R_below zq29_ hb); have n2_ := Aside0.mk (Kd.R_below zq2a_ hb); have n3_ := Aside0.mk (blk_below (g := gb232) (o := .cells #[.slice none 0 0, .slice none 0 0, .int .i64 0, .int .i64 0] 30 (0, 0)) zq42_ hb); have n4_ := Aside0.mk (blk_below (g := gb235) (o := .cells #[u236000, u236001, .int .i64 x236002_2, .int .i64 x236003_2] 30 (0, 0)) zq43_ hb); have n5_ := Aside0.mk (below_step zq8e_ hb); have n6_ := Aside0.mk (hbox); have n7_ := Aside0.mk ((zqcf_ : w.heap.size ≤ gb241)); have n8_ := Aside0.mk ((zqcf_ : w.heap.size ≤ gb241)); have n9_ := Aside0.mk ((zqeb_ : gb232 ≠ gb241)); have n10_ := Aside0.mk ((zqdc_ : gb241 ≠ gb232)); have n11_ := Aside0.mk ((zqec_ : gb235 ≠ gb241)); have n12_ := Aside0.mk ((zqdd_ : gb241 ≠ gb235)); clear HO_6; clear HO_236000; clear HO_236001; clear BK232; clear BK235; clear HB; have HO_6 := n0_; have HO_236000 := n1_; have HO_236001 := n2_; have BK232 := n3_; have BK235 := n4_; have HB := n5_; have BK241 := n6_; have GW241 := n7_; have GE241 := n8_; have NB232_241 := n9_; have NB241_232 := n10_; have NB235_241 := n11_; have NB241_235 := n12_; clear n0_ n1_ n2_ n3_ n4_ n5_ n6_ n7_ n8_ n9_ n10_ n11_ n12_; clear hb hbox hg; have hnb31 := NB241_232.out; have hnc31 := NB232_241.out; have hnb32 := NB241_235.out; have hnc32 := NB235_241.out; have hcz33_0 := bc0_ BK241.out; have hcz33_1 := bc1_ BK241.out; have hcz33_2 := bc2_ BK241.out; have hcz33_3 := bc3_ BK241.out; have hfz33_0 := blk_frozen BK241.out 0; have hfz33_1 := blk_frozen BK241.out 1; have hfz33_2 := blk_frozen BK241.out 2; have hfz33_3 := blk_frozen BK241.out 3; obtain ⟨Ao34, co34, eo34⟩ := Kd.R_slice HO_6.out; subst eo34; have p242 : 0 ≤ (((rd_T34 l1 x7_2).f1) : Int) := of_decide_eq_true zq71_; have q242 : ((rd_T34 l1 x7_2).f1) < (x6_2.length : Int) := of_decide_eq_true zq71_; obtain ⟨ad242, e242, hx242_0⟩ := Kd.at_int (Kd.R_reads' HO_6.out).2.2 ((rd_T34 l1 x7_2).f1) p242 q242; cases e242; have hn242_0 : ad242.block ≠ gb241 := Kd.own_blk (Kd.R_ne HO_6.out BK241.out (by decide)); have hn242_1 : ad242.block ≠ gb241 := Kd.own_blk (Kd.R_ne HO_6.out BK241.out (by decide)); have hn242_2 : ad242.block ≠ gb241 := Kd.own_blk (Kd.R_ne HO_6.out BK241.out (by decide)); have hn242_3 : ad242.block ≠ gb241 := Kd.own_blk (Kd.R_ne HO_6.out BK241.out (by decide)); replace hx242_0 := (cell_far (p := ⟨gb241, 0, none⟩) zq69_ (.int .i64 ((rd_T34 l1 x7_2).f0))).trans hx242_0; replace hx242_0 := (cell_far (p := ⟨gb241, 1, none⟩) zq6a_ (.int .i64 ((rd_T34 l1 x7_2).f1))).trans hx242_0; replace hx242_0 := (cell_far (p := ⟨gb241, 2, none⟩) zq6b_ (.int .i64 ((rd_T34 l1 x7_2).f2))).trans hx242_0; replace hx242_0 := (cell_far (p := ⟨gb241, 3, none⟩) zq6c_ (.int .i64 ((rd_T34 l1 x7_2).f3))).trans hx242_0; (try have hy242_0 := fun (n_ : Nat) => (show ((((((w30.drewN n_).setCell ⟨gb241, 0, none⟩ (.int .i64 ((rd_T34 l1 x7_2).f0))).setCell ⟨gb241, 1, none⟩ (.int .i64 ((rd_T34 l1 x7_2).f1))).setCell ⟨gb241, 2, none⟩ (.int .i64 ((rd_T34 l1 x7_2).f2))).setCell ⟨gb241, 3, none⟩ (.int .i64 ((rd_T34 l1 x7_2).f3)))).cell? _ = some _ from hx242_0)); clear hn242_0; clear hn242_1; clear hn242_2; clear hn242_3; replace p242 := eq_true p242; replace q242 := eq_true q242; have p243 : 0 ≤ (((rd_T34 l1 x7_2).f2) : Int) := of_decide_eq_true zq71_; have q243 : ((rd_T34 l1 x7_2).f2) < (x6_2.length : Int) := of_decide_eq_true zq71_; obtain ⟨ad243, e243, hx243_0⟩ := Kd.at_int (Kd.R_reads' HO_6.out).2.2 ((rd_T34 l1 x7_2).f2) p243 q243; obtain rfl : ad242 = ad243 := (by injection e243); have hn243_0 : ad242.block ≠ gb241 := Kd.own_blk (Kd.R_ne HO_6.out BK241.out (by decide)); have hn243_1 : ad242.block ≠ gb241 := Kd.own_blk (Kd.R_ne HO_6.out BK241.out (by decide)); have hn243_2 : ad242.block ≠ gb241 := Kd.own_blk (Kd.R_ne HO_6.out BK241.out (by decide)); have hn243_3 : ad242.block ≠ gb241 := Kd.own_blk (Kd.R_ne HO_6.out BK241.out (by decide)); replace hx243_0 := (cell_far (p := ⟨gb241, 0, none⟩) zq6d_ (.int .i64 ((rd_T34 l1 x7_2).f0))).trans hx243_0; replace hx243_0 := (cell_far (p := ⟨gb241, 1, none⟩) zq6e_ (.int .i64 ((rd_T34 l1 x7_2).f1))).trans hx243_0; replace hx243_0 := (cell_far (p := ⟨gb241, 2, none⟩) zq6f_ (.int .i64 ((rd_T34 l1 x7_2).f2))).trans hx243_0; replace hx243_0 := (cell_far (p := ⟨gb241, 3, none⟩) zq70_ (.int .i64 ((rd_T34 l1 x7_2).f3))).trans hx243_0; (try have hy243_0 := fun (n_ : Nat) => (show ((((((w30.drewN n_).setCell ⟨gb241, 0, none⟩ (.int .i64 ((rd_T34 l1 x7_2).f0))).setCell ⟨gb241, 1, none⟩ (.int .i64 ((rd_T34 l1 x7_2).f1))).setCell ⟨gb241, 2, none⟩ (.int .i64 ((rd_T34 l1 x7_2).f2))).setCell ⟨gb241, 3, none⟩ (.int .i64 ((rd_T34 l1 x7_2).f3)))).cell? _ = some _ from hx243_0)); clear hn243_0; clear hn243_1; clear hn243_2; clear hn243_3; replace p243 := eq_true p243; replace q243 := eq_true q243))
                  repeat (go_quiet (first | ((with_reducible refine gate_dst (N := 8) rfl ?_); refine bxe_ (N := 8) (cs := #[.int .i64 0, .int .i64 0, .int .i64 0, .int .i64 0]) (t := 34) ?_; intro gb241 hg w30 hbox hb; have n0_ := Aside0.mk (Kd.R_below zq2c_ hb); have n1_ := Aside0.mk (Kd.R_below zq29_ hb); have n2_ := Aside0.mk (Kd.R_below zq2a_ hb); have n3_ := Aside0.mk (blk_below (g := gb232) (o := .cells #[.slice none 0 0, .slice none 0 0, .int .i64 0, .int .i64 0] 30 (0, 0)) zq42_ hb); have n4_ := Aside0.mk (blk_below (g := gb235) (o := .cells #[u236000, u236001, .int .i64 x236002_2, .int .i64 x236003_2] 30 (0, 0)) zq43_ hb); have n5_ := Aside0.mk (below_step zq8e_ hb); have n6_ := Aside0.mk (hbox); have n7_ := Aside0.mk ((zqcf_ : w.heap.size ≤ gb241)); have n8_ := Aside0.mk ((zqcf_ : w.heap.size ≤ gb241)); have n9_ := Aside0.mk ((zqeb_ : gb232 ≠ gb241)); have n10_ := Aside0.mk ((zqdc_ : gb241 ≠ gb232)); have n11_ := Aside0.mk ((zqec_ : gb235 ≠ gb241)); have n12_ := Aside0.mk ((zqdd_ : gb241 ≠ gb235)); clear HO_6; clear HO_236000; clear HO_236001; clear BK232; clear BK235; clear HB; have HO_6 := n0_; have HO_236000 := n1_; have HO_236001 := n2_; have BK232 := n3_; have BK235 := n4_; have HB := n5_; have BK241 := n6_; have GW241 := n7_; have GE241 := n8_; have NB232_241 := n9_; have NB241_232 := n10_; have NB235_241 := n11_; have NB241_235 := n12_; clear n0_ n1_ n2_ n3_ n4_ n5_ n6_ n7_ n8_ n9_ n10_ n11_ n12_; clear hb hbox hg; have hnb31 := NB241_232.out; have hnc31 := NB232_241.out; have hnb32 := NB241_235.out; have hnc32 := NB235_241.out; have hcz33_0 := bc0_ BK241.out; have hcz33_1 := bc1_ BK241.out; have hcz33_2 := bc2_ BK241.out; have hcz33_3 := bc3_ BK241.out; have hfz33_0 := blk_frozen BK241.out 0; have hfz33_1 := blk_frozen BK241.out 1; have hfz33_2 := blk_frozen BK241.out 2; have hfz33_3 := blk_frozen BK241.out 3; obtain ⟨Ao34, co34, eo34⟩ := Kd.R_slice HO_6.out; subst eo34; have p242 : 0 ≤ (((rd_T34 l1 x7_2).f1) : Int) := of_decide_eq_true zq71_; have q242 : ((rd_T34 l1 x7_2).f1) < (x6_2.length : Int) := of_decide_eq_true zq71_; obtain ⟨ad242, e242, hx242_0⟩ := Kd.at_int (Kd.R_reads' HO_6.out).2.2 ((rd_T34 l1 x7_2).f1) p242 q242; cases e242; have hn242_0 : ad242.block ≠ gb241 := Kd.own_blk (Kd.R_ne HO_6.out BK241.out (by decide)); have hn242_1 : ad242.block ≠ gb241 := Kd.own_blk (Kd.R_ne HO_6.out BK241.out (by decide)); have hn242_2 : ad242.block ≠ gb241 := Kd.own_blk (Kd.R_ne HO_6.out BK241.out (by decide)); have hn242_3 : ad242.block ≠ gb241 := Kd.own_blk (Kd.R_ne HO_6.out BK241.out (by decide)); replace hx242_0 := (cell_far (p := ⟨gb241, 0, none⟩) zq69_ (.int .i64 ((rd_T34 l1 x7_2).f0))).trans hx242_0; replace hx242_0 := (cell_far (p := ⟨gb241, 1, none⟩) zq6a_ (.int .i64 ((rd_T34 l1 x7_2).f1))).trans hx242_0; replace hx242_0 := (cell_far (p := ⟨gb241, 2, none⟩) zq6b_ (.int .i64 ((rd_T34 l1 x7_2).f2))).trans hx242_0; replace hx242_0 := (cell_far (p := ⟨gb241, 3, none⟩) zq6c_ (.int .i64 ((rd_T34 l1 x7_2).f3))).trans hx242_0; (try have hy242_0 := fun (n_ : Nat) => (show ((((((w30.drewN n_).setCell ⟨gb241, 0, none⟩ (.int .i64 ((rd_T34 l1 x7_2).f0))).setCell ⟨gb241, 1, none⟩ (.int .i64 ((rd_T34 l1 x7_2).f1))).setCell ⟨gb241, 2, none⟩ (.int .i64 ((rd_T34 l1 x7_2).f2))).setCell ⟨gb241, 3, none⟩ (.int .i64 ((rd_T34 l1 x7_2).f3)))).cell? _ = some _ from hx242_0)); clear hn242_0; clear hn242_1; clear hn242_2; clear hn242_3; replace p242 := eq_true p242; replace q242 := eq_true q242; have p243 : 0 ≤ (((rd_T34 l1 x7_2).f2) : Int) := of_decide_eq_true zq71_; have q243 : ((rd_T34 l1 x7_2).f2) < (x6_2.length : Int) := of_decide_eq_true zq71_; obtain ⟨ad243, e243, hx243_0⟩ := Kd.at_int (Kd.R_reads' HO_6.out).2.2 ((rd_T34 l1 x7_2).f2) p243 q243; obtain rfl : ad242 = ad243 := (by injection e243); have hn243_0 : ad242.block ≠ gb241 := Kd.own_blk (Kd.R_ne HO_6.out BK241.out (by decide)); have hn243_1 : ad242.block ≠ gb241 := Kd.own_blk (Kd.R_ne HO_6.out BK241.out (by decide)); have hn243_2 : ad242.block ≠ gb241 := Kd.own_blk (Kd.R_ne HO_6.out BK241.out (by decide)); have hn243_3 : ad242.block ≠ gb241 := Kd.own_blk (Kd.R_ne HO_6.out BK241.out (by decide)); replace hx243_0 := (cell_far (p := ⟨gb241, 0, none⟩) zq6d_ (.int .i64 ((rd_T34 l1 x7_2).f0))).trans hx243_0; replace hx243_0 := (cell_far (p := ⟨gb241, 1, none⟩) zq6e_ (.int .i64 ((rd_T34 l1 x7_2).f1))).trans hx243_0; replace hx243_0 := (cell_far (p := ⟨gb241, 2, none⟩) zq6f_ (.int .i64 ((rd_T34 l1 x7_2).f2))).trans hx243_0; replace hx243_0 := (cell_far (p := ⟨gb241, 3, none⟩) zq70_ (.int .i64 ((rd_T34 l1 x7_2).f3))).trans hx243_0; (try have hy243_0 := fun (n_ : Nat) => (show ((((((w30.drewN n_).setCell ⟨gb241, 0, none⟩ (.int .i64 ((rd_T34 l1 x7_2).f0))).setCell ⟨gb241, 1, none⟩ (.int .i64 ((rd_T34 l1 x7_2).f1))).setCell ⟨gb241, 2, none⟩ (.int .i64 ((rd_T34 l1 x7_2).f2))).setCell ⟨gb241, 3, none⟩ (.int .i64 ((rd_T34 l1 x7_2).f3)))).cell? _ = some _ from hx243_0)); clear hn243_0; clear hn243_1; clear hn243_2; clear hn243_3; replace p243 := eq_true p243; replace q243 := eq_true q243)); try go_wp2_with (first | ((with_reducible refine gate_dst (N := 8) rfl ?_); refine bxe_ (N := 8) (cs := #[.int .i64 0, .int .i64 0, .int .i64 0, .int .i64 0]) (t := 34) ?_; intro gb241 hg w30 hbox hb; have n0_ := Aside0.mk (Kd.R_below zq2c_ hb); have n1_ := Aside0.mk (Kd.R_below zq29_ hb); have n2_ := Aside0.mk (Kd.R_below zq2a_ hb); have n3_ := Aside0.mk (blk_below (g := gb232) (o := .cells #[.slice none 0 0, .slice none 0 0, .int .i64 0, .int .i64 0] 30 (0, 0)) zq42_ hb); have n4_ := Aside0.mk (blk_below (g := gb235) (o := .cells #[u236000, u236001, .int .i64 x236002_2, .int .i64 x236003_2] 30 (0, 0)) zq43_ hb); have n5_ := Aside0.mk (below_step zq8e_ hb); have n6_ := Aside0.mk (hbox); have n7_ := Aside0.mk ((zqcf_ : w.heap.size ≤ gb241)); have n8_ := Aside0.mk ((zqcf_ : w.heap.size ≤ gb241)); have n9_ := Aside0.mk ((zqeb_ : gb232 ≠ gb241)); have n10_ := Aside0.mk ((zqdc_ : gb241 ≠ gb232)); have n11_ := Aside0.mk ((zqec_ : gb235 ≠ gb241)); have n12_ := Aside0.mk ((zqdd_ : gb241 ≠ gb235)); clear HO_6; clear HO_236000; clear HO_236001; clear BK232; clear BK235; clear HB; have HO_6 := n0_; have HO_236000 := n1_; have HO_236001 := n2_; have BK232 := n3_; have BK235 := n4_; have HB := n5_; have BK241 := n6_; have GW241 := n7_; have GE241 := n8_; have NB232_241 := n9_; have NB241_232 := n10_; have NB235_241 := n11_; have NB241_235 := n12_; clear n0_ n1_ n2_ n3_ n4_ n5_ n6_ n7_ n8_ n9_ n10_ n11_ n12_; clear hb hbox hg; have hnb31 := NB241_232.out; have hnc31 := NB232_241.out; have hnb32 := NB241_235.out; have hnc32 := NB235_241.out; have hcz33_0 := bc0_ BK241.out; have hcz33_1 := bc1_ BK241.out; have hcz33_2 := bc2_ BK241.out; have hcz33_3 := bc3_ BK241.out; have hfz33_0 := blk_frozen BK241.out 0; have hfz33_1 := blk_frozen BK241.out 1; have hfz33_2 := blk_frozen BK241.out 2; have hfz33_3 := blk_frozen BK241.out 3; obtain ⟨Ao34, co34, eo34⟩ := Kd.R_slice HO_6.out; subst eo34; have p242 : 0 ≤ (((rd_T34 l1 x7_2).f1) : Int) := of_decide_eq_true zq71_; have q242 : ((rd_T34 l1 x7_2).f1) < (x6_2.length : Int) := of_decide_eq_true zq71_; obtain ⟨ad242, e242, hx242_0⟩ := Kd.at_int (Kd.R_reads' HO_6.out).2.2 ((rd_T34 l1 x7_2).f1) p242 q242; cases e242; have hn242_0 : ad242.block ≠ gb241 := Kd.own_blk (Kd.R_ne HO_6.out BK241.out (by decide)); have hn242_1 : ad242.block ≠ gb241 := Kd.own_blk (Kd.R_ne HO_6.out BK241.out (by decide)); have hn242_2 : ad242.block ≠ gb241 := Kd.own_blk (Kd.R_ne HO_6.out BK241.out (by decide)); have hn242_3 : ad242.block ≠ gb241 := Kd.own_blk (Kd.R_ne HO_6.out BK241.out (by decide)); replace hx242_0 := (cell_far (p := ⟨gb241, 0, none⟩) zq69_ (.int .i64 ((rd_T34 l1 x7_2).f0))).trans hx242_0; replace hx242_0 := (cell_far (p := ⟨gb241, 1, none⟩) zq6a_ (.int .i64 ((rd_T34 l1 x7_2).f1))).trans hx242_0; replace hx242_0 := (cell_far (p := ⟨gb241, 2, none⟩) zq6b_ (.int .i64 ((rd_T34 l1 x7_2).f2))).trans hx242_0; replace hx242_0 := (cell_far (p := ⟨gb241, 3, none⟩) zq6c_ (.int .i64 ((rd_T34 l1 x7_2).f3))).trans hx242_0; (try have hy242_0 := fun (n_ : Nat) => (show ((((((w30.drewN n_).setCell ⟨gb241, 0, none⟩ (.int .i64 ((rd_T34 l1 x7_2).f0))).setCell ⟨gb241, 1, none⟩ (.int .i64 ((rd_T34 l1 x7_2).f1))).setCell ⟨gb241, 2, none⟩ (.int .i64 ((rd_T34 l1 x7_2).f2))).setCell ⟨gb241, 3, none⟩ (.int .i64 ((rd_T34 l1 x7_2).f3)))).cell? _ = some _ from hx242_0)); clear hn242_0; clear hn242_1; clear hn242_2; clear hn242_3; replace p242 := eq_true p242; replace q242 := eq_true q242; have p243 : 0 ≤ (((rd_T34 l1 x7_2).f2) : Int) := of_decide_eq_true zq71_; have q243 : ((rd_T34 l1 x7_2).f2) < (x6_2.length : Int) := of_decide_eq_true zq71_; obtain ⟨ad243, e243, hx243_0⟩ := Kd.at_int (Kd.R_reads' HO_6.out).2.2 ((rd_T34 l1 x7_2).f2) p243 q243; obtain rfl : ad242 = ad243 := (by injection e243); have hn243_0 : ad242.block ≠ gb241 := Kd.own_blk (Kd.R_ne HO_6.out BK241.out (by decide)); have hn243_1 : ad242.block ≠ gb241 := Kd.own_blk (Kd.R_ne HO_6.out BK241.out (by decide)); have hn243_2 : ad242.block ≠ gb241 := Kd.own_blk (Kd.R_ne HO_6.out BK241.out (by decide)); have hn243_3 : ad242.block ≠ gb241 := Kd.own_blk (Kd.R_ne HO_6.out BK241.out (by decide)); replace hx243_0 := (cell_far (p := ⟨gb241, 0, none⟩) zq6d_ (.int .i64 ((rd_T34 l1 x7_2).f0))).trans hx243_0; replace hx243_0 := (cell_far (p := ⟨gb241, 1, none⟩) zq6e_ (.int .i64 ((rd_T34 l1 x7_2).f1))).trans hx243_0; replace hx243_0 := (cell_far (p := ⟨gb241, 2, none⟩) zq6f_ (.int .i64 ((rd_T34 l1 x7_2).f2))).trans hx243_0; replace hx243_0 := (cell_far (p := ⟨gb241, 3, none⟩) zq70_ (.int .i64 ((rd_T34 l1 x7_2).f3))).trans hx243_0; (try have hy243_0 := fun (n_ : Nat) => (show ((((((w30.drewN n_).setCell ⟨gb241, 0, none⟩ (.int .i64 ((rd_T34 l1 x7_2).f0))).setCell ⟨gb241, 1, none⟩ (.int .i64 ((rd_T34 l1 x7_2).f1))).setCell ⟨gb241, 2, none⟩ (.int .i64 ((rd_T34 l1 x7_2).f2))).setCell ⟨gb241, 3, none⟩ (.int .i64 ((rd_T34 l1 x7_2).f3)))).cell? _ = some _ from hx243_0)); clear hn243_0; clear hn243_1; clear hn243_2; clear hn243_3; replace p243 := eq_true p243; replace q243 := eq_true q243)))
                  go_roundg kj16
                  case measure => have := HJ2.out; have := HK2.out; have := HJ16.out; omega
                  case rel => exact ⟨(x6_2), (wrap64 ((wrap64 (x7_2 + ((rd_T34 l1 x7_2).f3))) + 1)), (x236000_2), (x236001_2), (x236002_2), (x236003_2), (u236000), (u236001), zq76_, H', ⟨zq78_⟩, ⟨zq32_⟩, ⟨zq30_⟩, ⟨zq31_⟩, ⟨zq61_⟩, ⟨zq62_⟩, ⟨zq8d_⟩⟩
                 ·rw [if_neg c29] at H
                  have c29b0 : decide ((rd x6_2 ((rd_T34 l1 x7_2).f1)) < (rd x6_2 ((rd_T34 l1 x7_2).f2))) = false := decide_eq_false c29
                  clear c29
                  have H' := Aside0.mk H
                  clear H
                  have p240 : 0 ≤ (x7_2 : Int) := of_decide_eq_true zq71_
                  have q240 : x7_2 < (l1.length : Int) := of_decide_eq_true zq71_
                  obtain ⟨ad240, e240, hx240_0, hx240_1, hx240_2, hx240_3⟩ := at_T34 HR1.out x7_2 p240 q240
                  cases e240
                  replace hx240_0 := (HB.out.cell (World.block_lt_of_cell? w _ hx240_0)).trans hx240_0
                  replace hx240_1 := (HB.out.cell (World.block_lt_of_cell? w _ hx240_1)).trans hx240_1
                  replace hx240_2 := (HB.out.cell (World.block_lt_of_cell? w _ hx240_2)).trans hx240_2
                  replace hx240_3 := (HB.out.cell (World.block_lt_of_cell? w _ hx240_3)).trans hx240_3
                  replace p240 := eq_true p240
                  replace q240 := eq_true q240
                  go_wp2_with (first | ((with_reducible refine gate_dst (N := 8) rfl ?_); refine bxe_ (N := 8) (cs := #[.int .i64 0, .int .i64 0, .int .i64 0, .int .i64 0]) (t := 34) ?_; intro gb241 hg w35 hbox hb; have n0_ := Aside0.mk (Kd.R_below zq2c_ hb); have n1_ := Aside0.mk (Kd.R_below zq29_ hb); have n2_ := Aside0.mk (Kd.R_below zq2a_ hb); have n3_ := Aside0.mk (blk_below (g := gb232) (o := .cells #[.slice none 0 0, .slice none 0 0, .int .i64 0, .int .i64 0] 30 (0, 0)) zq42_ hb); have n4_ := Aside0.mk (blk_below (g := gb235) (o := .cells #[u236000, u236001, .int .i64 x236002_2, .int .i64 x236003_2] 30 (0, 0)) zq43_ hb); have n5_ := Aside0.mk (below_step zq8e_ hb); have n6_ := Aside0.mk (hbox); have n7_ := Aside0.mk ((zqcf_ : w.heap.size ≤ gb241)); have n8_ := Aside0.mk ((zqcf_ : w.heap.size ≤ gb241)); have n9_ := Aside0.mk ((zqeb_ : gb232 ≠ gb241)); have n10_ := Aside0.mk ((zqdc_ : gb241 ≠ gb232)); have n11_ := Aside0.mk ((zqec_ : gb235 ≠ gb241)); have n12_ := Aside0.mk ((zqdd_ : gb241 ≠ gb235)); clear HO_6; clear HO_236000; clear HO_236001; clear BK232; clear BK235; clear HB; have HO_6 := n0_; have HO_236000 := n1_; have HO_236001 := n2_; have BK232 := n3_; have BK235 := n4_; have HB := n5_; have BK241 := n6_; have GW241 := n7_; have GE241 := n8_; have NB232_241 := n9_; have NB241_232 := n10_; have NB235_241 := n11_; have NB241_235 := n12_; clear n0_ n1_ n2_ n3_ n4_ n5_ n6_ n7_ n8_ n9_ n10_ n11_ n12_; clear hb hbox hg; have hnb36 := NB241_232.out; have hnc36 := NB232_241.out; have hnb37 := NB241_235.out; have hnc37 := NB235_241.out; have hcz38_0 := bc0_ BK241.out; have hcz38_1 := bc1_ BK241.out; have hcz38_2 := bc2_ BK241.out; have hcz38_3 := bc3_ BK241.out; have hfz38_0 := blk_frozen BK241.out 0; have hfz38_1 := blk_frozen BK241.out 1; have hfz38_2 := blk_frozen BK241.out 2; have hfz38_3 := blk_frozen BK241.out 3; obtain ⟨Ao39, co39, eo39⟩ := Kd.R_slice HO_6.out; subst eo39; have p242 : 0 ≤ (((rd_T34 l1 x7_2).f1) : Int) := of_decide_eq_true zq71_; have q242 : ((rd_T34 l1 x7_2).f1) < (x6_2.length : Int) := of_decide_eq_true zq71_; obtain ⟨ad242, e242, hx242_0⟩ := Kd.at_int (Kd.R_reads' HO_6.out).2.2 ((rd_T34 l1 x7_2).f1) p242 q242; cases e242; have hn242_0 : ad242.block ≠ gb241 := Kd.own_blk (Kd.R_ne HO_6.out BK241.out (by decide)); have hn242_1 : ad242.block ≠ gb241 := Kd.own_blk (Kd.R_ne HO_6.out BK241.out (by decide)); have hn242_2 : ad242.block ≠ gb241 := Kd.own_blk (Kd.R_ne HO_6.out BK241.out (by decide)); have hn242_3 : ad242.block ≠ gb241 := Kd.own_blk (Kd.R_ne HO_6.out BK241.out (by decide)); replace hx242_0 := (cell_far (p := ⟨gb241, 0, none⟩) zq69_ (.int .i64 ((rd_T34 l1 x7_2).f0))).trans hx242_0; replace hx242_0 := (cell_far (p := ⟨gb241, 1, none⟩) zq6a_ (.int .i64 ((rd_T34 l1 x7_2).f1))).trans hx242_0; replace hx242_0 := (cell_far (p := ⟨gb241, 2, none⟩) zq6b_ (.int .i64 ((rd_T34 l1 x7_2).f2))).trans hx242_0; replace hx242_0 := (cell_far (p := ⟨gb241, 3, none⟩) zq6c_ (.int .i64 ((rd_T34 l1 x7_2).f3))).trans hx242_0; (try have hy242_0 := fun (n_ : Nat) => (show ((((((w35.drewN n_).setCell ⟨gb241, 0, none⟩ (.int .i64 ((rd_T34 l1 x7_2).f0))).setCell ⟨gb241, 1, none⟩ (.int .i64 ((rd_T34 l1 x7_2).f1))).setCell ⟨gb241, 2, none⟩ (.int .i64 ((rd_T34 l1 x7_2).f2))).setCell ⟨gb241, 3, none⟩ (.int .i64 ((rd_T34 l1 x7_2).f3)))).cell? _ = some _ from hx242_0)); clear hn242_0; clear hn242_1; clear hn242_2; clear hn242_3; replace p242 := eq_true p242; replace q242 := eq_true q242; have p243 : 0 ≤ (((rd_T34 l1 x7_2).f2) : Int) := of_decide_eq_true zq71_; have q243 : ((rd_T34 l1 x7_2).f2) < (x6_2.length : Int) := of_decide_eq_true zq71_; obtain ⟨ad243, e243, hx243_0⟩ := Kd.at_int (Kd.R_reads' HO_6.out).2.2 ((rd_T34 l1 x7_2).f2) p243 q243; obtain rfl : ad242 = ad243 := (by injection e243); have hn243_0 : ad242.block ≠ gb241 := Kd.own_blk (Kd.R_ne HO_6.out BK241.out (by decide)); have hn243_1 : ad242.block ≠ gb241 := Kd.own_blk (Kd.R_ne HO_6.out BK241.out (by decide)); have hn243_2 : ad242.block ≠ gb241 := Kd.own_blk (Kd.R_ne HO_6.out BK241.out (by decide)); have hn243_3 : ad242.block ≠ gb241 := Kd.own_blk (Kd.R_ne HO_6.out BK241.out (by decide)); replace hx243_0 := (cell_far (p := ⟨gb241, 0, none⟩) zq6d_ (.int .i64 ((rd_T34 l1 x7_2).f0))).trans hx243_0; replace hx243_0 := (cell_far (p := ⟨gb241, 1, none⟩) zq6e_ (.int .i64 ((rd_T34 l1 x7_2).f1))).trans hx243_0; replace hx243_0 := (cell_far (p := ⟨gb241, 2, none⟩) zq6f_ (.int .i64 ((rd_T34 l1 x7_2).f2))).trans hx243_0; replace hx243_0 := (cell_far (p := ⟨gb241, 3, none⟩) zq70_ (.int .i64 ((rd_T34 l1 x7_2).f3))).trans hx243_0; (try have hy243_0 := fun (n_ : Nat) => (show ((((((w35.drewN n_).setCell ⟨gb241, 0, none⟩ (.int .i64 ((rd_T34 l1 x7_2).f0))).setCell ⟨gb241, 1, none⟩ (.int .i64 ((rd_T34 l1 x7_2).f1))).setCell ⟨gb241, 2, none⟩ (.int .i64 ((rd_T34 l1 x7_2).f2))).setCell ⟨gb241, 3, none⟩ (.int .i64 ((rd_T34 l1 x7_2).f3)))).cell? _ = some _ from hx243_0)); clear hn243_0; clear hn243_1; clear hn243_2; clear hn243_3; replace p243 := eq_true p243; replace q243 := eq_true q243))
                  repeat (go_quiet (first | ((with_reducible refine gate_dst (N := 8) rfl ?_); refine bxe_ (N := 8) (cs := #[.int .i64 0, .int .i64 0, .int .i64 0, .int .i64 0]) (t := 34) ?_; intro gb241 hg w35 hbox hb; have n0_ := Aside0.mk (Kd.R_below zq2c_ hb); have n1_ := Aside0.mk (Kd.R_below zq29_ hb); have n2_ := Aside0.mk (Kd.R_below zq2a_ hb); have n3_ := Aside0.mk (blk_below (g := gb232) (o := .cells #[.slice none 0 0, .slice none 0 0, .int .i64 0, .int .i64 0] 30 (0, 0)) zq42_ hb); have n4_ := Aside0.mk (blk_below (g := gb235) (o := .cells #[u236000, u236001, .int .i64 x236002_2, .int .i64 x236003_2] 30 (0, 0)) zq43_ hb); have n5_ := Aside0.mk (below_step zq8e_ hb); have n6_ := Aside0.mk (hbox); have n7_ := Aside0.mk ((zqcf_ : w.heap.size ≤ gb241)); have n8_ := Aside0.mk ((zqcf_ : w.heap.size ≤ gb241)); have n9_ := Aside0.mk ((zqeb_ : gb232 ≠ gb241)); have n10_ := Aside0.mk ((zqdc_ : gb241 ≠ gb232)); have n11_ := Aside0.mk ((zqec_ : gb235 ≠ gb241)); have n12_ := Aside0.mk ((zqdd_ : gb241 ≠ gb235)); clear HO_6; clear HO_236000; clear HO_236001; clear BK232; clear BK235; clear HB; have HO_6 := n0_; have HO_236000 := n1_; have HO_236001 := n2_; have BK232 := n3_; have BK235 := n4_; have HB := n5_; have BK241 := n6_; have GW241 := n7_; have GE241 := n8_; have NB232_241 := n9_; have NB241_232 := n10_; have NB235_241 := n11_; have NB241_235 := n12_; clear n0_ n1_ n2_ n3_ n4_ n5_ n6_ n7_ n8_ n9_ n10_ n11_ n12_; clear hb hbox hg; have hnb36 := NB241_232.out; have hnc36 := NB232_241.out; have hnb37 := NB241_235.out; have hnc37 := NB235_241.out; have hcz38_0 := bc0_ BK241.out; have hcz38_1 := bc1_ BK241.out; have hcz38_2 := bc2_ BK241.out; have hcz38_3 := bc3_ BK241.out; have hfz38_0 := blk_frozen BK241.out 0; have hfz38_1 := blk_frozen BK241.out 1; have hfz38_2 := blk_frozen BK241.out 2; have hfz38_3 := blk_frozen BK241.out 3; obtain ⟨Ao39, co39, eo39⟩ := Kd.R_slice HO_6.out; subst eo39; have p242 : 0 ≤ (((rd_T34 l1 x7_2).f1) : Int) := of_decide_eq_true zq71_; have q242 : ((rd_T34 l1 x7_2).f1) < (x6_2.length : Int) := of_decide_eq_true zq71_; obtain ⟨ad242, e242, hx242_0⟩ := Kd.at_int (Kd.R_reads' HO_6.out).2.2 ((rd_T34 l1 x7_2).f1) p242 q242; cases e242; have hn242_0 : ad242.block ≠ gb241 := Kd.own_blk (Kd.R_ne HO_6.out BK241.out (by decide)); have hn242_1 : ad242.block ≠ gb241 := Kd.own_blk (Kd.R_ne HO_6.out BK241.out (by decide)); have hn242_2 : ad242.block ≠ gb241 := Kd.own_blk (Kd.R_ne HO_6.out BK241.out (by decide)); have hn242_3 : ad242.block ≠ gb241 := Kd.own_blk (Kd.R_ne HO_6.out BK241.out (by decide)); replace hx242_0 := (cell_far (p := ⟨gb241, 0, none⟩) zq69_ (.int .i64 ((rd_T34 l1 x7_2).f0))).trans hx242_0; replace hx242_0 := (cell_far (p := ⟨gb241, 1, none⟩) zq6a_ (.int .i64 ((rd_T34 l1 x7_2).f1))).trans hx242_0; replace hx242_0 := (cell_far (p := ⟨gb241, 2, none⟩) zq6b_ (.int .i64 ((rd_T34 l1 x7_2).f2))).trans hx242_0; replace hx242_0 := (cell_far (p := ⟨gb241, 3, none⟩) zq6c_ (.int .i64 ((rd_T34 l1 x7_2).f3))).trans hx242_0; (try have hy242_0 := fun (n_ : Nat) => (show ((((((w35.drewN n_).setCell ⟨gb241, 0, none⟩ (.int .i64 ((rd_T34 l1 x7_2).f0))).setCell ⟨gb241, 1, none⟩ (.int .i64 ((rd_T34 l1 x7_2).f1))).setCell ⟨gb241, 2, none⟩ (.int .i64 ((rd_T34 l1 x7_2).f2))).setCell ⟨gb241, 3, none⟩ (.int .i64 ((rd_T34 l1 x7_2).f3)))).cell? _ = some _ from hx242_0)); clear hn242_0; clear hn242_1; clear hn242_2; clear hn242_3; replace p242 := eq_true p242; replace q242 := eq_true q242; have p243 : 0 ≤ (((rd_T34 l1 x7_2).f2) : Int) := of_decide_eq_true zq71_; have q243 : ((rd_T34 l1 x7_2).f2) < (x6_2.length : Int) := of_decide_eq_true zq71_; obtain ⟨ad243, e243, hx243_0⟩ := Kd.at_int (Kd.R_reads' HO_6.out).2.2 ((rd_T34 l1 x7_2).f2) p243 q243; obtain rfl : ad242 = ad243 := (by injection e243); have hn243_0 : ad242.block ≠ gb241 := Kd.own_blk (Kd.R_ne HO_6.out BK241.out (by decide)); have hn243_1 : ad242.block ≠ gb241 := Kd.own_blk (Kd.R_ne HO_6.out BK241.out (by decide)); have hn243_2 : ad242.block ≠ gb241 := Kd.own_blk (Kd.R_ne HO_6.out BK241.out (by decide)); have hn243_3 : ad242.block ≠ gb241 := Kd.own_blk (Kd.R_ne HO_6.out BK241.out (by decide)); replace hx243_0 := (cell_far (p := ⟨gb241, 0, none⟩) zq6d_ (.int .i64 ((rd_T34 l1 x7_2).f0))).trans hx243_0; replace hx243_0 := (cell_far (p := ⟨gb241, 1, none⟩) zq6e_ (.int .i64 ((rd_T34 l1 x7_2).f1))).trans hx243_0; replace hx243_0 := (cell_far (p := ⟨gb241, 2, none⟩) zq6f_ (.int .i64 ((rd_T34 l1 x7_2).f2))).trans hx243_0; replace hx243_0 := (cell_far (p := ⟨gb241, 3, none⟩) zq70_ (.int .i64 ((rd_T34 l1 x7_2).f3))).trans hx243_0; (try have hy243_0 := fun (n_ : Nat) => (show ((((((w35.drewN n_).setCell ⟨gb241, 0, none⟩ (.int .i64 ((rd_T34 l1 x7_2).f0))).setCell ⟨gb241, 1, none⟩ (.int .i64 ((rd_T34 l1 x7_2).f1))).setCell ⟨gb241, 2, none⟩ (.int .i64 ((rd_T34 l1 x7_2).f2))).setCell ⟨gb241, 3, none⟩ (.int .i64 ((rd_T34 l1 x7_2).f3)))).cell? _ = some _ from hx243_0)); clear hn243_0; clear hn243_1; clear hn243_2; clear hn243_3; replace p243 := eq_true p243; replace q243 := eq_true q243)); try go_wp2_with (first | ((with_reducible refine gate_dst (N := 8) rfl ?_); refine bxe_ (N := 8) (cs := #[.int .i64 0, .int .i64 0, .int .i64 0, .int .i64 0]) (t := 34) ?_; intro gb241 hg w35 hbox hb; have n0_ := Aside0.mk (Kd.R_below zq2c_ hb); have n1_ := Aside0.mk (Kd.R_below zq29_ hb); have n2_ := Aside0.mk (Kd.R_below zq2a_ hb); have n3_ := Aside0.mk (blk_below (g := gb232) (o := .cells #[.slice none 0 0, .slice none 0 0, .int .i64 0, .int .i64 0] 30 (0, 0)) zq42_ hb); have n4_ := Aside0.mk (blk_below (g := gb235) (o := .cells #[u236000, u236001, .int .i64 x236002_2, .int .i64 x236003_2] 30 (0, 0)) zq43_ hb); have n5_ := Aside0.mk (below_step zq8e_ hb); have n6_ := Aside0.mk (hbox); have n7_ := Aside0.mk ((zqcf_ : w.heap.size ≤ gb241)); have n8_ := Aside0.mk ((zqcf_ : w.heap.size ≤ gb241)); have n9_ := Aside0.mk ((zqeb_ : gb232 ≠ gb241)); have n10_ := Aside0.mk ((zqdc_ : gb241 ≠ gb232)); have n11_ := Aside0.mk ((zqec_ : gb235 ≠ gb241)); have n12_ := Aside0.mk ((zqdd_ : gb241 ≠ gb235)); clear HO_6; clear HO_236000; clear HO_236001; clear BK232; clear BK235; clear HB; have HO_6 := n0_; have HO_236000 := n1_; have HO_236001 := n2_; have BK232 := n3_; have BK235 := n4_; have HB := n5_; have BK241 := n6_; have GW241 := n7_; have GE241 := n8_; have NB232_241 := n9_; have NB241_232 := n10_; have NB235_241 := n11_; have NB241_235 := n12_; clear n0_ n1_ n2_ n3_ n4_ n5_ n6_ n7_ n8_ n9_ n10_ n11_ n12_; clear hb hbox hg; have hnb36 := NB241_232.out; have hnc36 := NB232_241.out; have hnb37 := NB241_235.out; have hnc37 := NB235_241.out; have hcz38_0 := bc0_ BK241.out; have hcz38_1 := bc1_ BK241.out; have hcz38_2 := bc2_ BK241.out; have hcz38_3 := bc3_ BK241.out; have hfz38_0 := blk_frozen BK241.out 0; have hfz38_1 := blk_frozen BK241.out 1; have hfz38_2 := blk_frozen BK241.out 2; have hfz38_3 := blk_frozen BK241.out 3; obtain ⟨Ao39, co39, eo39⟩ := Kd.R_slice HO_6.out; subst eo39; have p242 : 0 ≤ (((rd_T34 l1 x7_2).f1) : Int) := of_decide_eq_true zq71_; have q242 : ((rd_T34 l1 x7_2).f1) < (x6_2.length : Int) := of_decide_eq_true zq71_; obtain ⟨ad242, e242, hx242_0⟩ := Kd.at_int (Kd.R_reads' HO_6.out).2.2 ((rd_T34 l1 x7_2).f1) p242 q242; cases e242; have hn242_0 : ad242.block ≠ gb241 := Kd.own_blk (Kd.R_ne HO_6.out BK241.out (by decide)); have hn242_1 : ad242.block ≠ gb241 := Kd.own_blk (Kd.R_ne HO_6.out BK241.out (by decide)); have hn242_2 : ad242.block ≠ gb241 := Kd.own_blk (Kd.R_ne HO_6.out BK241.out (by decide)); have hn242_3 : ad242.block ≠ gb241 := Kd.own_blk (Kd.R_ne HO_6.out BK241.out (by decide)); replace hx242_0 := (cell_far (p := ⟨gb241, 0, none⟩) zq69_ (.int .i64 ((rd_T34 l1 x7_2).f0))).trans hx242_0; replace hx242_0 := (cell_far (p := ⟨gb241, 1, none⟩) zq6a_ (.int .i64 ((rd_T34 l1 x7_2).f1))).trans hx242_0; replace hx242_0 := (cell_far (p := ⟨gb241, 2, none⟩) zq6b_ (.int .i64 ((rd_T34 l1 x7_2).f2))).trans hx242_0; replace hx242_0 := (cell_far (p := ⟨gb241, 3, none⟩) zq6c_ (.int .i64 ((rd_T34 l1 x7_2).f3))).trans hx242_0; (try have hy242_0 := fun (n_ : Nat) => (show ((((((w35.drewN n_).setCell ⟨gb241, 0, none⟩ (.int .i64 ((rd_T34 l1 x7_2).f0))).setCell ⟨gb241, 1, none⟩ (.int .i64 ((rd_T34 l1 x7_2).f1))).setCell ⟨gb241, 2, none⟩ (.int .i64 ((rd_T34 l1 x7_2).f2))).setCell ⟨gb241, 3, none⟩ (.int .i64 ((rd_T34 l1 x7_2).f3)))).cell? _ = some _ from hx242_0)); clear hn242_0; clear hn242_1; clear hn242_2; clear hn242_3; replace p242 := eq_true p242; replace q242 := eq_true q242; have p243 : 0 ≤ (((rd_T34 l1 x7_2).f2) : Int) := of_decide_eq_true zq71_; have q243 : ((rd_T34 l1 x7_2).f2) < (x6_2.length : Int) := of_decide_eq_true zq71_; obtain ⟨ad243, e243, hx243_0⟩ := Kd.at_int (Kd.R_reads' HO_6.out).2.2 ((rd_T34 l1 x7_2).f2) p243 q243; obtain rfl : ad242 = ad243 := (by injection e243); have hn243_0 : ad242.block ≠ gb241 := Kd.own_blk (Kd.R_ne HO_6.out BK241.out (by decide)); have hn243_1 : ad242.block ≠ gb241 := Kd.own_blk (Kd.R_ne HO_6.out BK241.out (by decide)); have hn243_2 : ad242.block ≠ gb241 := Kd.own_blk (Kd.R_ne HO_6.out BK241.out (by decide)); have hn243_3 : ad242.block ≠ gb241 := Kd.own_blk (Kd.R_ne HO_6.out BK241.out (by decide)); replace hx243_0 := (cell_far (p := ⟨gb241, 0, none⟩) zq6d_ (.int .i64 ((rd_T34 l1 x7_2).f0))).trans hx243_0; replace hx243_0 := (cell_far (p := ⟨gb241, 1, none⟩) zq6e_ (.int .i64 ((rd_T34 l1 x7_2).f1))).trans hx243_0; replace hx243_0 := (cell_far (p := ⟨gb241, 2, none⟩) zq6f_ (.int .i64 ((rd_T34 l1 x7_2).f2))).trans hx243_0; replace hx243_0 := (cell_far (p := ⟨gb241, 3, none⟩) zq70_ (.int .i64 ((rd_T34 l1 x7_2).f3))).trans hx243_0; (try have hy243_0 := fun (n_ : Nat) => (show ((((((w35.drewN n_).setCell ⟨gb241, 0, none⟩ (.int .i64 ((rd_T34 l1 x7_2).f0))).setCell ⟨gb241, 1, none⟩ (.int .i64 ((rd_T34 l1 x7_2).f1))).setCell ⟨gb241, 2, none⟩ (.int .i64 ((rd_T34 l1 x7_2).f2))).setCell ⟨gb241, 3, none⟩ (.int .i64 ((rd_T34 l1 x7_2).f3)))).cell? _ = some _ from hx243_0)); clear hn243_0; clear hn243_1; clear hn243_2; clear hn243_3; replace p243 := eq_true p243; replace q243 := eq_true q243)))
                  go_roundg kj16
                  case measure => have := HJ2.out; have := HK2.out; have := HJ16.out; omega
                  case rel => exact ⟨(x6_2), (wrap64 (x7_2 + 1)), (x236000_2), (x236001_2), (x236002_2), (x236003_2), (u236000), (u236001), zq76_, H', ⟨zq78_⟩, ⟨zq32_⟩, ⟨zq30_⟩, ⟨zq31_⟩, ⟨zq61_⟩, ⟨zq62_⟩, ⟨zq8d_⟩⟩
                ·rw [if_neg c28] at H
                 exact absurd H (by simp)
               ·rw [if_neg c27] at H
                exact absurd H (by simp)
              ·rw [if_neg c26] at H
               exact absurd H (by simp)
             ·rw [if_neg c25] at H
              exact absurd H (by simp)
            ·rw [if_neg c24] at H
             have c24b0 : (((rd_T34 l1 x7_2).f0) == 6) = false := beq_eq_false_iff_ne.mpr c24
             have c24b1 : (((rd_T34 l1 x7_2).f0) != 6) = true := bne_iff_ne.mpr c24
             replace H := Option.bind_eq_some_iff.mp H
             obtain ⟨⟨t244, t247, t250, t251, t252⟩, A400, H⟩ := H
             (try dsimp only at H)
             have A40 := Aside0.mk A400
             clear A400
             have H' := Aside0.mk H
             clear H
             have p240 : 0 ≤ (x7_2 : Int) := of_decide_eq_true zq71_
             have q240 : x7_2 < (l1.length : Int) := of_decide_eq_true zq71_
             obtain ⟨ad240, e240, hx240_0, hx240_1, hx240_2, hx240_3⟩ := at_T34 HR1.out x7_2 p240 q240
             cases e240
             replace hx240_0 := (HB.out.cell (World.block_lt_of_cell? w _ hx240_0)).trans hx240_0
             replace hx240_1 := (HB.out.cell (World.block_lt_of_cell? w _ hx240_1)).trans hx240_1
             replace hx240_2 := (HB.out.cell (World.block_lt_of_cell? w _ hx240_2)).trans hx240_2
             replace hx240_3 := (HB.out.cell (World.block_lt_of_cell? w _ hx240_3)).trans hx240_3
             replace p240 := eq_true p240
             replace q240 := eq_true q240
             go_wp2_with (first | ((with_reducible refine gate_dst (N := 8) rfl ?_); refine bxe_ (N := 8) (cs := #[.int .i64 0, .int .i64 0, .int .i64 0, .int .i64 0]) (t := 34) ?_; intro gb241 hg w41 hbox hb; have n0_ := Aside0.mk (Kd.R_below zq2c_ hb); have n1_ := Aside0.mk (Kd.R_below zq29_ hb); have n2_ := Aside0.mk (Kd.R_below zq2a_ hb); have n3_ := Aside0.mk (blk_below (g := gb232) (o := .cells #[.slice none 0 0, .slice none 0 0, .int .i64 0, .int .i64 0] 30 (0, 0)) zq42_ hb); have n4_ := Aside0.mk (blk_below (g := gb235) (o := .cells #[u236000, u236001, .int .i64 x236002_2, .int .i64 x236003_2] 30 (0, 0)) zq43_ hb); have n5_ := Aside0.mk (below_step zq8e_ hb); have n6_ := Aside0.mk (hbox); have n7_ := Aside0.mk ((zqcf_ : w.heap.size ≤ gb241)); have n8_ := Aside0.mk ((zqcf_ : w.heap.size ≤ gb241)); have n9_ := Aside0.mk ((zqeb_ : gb232 ≠ gb241)); have n10_ := Aside0.mk ((zqdc_ : gb241 ≠ gb232)); have n11_ := Aside0.mk ((zqec_ : gb235 ≠ gb241)); have n12_ := Aside0.mk ((zqdd_ : gb241 ≠ gb235)); clear HO_6; clear HO_236000; clear HO_236001; clear BK232; clear BK235; clear HB; have HO_6 := n0_; have HO_236000 := n1_; have HO_236001 := n2_; have BK232 := n3_; have BK235 := n4_; have HB := n5_; have BK241 := n6_; have GW241 := n7_; have GE241 := n8_; have NB232_241 := n9_; have NB241_232 := n10_; have NB235_241 := n11_; have NB241_235 := n12_; clear n0_ n1_ n2_ n3_ n4_ n5_ n6_ n7_ n8_ n9_ n10_ n11_ n12_; clear hb hbox hg; have hnb42 := NB241_232.out; have hnc42 := NB232_241.out; have hnb43 := NB241_235.out; have hnc43 := NB235_241.out; have hcz44_0 := bc0_ BK241.out; have hcz44_1 := bc1_ BK241.out; have hcz44_2 := bc2_ BK241.out; have hcz44_3 := bc3_ BK241.out; have hfz44_0 := blk_frozen BK241.out 0; have hfz44_1 := blk_frozen BK241.out 1; have hfz44_2 := blk_frozen BK241.out 2; have hfz44_3 := blk_frozen BK241.out 3) | ((with_reducible refine gate_store (t := 34) (p := 8) rfl ?_); (try (rw [drewN_self w41]; generalize hq_ : World.drewN w41 _ = w41; have n0_ := Aside0.mk (Kd.R_at hq_ HO_6.out); have n1_ := Aside0.mk (Kd.R_at hq_ HO_236000.out); have n2_ := Aside0.mk (Kd.R_at hq_ HO_236001.out); have n3_ := Aside0.mk (blk_at hq_ BK232.out); have n4_ := Aside0.mk (blk_at hq_ BK235.out); have n5_ := Aside0.mk (blk_at hq_ BK241.out); have n6_ := Aside0.mk (below_at hq_ HB.out); clear hq_ HO_6 HO_236000 HO_236001 BK232 BK235 BK241 HB; have HO_6 := n0_; have HO_236000 := n1_; have HO_236001 := n2_; have BK232 := n3_; have BK235 := n4_; have BK241 := n5_; have HB := n6_; clear n0_ n1_ n2_ n3_ n4_ n5_ n6_)); refine store_event (t := 34) (p := 8) (v := ?vo_w45) (w1 := ((((w41.setCell ⟨gb241, 0, none⟩ (.int .i64 ((rd_T34 l1 x7_2).f0))).setCell ⟨gb241, 1, none⟩ (.int .i64 ((rd_T34 l1 x7_2).f1))).setCell ⟨gb241, 2, none⟩ (.int .i64 ((rd_T34 l1 x7_2).f2))).setCell ⟨gb241, 3, none⟩ (.int .i64 ((rd_T34 l1 x7_2).f3)))) ?hg ?ho ?hn ?hr ?_; (case ho => rfl); (case hg => rfl); (case hn => rfl); (case hr => first | (go_simp; done) | (go_simp; rfl)); intro w45 hw; have n0_ : Aside0 (Kd.R (Kd.int .i64) 3 w45 w.heap.size (fun _ => True) v237 x6_2) := ⟨(by rw [hw]; exact zq32_)⟩; have n1_ : Aside0 (Kd.R k48 48 w45 w.heap.size (fun _ => True) u236000 x236000_2) := ⟨(by rw [hw]; exact zq30_)⟩; have n2_ : Aside0 (Kd.R k36 36 w45 w.heap.size (fun _ => True) u236001 x236001_2) := ⟨(by rw [hw]; exact zq31_)⟩; have n3_ : Aside0 (w45.heap[gb232]? = some (.cells #[.slice none 0 0, .slice none 0 0, .int .i64 0, .int .i64 0] 30 (0, 0))) := ⟨(by rw [hw]; exact zq61_)⟩; have n4_ : Aside0 (w45.heap[gb235]? = some (.cells #[u236000, u236001, .int .i64 x236002_2, .int .i64 x236003_2] 30 (0, 0))) := ⟨(by rw [hw]; exact zq62_)⟩; have n5_ : Aside0 (w45.heap[gb241]? = some (.cells #[.int .i64 ((rd_T34 l1 x7_2).f0), .int .i64 ((rd_T34 l1 x7_2).f1), .int .i64 ((rd_T34 l1 x7_2).f2), .int .i64 ((rd_T34 l1 x7_2).f3)] 34 (0, 0))) := ⟨(by rw [hw]; exact zq65_)⟩; have n6_ : Aside0 (Below w.heap.size w w45) := ⟨(by rw [hw]; exact zq8d_)⟩; clear hw; clear HO_6; clear HO_236000; clear HO_236001; clear BK232; clear BK235; clear BK241; clear HB; have HO_6 := n0_; have HO_236000 := n1_; have HO_236001 := n2_; have BK232 := n3_; have BK235 := n4_; have BK241 := n5_; have HB := n6_; clear n0_ n1_ n2_ n3_ n4_ n5_ n6_; have hcz46_0 := bc0_ BK241.out; have hcz46_1 := bc1_ BK241.out; have hcz46_2 := bc2_ BK241.out; have hcz46_3 := bc3_ BK241.out; have hfz46_0 := blk_frozen BK241.out 0; have hfz46_1 := blk_frozen BK241.out 1; have hfz46_2 := blk_frozen BK241.out 2; have hfz46_3 := blk_frozen BK241.out 3; have hnb47 := NB235_232.out; have hnc47 := NB232_235.out; have hcz48_0 : w45.cell? ⟨gb235, 0, none⟩ = some (u236000) := (blk_cell BK235.out 0).trans rfl; have hcz48_1 : w45.cell? ⟨gb235, 1, none⟩ = some (u236001) := (blk_cell BK235.out 1).trans rfl; have hcz48_2 := bc2_ BK235.out; have hcz48_3 := bc3_ BK235.out; have hfz48_0 := blk_frozen BK235.out 0; have hfz48_1 := blk_frozen BK235.out 1; have hfz48_2 := blk_frozen BK235.out 2; have hfz48_3 := blk_frozen BK235.out 3; obtain ⟨Ao49, co49, eo49⟩ := Kd.R_slice HO_236000.out; subst eo49; obtain ⟨Ao50, co50, eo50⟩ := Kd.R_slice HO_236001.out; subst eo50; obtain ⟨Ao51, co51, eo51⟩ := Kd.R_slice HO_6.out; subst eo51) | (go_at_call 68; (with_reducible refine (spec_l3Step.calls kj16 _ _ l0 (fun k_ => some k_ = (.slice Ao49 x236000_2.length co49 : Value).ownBlock) (.slice Ao49 x236000_2.length co49) x236000_2 (fun k_ => some k_ = (.slice Ao50 x236001_2.length co50 : Value).ownBlock) (.slice Ao50 x236001_2.length co50) x236001_2 x236002_2 x236003_2 (fun k_ => some k_ = (.slice Ao51 x6_2.length co51 : Value).ownBlock) (.slice Ao51 x6_2.length co51) x6_2 ((rd_T34 l1 x7_2).f0) ((rd_T34 l1 x7_2).f1) ((rd_T34 l1 x7_2).f2) ((rd_T34 l1 x7_2).f3) t244 t247 t250 t251 t252 w _ ?side1 ?side2 ?side3 ?side4 ?side5 ?side6 A40.out).mono ?_); (case side1 => exact zq8d_); (case side2 => exact zqc3_); (case side3 => exact HC0.out); (case side4 => exact Kd.R_tight rfl HO_236000.out); (case side5 => exact Kd.R_tight rfl HO_236001.out); (case side6 => exact Kd.R_tight rfl HO_6.out); rintro e w52 ⟨v245, v248, rfl, ho0, ho1, hy0, hb, hkp⟩; have n_ := A7_ (Kd.R_reok rfl hy0 (fun k_ e_ => HO_6.out.1 k_ e_)) (blk_kept zq42_ hkp (fun hs_ => Or.elim hs_ (fun e_ => (fun e_ => (Kd.R_ne HO_236000.out BK232.out (by decide)) e_) e_) (fun e_ => Or.elim e_ (fun e_ => (fun e_ => (Kd.R_ne HO_236001.out BK232.out (by decide)) e_) e_) (fun e_ => (fun e_ => (Kd.R_ne HO_6.out BK232.out (by decide)) e_) e_)))) (blk_kept zq43_ hkp (fun hs_ => Or.elim hs_ (fun e_ => (fun e_ => (Kd.R_ne HO_236000.out BK235.out (by decide)) e_) e_) (fun e_ => Or.elim e_ (fun e_ => (fun e_ => (Kd.R_ne HO_236001.out BK235.out (by decide)) e_) e_) (fun e_ => (fun e_ => (Kd.R_ne HO_6.out BK235.out (by decide)) e_) e_)))) (blk_kept zq44_ hkp (fun hs_ => Or.elim hs_ (fun e_ => (fun e_ => (Kd.R_ne HO_236000.out BK241.out (by decide)) e_) e_) (fun e_ => Or.elim e_ (fun e_ => (fun e_ => (Kd.R_ne HO_236001.out BK241.out (by decide)) e_) e_) (fun e_ => (fun e_ => (Kd.R_ne HO_6.out BK241.out (by decide)) e_) e_)))) (Kd.R_mono (ok' := fun k_ => True) ho0 (fun k_ hk_ => trivial)) (Kd.R_mono (ok' := fun k_ => True) ho1 (fun k_ hk_ => trivial)) (hb); clear HO_6 BK232 BK235 BK241 HB HO_236000 HO_236001; obtain ⟨HO_6, BK232, BK235, BK241, HO246, HO249, HB⟩ := n_; (try clear hb); (try clear hkp); (try clear ho0); (try clear ho1); (try clear hy0); (try clear A40); obtain ⟨Ao53, co53, eo53⟩ := Kd.R_slice HO246.out; subst eo53; have hcz54_0 := bc0_ BK235.out; have hcz54_1 := bc1_ BK235.out; have hcz54_2 := bc2_ BK235.out; have hcz54_3 := bc3_ BK235.out; have hfz54_0 := blk_frozen BK235.out 0; have hfz54_1 := blk_frozen BK235.out 1; have hfz54_2 := blk_frozen BK235.out 2; have hfz54_3 := blk_frozen BK235.out 3; obtain ⟨Ao55, co55, eo55⟩ := Kd.R_slice HO249.out; subst eo55))
             repeat (go_quiet (first | ((with_reducible refine gate_dst (N := 8) rfl ?_); refine bxe_ (N := 8) (cs := #[.int .i64 0, .int .i64 0, .int .i64 0, .int .i64 0]) (t := 34) ?_; intro gb241 hg w41 hbox hb; have n0_ := Aside0.mk (Kd.R_below zq2c_ hb); have n1_ := Aside0.mk (Kd.R_below zq29_ hb); have n2_ := Aside0.mk (Kd.R_below zq2a_ hb); have n3_ := Aside0.mk (blk_below (g := gb232) (o := .cells #[.slice none 0 0, .slice none 0 0, .int .i64 0, .int .i64 0] 30 (0, 0)) zq42_ hb); have n4_ := Aside0.mk (blk_below (g := gb235) (o := .cells #[u236000, u236001, .int .i64 x236002_2, .int .i64 x236003_2] 30 (0, 0)) zq43_ hb); have n5_ := Aside0.mk (below_step zq8e_ hb); have n6_ := Aside0.mk (hbox); have n7_ := Aside0.mk ((zqcf_ : w.heap.size ≤ gb241)); have n8_ := Aside0.mk ((zqcf_ : w.heap.size ≤ gb241)); have n9_ := Aside0.mk ((zqeb_ : gb232 ≠ gb241)); have n10_ := Aside0.mk ((zqdc_ : gb241 ≠ gb232)); have n11_ := Aside0.mk ((zqec_ : gb235 ≠ gb241)); have n12_ := Aside0.mk ((zqdd_ : gb241 ≠ gb235)); clear HO_6; clear HO_236000; clear HO_236001; clear BK232; clear BK235; clear HB; have HO_6 := n0_; have HO_236000 := n1_; have HO_236001 := n2_; have BK232 := n3_; have BK235 := n4_; have HB := n5_; have BK241 := n6_; have GW241 := n7_; have GE241 := n8_; have NB232_241 := n9_; have NB241_232 := n10_; have NB235_241 := n11_; have NB241_235 := n12_; clear n0_ n1_ n2_ n3_ n4_ n5_ n6_ n7_ n8_ n9_ n10_ n11_ n12_; clear hb hbox hg; have hnb42 := NB241_232.out; have hnc42 := NB232_241.out; have hnb43 := NB241_235.out; have hnc43 := NB235_241.out; have hcz44_0 := bc0_ BK241.out; have hcz44_1 := bc1_ BK241.out; have hcz44_2 := bc2_ BK241.out; have hcz44_3 := bc3_ BK241.out; have hfz44_0 := blk_frozen BK241.out 0; have hfz44_1 := blk_frozen BK241.out 1; have hfz44_2 := blk_frozen BK241.out 2; have hfz44_3 := blk_frozen BK241.out 3) | ((with_reducible refine gate_store (t := 34) (p := 8) rfl ?_); (try (rw [drewN_self w41]; generalize hq_ : World.drewN w41 _ = w41; have n0_ := Aside0.mk (Kd.R_at hq_ HO_6.out); have n1_ := Aside0.mk (Kd.R_at hq_ HO_236000.out); have n2_ := Aside0.mk (Kd.R_at hq_ HO_236001.out); have n3_ := Aside0.mk (blk_at hq_ BK232.out); have n4_ := Aside0.mk (blk_at hq_ BK235.out); have n5_ := Aside0.mk (blk_at hq_ BK241.out); have n6_ := Aside0.mk (below_at hq_ HB.out); clear hq_ HO_6 HO_236000 HO_236001 BK232 BK235 BK241 HB; have HO_6 := n0_; have HO_236000 := n1_; have HO_236001 := n2_; have BK232 := n3_; have BK235 := n4_; have BK241 := n5_; have HB := n6_; clear n0_ n1_ n2_ n3_ n4_ n5_ n6_)); refine store_event (t := 34) (p := 8) (v := ?vo_w45) (w1 := ((((w41.setCell ⟨gb241, 0, none⟩ (.int .i64 ((rd_T34 l1 x7_2).f0))).setCell ⟨gb241, 1, none⟩ (.int .i64 ((rd_T34 l1 x7_2).f1))).setCell ⟨gb241, 2, none⟩ (.int .i64 ((rd_T34 l1 x7_2).f2))).setCell ⟨gb241, 3, none⟩ (.int .i64 ((rd_T34 l1 x7_2).f3)))) ?hg ?ho ?hn ?hr ?_; (case ho => rfl); (case hg => rfl); (case hn => rfl); (case hr => first | (go_simp; done) | (go_simp; rfl)); intro w45 hw; have n0_ : Aside0 (Kd.R (Kd.int .i64) 3 w45 w.heap.size (fun _ => True) v237 x6_2) := ⟨(by rw [hw]; exact zq32_)⟩; have n1_ : Aside0 (Kd.R k48 48 w45 w.heap.size (fun _ => True) u236000 x236000_2) := ⟨(by rw [hw]; exact zq30_)⟩; have n2_ : Aside0 (Kd.R k36 36 w45 w.heap.size (fun _ => True) u236001 x236001_2) := ⟨(by rw [hw]; exact zq31_)⟩; have n3_ : Aside0 (w45.heap[gb232]? = some (.cells #[.slice none 0 0, .slice none 0 0, .int .i64 0, .int .i64 0] 30 (0, 0))) := ⟨(by rw [hw]; exact zq61_)⟩; have n4_ : Aside0 (w45.heap[gb235]? = some (.cells #[u236000, u236001, .int .i64 x236002_2, .int .i64 x236003_2] 30 (0, 0))) := ⟨(by rw [hw]; exact zq62_)⟩; have n5_ : Aside0 (w45.heap[gb241]? = some (.cells #[.int .i64 ((rd_T34 l1 x7_2).f0), .int .i64 ((rd_T34 l1 x7_2).f1), .int .i64 ((rd_T34 l1 x7_2).f2), .int .i64 ((rd_T34 l1 x7_2).f3)] 34 (0, 0))) := ⟨(by rw [hw]; exact zq65_)⟩; have n6_ : Aside0 (Below w.heap.size w w45) := ⟨(by rw [hw]; exact zq8d_)⟩; clear hw; clear HO_6; clear HO_236000; clear HO_236001; clear BK232; clear BK235; clear BK241; clear HB; have HO_6 := n0_; have HO_236000 := n1_; have HO_236001 := n2_; have BK232 := n3_; have BK235 := n4_; have BK241 := n5_; have HB := n6_; clear n0_ n1_ n2_ n3_ n4_ n5_ n6_; have hcz46_0 := bc0_ BK241.out; have hcz46_1 := bc1_ BK241.out; have hcz46_2 := bc2_ BK241.out; have hcz46_3 := bc3_ BK241.out; have hfz46_0 := blk_frozen BK241.out 0; have hfz46_1 := blk_frozen BK241.out 1; have hfz46_2 := blk_frozen BK241.out 2; have hfz46_3 := blk_frozen BK241.out 3; have hnb47 := NB235_232.out; have hnc47 := NB232_235.out; have hcz48_0 : w45.cell? ⟨gb235, 0, none⟩ = some (u236000) := (blk_cell BK235.out 0).trans rfl; have hcz48_1 : w45.cell? ⟨gb235, 1, none⟩ = some (u236001) := (blk_cell BK235.out 1).trans rfl; have hcz48_2 := bc2_ BK235.out; have hcz48_3 := bc3_ BK235.out; have hfz48_0 := blk_frozen BK235.out 0; have hfz48_1 := blk_frozen BK235.out 1; have hfz48_2 := blk_frozen BK235.out 2; have hfz48_3 := blk_frozen BK235.out 3; obtain ⟨Ao49, co49, eo49⟩ := Kd.R_slice HO_236000.out; subst eo49; obtain ⟨Ao50, co50, eo50⟩ := Kd.R_slice HO_236001.out; subst eo50; obtain ⟨Ao51, co51, eo51⟩ := Kd.R_slice HO_6.out; subst eo51) | (go_at_call 68; (with_reducible refine (spec_l3Step.calls kj16 _ _ l0 (fun k_ => some k_ = (.slice Ao49 x236000_2.length co49 : Value).ownBlock) (.slice Ao49 x236000_2.length co49) x236000_2 (fun k_ => some k_ = (.slice Ao50 x236001_2.length co50 : Value).ownBlock) (.slice Ao50 x236001_2.length co50) x236001_2 x236002_2 x236003_2 (fun k_ => some k_ = (.slice Ao51 x6_2.length co51 : Value).ownBlock) (.slice Ao51 x6_2.length co51) x6_2 ((rd_T34 l1 x7_2).f0) ((rd_T34 l1 x7_2).f1) ((rd_T34 l1 x7_2).f2) ((rd_T34 l1 x7_2).f3) t244 t247 t250 t251 t252 w _ ?side1 ?side2 ?side3 ?side4 ?side5 ?side6 A40.out).mono ?_); (case side1 => exact zq8d_); (case side2 => exact zqc3_); (case side3 => exact HC0.out); (case side4 => exact Kd.R_tight rfl HO_236000.out); (case side5 => exact Kd.R_tight rfl HO_236001.out); (case side6 => exact Kd.R_tight rfl HO_6.out); rintro e w52 ⟨v245, v248, rfl, ho0, ho1, hy0, hb, hkp⟩; have n_ := A7_ (Kd.R_reok rfl hy0 (fun k_ e_ => HO_6.out.1 k_ e_)) (blk_kept zq42_ hkp (fun hs_ => Or.elim hs_ (fun e_ => (fun e_ => (Kd.R_ne HO_236000.out BK232.out (by decide)) e_) e_) (fun e_ => Or.elim e_ (fun e_ => (fun e_ => (Kd.R_ne HO_236001.out BK232.out (by decide)) e_) e_) (fun e_ => (fun e_ => (Kd.R_ne HO_6.out BK232.out (by decide)) e_) e_)))) (blk_kept zq43_ hkp (fun hs_ => Or.elim hs_ (fun e_ => (fun e_ => (Kd.R_ne HO_236000.out BK235.out (by decide)) e_) e_) (fun e_ => Or.elim e_ (fun e_ => (fun e_ => (Kd.R_ne HO_236001.out BK235.out (by decide)) e_) e_) (fun e_ => (fun e_ => (Kd.R_ne HO_6.out BK235.out (by decide)) e_) e_)))) (blk_kept zq44_ hkp (fun hs_ => Or.elim hs_ (fun e_ => (fun e_ => (Kd.R_ne HO_236000.out BK241.out (by decide)) e_) e_) (fun e_ => Or.elim e_ (fun e_ => (fun e_ => (Kd.R_ne HO_236001.out BK241.out (by decide)) e_) e_) (fun e_ => (fun e_ => (Kd.R_ne HO_6.out BK241.out (by decide)) e_) e_)))) (Kd.R_mono (ok' := fun k_ => True) ho0 (fun k_ hk_ => trivial)) (Kd.R_mono (ok' := fun k_ => True) ho1 (fun k_ hk_ => trivial)) (hb); clear HO_6 BK232 BK235 BK241 HB HO_236000 HO_236001; obtain ⟨HO_6, BK232, BK235, BK241, HO246, HO249, HB⟩ := n_; (try clear hb); (try clear hkp); (try clear ho0); (try clear ho1); (try clear hy0); (try clear A40); obtain ⟨Ao53, co53, eo53⟩ := Kd.R_slice HO246.out; subst eo53; have hcz54_0 := bc0_ BK235.out; have hcz54_1 := bc1_ BK235.out; have hcz54_2 := bc2_ BK235.out; have hcz54_3 := bc3_ BK235.out; have hfz54_0 := blk_frozen BK235.out 0; have hfz54_1 := blk_frozen BK235.out 1; have hfz54_2 := blk_frozen BK235.out 2; have hfz54_3 := blk_frozen BK235.out 3; obtain ⟨Ao55, co55, eo55⟩ := Kd.R_slice HO249.out; subst eo55)); try go_wp2_with (first | ((with_reducible refine gate_dst (N := 8) rfl ?_); refine bxe_ (N := 8) (cs := #[.int .i64 0, .int .i64 0, .int .i64 0, .int .i64 0]) (t := 34) ?_; intro gb241 hg w41 hbox hb; have n0_ := Aside0.mk (Kd.R_below zq2c_ hb); have n1_ := Aside0.mk (Kd.R_below zq29_ hb); have n2_ := Aside0.mk (Kd.R_below zq2a_ hb); have n3_ := Aside0.mk (blk_below (g := gb232) (o := .cells #[.slice none 0 0, .slice none 0 0, .int .i64 0, .int .i64 0] 30 (0, 0)) zq42_ hb); have n4_ := Aside0.mk (blk_below (g := gb235) (o := .cells #[u236000, u236001, .int .i64 x236002_2, .int .i64 x236003_2] 30 (0, 0)) zq43_ hb); have n5_ := Aside0.mk (below_step zq8e_ hb); have n6_ := Aside0.mk (hbox); have n7_ := Aside0.mk ((zqcf_ : w.heap.size ≤ gb241)); have n8_ := Aside0.mk ((zqcf_ : w.heap.size ≤ gb241)); have n9_ := Aside0.mk ((zqeb_ : gb232 ≠ gb241)); have n10_ := Aside0.mk ((zqdc_ : gb241 ≠ gb232)); have n11_ := Aside0.mk ((zqec_ : gb235 ≠ gb241)); have n12_ := Aside0.mk ((zqdd_ : gb241 ≠ gb235)); clear HO_6; clear HO_236000; clear HO_236001; clear BK232; clear BK235; clear HB; have HO_6 := n0_; have HO_236000 := n1_; have HO_236001 := n2_; have BK232 := n3_; have BK235 := n4_; have HB := n5_; have BK241 := n6_; have GW241 := n7_; have GE241 := n8_; have NB232_241 := n9_; have NB241_232 := n10_; have NB235_241 := n11_; have NB241_235 := n12_; clear n0_ n1_ n2_ n3_ n4_ n5_ n6_ n7_ n8_ n9_ n10_ n11_ n12_; clear hb hbox hg; have hnb42 := NB241_232.out; have hnc42 := NB232_241.out; have hnb43 := NB241_235.out; have hnc43 := NB235_241.out; have hcz44_0 := bc0_ BK241.out; have hcz44_1 := bc1_ BK241.out; have hcz44_2 := bc2_ BK241.out; have hcz44_3 := bc3_ BK241.out; have hfz44_0 := blk_frozen BK241.out 0; have hfz44_1 := blk_frozen BK241.out 1; have hfz44_2 := blk_frozen BK241.out 2; have hfz44_3 := blk_frozen BK241.out 3) | ((with_reducible refine gate_store (t := 34) (p := 8) rfl ?_); (try (rw [drewN_self w41]; generalize hq_ : World.drewN w41 _ = w41; have n0_ := Aside0.mk (Kd.R_at hq_ HO_6.out); have n1_ := Aside0.mk (Kd.R_at hq_ HO_236000.out); have n2_ := Aside0.mk (Kd.R_at hq_ HO_236001.out); have n3_ := Aside0.mk (blk_at hq_ BK232.out); have n4_ := Aside0.mk (blk_at hq_ BK235.out); have n5_ := Aside0.mk (blk_at hq_ BK241.out); have n6_ := Aside0.mk (below_at hq_ HB.out); clear hq_ HO_6 HO_236000 HO_236001 BK232 BK235 BK241 HB; have HO_6 := n0_; have HO_236000 := n1_; have HO_236001 := n2_; have BK232 := n3_; have BK235 := n4_; have BK241 := n5_; have HB := n6_; clear n0_ n1_ n2_ n3_ n4_ n5_ n6_)); refine store_event (t := 34) (p := 8) (v := ?vo_w45) (w1 := ((((w41.setCell ⟨gb241, 0, none⟩ (.int .i64 ((rd_T34 l1 x7_2).f0))).setCell ⟨gb241, 1, none⟩ (.int .i64 ((rd_T34 l1 x7_2).f1))).setCell ⟨gb241, 2, none⟩ (.int .i64 ((rd_T34 l1 x7_2).f2))).setCell ⟨gb241, 3, none⟩ (.int .i64 ((rd_T34 l1 x7_2).f3)))) ?hg ?ho ?hn ?hr ?_; (case ho => rfl); (case hg => rfl); (case hn => rfl); (case hr => first | (go_simp; done) | (go_simp; rfl)); intro w45 hw; have n0_ : Aside0 (Kd.R (Kd.int .i64) 3 w45 w.heap.size (fun _ => True) v237 x6_2) := ⟨(by rw [hw]; exact zq32_)⟩; have n1_ : Aside0 (Kd.R k48 48 w45 w.heap.size (fun _ => True) u236000 x236000_2) := ⟨(by rw [hw]; exact zq30_)⟩; have n2_ : Aside0 (Kd.R k36 36 w45 w.heap.size (fun _ => True) u236001 x236001_2) := ⟨(by rw [hw]; exact zq31_)⟩; have n3_ : Aside0 (w45.heap[gb232]? = some (.cells #[.slice none 0 0, .slice none 0 0, .int .i64 0, .int .i64 0] 30 (0, 0))) := ⟨(by rw [hw]; exact zq61_)⟩; have n4_ : Aside0 (w45.heap[gb235]? = some (.cells #[u236000, u236001, .int .i64 x236002_2, .int .i64 x236003_2] 30 (0, 0))) := ⟨(by rw [hw]; exact zq62_)⟩; have n5_ : Aside0 (w45.heap[gb241]? = some (.cells #[.int .i64 ((rd_T34 l1 x7_2).f0), .int .i64 ((rd_T34 l1 x7_2).f1), .int .i64 ((rd_T34 l1 x7_2).f2), .int .i64 ((rd_T34 l1 x7_2).f3)] 34 (0, 0))) := ⟨(by rw [hw]; exact zq65_)⟩; have n6_ : Aside0 (Below w.heap.size w w45) := ⟨(by rw [hw]; exact zq8d_)⟩; clear hw; clear HO_6; clear HO_236000; clear HO_236001; clear BK232; clear BK235; clear BK241; clear HB; have HO_6 := n0_; have HO_236000 := n1_; have HO_236001 := n2_; have BK232 := n3_; have BK235 := n4_; have BK241 := n5_; have HB := n6_; clear n0_ n1_ n2_ n3_ n4_ n5_ n6_; have hcz46_0 := bc0_ BK241.out; have hcz46_1 := bc1_ BK241.out; have hcz46_2 := bc2_ BK241.out; have hcz46_3 := bc3_ BK241.out; have hfz46_0 := blk_frozen BK241.out 0; have hfz46_1 := blk_frozen BK241.out 1; have hfz46_2 := blk_frozen BK241.out 2; have hfz46_3 := blk_frozen BK241.out 3; have hnb47 := NB235_232.out; have hnc47 := NB232_235.out; have hcz48_0 : w45.cell? ⟨gb235, 0, none⟩ = some (u236000) := (blk_cell BK235.out 0).trans rfl; have hcz48_1 : w45.cell? ⟨gb235, 1, none⟩ = some (u236001) := (blk_cell BK235.out 1).trans rfl; have hcz48_2 := bc2_ BK235.out; have hcz48_3 := bc3_ BK235.out; have hfz48_0 := blk_frozen BK235.out 0; have hfz48_1 := blk_frozen BK235.out 1; have hfz48_2 := blk_frozen BK235.out 2; have hfz48_3 := blk_frozen BK235.out 3; obtain ⟨Ao49, co49, eo49⟩ := Kd.R_slice HO_236000.out; subst eo49; obtain ⟨Ao50, co50, eo50⟩ := Kd.R_slice HO_236001.out; subst eo50; obtain ⟨Ao51, co51, eo51⟩ := Kd.R_slice HO_6.out; subst eo51) | (go_at_call 68; (with_reducible refine (spec_l3Step.calls kj16 _ _ l0 (fun k_ => some k_ = (.slice Ao49 x236000_2.length co49 : Value).ownBlock) (.slice Ao49 x236000_2.length co49) x236000_2 (fun k_ => some k_ = (.slice Ao50 x236001_2.length co50 : Value).ownBlock) (.slice Ao50 x236001_2.length co50) x236001_2 x236002_2 x236003_2 (fun k_ => some k_ = (.slice Ao51 x6_2.length co51 : Value).ownBlock) (.slice Ao51 x6_2.length co51) x6_2 ((rd_T34 l1 x7_2).f0) ((rd_T34 l1 x7_2).f1) ((rd_T34 l1 x7_2).f2) ((rd_T34 l1 x7_2).f3) t244 t247 t250 t251 t252 w _ ?side1 ?side2 ?side3 ?side4 ?side5 ?side6 A40.out).mono ?_); (case side1 => exact zq8d_); (case side2 => exact zqc3_); (case side3 => exact HC0.out); (case side4 => exact Kd.R_tight rfl HO_236000.out); (case side5 => exact Kd.R_tight rfl HO_236001.out); (case side6 => exact Kd.R_tight rfl HO_6.out); rintro e w52 ⟨v245, v248, rfl, ho0, ho1, hy0, hb, hkp⟩; have n_ := A7_ (Kd.R_reok rfl hy0 (fun k_ e_ => HO_6.out.1 k_ e_)) (blk_kept zq42_ hkp (fun hs_ => Or.elim hs_ (fun e_ => (fun e_ => (Kd.R_ne HO_236000.out BK232.out (by decide)) e_) e_) (fun e_ => Or.elim e_ (fun e_ => (fun e_ => (Kd.R_ne HO_236001.out BK232.out (by decide)) e_) e_) (fun e_ => (fun e_ => (Kd.R_ne HO_6.out BK232.out (by decide)) e_) e_)))) (blk_kept zq43_ hkp (fun hs_ => Or.elim hs_ (fun e_ => (fun e_ => (Kd.R_ne HO_236000.out BK235.out (by decide)) e_) e_) (fun e_ => Or.elim e_ (fun e_ => (fun e_ => (Kd.R_ne HO_236001.out BK235.out (by decide)) e_) e_) (fun e_ => (fun e_ => (Kd.R_ne HO_6.out BK235.out (by decide)) e_) e_)))) (blk_kept zq44_ hkp (fun hs_ => Or.elim hs_ (fun e_ => (fun e_ => (Kd.R_ne HO_236000.out BK241.out (by decide)) e_) e_) (fun e_ => Or.elim e_ (fun e_ => (fun e_ => (Kd.R_ne HO_236001.out BK241.out (by decide)) e_) e_) (fun e_ => (fun e_ => (Kd.R_ne HO_6.out BK241.out (by decide)) e_) e_)))) (Kd.R_mono (ok' := fun k_ => True) ho0 (fun k_ hk_ => trivial)) (Kd.R_mono (ok' := fun k_ => True) ho1 (fun k_ hk_ => trivial)) (hb); clear HO_6 BK232 BK235 BK241 HB HO_236000 HO_236001; obtain ⟨HO_6, BK232, BK235, BK241, HO246, HO249, HB⟩ := n_; (try clear hb); (try clear hkp); (try clear ho0); (try clear ho1); (try clear hy0); (try clear A40); obtain ⟨Ao53, co53, eo53⟩ := Kd.R_slice HO246.out; subst eo53; have hcz54_0 := bc0_ BK235.out; have hcz54_1 := bc1_ BK235.out; have hcz54_2 := bc2_ BK235.out; have hcz54_3 := bc3_ BK235.out; have hfz54_0 := blk_frozen BK235.out 0; have hfz54_1 := blk_frozen BK235.out 1; have hfz54_2 := blk_frozen BK235.out 2; have hfz54_3 := blk_frozen BK235.out 3; obtain ⟨Ao55, co55, eo55⟩ := Kd.R_slice HO249.out; subst eo55)))
             go_roundg kj16
             case measure => have := HJ2.out; have := HK2.out; have := HJ16.out; omega
             case rel => exact ⟨(t252), (wrap64 (x7_2 + 1)), (t244), (t247), (t250), (t251), (.slice Ao53 t244.length co53), (.slice Ao55 t247.length co55), zq76_, H', ⟨zq78_⟩, ⟨by (with_reducible repeat (first | apply Kd.R_alloc | apply Kd.R_drewN | apply Kd.R_drew)); exact Kd.R_mono (Kd.R_far (p := ⟨gb235, 3, none⟩) (Kd.R_far (p := ⟨gb235, 2, none⟩) (Kd.R_far (p := ⟨gb235, 1, none⟩) (Kd.R_far (p := ⟨gb235, 0, none⟩) (Kd.R_types HO_6.out BK235.out (by decide)) (fun _ hk => hk.2) (.slice Ao53 t244.length co53)) (fun _ hk => hk.2) (.slice Ao55 t247.length co55)) (fun _ hk => hk.2) (.int .i64 t250)) (fun _ hk => hk.2) (.int .i64 t251)) (fun _ hk => trivial)⟩, ⟨by (with_reducible repeat (first | apply Kd.R_alloc | apply Kd.R_drewN | apply Kd.R_drew)); exact Kd.R_mono (Kd.R_far (p := ⟨gb235, 3, none⟩) (Kd.R_far (p := ⟨gb235, 2, none⟩) (Kd.R_far (p := ⟨gb235, 1, none⟩) (Kd.R_far (p := ⟨gb235, 0, none⟩) (Kd.R_types HO246.out BK235.out (by decide)) (fun _ hk => hk.2) (.slice Ao53 t244.length co53)) (fun _ hk => hk.2) (.slice Ao55 t247.length co55)) (fun _ hk => hk.2) (.int .i64 t250)) (fun _ hk => hk.2) (.int .i64 t251)) (fun _ hk => trivial)⟩, ⟨by (with_reducible repeat (first | apply Kd.R_alloc | apply Kd.R_drewN | apply Kd.R_drew)); exact Kd.R_mono (Kd.R_far (p := ⟨gb235, 3, none⟩) (Kd.R_far (p := ⟨gb235, 2, none⟩) (Kd.R_far (p := ⟨gb235, 1, none⟩) (Kd.R_far (p := ⟨gb235, 0, none⟩) (Kd.R_types HO249.out BK235.out (by decide)) (fun _ hk => hk.2) (.slice Ao53 t244.length co53)) (fun _ hk => hk.2) (.slice Ao55 t247.length co55)) (fun _ hk => hk.2) (.int .i64 t250)) (fun _ hk => hk.2) (.int .i64 t251)) (fun _ hk => trivial)⟩, ⟨zq60_⟩, ⟨by (with_reducible repeat (first | refine blk_drewN ?_ _ | refine blk_drew ?_ | refine blk_alloc ?_ _)); refine blk_put (cs := #[.slice Ao53 t244.length co53, .slice Ao55 t247.length co55, .int .i64 t250, .int .i64 x236003_2]) ?_ 3 _ rfl; (with_reducible repeat (first | refine blk_drewN ?_ _ | refine blk_drew ?_ | refine blk_alloc ?_ _)); refine blk_put (cs := #[.slice Ao53 t244.length co53, .slice Ao55 t247.length co55, .int .i64 x236002_2, .int .i64 x236003_2]) ?_ 2 _ rfl; (with_reducible repeat (first | refine blk_drewN ?_ _ | refine blk_drew ?_ | refine blk_alloc ?_ _)); refine blk_put (cs := #[.slice Ao53 t244.length co53, .slice Ao50 x236001_2.length co50, .int .i64 x236002_2, .int .i64 x236003_2]) ?_ 1 _ rfl; (with_reducible repeat (first | refine blk_drewN ?_ _ | refine blk_drew ?_ | refine blk_alloc ?_ _)); refine blk_put (cs := #[.slice Ao49 x236000_2.length co49, .slice Ao50 x236001_2.length co50, .int .i64 x236002_2, .int .i64 x236003_2]) ?_ 0 _ rfl; (with_reducible repeat (first | refine blk_drewN ?_ _ | refine blk_drew ?_ | refine blk_alloc ?_ _)); exact BK235.out⟩, ⟨zq8d_⟩⟩
           ·rw [if_neg c23] at H
            exact absurd H (by simp)
          ·rw [if_neg c22] at H
           exact absurd H (by simp)
         ·as_aux_lemma =>
           replace c21 := Bool.eq_false_iff.mpr c21
           subst c21
           rw [if_neg (show ¬ (false = true) by decide)] at H
           by_cases c56 : x236003_2 = 0
           ·rw [if_pos c56] at H
            have c56b0 : (x236003_2 == 0) = true := beq_iff_eq.mpr c56
            have c56b1 : (x236003_2 != 0) = false := bne_eq_false_iff_eq.mpr c56
            clear c56
            by_cases c57 : 0 < (x6_2.length : Int)
            ·rw [if_pos c57] at H
             have c57b0 : decide (0 < (x6_2.length : Int)) = true := decide_eq_true c57
             have c57b1 : decide (0 < x6_2.length) = true := decide_eq_true (by omega)
             clear c57
             simp only [Option.some.injEq, Prod.mk.injEq] at H
             obtain ⟨rfl, rfl, rfl, rfl⟩ := H
             have hnb58 := NB235_232.out
             have hnc58 := NB232_235.out
             have hcz59_0 : wc.cell? ⟨gb235, 0, none⟩ = some (u236000) := (blk_cell BK235.out 0).trans rfl
             have hcz59_1 : wc.cell? ⟨gb235, 1, none⟩ = some (u236001) := (blk_cell BK235.out 1).trans rfl
             have hcz59_2 := bc2_ BK235.out
             have hcz59_3 := bc3_ BK235.out
             have hfz59_0 := blk_frozen BK235.out 0
             have hfz59_1 := blk_frozen BK235.out 1
             have hfz59_2 := blk_frozen BK235.out 2
             have hfz59_3 := blk_frozen BK235.out 3
             obtain ⟨Ao60, co60, eo60⟩ := Kd.R_slice HO_6.out
             subst eo60
             have p239 : 0 ≤ (0 : Int) := (by omega)
             have q239 : 0 < (x6_2.length : Int) := of_decide_eq_true zq71_
             obtain ⟨ad239, e239, hx239_0⟩ := Kd.at_int (Kd.R_reads' HO_6.out).2.2 0 p239 q239
             cases e239
             have qi239 : (0 < x6_2.length) = True := eq_true (by omega)
             (try rw [show ((0 : Int)).toNat = 0 from rfl] at hx239_0)
             (try rw [Addr.add_zero'] at hx239_0)
             replace p239 := eq_true p239
             replace q239 := eq_true q239
             obtain ⟨Ao61, co61, eo61⟩ := Kd.R_slice HO_236000.out
             subst eo61
             have hcz62_0 := bc0_ BK232.out
             have hcz62_1 := bc1_ BK232.out
             have hcz62_2 := bc2_ BK232.out
             have hcz62_3 := bc3_ BK232.out
             have hfz62_0 := blk_frozen BK232.out 0
             have hfz62_1 := blk_frozen BK232.out 1
             have hfz62_2 := blk_frozen BK232.out 2
             have hfz62_3 := blk_frozen BK232.out 3
             obtain ⟨Ao63, co63, eo63⟩ := Kd.R_slice HO_236001.out
             subst eo63
             go_wp2
             repeat (go_quiet (fail); try go_wp2)
             refine bodyPost_ret (results_cell_row rfl _ _ gb232 30 #[.slice Ao61 x236000_2.length co61, .slice Ao63 x236001_2.length co63, .int .i64 (rd x6_2 0), .int .i64 x236003_2] (0, 0) _ rfl (by (with_reducible repeat (first | refine blk_drewN ?_ _ | refine blk_drew ?_ | refine blk_alloc ?_ _)); refine blk_put (cs := #[.slice Ao61 x236000_2.length co61, .slice Ao63 x236001_2.length co63, .int .i64 (rd x6_2 0), .int .i64 0]) ?_ 3 _ rfl; (with_reducible repeat (first | refine blk_drewN ?_ _ | refine blk_drew ?_ | refine blk_alloc ?_ _)); refine blk_put (cs := #[.slice Ao61 x236000_2.length co61, .slice Ao63 x236001_2.length co63, .int .i64 0, .int .i64 0]) ?_ 2 _ rfl; (with_reducible repeat (first | refine blk_drewN ?_ _ | refine blk_drew ?_ | refine blk_alloc ?_ _)); refine blk_put (cs := #[.slice Ao61 x236000_2.length co61, .slice none 0 0, .int .i64 0, .int .i64 0]) ?_ 1 _ rfl; (with_reducible repeat (first | refine blk_drewN ?_ _ | refine blk_drew ?_ | refine blk_alloc ?_ _)); refine blk_put (cs := #[.slice none 0 0, .slice none 0 0, .int .i64 0, .int .i64 0]) ?_ 0 _ rfl; (with_reducible repeat (first | refine blk_drewN ?_ _ | refine blk_drew ?_ | refine blk_alloc ?_ _)); refine blk_far ?_ NB232_235.out _; (with_reducible repeat (first | refine blk_drewN ?_ _ | refine blk_drew ?_ | refine blk_alloc ?_ _)); exact BK232.out) Try.underlying30 rfl (by kernel_rfl)) rfl ?_
             exact ⟨_, _, zq75_, by (with_reducible repeat (first | apply Kd.R_alloc | apply Kd.R_drewN | apply Kd.R_drew)); exact Kd.R_mono (Kd.R_far (p := ⟨gb232, 3, none⟩) (Kd.R_far (p := ⟨gb232, 2, none⟩) (Kd.R_far (p := ⟨gb232, 1, none⟩) (Kd.R_far (p := ⟨gb232, 0, none⟩) (Kd.R_far (p := ⟨gb235, 2, none⟩) (Kd.R_types (Kd.R_types HO_236000.out BK235.out (by decide)) BK232.out (by decide)) (fun _ hk => hk.1.2) (.int .i64 (rd x6_2 0))) (fun _ hk => hk.2) (.slice Ao61 x236000_2.length co61)) (fun _ hk => hk.2) (.slice Ao63 x236001_2.length co63)) (fun _ hk => hk.2) (.int .i64 (rd x6_2 0))) (fun _ hk => hk.2) (.int .i64 x236003_2)) (fun _ hk => trivial), by (with_reducible repeat (first | apply Kd.R_alloc | apply Kd.R_drewN | apply Kd.R_drew)); exact Kd.R_mono (Kd.R_far (p := ⟨gb232, 3, none⟩) (Kd.R_far (p := ⟨gb232, 2, none⟩) (Kd.R_far (p := ⟨gb232, 1, none⟩) (Kd.R_far (p := ⟨gb232, 0, none⟩) (Kd.R_far (p := ⟨gb235, 2, none⟩) (Kd.R_types (Kd.R_types HO_236001.out BK235.out (by decide)) BK232.out (by decide)) (fun _ hk => hk.1.2) (.int .i64 (rd x6_2 0))) (fun _ hk => hk.2) (.slice Ao61 x236000_2.length co61)) (fun _ hk => hk.2) (.slice Ao63 x236001_2.length co63)) (fun _ hk => hk.2) (.int .i64 (rd x6_2 0))) (fun _ hk => hk.2) (.int .i64 x236003_2)) (fun _ hk => trivial), zq8e_⟩
            ·rw [if_neg c57] at H
             exact absurd H (by simp)
           ·rw [if_neg c56] at H
            have c56b0 : (x236003_2 == 0) = false := beq_eq_false_iff_ne.mpr c56
            have c56b1 : (x236003_2 != 0) = true := bne_iff_ne.mpr c56
            simp only [Option.some.injEq, Prod.mk.injEq] at H
            obtain ⟨rfl, rfl, rfl, rfl⟩ := H
            have hnb64 := NB235_232.out
            have hnc64 := NB232_235.out
            have hcz65_0 : wc.cell? ⟨gb235, 0, none⟩ = some (u236000) := (blk_cell BK235.out 0).trans rfl
            have hcz65_1 : wc.cell? ⟨gb235, 1, none⟩ = some (u236001) := (blk_cell BK235.out 1).trans rfl
            have hcz65_2 := bc2_ BK235.out
            have hcz65_3 := bc3_ BK235.out
            have hfz65_0 := blk_frozen BK235.out 0
            have hfz65_1 := blk_frozen BK235.out 1
            have hfz65_2 := blk_frozen BK235.out 2
            have hfz65_3 := blk_frozen BK235.out 3
            obtain ⟨Ao66, co66, eo66⟩ := Kd.R_slice HO_236000.out
            subst eo66
            have hcz67_0 := bc0_ BK232.out
            have hcz67_1 := bc1_ BK232.out
            have hcz67_2 := bc2_ BK232.out
            have hcz67_3 := bc3_ BK232.out
            have hfz67_0 := blk_frozen BK232.out 0
            have hfz67_1 := blk_frozen BK232.out 1
            have hfz67_2 := blk_frozen BK232.out 2
            have hfz67_3 := blk_frozen BK232.out 3
            go_wp2
            repeat (go_quiet (fail); try go_wp2)
            refine bodyPost_ret (results_cell_row rfl _ _ gb232 30 #[.slice Ao66 x236000_2.length co66, .slice none 0 0, .int .i64 x236002_2, .int .i64 x236003_2] (0, 0) _ rfl (by (with_reducible repeat (first | refine blk_drewN ?_ _ | refine blk_drew ?_ | refine blk_alloc ?_ _)); refine blk_put (cs := #[.slice Ao66 x236000_2.length co66, .slice none 0 0, .int .i64 x236002_2, .int .i64 0]) ?_ 3 _ rfl; (with_reducible repeat (first | refine blk_drewN ?_ _ | refine blk_drew ?_ | refine blk_alloc ?_ _)); refine blk_put (cs := #[.slice Ao66 x236000_2.length co66, .slice none 0 0, .int .i64 0, .int .i64 0]) ?_ 2 _ rfl; (with_reducible repeat (first | refine blk_drewN ?_ _ | refine blk_drew ?_ | refine blk_alloc ?_ _)); refine blk_put (cs := #[.slice Ao66 x236000_2.length co66, .slice none 0 0, .int .i64 0, .int .i64 0]) ?_ 1 _ rfl; (with_reducible repeat (first | refine blk_drewN ?_ _ | refine blk_drew ?_ | refine blk_alloc ?_ _)); refine blk_put (cs := #[.slice none 0 0, .slice none 0 0, .int .i64 0, .int .i64 0]) ?_ 0 _ rfl; (with_reducible repeat (first | refine blk_drewN ?_ _ | refine blk_drew ?_ | refine blk_alloc ?_ _)); refine blk_far ?_ NB232_235.out _; (with_reducible repeat (first | refine blk_drewN ?_ _ | refine blk_drew ?_ | refine blk_alloc ?_ _)); exact BK232.out) Try.underlying30 rfl (by kernel_rfl)) rfl ?_
            exact ⟨_, _, zq75_, by (with_reducible repeat (first | apply Kd.R_alloc | apply Kd.R_drewN | apply Kd.R_drew)); exact Kd.R_mono (Kd.R_far (p := ⟨gb232, 3, none⟩) (Kd.R_far (p := ⟨gb232, 2, none⟩) (Kd.R_far (p := ⟨gb232, 1, none⟩) (Kd.R_far (p := ⟨gb232, 0, none⟩) (Kd.R_far (p := ⟨gb235, 1, none⟩) (Kd.R_types (Kd.R_types HO_236000.out BK235.out (by decide)) BK232.out (by decide)) (fun _ hk => hk.1.2) (.slice none 0 0)) (fun _ hk => hk.2) (.slice Ao66 x236000_2.length co66)) (fun _ hk => hk.2) (.slice none 0 0)) (fun _ hk => hk.2) (.int .i64 x236002_2)) (fun _ hk => hk.2) (.int .i64 x236003_2)) (fun _ hk => trivial), zq72_, zq8e_⟩
    ·rw [if_neg c11] at H
     exact absurd H (by simp)

/-! ### laws_szBoxS: function 29 -/
def laws_szBoxS.f (l0 : List (S101)) (a1 : Int) : Option (Int) := if (wrap64 (a1 - (l0.length : Int))) < 0 then (some (-1)) else (some (wrap64 (a1 - (l0.length : Int))))
set_option maxHeartbeats 8000000 in
set_option maxRecDepth 100000 in
theorem laws_szBoxS.calls (A0 : Option Addr) (c0 : Nat) (l0 : List (S101)) (a1 : Int) (r : Int) (w : World) (hr0 : Kd.C k101 w A0 l0.length l0) (hc0 : l0.length ≤ c0) (h : laws_szBoxS.f l0 a1 = some r) :
  Calls Try.prog 29 #[.slice A0 l0.length c0, .int .i64 a1] w fun e w' => e = .returned (.int .i64 r) ∧ Drawn0 w w' := by
 have HR0 := Aside0.mk hr0
 have HC0 := Aside0.mk hc0
 clear hr0 hc0
 have H : (if (wrap64 (a1 - (l0.length : Int))) < 0 then (some (-1)) else (some (wrap64 (a1 - (l0.length : Int))))) = some r := h
 clear h
 by_cases c3 : (wrap64 (a1 - (l0.length : Int))) < 0
 ·rw [if_pos c3] at H
  have c3b0 : decide ((wrap64 (a1 - (l0.length : Int))) < 0) = true := decide_eq_true c3
  clear c3
  obtain rfl := Option.some.inj H
  go_enter Try.func29, Try.ntmps29
  go_wp2
  go_ret
  exact ⟨zq76_, zqbb_⟩
 ·rw [if_neg c3] at H
  have c3b0 : decide ((wrap64 (a1 - (l0.length : Int))) < 0) = false := decide_eq_false c3
  clear c3
  obtain rfl := Option.some.inj H
  go_enter Try.func29, Try.ntmps29
  go_wp2
  go_ret
  exact ⟨zq76_, zqbb_⟩

/-! ### laws_szInsS: function 30 -/
def laws_szInsS.f (l0 : List (S103)) (a1 : Int) : Option (Int) := if (wrap64 (a1 - (l0.length : Int))) < 0 then (some (-1)) else (some (wrap64 (a1 - (l0.length : Int))))
set_option maxHeartbeats 8000000 in
set_option maxRecDepth 100000 in
theorem laws_szInsS.calls (A0 : Option Addr) (c0 : Nat) (l0 : List (S103)) (a1 : Int) (r : Int) (w : World) (hr0 : Kd.C k103 w A0 l0.length l0) (hc0 : l0.length ≤ c0) (h : laws_szInsS.f l0 a1 = some r) :
  Calls Try.prog 30 #[.slice A0 l0.length c0, .int .i64 a1] w fun e w' => e = .returned (.int .i64 r) ∧ Drawn0 w w' := by
 have HR0 := Aside0.mk hr0
 have HC0 := Aside0.mk hc0
 clear hr0 hc0
 have H : (if (wrap64 (a1 - (l0.length : Int))) < 0 then (some (-1)) else (some (wrap64 (a1 - (l0.length : Int))))) = some r := h
 clear h
 by_cases c3 : (wrap64 (a1 - (l0.length : Int))) < 0
 ·rw [if_pos c3] at H
  have c3b0 : decide ((wrap64 (a1 - (l0.length : Int))) < 0) = true := decide_eq_true c3
  clear c3
  obtain rfl := Option.some.inj H
  go_enter Try.func30, Try.ntmps30
  go_wp2
  go_ret
  exact ⟨zq76_, zqbb_⟩
 ·rw [if_neg c3] at H
  have c3b0 : decide ((wrap64 (a1 - (l0.length : Int))) < 0) = false := decide_eq_false c3
  clear c3
  obtain rfl := Option.some.inj H
  go_enter Try.func30, Try.ntmps30
  go_wp2
  go_ret
  exact ⟨zq76_, zqbb_⟩

/-! ### laws_toBox: function 80 -/
def laws_toBox.f (a0_0 : Int) (a0_1 : Int) : Option (Int × Int) := some (a0_0, a0_1)
set_option maxHeartbeats 8000000 in
set_option maxRecDepth 100000 in
theorem laws_toBox.calls (a0_0 : Int) (a0_1 : Int) (r1 : Int) (r2 : Int) (w : World) (h : laws_toBox.f a0_0 a0_1 = some (r1, r2)) :
  Calls Try.prog 80 #[.agg #[.int .i64 a0_0, .int .i64 a0_1]] w fun e w' => e = .returned (.agg #[.int .i64 r1, .int .i64 r2]) ∧ Below w.heap.size w w' := by
 have hu101 := Try.underlying101
 have hu46 := Try.underlying46
 have HB := Aside0.mk (Below.refl w.heap.size w)
 have H : (some (a0_0, a0_1)) = some (r1, r2) := h
 clear h
 simp only [Option.some.injEq, Prod.mk.injEq] at H
 obtain ⟨rfl, rfl⟩ := H
 go_enter Try.func80, Try.ntmps80
 go_wp2_with (first | ((with_reducible refine gate_dst (N := 1) rfl ?_); refine bxe_ (N := 1) (cs := #[.int .i64 a0_0, .int .i64 a0_1]) (t := 101) ?_; intro gb253 hg w2 hbox hb; have n_ := A4_ (below_step zqa3_ hb) (hbox) ((zqd6_ : w.heap.size ≤ gb253)) ((zqd6_ : w.heap.size ≤ gb253)); clear HB; obtain ⟨HB, BK253, GW253, GE253⟩ := n_; clear hb hbox hg) | ((with_reducible refine gate_dst (N := 2) rfl ?_); refine bxe_ (N := 2) (cs := #[.int .i64 0, .int .i64 0]) (t := 46) ?_; intro gb254 hg w3 hbox hb; have n_ := A7_ (blk_below (g := gb253) (o := .cells #[.int .i64 a0_0, .int .i64 a0_1] 101 (0, 0)) zq45_ hb) (below_step zq91_ hb) (hbox) ((by rw [hg]; exact (below_size zq91_) : w.heap.size ≤ gb254)) ((by rw [hg]; exact (below_size zq91_) : w.heap.size ≤ gb254)) ((zqed_ : gb253 ≠ gb254)) ((zqde_ : gb254 ≠ gb253)); clear BK253 HB; obtain ⟨BK253, HB, BK254, GW254, GE254, NB253_254, NB254_253⟩ := n_; clear hb hbox hg) | ((with_reducible refine gate_dst (N := 3) rfl ?_); refine bxe_ (N := 3) (cs := #[.int .i64 0, .int .i64 0]) (t := 46) ?_; intro gb255 hg w4 hbox hb; have n0_ := Aside0.mk (blk_below (g := gb253) (o := .cells #[.int .i64 a0_0, .int .i64 a0_1] 101 (0, 0)) zq45_ hb); have n1_ := Aside0.mk (blk_below (g := gb254) (o := .cells #[.int .i64 0, .int .i64 0] 46 (0, 0)) zq46_ hb); have n2_ := Aside0.mk (below_step zq90_ hb); have n3_ := Aside0.mk (hbox); have n4_ := Aside0.mk ((by rw [hg]; exact (below_size zq90_) : w.heap.size ≤ gb255)); have n5_ := Aside0.mk ((by rw [hg]; exact (below_size zq90_) : w.heap.size ≤ gb255)); have n6_ := Aside0.mk ((zqed_ : gb253 ≠ gb255)); have n7_ := Aside0.mk ((zqde_ : gb255 ≠ gb253)); have n8_ := Aside0.mk ((by rw [hg]; exact Nat.ne_of_lt (blk_lt (g := gb254) (o := .cells #[.int .i64 0, .int .i64 0] 46 (0, 0)) zq46_) : gb254 ≠ gb255)); have n9_ := Aside0.mk ((by rw [hg]; exact Nat.ne_of_gt (blk_lt (g := gb254) (o := .cells #[.int .i64 0, .int .i64 0] 46 (0, 0)) zq46_) : gb255 ≠ gb254)); clear BK253; clear BK254; clear HB; have BK253 := n0_; have BK254 := n1_; have HB := n2_; have BK255 := n3_; have GW255 := n4_; have GE255 := n5_; have NB253_255 := n6_; have NB255_253 := n7_; have NB254_255 := n8_; have NB255_254 := n9_; clear n0_ n1_ n2_ n3_ n4_ n5_ n6_ n7_ n8_ n9_; clear hb hbox hg; have hnb5 := NB253_254.out; have hnc5 := NB254_253.out; have hnb6 := NB253_255.out; have hnc6 := NB255_253.out; have hcz7_0 := bc0_ BK253.out; have hcz7_1 := bc1_ BK253.out; have hfz7_0 := blk_frozen BK253.out 0; have hfz7_1 := blk_frozen BK253.out 1; have hnb8 := NB255_254.out; have hnc8 := NB254_255.out; have hcz9_0 := bc0_ BK255.out; have hcz9_1 := bc1_ BK255.out; have hfz9_0 := blk_frozen BK255.out 0; have hfz9_1 := blk_frozen BK255.out 1; have hcz10_0 := bc0_ BK254.out; have hcz10_1 := bc1_ BK254.out; have hfz10_0 := blk_frozen BK254.out 0; have hfz10_1 := blk_frozen BK254.out 1))
 refine bodyPost_ret (results_cell_row rfl _ _ gb254 46 #[.int .i64 a0_0, .int .i64 a0_1] (0, 0) _ rfl (by (with_reducible repeat (first | refine blk_drewN ?_ _ | refine blk_drew ?_ | refine blk_alloc ?_ _)); refine blk_put (cs := #[.int .i64 a0_0, .int .i64 0]) ?_ 1 _ rfl; (with_reducible repeat (first | refine blk_drewN ?_ _ | refine blk_drew ?_ | refine blk_alloc ?_ _)); refine blk_put (cs := #[.int .i64 0, .int .i64 0]) ?_ 0 _ rfl; (with_reducible repeat (first | refine blk_drewN ?_ _ | refine blk_drew ?_ | refine blk_alloc ?_ _)); refine blk_far ?_ NB254_255.out _; (with_reducible repeat (first | refine blk_drewN ?_ _ | refine blk_drew ?_ | refine blk_alloc ?_ _)); refine blk_far ?_ NB254_255.out _; (with_reducible repeat (first | refine blk_drewN ?_ _ | refine blk_drew ?_ | refine blk_alloc ?_ _)); exact BK254.out) Try.underlying46 rfl (by kernel_rfl)) rfl ?_
 exact ⟨zq75_, by repeat (first | (with_reducible first | exact HB.out | apply below_alloc | apply pw_below_drewN | apply below_drew1 | refine below_set ?_ GE253.out | refine below_set ?_ GE254.out | refine below_set ?_ GE255.out) | exact HB.out)⟩

/-! ### laws_toBoxS: function 32 -/
def laws_toBoxS.l0 : Nat → List (S101) → List (S46) → Int → Option ((List (S46)))
 | 0, _, _, _ => none
 | k + 1, x0, x3, x4 => if x4 < (x0.length : Int) then (if 0 ≤ x4 then ((laws_toBox.f ((rd_T101 x0 x4).f0) ((rd_T101 x0 x4).f1)).bind fun bt260 => (if x4 < (x3.length : Int) then (laws_toBoxS.l0 k x0 (x3.set (x4 : Int).toNat (⟨bt260.1, bt260.2⟩ : S46)) (wrap64 (x4 + 1))) else (none))) else (none)) else (some x3)
def laws_toBoxS.f (k : Nat) (l0 : List (S101)) : Option ((List (S46))) := if 0 ≤ (l0.length : Int) then (if ((l0.length : Int) : Int).toNat ≤ 17592186044416 then (laws_toBoxS.l0 k l0 (List.replicate ((l0.length : Int) : Int).toNat z46) 0) else (none)) else (none)
theorem laws_toBoxS.mono_l : ∀ k, (∀ y0 y1 y2, LeO (laws_toBoxS.l0 k y0 y1 y2) (laws_toBoxS.l0 (k + 1) y0 y1 y2))
 | 0 => fun _ _ _ r h => by simp [laws_toBoxS.l0] at h
 | k + 1 => by
  have ih0 := laws_toBoxS.mono_l k
  ·intro y0 y1 y2
   unfold laws_toBoxS.l0
   repeat' first
   | (with_reducible exact ih0 _ _ _)
   | (with_reducible exact LeO.refl _)
   | (with_reducible exact LeO.none _)
   | (with_reducible refine LeO.ite ?_ ?_)
   | (with_reducible refine LeO.bind ?_ (fun _ => ?_))
   | exact ih0 _ _ _
   | exact LeO.none _
   | refine LeO.ite ?_ ?_
   | refine LeO.bind ?_ (fun _ => ?_)
theorem laws_toBoxS.mono : ∀ a0 k, LeO (laws_toBoxS.f k a0) (laws_toBoxS.f (k + 1) a0) := by
 intro a0 k
 have ih0 := laws_toBoxS.mono_l k
 unfold laws_toBoxS.f
 repeat' first
   | (with_reducible exact ih0 _ _ _)
   | (with_reducible exact LeO.refl _)
   | (with_reducible exact LeO.none _)
   | (with_reducible refine LeO.ite ?_ ?_)
   | (with_reducible refine LeO.bind ?_ (fun _ => ?_))
   | exact ih0 _ _ _
   | exact LeO.none _
   | refine LeO.ite ?_ ?_
   | refine LeO.bind ?_ (fun _ => ?_)
set_option maxHeartbeats 8000000 in
set_option maxRecDepth 100000 in
theorem laws_toBoxS.calls (k : Nat) (A0 : Option Addr) (c0 : Nat) (l0 : List (S101)) (r : List (S46)) (w : World) (hr0 : Kd.C k101 w A0 l0.length l0) (hc0 : l0.length ≤ c0) (h : laws_toBoxS.f k l0 = some r) :
  Calls Try.prog 32 #[.slice A0 l0.length c0] w fun e w' => ∃ v0_ : Value, e = .returned (v0_) ∧ Kd.R k46 46 w' w.heap.size (fun _ => True) v0_ r ∧ Below w.heap.size w w' := by
 have hu101 := Try.underlying101
 have hu46 := Try.underlying46
 have HR0 := Aside0.mk hr0
 have HC0 := Aside0.mk hc0
 clear hr0 hc0
 have HB := Aside0.mk (Below.refl w.heap.size w)
 have H : (if 0 ≤ (l0.length : Int) then (if ((l0.length : Int) : Int).toNat ≤ 17592186044416 then (laws_toBoxS.l0 k l0 (List.replicate ((l0.length : Int) : Int).toNat z46) 0) else (none)) else (none)) = some r := h
 clear h
 by_cases c2 : 0 ≤ (l0.length : Int)
 ·rw [if_pos c2] at H
  have c2b0 := eq_true c2
  have c2b1 : decide (0 ≤ (l0.length : Int)) = true := decide_eq_true c2
  clear c2
  by_cases c3 : ((l0.length : Int) : Int).toNat ≤ 17592186044416
  ·rw [if_pos c3] at H
   have c3b0 := eq_true c3
   have c3b1 : decide (((l0.length : Int) : Int).toNat ≤ 17592186044416) = true := decide_eq_true c3
   clear c3
   obtain ⟨y256, hy256⟩ : ∃ y_ : List (S46), y_ = (List.replicate ((l0.length : Int) : Int).toNat z46) := ⟨_, rfl⟩
   replace H : (laws_toBoxS.l0 k l0 y256 0) = some r := by first | (rw [hy256]; with_reducible exact H) | (have H2_ := (Option.bind_some _ _).symm.trans H; rw [hy256]; with_reducible exact H2_) | (have H2_ := (Option.bind_some _ _).symm.trans H; with_reducible exact H2_) | with_reducible exact H | (rw [hy256]; exact H) | exact H
   have Ny256 := Aside0.mk hy256
   clear hy256
   have H' := Aside0.mk H
   clear H
   go_enter Try.func32, Try.ntmps32
   go_wp2_with (first | ((with_reducible refine gate_dst (N := 7) rfl ?_); refine Kd.R_make k46 _ 46 rfl (N := 7) rfl 23 _ _ rfl (l0.length : Int) rfl rfl Try.underlying23 (.agg #[(.int .i64 0), (.int .i64 0)]) 16 info46 rfl (by decide) (by omega) z46 (ok := fun _ => True) (okp := fun _ => True) (k46_mkM _ _ _ z46 ) (fun _ hk => hk) trivial (of_decide_eq_true zq71_) (Nat.le_trans (Nat.mul_le_mul_right _ (of_decide_eq_true zq71_ : (l0.length : Int).toNat ≤ 17592186044416)) (by omega)) (Below.refl _ _) (Nat.le_refl _) ?_; intro v257 w4 ho5 hb hg_ hnew_; clear hg_ hnew_; (first | rw [← Ny256.out] at ho5 | (simp only [Int.reduceToNat] at ho5; rw [← Ny256.out] at ho5)); have n_ := A2_ (Kd.R_lower ho5 (below_size zqa3_)) (below_step zqa3_ hb); clear HB; obtain ⟨HO258, HB⟩ := n_; clear hb ho5))
   go_loopg [4] k (fun kq v4 w' => ∃ (x3_1 : List (S46)) (x4_1 : Int), v4 = .int .i64 x4_1 ∧ Aside0 (laws_toBoxS.l0 kq l0 x3_1 x4_1 = some r) ∧ Aside0 (kq ≤ k) ∧ Aside0 (Kd.R k46 46 w' w.heap.size (fun _ => True) v257 x3_1) ∧ Aside0 (Below w.heap.size w w'))
   case atStart => exact ⟨(y256), (0), zq76_, H', ⟨Nat.le_refl _⟩, ⟨by (with_reducible repeat (first | apply Kd.R_alloc | apply Kd.R_drewN | apply Kd.R_drew)); exact HO258.out⟩, ⟨zqa3_⟩⟩
   case round =>
    clear H'
    try clear c2
    try clear c2b0
    try clear c2b1
    try clear p2
    try clear c3
    try clear c3b0
    try clear c3b1
    obtain ⟨x3_1, x4_1, rfl, HA, HK1, HO_3, HB⟩ := hrel
    cases gk with
    | zero => exact absurd HA.out (by simp [laws_toBoxS.l0])
    | succ k1 =>
     have H := HA.out
     clear HA
     simp only [laws_toBoxS.l0] at H
     by_cases c6 : x4_1 < (l0.length : Int)
     ·rw [if_pos c6] at H
      have c6b0 : decide (x4_1 < (l0.length : Int)) = true := decide_eq_true c6
      clear c6
      by_cases c7 : 0 ≤ x4_1
      ·rw [if_pos c7] at H
       have c7b0 : decide (0 ≤ x4_1) = true := decide_eq_true c7
       clear c7
       replace H := Option.bind_eq_some_iff.mp H
       obtain ⟨⟨t260, t261⟩, A80, H⟩ := H
       (try dsimp only at H)
       have A8 := Aside0.mk A80
       clear A80
       by_cases c9 : x4_1 < (x3_1.length : Int)
       ·rw [if_pos c9] at H
        have c9b0 : decide (x4_1 < (x3_1.length : Int)) = true := decide_eq_true c9
        clear c9
        obtain ⟨y262, hy262⟩ : ∃ y_ : List (S46), y_ = (x3_1.set (x4_1 : Int).toNat (⟨t260, t261⟩ : S46)) := ⟨_, rfl⟩
        replace H : (laws_toBoxS.l0 k1 l0 y262 (wrap64 (x4_1 + 1))) = some r := by first | (rw [hy262]; with_reducible exact H) | (have H2_ := (Option.bind_some _ _).symm.trans H; rw [hy262]; with_reducible exact H2_) | (have H2_ := (Option.bind_some _ _).symm.trans H; with_reducible exact H2_) | with_reducible exact H | (rw [hy262]; exact H) | exact H
        have Ny262 := Aside0.mk hy262
        clear hy262
        have H' := Aside0.mk H
        clear H
        have p259 : 0 ≤ (x4_1 : Int) := of_decide_eq_true zq71_
        have q259 : x4_1 < (l0.length : Int) := of_decide_eq_true zq71_
        obtain ⟨ad259, e259, hx259_0, hx259_1⟩ := at_T101 HR0.out x4_1 p259 q259
        cases e259
        replace hx259_0 := (HB.out.cell (World.block_lt_of_cell? w _ hx259_0)).trans hx259_0
        replace hx259_1 := (HB.out.cell (World.block_lt_of_cell? w _ hx259_1)).trans hx259_1
        replace p259 := eq_true p259
        replace q259 := eq_true q259
        go_wp2_with (first | ((with_reducible refine gate_callee (f := 80) rfl ?_); refine goesL_ (some 20) rfl rfl Try.func80 (by kernel_rfl) rfl #[.agg #[.int .i64 ((rd_T101 l0 x4_1).f0), .int .i64 ((rd_T101 l0 x4_1).f1)]] rfl zq1_ ?_; (with_reducible refine (laws_toBox.calls ((rd_T101 l0 x4_1).f0) ((rd_T101 l0 x4_1).f1) t260 t261 _ A8.out).mono ?_); rintro e w11 ⟨rfl, hb⟩; refine ⟨_, rfl, ?_⟩; have n_ := A2_ (Kd.R_below zq2b_ hb) (below_step zqa3_ hb); clear HO_3 HB; obtain ⟨HO_3, HB⟩ := n_; (try clear hb); have p10 : 0 ≤ (x4_1 : Int) := of_decide_eq_true zq71_; have q10 : (x4_1 : Int) < ((x3_1.length : Int) : Int) := of_decide_eq_true zq71_; obtain ⟨go10, co10, eo10, gb10, gl10, cl10, HG10⟩ := Kd.R_form HO_3.out (by omega); (first | cases eo10 | (injection eo10 with ea_ en_ ec_; (first | subst ea_ | (injection ea_ with ea_; subst ea_)); subst ec_; clear en_)); have GB10 := Aside0.mk gb10; have GG10 := Aside0.mk HG10; clear gb10 gl10 HG10; obtain ⟨ce10, hcl10, hM10, hcc10, hfr10⟩ := Kd.R_elem HO_3.out z46 (x4_1 : Int) p10 q10; obtain rfl := k46_openM hM10; have hx10_0 : w11.cell? ⟨go10, (x4_1 : Int).toNat * 2, none⟩ = some (.int .i64 ((rd_T46 x3_1 x4_1).f0)) := hcc10 0 _ rfl; have hx10_1 : w11.cell? ⟨go10, (x4_1 : Int).toNat * 2 + 1, none⟩ = some (.int .i64 ((rd_T46 x3_1 x4_1).f1)) := hcc10 1 _ rfl; have hf10_0 : w11.frozen? ⟨go10, (x4_1 : Int).toNat * 2, none⟩ = false := hfr10 0; have hf10_1 : w11.frozen? ⟨go10, (x4_1 : Int).toNat * 2 + 1, none⟩ = false := hfr10 1; clear hcl10 hcc10 hfr10 hM10; replace p10 := eq_true p10; replace q10 := eq_true q10; have HX12 := Aside0.mk (show Kd.R k46 46 w11 w.heap.size (fun _ => True) (.slice (some ⟨go10, 0, none⟩) x3_1.length co10) x3_1 from zq2b_); obtain ⟨ce12, hcl12, hM12, hcc12, hfr12⟩ := Kd.R_elem HX12.out z46 (x4_1 : Int) (of_decide_eq_true zq71_) zqcb_; obtain rfl := k46_openM hM12; have HP12 := Kd.R_seg HX12.out (x4_1 : Int) (of_decide_eq_true zq71_) zqcb_ (seg := [.int .i64 t260, .int .i64 t261]) (j := 0) hcl12 hcc12 (show 2 ≤ 2 from by decide) (x' := (⟨t260, t261⟩ : S46)) (k46_mkM _ _ _ (⟨t260, t261⟩ : S46) ) (fun _ hk => hk); have hx12_0 := hcc12 0 _ rfl; (try simp only [show (k46).sz = 2 from rfl, Nat.mul_one, Nat.add_zero] at hx12_0); have hf12_0 := hfr12 0; (try simp only [show (k46).sz = 2 from rfl, Nat.mul_one, Nat.add_zero] at hf12_0); have hx12_1 := hcc12 1 _ rfl; (try simp only [show (k46).sz = 2 from rfl, Nat.mul_one, Nat.add_zero] at hx12_1); have hf12_1 := hfr12 1; (try simp only [show (k46).sz = 2 from rfl, Nat.mul_one, Nat.add_zero] at hf12_1); clear hcl12 hcc12 hfr12 hM12) | ((with_reducible refine gate_store (t := 46) (p := 21) rfl ?_); refine store_event (t := 46) (p := 21) (v := ?vo_w13) (w1 := ((w11.setCell ⟨go10, (x4_1 : Int).toNat * 2, none⟩ (.int .i64 t260)).setCell ⟨go10, (x4_1 : Int).toNat * 2 + 1, none⟩ (.int .i64 t261))) ?hg ?ho ?hn ?hr ?_; (case ho => rfl); (case hg => rfl); (case hn => rfl); (case hr => first | (go_simp; done) | (go_simp; rfl)); intro w13 hw; have hg : w11.grownBy w13 (some go10) := (by rw [hw]; exact HP12.2); have hp_ : Kd.R k46 46 w13 w.heap.size (fun _ => True) (.slice (some ⟨go10, 0, none⟩) x3_1.length co10) y262 := (by rw [hw, Ny262.out]; exact HP12.1); clear HP12; have n_ := A2_ (hp_) ((by rw [hw]; exact below_set (below_set (HB.out) GB10.out) GB10.out : Below w.heap.size w w13)); clear HO_3 HB; obtain ⟨HO_3, HB⟩ := n_; clear hg hw hp_))
        go_roundg k1
        case measure => have := HK1.out; omega
        case rel => exact ⟨(y262), (wrap64 (x4_1 + 1)), zq76_, H', ⟨by have := HK1.out; omega⟩, ⟨zq2b_⟩, ⟨zqa3_⟩⟩
       ·rw [if_neg c9] at H
        exact absurd H (by simp)
      ·rw [if_neg c7] at H
       exact absurd H (by simp)
     ·rw [if_neg c6] at H
      have c6b0 : decide (x4_1 < (l0.length : Int)) = false := decide_eq_false c6
      clear c6
      obtain rfl := Option.some.inj H
      go_wp2
      go_ret
      exact ⟨_, zq75_, zq2b_, zqa3_⟩
  ·rw [if_neg c3] at H
   exact absurd H (by simp)
 ·rw [if_neg c2] at H
  exact absurd H (by simp)

/-! ### laws_toIns: function 81 -/
def laws_toIns.f (a0_0 : Int) (a0_1 : Int) (a0_2 : Int) (a0_3 : Int) : Option (Int × Int × Int × Int) := some (a0_0, a0_1, a0_2, a0_3)
set_option maxHeartbeats 8000000 in
set_option maxRecDepth 100000 in
theorem laws_toIns.calls (a0_0 : Int) (a0_1 : Int) (a0_2 : Int) (a0_3 : Int) (r1 : Int) (r2 : Int) (r3 : Int) (r4 : Int) (w : World) (h : laws_toIns.f a0_0 a0_1 a0_2 a0_3 = some (r1, r2, r3, r4)) :
  Calls Try.prog 81 #[.agg #[.int .i64 a0_0, .int .i64 a0_1, .int .i64 a0_2, .int .i64 a0_3]] w fun e w' => e = .returned (.agg #[.int .i64 r1, .int .i64 r2, .int .i64 r3, .int .i64 r4]) ∧ Below w.heap.size w w' := by
 have hu103 := Try.underlying103
 have hu34 := Try.underlying34
 have HB := Aside0.mk (Below.refl w.heap.size w)
 have H : (some (a0_0, a0_1, a0_2, a0_3)) = some (r1, r2, r3, r4) := h
 clear h
 simp only [Option.some.injEq, Prod.mk.injEq] at H
 obtain ⟨rfl, rfl, rfl, rfl⟩ := H
 go_enter Try.func81, Try.ntmps81
 go_wp2_with (first | ((with_reducible refine gate_dst (N := 1) rfl ?_); refine bxe_ (N := 1) (cs := #[.int .i64 a0_0, .int .i64 a0_1, .int .i64 a0_2, .int .i64 a0_3]) (t := 103) ?_; intro gb263 hg w2 hbox hb; have n_ := A4_ (below_step zqa3_ hb) (hbox) ((zqd6_ : w.heap.size ≤ gb263)) ((zqd6_ : w.heap.size ≤ gb263)); clear HB; obtain ⟨HB, BK263, GW263, GE263⟩ := n_; clear hb hbox hg) | ((with_reducible refine gate_dst (N := 2) rfl ?_); refine bxe_ (N := 2) (cs := #[.int .i64 0, .int .i64 0, .int .i64 0, .int .i64 0]) (t := 34) ?_; intro gb264 hg w3 hbox hb; have n_ := A7_ (blk_below (g := gb263) (o := .cells #[.int .i64 a0_0, .int .i64 a0_1, .int .i64 a0_2, .int .i64 a0_3] 103 (0, 0)) zq47_ hb) (below_step zq93_ hb) (hbox) ((by rw [hg]; exact (below_size zq93_) : w.heap.size ≤ gb264)) ((by rw [hg]; exact (below_size zq93_) : w.heap.size ≤ gb264)) ((zqee_ : gb263 ≠ gb264)) ((zqdf_ : gb264 ≠ gb263)); clear BK263 HB; obtain ⟨BK263, HB, BK264, GW264, GE264, NB263_264, NB264_263⟩ := n_; clear hb hbox hg) | ((with_reducible refine gate_dst (N := 3) rfl ?_); refine bxe_ (N := 3) (cs := #[.int .i64 0, .int .i64 0, .int .i64 0, .int .i64 0]) (t := 34) ?_; intro gb265 hg w4 hbox hb; have n0_ := Aside0.mk (blk_below (g := gb263) (o := .cells #[.int .i64 a0_0, .int .i64 a0_1, .int .i64 a0_2, .int .i64 a0_3] 103 (0, 0)) zq47_ hb); have n1_ := Aside0.mk (blk_below (g := gb264) (o := .cells #[.int .i64 0, .int .i64 0, .int .i64 0, .int .i64 0] 34 (0, 0)) zq48_ hb); have n2_ := Aside0.mk (below_step zq92_ hb); have n3_ := Aside0.mk (hbox); have n4_ := Aside0.mk ((by rw [hg]; exact (below_size zq92_) : w.heap.size ≤ gb265)); have n5_ := Aside0.mk ((by rw [hg]; exact (below_size zq92_) : w.heap.size ≤ gb265)); have n6_ := Aside0.mk ((zqee_ : gb263 ≠ gb265)); have n7_ := Aside0.mk ((zqdf_ : gb265 ≠ gb263)); have n8_ := Aside0.mk ((by rw [hg]; exact Nat.ne_of_lt (blk_lt (g := gb264) (o := .cells #[.int .i64 0, .int .i64 0, .int .i64 0, .int .i64 0] 34 (0, 0)) zq48_) : gb264 ≠ gb265)); have n9_ := Aside0.mk ((by rw [hg]; exact Nat.ne_of_gt (blk_lt (g := gb264) (o := .cells #[.int .i64 0, .int .i64 0, .int .i64 0, .int .i64 0] 34 (0, 0)) zq48_) : gb265 ≠ gb264)); clear BK263; clear BK264; clear HB; have BK263 := n0_; have BK264 := n1_; have HB := n2_; have BK265 := n3_; have GW265 := n4_; have GE265 := n5_; have NB263_265 := n6_; have NB265_263 := n7_; have NB264_265 := n8_; have NB265_264 := n9_; clear n0_ n1_ n2_ n3_ n4_ n5_ n6_ n7_ n8_ n9_; clear hb hbox hg; have hnb5 := NB263_264.out; have hnc5 := NB264_263.out; have hnb6 := NB263_265.out; have hnc6 := NB265_263.out; have hcz7_0 := bc0_ BK263.out; have hcz7_1 := bc1_ BK263.out; have hcz7_2 := bc2_ BK263.out; have hcz7_3 := bc3_ BK263.out; have hfz7_0 := blk_frozen BK263.out 0; have hfz7_1 := blk_frozen BK263.out 1; have hfz7_2 := blk_frozen BK263.out 2; have hfz7_3 := blk_frozen BK263.out 3; have hnb8 := NB265_264.out; have hnc8 := NB264_265.out; have hcz9_0 := bc0_ BK265.out; have hcz9_1 := bc1_ BK265.out; have hcz9_2 := bc2_ BK265.out; have hcz9_3 := bc3_ BK265.out; have hfz9_0 := blk_frozen BK265.out 0; have hfz9_1 := blk_frozen BK265.out 1; have hfz9_2 := blk_frozen BK265.out 2; have hfz9_3 := blk_frozen BK265.out 3; have hcz10_0 := bc0_ BK264.out; have hcz10_1 := bc1_ BK264.out; have hcz10_2 := bc2_ BK264.out; have hcz10_3 := bc3_ BK264.out; have hfz10_0 := blk_frozen BK264.out 0; have hfz10_1 := blk_frozen BK264.out 1; have hfz10_2 := blk_frozen BK264.out 2; have hfz10_3 := blk_frozen BK264.out 3))
 refine bodyPost_ret (results_cell_row rfl _ _ gb264 34 #[.int .i64 a0_0, .int .i64 a0_1, .int .i64 a0_2, .int .i64 a0_3] (0, 0) _ rfl (by (with_reducible repeat (first | refine blk_drewN ?_ _ | refine blk_drew ?_ | refine blk_alloc ?_ _)); refine blk_put (cs := #[.int .i64 a0_0, .int .i64 a0_1, .int .i64 a0_2, .int .i64 0]) ?_ 3 _ rfl; (with_reducible repeat (first | refine blk_drewN ?_ _ | refine blk_drew ?_ | refine blk_alloc ?_ _)); refine blk_put (cs := #[.int .i64 a0_0, .int .i64 a0_1, .int .i64 0, .int .i64 0]) ?_ 2 _ rfl; (with_reducible repeat (first | refine blk_drewN ?_ _ | refine blk_drew ?_ | refine blk_alloc ?_ _)); refine blk_put (cs := #[.int .i64 a0_0, .int .i64 0, .int .i64 0, .int .i64 0]) ?_ 1 _ rfl; (with_reducible repeat (first | refine blk_drewN ?_ _ | refine blk_drew ?_ | refine blk_alloc ?_ _)); refine blk_put (cs := #[.int .i64 0, .int .i64 0, .int .i64 0, .int .i64 0]) ?_ 0 _ rfl; (with_reducible repeat (first | refine blk_drewN ?_ _ | refine blk_drew ?_ | refine blk_alloc ?_ _)); refine blk_far ?_ NB264_265.out _; (with_reducible repeat (first | refine blk_drewN ?_ _ | refine blk_drew ?_ | refine blk_alloc ?_ _)); refine blk_far ?_ NB264_265.out _; (with_reducible repeat (first | refine blk_drewN ?_ _ | refine blk_drew ?_ | refine blk_alloc ?_ _)); refine blk_far ?_ NB264_265.out _; (with_reducible repeat (first | refine blk_drewN ?_ _ | refine blk_drew ?_ | refine blk_alloc ?_ _)); refine blk_far ?_ NB264_265.out _; (with_reducible repeat (first | refine blk_drewN ?_ _ | refine blk_drew ?_ | refine blk_alloc ?_ _)); exact BK264.out) Try.underlying34 rfl (by kernel_rfl)) rfl ?_
 exact ⟨zq75_, by repeat (first | (with_reducible first | exact HB.out | apply below_alloc | apply pw_below_drewN | apply below_drew1 | refine below_set ?_ GE263.out | refine below_set ?_ GE264.out | refine below_set ?_ GE265.out) | exact HB.out)⟩

/-! ### laws_toInsS: function 33 -/
def laws_toInsS.l0 : Nat → List (S103) → List (S34) → Int → Option ((List (S34)))
 | 0, _, _, _ => none
 | k + 1, x0, x3, x4 => if x4 < (x0.length : Int) then (if 0 ≤ x4 then ((laws_toIns.f ((rd_T103 x0 x4).f0) ((rd_T103 x0 x4).f1) ((rd_T103 x0 x4).f2) ((rd_T103 x0 x4).f3)).bind fun bt270 => (if x4 < (x3.length : Int) then (laws_toInsS.l0 k x0 (x3.set (x4 : Int).toNat (⟨bt270.1, bt270.2.1, bt270.2.2.1, bt270.2.2.2⟩ : S34)) (wrap64 (x4 + 1))) else (none))) else (none)) else (some x3)
def laws_toInsS.f (k : Nat) (l0 : List (S103)) : Option ((List (S34))) := if 0 ≤ (l0.length : Int) then (if ((l0.length : Int) : Int).toNat ≤ 8796093022208 then (laws_toInsS.l0 k l0 (List.replicate ((l0.length : Int) : Int).toNat z34) 0) else (none)) else (none)
theorem laws_toInsS.mono_l : ∀ k, (∀ y0 y1 y2, LeO (laws_toInsS.l0 k y0 y1 y2) (laws_toInsS.l0 (k + 1) y0 y1 y2))
 | 0 => fun _ _ _ r h => by simp [laws_toInsS.l0] at h
 | k + 1 => by
  have ih0 := laws_toInsS.mono_l k
  ·intro y0 y1 y2
   unfold laws_toInsS.l0
   repeat' first
   | (with_reducible exact ih0 _ _ _)
   | (with_reducible exact LeO.refl _)
   | (with_reducible exact LeO.none _)
   | (with_reducible refine LeO.ite ?_ ?_)
   | (with_reducible refine LeO.bind ?_ (fun _ => ?_))
   | exact ih0 _ _ _
   | exact LeO.none _
   | refine LeO.ite ?_ ?_
   | refine LeO.bind ?_ (fun _ => ?_)
theorem laws_toInsS.mono : ∀ a0 k, LeO (laws_toInsS.f k a0) (laws_toInsS.f (k + 1) a0) := by
 intro a0 k
 have ih0 := laws_toInsS.mono_l k
 unfold laws_toInsS.f
 repeat' first
   | (with_reducible exact ih0 _ _ _)
   | (with_reducible exact LeO.refl _)
   | (with_reducible exact LeO.none _)
   | (with_reducible refine LeO.ite ?_ ?_)
   | (with_reducible refine LeO.bind ?_ (fun _ => ?_))
   | exact ih0 _ _ _
   | exact LeO.none _
   | refine LeO.ite ?_ ?_
   | refine LeO.bind ?_ (fun _ => ?_)
set_option maxHeartbeats 8000000 in
set_option maxRecDepth 100000 in
theorem laws_toInsS.calls (k : Nat) (A0 : Option Addr) (c0 : Nat) (l0 : List (S103)) (r : List (S34)) (w : World) (hr0 : Kd.C k103 w A0 l0.length l0) (hc0 : l0.length ≤ c0) (h : laws_toInsS.f k l0 = some r) :
  Calls Try.prog 33 #[.slice A0 l0.length c0] w fun e w' => ∃ v0_ : Value, e = .returned (v0_) ∧ Kd.R k34 34 w' w.heap.size (fun _ => True) v0_ r ∧ Below w.heap.size w w' := by
 have hu103 := Try.underlying103
 have hu34 := Try.underlying34
 have HR0 := Aside0.mk hr0
 have HC0 := Aside0.mk hc0
 clear hr0 hc0
 have HB := Aside0.mk (Below.refl w.heap.size w)
 have H : (if 0 ≤ (l0.length : Int) then (if ((l0.length : Int) : Int).toNat ≤ 8796093022208 then (laws_toInsS.l0 k l0 (List.replicate ((l0.length : Int) : Int).toNat z34) 0) else (none)) else (none)) = some r := h
 clear h
 by_cases c2 : 0 ≤ (l0.length : Int)
 ·rw [if_pos c2] at H
  have c2b0 := eq_true c2
  have c2b1 : decide (0 ≤ (l0.length : Int)) = true := decide_eq_true c2
  clear c2
  by_cases c3 : ((l0.length : Int) : Int).toNat ≤ 8796093022208
  ·rw [if_pos c3] at H
   have c3b0 := eq_true c3
   have c3b1 : decide (((l0.length : Int) : Int).toNat ≤ 8796093022208) = true := decide_eq_true c3
   clear c3
   obtain ⟨y266, hy266⟩ : ∃ y_ : List (S34), y_ = (List.replicate ((l0.length : Int) : Int).toNat z34) := ⟨_, rfl⟩
   replace H : (laws_toInsS.l0 k l0 y266 0) = some r := by first | (rw [hy266]; with_reducible exact H) | (have H2_ := (Option.bind_some _ _).symm.trans H; rw [hy266]; with_reducible exact H2_) | (have H2_ := (Option.bind_some _ _).symm.trans H; with_reducible exact H2_) | with_reducible exact H | (rw [hy266]; exact H) | exact H
   have Ny266 := Aside0.mk hy266
   clear hy266
   have H' := Aside0.mk H
   clear H
   go_enter Try.func33, Try.ntmps33
   go_wp2_with (first | ((with_reducible refine gate_dst (N := 7) rfl ?_); refine Kd.R_make k34 _ 34 rfl (N := 7) rfl 24 _ _ rfl (l0.length : Int) rfl rfl Try.underlying24 (.agg #[(.int .i64 0), (.int .i64 0), (.int .i64 0), (.int .i64 0)]) 32 info34 rfl (by decide) (by omega) z34 (ok := fun _ => True) (okp := fun _ => True) (k34_mkM _ _ _ z34 ) (fun _ hk => hk) trivial (of_decide_eq_true zq71_) (Nat.le_trans (Nat.mul_le_mul_right _ (of_decide_eq_true zq71_ : (l0.length : Int).toNat ≤ 8796093022208)) (by omega)) (Below.refl _ _) (Nat.le_refl _) ?_; intro v267 w4 ho5 hb hg_ hnew_; clear hg_ hnew_; (first | rw [← Ny266.out] at ho5 | (simp only [Int.reduceToNat] at ho5; rw [← Ny266.out] at ho5)); have n_ := A2_ (Kd.R_lower ho5 (below_size zqa3_)) (below_step zqa3_ hb); clear HB; obtain ⟨HO268, HB⟩ := n_; clear hb ho5))
   go_loopg [4] k (fun kq v4 w' => ∃ (x3_1 : List (S34)) (x4_1 : Int), v4 = .int .i64 x4_1 ∧ Aside0 (laws_toInsS.l0 kq l0 x3_1 x4_1 = some r) ∧ Aside0 (kq ≤ k) ∧ Aside0 (Kd.R k34 34 w' w.heap.size (fun _ => True) v267 x3_1) ∧ Aside0 (Below w.heap.size w w'))
   case atStart => exact ⟨(y266), (0), zq76_, H', ⟨Nat.le_refl _⟩, ⟨by (with_reducible repeat (first | apply Kd.R_alloc | apply Kd.R_drewN | apply Kd.R_drew)); exact HO268.out⟩, ⟨zqa3_⟩⟩
   case round =>
    clear H'
    try clear c2
    try clear c2b0
    try clear c2b1
    try clear p2
    try clear c3
    try clear c3b0
    try clear c3b1
    obtain ⟨x3_1, x4_1, rfl, HA, HK1, HO_3, HB⟩ := hrel
    cases gk with
    | zero => exact absurd HA.out (by simp [laws_toInsS.l0])
    | succ k1 =>
     have H := HA.out
     clear HA
     simp only [laws_toInsS.l0] at H
     by_cases c6 : x4_1 < (l0.length : Int)
     ·rw [if_pos c6] at H
      have c6b0 : decide (x4_1 < (l0.length : Int)) = true := decide_eq_true c6
      clear c6
      by_cases c7 : 0 ≤ x4_1
      ·rw [if_pos c7] at H
       have c7b0 : decide (0 ≤ x4_1) = true := decide_eq_true c7
       clear c7
       replace H := Option.bind_eq_some_iff.mp H
       obtain ⟨⟨t270, t271, t272, t273⟩, A80, H⟩ := H
       (try dsimp only at H)
       have A8 := Aside0.mk A80
       clear A80
       by_cases c9 : x4_1 < (x3_1.length : Int)
       ·rw [if_pos c9] at H
        have c9b0 : decide (x4_1 < (x3_1.length : Int)) = true := decide_eq_true c9
        clear c9
        obtain ⟨y274, hy274⟩ : ∃ y_ : List (S34), y_ = (x3_1.set (x4_1 : Int).toNat (⟨t270, t271, t272, t273⟩ : S34)) := ⟨_, rfl⟩
        replace H : (laws_toInsS.l0 k1 l0 y274 (wrap64 (x4_1 + 1))) = some r := by first | (rw [hy274]; with_reducible exact H) | (have H2_ := (Option.bind_some _ _).symm.trans H; rw [hy274]; with_reducible exact H2_) | (have H2_ := (Option.bind_some _ _).symm.trans H; with_reducible exact H2_) | with_reducible exact H | (rw [hy274]; exact H) | exact H
        have Ny274 := Aside0.mk hy274
        clear hy274
        have H' := Aside0.mk H
        clear H
        have p269 : 0 ≤ (x4_1 : Int) := of_decide_eq_true zq71_
        have q269 : x4_1 < (l0.length : Int) := of_decide_eq_true zq71_
        obtain ⟨ad269, e269, hx269_0, hx269_1, hx269_2, hx269_3⟩ := at_T103 HR0.out x4_1 p269 q269
        cases e269
        replace hx269_0 := (HB.out.cell (World.block_lt_of_cell? w _ hx269_0)).trans hx269_0
        replace hx269_1 := (HB.out.cell (World.block_lt_of_cell? w _ hx269_1)).trans hx269_1
        replace hx269_2 := (HB.out.cell (World.block_lt_of_cell? w _ hx269_2)).trans hx269_2
        replace hx269_3 := (HB.out.cell (World.block_lt_of_cell? w _ hx269_3)).trans hx269_3
        replace p269 := eq_true p269
        replace q269 := eq_true q269
        go_wp2_with (first | ((with_reducible refine gate_callee (f := 81) rfl ?_); refine goesL_ (some 20) rfl rfl Try.func81 (by kernel_rfl) rfl #[.agg #[.int .i64 ((rd_T103 l0 x4_1).f0), .int .i64 ((rd_T103 l0 x4_1).f1), .int .i64 ((rd_T103 l0 x4_1).f2), .int .i64 ((rd_T103 l0 x4_1).f3)]] rfl zq1_ ?_; (with_reducible refine (laws_toIns.calls ((rd_T103 l0 x4_1).f0) ((rd_T103 l0 x4_1).f1) ((rd_T103 l0 x4_1).f2) ((rd_T103 l0 x4_1).f3) t270 t271 t272 t273 _ A8.out).mono ?_); rintro e w11 ⟨rfl, hb⟩; refine ⟨_, rfl, ?_⟩; have n_ := A2_ (Kd.R_below zq2b_ hb) (below_step zqa3_ hb); clear HO_3 HB; obtain ⟨HO_3, HB⟩ := n_; (try clear hb); have p10 : 0 ≤ (x4_1 : Int) := of_decide_eq_true zq71_; have q10 : (x4_1 : Int) < ((x3_1.length : Int) : Int) := of_decide_eq_true zq71_; obtain ⟨go10, co10, eo10, gb10, gl10, cl10, HG10⟩ := Kd.R_form HO_3.out (by omega); (first | cases eo10 | (injection eo10 with ea_ en_ ec_; (first | subst ea_ | (injection ea_ with ea_; subst ea_)); subst ec_; clear en_)); have GB10 := Aside0.mk gb10; have GG10 := Aside0.mk HG10; clear gb10 gl10 HG10; obtain ⟨ce10, hcl10, hM10, hcc10, hfr10⟩ := Kd.R_elem HO_3.out z34 (x4_1 : Int) p10 q10; obtain rfl := k34_openM hM10; have hx10_0 : w11.cell? ⟨go10, (x4_1 : Int).toNat * 4, none⟩ = some (.int .i64 ((rd_T34 x3_1 x4_1).f0)) := hcc10 0 _ rfl; have hx10_1 : w11.cell? ⟨go10, (x4_1 : Int).toNat * 4 + 1, none⟩ = some (.int .i64 ((rd_T34 x3_1 x4_1).f1)) := hcc10 1 _ rfl; have hx10_2 : w11.cell? ⟨go10, (x4_1 : Int).toNat * 4 + 2, none⟩ = some (.int .i64 ((rd_T34 x3_1 x4_1).f2)) := hcc10 2 _ rfl; have hx10_3 : w11.cell? ⟨go10, (x4_1 : Int).toNat * 4 + 3, none⟩ = some (.int .i64 ((rd_T34 x3_1 x4_1).f3)) := hcc10 3 _ rfl; have hf10_0 : w11.frozen? ⟨go10, (x4_1 : Int).toNat * 4, none⟩ = false := hfr10 0; have hf10_1 : w11.frozen? ⟨go10, (x4_1 : Int).toNat * 4 + 1, none⟩ = false := hfr10 1; have hf10_2 : w11.frozen? ⟨go10, (x4_1 : Int).toNat * 4 + 2, none⟩ = false := hfr10 2; have hf10_3 : w11.frozen? ⟨go10, (x4_1 : Int).toNat * 4 + 3, none⟩ = false := hfr10 3; clear hcl10 hcc10 hfr10 hM10; replace p10 := eq_true p10; replace q10 := eq_true q10; have HX12 := Aside0.mk (show Kd.R k34 34 w11 w.heap.size (fun _ => True) (.slice (some ⟨go10, 0, none⟩) x3_1.length co10) x3_1 from zq2b_); obtain ⟨ce12, hcl12, hM12, hcc12, hfr12⟩ := Kd.R_elem HX12.out z34 (x4_1 : Int) (of_decide_eq_true zq71_) zqcb_; obtain rfl := k34_openM hM12; have HP12 := Kd.R_seg HX12.out (x4_1 : Int) (of_decide_eq_true zq71_) zqcb_ (seg := [.int .i64 t270, .int .i64 t271, .int .i64 t272, .int .i64 t273]) (j := 0) hcl12 hcc12 (show 4 ≤ 4 from by decide) (x' := (⟨t270, t271, t272, t273⟩ : S34)) (k34_mkM _ _ _ (⟨t270, t271, t272, t273⟩ : S34) ) (fun _ hk => hk); have hx12_0 := hcc12 0 _ rfl; (try simp only [show (k34).sz = 4 from rfl, Nat.mul_one, Nat.add_zero] at hx12_0); have hf12_0 := hfr12 0; (try simp only [show (k34).sz = 4 from rfl, Nat.mul_one, Nat.add_zero] at hf12_0); have hx12_1 := hcc12 1 _ rfl; (try simp only [show (k34).sz = 4 from rfl, Nat.mul_one, Nat.add_zero] at hx12_1); have hf12_1 := hfr12 1; (try simp only [show (k34).sz = 4 from rfl, Nat.mul_one, Nat.add_zero] at hf12_1); have hx12_2 := hcc12 2 _ rfl; (try simp only [show (k34).sz = 4 from rfl, Nat.mul_one, Nat.add_zero] at hx12_2); have hf12_2 := hfr12 2; (try simp only [show (k34).sz = 4 from rfl, Nat.mul_one, Nat.add_zero] at hf12_2); have hx12_3 := hcc12 3 _ rfl; (try simp only [show (k34).sz = 4 from rfl, Nat.mul_one, Nat.add_zero] at hx12_3); have hf12_3 := hfr12 3; (try simp only [show (k34).sz = 4 from rfl, Nat.mul_one, Nat.add_zero] at hf12_3); clear hcl12 hcc12 hfr12 hM12) | ((with_reducible refine gate_store (t := 34) (p := 21) rfl ?_); refine store_event (t := 34) (p := 21) (v := ?vo_w13) (w1 := ((((w11.setCell ⟨go10, (x4_1 : Int).toNat * 4, none⟩ (.int .i64 t270)).setCell ⟨go10, (x4_1 : Int).toNat * 4 + 1, none⟩ (.int .i64 t271)).setCell ⟨go10, (x4_1 : Int).toNat * 4 + 2, none⟩ (.int .i64 t272)).setCell ⟨go10, (x4_1 : Int).toNat * 4 + 3, none⟩ (.int .i64 t273))) ?hg ?ho ?hn ?hr ?_; (case ho => rfl); (case hg => rfl); (case hn => rfl); (case hr => first | (go_simp; done) | (go_simp; rfl)); intro w13 hw; have hg : w11.grownBy w13 (some go10) := (by rw [hw]; exact HP12.2); have hp_ : Kd.R k34 34 w13 w.heap.size (fun _ => True) (.slice (some ⟨go10, 0, none⟩) x3_1.length co10) y274 := (by rw [hw, Ny274.out]; exact HP12.1); clear HP12; have n_ := A2_ (hp_) ((by rw [hw]; exact below_set (below_set (below_set (below_set (HB.out) GB10.out) GB10.out) GB10.out) GB10.out : Below w.heap.size w w13)); clear HO_3 HB; obtain ⟨HO_3, HB⟩ := n_; clear hg hw hp_))
        go_roundg k1
        case measure => have := HK1.out; omega
        case rel => exact ⟨(y274), (wrap64 (x4_1 + 1)), zq76_, H', ⟨by have := HK1.out; omega⟩, ⟨zq2b_⟩, ⟨zqa3_⟩⟩
       ·rw [if_neg c9] at H
        exact absurd H (by simp)
      ·rw [if_neg c7] at H
       exact absurd H (by simp)
     ·rw [if_neg c6] at H
      have c6b0 : decide (x4_1 < (l0.length : Int)) = false := decide_eq_false c6
      clear c6
      obtain rfl := Option.some.inj H
      go_wp2
      go_ret
      exact ⟨_, zq75_, zq2b_, zqa3_⟩
  ·rw [if_neg c3] at H
   exact absurd H (by simp)
 ·rw [if_neg c2] at H
  exact absurd H (by simp)

end Go.Proofs.Ytgdafcakefnpdaa.PFnExactExecRun
