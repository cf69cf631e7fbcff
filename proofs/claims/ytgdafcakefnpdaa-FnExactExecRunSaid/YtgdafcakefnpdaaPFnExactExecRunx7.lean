-- Laid by this session's program out of the translation (gen.sh).
import Derived.Test.YtgdafcakefnpdaaPFnExactExecRunx0
import Derived.Test.YtgdafcakefnpdaaPFnExactExecRunx4
import Derived.Test.YtgdafcakefnpdaaPFnExactExecRunx5
import Derived.Test.YtgdafcakefnpdaaPFnExactExecRunx6
namespace Go.Proofs.Ytgdafcakefnpdaa.PFnExactExecRun
open Go.RowKit Go.Proofs.YtgdafcakefnpdaaW.PrintWords Go.Proofs.YtgdafcakefnpdaaW.PrintLast Go.Proofs.YtgdafcakefnpdaaW.PrintMore
attribute [local go_sem] max2_int min2_int max_two min_two max_three min_three max_four min_four   -- for this text's walks alone
set_option linter.unusedVariables false
set_option linter.unusedSimpArgs false

/-! ### spec_l3Step: function 68 -/
def spec_l3Step.j0 : Nat → List Int → List (S48) → List (S36) → Int → Int → Int → Int → Int → Int → Option ((List (S48)) × (List (S36)) × Int × Int × List Int)
 | 0, _, _, _, _, _, _, _, _, _ => none
 | k + 1, x2, x201000, x201001, x201002, x201003, x202000, x202001, x202002, x202003 => if x202000 = 2 then (some (x201000, x201001, x201002, x201003, x2)) else (if 0 ≤ x202001 then (if x202001 < (x2.length : Int) then ((spec_l1Num.f (rd x2 x202001)).bind fun t231 => (if t231 = true then (some (x201000, x201001, x201002, x201003, x2)) else (some (x201000, x201001, x201002, 2, x2)))) else (none)) else (none))
def spec_l3Step.f (k : Nat) (l0 : List (S46)) (l1_0 : List (S48)) (l1_1 : List (S36)) (a1_2 : Int) (a1_3 : Int) (l2 : List Int) (a3_0 : Int) (a3_1 : Int) (a3_2 : Int) (a3_3 : Int) : Option ((List (S48)) × (List (S36)) × Int × Int × List Int) := if a3_0 = 1 then ((spec_l3Look.f k l0 l1_0 l1_1 a1_2 a1_3 a3_2).bind fun bt203 => (if 0 ≤ a3_1 then (if a3_1 < (l2.length : Int) then (spec_l3Step.j0 k (l2.set (a3_1 : Int).toNat bt203.1) bt203.2.1 bt203.2.2.1 bt203.2.2.2.1 bt203.2.2.2.2 a3_0 a3_1 a3_2 a3_3) else (none)) else (none))) else (if a3_0 = 2 then (if 0 ≤ a3_2 then (if a3_2 < (l2.length : Int) then ((spec_l3Put.f k l1_0 l1_1 a1_2 a1_3 a3_1 (rd l2 a3_2)).bind fun bt215 => (spec_l3Step.j0 k l2 bt215.1 bt215.2.1 bt215.2.2.1 bt215.2.2.2 a3_0 a3_1 a3_2 a3_3)) else (none)) else (none)) else (if a3_0 = 3 then (if 0 ≤ a3_1 then (if a3_1 < (l2.length : Int) then (spec_l3Step.j0 k (l2.set (a3_1 : Int).toNat a3_3) l1_0 l1_1 a1_2 a1_3 a3_0 a3_1 a3_2 a3_3) else (none)) else (none)) else (if a3_0 = 4 then (if 0 ≤ a3_1 then (if a3_1 < (l2.length : Int) then (if 0 ≤ a3_2 then (if a3_2 < (l2.length : Int) then (spec_l3Step.j0 k (l2.set (a3_1 : Int).toNat (wrap64 ((rd l2 a3_1) + (rd l2 a3_2)))) l1_0 l1_1 a1_2 a1_3 a3_0 a3_1 a3_2 a3_3) else (none)) else (none)) else (none)) else (none)) else (if a3_0 = 5 then (if 0 ≤ a3_1 then (if a3_1 < (l2.length : Int) then (if 0 ≤ a3_2 then (if a3_2 < (l2.length : Int) then (spec_l3Step.j0 k (l2.set (a3_1 : Int).toNat (wrap64 ((rd l2 a3_1) - (rd l2 a3_2)))) l1_0 l1_1 a1_2 a1_3 a3_0 a3_1 a3_2 a3_3) else (none)) else (none)) else (none)) else (none)) else (if a3_0 = 7 then (spec_l3Step.j0 k l2 l1_0 l1_1 a1_2 1 a3_0 a3_1 a3_2 a3_3) else (spec_l3Step.j0 k l2 l1_0 l1_1 a1_2 a1_3 a3_0 a3_1 a3_2 a3_3))))))
theorem spec_l3Step.mono_l : ∀ k, (∀ y0 y1 y2 y3 y4 y5 y6 y7 y8, LeO (spec_l3Step.j0 k y0 y1 y2 y3 y4 y5 y6 y7 y8) (spec_l3Step.j0 (k + 1) y0 y1 y2 y3 y4 y5 y6 y7 y8))
 | 0 => fun _ _ _ _ _ _ _ _ _ r h => by simp [spec_l3Step.j0] at h
 | k + 1 => by
  have ih0 := spec_l3Step.mono_l k
  ·intro y0 y1 y2 y3 y4 y5 y6 y7 y8
   unfold spec_l3Step.j0
   repeat' first
   | (with_reducible exact ih0 _ _ _ _ _ _ _ _ _)
   | (with_reducible exact spec_l3Look.mono _ _ _ _ _ _ _)
   | (with_reducible exact spec_l3Put.mono _ _ _ _ _ _ _)
   | (with_reducible exact LeO.refl _)
   | (with_reducible exact LeO.none _)
   | (with_reducible refine LeO.ite ?_ ?_)
   | (with_reducible refine LeO.bind ?_ (fun _ => ?_))
   | exact ih0 _ _ _ _ _ _ _ _ _
   | exact spec_l3Look.mono _ _ _ _ _ _ _
   | exact spec_l3Put.mono _ _ _ _ _ _ _
   | exact LeO.none _
   | refine LeO.ite ?_ ?_
   | refine LeO.bind ?_ (fun _ => ?_)
theorem spec_l3Step.mono : ∀ a0 a1 a2 a3 a4 a5 a6 a7 a8 a9 k, LeO (spec_l3Step.f k a0 a1 a2 a3 a4 a5 a6 a7 a8 a9) (spec_l3Step.f (k + 1) a0 a1 a2 a3 a4 a5 a6 a7 a8 a9) := by
 intro a0 a1 a2 a3 a4 a5 a6 a7 a8 a9 k
 have ih0 := spec_l3Step.mono_l k
 unfold spec_l3Step.f
 repeat' first
   | (with_reducible exact ih0 _ _ _ _ _ _ _ _ _)
   | (with_reducible exact spec_l3Look.mono _ _ _ _ _ _ _)
   | (with_reducible exact spec_l3Put.mono _ _ _ _ _ _ _)
   | (with_reducible exact LeO.refl _)
   | (with_reducible exact LeO.none _)
   | (with_reducible refine LeO.ite ?_ ?_)
   | (with_reducible refine LeO.bind ?_ (fun _ => ?_))
   | exact ih0 _ _ _ _ _ _ _ _ _
   | exact spec_l3Look.mono _ _ _ _ _ _ _
   | exact spec_l3Put.mono _ _ _ _ _ _ _
   | exact LeO.none _
   | refine LeO.ite ?_ ?_
   | refine LeO.bind ?_ (fun _ => ?_)
def spec_l3Step.T7 : Bool × List (List Nat × List Nat) := (true, [([], []), ([], []), ([1], [1]), ([], []), ([], []), ([4], [4]), ([3, 5], [3, 5]), ([6], [6]), ([0, 2, 7], [0, 2, 7]), ([8, 8, 0, 1, 2, 3, 4, 5, 6, 7, 8], [8])])
def spec_l3Step.B7 : List Nat := [0, 0, 2, 0, 0, 16, 56, 120, 255, 511]
theorem spec_l3Step.tab7 : rtab .any (opsOf Try.f68 7) = spec_l3Step.T7 := by kernel_rfl
theorem spec_l3Step.bits7 : waitsOk spec_l3Step.T7.2 spec_l3Step.B7 = true := by kernel_rfl
def spec_l3Step.T11 : Bool × List (List Nat × List Nat) := (true, [([], []), ([], []), ([1], [1]), ([], []), ([], []), ([4], [4]), ([3, 5], [3, 5]), ([6], [6]), ([], []), ([], []), ([9], [9]), ([8, 10], [8, 10]), ([11], [11]), ([7, 12], [7, 12]), ([0, 2, 0, 1, 2, 3, 4, 5, 6, 7, 8, 9, 10, 11, 12, 13], [0, 2]), ([14, 13, 0, 1, 2, 3, 4, 5, 6, 7, 8, 9, 10, 11, 12, 13], [13, 14])])
def spec_l3Step.B11 : List Nat := [0, 0, 2, 0, 0, 16, 56, 120, 0, 0, 512, 1792, 3840, 8184, 16383, 32767]
theorem spec_l3Step.tab11 : rtab .any (opsOf Try.f68 11) = spec_l3Step.T11 := by kernel_rfl
theorem spec_l3Step.bits11 : waitsOk spec_l3Step.T11.2 spec_l3Step.B11 = true := by kernel_rfl
def spec_l3Step.T13 : Bool × List (List Nat × List Nat) := (true, [([], []), ([], []), ([1], [1]), ([], []), ([], []), ([4], [4]), ([3, 5], [3, 5]), ([6], [6]), ([], []), ([], []), ([9], [9]), ([8, 10], [8, 10]), ([11], [11]), ([7, 12], [7, 12]), ([0, 2, 0, 1, 2, 3, 4, 5, 6, 7, 8, 9, 10, 11, 12, 13], [0, 2]), ([14, 13, 0, 1, 2, 3, 4, 5, 6, 7, 8, 9, 10, 11, 12, 13], [13, 14])])
def spec_l3Step.B13 : List Nat := [0, 0, 2, 0, 0, 16, 56, 120, 0, 0, 512, 1792, 3840, 8184, 16383, 32767]
theorem spec_l3Step.tab13 : rtab .any (opsOf Try.f68 13) = spec_l3Step.T13 := by kernel_rfl
theorem spec_l3Step.bits13 : waitsOk spec_l3Step.T13.2 spec_l3Step.B13 = true := by kernel_rfl
set_option maxHeartbeats 8000000 in
set_option maxRecDepth 100000 in
theorem spec_l3Step.calls (k : Nat) (A0 : Option Addr) (c0 : Nat) (l0 : List (S46)) (P1_0_ : Nat → Prop) (u9000_ : Value) (l1_0 : List (S48)) (P1_1_ : Nat → Prop) (u9001_ : Value) (l1_1 : List (S36)) (a1_2 : Int) (a1_3 : Int) (P2_ : Nat → Prop) (u9002_ : Value) (l2 : List Int) (a3_0 : Int) (a3_1 : Int) (a3_2 : Int) (a3_3 : Int) (r1 : List (S48)) (r2 : List (S36)) (r3 : Int) (r4 : Int) (r5 : List Int) (w0 w : World) (hB : Below w0.heap.size w0 w) (hr0 : ∀ W_, Kept w W_ (fun k_ => P1_0_ k_ ∨ P1_1_ k_ ∨ P2_ k_) → Kd.C k46 W_ A0 l0.length l0) (hc0 : l0.length ≤ c0) (ho1_0 : Kd.R k48 48 w w0.heap.size P1_0_ u9000_ l1_0) (ho1_1 : Kd.R k36 36 w w0.heap.size P1_1_ u9001_ l1_1) (ho2 : Kd.R (Kd.int .i64) 3 w w0.heap.size P2_ u9002_ l2) (h : spec_l3Step.f k l0 l1_0 l1_1 a1_2 a1_3 l2 a3_0 a3_1 a3_2 a3_3 = some (r1, r2, r3, r4, r5)) :
  Calls Try.prog 68 #[.slice A0 l0.length c0, .agg #[u9000_, u9001_, .int .i64 a1_2, .int .i64 a1_3], u9002_, .agg #[.int .i64 a3_0, .int .i64 a3_1, .int .i64 a3_2, .int .i64 a3_3]] w fun e w' => ∃ v0_ v1_ : Value, e = .returned (.agg #[v0_, v1_, .int .i64 r3, .int .i64 r4]) ∧ Kd.R k48 48 w' w0.heap.size (fun k_ => ((P1_0_ k_ ∨ P1_1_ k_ ∨ P2_ k_) ∨ w.heap.size ≤ k_)) v0_ r1 ∧ Kd.R k36 36 w' w0.heap.size (fun k_ => ((P1_0_ k_ ∨ P1_1_ k_ ∨ P2_ k_) ∨ w.heap.size ≤ k_)) v1_ r2 ∧ Kd.R (Kd.int .i64) 3 w' w0.heap.size (fun k_ => ((P1_0_ k_ ∨ P1_1_ k_ ∨ P2_ k_) ∨ w.heap.size ≤ k_)) u9002_ r5 ∧ Below w0.heap.size w0 w' ∧ Kept w w' (fun k_ => P1_0_ k_ ∨ P1_1_ k_ ∨ P2_ k_) := by
 have hu30 := Try.underlying30
 have hu34 := Try.underlying34
 have HR0 := Aside0.mk hr0
 have HC0 := Aside0.mk hc0
 clear hr0 hc0
 have HO1_0 := Aside0.mk (show Kd.R k48 48 w w0.heap.size (fun k_ => ((P1_0_ k_ ∨ P1_1_ k_ ∨ P2_ k_) ∨ w.heap.size ≤ k_)) u9000_ l1_0 from Kd.R_mono ho1_0 (fun k_ hk => (.inl (.inl hk))))
 have HO1_1 := Aside0.mk (show Kd.R k36 36 w w0.heap.size (fun k_ => ((P1_0_ k_ ∨ P1_1_ k_ ∨ P2_ k_) ∨ w.heap.size ≤ k_)) u9001_ l1_1 from Kd.R_mono ho1_1 (fun k_ hk => (.inl (.inr (.inl hk)))))
 have HO2 := Aside0.mk (show Kd.R (Kd.int .i64) 3 w w0.heap.size (fun k_ => ((P1_0_ k_ ∨ P1_1_ k_ ∨ P2_ k_) ∨ w.heap.size ≤ k_)) u9002_ l2 from Kd.R_mono ho2 (fun k_ hk => (.inl (.inr (.inr hk)))))
 have HK := Aside0.mk (Kept.refl w (fun k_ => P1_0_ k_ ∨ P1_1_ k_ ∨ P2_ k_))
 have HW0 := Aside0.mk hB.size
 have HB := Aside0.mk hB
 clear hB
 have H : (if a3_0 = 1 then ((spec_l3Look.f k l0 l1_0 l1_1 a1_2 a1_3 a3_2).bind fun bt203 => (if 0 ≤ a3_1 then (if a3_1 < (l2.length : Int) then (spec_l3Step.j0 k (l2.set (a3_1 : Int).toNat bt203.1) bt203.2.1 bt203.2.2.1 bt203.2.2.2.1 bt203.2.2.2.2 a3_0 a3_1 a3_2 a3_3) else (none)) else (none))) else (if a3_0 = 2 then (if 0 ≤ a3_2 then (if a3_2 < (l2.length : Int) then ((spec_l3Put.f k l1_0 l1_1 a1_2 a1_3 a3_1 (rd l2 a3_2)).bind fun bt215 => (spec_l3Step.j0 k l2 bt215.1 bt215.2.1 bt215.2.2.1 bt215.2.2.2 a3_0 a3_1 a3_2 a3_3)) else (none)) else (none)) else (if a3_0 = 3 then (if 0 ≤ a3_1 then (if a3_1 < (l2.length : Int) then (spec_l3Step.j0 k (l2.set (a3_1 : Int).toNat a3_3) l1_0 l1_1 a1_2 a1_3 a3_0 a3_1 a3_2 a3_3) else (none)) else (none)) else (if a3_0 = 4 then (if 0 ≤ a3_1 then (if a3_1 < (l2.length : Int) then (if 0 ≤ a3_2 then (if a3_2 < (l2.length : Int) then (spec_l3Step.j0 k (l2.set (a3_1 : Int).toNat (wrap64 ((rd l2 a3_1) + (rd l2 a3_2)))) l1_0 l1_1 a1_2 a1_3 a3_0 a3_1 a3_2 a3_3) else (none)) else (none)) else (none)) else (none)) else (if a3_0 = 5 then (if 0 ≤ a3_1 then (if a3_1 < (l2.length : Int) then (if 0 ≤ a3_2 then (if a3_2 < (l2.length : Int) then (spec_l3Step.j0 k (l2.set (a3_1 : Int).toNat (wrap64 ((rd l2 a3_1) - (rd l2 a3_2)))) l1_0 l1_1 a1_2 a1_3 a3_0 a3_1 a3_2 a3_3) else (none)) else (none)) else (none)) else (none)) else (if a3_0 = 7 then (spec_l3Step.j0 k l2 l1_0 l1_1 a1_2 1 a3_0 a3_1 a3_2 a3_3) else (spec_l3Step.j0 k l2 l1_0 l1_1 a1_2 a1_3 a3_0 a3_1 a3_2 a3_3))))))) = some (r1, r2, r3, r4, r5) := h
 clear h
 have HC5 := Aside0.mk H
 clear H
 obtain ⟨Ao6, co6, eo6⟩ := Kd.R_slice HO1_0.out
 subst eo6
 obtain ⟨Ao7, co7, eo7⟩ := Kd.R_slice HO1_1.out
 subst eo7
 go_enter Try.func68, Try.ntmps68
 go_upto_block 0 with (first | ((with_reducible refine gate_dst (N := 5) rfl ?_); refine bxe_ (N := 5) (cs := #[.slice Ao6 l1_0.length co6, .slice Ao7 l1_1.length co7, .int .i64 a1_2, .int .i64 a1_3]) (t := 30) ?_; intro gb200 hg w8 hbox hb; have n_ := A8_ (Kd.R_below zq10_ hb) (Kd.R_below zq11_ hb) (Kd.R_below zq12_ hb) (Kept.below (S := (fun k_ => P1_0_ k_ ∨ P1_1_ k_ ∨ P2_ k_)) zqab_ hb) (below_step zqa3_ hb) (hbox) ((by rw [hg]; exact (by first | exact HK.out.1 | exact (show Kept w _ (fun k_ => P1_0_ k_ ∨ P1_1_ k_ ∨ P2_ k_) from by repeat (first | (with_reducible first | exact HK.out | apply Kept.alloc | apply Kept.drewN | apply Kept.drew) | exact HK.out)).1) : w.heap.size ≤ gb200)) ((zqd6_ : w0.heap.size ≤ gb200)); clear HO1_0 HO1_1 HO2 HK HB; obtain ⟨HO1_0, HO1_1, HO2, HK, HB, BK200, GW200, GE200⟩ := n_; clear hb hbox hg) | ((with_reducible refine gate_dst (N := 7) rfl ?_); refine bxe_ (N := 7) (cs := #[.int .i64 a3_0, .int .i64 a3_1, .int .i64 a3_2, .int .i64 a3_3]) (t := 34) ?_; intro gb201 hg w9 hbox hb; have n0_ := Aside0.mk (Kd.R_below zq10_ hb); have n1_ := Aside0.mk (Kd.R_below zq11_ hb); have n2_ := Aside0.mk (Kd.R_below zq12_ hb); have n3_ := Aside0.mk (blk_below (g := gb200) (o := .cells #[.slice Ao6 l1_0.length co6, .slice Ao7 l1_1.length co7, .int .i64 a1_2, .int .i64 a1_3] 30 (0, 0)) zq3f_ hb); have n4_ := Aside0.mk (Kept.below (S := (fun k_ => P1_0_ k_ ∨ P1_1_ k_ ∨ P2_ k_)) (by repeat (first | (with_reducible first | exact HK.out | apply Kept.alloc | apply Kept.drewN | apply Kept.drew | refine Kept.setCell ?_ (.inr GW200.out) _) | exact HK.out)) hb); have n5_ := Aside0.mk (below_step zq8c_ hb); have n6_ := Aside0.mk (hbox); have n7_ := Aside0.mk ((by rw [hg]; exact (by first | exact HK.out.1 | exact (show Kept w _ (fun k_ => P1_0_ k_ ∨ P1_1_ k_ ∨ P2_ k_) from by repeat (first | (with_reducible first | exact HK.out | apply Kept.alloc | apply Kept.drewN | apply Kept.drew | refine Kept.setCell ?_ (.inr GW200.out) _) | exact HK.out)).1) : w.heap.size ≤ gb201)); have n8_ := Aside0.mk ((by rw [hg]; exact (below_size zq8c_) : w0.heap.size ≤ gb201)); have n9_ := Aside0.mk ((zqe9_ : gb200 ≠ gb201)); have n10_ := Aside0.mk ((zqda_ : gb201 ≠ gb200)); clear HO1_0; clear HO1_1; clear HO2; clear BK200; clear HK; clear HB; have HO1_0 := n0_; have HO1_1 := n1_; have HO2 := n2_; have BK200 := n3_; have HK := n4_; have HB := n5_; have BK201 := n6_; have GW201 := n7_; have GE201 := n8_; have NB200_201 := n9_; have NB201_200 := n10_; clear n0_ n1_ n2_ n3_ n4_ n5_ n6_ n7_ n8_ n9_ n10_; clear hb hbox hg) | ((with_reducible refine gate_dst (N := 8) rfl ?_); refine bxe_ (N := 8) (cs := #[.slice none 0 0, .slice none 0 0, .int .i64 0, .int .i64 0]) (t := 30) ?_; intro gb202 hg w10 hbox hb; have n0_ := Aside0.mk (Kd.R_below zq10_ hb); have n1_ := Aside0.mk (Kd.R_below zq11_ hb); have n2_ := Aside0.mk (Kd.R_below zq12_ hb); have n3_ := Aside0.mk (blk_below (g := gb200) (o := .cells #[.slice Ao6 l1_0.length co6, .slice Ao7 l1_1.length co7, .int .i64 a1_2, .int .i64 a1_3] 30 (0, 0)) zq3f_ hb); have n4_ := Aside0.mk (blk_below (g := gb201) (o := .cells #[.int .i64 a3_0, .int .i64 a3_1, .int .i64 a3_2, .int .i64 a3_3] 34 (0, 0)) zq40_ hb); have n5_ := Aside0.mk (Kept.below (S := (fun k_ => P1_0_ k_ ∨ P1_1_ k_ ∨ P2_ k_)) (by repeat (first | (with_reducible first | exact HK.out | apply Kept.alloc | apply Kept.drewN | apply Kept.drew | refine Kept.setCell ?_ (.inr GW200.out) _ | refine Kept.setCell ?_ (.inr GW201.out) _) | exact HK.out)) hb); have n6_ := Aside0.mk (below_step zq8b_ hb); have n7_ := Aside0.mk (hbox); have n8_ := Aside0.mk ((by rw [hg]; exact (by first | exact HK.out.1 | exact (show Kept w _ (fun k_ => P1_0_ k_ ∨ P1_1_ k_ ∨ P2_ k_) from by repeat (first | (with_reducible first | exact HK.out | apply Kept.alloc | apply Kept.drewN | apply Kept.drew | refine Kept.setCell ?_ (.inr GW200.out) _ | refine Kept.setCell ?_ (.inr GW201.out) _) | exact HK.out)).1) : w.heap.size ≤ gb202)); have n9_ := Aside0.mk ((by rw [hg]; exact (below_size zq8b_) : w0.heap.size ≤ gb202)); have n10_ := Aside0.mk ((zqe9_ : gb200 ≠ gb202)); have n11_ := Aside0.mk ((zqda_ : gb202 ≠ gb200)); have n12_ := Aside0.mk ((zqea_ : gb201 ≠ gb202)); have n13_ := Aside0.mk ((zqdb_ : gb202 ≠ gb201)); clear HO1_0; clear HO1_1; clear HO2; clear BK200; clear BK201; clear HK; clear HB; have HO1_0 := n0_; have HO1_1 := n1_; have HO2 := n2_; have BK200 := n3_; have BK201 := n4_; have HK := n5_; have HB := n6_; have BK202 := n7_; have GW202 := n8_; have GE202 := n9_; have NB200_202 := n10_; have NB202_200 := n11_; have NB201_202 := n12_; have NB202_201 := n13_; clear n0_ n1_ n2_ n3_ n4_ n5_ n6_ n7_ n8_ n9_ n10_ n11_ n12_ n13_; clear hb hbox hg; have hnb11 := NB201_200.out; have hnc11 := NB200_201.out; have hnb12 := NB201_202.out; have hnc12 := NB202_201.out; have hcz13_0 := bc0_ BK201.out; have hcz13_1 := bc1_ BK201.out; have hcz13_2 := bc2_ BK201.out; have hcz13_3 := bc3_ BK201.out; have hfz13_0 := blk_frozen BK201.out 0; have hfz13_1 := blk_frozen BK201.out 1; have hfz13_2 := blk_frozen BK201.out 2; have hfz13_3 := blk_frozen BK201.out 3))
 (try simp only [Act.put, List.setIfInBounds_toArray, List.set_cons_zero, List.set_cons_succ])
 go_cut [] (fun wc => ∃ (kq : Nat) (x2_4 : List Int) (x201000_4 : List (S48)) (x201001_4 : List (S36)) (x201002_4 : Int) (x201003_4 : Int) (u201000 : Value) (u201001 : Value), Aside0 (spec_l3Step.j0 kq x2_4 x201000_4 x201001_4 x201002_4 x201003_4 a3_0 a3_1 a3_2 a3_3 = some (r1, r2, r3, r4, r5)) ∧ Aside0 (kq ≤ k) ∧ Aside0 (Kd.R (Kd.int .i64) 3 wc w0.heap.size (fun k_ => ((P1_0_ k_ ∨ P1_1_ k_ ∨ P2_ k_) ∨ w.heap.size ≤ k_)) u9002_ x2_4) ∧ Aside0 (Kd.R k48 48 wc w0.heap.size (fun k_ => ((P1_0_ k_ ∨ P1_1_ k_ ∨ P2_ k_) ∨ w.heap.size ≤ k_)) u201000 x201000_4) ∧ Aside0 (Kd.R k36 36 wc w0.heap.size (fun k_ => ((P1_0_ k_ ∨ P1_1_ k_ ∨ P2_ k_) ∨ w.heap.size ≤ k_)) u201001 x201001_4) ∧ Aside0 (wc.heap[gb200]? = some (.cells #[u201000, u201001, .int .i64 x201002_4, .int .i64 x201003_4] 30 (0, 0))) ∧ Aside0 (wc.heap[gb201]? = some (.cells #[.int .i64 a3_0, .int .i64 a3_1, .int .i64 a3_2, .int .i64 a3_3] 34 (0, 0))) ∧ Aside0 (wc.heap[gb202]? = some (.cells #[(.slice none 0 0), (.slice none 0 0), .int .i64 0, .int .i64 0] 30 (0, 0))) ∧ Aside0 (Kept w wc (fun k_ => P1_0_ k_ ∨ P1_1_ k_ ∨ P2_ k_)) ∧ Aside0 (Below w0.heap.size w0 wc))
 case first =>
  have H := HC5.out
  clear HC5
  by_cases c14 : a3_0 = 1
  ·rw [if_pos c14] at H
   have c14b0 : (a3_0 == 1) = true := beq_iff_eq.mpr c14
   have c14b1 : (a3_0 != 1) = false := bne_eq_false_iff_eq.mpr c14
   clear c14
   (first | rw [c14b0] | (simp only [i64_w, i32_w]; rw [c14b0]) | skip)
   replace H := Option.bind_eq_some_iff.mp H
   obtain ⟨⟨t203, t204, t207, t210, t211⟩, A150, H⟩ := H
   (try dsimp only at H)
   have A15 := Aside0.mk A150
   clear A150
   by_cases c16 : 0 ≤ a3_1
   ·rw [if_pos c16] at H
    have c16b0 : decide (0 ≤ a3_1) = true := decide_eq_true c16
    clear c16
    by_cases c17 : a3_1 < (l2.length : Int)
    ·rw [if_pos c17] at H
     have c17b0 : decide (a3_1 < (l2.length : Int)) = true := decide_eq_true c17
     clear c17
     obtain ⟨y213, hy213⟩ : ∃ y_ : List Int, y_ = (l2.set (a3_1 : Int).toNat t203) := ⟨_, rfl⟩
     replace H : (spec_l3Step.j0 k y213 t204 t207 t210 t211 a3_0 a3_1 a3_2 a3_3) = some (r1, r2, r3, r4, r5) := by first | (rw [hy213]; with_reducible exact H) | (have H2_ := (Option.bind_some _ _).symm.trans H; rw [hy213]; with_reducible exact H2_) | (have H2_ := (Option.bind_some _ _).symm.trans H; with_reducible exact H2_) | with_reducible exact H | (rw [hy213]; exact H) | exact H
     have Ny213 := Aside0.mk hy213
     clear hy213
     have H' := Aside0.mk H
     clear H
     have hnb19 := NB200_201.out
     have hnc19 := NB201_200.out
     have hnb20 := NB200_202.out
     have hnc20 := NB202_200.out
     have hcz21_0 := bc0_ BK200.out
     have hcz21_1 := bc1_ BK200.out
     have hcz21_2 := bc2_ BK200.out
     have hcz21_3 := bc3_ BK200.out
     have hfz21_0 := blk_frozen BK200.out 0
     have hfz21_1 := blk_frozen BK200.out 1
     have hfz21_2 := blk_frozen BK200.out 2
     have hfz21_3 := blk_frozen BK200.out 3
     have hnb22 := NB201_202.out
     have hnc22 := NB202_201.out
     have hcz23_0 := bc0_ BK201.out
     have hcz23_1 := bc1_ BK201.out
     have hcz23_2 := bc2_ BK201.out
     have hcz23_3 := bc3_ BK201.out
     have hfz23_0 := blk_frozen BK201.out 0
     have hfz23_1 := blk_frozen BK201.out 1
     have hfz23_2 := blk_frozen BK201.out 2
     have hfz23_3 := blk_frozen BK201.out 3
     go_wp2_with (first | ((with_reducible refine gate_callee (f := 100) rfl ?_); refine goesL_ (some 20) rfl rfl Try.func100 (by kernel_rfl) rfl #[.slice A0 l0.length c0, .agg #[.slice Ao6 l1_0.length co6, .slice Ao7 l1_1.length co7, .int .i64 a1_2, .int .i64 a1_3], .int .i64 a3_2] rfl zq1_ ?_; (with_reducible refine (spec_l3Look.calls k _ _ l0 (fun k_ => some k_ = (.slice Ao6 l1_0.length co6 : Value).ownBlock) (.slice Ao6 l1_0.length co6) l1_0 (fun k_ => some k_ = (.slice Ao7 l1_1.length co7 : Value).ownBlock) (.slice Ao7 l1_1.length co7) l1_1 a1_2 a1_3 a3_2 t203 t204 t207 t210 t211 w0 _ ?side1 ?side2 ?side3 ?side4 ?side5 A15.out).mono ?_); (case side1 => exact zq8a_); (case side2 => exact Kd.C_kept_call HR0.out zqa9_ (fun k_ hs_ => Or.elim hs_ (fun e_ => (fun e_ => (HO1_0.out.1 k_ e_.symm)) e_) (fun e_ => (fun e_ => (HO1_1.out.1 k_ e_.symm)) e_))); (case side3 => exact HC0.out); (case side4 => exact Kd.R_tight rfl HO1_0.out); (case side5 => exact Kd.R_tight rfl HO1_1.out); rintro e w24 ⟨v205, v208, rfl, ho0, ho1, hb, hkp⟩; refine ⟨_, rfl, ?_⟩; have n_ := A8_ (Kd.R_mono (ok' := fun k_ => ((P1_0_ k_ ∨ P1_1_ k_ ∨ P2_ k_) ∨ w.heap.size ≤ k_)) (Kd.R_keptB ((Kd.R_apart' (Kd.R_apart' HO2.out (Kd.R_typed HO1_0.out) (by decide)) (Kd.R_typed HO1_1.out) (by decide))) hkp (fun k_ hk_ hs_ => Or.elim hs_ (fun e_ => (hk_.1.2) e_) (fun e_ => (hk_.2) e_))) (fun k_ hk_ => hk_.1.1.1)) (blk_kept zq3f_ hkp (fun hs_ => Or.elim hs_ (fun e_ => (fun e_ => (Kd.R_ne HO1_0.out BK200.out (by decide)) e_) e_) (fun e_ => (fun e_ => (Kd.R_ne HO1_1.out BK200.out (by decide)) e_) e_))) (blk_kept zq40_ hkp (fun hs_ => Or.elim hs_ (fun e_ => (fun e_ => (Kd.R_ne HO1_0.out BK201.out (by decide)) e_) e_) (fun e_ => (fun e_ => (Kd.R_ne HO1_1.out BK201.out (by decide)) e_) e_))) (blk_kept zq41_ hkp (fun hs_ => Or.elim hs_ (fun e_ => (fun e_ => (Kd.R_ne HO1_0.out BK202.out (by decide)) e_) e_) (fun e_ => (fun e_ => (Kd.R_ne HO1_1.out BK202.out (by decide)) e_) e_))) (Kd.R_mono (ok' := fun k_ => ((P1_0_ k_ ∨ P1_1_ k_ ∨ P2_ k_) ∨ w.heap.size ≤ k_)) ho0 (fun k_ hk_ => Or.elim hk_ (fun hs_ => Or.elim hs_ (fun hs_ => (HO1_0.out.1 k_ (hs_).symm)) (fun hs_ => (HO1_1.out.1 k_ (hs_).symm))) (fun hn_ => (.inr (Nat.le_trans zqc6_ hn_))))) (Kd.R_mono (ok' := fun k_ => ((P1_0_ k_ ∨ P1_1_ k_ ∨ P2_ k_) ∨ w.heap.size ≤ k_)) ho1 (fun k_ hk_ => Or.elim hk_ (fun hs_ => Or.elim hs_ (fun hs_ => (HO1_0.out.1 k_ (hs_).symm)) (fun hs_ => (HO1_1.out.1 k_ (hs_).symm))) (fun hn_ => (.inr (Nat.le_trans zqc6_ hn_))))) (Kept.then_ (S := (fun k_ => P1_0_ k_ ∨ P1_1_ k_ ∨ P2_ k_)) zqa9_ hkp (fun k_ hs_ => Or.elim hs_ (fun e_ => (fun e_ => (HO1_0.out.1 k_ e_.symm)) e_) (fun e_ => (fun e_ => (HO1_1.out.1 k_ e_.symm)) e_))) (hb); clear HO2 BK200 BK201 BK202 HK HB HO1_0 HO1_1; obtain ⟨HO2, BK200, BK201, BK202, HO206, HO209, HK, HB⟩ := n_; (try clear hb); (try clear hkp); (try clear ho0); (try clear ho1)) | ((with_reducible refine gate_dst (N := 10) rfl ?_); refine bxe_ (N := 10) (cs := #[.slice none 0 0, .slice none 0 0, .int .i64 0, .int .i64 0]) (t := 30) ?_; intro gb212 hg w25 hbox hb; have n0_ := Aside0.mk (Kd.R_below zq12_ hb); have n1_ := Aside0.mk (Kd.R_below zq13_ hb); have n2_ := Aside0.mk (Kd.R_below zq14_ hb); have n3_ := Aside0.mk (blk_below (g := gb200) (o := .cells #[.slice Ao6 l1_0.length co6, .slice Ao7 l1_1.length co7, .int .i64 a1_2, .int .i64 a1_3] 30 (0, 0)) zq3f_ hb); have n4_ := Aside0.mk (blk_below (g := gb201) (o := .cells #[.int .i64 a3_0, .int .i64 a3_1, .int .i64 a3_2, .int .i64 a3_3] 34 (0, 0)) zq40_ hb); have n5_ := Aside0.mk (blk_below (g := gb202) (o := .cells #[.slice none 0 0, .slice none 0 0, .int .i64 0, .int .i64 0] 30 (0, 0)) zq41_ hb); have n6_ := Aside0.mk (Kept.below (S := (fun k_ => P1_0_ k_ ∨ P1_1_ k_ ∨ P2_ k_)) zqa9_ hb); have n7_ := Aside0.mk (below_step zq8a_ hb); have n8_ := Aside0.mk (hbox); have n9_ := Aside0.mk ((by rw [hg]; exact zqc6_ : w.heap.size ≤ gb212)); have n10_ := Aside0.mk ((by rw [hg]; exact (below_size zq8a_) : w0.heap.size ≤ gb212)); have n11_ := Aside0.mk ((zqe9_ : gb200 ≠ gb212)); have n12_ := Aside0.mk ((zqda_ : gb212 ≠ gb200)); have n13_ := Aside0.mk ((zqea_ : gb201 ≠ gb212)); have n14_ := Aside0.mk ((zqdb_ : gb212 ≠ gb201)); have n15_ := Aside0.mk ((by rw [hg]; exact Nat.ne_of_lt (blk_lt (g := gb202) (o := .cells #[.slice none 0 0, .slice none 0 0, .int .i64 0, .int .i64 0] 30 (0, 0)) zq41_) : gb202 ≠ gb212)); have n16_ := Aside0.mk ((by rw [hg]; exact Nat.ne_of_gt (blk_lt (g := gb202) (o := .cells #[.slice none 0 0, .slice none 0 0, .int .i64 0, .int .i64 0] 30 (0, 0)) zq41_) : gb212 ≠ gb202)); clear HO2; clear HO206; clear HO209; clear BK200; clear BK201; clear BK202; clear HK; clear HB; have HO2 := n0_; have HO206 := n1_; have HO209 := n2_; have BK200 := n3_; have BK201 := n4_; have BK202 := n5_; have HK := n6_; have HB := n7_; have BK212 := n8_; have GW212 := n9_; have GE212 := n10_; have NB200_212 := n11_; have NB212_200 := n12_; have NB201_212 := n13_; have NB212_201 := n14_; have NB202_212 := n15_; have NB212_202 := n16_; clear n0_ n1_ n2_ n3_ n4_ n5_ n6_ n7_ n8_ n9_ n10_ n11_ n12_ n13_ n14_ n15_ n16_; clear hb hbox hg; obtain ⟨Ao26, co26, eo26⟩ := Kd.R_slice HO206.out; subst eo26; have hnb27 := NB212_200.out; have hnc27 := NB200_212.out; have hnb28 := NB212_201.out; have hnc28 := NB201_212.out; have hnb29 := NB212_202.out; have hnc29 := NB202_212.out; have hcz30_0 := bc0_ BK212.out; have hcz30_1 := bc1_ BK212.out; have hcz30_2 := bc2_ BK212.out; have hcz30_3 := bc3_ BK212.out; have hfz30_0 := blk_frozen BK212.out 0; have hfz30_1 := blk_frozen BK212.out 1; have hfz30_2 := blk_frozen BK212.out 2; have hfz30_3 := blk_frozen BK212.out 3; obtain ⟨Ao31, co31, eo31⟩ := Kd.R_slice HO209.out; subst eo31) | ((with_reducible refine gate_store (t := 30) (p := 10) rfl ?_); refine store_event (t := 30) (p := 10) (v := ?vo_w32) (w1 := ((((w25.setCell ⟨gb212, 0, none⟩ (.slice Ao26 t204.length co26)).setCell ⟨gb212, 1, none⟩ (.slice Ao31 t207.length co31)).setCell ⟨gb212, 2, none⟩ (.int .i64 t210)).setCell ⟨gb212, 3, none⟩ (.int .i64 t211))) ?hg ?ho ?hn ?hr ?_; (case ho => rfl); (case hg => rfl); (case hn => rfl); (case hr => first | (go_simp; done) | (go_simp; rfl)); intro w32 hw; have n0_ : Aside0 (Kd.R (Kd.int .i64) 3 w32 w0.heap.size (fun k_ => ((P1_0_ k_ ∨ P1_1_ k_ ∨ P2_ k_) ∨ w.heap.size ≤ k_)) u9002_ l2) := ⟨(by rw [hw]; exact (by (with_reducible repeat (first | apply Kd.R_alloc | apply Kd.R_drewN | apply Kd.R_drew)); exact Kd.R_mono (Kd.R_far (p := ⟨gb212, 3, none⟩) (Kd.R_far (p := ⟨gb212, 2, none⟩) (Kd.R_far (p := ⟨gb212, 1, none⟩) (Kd.R_far (p := ⟨gb212, 0, none⟩) (Kd.R_types HO2.out BK212.out (by decide)) (fun _ hk => hk.2) (.slice Ao26 t204.length co26)) (fun _ hk => hk.2) (.slice Ao31 t207.length co31)) (fun _ hk => hk.2) (.int .i64 t210)) (fun _ hk => hk.2) (.int .i64 t211)) (fun _ hk => hk.1)))⟩; have n1_ : Aside0 (Kd.R k48 48 w32 w0.heap.size (fun k_ => ((P1_0_ k_ ∨ P1_1_ k_ ∨ P2_ k_) ∨ w.heap.size ≤ k_)) (.slice Ao26 t204.length co26) t204) := ⟨(by rw [hw]; exact (by (with_reducible repeat (first | apply Kd.R_alloc | apply Kd.R_drewN | apply Kd.R_drew)); exact Kd.R_mono (Kd.R_far (p := ⟨gb212, 3, none⟩) (Kd.R_far (p := ⟨gb212, 2, none⟩) (Kd.R_far (p := ⟨gb212, 1, none⟩) (Kd.R_far (p := ⟨gb212, 0, none⟩) (Kd.R_types HO206.out BK212.out (by decide)) (fun _ hk => hk.2) (.slice Ao26 t204.length co26)) (fun _ hk => hk.2) (.slice Ao31 t207.length co31)) (fun _ hk => hk.2) (.int .i64 t210)) (fun _ hk => hk.2) (.int .i64 t211)) (fun _ hk => hk.1)))⟩; have n2_ : Aside0 (Kd.R k36 36 w32 w0.heap.size (fun k_ => ((P1_0_ k_ ∨ P1_1_ k_ ∨ P2_ k_) ∨ w.heap.size ≤ k_)) (.slice Ao31 t207.length co31) t207) := ⟨(by rw [hw]; exact (by (with_reducible repeat (first | apply Kd.R_alloc | apply Kd.R_drewN | apply Kd.R_drew)); exact Kd.R_mono (Kd.R_far (p := ⟨gb212, 3, none⟩) (Kd.R_far (p := ⟨gb212, 2, none⟩) (Kd.R_far (p := ⟨gb212, 1, none⟩) (Kd.R_far (p := ⟨gb212, 0, none⟩) (Kd.R_types HO209.out BK212.out (by decide)) (fun _ hk => hk.2) (.slice Ao26 t204.length co26)) (fun _ hk => hk.2) (.slice Ao31 t207.length co31)) (fun _ hk => hk.2) (.int .i64 t210)) (fun _ hk => hk.2) (.int .i64 t211)) (fun _ hk => hk.1)))⟩; have n3_ : Aside0 (w32.heap[gb200]? = some (.cells #[.slice Ao6 l1_0.length co6, .slice Ao7 l1_1.length co7, .int .i64 a1_2, .int .i64 a1_3] 30 (0, 0))) := ⟨(by rw [hw]; exact (by (with_reducible repeat (first | refine blk_drewN ?_ _ | refine blk_drew ?_ | refine blk_alloc ?_ _)); refine blk_far ?_ NB200_212.out _; (with_reducible repeat (first | refine blk_drewN ?_ _ | refine blk_drew ?_ | refine blk_alloc ?_ _)); refine blk_far ?_ NB200_212.out _; (with_reducible repeat (first | refine blk_drewN ?_ _ | refine blk_drew ?_ | refine blk_alloc ?_ _)); refine blk_far ?_ NB200_212.out _; (with_reducible repeat (first | refine blk_drewN ?_ _ | refine blk_drew ?_ | refine blk_alloc ?_ _)); refine blk_far ?_ NB200_212.out _; (with_reducible repeat (first | refine blk_drewN ?_ _ | refine blk_drew ?_ | refine blk_alloc ?_ _)); exact BK200.out))⟩; have n4_ : Aside0 (w32.heap[gb201]? = some (.cells #[.int .i64 a3_0, .int .i64 a3_1, .int .i64 a3_2, .int .i64 a3_3] 34 (0, 0))) := ⟨(by rw [hw]; exact (by (with_reducible repeat (first | refine blk_drewN ?_ _ | refine blk_drew ?_ | refine blk_alloc ?_ _)); refine blk_far ?_ NB201_212.out _; (with_reducible repeat (first | refine blk_drewN ?_ _ | refine blk_drew ?_ | refine blk_alloc ?_ _)); refine blk_far ?_ NB201_212.out _; (with_reducible repeat (first | refine blk_drewN ?_ _ | refine blk_drew ?_ | refine blk_alloc ?_ _)); refine blk_far ?_ NB201_212.out _; (with_reducible repeat (first | refine blk_drewN ?_ _ | refine blk_drew ?_ | refine blk_alloc ?_ _)); refine blk_far ?_ NB201_212.out _; (with_reducible repeat (first | refine blk_drewN ?_ _ | refine blk_drew ?_ | refine blk_alloc ?_ _)); exact BK201.out))⟩; have n5_ : Aside0 (w32.heap[gb202]? = some (.cells #[.slice none 0 0, .slice none 0 0, .int .i64 0, .int .i64 0] 30 (0, 0))) := ⟨(by rw [hw]; exact (by (with_reducible repeat (first | refine blk_drewN ?_ _ | refine blk_drew ?_ | refine blk_alloc ?_ _)); refine blk_far ?_ NB202_212.out _; (with_reducible repeat (first | refine blk_drewN ?_ _ | refine blk_drew ?_ | refine blk_alloc ?_ _)); refine blk_far ?_ NB202_212.out _; (with_reducible repeat (first | refine blk_drewN ?_ _ | refine blk_drew ?_ | refine blk_alloc ?_ _)); refine blk_far ?_ NB202_212.out _; (with_reducible repeat (first | refine blk_drewN ?_ _ | refine blk_drew ?_ | refine blk_alloc ?_ _)); refine blk_far ?_ NB202_212.out _; (with_reducible repeat (first | refine blk_drewN ?_ _ | refine blk_drew ?_ | refine blk_alloc ?_ _)); exact BK202.out))⟩; have n6_ : Aside0 (w32.heap[gb212]? = some (.cells #[.slice Ao26 t204.length co26, .slice Ao31 t207.length co31, .int .i64 t210, .int .i64 t211] 30 (0, 0))) := ⟨(by rw [hw]; exact (by (with_reducible repeat (first | refine blk_drewN ?_ _ | refine blk_drew ?_ | refine blk_alloc ?_ _)); refine blk_put (cs := #[.slice Ao26 t204.length co26, .slice Ao31 t207.length co31, .int .i64 t210, .int .i64 0]) ?_ 3 _ rfl; (with_reducible repeat (first | refine blk_drewN ?_ _ | refine blk_drew ?_ | refine blk_alloc ?_ _)); refine blk_put (cs := #[.slice Ao26 t204.length co26, .slice Ao31 t207.length co31, .int .i64 0, .int .i64 0]) ?_ 2 _ rfl; (with_reducible repeat (first | refine blk_drewN ?_ _ | refine blk_drew ?_ | refine blk_alloc ?_ _)); refine blk_put (cs := #[.slice Ao26 t204.length co26, .slice none 0 0, .int .i64 0, .int .i64 0]) ?_ 1 _ rfl; (with_reducible repeat (first | refine blk_drewN ?_ _ | refine blk_drew ?_ | refine blk_alloc ?_ _)); refine blk_put (cs := #[.slice none 0 0, .slice none 0 0, .int .i64 0, .int .i64 0]) ?_ 0 _ rfl; (with_reducible repeat (first | refine blk_drewN ?_ _ | refine blk_drew ?_ | refine blk_alloc ?_ _)); exact BK212.out))⟩; have n7_ : Aside0 (Kept w w32 (fun k_ => P1_0_ k_ ∨ P1_1_ k_ ∨ P2_ k_)) := ⟨(by rw [hw]; exact zqa8_)⟩; have n8_ : Aside0 (Below w0.heap.size w0 w32) := ⟨(by rw [hw]; exact zq89_)⟩; clear hw; clear HO2; clear HO206; clear HO209; clear BK200; clear BK201; clear BK202; clear BK212; clear HK; clear HB; have HO2 := n0_; have HO206 := n1_; have HO209 := n2_; have BK200 := n3_; have BK201 := n4_; have BK202 := n5_; have BK212 := n6_; have HK := n7_; have HB := n8_; clear n0_ n1_ n2_ n3_ n4_ n5_ n6_ n7_ n8_; have hcz33_0 := bc0_ BK201.out; have hcz33_1 := bc1_ BK201.out; have hcz33_2 := bc2_ BK201.out; have hcz33_3 := bc3_ BK201.out; have hfz33_0 := blk_frozen BK201.out 0; have hfz33_1 := blk_frozen BK201.out 1; have hfz33_2 := blk_frozen BK201.out 2; have hfz33_3 := blk_frozen BK201.out 3; have p18 : 0 ≤ (a3_1 : Int) := of_decide_eq_true zq71_; have q18 : (a3_1 : Int) < ((l2.length : Int) : Int) := of_decide_eq_true zq71_; obtain ⟨go18, co18, eo18, gb18, gl18, cl18, HG18⟩ := Kd.R_form HO2.out (by omega); (first | cases eo18 | (injection eo18 with ea_ en_ ec_; (first | subst ea_ | (injection ea_ with ea_; subst ea_)); subst ec_; clear en_)); have GB18 := Aside0.mk gb18; have GG18 := Aside0.mk HG18; clear gb18 gl18 HG18; have HMgo18 := Aside0.mk (show ((P1_0_ go18 ∨ P1_1_ go18 ∨ P2_ go18) ∨ w.heap.size ≤ go18) from (HO2.out.1 _ rfl)); obtain ⟨hx18_0, hf18_0⟩ := Kd.R_celln 0 HO2.out (a3_1 : Int) p18 q18; replace p18 := eq_true p18; replace q18 := eq_true q18; obtain ⟨hy34_, hz34_⟩ := Kd.R_celln 0 HO2.out (a3_1 : Int) (of_decide_eq_true zq71_) (of_decide_eq_true zq71_); have HP34 := Kd.R_putg HO2.out (a3_1 : Int) t203) | ((with_reducible refine gate_store (t := 3) (p := 27) rfl ?_); refine store_event (t := 3) (p := 27) (v := ?vo_w35) (w1 := (w32.setCell ⟨go18, (a3_1 : Int).toNat, none⟩ (.int .i64 t203))) ?hg ?ho ?hn ?hr ?_; (case ho => rfl); (case hg => rfl); (case hn => rfl); (case hr => first | (go_simp; done) | (go_simp; rfl)); intro w35 hw; have hg : w32.grownBy w35 (some go18) := (by rw [hw]; exact HP34.2); have hp_ : Kd.R (Kd.int .i64) 3 w35 w0.heap.size (fun k_ => ((P1_0_ k_ ∨ P1_1_ k_ ∨ P2_ k_) ∨ w.heap.size ≤ k_)) (.slice (some ⟨go18, 0, none⟩) l2.length co18) y213 := (by rw [hw, Ny213.out]; exact HP34.1); clear HP34; have n_ := A9_ (hp_) (blk_grown (g := gb200) (o := .cells #[.slice Ao6 l1_0.length co6, .slice Ao7 l1_1.length co7, .int .i64 a1_2, .int .i64 a1_3] 30 (0, 0)) zq3f_ hg (Kd.R_ne HO2.out BK200.out (by decide))) (blk_grown (g := gb201) (o := .cells #[.int .i64 a3_0, .int .i64 a3_1, .int .i64 a3_2, .int .i64 a3_3] 34 (0, 0)) zq40_ hg (Kd.R_ne HO2.out BK201.out (by decide))) (blk_grown (g := gb202) (o := .cells #[.slice none 0 0, .slice none 0 0, .int .i64 0, .int .i64 0] 30 (0, 0)) zq41_ hg (Kd.R_ne HO2.out BK202.out (by decide))) (Kd.R_over' (v := (.slice (some ⟨go18, 0, none⟩) l2.length co18)) zq13_ (Kd.R_typed HO2.out) (by decide) hg) (Kd.R_over' (v := (.slice (some ⟨go18, 0, none⟩) l2.length co18)) zq14_ (Kd.R_typed HO2.out) (by decide) hg) (blk_grown (g := gb212) (o := .cells #[.slice Ao26 t204.length co26, .slice Ao31 t207.length co31, .int .i64 t210, .int .i64 t211] 30 (0, 0)) (by (with_reducible repeat (first | refine blk_drewN ?_ _ | refine blk_drew ?_ | refine blk_alloc ?_ _)); exact BK212.out) hg (Kd.R_ne HO2.out BK212.out (by decide))) ((by rw [hw]; exact below_set (HB.out) GB18.out : Below w0.heap.size w0 w35)) (Kept.of_grown (S := (fun k_ => P1_0_ k_ ∨ P1_1_ k_ ∨ P2_ k_)) hg zqa8_ (fun k_ e_ => (HO2.out.1 k_ e_))); clear HO2 BK200 BK201 BK202 HO206 HO209 BK212 HB HK; obtain ⟨HO2, BK200, BK201, BK202, HO206, HO209, BK212, HB, HK⟩ := n_; clear hg hw hp_; have hcz36_0 := bc0_ BK212.out; have hcz36_1 := bc1_ BK212.out; have hcz36_2 := bc2_ BK212.out; have hcz36_3 := bc3_ BK212.out; have hfz36_0 := blk_frozen BK212.out 0; have hfz36_1 := blk_frozen BK212.out 1; have hfz36_2 := blk_frozen BK212.out 2; have hfz36_3 := blk_frozen BK212.out 3; have hcz37_0 := bc0_ BK200.out; have hcz37_1 := bc1_ BK200.out; have hcz37_2 := bc2_ BK200.out; have hcz37_3 := bc3_ BK200.out; have hfz37_0 := blk_frozen BK200.out 0; have hfz37_1 := blk_frozen BK200.out 1; have hfz37_2 := blk_frozen BK200.out 2; have hfz37_3 := blk_frozen BK200.out 3))
     go_meet
     case rel => exact ⟨_, (y213), (t204), (t207), (t210), (t211), (.slice Ao26 t204.length co26), (.slice Ao31 t207.length co31), H', ⟨zq74_⟩, ⟨by (with_reducible repeat (first | apply Kd.R_alloc | apply Kd.R_drewN | apply Kd.R_drew)); exact Kd.R_mono (Kd.R_far (p := ⟨gb200, 3, none⟩) (Kd.R_far (p := ⟨gb200, 2, none⟩) (Kd.R_far (p := ⟨gb200, 1, none⟩) (Kd.R_far (p := ⟨gb200, 0, none⟩) (Kd.R_types HO2.out BK200.out (by decide)) (fun _ hk => hk.2) (.slice Ao26 t204.length co26)) (fun _ hk => hk.2) (.slice Ao31 t207.length co31)) (fun _ hk => hk.2) (.int .i64 t210)) (fun _ hk => hk.2) (.int .i64 t211)) (fun _ hk => hk.1)⟩, ⟨by (with_reducible repeat (first | apply Kd.R_alloc | apply Kd.R_drewN | apply Kd.R_drew)); exact Kd.R_mono (Kd.R_far (p := ⟨gb200, 3, none⟩) (Kd.R_far (p := ⟨gb200, 2, none⟩) (Kd.R_far (p := ⟨gb200, 1, none⟩) (Kd.R_far (p := ⟨gb200, 0, none⟩) (Kd.R_types HO206.out BK200.out (by decide)) (fun _ hk => hk.2) (.slice Ao26 t204.length co26)) (fun _ hk => hk.2) (.slice Ao31 t207.length co31)) (fun _ hk => hk.2) (.int .i64 t210)) (fun _ hk => hk.2) (.int .i64 t211)) (fun _ hk => hk.1)⟩, ⟨by (with_reducible repeat (first | apply Kd.R_alloc | apply Kd.R_drewN | apply Kd.R_drew)); exact Kd.R_mono (Kd.R_far (p := ⟨gb200, 3, none⟩) (Kd.R_far (p := ⟨gb200, 2, none⟩) (Kd.R_far (p := ⟨gb200, 1, none⟩) (Kd.R_far (p := ⟨gb200, 0, none⟩) (Kd.R_types HO209.out BK200.out (by decide)) (fun _ hk => hk.2) (.slice Ao26 t204.length co26)) (fun _ hk => hk.2) (.slice Ao31 t207.length co31)) (fun _ hk => hk.2) (.int .i64 t210)) (fun _ hk => hk.2) (.int .i64 t211)) (fun _ hk => hk.1)⟩, ⟨by (with_reducible repeat (first | refine blk_drewN ?_ _ | refine blk_drew ?_ | refine blk_alloc ?_ _)); refine blk_put (cs := #[.slice Ao26 t204.length co26, .slice Ao31 t207.length co31, .int .i64 t210, .int .i64 a1_3]) ?_ 3 _ rfl; (with_reducible repeat (first | refine blk_drewN ?_ _ | refine blk_drew ?_ | refine blk_alloc ?_ _)); refine blk_put (cs := #[.slice Ao26 t204.length co26, .slice Ao31 t207.length co31, .int .i64 a1_2, .int .i64 a1_3]) ?_ 2 _ rfl; (with_reducible repeat (first | refine blk_drewN ?_ _ | refine blk_drew ?_ | refine blk_alloc ?_ _)); refine blk_put (cs := #[.slice Ao26 t204.length co26, .slice Ao7 l1_1.length co7, .int .i64 a1_2, .int .i64 a1_3]) ?_ 1 _ rfl; (with_reducible repeat (first | refine blk_drewN ?_ _ | refine blk_drew ?_ | refine blk_alloc ?_ _)); refine blk_put (cs := #[.slice Ao6 l1_0.length co6, .slice Ao7 l1_1.length co7, .int .i64 a1_2, .int .i64 a1_3]) ?_ 0 _ rfl; (with_reducible repeat (first | refine blk_drewN ?_ _ | refine blk_drew ?_ | refine blk_alloc ?_ _)); exact BK200.out⟩, ⟨zq5e_⟩, ⟨zq5f_⟩, ⟨zqa8_⟩, ⟨zq89_⟩⟩
    ·rw [if_neg c17] at H
     exact absurd H (by simp)
   ·rw [if_neg c16] at H
    exact absurd H (by simp)
  ·rw [if_neg c14] at H
   have c14b0 : (a3_0 == 1) = false := beq_eq_false_iff_ne.mpr c14
   have c14b1 : (a3_0 != 1) = true := bne_iff_ne.mpr c14
   (first | rw [c14b0] | (simp only [i64_w, i32_w]; rw [c14b0]) | skip)
   by_cases c38 : a3_0 = 2
   ·rw [if_pos c38] at H
    have c38b0 : (a3_0 == 2) = true := beq_iff_eq.mpr c38
    have c38b1 : (a3_0 != 2) = false := bne_eq_false_iff_eq.mpr c38
    clear c38
    by_cases c39 : 0 ≤ a3_2
    ·rw [if_pos c39] at H
     have c39b0 : decide (0 ≤ a3_2) = true := decide_eq_true c39
     clear c39
     by_cases c40 : a3_2 < (l2.length : Int)
     ·rw [if_pos c40] at H
      have c40b0 : decide (a3_2 < (l2.length : Int)) = true := decide_eq_true c40
      clear c40
      replace H := Option.bind_eq_some_iff.mp H
      obtain ⟨⟨t215, t218, t221, t222⟩, A410, H⟩ := H
      (try dsimp only at H)
      have A41 := Aside0.mk A410
      clear A410
      have H' := Aside0.mk H
      clear H
      try go_wp2
      have n_ := A8_ (Kd.R_drew HO1_0.out) (Kd.R_drew HO1_1.out) (Kd.R_drew HO2.out) (blk_drew BK200.out) (blk_drew BK201.out) (blk_drew BK202.out) (Kept.drew HK.out) (below_drew1 HB.out)
      clear HO1_0 HO1_1 HO2 BK200 BK201 BK202 HK HB
      obtain ⟨HO1_0, HO1_1, HO2, BK200, BK201, BK202, HK, HB⟩ := n_
      obtain ⟨Ao43, co43, eo43⟩ := Kd.R_slice HO2.out
      (first | subst eo43 | (injection eo43 with f1_ f2_ f3_; have f4_ := f1_.symm; have f5_ := f3_.symm; clear f1_ f2_ f3_; subst f4_; subst f5_))
      have p214 : 0 ≤ (a3_2 : Int) := of_decide_eq_true zq71_
      have q214 : a3_2 < (l2.length : Int) := of_decide_eq_true zq71_
      obtain ⟨ad214, e214, hx214_0⟩ := Kd.at_int (Kd.R_reads' HO2.out).2.2 a3_2 p214 q214
      cases e214
      replace p214 := eq_true p214
      replace q214 := eq_true q214
      refine start_ (n := 10) (S := fun w' => w'.cell? ⟨gb200, 0, none⟩ = some (.slice Ao6 l1_0.length co6) ∧ w'.cell? ⟨gb200, 1, none⟩ = some (.slice Ao7 l1_1.length co7) ∧ w'.cell? ⟨gb200, 2, none⟩ = some (.int .i64 a1_2) ∧ w'.cell? ⟨gb200, 3, none⟩ = some (.int .i64 a1_3) ∧ w'.cell? ⟨gb201, 0, none⟩ = some (.int .i64 a3_0) ∧ w'.cell? ⟨gb201, 1, none⟩ = some (.int .i64 a3_1) ∧ w'.cell? ⟨gb201, 2, none⟩ = some (.int .i64 a3_2) ∧ w'.cell? ⟨gb201, 3, none⟩ = some (.int .i64 a3_3) ∧ w'.cell? (ad214.add (a3_2).toNat) = some (.int .i64 (rd l2 a3_2))) (ds := [9]) #[false, false, false, false, false, false, false, false, false, false] (by kernel_rfl) rfl rfl ⟨(blk_cell BK200.out 0).trans rfl, (blk_cell BK200.out 1).trans rfl, (blk_cell BK200.out 2).trans rfl, (blk_cell BK200.out 3).trans rfl, (blk_cell BK201.out 0).trans rfl, (blk_cell BK201.out 1).trans rfl, (blk_cell BK201.out 2).trans rfl, (blk_cell BK201.out 3).trans rfl, hx214_0⟩ (fun hHeld => ?_); refine with_tabW spec_l3Step.tab7 spec_l3Step.bits7 (fun HT_ HW_ => ?_)
      generalize w10.drew = w42 at HO1_0 HO1_1 HO2 BK200 BK201 BK202 HK HB hx214_0 hHeld ⊢
      refine pv_ (i := 1) (N := some 32) rfl rfl ?_
      refine pv_ (i := 3) (N := some 34) rfl rfl ?_
      refine pv_ (i := 4) (N := some 35) rfl rfl ?_
      refine tv_ (i := 0) (N := some 31) rfl rfl ?_
      refine tv_ (i := 2) (N := some 33) rfl rfl ?_
      refine tv_ (i := 5) (N := some 36) rfl rfl ?_
      refine pv_ (i := 6) (N := some 37) rfl rfl ?_
      refine tv_ (i := 7) (N := some 38) rfl rfl ?_
      refine on_ (i := 8) (N := some 39) rfl rfl (one_of HT_.out (by kernel_rfl)) (by decide) (fun K hK => ?_)
      refine goes_ Try.func101 (by kernel_rfl) rfl #[.agg #[.slice Ao6 l1_0.length co6, .slice Ao7 l1_1.length co7, .int .i64 a1_2, .int .i64 a1_3], .int .i64 a3_1, .int .i64 (rd l2 a3_2)] (by rfl) rfl rfl zq1_ ?_
      with_reducible refine (spec_l3Put.calls k (fun k_ => some k_ = (.slice Ao6 l1_0.length co6 : Value).ownBlock) (.slice Ao6 l1_0.length co6) l1_0 (fun k_ => some k_ = (.slice Ao7 l1_1.length co7 : Value).ownBlock) (.slice Ao7 l1_1.length co7) l1_1 a1_2 a1_3 a3_1 (rd l2 a3_2) t215 t218 t221 t222 w0 _ ?side1 ?side2 ?side3 A41.out).mono ?_
      (case side1 => exact zq8a_)
      (case side2 => exact Kd.R_tight rfl HO1_0.out)
      (case side3 => exact Kd.R_tight rfl HO1_1.out)
      rintro e w44 ⟨v216, v219, rfl, ho0, ho1, hb, hkp⟩
      have HS8_ := cell_kept (hHeld.2.2.2.2.2.2.2.2) hkp (by first | (rw [add_block]; exact (fun hs_ => Or.elim hs_ (fun e_ => ((((Kd.R_apart' (Kd.R_apart' HO2.out (Kd.R_typed HO1_0.out) (by decide)) (Kd.R_typed HO1_1.out) (by decide))).1 _ rfl).1.2) e_) (fun e_ => ((((Kd.R_apart' (Kd.R_apart' HO2.out (Kd.R_typed HO1_0.out) (by decide)) (Kd.R_typed HO1_1.out) (by decide))).1 _ rfl).2) e_))) | (show ¬ _; simp only [add_block]; exact (fun hs_ => Or.elim hs_ (fun e_ => ((((Kd.R_apart' (Kd.R_apart' HO2.out (Kd.R_typed HO1_0.out) (by decide)) (Kd.R_typed HO1_1.out) (by decide))).1 _ rfl).1.2) e_) (fun e_ => ((((Kd.R_apart' (Kd.R_apart' HO2.out (Kd.R_typed HO1_0.out) (by decide)) (Kd.R_typed HO1_1.out) (by decide))).1 _ rfl).2) e_))) | exact (fun hs_ => Or.elim hs_ (fun e_ => ((((Kd.R_apart' (Kd.R_apart' HO2.out (Kd.R_typed HO1_0.out) (by decide)) (Kd.R_typed HO1_1.out) (by decide))).1 _ rfl).1.2) e_) (fun e_ => ((((Kd.R_apart' (Kd.R_apart' HO2.out (Kd.R_typed HO1_0.out) (by decide)) (Kd.R_typed HO1_1.out) (by decide))).1 _ rfl).2) e_)))
      refine ⟨_, rfl, ?_⟩
      have n_ := A8_ (Kd.R_mono (ok' := fun k_ => ((P1_0_ k_ ∨ P1_1_ k_ ∨ P2_ k_) ∨ w.heap.size ≤ k_)) (Kd.R_keptB ((Kd.R_apart' (Kd.R_apart' HO2.out (Kd.R_typed HO1_0.out) (by decide)) (Kd.R_typed HO1_1.out) (by decide))) hkp (fun k_ hk_ hs_ => Or.elim hs_ (fun e_ => (hk_.1.2) e_) (fun e_ => (hk_.2) e_))) (fun k_ hk_ => hk_.1.1.1)) (blk_kept zq3f_ hkp (fun hs_ => Or.elim hs_ (fun e_ => (fun e_ => (Kd.R_ne HO1_0.out BK200.out (by decide)) e_) e_) (fun e_ => (fun e_ => (Kd.R_ne HO1_1.out BK200.out (by decide)) e_) e_))) (blk_kept zq40_ hkp (fun hs_ => Or.elim hs_ (fun e_ => (fun e_ => (Kd.R_ne HO1_0.out BK201.out (by decide)) e_) e_) (fun e_ => (fun e_ => (Kd.R_ne HO1_1.out BK201.out (by decide)) e_) e_))) (blk_kept zq41_ hkp (fun hs_ => Or.elim hs_ (fun e_ => (fun e_ => (Kd.R_ne HO1_0.out BK202.out (by decide)) e_) e_) (fun e_ => (fun e_ => (Kd.R_ne HO1_1.out BK202.out (by decide)) e_) e_))) (Kd.R_mono (ok' := fun k_ => ((P1_0_ k_ ∨ P1_1_ k_ ∨ P2_ k_) ∨ w.heap.size ≤ k_)) ho0 (fun k_ hk_ => Or.elim hk_ (fun hs_ => Or.elim hs_ (fun hs_ => (HO1_0.out.1 k_ (hs_).symm)) (fun hs_ => (HO1_1.out.1 k_ (hs_).symm))) (fun hn_ => (.inr (Nat.le_trans zqc6_ hn_))))) (Kd.R_mono (ok' := fun k_ => ((P1_0_ k_ ∨ P1_1_ k_ ∨ P2_ k_) ∨ w.heap.size ≤ k_)) ho1 (fun k_ hk_ => Or.elim hk_ (fun hs_ => Or.elim hs_ (fun hs_ => (HO1_0.out.1 k_ (hs_).symm)) (fun hs_ => (HO1_1.out.1 k_ (hs_).symm))) (fun hn_ => (.inr (Nat.le_trans zqc6_ hn_))))) (Kept.then_ (S := (fun k_ => P1_0_ k_ ∨ P1_1_ k_ ∨ P2_ k_)) zqa9_ hkp (fun k_ hs_ => Or.elim hs_ (fun e_ => (fun e_ => (HO1_0.out.1 k_ e_.symm)) e_) (fun e_ => (fun e_ => (HO1_1.out.1 k_ e_.symm)) e_))) (hb)
      clear HO2 BK200 BK201 BK202 HK HB HO1_0 HO1_1
      obtain ⟨HO2, BK200, BK201, BK202, HO217, HO220, HK, HB⟩ := n_
      (try clear hb)
      (try clear hkp)
      (try clear ho0)
      (try clear ho1)
      obtain ⟨Ao45, co45, eo45⟩ := Kd.R_slice HO217.out
      (first | subst eo45 | (injection eo45 with f1_ f2_ f3_; have f4_ := f1_.symm; have f5_ := f3_.symm; clear f1_ f2_ f3_; subst f4_; subst f5_))
      obtain ⟨Ao47, co47, eo47⟩ := Kd.R_slice HO220.out
      (first | subst eo47 | (injection eo47 with f1_ f2_ f3_; have f4_ := f1_.symm; have f5_ := f3_.symm; clear f1_ f2_ f3_; subst f4_; subst f5_))
      refine hK.out _ _ ⟨(blk_cell BK200.out 0).trans rfl, (blk_cell BK200.out 1).trans rfl, (blk_cell BK200.out 2).trans rfl, (blk_cell BK200.out 3).trans rfl, (blk_cell BK201.out 0).trans rfl, (blk_cell BK201.out 1).trans rfl, (blk_cell BK201.out 2).trans rfl, (blk_cell BK201.out 3).trans rfl, HS8_⟩ (fun hHeld => ?_)
      clear hK K
      refine norm_ (a' := ?_) ?_ ?_
      rotate_left
      ·show Act.put _ (some 39) _ = _
       simp only [Act.put, List.setIfInBounds_toArray, List.set_cons_zero, List.set_cons_succ, i64_w, i32_w]
       rfl
      refine last_ (i := 9) (N := none) #[true, true, true, true, true, true, true, true, true, true] rfl rfl (one_of HT_.out (by kernel_rfl)) (by decide) (fun K hK => ?_)
      have hs46 : w44.cell? ⟨gb200, 0, none⟩ = some (.slice Ao6 l1_0.length co6) := (blk_cell BK200.out 0).trans rfl
      have hfs46 := blk_frozen BK200.out 0
      have hns46_1 := NB201_200.out
      have hns46_2 := NB202_200.out
      have hms46_1 := NB200_201.out
      have hms46_2 := NB200_202.out
      have hs48 : w44.cell? ⟨gb200, 1, none⟩ = some (.slice Ao7 l1_1.length co7) := (blk_cell BK200.out 1).trans rfl
      have hfs48 := blk_frozen BK200.out 1
      have hns48_1 := NB201_200.out
      have hns48_2 := NB202_200.out
      have hms48_1 := NB200_201.out
      have hms48_2 := NB200_202.out
      have hs49 : w44.cell? ⟨gb200, 2, none⟩ = some (.int .i64 a1_2) := (blk_cell BK200.out 2).trans rfl
      have hfs49 := blk_frozen BK200.out 2
      have hns49_1 := NB201_200.out
      have hns49_2 := NB202_200.out
      have hms49_1 := NB200_201.out
      have hms49_2 := NB200_202.out
      have hs50 : w44.cell? ⟨gb200, 3, none⟩ = some (.int .i64 a1_3) := (blk_cell BK200.out 3).trans rfl
      have hfs50 := blk_frozen BK200.out 3
      have hns50_1 := NB201_200.out
      have hns50_2 := NB202_200.out
      have hms50_1 := NB200_201.out
      have hms50_2 := NB200_202.out
      refine skip_ (w1 := ?_) (by rfl) rfl ?_ ?_
      rotate_left
      ·go_simp
       rfl
      refine hK.out _ _ ?_
      clear hK K
      refine done_ (done_of HT_.out (by kernel_rfl)) ?_
      try go_wp2
      go_meet
      case rel => exact ⟨_, (l2), (t215), (t218), (t221), (t222), (.slice Ao45 t215.length co45), (.slice Ao47 t218.length co47), H', ⟨zq74_⟩, ⟨by (with_reducible repeat (first | apply Kd.R_alloc | apply Kd.R_drewN | apply Kd.R_drew)); exact Kd.R_mono (Kd.R_far (p := ⟨gb200, 3, none⟩) (Kd.R_far (p := ⟨gb200, 2, none⟩) (Kd.R_far (p := ⟨gb200, 1, none⟩) (Kd.R_far (p := ⟨gb200, 0, none⟩) (Kd.R_types HO2.out BK200.out (by decide)) (fun _ hk => hk.2) (.slice Ao45 t215.length co45)) (fun _ hk => hk.2) (.slice Ao47 t218.length co47)) (fun _ hk => hk.2) (.int .i64 t221)) (fun _ hk => hk.2) (.int .i64 t222)) (fun _ hk => hk.1)⟩, ⟨by (with_reducible repeat (first | apply Kd.R_alloc | apply Kd.R_drewN | apply Kd.R_drew)); exact Kd.R_mono (Kd.R_far (p := ⟨gb200, 3, none⟩) (Kd.R_far (p := ⟨gb200, 2, none⟩) (Kd.R_far (p := ⟨gb200, 1, none⟩) (Kd.R_far (p := ⟨gb200, 0, none⟩) (Kd.R_types HO217.out BK200.out (by decide)) (fun _ hk => hk.2) (.slice Ao45 t215.length co45)) (fun _ hk => hk.2) (.slice Ao47 t218.length co47)) (fun _ hk => hk.2) (.int .i64 t221)) (fun _ hk => hk.2) (.int .i64 t222)) (fun _ hk => hk.1)⟩, ⟨by (with_reducible repeat (first | apply Kd.R_alloc | apply Kd.R_drewN | apply Kd.R_drew)); exact Kd.R_mono (Kd.R_far (p := ⟨gb200, 3, none⟩) (Kd.R_far (p := ⟨gb200, 2, none⟩) (Kd.R_far (p := ⟨gb200, 1, none⟩) (Kd.R_far (p := ⟨gb200, 0, none⟩) (Kd.R_types HO220.out BK200.out (by decide)) (fun _ hk => hk.2) (.slice Ao45 t215.length co45)) (fun _ hk => hk.2) (.slice Ao47 t218.length co47)) (fun _ hk => hk.2) (.int .i64 t221)) (fun _ hk => hk.2) (.int .i64 t222)) (fun _ hk => hk.1)⟩, ⟨by (with_reducible repeat (first | refine blk_drewN ?_ _ | refine blk_drew ?_ | refine blk_alloc ?_ _)); refine blk_put (cs := #[.slice Ao45 t215.length co45, .slice Ao47 t218.length co47, .int .i64 t221, .int .i64 a1_3]) ?_ 3 _ rfl; (with_reducible repeat (first | refine blk_drewN ?_ _ | refine blk_drew ?_ | refine blk_alloc ?_ _)); refine blk_put (cs := #[.slice Ao45 t215.length co45, .slice Ao47 t218.length co47, .int .i64 a1_2, .int .i64 a1_3]) ?_ 2 _ rfl; (with_reducible repeat (first | refine blk_drewN ?_ _ | refine blk_drew ?_ | refine blk_alloc ?_ _)); refine blk_put (cs := #[.slice Ao45 t215.length co45, .slice Ao7 l1_1.length co7, .int .i64 a1_2, .int .i64 a1_3]) ?_ 1 _ rfl; (with_reducible repeat (first | refine blk_drewN ?_ _ | refine blk_drew ?_ | refine blk_alloc ?_ _)); refine blk_put (cs := #[.slice Ao6 l1_0.length co6, .slice Ao7 l1_1.length co7, .int .i64 a1_2, .int .i64 a1_3]) ?_ 0 _ rfl; (with_reducible repeat (first | refine blk_drewN ?_ _ | refine blk_drew ?_ | refine blk_alloc ?_ _)); exact BK200.out⟩, ⟨zq5e_⟩, ⟨zq5f_⟩, ⟨zqa9_⟩, ⟨zq8a_⟩⟩
     ·rw [if_neg c40] at H
      exact absurd H (by simp)
    ·rw [if_neg c39] at H
     exact absurd H (by simp)
   ·rw [if_neg c38] at H
    have c38b0 : (a3_0 == 2) = false := beq_eq_false_iff_ne.mpr c38
    have c38b1 : (a3_0 != 2) = true := bne_iff_ne.mpr c38
    by_cases c51 : a3_0 = 3
    ·rw [if_pos c51] at H
     have c51b0 : (a3_0 == 3) = true := beq_iff_eq.mpr c51
     have c51b1 : (a3_0 != 3) = false := bne_eq_false_iff_eq.mpr c51
     clear c51
     by_cases c52 : 0 ≤ a3_1
     ·rw [if_pos c52] at H
      have c52b0 : decide (0 ≤ a3_1) = true := decide_eq_true c52
      clear c52
      by_cases c53 : a3_1 < (l2.length : Int)
      ·rw [if_pos c53] at H
       have c53b0 : decide (a3_1 < (l2.length : Int)) = true := decide_eq_true c53
       clear c53
       obtain ⟨y223, hy223⟩ : ∃ y_ : List Int, y_ = (l2.set (a3_1 : Int).toNat a3_3) := ⟨_, rfl⟩
       replace H : (spec_l3Step.j0 k y223 l1_0 l1_1 a1_2 a1_3 a3_0 a3_1 a3_2 a3_3) = some (r1, r2, r3, r4, r5) := by first | (rw [hy223]; with_reducible exact H) | (have H2_ := (Option.bind_some _ _).symm.trans H; rw [hy223]; with_reducible exact H2_) | (have H2_ := (Option.bind_some _ _).symm.trans H; with_reducible exact H2_) | with_reducible exact H | (rw [hy223]; exact H) | exact H
       have Ny223 := Aside0.mk hy223
       clear hy223
       have H' := Aside0.mk H
       clear H
       have hnb55 := NB201_200.out
       have hnc55 := NB200_201.out
       have hnb56 := NB201_202.out
       have hnc56 := NB202_201.out
       have hcz57_0 := bc0_ BK201.out
       have hcz57_1 := bc1_ BK201.out
       have hcz57_2 := bc2_ BK201.out
       have hcz57_3 := bc3_ BK201.out
       have hfz57_0 := blk_frozen BK201.out 0
       have hfz57_1 := blk_frozen BK201.out 1
       have hfz57_2 := blk_frozen BK201.out 2
       have hfz57_3 := blk_frozen BK201.out 3
       have p54 : 0 ≤ (a3_1 : Int) := of_decide_eq_true zq71_
       have q54 : (a3_1 : Int) < ((l2.length : Int) : Int) := of_decide_eq_true zq71_
       obtain ⟨go54, co54, eo54, gb54, gl54, cl54, HG54⟩ := Kd.R_form HO2.out (by omega)
       (first | cases eo54 | (injection eo54 with ea_ en_ ec_; (first | subst ea_ | (injection ea_ with ea_; subst ea_)); subst ec_; clear en_))
       have GB54 := Aside0.mk gb54
       have GG54 := Aside0.mk HG54
       clear gb54 gl54 HG54
       have HMgo54 := Aside0.mk (show ((P1_0_ go54 ∨ P1_1_ go54 ∨ P2_ go54) ∨ w.heap.size ≤ go54) from (HO2.out.1 _ rfl))
       obtain ⟨hx54_0, hf54_0⟩ := Kd.R_celln 0 HO2.out (a3_1 : Int) p54 q54
       replace p54 := eq_true p54
       replace q54 := eq_true q54
       have HP58 := Kd.R_putg HO2.out (a3_1 : Int) a3_3
       go_wp2_with (first | ((with_reducible refine gate_store (t := 3) (p := 47) rfl ?_); refine store_event (t := 3) (p := 47) (v := ?vo_w59) (w1 := (w10.setCell ⟨go54, (a3_1 : Int).toNat, none⟩ (.int .i64 a3_3))) ?hg ?ho ?hn ?hr ?_; (case ho => rfl); (case hg => rfl); (case hn => rfl); (case hr => first | (go_simp; done) | (go_simp; rfl)); intro w59 hw; have hg : w10.grownBy w59 (some go54) := (by rw [hw]; exact HP58.2); have hp_ : Kd.R (Kd.int .i64) 3 w59 w0.heap.size (fun k_ => ((P1_0_ k_ ∨ P1_1_ k_ ∨ P2_ k_) ∨ w.heap.size ≤ k_)) (.slice (some ⟨go54, 0, none⟩) l2.length co54) y223 := (by rw [hw, Ny223.out]; exact HP58.1); clear HP58; have n_ := A8_ (Kd.R_over' (v := (.slice (some ⟨go54, 0, none⟩) l2.length co54)) zq10_ (Kd.R_typed HO2.out) (by decide) hg) (Kd.R_over' (v := (.slice (some ⟨go54, 0, none⟩) l2.length co54)) zq11_ (Kd.R_typed HO2.out) (by decide) hg) (hp_) (blk_grown (g := gb200) (o := .cells #[.slice Ao6 l1_0.length co6, .slice Ao7 l1_1.length co7, .int .i64 a1_2, .int .i64 a1_3] 30 (0, 0)) zq3f_ hg (Kd.R_ne HO2.out BK200.out (by decide))) (blk_grown (g := gb201) (o := .cells #[.int .i64 a3_0, .int .i64 a3_1, .int .i64 a3_2, .int .i64 a3_3] 34 (0, 0)) zq40_ hg (Kd.R_ne HO2.out BK201.out (by decide))) (blk_grown (g := gb202) (o := .cells #[.slice none 0 0, .slice none 0 0, .int .i64 0, .int .i64 0] 30 (0, 0)) zq41_ hg (Kd.R_ne HO2.out BK202.out (by decide))) ((by rw [hw]; exact below_set (HB.out) GB54.out : Below w0.heap.size w0 w59)) (Kept.of_grown (S := (fun k_ => P1_0_ k_ ∨ P1_1_ k_ ∨ P2_ k_)) hg zqa9_ (fun k_ e_ => (HO2.out.1 k_ e_))); clear HO1_0 HO1_1 HO2 BK200 BK201 BK202 HB HK; obtain ⟨HO1_0, HO1_1, HO2, BK200, BK201, BK202, HB, HK⟩ := n_; clear hg hw hp_))
       go_meet
       case rel => exact ⟨_, (y223), (l1_0), (l1_1), (a1_2), (a1_3), (.slice Ao6 l1_0.length co6), (.slice Ao7 l1_1.length co7), H', ⟨zq74_⟩, ⟨zq12_⟩, ⟨zq10_⟩, ⟨zq11_⟩, ⟨zq3f_⟩, ⟨zq40_⟩, ⟨zq41_⟩, ⟨zqa9_⟩, ⟨zq8a_⟩⟩
      ·rw [if_neg c53] at H
       exact absurd H (by simp)
     ·rw [if_neg c52] at H
      exact absurd H (by simp)
    ·rw [if_neg c51] at H
     have c51b0 : (a3_0 == 3) = false := beq_eq_false_iff_ne.mpr c51
     have c51b1 : (a3_0 != 3) = true := bne_iff_ne.mpr c51
     by_cases c60 : a3_0 = 4
     ·rw [if_pos c60] at H
      have c60b0 : (a3_0 == 4) = true := beq_iff_eq.mpr c60
      have c60b1 : (a3_0 != 4) = false := bne_eq_false_iff_eq.mpr c60
      clear c60
      by_cases c61 : 0 ≤ a3_1
      ·rw [if_pos c61] at H
       have c61b0 : decide (0 ≤ a3_1) = true := decide_eq_true c61
       clear c61
       by_cases c62 : a3_1 < (l2.length : Int)
       ·rw [if_pos c62] at H
        have c62b0 : decide (a3_1 < (l2.length : Int)) = true := decide_eq_true c62
        clear c62
        by_cases c63 : 0 ≤ a3_2
        ·rw [if_pos c63] at H
         have c63b0 : decide (0 ≤ a3_2) = true := decide_eq_true c63
         clear c63
         by_cases c64 : a3_2 < (l2.length : Int)
         ·rw [if_pos c64] at H
          have c64b0 : decide (a3_2 < (l2.length : Int)) = true := decide_eq_true c64
          clear c64
          obtain ⟨y226, hy226⟩ : ∃ y_ : List Int, y_ = (l2.set (a3_1 : Int).toNat (wrap64 ((rd l2 a3_1) + (rd l2 a3_2)))) := ⟨_, rfl⟩
          replace H : (spec_l3Step.j0 k y226 l1_0 l1_1 a1_2 a1_3 a3_0 a3_1 a3_2 a3_3) = some (r1, r2, r3, r4, r5) := by first | (rw [hy226]; with_reducible exact H) | (have H2_ := (Option.bind_some _ _).symm.trans H; rw [hy226]; with_reducible exact H2_) | (have H2_ := (Option.bind_some _ _).symm.trans H; with_reducible exact H2_) | with_reducible exact H | (rw [hy226]; exact H) | exact H
          have Ny226 := Aside0.mk hy226
          clear hy226
          have H' := Aside0.mk H
          clear H
          try go_wp2
          have n_ := A8_ (Kd.R_drew HO1_0.out) (Kd.R_drew HO1_1.out) (Kd.R_drew HO2.out) (blk_drew BK200.out) (blk_drew BK201.out) (blk_drew BK202.out) (Kept.drew HK.out) (below_drew1 HB.out)
          clear HO1_0 HO1_1 HO2 BK200 BK201 BK202 HK HB
          obtain ⟨HO1_0, HO1_1, HO2, BK200, BK201, BK202, HK, HB⟩ := n_
          obtain ⟨Ao67, co67, eo67⟩ := Kd.R_slice HO2.out
          (first | subst eo67 | (injection eo67 with f1_ f2_ f3_; have f4_ := f1_.symm; have f5_ := f3_.symm; clear f1_ f2_ f3_; subst f4_; subst f5_))
          have p224 : 0 ≤ (a3_1 : Int) := of_decide_eq_true zq71_
          have q224 : a3_1 < (l2.length : Int) := of_decide_eq_true zq71_
          obtain ⟨ad224, e224, hx224_0⟩ := Kd.at_int (Kd.R_reads' HO2.out).2.2 a3_1 p224 q224
          cases e224
          replace p224 := eq_true p224
          replace q224 := eq_true q224
          have p225 : 0 ≤ (a3_2 : Int) := of_decide_eq_true zq71_
          have q225 : a3_2 < (l2.length : Int) := of_decide_eq_true zq71_
          obtain ⟨ad225, e225, hx225_0⟩ := Kd.at_int (Kd.R_reads' HO2.out).2.2 a3_2 p225 q225
          obtain rfl : ad224 = ad225 := (by injection e225)
          replace p225 := eq_true p225
          replace q225 := eq_true q225
          have p65 : 0 ≤ (a3_1 : Int) := of_decide_eq_true zq71_
          have q65 : (a3_1 : Int) < ((l2.length : Int) : Int) := of_decide_eq_true zq71_
          obtain ⟨go65, co65, eo65, gb65, gl65, cl65, HG65⟩ := Kd.R_form HO2.out (by omega)
          (first | cases eo65 | (injection eo65 with ea_ en_ ec_; (first | subst ea_ | (injection ea_ with ea_; subst ea_)); subst ec_; clear en_))
          have GB65 := Aside0.mk gb65
          have GG65 := Aside0.mk HG65
          clear gb65 gl65 HG65
          have HMgo65 := Aside0.mk (show ((P1_0_ go65 ∨ P1_1_ go65 ∨ P2_ go65) ∨ w.heap.size ≤ go65) from (HO2.out.1 _ rfl))
          (first | simp only [add_plain] at hx224_0 | skip)
          (first | simp only [add_plain] at hx225_0 | skip)
          obtain ⟨hx65_0, hf65_0⟩ := Kd.R_celln 0 HO2.out (a3_1 : Int) p65 q65
          replace p65 := eq_true p65
          replace q65 := eq_true q65
          have HP68 := Kd.R_putn HO2.out (a3_1 : Int) (wrap64 ((rd l2 a3_1) + (rd l2 a3_2)))
          rw [← Ny226.out] at HP68
          have HQ68 := Aside0.mk HP68
          clear HP68
          refine start_ (n := 16) (S := fun w' => w'.cell? ⟨gb201, 0, none⟩ = some (.int .i64 a3_0) ∧ w'.cell? ⟨gb201, 1, none⟩ = some (.int .i64 a3_1) ∧ w'.cell? ⟨gb201, 2, none⟩ = some (.int .i64 a3_2) ∧ w'.cell? ⟨gb201, 3, none⟩ = some (.int .i64 a3_3) ∧ w'.cell? ⟨go65, (a3_1).toNat, none⟩ = some (.int .i64 (rd l2 a3_1)) ∧ w'.cell? ⟨go65, (a3_2).toNat, none⟩ = some (.int .i64 (rd l2 a3_2))) (ds := [15]) #[false, false, false, false, false, false, false, false, false, false, false, false, false, false, false, false] (by kernel_rfl) rfl rfl ⟨(blk_cell BK201.out 0).trans rfl, (blk_cell BK201.out 1).trans rfl, (blk_cell BK201.out 2).trans rfl, (blk_cell BK201.out 3).trans rfl, hx224_0, hx225_0⟩ (fun hHeld => ?_); refine with_tabW spec_l3Step.tab11 spec_l3Step.bits11 (fun HT_ HW_ => ?_)
          generalize w10.drew = w66 at HO1_0 HO1_1 HO2 BK200 BK201 BK202 HK HB GG65 HQ68 hf65_0 hx224_0 hx225_0 hx65_0 hHeld ⊢
          refine pv_ (i := 0) (N := some 50) rfl rfl ?_
          refine pv_ (i := 1) (N := some 51) rfl rfl ?_
          refine pv_ (i := 3) (N := some 53) rfl rfl ?_
          refine pv_ (i := 4) (N := some 54) rfl rfl ?_
          refine pv_ (i := 8) (N := some 58) rfl rfl ?_
          refine pv_ (i := 9) (N := some 59) rfl rfl ?_
          refine tv_ (i := 2) (N := some 52) rfl rfl ?_
          refine tv_ (i := 5) (N := some 55) rfl rfl ?_
          refine pv_ (i := 6) (N := some 56) rfl rfl ?_
          refine tv_ (i := 7) (N := some 57) rfl rfl ?_
          refine tv_ (i := 10) (N := some 60) rfl rfl ?_
          refine pv_ (i := 11) (N := some 61) rfl rfl ?_
          refine tv_ (i := 12) (N := some 62) rfl rfl ?_
          refine pv_ (i := 13) (N := some 63) rfl rfl ?_
          refine pv_ (i := 14) (N := some 64) rfl rfl ?_
          refine last_ (i := 15) (N := none) #[true, true, true, true, true, true, true, true, true, true, true, true, true, true, true, true] rfl rfl (one_of HT_.out (by kernel_rfl)) (by decide) (fun K hK => ?_)
          refine skip_ (w1 := ?_) (by rfl) rfl ?_ ?_
          rotate_left
          ·go_simp
           rfl
          refine hK.out _ _ ?_
          clear hK K
          refine done_ (done_of HT_.out (by kernel_rfl)) ?_
          try go_wp2
          go_meet
          case rel => exact ⟨_, (y226), (l1_0), (l1_1), (a1_2), (a1_3), (.slice Ao6 l1_0.length co6), (.slice Ao7 l1_1.length co7), H', ⟨zq74_⟩, ⟨by (with_reducible repeat (first | apply Kd.R_alloc | apply Kd.R_drewN | apply Kd.R_drew)); exact HQ68.out⟩, ⟨by (with_reducible repeat (first | apply Kd.R_alloc | apply Kd.R_drewN | apply Kd.R_drew)); exact Kd.R_mono (Kd.R_far (p := ⟨go65, (a3_1 : Int).toNat, none⟩) (Kd.R_types HO1_0.out GG65.out (by decide)) (fun _ hk => hk.2) (.int .i64 (wrap64 ((rd l2 a3_1) + (rd l2 a3_2))))) (fun _ hk => hk.1)⟩, ⟨by (with_reducible repeat (first | apply Kd.R_alloc | apply Kd.R_drewN | apply Kd.R_drew)); exact Kd.R_mono (Kd.R_far (p := ⟨go65, (a3_1 : Int).toNat, none⟩) (Kd.R_types HO1_1.out GG65.out (by decide)) (fun _ hk => hk.2) (.int .i64 (wrap64 ((rd l2 a3_1) + (rd l2 a3_2))))) (fun _ hk => hk.1)⟩, ⟨zq52_⟩, ⟨zq53_⟩, ⟨zq54_⟩, ⟨by repeat (first | (with_reducible first | exact HK.out | apply Kept.alloc | apply Kept.drewN | apply Kept.drew | refine Kept.setCell ?_ HMgo65.out _ | refine Kept.setCell ?_ (.inr GW200.out) _ | refine Kept.setCell ?_ (.inr GW201.out) _ | refine Kept.setCell ?_ (.inr GW202.out) _) | exact HK.out)⟩, ⟨by repeat (first | (with_reducible first | exact HB.out | apply below_alloc | apply pw_below_drewN | apply below_drew1 | refine below_set ?_ GB65.out | refine below_set ?_ GE200.out | refine below_set ?_ GE201.out | refine below_set ?_ GE202.out) | exact HB.out)⟩⟩
         ·rw [if_neg c64] at H
          exact absurd H (by simp)
        ·rw [if_neg c63] at H
         exact absurd H (by simp)
       ·rw [if_neg c62] at H
        exact absurd H (by simp)
      ·rw [if_neg c61] at H
       exact absurd H (by simp)
     ·rw [if_neg c60] at H
      have c60b0 : (a3_0 == 4) = false := beq_eq_false_iff_ne.mpr c60
      have c60b1 : (a3_0 != 4) = true := bne_iff_ne.mpr c60
      by_cases c69 : a3_0 = 5
      ·rw [if_pos c69] at H
       have c69b0 : (a3_0 == 5) = true := beq_iff_eq.mpr c69
       have c69b1 : (a3_0 != 5) = false := bne_eq_false_iff_eq.mpr c69
       clear c69
       by_cases c70 : 0 ≤ a3_1
       ·rw [if_pos c70] at H
        have c70b0 : decide (0 ≤ a3_1) = true := decide_eq_true c70
        clear c70
        by_cases c71 : a3_1 < (l2.length : Int)
        ·rw [if_pos c71] at H
         have c71b0 : decide (a3_1 < (l2.length : Int)) = true := decide_eq_true c71
         clear c71
         by_cases c72 : 0 ≤ a3_2
         ·rw [if_pos c72] at H
          have c72b0 : decide (0 ≤ a3_2) = true := decide_eq_true c72
          clear c72
          by_cases c73 : a3_2 < (l2.length : Int)
          ·rw [if_pos c73] at H
           have c73b0 : decide (a3_2 < (l2.length : Int)) = true := decide_eq_true c73
           clear c73
           obtain ⟨y229, hy229⟩ : ∃ y_ : List Int, y_ = (l2.set (a3_1 : Int).toNat (wrap64 ((rd l2 a3_1) - (rd l2 a3_2)))) := ⟨_, rfl⟩
           replace H : (spec_l3Step.j0 k y229 l1_0 l1_1 a1_2 a1_3 a3_0 a3_1 a3_2 a3_3) = some (r1, r2, r3, r4, r5) := by first | (rw [hy229]; with_reducible exact H) | (have H2_ := (Option.bind_some _ _).symm.trans H; rw [hy229]; with_reducible exact H2_) | (have H2_ := (Option.bind_some _ _).symm.trans H; with_reducible exact H2_) | with_reducible exact H | (rw [hy229]; exact H) | exact H
           have Ny229 := Aside0.mk hy229
           clear hy229
           have H' := Aside0.mk H
           clear H
           try go_wp2
           have n_ := A8_ (Kd.R_drew HO1_0.out) (Kd.R_drew HO1_1.out) (Kd.R_drew HO2.out) (blk_drew BK200.out) (blk_drew BK201.out) (blk_drew BK202.out) (Kept.drew HK.out) (below_drew1 HB.out)
           clear HO1_0 HO1_1 HO2 BK200 BK201 BK202 HK HB
           obtain ⟨HO1_0, HO1_1, HO2, BK200, BK201, BK202, HK, HB⟩ := n_
           obtain ⟨Ao76, co76, eo76⟩ := Kd.R_slice HO2.out
           (first | subst eo76 | (injection eo76 with f1_ f2_ f3_; have f4_ := f1_.symm; have f5_ := f3_.symm; clear f1_ f2_ f3_; subst f4_; subst f5_))
           have p227 : 0 ≤ (a3_1 : Int) := of_decide_eq_true zq71_
           have q227 : a3_1 < (l2.length : Int) := of_decide_eq_true zq71_
           obtain ⟨ad227, e227, hx227_0⟩ := Kd.at_int (Kd.R_reads' HO2.out).2.2 a3_1 p227 q227
           cases e227
           replace p227 := eq_true p227
           replace q227 := eq_true q227
           have p228 : 0 ≤ (a3_2 : Int) := of_decide_eq_true zq71_
           have q228 : a3_2 < (l2.length : Int) := of_decide_eq_true zq71_
           obtain ⟨ad228, e228, hx228_0⟩ := Kd.at_int (Kd.R_reads' HO2.out).2.2 a3_2 p228 q228
           obtain rfl : ad227 = ad228 := (by injection e228)
           replace p228 := eq_true p228
           replace q228 := eq_true q228
           have p74 : 0 ≤ (a3_1 : Int) := of_decide_eq_true zq71_
           have q74 : (a3_1 : Int) < ((l2.length : Int) : Int) := of_decide_eq_true zq71_
           obtain ⟨go74, co74, eo74, gb74, gl74, cl74, HG74⟩ := Kd.R_form HO2.out (by omega)
           (first | cases eo74 | (injection eo74 with ea_ en_ ec_; (first | subst ea_ | (injection ea_ with ea_; subst ea_)); subst ec_; clear en_))
           have GB74 := Aside0.mk gb74
           have GG74 := Aside0.mk HG74
           clear gb74 gl74 HG74
           have HMgo74 := Aside0.mk (show ((P1_0_ go74 ∨ P1_1_ go74 ∨ P2_ go74) ∨ w.heap.size ≤ go74) from (HO2.out.1 _ rfl))
           (first | simp only [add_plain] at hx227_0 | skip)
           (first | simp only [add_plain] at hx228_0 | skip)
           obtain ⟨hx74_0, hf74_0⟩ := Kd.R_celln 0 HO2.out (a3_1 : Int) p74 q74
           replace p74 := eq_true p74
           replace q74 := eq_true q74
           have HP77 := Kd.R_putn HO2.out (a3_1 : Int) (wrap64 ((rd l2 a3_1) - (rd l2 a3_2)))
           rw [← Ny229.out] at HP77
           have HQ77 := Aside0.mk HP77
           clear HP77
           refine start_ (n := 16) (S := fun w' => w'.cell? ⟨gb201, 0, none⟩ = some (.int .i64 a3_0) ∧ w'.cell? ⟨gb201, 1, none⟩ = some (.int .i64 a3_1) ∧ w'.cell? ⟨gb201, 2, none⟩ = some (.int .i64 a3_2) ∧ w'.cell? ⟨gb201, 3, none⟩ = some (.int .i64 a3_3) ∧ w'.cell? ⟨go74, (a3_1).toNat, none⟩ = some (.int .i64 (rd l2 a3_1)) ∧ w'.cell? ⟨go74, (a3_2).toNat, none⟩ = some (.int .i64 (rd l2 a3_2))) (ds := [15]) #[false, false, false, false, false, false, false, false, false, false, false, false, false, false, false, false] (by kernel_rfl) rfl rfl ⟨(blk_cell BK201.out 0).trans rfl, (blk_cell BK201.out 1).trans rfl, (blk_cell BK201.out 2).trans rfl, (blk_cell BK201.out 3).trans rfl, hx227_0, hx228_0⟩ (fun hHeld => ?_); refine with_tabW spec_l3Step.tab13 spec_l3Step.bits13 (fun HT_ HW_ => ?_)
           generalize w10.drew = w75 at HO1_0 HO1_1 HO2 BK200 BK201 BK202 HK HB GG74 HQ77 hf74_0 hx227_0 hx228_0 hx74_0 hHeld ⊢
           refine pv_ (i := 0) (N := some 67) rfl rfl ?_
           refine pv_ (i := 1) (N := some 68) rfl rfl ?_
           refine pv_ (i := 3) (N := some 70) rfl rfl ?_
           refine pv_ (i := 4) (N := some 71) rfl rfl ?_
           refine pv_ (i := 8) (N := some 75) rfl rfl ?_
           refine pv_ (i := 9) (N := some 76) rfl rfl ?_
           refine tv_ (i := 2) (N := some 69) rfl rfl ?_
           refine tv_ (i := 5) (N := some 72) rfl rfl ?_
           refine pv_ (i := 6) (N := some 73) rfl rfl ?_
           refine tv_ (i := 7) (N := some 74) rfl rfl ?_
           refine tv_ (i := 10) (N := some 77) rfl rfl ?_
           refine pv_ (i := 11) (N := some 78) rfl rfl ?_
           refine tv_ (i := 12) (N := some 79) rfl rfl ?_
           refine pv_ (i := 13) (N := some 80) rfl rfl ?_
           refine pv_ (i := 14) (N := some 81) rfl rfl ?_
           refine last_ (i := 15) (N := none) #[true, true, true, true, true, true, true, true, true, true, true, true, true, true, true, true] rfl rfl (one_of HT_.out (by kernel_rfl)) (by decide) (fun K hK => ?_)
           refine skip_ (w1 := ?_) (by rfl) rfl ?_ ?_
           rotate_left
           ·go_simp
            rfl
           refine hK.out _ _ ?_
           clear hK K
           refine done_ (done_of HT_.out (by kernel_rfl)) ?_
           try go_wp2
           go_meet
           case rel => exact ⟨_, (y229), (l1_0), (l1_1), (a1_2), (a1_3), (.slice Ao6 l1_0.length co6), (.slice Ao7 l1_1.length co7), H', ⟨zq74_⟩, ⟨by (with_reducible repeat (first | apply Kd.R_alloc | apply Kd.R_drewN | apply Kd.R_drew)); exact HQ77.out⟩, ⟨by (with_reducible repeat (first | apply Kd.R_alloc | apply Kd.R_drewN | apply Kd.R_drew)); exact Kd.R_mono (Kd.R_far (p := ⟨go74, (a3_1 : Int).toNat, none⟩) (Kd.R_types HO1_0.out GG74.out (by decide)) (fun _ hk => hk.2) (.int .i64 (wrap64 ((rd l2 a3_1) - (rd l2 a3_2))))) (fun _ hk => hk.1)⟩, ⟨by (with_reducible repeat (first | apply Kd.R_alloc | apply Kd.R_drewN | apply Kd.R_drew)); exact Kd.R_mono (Kd.R_far (p := ⟨go74, (a3_1 : Int).toNat, none⟩) (Kd.R_types HO1_1.out GG74.out (by decide)) (fun _ hk => hk.2) (.int .i64 (wrap64 ((rd l2 a3_1) - (rd l2 a3_2))))) (fun _ hk => hk.1)⟩, ⟨zq52_⟩, ⟨zq53_⟩, ⟨zq54_⟩, ⟨by repeat (first | (with_reducible first | exact HK.out | apply Kept.alloc | apply Kept.drewN | apply Kept.drew | refine Kept.setCell ?_ HMgo74.out _ | refine Kept.setCell ?_ (.inr GW200.out) _ | refine Kept.setCell ?_ (.inr GW201.out) _ | refine Kept.setCell ?_ (.inr GW202.out) _) | exact HK.out)⟩, ⟨by repeat (first | (with_reducible first | exact HB.out | apply below_alloc | apply pw_below_drewN | apply below_drew1 | refine below_set ?_ GB74.out | refine below_set ?_ GE200.out | refine below_set ?_ GE201.out | refine below_set ?_ GE202.out) | exact HB.out)⟩⟩
          ·rw [if_neg c73] at H
           exact absurd H (by simp)
         ·rw [if_neg c72] at H
          exact absurd H (by simp)
        ·rw [if_neg c71] at H
         exact absurd H (by simp)
       ·rw [if_neg c70] at H
        exact absurd H (by simp)
      ·rw [if_neg c69] at H
       have c69b0 : (a3_0 == 5) = false := beq_eq_false_iff_ne.mpr c69
       have c69b1 : (a3_0 != 5) = true := bne_iff_ne.mpr c69
       by_cases c78 : a3_0 = 7
       ·rw [if_pos c78] at H
        have c78b0 : (a3_0 == 7) = true := beq_iff_eq.mpr c78
        have c78b1 : (a3_0 != 7) = false := bne_eq_false_iff_eq.mpr c78
        clear c78
        have H' := Aside0.mk H
        clear H
        have hnb79 := NB200_201.out
        have hnc79 := NB201_200.out
        have hnb80 := NB200_202.out
        have hnc80 := NB202_200.out
        have hcz81_0 := bc0_ BK200.out
        have hcz81_1 := bc1_ BK200.out
        have hcz81_2 := bc2_ BK200.out
        have hcz81_3 := bc3_ BK200.out
        have hfz81_0 := blk_frozen BK200.out 0
        have hfz81_1 := blk_frozen BK200.out 1
        have hfz81_2 := blk_frozen BK200.out 2
        have hfz81_3 := blk_frozen BK200.out 3
        go_wp2
        go_meet
        case rel => exact ⟨_, (l2), (l1_0), (l1_1), (a1_2), (1), (.slice Ao6 l1_0.length co6), (.slice Ao7 l1_1.length co7), H', ⟨zq74_⟩, ⟨by (with_reducible repeat (first | apply Kd.R_alloc | apply Kd.R_drewN | apply Kd.R_drew)); exact Kd.R_mono (Kd.R_far (p := ⟨gb200, 3, none⟩) (Kd.R_types HO2.out BK200.out (by decide)) (fun _ hk => hk.2) (.int .i64 1)) (fun _ hk => hk.1)⟩, ⟨by (with_reducible repeat (first | apply Kd.R_alloc | apply Kd.R_drewN | apply Kd.R_drew)); exact Kd.R_mono (Kd.R_far (p := ⟨gb200, 3, none⟩) (Kd.R_types HO1_0.out BK200.out (by decide)) (fun _ hk => hk.2) (.int .i64 1)) (fun _ hk => hk.1)⟩, ⟨by (with_reducible repeat (first | apply Kd.R_alloc | apply Kd.R_drewN | apply Kd.R_drew)); exact Kd.R_mono (Kd.R_far (p := ⟨gb200, 3, none⟩) (Kd.R_types HO1_1.out BK200.out (by decide)) (fun _ hk => hk.2) (.int .i64 1)) (fun _ hk => hk.1)⟩, ⟨by (with_reducible repeat (first | refine blk_drewN ?_ _ | refine blk_drew ?_ | refine blk_alloc ?_ _)); refine blk_put (cs := #[.slice Ao6 l1_0.length co6, .slice Ao7 l1_1.length co7, .int .i64 a1_2, .int .i64 a1_3]) ?_ 3 _ rfl; (with_reducible repeat (first | refine blk_drewN ?_ _ | refine blk_drew ?_ | refine blk_alloc ?_ _)); exact BK200.out⟩, ⟨by (with_reducible repeat (first | refine blk_drewN ?_ _ | refine blk_drew ?_ | refine blk_alloc ?_ _)); refine blk_far ?_ NB201_200.out _; (with_reducible repeat (first | refine blk_drewN ?_ _ | refine blk_drew ?_ | refine blk_alloc ?_ _)); exact BK201.out⟩, ⟨by (with_reducible repeat (first | refine blk_drewN ?_ _ | refine blk_drew ?_ | refine blk_alloc ?_ _)); refine blk_far ?_ NB202_200.out _; (with_reducible repeat (first | refine blk_drewN ?_ _ | refine blk_drew ?_ | refine blk_alloc ?_ _)); exact BK202.out⟩, ⟨zqa9_⟩, ⟨zq8a_⟩⟩
       ·rw [if_neg c78] at H
        have c78b0 : (a3_0 == 7) = false := beq_eq_false_iff_ne.mpr c78
        have c78b1 : (a3_0 != 7) = true := bne_iff_ne.mpr c78
        have H' := Aside0.mk H
        clear H
        go_wp2
        go_meet
        case rel => exact ⟨_, (l2), (l1_0), (l1_1), (a1_2), (a1_3), (.slice Ao6 l1_0.length co6), (.slice Ao7 l1_1.length co7), H', ⟨zq74_⟩, ⟨zq12_⟩, ⟨zq10_⟩, ⟨zq11_⟩, ⟨zq3f_⟩, ⟨zq40_⟩, ⟨zq41_⟩, ⟨zqa9_⟩, ⟨zq8a_⟩⟩
 case rest =>
  clear HC5
  try clear p2
  try clear q2
  try clear hx2
  try clear c3
  try clear c4
  try clear c5
  try clear p5
  try clear q5
  try clear hx5
  try clear hf5
  try clear c6
  try clear p6
  try clear q6
  try clear hx6
  try clear hf6
  try clear c7
  try clear p7
  try clear q7
  try clear hx7
  try clear hf7
  try clear c8
  try clear p22
  try clear q22
  try clear hx22
  try clear c38
  try clear c38b0
  try clear c38b1
  try clear c39
  try clear c40
  try clear c51
  try clear c51b0
  try clear c51b1
  try clear c52
  try clear c52b0
  try clear c53
  try clear c53b0
  try clear p54
  try clear q54
  try clear hx54
  try clear hf54
  try clear c55
  try clear c56
  try clear c60
  try clear c60b0
  try clear c60b1
  try clear c61
  try clear c61b0
  try clear c62
  try clear c62b0
  try clear c63
  try clear c63b0
  try clear c64
  try clear c64b0
  try clear p64
  try clear p65
  try clear q65
  try clear hx65
  try clear hf65
  try clear c69
  try clear c69b0
  try clear c69b1
  try clear c70
  try clear c70b0
  try clear c71
  try clear c71b0
  try clear c72
  try clear c72b0
  try clear c73
  try clear c73b0
  try clear p74
  try clear q74
  try clear hx74
  try clear hf74
  try clear c78
  try clear c78b0
  try clear c78b1
  try clear c79
  try clear c80
  try clear hcz57_0 hcz57_1 hcz57_2 hcz57_3 hfz57_0 hfz57_1 hfz57_2 hfz57_3
  try clear hcz81_0 hcz81_1 hcz81_2 hcz81_3 hfz81_0 hfz81_1 hfz81_2 hfz81_3
  try clear hx224_0
  try clear hx225_0
  try clear hx227_0
  try clear hx228_0
  try clear hx54_0
  try clear hx65_0
  try clear hx74_0
  try clear p224
  try clear p225
  try clear p227
  try clear p228
  try clear p54
  try clear p65
  try clear p74
  try clear q224
  try clear q225
  try clear q227
  try clear q228
  try clear q54
  try clear q65
  try clear q74
  obtain ⟨kq, x2_4, x201000_4, x201001_4, x201002_4, x201003_4, u201000, u201001, HA, HJ4, HO_2, HO_201000, HO_201001, BK200, BK201, BK202, HK, HB⟩ := hcut
  cases kq with
  | zero => exact absurd HA.out (by simp [spec_l3Step.j0])
  | succ kj4 =>
   have H := HA.out
   clear HA
   simp only [spec_l3Step.j0] at H
   by_cases c82 : a3_0 = 2
   ·rw [if_pos c82] at H
    have c82b0 : (a3_0 == 2) = true := beq_iff_eq.mpr c82
    have c82b1 : (a3_0 != 2) = false := bne_eq_false_iff_eq.mpr c82
    clear c82
    simp only [Option.some.injEq, Prod.mk.injEq] at H
    obtain ⟨rfl, rfl, rfl, rfl, rfl⟩ := H
    have hnb83 := NB201_200.out
    have hnc83 := NB200_201.out
    have hnb84 := NB201_202.out
    have hnc84 := NB202_201.out
    have hcz85_0 := bc0_ BK201.out
    have hcz85_1 := bc1_ BK201.out
    have hcz85_2 := bc2_ BK201.out
    have hcz85_3 := bc3_ BK201.out
    have hfz85_0 := blk_frozen BK201.out 0
    have hfz85_1 := blk_frozen BK201.out 1
    have hfz85_2 := blk_frozen BK201.out 2
    have hfz85_3 := blk_frozen BK201.out 3
    have hnb86 := NB200_202.out
    have hnc86 := NB202_200.out
    have hcz87_0 : wc.cell? ⟨gb200, 0, none⟩ = some (u201000) := (blk_cell BK200.out 0).trans rfl
    have hcz87_1 : wc.cell? ⟨gb200, 1, none⟩ = some (u201001) := (blk_cell BK200.out 1).trans rfl
    have hcz87_2 := bc2_ BK200.out
    have hcz87_3 := bc3_ BK200.out
    have hfz87_0 := blk_frozen BK200.out 0
    have hfz87_1 := blk_frozen BK200.out 1
    have hfz87_2 := blk_frozen BK200.out 2
    have hfz87_3 := blk_frozen BK200.out 3
    obtain ⟨Ao88, co88, eo88⟩ := Kd.R_slice HO_201000.out
    subst eo88
    have hcz89_0 := bc0_ BK202.out
    have hcz89_1 := bc1_ BK202.out
    have hcz89_2 := bc2_ BK202.out
    have hcz89_3 := bc3_ BK202.out
    have hfz89_0 := blk_frozen BK202.out 0
    have hfz89_1 := blk_frozen BK202.out 1
    have hfz89_2 := blk_frozen BK202.out 2
    have hfz89_3 := blk_frozen BK202.out 3
    obtain ⟨Ao90, co90, eo90⟩ := Kd.R_slice HO_201001.out
    subst eo90
    go_wp2
    refine bodyPost_ret (results_cell_row rfl _ _ gb202 30 #[.slice Ao88 x201000_4.length co88, .slice Ao90 x201001_4.length co90, .int .i64 x201002_4, .int .i64 x201003_4] (0, 0) _ rfl (by (with_reducible repeat (first | refine blk_drewN ?_ _ | refine blk_drew ?_ | refine blk_alloc ?_ _)); refine blk_put (cs := #[.slice Ao88 x201000_4.length co88, .slice Ao90 x201001_4.length co90, .int .i64 x201002_4, .int .i64 0]) ?_ 3 _ rfl; (with_reducible repeat (first | refine blk_drewN ?_ _ | refine blk_drew ?_ | refine blk_alloc ?_ _)); refine blk_put (cs := #[.slice Ao88 x201000_4.length co88, .slice Ao90 x201001_4.length co90, .int .i64 0, .int .i64 0]) ?_ 2 _ rfl; (with_reducible repeat (first | refine blk_drewN ?_ _ | refine blk_drew ?_ | refine blk_alloc ?_ _)); refine blk_put (cs := #[.slice Ao88 x201000_4.length co88, .slice none 0 0, .int .i64 0, .int .i64 0]) ?_ 1 _ rfl; (with_reducible repeat (first | refine blk_drewN ?_ _ | refine blk_drew ?_ | refine blk_alloc ?_ _)); refine blk_put (cs := #[.slice none 0 0, .slice none 0 0, .int .i64 0, .int .i64 0]) ?_ 0 _ rfl; (with_reducible repeat (first | refine blk_drewN ?_ _ | refine blk_drew ?_ | refine blk_alloc ?_ _)); exact BK202.out) Try.underlying30 rfl (by kernel_rfl)) rfl ?_
    exact ⟨_, _, zq75_, by (with_reducible repeat (first | apply Kd.R_alloc | apply Kd.R_drewN | apply Kd.R_drew)); exact Kd.R_mono (Kd.R_far (p := ⟨gb202, 3, none⟩) (Kd.R_far (p := ⟨gb202, 2, none⟩) (Kd.R_far (p := ⟨gb202, 1, none⟩) (Kd.R_far (p := ⟨gb202, 0, none⟩) (Kd.R_types HO_201000.out BK202.out (by decide)) (fun _ hk => hk.2) (.slice Ao88 x201000_4.length co88)) (fun _ hk => hk.2) (.slice Ao90 x201001_4.length co90)) (fun _ hk => hk.2) (.int .i64 x201002_4)) (fun _ hk => hk.2) (.int .i64 x201003_4)) (fun _ hk => hk.1), by (with_reducible repeat (first | apply Kd.R_alloc | apply Kd.R_drewN | apply Kd.R_drew)); exact Kd.R_mono (Kd.R_far (p := ⟨gb202, 3, none⟩) (Kd.R_far (p := ⟨gb202, 2, none⟩) (Kd.R_far (p := ⟨gb202, 1, none⟩) (Kd.R_far (p := ⟨gb202, 0, none⟩) (Kd.R_types HO_201001.out BK202.out (by decide)) (fun _ hk => hk.2) (.slice Ao88 x201000_4.length co88)) (fun _ hk => hk.2) (.slice Ao90 x201001_4.length co90)) (fun _ hk => hk.2) (.int .i64 x201002_4)) (fun _ hk => hk.2) (.int .i64 x201003_4)) (fun _ hk => hk.1), by (with_reducible repeat (first | apply Kd.R_alloc | apply Kd.R_drewN | apply Kd.R_drew)); exact Kd.R_mono (Kd.R_far (p := ⟨gb202, 3, none⟩) (Kd.R_far (p := ⟨gb202, 2, none⟩) (Kd.R_far (p := ⟨gb202, 1, none⟩) (Kd.R_far (p := ⟨gb202, 0, none⟩) (Kd.R_types HO_2.out BK202.out (by decide)) (fun _ hk => hk.2) (.slice Ao88 x201000_4.length co88)) (fun _ hk => hk.2) (.slice Ao90 x201001_4.length co90)) (fun _ hk => hk.2) (.int .i64 x201002_4)) (fun _ hk => hk.2) (.int .i64 x201003_4)) (fun _ hk => hk.1), zq8a_, zqa9_⟩
   ·rw [if_neg c82] at H
    have c82b0 : (a3_0 == 2) = false := beq_eq_false_iff_ne.mpr c82
    have c82b1 : (a3_0 != 2) = true := bne_iff_ne.mpr c82
    by_cases c91 : 0 ≤ a3_1
    ·rw [if_pos c91] at H
     have c91b0 : decide (0 ≤ a3_1) = true := decide_eq_true c91
     clear c91
     by_cases c92 : a3_1 < (x2_4.length : Int)
     ·rw [if_pos c92] at H
      have c92b0 : decide (a3_1 < (x2_4.length : Int)) = true := decide_eq_true c92
      clear c92
      replace H := Option.bind_eq_some_iff.mp H
      obtain ⟨t231, A930, H⟩ := H
      (try dsimp only at H)
      have A93 := Aside0.mk A930
      clear A930
      by_cases c94 : t231 = true
      ·subst c94
       rw [if_pos rfl] at H
       simp only [Option.some.injEq, Prod.mk.injEq] at H
       obtain ⟨rfl, rfl, rfl, rfl, rfl⟩ := H
       have hnb95 := NB201_200.out
       have hnc95 := NB200_201.out
       have hnb96 := NB201_202.out
       have hnc96 := NB202_201.out
       have hcz97_0 := bc0_ BK201.out
       have hcz97_1 := bc1_ BK201.out
       have hcz97_2 := bc2_ BK201.out
       have hcz97_3 := bc3_ BK201.out
       have hfz97_0 := blk_frozen BK201.out 0
       have hfz97_1 := blk_frozen BK201.out 1
       have hfz97_2 := blk_frozen BK201.out 2
       have hfz97_3 := blk_frozen BK201.out 3
       obtain ⟨Ao98, co98, eo98⟩ := Kd.R_slice HO_2.out
       subst eo98
       have p230 : 0 ≤ (a3_1 : Int) := of_decide_eq_true zq71_
       have q230 : a3_1 < (x2_4.length : Int) := of_decide_eq_true zq71_
       obtain ⟨ad230, e230, hx230_0⟩ := Kd.at_int (Kd.R_reads' HO_2.out).2.2 a3_1 p230 q230
       cases e230
       replace p230 := eq_true p230
       replace q230 := eq_true q230
       go_wp2_with (first | (go_at_call 74; (with_reducible refine (spec_l1Num.calls (rd x2_4 a3_1) true _ A93.out).mono ?_); rintro e w' ⟨rfl, ⟨nd, rfl⟩⟩; (try (rw [drewN_self wc]; generalize hq_ : World.drewN wc _ = wc; have n0_ : Aside0 (Kd.R (Kd.int .i64) 3 wc w0.heap.size (fun k_ => ((P1_0_ k_ ∨ P1_1_ k_ ∨ P2_ k_) ∨ w.heap.size ≤ k_)) (.slice (some ad230) x2_4.length co98) x2_4) := ⟨by rw [← hq_]; exact zq26_⟩; have n1_ : Aside0 (Kd.R k48 48 wc w0.heap.size (fun k_ => ((P1_0_ k_ ∨ P1_1_ k_ ∨ P2_ k_) ∨ w.heap.size ≤ k_)) u201000 x201000_4) := ⟨by rw [← hq_]; exact zq27_⟩; have n2_ : Aside0 (Kd.R k36 36 wc w0.heap.size (fun k_ => ((P1_0_ k_ ∨ P1_1_ k_ ∨ P2_ k_) ∨ w.heap.size ≤ k_)) u201001 x201001_4) := ⟨by rw [← hq_]; exact zq28_⟩; have n3_ : Aside0 (wc.heap[gb200]? = some (.cells #[u201000, u201001, .int .i64 x201002_4, .int .i64 x201003_4] 30 (0, 0))) := ⟨by rw [← hq_]; exact zq3f_⟩; have n4_ : Aside0 (wc.heap[gb201]? = some (.cells #[.int .i64 a3_0, .int .i64 a3_1, .int .i64 a3_2, .int .i64 a3_3] 34 (0, 0))) := ⟨by rw [← hq_]; exact zq40_⟩; have n5_ : Aside0 (wc.heap[gb202]? = some (.cells #[.slice none 0 0, .slice none 0 0, .int .i64 0, .int .i64 0] 30 (0, 0))) := ⟨by rw [← hq_]; exact zq41_⟩; have n6_ : Aside0 (Kept w wc (fun k_ => P1_0_ k_ ∨ P1_1_ k_ ∨ P2_ k_)) := ⟨by rw [← hq_]; exact zqa9_⟩; have n7_ : Aside0 (Below w0.heap.size w0 wc) := ⟨by rw [← hq_]; exact zq8a_⟩; clear HO_2 HO_201000 HO_201001 BK200 BK201 BK202 HK HB hq_; have HO_2 := n0_; have HO_201000 := n1_; have HO_201001 := n2_; have BK200 := n3_; have BK201 := n4_; have BK202 := n5_; have HK := n6_; have HB := n7_; clear n0_ n1_ n2_ n3_ n4_ n5_ n6_ n7_; have hcz97_0 := bc0_ BK201.out; have hfz97_0 := blk_frozen BK201.out 0; have hcz97_1 := bc1_ BK201.out; have hfz97_1 := blk_frozen BK201.out 1; have hcz97_2 := bc2_ BK201.out; have hfz97_2 := blk_frozen BK201.out 2; have hcz97_3 := bc3_ BK201.out; have hfz97_3 := blk_frozen BK201.out 3)); (try clear A93); have hnb99 := NB200_202.out; have hnc99 := NB202_200.out; have hcz100_0 : wc.cell? ⟨gb200, 0, none⟩ = some (u201000) := (blk_cell BK200.out 0).trans rfl; have hcz100_1 : wc.cell? ⟨gb200, 1, none⟩ = some (u201001) := (blk_cell BK200.out 1).trans rfl; have hcz100_2 := bc2_ BK200.out; have hcz100_3 := bc3_ BK200.out; have hfz100_0 := blk_frozen BK200.out 0; have hfz100_1 := blk_frozen BK200.out 1; have hfz100_2 := blk_frozen BK200.out 2; have hfz100_3 := blk_frozen BK200.out 3; obtain ⟨Ao101, co101, eo101⟩ := Kd.R_slice HO_201000.out; subst eo101; have hcz102_0 := bc0_ BK202.out; have hcz102_1 := bc1_ BK202.out; have hcz102_2 := bc2_ BK202.out; have hcz102_3 := bc3_ BK202.out; have hfz102_0 := blk_frozen BK202.out 0; have hfz102_1 := blk_frozen BK202.out 1; have hfz102_2 := blk_frozen BK202.out 2; have hfz102_3 := blk_frozen BK202.out 3; obtain ⟨Ao103, co103, eo103⟩ := Kd.R_slice HO_201001.out; subst eo103))
       refine bodyPost_ret (results_cell_row rfl _ _ gb202 30 #[.slice Ao101 x201000_4.length co101, .slice Ao103 x201001_4.length co103, .int .i64 x201002_4, .int .i64 x201003_4] (0, 0) _ rfl (by (with_reducible repeat (first | refine blk_drewN ?_ _ | refine blk_drew ?_ | refine blk_alloc ?_ _)); refine blk_put (cs := #[.slice Ao101 x201000_4.length co101, .slice Ao103 x201001_4.length co103, .int .i64 x201002_4, .int .i64 0]) ?_ 3 _ rfl; (with_reducible repeat (first | refine blk_drewN ?_ _ | refine blk_drew ?_ | refine blk_alloc ?_ _)); refine blk_put (cs := #[.slice Ao101 x201000_4.length co101, .slice Ao103 x201001_4.length co103, .int .i64 0, .int .i64 0]) ?_ 2 _ rfl; (with_reducible repeat (first | refine blk_drewN ?_ _ | refine blk_drew ?_ | refine blk_alloc ?_ _)); refine blk_put (cs := #[.slice Ao101 x201000_4.length co101, .slice none 0 0, .int .i64 0, .int .i64 0]) ?_ 1 _ rfl; (with_reducible repeat (first | refine blk_drewN ?_ _ | refine blk_drew ?_ | refine blk_alloc ?_ _)); refine blk_put (cs := #[.slice none 0 0, .slice none 0 0, .int .i64 0, .int .i64 0]) ?_ 0 _ rfl; (with_reducible repeat (first | refine blk_drewN ?_ _ | refine blk_drew ?_ | refine blk_alloc ?_ _)); exact BK202.out) Try.underlying30 rfl (by kernel_rfl)) rfl ?_
       exact ⟨_, _, zq75_, by (with_reducible repeat (first | apply Kd.R_alloc | apply Kd.R_drewN | apply Kd.R_drew)); exact Kd.R_mono (Kd.R_far (p := ⟨gb202, 3, none⟩) (Kd.R_far (p := ⟨gb202, 2, none⟩) (Kd.R_far (p := ⟨gb202, 1, none⟩) (Kd.R_far (p := ⟨gb202, 0, none⟩) (Kd.R_types HO_201000.out BK202.out (by decide)) (fun _ hk => hk.2) (.slice Ao101 x201000_4.length co101)) (fun _ hk => hk.2) (.slice Ao103 x201001_4.length co103)) (fun _ hk => hk.2) (.int .i64 x201002_4)) (fun _ hk => hk.2) (.int .i64 x201003_4)) (fun _ hk => hk.1), by (with_reducible repeat (first | apply Kd.R_alloc | apply Kd.R_drewN | apply Kd.R_drew)); exact Kd.R_mono (Kd.R_far (p := ⟨gb202, 3, none⟩) (Kd.R_far (p := ⟨gb202, 2, none⟩) (Kd.R_far (p := ⟨gb202, 1, none⟩) (Kd.R_far (p := ⟨gb202, 0, none⟩) (Kd.R_types HO_201001.out BK202.out (by decide)) (fun _ hk => hk.2) (.slice Ao101 x201000_4.length co101)) (fun _ hk => hk.2) (.slice Ao103 x201001_4.length co103)) (fun _ hk => hk.2) (.int .i64 x201002_4)) (fun _ hk => hk.2) (.int .i64 x201003_4)) (fun _ hk => hk.1), by (with_reducible repeat (first | apply Kd.R_alloc | apply Kd.R_drewN | apply Kd.R_drew)); exact Kd.R_mono (Kd.R_far (p := ⟨gb202, 3, none⟩) (Kd.R_far (p := ⟨gb202, 2, none⟩) (Kd.R_far (p := ⟨gb202, 1, none⟩) (Kd.R_far (p := ⟨gb202, 0, none⟩) (Kd.R_types HO_2.out BK202.out (by decide)) (fun _ hk => hk.2) (.slice Ao101 x201000_4.length co101)) (fun _ hk => hk.2) (.slice Ao103 x201001_4.length co103)) (fun _ hk => hk.2) (.int .i64 x201002_4)) (fun _ hk => hk.2) (.int .i64 x201003_4)) (fun _ hk => hk.1), zq8a_, zqa9_⟩
      ·replace c94 := Bool.eq_false_iff.mpr c94
       subst c94
       rw [if_neg (show ¬ (false = true) by decide)] at H
       simp only [Option.some.injEq, Prod.mk.injEq] at H
       obtain ⟨rfl, rfl, rfl, rfl, rfl⟩ := H
       have hnb104 := NB201_200.out
       have hnc104 := NB200_201.out
       have hnb105 := NB201_202.out
       have hnc105 := NB202_201.out
       have hcz106_0 := bc0_ BK201.out
       have hcz106_1 := bc1_ BK201.out
       have hcz106_2 := bc2_ BK201.out
       have hcz106_3 := bc3_ BK201.out
       have hfz106_0 := blk_frozen BK201.out 0
       have hfz106_1 := blk_frozen BK201.out 1
       have hfz106_2 := blk_frozen BK201.out 2
       have hfz106_3 := blk_frozen BK201.out 3
       obtain ⟨Ao107, co107, eo107⟩ := Kd.R_slice HO_2.out
       subst eo107
       have p230 : 0 ≤ (a3_1 : Int) := of_decide_eq_true zq71_
       have q230 : a3_1 < (x2_4.length : Int) := of_decide_eq_true zq71_
       obtain ⟨ad230, e230, hx230_0⟩ := Kd.at_int (Kd.R_reads' HO_2.out).2.2 a3_1 p230 q230
       cases e230
       replace p230 := eq_true p230
       replace q230 := eq_true q230
       go_wp2_with (first | (go_at_call 74; (with_reducible refine (spec_l1Num.calls (rd x2_4 a3_1) false _ A93.out).mono ?_); rintro e w' ⟨rfl, ⟨nd, rfl⟩⟩; (try (rw [drewN_self wc]; generalize hq_ : World.drewN wc _ = wc; have n0_ : Aside0 (Kd.R (Kd.int .i64) 3 wc w0.heap.size (fun k_ => ((P1_0_ k_ ∨ P1_1_ k_ ∨ P2_ k_) ∨ w.heap.size ≤ k_)) (.slice (some ad230) x2_4.length co107) x2_4) := ⟨by rw [← hq_]; exact zq26_⟩; have n1_ : Aside0 (Kd.R k48 48 wc w0.heap.size (fun k_ => ((P1_0_ k_ ∨ P1_1_ k_ ∨ P2_ k_) ∨ w.heap.size ≤ k_)) u201000 x201000_4) := ⟨by rw [← hq_]; exact zq27_⟩; have n2_ : Aside0 (Kd.R k36 36 wc w0.heap.size (fun k_ => ((P1_0_ k_ ∨ P1_1_ k_ ∨ P2_ k_) ∨ w.heap.size ≤ k_)) u201001 x201001_4) := ⟨by rw [← hq_]; exact zq28_⟩; have n3_ : Aside0 (wc.heap[gb200]? = some (.cells #[u201000, u201001, .int .i64 x201002_4, .int .i64 x201003_4] 30 (0, 0))) := ⟨by rw [← hq_]; exact zq3f_⟩; have n4_ : Aside0 (wc.heap[gb201]? = some (.cells #[.int .i64 a3_0, .int .i64 a3_1, .int .i64 a3_2, .int .i64 a3_3] 34 (0, 0))) := ⟨by rw [← hq_]; exact zq40_⟩; have n5_ : Aside0 (wc.heap[gb202]? = some (.cells #[.slice none 0 0, .slice none 0 0, .int .i64 0, .int .i64 0] 30 (0, 0))) := ⟨by rw [← hq_]; exact zq41_⟩; have n6_ : Aside0 (Kept w wc (fun k_ => P1_0_ k_ ∨ P1_1_ k_ ∨ P2_ k_)) := ⟨by rw [← hq_]; exact zqa9_⟩; have n7_ : Aside0 (Below w0.heap.size w0 wc) := ⟨by rw [← hq_]; exact zq8a_⟩; clear HO_2 HO_201000 HO_201001 BK200 BK201 BK202 HK HB hq_; have HO_2 := n0_; have HO_201000 := n1_; have HO_201001 := n2_; have BK200 := n3_; have BK201 := n4_; have BK202 := n5_; have HK := n6_; have HB := n7_; clear n0_ n1_ n2_ n3_ n4_ n5_ n6_ n7_; have hcz106_0 := bc0_ BK201.out; have hfz106_0 := blk_frozen BK201.out 0; have hcz106_1 := bc1_ BK201.out; have hfz106_1 := blk_frozen BK201.out 1; have hcz106_2 := bc2_ BK201.out; have hfz106_2 := blk_frozen BK201.out 2; have hcz106_3 := bc3_ BK201.out; have hfz106_3 := blk_frozen BK201.out 3)); (try clear A93); have hnb108 := NB200_202.out; have hnc108 := NB202_200.out; have hcz109_0 : wc.cell? ⟨gb200, 0, none⟩ = some (u201000) := (blk_cell BK200.out 0).trans rfl; have hcz109_1 : wc.cell? ⟨gb200, 1, none⟩ = some (u201001) := (blk_cell BK200.out 1).trans rfl; have hcz109_2 := bc2_ BK200.out; have hcz109_3 := bc3_ BK200.out; have hfz109_0 := blk_frozen BK200.out 0; have hfz109_1 := blk_frozen BK200.out 1; have hfz109_2 := blk_frozen BK200.out 2; have hfz109_3 := blk_frozen BK200.out 3; obtain ⟨Ao110, co110, eo110⟩ := Kd.R_slice HO_201000.out; subst eo110; have hcz111_0 := bc0_ BK202.out; have hcz111_1 := bc1_ BK202.out; have hcz111_2 := bc2_ BK202.out; have hcz111_3 := bc3_ BK202.out; have hfz111_0 := blk_frozen BK202.out 0; have hfz111_1 := blk_frozen BK202.out 1; have hfz111_2 := blk_frozen BK202.out 2; have hfz111_3 := blk_frozen BK202.out 3; obtain ⟨Ao112, co112, eo112⟩ := Kd.R_slice HO_201001.out; subst eo112))
       refine bodyPost_ret (results_cell_row rfl _ _ gb202 30 #[.slice Ao110 x201000_4.length co110, .slice Ao112 x201001_4.length co112, .int .i64 x201002_4, .int .i64 2] (0, 0) _ rfl (by (with_reducible repeat (first | refine blk_drewN ?_ _ | refine blk_drew ?_ | refine blk_alloc ?_ _)); refine blk_put (cs := #[.slice Ao110 x201000_4.length co110, .slice Ao112 x201001_4.length co112, .int .i64 x201002_4, .int .i64 0]) ?_ 3 _ rfl; (with_reducible repeat (first | refine blk_drewN ?_ _ | refine blk_drew ?_ | refine blk_alloc ?_ _)); refine blk_put (cs := #[.slice Ao110 x201000_4.length co110, .slice Ao112 x201001_4.length co112, .int .i64 0, .int .i64 0]) ?_ 2 _ rfl; (with_reducible repeat (first | refine blk_drewN ?_ _ | refine blk_drew ?_ | refine blk_alloc ?_ _)); refine blk_put (cs := #[.slice Ao110 x201000_4.length co110, .slice none 0 0, .int .i64 0, .int .i64 0]) ?_ 1 _ rfl; (with_reducible repeat (first | refine blk_drewN ?_ _ | refine blk_drew ?_ | refine blk_alloc ?_ _)); refine blk_put (cs := #[.slice none 0 0, .slice none 0 0, .int .i64 0, .int .i64 0]) ?_ 0 _ rfl; (with_reducible repeat (first | refine blk_drewN ?_ _ | refine blk_drew ?_ | refine blk_alloc ?_ _)); refine blk_far ?_ NB202_200.out _; (with_reducible repeat (first | refine blk_drewN ?_ _ | refine blk_drew ?_ | refine blk_alloc ?_ _)); exact BK202.out) Try.underlying30 rfl (by kernel_rfl)) rfl ?_
       exact ⟨_, _, zq75_, by (with_reducible repeat (first | apply Kd.R_alloc | apply Kd.R_drewN | apply Kd.R_drew)); exact Kd.R_mono (Kd.R_far (p := ⟨gb202, 3, none⟩) (Kd.R_far (p := ⟨gb202, 2, none⟩) (Kd.R_far (p := ⟨gb202, 1, none⟩) (Kd.R_far (p := ⟨gb202, 0, none⟩) (Kd.R_far (p := ⟨gb200, 3, none⟩) (Kd.R_types (Kd.R_types HO_201000.out BK200.out (by decide)) BK202.out (by decide)) (fun _ hk => hk.1.2) (.int .i64 2)) (fun _ hk => hk.2) (.slice Ao110 x201000_4.length co110)) (fun _ hk => hk.2) (.slice Ao112 x201001_4.length co112)) (fun _ hk => hk.2) (.int .i64 x201002_4)) (fun _ hk => hk.2) (.int .i64 2)) (fun _ hk => hk.1.1), by (with_reducible repeat (first | apply Kd.R_alloc | apply Kd.R_drewN | apply Kd.R_drew)); exact Kd.R_mono (Kd.R_far (p := ⟨gb202, 3, none⟩) (Kd.R_far (p := ⟨gb202, 2, none⟩) (Kd.R_far (p := ⟨gb202, 1, none⟩) (Kd.R_far (p := ⟨gb202, 0, none⟩) (Kd.R_far (p := ⟨gb200, 3, none⟩) (Kd.R_types (Kd.R_types HO_201001.out BK200.out (by decide)) BK202.out (by decide)) (fun _ hk => hk.1.2) (.int .i64 2)) (fun _ hk => hk.2) (.slice Ao110 x201000_4.length co110)) (fun _ hk => hk.2) (.slice Ao112 x201001_4.length co112)) (fun _ hk => hk.2) (.int .i64 x201002_4)) (fun _ hk => hk.2) (.int .i64 2)) (fun _ hk => hk.1.1), by (with_reducible repeat (first | apply Kd.R_alloc | apply Kd.R_drewN | apply Kd.R_drew)); exact Kd.R_mono (Kd.R_far (p := ⟨gb202, 3, none⟩) (Kd.R_far (p := ⟨gb202, 2, none⟩) (Kd.R_far (p := ⟨gb202, 1, none⟩) (Kd.R_far (p := ⟨gb202, 0, none⟩) (Kd.R_far (p := ⟨gb200, 3, none⟩) (Kd.R_types (Kd.R_types HO_2.out BK200.out (by decide)) BK202.out (by decide)) (fun _ hk => hk.1.2) (.int .i64 2)) (fun _ hk => hk.2) (.slice Ao110 x201000_4.length co110)) (fun _ hk => hk.2) (.slice Ao112 x201001_4.length co112)) (fun _ hk => hk.2) (.int .i64 x201002_4)) (fun _ hk => hk.2) (.int .i64 2)) (fun _ hk => hk.1.1), zq8a_, zqa9_⟩
     ·rw [if_neg c92] at H
      exact absurd H (by simp)
    ·rw [if_neg c91] at H
     exact absurd H (by simp)

end Go.Proofs.Ytgdafcakefnpdaa.PFnExactExecRun
