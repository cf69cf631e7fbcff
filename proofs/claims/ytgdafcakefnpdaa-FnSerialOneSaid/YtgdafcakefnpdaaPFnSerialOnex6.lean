-- Laid by this session's program out of the translation (gen.sh).
import Derived.Test.YtgdafcakefnpdaaPFnSerialOnex0
import Derived.Test.YtgdafcakefnpdaaPFnSerialOnex1
import Derived.Test.YtgdafcakefnpdaaPFnSerialOnex2
import Derived.Test.YtgdafcakefnpdaaPFnSerialOnex5
namespace Go.Proofs.Ytgdafcakefnpdaa.PFnSerialOne
open Go.RowKit Go.Proofs.YtgdafcakefnpdaaW.PrintWords Go.Proofs.YtgdafcakefnpdaaW.PrintLast Go.Proofs.YtgdafcakefnpdaaW.PrintMore
attribute [local go_sem] max2_int min2_int max_two min_two max_three min_three max_four min_four   -- for this text's walks alone
set_option linter.unusedVariables false
set_option linter.unusedSimpArgs false

attribute [local go_sem high] eqA46
/-! ### impl_copied_impl_Box: function 70 -/
def impl_copied_impl_Box.f (l0 : List (S46)) : Option (List (S46)) := if l0.length ≤ 17592186044416 then some l0 else none
set_option maxHeartbeats 8000000 in
set_option maxRecDepth 100000 in
theorem impl_copied_impl_Box.calls (A0 : Option Addr) (c0 : Nat) (l0 : List (S46)) (r : List (S46)) (w : World) (V0 : Kd.C k46 w A0 l0.length l0) (Z0 : l0.length ≤ c0) (h : impl_copied_impl_Box.f l0 = some r) :
  Calls Try.prog 70 #[.slice A0 l0.length c0] w fun e w' => ∃ v0_ : Value, e = .returned (v0_) ∧ Kd.R k46 46 w' w.heap.size (fun _ => True) v0_ r ∧ Below w.heap.size w w' := by
 unfold impl_copied_impl_Box.f at h; by_cases aQ : l0.length ≤ 17592186044416
 ·rw [if_pos aQ] at h; obtain rfl := Option.some.inj h; clear h; have bm := Aside0.mk aQ; by_cases aG0 : l0.length = 0
  ·obtain rfl : l0 = [] := List.eq_nil_of_length_eq_zero aG0; clear V0 Z0 aQ bm aG0
   go_enter Try.func70, Try.ntmps70
   go_wp2
   go_ret
   exact ⟨_, rfl, Kd.R_nil _ _ _ _ _, Below.refl _ _⟩
  ·have be0 : ((l0.length : Int) == 0) = false := beq_eq_false_iff_ne.mpr (by omega); have be1 : (l0.length == 0) = false := beq_eq_false_iff_ne.mpr aG0; have bB := Aside0.mk (Nat.pos_of_ne_zero aG0); have bs0 : (0 : Int) ≤ (l0.length : Int) := Int.natCast_nonneg _; have bC := Aside0.mk V0; have bP := Aside0.mk Z0; clear V0 Z0 aQ aG0
   go_enter Try.func70, Try.ntmps70
   go_wp2_with (first | ((with_reducible refine gate_dst (N := 9) rfl ?_); refine Kd.R_make k46 _ 46 rfl (N := 9) rfl 23 _ _ rfl (l0.length : Int) rfl rfl Try.underlying23 (.agg #[(.int .i64 0), (.int .i64 0)]) 16 info46 rfl (by decide) (by omega) z46 (ok := fun _ => True) (okp := fun _ => True) (k46_mkM _ _ _ z46) (fun _ hk => hk) trivial (by omega) (by have := bm.out; omega) (Below.refl _ _) (Nat.le_refl _) ?_; intro L0 w2 t0 hb ao ap; clear ao ap; have bD := Aside0.mk t0; have bn := Aside0.mk hb; clear t0 hb) | ((with_reducible refine gate_dst (N := 12) rfl ?_); refine copy_event k46 _ rfl (N := 12) rfl (.tmp 10) (.tmp 11) 23 23 46 rfl Try.underlying23 (by have h_ := info46; obtain ⟨i0, hi, bo⟩ := Option.map_eq_some_iff.1 h_; simp only [Prod.mk.injEq] at bo; rw [hi]; exact congrArg some bo.2.1) (by decide) _ _ l0 A0 c0 (fun _ => True) rfl rfl bD.out (Kd.C_below bC.out bn.out) (by simp) bB.out (fun w' x cs h_ w1 b1 o1 => by obtain rfl := k46_open h_; exact k46_mkM _ _ _ x) bn.out ?_; intro w3 t1 hb; have bE0 := Aside0.mk t1; have bF0 := Aside0.mk hb; clear t1 hb))
   go_ret
   exact ⟨_, rfl, bE0.out, bF0.out⟩
 ·rw [if_neg aQ] at h; cases h

/-! ### impl_ExecDo: function 17 -/
mutual
def impl_ExecDo.j0 : Nat → List (S46) → Bool → List (S48) → List (S36) → Int → Int → Option ((List (S46)))
 | 0, _, _, _, _, _, _ => none
 | k + 1, x0, x15, x177000, x177001, x177002, x177003 => if x15 = true then (some ([] : List (S46))) else ((impl_copied_impl_Box.f x0).bind fun t179 => (impl_ExecDo.l0 k t179 x177001 (x177001.length : Int) 0))
def impl_ExecDo.l0 : Nat → List (S46) → List (S36) → Int → Int → Option ((List (S46)))
 | 0, _, _, _, _ => none
 | k + 1, x5, x19, x20, x21 => if x21 < x20 then (if 0 ≤ x21 then (if x21 < (x19.length : Int) then (if 0 ≤ ((rd_T36 x19 x21).f0) then (if ((rd_T36 x19 x21).f0) < (x5.length : Int) then (impl_ExecDo.l0 k (x5.set (((rd_T36 x19 x21).f0) : Int).toNat (⟨mn 1000000 (wrap64 (((rd_T46 x5 ((rd_T36 x19 x21).f0)).f0) + 1)), (rd_T36 x19 x21).f1⟩ : S46)) x19 x20 (wrap64 (x21 + 1))) else (none)) else (none)) else (none)) else (none)) else (some x5)
end
def impl_ExecDo.f (k : Nat) (l0 : List (S46)) (l1_0 : List (S48)) (l1_1 : List (S36)) (a1_2 : Int) (a1_3 : Int) : Option ((List (S46))) := (impl_BoxOk.f k l0).bind fun t177 => (if t177 = true then ((impl_ExecOk.f k l1_0 l1_1 a1_2 a1_3).bind fun t178 => (impl_ExecDo.j0 k l0 (!t178) l1_0 l1_1 a1_2 a1_3)) else (impl_ExecDo.j0 k l0 true l1_0 l1_1 a1_2 a1_3))
theorem impl_ExecDo.mono_l : ∀ k, (∀ y0 y1 y2 y3 y4 y5, LeO (impl_ExecDo.j0 k y0 y1 y2 y3 y4 y5) (impl_ExecDo.j0 (k + 1) y0 y1 y2 y3 y4 y5)) ∧ (∀ y0 y1 y2 y3, LeO (impl_ExecDo.l0 k y0 y1 y2 y3) (impl_ExecDo.l0 (k + 1) y0 y1 y2 y3))
 | 0 => ⟨fun _ _ _ _ _ _ r h => by simp [impl_ExecDo.j0] at h, fun _ _ _ _ r h => by simp [impl_ExecDo.l0] at h⟩
 | k + 1 => by
  obtain ⟨G0, G1⟩ := impl_ExecDo.mono_l k
  refine ⟨?_, ?_⟩
  ·intro y0 y1 y2 y3 y4 y5
   unfold impl_ExecDo.j0
   repeat' first
   | (with_reducible exact G0 _ _ _ _ _ _)
   | (with_reducible exact G1 _ _ _ _)
   | (with_reducible exact impl_BoxOk.mono _ _)
   | (with_reducible exact impl_ExecOk.mono _ _ _ _ _)
   | (with_reducible exact LeO.refl _)
   | (with_reducible exact LeO.none _)
   | (with_reducible refine LeO.ite ?_ ?_)
   | (with_reducible refine LeO.bind ?_ (fun _ => ?_))
   | exact G0 _ _ _ _ _ _
   | exact G1 _ _ _ _
   | exact impl_BoxOk.mono _ _
   | exact impl_ExecOk.mono _ _ _ _ _
   | exact LeO.none _
   | refine LeO.ite ?_ ?_
   | refine LeO.bind ?_ (fun _ => ?_)
  ·intro y0 y1 y2 y3
   unfold impl_ExecDo.l0
   repeat' first
   | (with_reducible exact G0 _ _ _ _ _ _)
   | (with_reducible exact G1 _ _ _ _)
   | (with_reducible exact impl_BoxOk.mono _ _)
   | (with_reducible exact impl_ExecOk.mono _ _ _ _ _)
   | (with_reducible exact LeO.refl _)
   | (with_reducible exact LeO.none _)
   | (with_reducible refine LeO.ite ?_ ?_)
   | (with_reducible refine LeO.bind ?_ (fun _ => ?_))
   | exact G0 _ _ _ _ _ _
   | exact G1 _ _ _ _
   | exact impl_BoxOk.mono _ _
   | exact impl_ExecOk.mono _ _ _ _ _
   | exact LeO.none _
   | refine LeO.ite ?_ ?_
   | refine LeO.bind ?_ (fun _ => ?_)
theorem impl_ExecDo.mono : ∀ a0 a1 a2 a3 a4 k, LeO (impl_ExecDo.f k a0 a1 a2 a3 a4) (impl_ExecDo.f (k + 1) a0 a1 a2 a3 a4) := by
 intro a0 a1 a2 a3 a4 k
 obtain ⟨G0, G1⟩ := impl_ExecDo.mono_l k
 unfold impl_ExecDo.f
 repeat' first
   | (with_reducible exact G0 _ _ _ _ _ _)
   | (with_reducible exact G1 _ _ _ _)
   | (with_reducible exact impl_BoxOk.mono _ _)
   | (with_reducible exact impl_ExecOk.mono _ _ _ _ _)
   | (with_reducible exact LeO.refl _)
   | (with_reducible exact LeO.none _)
   | (with_reducible refine LeO.ite ?_ ?_)
   | (with_reducible refine LeO.bind ?_ (fun _ => ?_))
   | exact G0 _ _ _ _ _ _
   | exact G1 _ _ _ _
   | exact impl_BoxOk.mono _ _
   | exact impl_ExecOk.mono _ _ _ _ _
   | exact LeO.none _
   | refine LeO.ite ?_ ?_
   | refine LeO.bind ?_ (fun _ => ?_)
def impl_ExecDo.T7 : Bool × List (List Nat × List Nat) := (true, [([], []), ([], []), ([1], [1]), ([], []), ([], []), ([4], [4]), ([3, 5], [3, 5]), ([6], [6]), ([7], [7]), ([8], [8]), ([9], [9]), ([], []), ([11], [11]), ([10, 12], [10, 12]), ([0, 2, 0, 1, 2, 3, 4, 5, 6, 7, 8, 9, 10, 11, 12, 13], [0, 2]), ([14, 13, 0, 1, 2, 3, 4, 5, 6, 7, 8, 9, 10, 11, 12, 13], [13, 14])])
def impl_ExecDo.B7 : List Nat := [0, 0, 2, 0, 0, 16, 56, 120, 248, 504, 1016, 0, 2048, 8184, 16383, 32767]
theorem impl_ExecDo.tab7 : rtab .any (opsOf Try.f17 7) = impl_ExecDo.T7 := by kernel_rfl
theorem impl_ExecDo.bits7 : waitsOk impl_ExecDo.T7.2 impl_ExecDo.B7 = true := by kernel_rfl
set_option maxHeartbeats 8000000 in
set_option maxRecDepth 100000 in
theorem impl_ExecDo.calls (k : Nat) (A0 : Option Addr) (c0 : Nat) (l0 : List (S46)) (Y0 : Option Addr) (R0 : Nat) (o0 : List (S48)) (Y1 : Option Addr) (R1 : Nat) (o1 : List (S36)) (h0 : Int) (h1 : Int) (r : List (S46)) (w : World) (V0 : Kd.C k46 w A0 l0.length l0) (Z0 : l0.length ≤ c0) (aE0 : Kd.C k48 w Y0 o0.length o0) (aF0 : o0.length ≤ R0) (aE1 : Kd.C k36 w Y1 o1.length o1) (aF1 : o1.length ≤ R1) (h : impl_ExecDo.f k l0 o0 o1 h0 h1 = some r) :
  Calls Try.prog 17 #[.slice A0 l0.length c0, .agg #[.slice Y0 o0.length R0, .slice Y1 o1.length R1, .int .i64 h0, .int .i64 h1]] w fun e w' => ∃ v0_ : Value, e = .returned (v0_) ∧ Kd.R k46 46 w' w.heap.size (fun _ => True) v0_ r ∧ Below w.heap.size w w' := by
 have aq0 := Try.underlying30; have aq1 := Try.underlying36; have aq2 := Try.underlying46; have U0 := Aside0.mk V0; have aa0 := Aside0.mk Z0; clear V0 Z0; have aN0 := Aside0.mk aE0; have bl0 := Aside0.mk aF0; clear aE0 aF0; have aN1 := Aside0.mk aE1; have bl1 := Aside0.mk aF1; clear aE1 aF1; have HB := Aside0.mk (Below.refl w.heap.size w); have H : ((impl_BoxOk.f k l0).bind fun e0 => (if e0 = true then ((impl_ExecOk.f k o0 o1 h0 h1).bind fun e1 => (impl_ExecDo.j0 k l0 (!e1) o0 o1 h0 h1)) else (impl_ExecDo.j0 k l0 true o0 o1 h0 h1))) = some r := h; clear h; have aa1 := Aside0.mk H; clear H
 go_enter Try.func17, Try.ntmps17
 go_upto_region 1 with (first | ((with_reducible refine gate_dst (N := 3) rfl ?_); refine bxe_ (N := 3) (cs := #[.slice Y0 o0.length R0, .slice Y1 o1.length R1, .int .i64 h0, .int .i64 h1]) (t := 30) ?_; intro d0 hg w4 C_ hb; have n_ := A4_ (below_step zq74_ hb) (C_) ((zqa9_ : w.heap.size ≤ d0)) ((zqa9_ : w.heap.size ≤ d0)); clear HB; obtain ⟨HB, c3, B0, n0⟩ := n_; clear hb C_ hg))
 (try simp only [Act.put, List.setIfInBounds_toArray, List.set_cons_zero, List.set_cons_succ])
 go_cut [15] (fun L0 wc => ∃ (kq : Nat) (a0 : Bool), L0 = .bool a0 ∧ Aside0 (impl_ExecDo.j0 kq l0 a0 o0 o1 h0 h1 = some r) ∧ Aside0 (kq ≤ k) ∧ Aside0 (wc.heap[d0]? = some (.cells #[(.slice Y0 o0.length R0), (.slice Y1 o1.length R1), .int .i64 h0, .int .i64 h1] 30 (0, 0))) ∧ Aside0 (Below w.heap.size w wc))
 case first =>
  have H := aa1.out; clear aa1; replace H := bs_ H; obtain ⟨e0, A5, H⟩ := H; (try dsimp only at H); replace H := ifB_ H
  rcases H with ⟨rfl, H⟩ | ⟨rfl, H⟩
  ·replace H := bs_ H; obtain ⟨e1, A7, H⟩ := H; (try dsimp only at H); have H' := Aside0.mk H; clear H
   go_wp2_with (first | ((with_reducible refine gate_callee (f := 25) rfl ?_); refine gl_ 9 Try.func25 #[.slice A0 l0.length c0] ?_; (with_reducible refine (impl_BoxOk.calls k _ _ l0 true _ ?_ ?_ A5.out).mono ?_); exact zq83_; exact aa0.out; rintro e w8 ⟨rfl, hb⟩; refine ⟨_, rfl, ?_⟩; have n_ := A2_ (blk_below (g := d0) (o := .cells #[.slice Y0 o0.length R0, .slice Y1 o1.length R1, .int .i64 h0, .int .i64 h1] 30 (0, 0)) zq2d_ hb) (below_step zq73_ hb); clear c3 HB; obtain ⟨c3, HB⟩ := n_; (try clear hb); obtain ⟨j1, j2, j3, j4, k0, k1, k3, k4⟩ := bz4_ c3.out) | (go_at_call 20; (with_reducible refine (impl_ExecOk.calls k _ _ o0 _ _ o1 h0 h1 e1 _ ?side1 ?side2 ?side3 ?side4 A7.out).mono ?_); (case side1 => repeat (first | exact (Kd.C_below aN0.out HB.out) | (with_reducible refine Kd.C_alloc ?_ _) | (with_reducible refine Kd.C_drewN ?_ _) | (with_reducible refine Kd.C_drew ?_))); (case side2 => exact bl0.out); (case side3 => repeat (first | exact (Kd.C_below aN1.out HB.out) | (with_reducible refine Kd.C_alloc ?_ _) | (with_reducible refine Kd.C_drewN ?_ _) | (with_reducible refine Kd.C_drew ?_))); (case side4 => exact bl1.out); rintro e q0 ⟨rfl, hb⟩; have n_ := A2_ (blk_below (g := d0) (o := .cells #[.slice Y0 o0.length R0, .slice Y1 o1.length R1, .int .i64 h0, .int .i64 h1] 30 (0, 0)) zq2d_ hb) (below_step zq73_ hb); clear c3 HB; obtain ⟨c3, HB⟩ := n_; (try clear hb); (try clear A7)))
   go_meet
   case rel => exact ⟨_, (!e1), zq69_, H', ⟨zq67_⟩, ⟨zq2d_⟩, ⟨zq73_⟩⟩
  ·have H' := Aside0.mk H; clear H
   go_wp2_with (first | ((with_reducible refine gate_callee (f := 25) rfl ?_); refine gl_ 9 Try.func25 #[.slice A0 l0.length c0] ?_; (with_reducible refine (impl_BoxOk.calls k _ _ l0 false _ ?_ ?_ A5.out).mono ?_); exact zq83_; exact aa0.out; rintro e q0 ⟨rfl, hb⟩; refine ⟨_, rfl, ?_⟩; have n_ := A2_ (blk_below (g := d0) (o := .cells #[.slice Y0 o0.length R0, .slice Y1 o1.length R1, .int .i64 h0, .int .i64 h1] 30 (0, 0)) zq2d_ hb) (below_step zq73_ hb); clear c3 HB; obtain ⟨c3, HB⟩ := n_; (try clear hb)))
   go_meet
   case rel => exact ⟨_, (true), zq69_, H', ⟨zq67_⟩, ⟨zq2d_⟩, ⟨zq73_⟩⟩
 case rest =>
  clear aa1
  try clear c1
  try clear c2
  try clear p2
  try clear c6
  try clear j1 j2 j3 j4 k0 k1 k3 k4
  obtain ⟨kq, a0, rfl, HA, an0, c3, HB⟩ := hcut
  cases kq with
  | zero => exact absurd HA.out (by simp [impl_ExecDo.j0])
  | succ kj2 =>
   have H := HA.out; clear HA; simp only [impl_ExecDo.j0] at H; replace H := ifB_ H
   rcases H with ⟨rfl, H⟩ | ⟨rfl, H⟩
   ·obtain rfl := Option.some.inj H
    go_wp2
    go_ret
    exact ⟨_, zq68_, zq65_, zq73_⟩
   ·replace H := bs_ H; obtain ⟨e2, y0, H⟩ := H; (try dsimp only at H); have H' := Aside0.mk H; clear H
    go_wp2_with (first | ((with_reducible refine gate_callee (f := 70) rfl ?_); refine gl_ 17 Try.func70 #[.slice A0 l0.length c0] ?_; (with_reducible refine (impl_copied_impl_Box.calls _ _ l0 e2 _ ?_ ?_ y0.out).mono ?_); exact zq83_; exact aa0.out; rintro e q0 ⟨L1, rfl, t0, hb⟩; refine ⟨_, rfl, ?_⟩; have n_ := A3_ (Kd.R_lower t0 (below_size zq73_)) (blk_below (g := d0) (o := .cells #[.slice Y0 o0.length R0, .slice Y1 o1.length R1, .int .i64 h0, .int .i64 h1] 30 (0, 0)) zq2d_ hb) (below_step zq73_ hb); clear c3 HB; obtain ⟨f2, c3, HB⟩ := n_; (try clear hb); (try clear t0); obtain ⟨j5, j6, j7, j8, k5, k6, k7, k8⟩ := bz4_ c3.out))
    go_loopg [21] kj2 (fun kq L2 w' => ∃ (a1 : List (S46)) (a2 : Int), L2 = .int .i64 a2 ∧ Aside0 (impl_ExecDo.l0 kq a1 o1 (o1.length : Int) a2 = some r) ∧ Aside0 (kq ≤ kj2) ∧ Aside0 (Kd.R k46 46 w' w.heap.size (fun _ => True) L1 a1) ∧ Aside0 (w'.heap[d0]? = some (.cells #[(.slice Y0 o0.length R0), (.slice Y1 o1.length R1), .int .i64 h0, .int .i64 h1] 30 (0, 0))) ∧ Aside0 (Below w.heap.size w w'))
    case atStart => exact ⟨(e2), (0), zq69_, H', ⟨Nat.le_refl _⟩, ⟨zq1a_⟩, ⟨zq2d_⟩, ⟨zq73_⟩⟩
    case round =>
     clear H'
     try clear c1
     try clear c2
     try clear p2
     try clear c6
     try clear c7
     try clear c12
     try clear j5 j6 j7 j8 k5 k6 k7 k8
     try clear j1 j2 j3 j4 k0 k1 k3 k4
     try clear p2
     obtain ⟨a1, a2, rfl, HA, X0, l1, c3, HB⟩ := hrel
     cases gk with
     | zero => exact absurd HA.out (by simp [impl_ExecDo.l0])
     | succ k2 =>
      have H := HA.out; clear HA; simp only [impl_ExecDo.l0] at H; replace H := ifc_ H
      rcases H with ⟨c16b0, H⟩ | ⟨c16b0, H⟩
      ·replace H := ifd4_ H; obtain ⟨r0, r1, r2, r3, H⟩ := H; obtain ⟨aC0, bb0⟩ : ∃ j_ : Int, (mn 1000000 (wrap64 (((rd_T46 a1 ((rd_T36 o1 a2).f0)).f0) + 1))) = j_ := ⟨_, rfl⟩; replace H : (impl_ExecDo.l0 k2 (a1.set (((rd_T36 o1 a2).f0) : Int).toNat (⟨aC0, (rd_T36 o1 a2).f1⟩ : S46)) o1 (o1.length : Int) (wrap64 (a2 + 1))) = some r := by first | (rw [bb0] at H; exact H) | (simp only [bb0] at H ⊢; exact H)
       have cl0 : (if (wrap64 (((rd_T46 a1 ((rd_T36 o1 a2).f0)).f0) + 1)) < 1000000 then (wrap64 (((rd_T46 a1 ((rd_T36 o1 a2).f0)).f0) + 1)) else 1000000) = aC0 := bb0; obtain ⟨K0, J0⟩ : ∃ y_ : List (S46), y_ = (a1.set (((rd_T36 o1 a2).f0) : Int).toNat (⟨aC0, (rd_T36 o1 a2).f1⟩ : S46)) := ⟨_, rfl⟩; replace H : (impl_ExecDo.l0 k2 K0 o1 (o1.length : Int) (wrap64 (a2 + 1))) = some r := by first | (rw [J0]; with_reducible exact H) | (have T0 := (Option.bind_some _ _).symm.trans H; rw [J0]; with_reducible exact T0) | (have T0 := (Option.bind_some _ _).symm.trans H; with_reducible exact T0) | with_reducible exact H | (rw [J0]; exact H) | exact H
       have ac0 := Aside0.mk J0; clear J0; have H' := Aside0.mk H; clear H; have x0 : 0 ≤ (a2 : Int) := of_decide_eq_true zq64_; have v0 : a2 < (o1.length : Int) := of_decide_eq_true zq64_; obtain ⟨E0, M0, s0, s1⟩ := at_T36 aN1.out a2 x0 v0; cases M0; replace s0 := pb_ HB.out s0; replace s1 := pb_ HB.out s1; replace x0 := eq_true x0; replace v0 := eq_true v0
       try go_wp2_with (first | ((with_reducible refine gate_dst (N := 7) rfl ?_); refine bxe_ (N := 7) (cs := #[.int .i64 0, .int .i64 0]) (t := 36) ?_; intro d1 hg q1 C_ hb; have n_ := A8_ (Kd.R_below zq21_ hb) (blk_below (g := d0) (o := .cells #[.slice Y0 o0.length R0, .slice (some E0) o1.length R1, .int .i64 h0, .int .i64 h1] 30 (0, 0)) zq2d_ hb) (below_step zq73_ hb) (C_) ((zqa8_ : w.heap.size ≤ d1)) ((zqa8_ : w.heap.size ≤ d1)) ((by rw [hg]; exact Nat.ne_of_lt (blk_lt (g := d0) (o := .cells #[.slice Y0 o0.length R0, .slice (some E0) o1.length R1, .int .i64 h0, .int .i64 h1] 30 (0, 0)) zq2d_) : d0 ≠ d1)) ((by rw [hg]; exact Nat.ne_of_gt (blk_lt (g := d0) (o := .cells #[.slice Y0 o0.length R0, .slice (some E0) o1.length R1, .int .i64 h0, .int .i64 h1] 30 (0, 0)) zq2d_) : d1 ≠ d0)); clear l1 c3 HB; obtain ⟨l1, c3, HB, c4, B1, n1, g0, g1⟩ := n_; clear hb C_ hg; have N0 := g1.out; have O0 := g0.out; obtain ⟨j9, j10, k9, k10⟩ := bz2_ c4.out))
       have b0 : Aside0 (Kd.R k46 46 ((q1.setCell ⟨d1, 0, none⟩ (.int .i64 ((rd_T36 o1 a2).f0))).setCell ⟨d1, 1, none⟩ (.int .i64 ((rd_T36 o1 a2).f1))) w.heap.size (fun _ => True) L1 a1) := ⟨by (with_reducible repeat (first | apply Kd.R_alloc | apply Kd.R_drewN | apply Kd.R_drew)); exact Kd.R_mono (Kd.R_far (p := ⟨d1, 1, none⟩) (Kd.R_far (p := ⟨d1, 0, none⟩) (Kd.R_types l1.out c4.out (by decide)) (fun _ hk => hk.2) (.int .i64 ((rd_T36 o1 a2).f0))) (fun _ hk => hk.2) (.int .i64 ((rd_T36 o1 a2).f1))) (fun _ hk => trivial)⟩; have b1 : Aside0 (((q1.setCell ⟨d1, 0, none⟩ (.int .i64 ((rd_T36 o1 a2).f0))).setCell ⟨d1, 1, none⟩ (.int .i64 ((rd_T36 o1 a2).f1))).heap[d0]? = some (.cells #[.slice Y0 o0.length R0, .slice (some E0) o1.length R1, .int .i64 h0, .int .i64 h1] 30 (0, 0))) := ⟨by (with_reducible repeat (first | refine blk_drewN ?_ _ | refine blk_drew ?_ | refine blk_alloc ?_ _)); refine blk_far ?_ g0.out _; (with_reducible repeat (first | refine blk_drewN ?_ _ | refine blk_drew ?_ | refine blk_alloc ?_ _)); refine blk_far ?_ g0.out _; (with_reducible repeat (first | refine blk_drewN ?_ _ | refine blk_drew ?_ | refine blk_alloc ?_ _)); exact c3.out⟩; have b2 : Aside0 (((q1.setCell ⟨d1, 0, none⟩ (.int .i64 ((rd_T36 o1 a2).f0))).setCell ⟨d1, 1, none⟩ (.int .i64 ((rd_T36 o1 a2).f1))).heap[d1]? = some (.cells #[.int .i64 ((rd_T36 o1 a2).f0), .int .i64 ((rd_T36 o1 a2).f1)] 36 (0, 0))) := ⟨by (with_reducible repeat (first | refine blk_drewN ?_ _ | refine blk_drew ?_ | refine blk_alloc ?_ _)); refine blk_put (cs := #[.int .i64 ((rd_T36 o1 a2).f0), .int .i64 0]) ?_ 1 _ rfl; (with_reducible repeat (first | refine blk_drewN ?_ _ | refine blk_drew ?_ | refine blk_alloc ?_ _)); refine blk_put (cs := #[.int .i64 0, .int .i64 0]) ?_ 0 _ rfl; (with_reducible repeat (first | refine blk_drewN ?_ _ | refine blk_drew ?_ | refine blk_alloc ?_ _)); exact c4.out⟩; have b3 : Aside0 (Below w.heap.size w ((q1.setCell ⟨d1, 0, none⟩ (.int .i64 ((rd_T36 o1 a2).f0))).setCell ⟨d1, 1, none⟩ (.int .i64 ((rd_T36 o1 a2).f1)))) := ⟨zq72_⟩; (try clear l1); (try clear c3); (try clear c4); (try clear HB); generalize ((q1.setCell ⟨d1, 0, none⟩ (.int .i64 ((rd_T36 o1 a2).f0))).setCell ⟨d1, 1, none⟩ (.int .i64 ((rd_T36 o1 a2).f1))) = q2 at b0 b1 b2 b3 ⊢; have l1 := b0; have c3 := b1; have c4 := b2; have HB := b3; clear b0 b1 b2 b3; have n_ := A4_ (Kd.R_drew l1.out) (blk_drew c3.out) (blk_drew c4.out) (below_drew1 HB.out); clear l1 c3 c4 HB; obtain ⟨l1, c3, c4, HB⟩ := n_; obtain ⟨m0, i0, z0⟩ := Kd.R_slice l1.out; (first | subst z0 | (injection z0 with P0 P1 P2; have P3 := P0.symm; have P4 := P2.symm; clear P0 P1 P2; subst P3; subst P4)); have x1 : 0 ≤ (((rd_T36 o1 a2).f0) : Int) := of_decide_eq_true zq64_; have v1 : ((rd_T36 o1 a2).f0) < (a1.length : Int) := of_decide_eq_true zq64_; obtain ⟨E1, M1, s2, s3⟩ := at_T46 (Kd.R_reads' l1.out).2.2 ((rd_T36 o1 a2).f0) x1 v1; cases M1; replace x1 := eq_true x1; replace v1 := eq_true v1; have x2 : 0 ≤ (((rd_T36 o1 a2).f0) : Int) := of_decide_eq_true zq64_; have v2 : (((rd_T36 o1 a2).f0) : Int) < ((a1.length : Int) : Int) := of_decide_eq_true zq64_; obtain ⟨S0, i1, z1, d2, aI0, bg0, ar0⟩ := Kd.R_form l1.out (by omega); (first | cases z1 | (injection z1 with ah aJ aK; (first | subst ah | (injection ah with ah; subst ah)); subst aK; clear aJ)); have aD0 := Aside0.mk d2; have aS0 := Aside0.mk ar0; clear d2 aI0 ar0; (first | simp only [add_plain] at s2 | skip); (first | simp only [add_plain] at s3 | skip); obtain ⟨aY0, am0, aj0, af0, ag0⟩ := Kd.R_elem l1.out z46 (((rd_T36 o1 a2).f0) : Int) x2 v2; obtain rfl := k46_openM aj0; have s4 : World.cell? _ ⟨S0, (((rd_T36 o1 a2).f0) : Int).toNat * 2, none⟩ = some (.int .i64 ((rd_T46 a1 ((rd_T36 o1 a2).f0)).f0)) := af0 0 _ rfl; have s5 : World.cell? _ ⟨S0, (((rd_T36 o1 a2).f0) : Int).toNat * 2 + 1, none⟩ = some (.int .i64 ((rd_T46 a1 ((rd_T36 o1 a2).f0)).f1)) := af0 1 _ rfl; have al0 : World.frozen? _ ⟨S0, (((rd_T36 o1 a2).f0) : Int).toNat * 2, none⟩ = false := ag0 0
       have al1 : World.frozen? _ ⟨S0, (((rd_T36 o1 a2).f0) : Int).toNat * 2 + 1, none⟩ = false := ag0 1; clear am0 af0 ag0 aj0; replace x2 := eq_true x2; replace v2 := eq_true v2; obtain ⟨aY1, am1, aj1, af1, ag1⟩ := Kd.R_elem l1.out z46 (((rd_T36 o1 a2).f0) : Int) (of_decide_eq_true zq64_) zq9a_; obtain rfl := k46_openM aj1; have ak0 := (Kd.R_seg l1.out (((rd_T36 o1 a2).f0) : Int) (of_decide_eq_true zq64_) zq9a_ (seg := [.int .i64 aC0, .int .i64 ((rd_T36 o1 a2).f1)]) (j := 0) am1 af1 (show 2 ≤ 2 from by decide) (x' := (⟨aC0, (rd_T36 o1 a2).f1⟩ : S46)) (k46_mkM _ _ _ (⟨aC0, (rd_T36 o1 a2).f1⟩ : S46) ) (fun _ hk => hk)).1; rw [← ac0.out] at ak0; have bh0 := Aside0.mk ak0; clear am1 af1 ag1 aj1 ak0; refine start_ (n := 16) (S := fun w' => w'.cell? ⟨d1, 0, none⟩ = some (.int .i64 ((rd_T36 o1 a2).f0)) ∧ w'.cell? ⟨d1, 1, none⟩ = some (.int .i64 ((rd_T36 o1 a2).f1)) ∧ w'.cell? ⟨S0, ((((rd_T36 o1 a2).f0)).toNat * 2), none⟩ = some (.int .i64 ((rd_T46 a1 ((rd_T36 o1 a2).f0)).f0)) ∧ w'.cell? ⟨S0, ((((rd_T36 o1 a2).f0)).toNat * 2) + 1, none⟩ = some (.int .i64 ((rd_T46 a1 ((rd_T36 o1 a2).f0)).f1))) (ds := [15]) #[false, false, false, false, false, false, false, false, false, false, false, false, false, false, false, false] (by kernel_rfl) rfl rfl ⟨(blk_cell c4.out 0).trans rfl, (blk_cell c4.out 1).trans rfl, s2, s3⟩ (fun hHeld => ?_); refine with_tabW impl_ExecDo.tab7 impl_ExecDo.bits7 (fun HT_ HW_ => ?_); generalize q2.drew = q3 at l1 c3 c4 HB aS0 bh0 al0 al1 s2 s3 s4 s5 hHeld ⊢; refine pw_ 0 25 ?_; refine pw_ 1 26 ?_; refine pw_ 3 28 ?_; refine pw_ 4 29 ?_; refine pw_ 11 36 ?_; refine tw_ 2 27 ?_; refine tw_ 5 30 ?_; refine pw_ 6 31 ?_; refine pw_ 7 32 ?_; refine tw_ 8 33 ?_; refine pw_ 9 34 ?_; refine pw_ 10 35 ?_; refine tw_ 12 37 ?_; refine pw_ 13 38 ?_; refine pw_ 14 39 ?_; refine last_ (i := 15) (N := none) #[true, true, true, true, true, true, true, true, true, true, true, true, true, true, true, true] rfl rfl (one_of HT_.out (by kernel_rfl)) (by decide) (fun K hK => ?_); refine skip_ (w1 := ?_) (by rfl) rfl ?_ ?_
       rotate_left
       ·go_simp
        rfl
       refine hK.out _ _ ?_; clear hK K; refine done_ (done_of HT_.out (by kernel_rfl)) ?_
       try go_wp2
       go_roundg k2
       case measure => have := an0.out; have := X0.out; omega
       case rel => exact ⟨(K0), (wrap64 (a2 + 1)), zq69_, H', ⟨by have := an0.out; have := X0.out; omega⟩, ⟨zq17_⟩, ⟨by (with_reducible repeat (first | refine blk_drewN ?_ _ | refine blk_drew ?_ | refine blk_alloc ?_ _)); refine blk_far ?_ (by have h_ := Kd.R_ne l1.out c3.out (by decide); intro e_; exact h_ (by rw [e_]; rfl)) _; (with_reducible repeat (first | refine blk_drewN ?_ _ | refine blk_drew ?_ | refine blk_alloc ?_ _)); refine blk_far ?_ (by have h_ := Kd.R_ne l1.out c3.out (by decide); intro e_; exact h_ (by rw [e_]; rfl)) _; (with_reducible repeat (first | refine blk_drewN ?_ _ | refine blk_drew ?_ | refine blk_alloc ?_ _)); exact c3.out⟩, ⟨by repeat (first | (with_reducible first | exact HB.out | apply below_alloc | apply pw_below_drewN | apply below_drew1 | refine below_set ?_ aD0.out | refine below_set ?_ aD0.out | refine below_set ?_ n0.out | refine below_set ?_ n1.out) | exact HB.out)⟩⟩
      ·obtain rfl := Option.some.inj H
       go_wp2
       go_ret
       exact ⟨_, zq68_, zq21_, zq73_⟩

/-! ### impl_same_impl_Box: function 71 -/
def impl_same_impl_Box.l0 : Nat → List (S46) → List (S46) → Int → Int → Option (Bool)
 | 0, _, _, _, _ => none
 | k + 1, x0, x1, x12, x13 => if x13 < x12 then (if 0 ≤ x13 then (if x13 < (x0.length : Int) then (if x13 < (x1.length : Int) then (if (!(((rd_T46 x0 x13).f0) == ((rd_T46 x1 x13).f0)) || (!(((rd_T46 x0 x13).f1) == ((rd_T46 x1 x13).f1)))) = true then (some false) else (impl_same_impl_Box.l0 k x0 x1 x12 (wrap64 (x13 + 1)))) else (none)) else (none)) else (none)) else (some true)
def impl_same_impl_Box.f (k : Nat) (l0 : List (S46)) (l1 : List (S46)) : Option (Bool) := if (l0.length : Int) = (l1.length : Int) then (impl_same_impl_Box.l0 k l0 l1 (l0.length : Int) 0) else (some false)
theorem impl_same_impl_Box.mono_l : ∀ k, (∀ y0 y1 y2 y3, LeO (impl_same_impl_Box.l0 k y0 y1 y2 y3) (impl_same_impl_Box.l0 (k + 1) y0 y1 y2 y3))
 | 0 => fun _ _ _ _ r h => by simp [impl_same_impl_Box.l0] at h
 | k + 1 => by
  have G0 := impl_same_impl_Box.mono_l k
  ·intro y0 y1 y2 y3
   unfold impl_same_impl_Box.l0
   repeat' first
   | (with_reducible exact G0 _ _ _ _)
   | (with_reducible exact LeO.refl _)
   | (with_reducible exact LeO.none _)
   | (with_reducible refine LeO.ite ?_ ?_)
   | (with_reducible refine LeO.bind ?_ (fun _ => ?_))
   | exact G0 _ _ _ _
   | exact LeO.none _
   | refine LeO.ite ?_ ?_
   | refine LeO.bind ?_ (fun _ => ?_)
theorem impl_same_impl_Box.mono : ∀ a0 a1 k, LeO (impl_same_impl_Box.f k a0 a1) (impl_same_impl_Box.f (k + 1) a0 a1) := by
 intro a0 a1 k
 have G0 := impl_same_impl_Box.mono_l k
 unfold impl_same_impl_Box.f
 repeat' first
   | (with_reducible exact G0 _ _ _ _)
   | (with_reducible exact LeO.refl _)
   | (with_reducible exact LeO.none _)
   | (with_reducible refine LeO.ite ?_ ?_)
   | (with_reducible refine LeO.bind ?_ (fun _ => ?_))
   | exact G0 _ _ _ _
   | exact LeO.none _
   | refine LeO.ite ?_ ?_
   | refine LeO.bind ?_ (fun _ => ?_)
set_option maxHeartbeats 8000000 in
set_option maxRecDepth 100000 in
theorem impl_same_impl_Box.calls (k : Nat) (A0 : Option Addr) (c0 : Nat) (l0 : List (S46)) (A1 : Option Addr) (c1 : Nat) (l1 : List (S46)) (r : Bool) (w : World) (V0 : Kd.C k46 w A0 l0.length l0) (Z0 : l0.length ≤ c0) (V1 : Kd.C k46 w A1 l1.length l1) (Z1 : l1.length ≤ c1) (h : impl_same_impl_Box.f k l0 l1 = some r) :
  Calls Try.prog 71 #[.slice A0 l0.length c0, .slice A1 l1.length c1] w fun e w' => e = .returned (.bool r) ∧ Drawn0 w w' := by
 have aq0 := Try.underlying46; have U0 := Aside0.mk V0; have aa0 := Aside0.mk Z0; clear V0 Z0; have U1 := Aside0.mk V1; have aa1 := Aside0.mk Z1; clear V1 Z1; have H : (if (l0.length : Int) = (l1.length : Int) then (impl_same_impl_Box.l0 k l0 l1 (l0.length : Int) 0) else (some false)) = some r := h; clear h; by_cases c3 : (l0.length : Int) = (l1.length : Int)
 ·rw [if_pos c3] at H; have r0 : ((l0.length : Int) == (l1.length : Int)) = true := beq_iff_eq.mpr c3; have r1 : ((l0.length : Int) != (l1.length : Int)) = false := bne_eq_false_iff_eq.mpr c3; have r2 : (l0.length == l1.length) = true := by first | simpa using c3 | (simp at c3 ⊢; omega)
  clear c3; have H' := Aside0.mk H; clear H
  go_enter Try.func71, Try.ntmps71
  go_wp2
  repeat (go_quiet (fail); try go_wp2)
  go_loopg [13] k (fun kq L0 w' => ∃ (a0 : Int), L0 = .int .i64 a0 ∧ Aside0 (impl_same_impl_Box.l0 kq l0 l1 (l0.length : Int) a0 = some r) ∧ Aside0 (kq ≤ k) ∧ Drawn0 w w')
  case atStart => exact ⟨(0), zq69_, H', ⟨Nat.le_refl _⟩, zq8e_⟩
  case round =>
   clear H'
   try clear c1
   try clear p2
   try clear c3
   try clear r0
   try clear r1
   try clear r2
   obtain ⟨a0, rfl, HA, X0, ⟨m1, rfl⟩⟩ := hrel
   cases gk with
   | zero => exact absurd HA.out (by simp [impl_same_impl_Box.l0])
   | succ k1 =>
    have H := HA.out; clear HA; simp only [impl_same_impl_Box.l0] at H; replace H := ifc_ H
    rcases H with ⟨c4b0, H⟩ | ⟨c4b0, H⟩
    ·replace H := ifd3_ H; obtain ⟨r3, r4, r5, H⟩ := H; by_cases c8 : (!(((rd_T46 l0 a0).f0) == ((rd_T46 l1 a0).f0)) || (!(((rd_T46 l0 a0).f1) == ((rd_T46 l1 a0).f1)))) = true
     ·rw [if_pos c8] at H; have r6 : (!(((rd_T46 l0 a0).f0) == ((rd_T46 l1 a0).f0)) || (!(((rd_T46 l0 a0).f1) == ((rd_T46 l1 a0).f1)))) = true := c8; clear c8; obtain rfl := Option.some.inj H; have x0 : 0 ≤ (a0 : Int) := of_decide_eq_true zq64_; have v0 : a0 < (l0.length : Int) := of_decide_eq_true zq64_; obtain ⟨E0, M0, s0, s1⟩ := at_T46 U0.out a0 x0 v0; cases M0; replace x0 := eq_true x0; replace v0 := eq_true v0; have x1 : 0 ≤ (a0 : Int) := of_decide_eq_true zq64_; have v1 : a0 < (l1.length : Int) := of_decide_eq_true zq64_; obtain ⟨E1, M1, s2, s3⟩ := at_T46 U1.out a0 x1 v1; cases M1; replace x1 := eq_true x1; replace v1 := eq_true v1
      go_wp2
      repeat (go_quiet (fail); try go_wp2)
      go_ret
      exact ⟨zq69_, zq8e_⟩
     ·rw [if_neg c8] at H; have r6 : (!(((rd_T46 l0 a0).f0) == ((rd_T46 l1 a0).f0)) || (!(((rd_T46 l0 a0).f1) == ((rd_T46 l1 a0).f1)))) = false := by simpa using c8
      clear c8; have H' := Aside0.mk H; clear H; have x0 : 0 ≤ (a0 : Int) := of_decide_eq_true zq64_; have v0 : a0 < (l0.length : Int) := of_decide_eq_true zq64_; obtain ⟨E0, M0, s0, s1⟩ := at_T46 U0.out a0 x0 v0; cases M0; replace x0 := eq_true x0; replace v0 := eq_true v0; have x1 : 0 ≤ (a0 : Int) := of_decide_eq_true zq64_; have v1 : a0 < (l1.length : Int) := of_decide_eq_true zq64_; obtain ⟨E1, M1, s2, s3⟩ := at_T46 U1.out a0 x1 v1; cases M1; replace x1 := eq_true x1; replace v1 := eq_true v1
      go_wp2
      repeat (go_quiet (fail); try go_wp2)
      go_roundg k1
      case measure => have := X0.out; omega
      case rel => exact ⟨(wrap64 (a0 + 1)), zq69_, H', ⟨by have := X0.out; omega⟩, zq8e_⟩
    ·obtain rfl := Option.some.inj H
     go_wp2
     repeat (go_quiet (fail); try go_wp2)
     go_ret
     exact ⟨zq69_, zq8e_⟩
 ·rw [if_neg c3] at H; have r0 : ((l0.length : Int) == (l1.length : Int)) = false := beq_eq_false_iff_ne.mpr c3; have r1 : ((l0.length : Int) != (l1.length : Int)) = true := bne_iff_ne.mpr c3; have r2 : (l0.length == l1.length) = false := by first | simpa using c3 | (simp at c3 ⊢; omega)
  obtain rfl := Option.some.inj H
  go_enter Try.func71, Try.ntmps71
  go_wp2
  repeat (go_quiet (fail); try go_wp2)
  go_ret
  exact ⟨zq69_, zq8e_⟩

/-! ### impl_BoxSame: function 18 -/
def impl_BoxSame.f (k : Nat) (l0 : List (S46)) (l1 : List (S46)) : Option (Bool) := (impl_same_impl_Box.f k l0 l1).bind fun t188 => (some t188)
theorem impl_BoxSame.mono : ∀ a0 a1 k, LeO (impl_BoxSame.f k a0 a1) (impl_BoxSame.f (k + 1) a0 a1) := by
 intro a0 a1 k
 unfold impl_BoxSame.f
 repeat' first
   | (with_reducible exact impl_same_impl_Box.mono _ _ _)
   | (with_reducible exact LeO.refl _)
   | (with_reducible exact LeO.none _)
   | (with_reducible refine LeO.ite ?_ ?_)
   | (with_reducible refine LeO.bind ?_ (fun _ => ?_))
   | exact impl_same_impl_Box.mono _ _ _
   | exact LeO.none _
   | refine LeO.ite ?_ ?_
   | refine LeO.bind ?_ (fun _ => ?_)
set_option maxHeartbeats 8000000 in
set_option maxRecDepth 100000 in
theorem impl_BoxSame.calls (k : Nat) (A0 : Option Addr) (c0 : Nat) (l0 : List (S46)) (A1 : Option Addr) (c1 : Nat) (l1 : List (S46)) (r : Bool) (w : World) (V0 : Kd.C k46 w A0 l0.length l0) (Z0 : l0.length ≤ c0) (V1 : Kd.C k46 w A1 l1.length l1) (Z1 : l1.length ≤ c1) (h : impl_BoxSame.f k l0 l1 = some r) :
  Calls Try.prog 18 #[.slice A0 l0.length c0, .slice A1 l1.length c1] w fun e w' => e = .returned (.bool r) ∧ Drawn0 w w' := by
 have U0 := Aside0.mk V0; have aa0 := Aside0.mk Z0; clear V0 Z0; have U1 := Aside0.mk V1; have aa1 := Aside0.mk Z1; clear V1 Z1; have H : ((impl_same_impl_Box.f k l0 l1).bind fun e0 => (some e0)) = some r := h; clear h; replace H := bs_ H; obtain ⟨e0, A3, H⟩ := H; (try dsimp only at H); obtain rfl := Option.some.inj H
 go_enter Try.func18, Try.ntmps18
 go_wp2_with (first | ((with_reducible refine gate_callee (f := 71) rfl ?_); refine gl_ 7 Try.func71 #[.slice A0 l0.length c0, .slice A1 l1.length c1] ?_; (with_reducible refine (impl_same_impl_Box.calls k _ _ l0 _ _ l1 e0 _ ?_ ?_ ?_ ?_ A3.out).mono ?_); exact zq91_; exact aa0.out; exact zq92_; exact aa1.out; rintro e w' ⟨rfl, ⟨nd, rfl⟩⟩; refine ⟨_, rfl, ?_⟩))
 go_ret
 exact ⟨zq69_, zq8e_⟩

/-! ### impl_copied_int: function 90 -/
def impl_copied_int.f (l0 : List Int) : Option (List Int) := if l0.length ≤ 35184372088832 then some l0 else none
set_option maxHeartbeats 8000000 in
set_option maxRecDepth 100000 in
theorem impl_copied_int.calls (A0 : Option Addr) (c0 : Nat) (l0 : List Int) (r : List Int) (w : World) (V0 : Kd.C (Kd.int .i64) w A0 l0.length l0) (Z0 : l0.length ≤ c0) (h : impl_copied_int.f l0 = some r) :
  Calls Try.prog 90 #[.slice A0 l0.length c0] w fun e w' => ∃ v0_ : Value, e = .returned (v0_) ∧ Kd.R (Kd.int .i64) 3 w' w.heap.size (fun _ => True) v0_ r ∧ Below w.heap.size w w' := by
 unfold impl_copied_int.f at h; by_cases aQ : l0.length ≤ 35184372088832
 ·rw [if_pos aQ] at h; obtain rfl := Option.some.inj h; clear h; have bm := Aside0.mk aQ; by_cases aG0 : l0.length = 0
  ·obtain rfl : l0 = [] := List.eq_nil_of_length_eq_zero aG0; clear V0 Z0 aQ bm aG0
   go_enter Try.func90, Try.ntmps90
   go_wp2
   go_ret
   exact ⟨_, rfl, Kd.R_nil _ _ _ _ _, Below.refl _ _⟩
  ·have be0 : ((l0.length : Int) == 0) = false := beq_eq_false_iff_ne.mpr (by omega); have be1 : (l0.length == 0) = false := beq_eq_false_iff_ne.mpr aG0; have bB := Aside0.mk (Nat.pos_of_ne_zero aG0); have bs0 : (0 : Int) ≤ (l0.length : Int) := Int.natCast_nonneg _; have bC := Aside0.mk V0; have bP := Aside0.mk Z0; clear V0 Z0 aQ aG0
   go_enter Try.func90, Try.ntmps90
   go_wp2_with (first | ((with_reducible refine gate_dst (N := 9) rfl ?_); refine Kd.R_make (Kd.int .i64) _ 3 rfl (N := 9) rfl 52 _ _ rfl (l0.length : Int) rfl rfl Try.underlying52 (.int .i64 0) 8 info3 rfl (by decide) (by omega) 0 (ok := fun _ => True) (okp := fun _ => True) rfl (fun _ hk => hk) trivial (by omega) (by have := bm.out; omega) (Below.refl _ _) (Nat.le_refl _) ?_; intro L0 w2 t0 hb ao ap; clear ao ap; have bD := Aside0.mk t0; have bn := Aside0.mk hb; clear t0 hb) | ((with_reducible refine gate_dst (N := 12) rfl ?_); refine copy_event (Kd.int .i64) _ rfl (N := 12) rfl (.tmp 10) (.tmp 11) 52 52 3 rfl Try.underlying52 (by have h_ := info3; obtain ⟨i0, hi, bo⟩ := Option.map_eq_some_iff.1 h_; simp only [Prod.mk.injEq] at bo; rw [hi]; exact congrArg some bo.2.1) (by decide) _ _ l0 A0 c0 (fun _ => True) rfl rfl bD.out (Kd.C_below bC.out bn.out) (by simp) bB.out (fun w' x cs h_ w1 b1 o1 => h_) bn.out ?_; intro w3 t1 hb; have bE0 := Aside0.mk t1; have bF0 := Aside0.mk hb; clear t1 hb))
   go_ret
   exact ⟨_, rfl, bE0.out, bF0.out⟩
 ·rw [if_neg aQ] at h; cases h

/-! ### impl_boxesOf: function 79 -/
def impl_boxesOf.l0 : Nat → List Int → Int → Bool → Bool → Bool → Bool → Option (List Int)
 | 0, _, _, _, _, _, _ => none
 | k + 1, x3, x7, x191000, x191001, x191002, x191003 => if x7 < 4 then (if 0 ≤ x7 then (if rdOf false [x191000, x191001, x191002, x191003] x7 = true then (if x3.length < 17592186044416 then (impl_boxesOf.l0 k (x3 ++ [x7]) (wrap64 (x7 + 1)) x191000 x191001 x191002 x191003) else (none)) else (impl_boxesOf.l0 k x3 (wrap64 (x7 + 1)) x191000 x191001 x191002 x191003)) else (none)) else ((impl_copied_int.f x3).bind fun t194 => (some t194))
def impl_boxesOf.f (k : Nat) (a0_0 : Bool) (a0_1 : Bool) (a0_2 : Bool) (a0_3 : Bool) : Option (List Int) := impl_boxesOf.l0 k ([] : List Int) 0 a0_0 a0_1 a0_2 a0_3
theorem impl_boxesOf.mono_l : ∀ k, (∀ y0 y1 y2 y3 y4 y5, LeO (impl_boxesOf.l0 k y0 y1 y2 y3 y4 y5) (impl_boxesOf.l0 (k + 1) y0 y1 y2 y3 y4 y5))
 | 0 => fun _ _ _ _ _ _ r h => by simp [impl_boxesOf.l0] at h
 | k + 1 => by
  have G0 := impl_boxesOf.mono_l k
  ·intro y0 y1 y2 y3 y4 y5
   unfold impl_boxesOf.l0
   repeat' first
   | (with_reducible exact G0 _ _ _ _ _ _)
   | (with_reducible exact LeO.refl _)
   | (with_reducible exact LeO.none _)
   | (with_reducible refine LeO.ite ?_ ?_)
   | (with_reducible refine LeO.bind ?_ (fun _ => ?_))
   | exact G0 _ _ _ _ _ _
   | exact LeO.none _
   | refine LeO.ite ?_ ?_
   | refine LeO.bind ?_ (fun _ => ?_)
theorem impl_boxesOf.mono : ∀ a0 a1 a2 a3 k, LeO (impl_boxesOf.f k a0 a1 a2 a3) (impl_boxesOf.f (k + 1) a0 a1 a2 a3) := by
 intro a0 a1 a2 a3 k
 have G0 := impl_boxesOf.mono_l k
 unfold impl_boxesOf.f
 repeat' first
   | (with_reducible exact G0 _ _ _ _ _ _)
   | (with_reducible exact LeO.refl _)
   | (with_reducible exact LeO.none _)
   | (with_reducible refine LeO.ite ?_ ?_)
   | (with_reducible refine LeO.bind ?_ (fun _ => ?_))
   | exact G0 _ _ _ _ _ _
   | exact LeO.none _
   | refine LeO.ite ?_ ?_
   | refine LeO.bind ?_ (fun _ => ?_)
set_option maxHeartbeats 8000000 in
set_option maxRecDepth 100000 in
theorem impl_boxesOf.calls (k : Nat) (h0 : Bool) (h1 : Bool) (h2 : Bool) (h3 : Bool) (r : List Int) (w : World) (h : impl_boxesOf.f k h0 h1 h2 h3 = some r) :
  Calls Try.prog 79 #[.agg #[.bool h0, .bool h1, .bool h2, .bool h3]] w fun e w' => ∃ v0_ : Value, e = .returned (v0_) ∧ Kd.R (Kd.int .i64) 3 w' w.heap.size (fun _ => True) v0_ r ∧ Below w.heap.size w w' := by
 have aq0 := Try.underlying51; have HB := Aside0.mk (Below.refl w.heap.size w); have H : (impl_boxesOf.l0 k ([] : List Int) 0 h0 h1 h2 h3) = some r := h; clear h; have H' := Aside0.mk H; clear H
 go_enter Try.func79, Try.ntmps79
 go_wp2_with (first | ((with_reducible refine gate_dst (N := 1) rfl ?_); refine bxe_ (N := 1) (cs := #[.bool h0, .bool h1, .bool h2, .bool h3]) (t := 51) ?_; intro d0 hg w2 C hb; have n_ := A4_ (below_step zq74_ hb) (C) ((zqa9_ : w.heap.size ≤ d0)) ((zqa9_ : w.heap.size ≤ d0)); clear HB; obtain ⟨HB, c0, B0, n0⟩ := n_; clear hb C hg; obtain ⟨j0, j1, j2, j3, k0, k2, k3, k4⟩ := bz4_ c0.out))
 go_loopg [3, 7] k (fun kq v3 v7 w' => ∃ (a0 : List Int) (a1 : Int), v7 = .int .i64 a1 ∧ Aside0 (impl_boxesOf.l0 kq a0 a1 h0 h1 h2 h3 = some r) ∧ Aside0 (kq ≤ k) ∧ Aside0 (Kd.R (Kd.int .i64) 3 w' w.heap.size (fun _ => True) v3 a0) ∧ Aside0 (w'.heap[d0]? = some (.cells #[.bool h0, .bool h1, .bool h2, .bool h3] 51 (0, 0))) ∧ Aside0 (Below w.heap.size w w'))
 case atStart => exact ⟨(([] : List Int)), (0), zq69_, H', ⟨Nat.le_refl _⟩, ⟨zq65_⟩, ⟨zq28_⟩, ⟨zq73_⟩⟩
 case round =>
  clear H'
  try clear p2
  try clear j0 j1 j2 j3 k0 k2 k3 k4
  obtain ⟨a0, a1, rfl, HA, X0, l1, c0, HB⟩ := hrel
  cases gk with
  | zero => exact absurd HA.out (by simp [impl_boxesOf.l0])
  | succ k1 =>
   have H := HA.out; clear HA; simp only [impl_boxesOf.l0] at H; replace H := ifc_ H
   rcases H with ⟨c4b0, H⟩ | ⟨c4b0, H⟩
   ·replace H := ifd_ H; obtain ⟨r0, H⟩ := H; obtain ⟨bL0, bp0⟩ : ∃ b_ : Bool, b_ = (rdOf false [h0, h1, h2, h3] a1) := ⟨_, rfl⟩; replace H : (if bL0 = true then (if a0.length < 17592186044416 then (impl_boxesOf.l0 k1 (a0 ++ [a1]) (wrap64 (a1 + 1)) h0 h1 h2 h3) else (none)) else (impl_boxesOf.l0 k1 a0 (wrap64 (a1 + 1)) h0 h1 h2 h3)) = some r := by rw [← bp0] at H; exact H
    have bi0 := Aside0.mk bp0; clear bp0; replace H := ifB_ H
    rcases H with ⟨rfl, H⟩ | ⟨rfl, H⟩
    ·replace H := ifp_ H; obtain ⟨c8, H⟩ := H; have bc0 := Aside0.mk c8; clear c8; obtain ⟨K0, J0⟩ : ∃ y_ : List Int, y_ = (a0 ++ [a1]) := ⟨_, rfl⟩; replace H : (impl_boxesOf.l0 k1 K0 (wrap64 (a1 + 1)) h0 h1 h2 h3) = some r := by first | (rw [J0]; with_reducible exact H) | (have T0 := (Option.bind_some _ _).symm.trans H; rw [J0]; with_reducible exact T0) | (have T0 := (Option.bind_some _ _).symm.trans H; with_reducible exact T0) | with_reducible exact H | (rw [J0]; exact H) | exact H
     have ac0 := Aside0.mk J0; clear J0; have H' := Aside0.mk H; clear H; have p9 : 0 ≤ a1 := of_decide_eq_true zq64_; have q9 : a1 < 4 := of_decide_eq_true zq64_; have bK0 := agxB4 (P := Try.prog) Try.underlying51 Try.underlying4 (by kernel_rfl) h0 h1 h2 h3 a1 p9 q9; replace p9 := eq_true p9; replace q9 := eq_true q9; (try rw [← bi0.out] at bK0)
     go_wp2_with (first | ((with_reducible refine gate_builtin (b := .append) (xs := #[.tmp 12, .tmp 14]) rfl ?_); at_builtin; refine Kd.R_append (Kd.int .i64) (w0 := w) w.heap.size rfl (.tmp 12) (.tmp 14) 52 3 (.int .i64 0) 8 rfl Try.underlying52 info3 rfl (by decide) (by omega) u3 a0 a1 [.int .i64 a1] (fun _ => True) (fun _ => False) rfl rfl ?aP (fun _ hk => hk.elim) ?aF ?aO ?aB ?aS ?aL ?_; (case aP => exact rfl); (case aB => exact zq73_); (case aF => exact (fun _ _ => trivial)); (case aO => exact zq21_); (case aS => exact (below_size zq73_)); (case aL => have := bc0.out; omega); intro L0 q0 ho hb hg bd; rw [← ac0.out] at ho; have n_ := A3_ (blk_grown (g := d0) (o := .cells #[.bool h0, .bool h1, .bool h2, .bool h3] 51 (0, 0)) zq28_ hg (Kd.R_ne l1.out c0.out (by decide))) (hb) (ho); clear c0 HB l1; obtain ⟨c0, HB, f0⟩ := n_; clear ho hb hg bd))
     go_roundg k1
     case measure => have := X0.out; omega
     case rel => exact ⟨(K0), (wrap64 (a1 + 1)), zq69_, H', ⟨by have := X0.out; omega⟩, ⟨zq18_⟩, ⟨zq28_⟩, ⟨zq73_⟩⟩
    ·have H' := Aside0.mk H; clear H; have x0 : 0 ≤ a1 := of_decide_eq_true zq64_; have v0 : a1 < 4 := of_decide_eq_true zq64_; have bK0 := agxB4 (P := Try.prog) Try.underlying51 Try.underlying4 (by kernel_rfl) h0 h1 h2 h3 a1 x0 v0; replace x0 := eq_true x0; replace v0 := eq_true v0; (try rw [← bi0.out] at bK0)
     go_wp2
     go_roundg k1
     case measure => have := X0.out; omega
     case rel => exact ⟨(a0), (wrap64 (a1 + 1)), zq69_, H', ⟨by have := X0.out; omega⟩, ⟨zq21_⟩, ⟨zq28_⟩, ⟨zq73_⟩⟩
   ·replace H := bs_ H; obtain ⟨e0, y0, H⟩ := H; (try dsimp only at H); obtain rfl := Option.some.inj H; obtain ⟨m0, i0, z0⟩ := Kd.R_slice l1.out; subst z0
    go_wp2_with (first | ((with_reducible refine gate_callee (f := 90) rfl ?_); refine gl_ 18 Try.func90 #[.slice m0 a0.length i0] ?_; (with_reducible refine (impl_copied_int.calls _ _ a0 e0 _ ?side1 ?side2 y0.out).mono ?_); (case side1 => repeat (first | exact (Kd.R_reads' l1.out).2.2 | (with_reducible refine Kd.C_alloc ?_ _) | (with_reducible refine Kd.C_drewN ?_ _) | (with_reducible refine Kd.C_drew ?_))); (case side2 => exact (Kd.R_reads' l1.out).2.1); rintro e q0 ⟨L0, rfl, t0, hb⟩; refine ⟨_, rfl, ?_⟩; have n_ := A4_ (Kd.R_elder' zq21_ (Kd.R_base t0) hb) (Kd.R_lower (Kd.R_new' t0 (Kd.R_lt zq21_)) (below_size zq73_)) (blk_below (g := d0) (o := .cells #[.bool h0, .bool h1, .bool h2, .bool h3] 51 (0, 0)) zq28_ hb) (below_step zq73_ hb); clear l1 c0 HB; obtain ⟨l1, f0, c0, HB⟩ := n_; (try clear hb); (try clear t0)))
    go_ret
    exact ⟨_, zq68_, by (with_reducible repeat (first | apply Kd.R_alloc | apply Kd.R_drewN | apply Kd.R_drew)); exact Kd.R_mono f0.out (fun _ hk => trivial), zq73_⟩

end Go.Proofs.Ytgdafcakefnpdaa.PFnSerialOne
