-- Laid by this session's program out of the translation (gen.sh).
import Derived.Test.YtgdafcakefnpdaaPFnExecGrowx0
import Derived.Test.YtgdafcakefnpdaaPFnExecGrowx2
import Derived.Test.YtgdafcakefnpdaaPFnExecGrowx5
import Derived.Test.YtgdafcakefnpdaaPFnExecGrowx14
namespace Go.Proofs.Ytgdafcakefnpdaa.PFnExecGrow
open Go.RowKit Go.Proofs.YtgdafcakefnpdaaW.PrintWords Go.Proofs.YtgdafcakefnpdaaW.PrintLast Go.Proofs.YtgdafcakefnpdaaW.PrintMore
attribute [local go_sem] max2_int min2_int max_two min_two max_three min_three max_four min_four   -- for this text's walks alone
set_option linter.unusedVariables false
set_option linter.unusedSimpArgs false

attribute [local go_sem high] eqA46
/-! ### impl_copied_impl_Box: function 70 -/
def impl_copied_impl_Box.f (l0 : List (S46)) : Option (List (S46)) := if l0.length ≤ 17592186044416 then some l0 else none
set_option maxHeartbeats 8000000 in
set_option maxRecDepth 100000 in
theorem impl_copied_impl_Box.calls (A0 : Option Addr) (c0 : Nat) (l0 : List (S46)) (r : List (S46)) (w : World) (X0 : Kd.C k46 w A0 l0.length l0) (Z0 : l0.length ≤ c0) (h : impl_copied_impl_Box.f l0 = some r) :
  Calls Try.prog 70 #[.slice A0 l0.length c0] w fun e w' => ∃ v0_ : Value, e = .returned (v0_) ∧ Kd.R k46 46 w' w.heap.size (fun _ => True) v0_ r ∧ Below w.heap.size w w' := by
 unfold impl_copied_impl_Box.f at h; by_cases bd : l0.length ≤ 17592186044416
 ·rw [if_pos bd] at h; obtain rfl := Option.some.inj h; clear h; have bp := Aside0.mk bd; by_cases aT0 : l0.length = 0
  ·obtain rfl : l0 = [] := List.eq_nil_of_length_eq_zero aT0; clear X0 Z0 bd bp aT0
   go_enter Try.func70, Try.ntmps70
   go_wp2
   go_ret
   exact ⟨_, rfl, Kd.R_nil _ _ _ _ _, Below.refl _ _⟩
  ·have bk0 : ((l0.length : Int) == 0) = false := beq_eq_false_iff_ne.mpr (by omega); have bk1 : (l0.length == 0) = false := beq_eq_false_iff_ne.mpr aT0; have bC := Aside0.mk (Nat.pos_of_ne_zero aT0); have bq0 : (0 : Int) ≤ (l0.length : Int) := Int.natCast_nonneg _; have bD := Aside0.mk X0; have bU := Aside0.mk Z0; clear X0 Z0 bd aT0
   go_enter Try.func70, Try.ntmps70
   go_wp2_with (first | ((with_reducible refine gate_dst (N := 9) rfl ?_); refine Kd.R_make k46 _ 46 rfl (N := 9) rfl 23 _ _ rfl (l0.length : Int) rfl rfl Try.underlying23 (.agg #[(.int .i64 0), (.int .i64 0)]) 16 info46 rfl (by decide) (by omega) z46 (ok := fun _ => True) (okp := fun _ => True) (k46_mkM _ _ _ z46) (fun _ hk => hk) trivial (by omega) (by have := bp.out; omega) (Below.refl _ _) (Nat.le_refl _) ?_; intro U0 w2 A1 hb ap aq; clear ap aq; have bE := Aside0.mk A1; have br := Aside0.mk hb; clear A1 hb) | ((with_reducible refine gate_dst (N := 12) rfl ?_); refine copy_event k46 _ rfl (N := 12) rfl (.tmp 10) (.tmp 11) 23 23 46 rfl Try.underlying23 (by have h_ := info46; obtain ⟨i0, hi, bs⟩ := Option.map_eq_some_iff.1 h_; simp only [Prod.mk.injEq] at bs; rw [hi]; exact congrArg some bs.2.1) (by decide) _ _ l0 A0 c0 (fun _ => True) rfl rfl bE.out (Kd.C_below bD.out br.out) (by simp) bC.out (fun w' x cs h_ w1 b1 o1 => by obtain rfl := k46_open h_; exact k46_mkM _ _ _ x) br.out ?_; intro w3 A2 hb; have bF0 := Aside0.mk A2; have bG0 := Aside0.mk hb; clear A2 hb))
   go_ret
   exact ⟨_, rfl, bF0.out, bG0.out⟩
 ·rw [if_neg bd] at h; cases h

/-! ### impl_ExecDo: function 17 -/
mutual
def impl_ExecDo.j0 : Nat → List (S46) → Bool → List (S48) → List (S36) → Int → Int → Option ((List (S46)))
 | 0, _, _, _, _, _, _ => none
 | k + 1, x0, x15, x408000, x408001, x408002, x408003 => if x15 = true then (some ([] : List (S46))) else ((impl_copied_impl_Box.f x0).bind fun t410 => (impl_ExecDo.l0 k t410 x408001 (x408001.length : Int) 0))
def impl_ExecDo.l0 : Nat → List (S46) → List (S36) → Int → Int → Option ((List (S46)))
 | 0, _, _, _, _ => none
 | k + 1, x5, x19, x20, x21 => if x21 < x20 then (if 0 ≤ x21 then (if x21 < (x19.length : Int) then (if 0 ≤ ((rd_T36 x19 x21).f0) then (if ((rd_T36 x19 x21).f0) < (x5.length : Int) then (impl_ExecDo.l0 k (x5.set (((rd_T36 x19 x21).f0) : Int).toNat (⟨mn 1000000 (wrap64 (((rd_T46 x5 ((rd_T36 x19 x21).f0)).f0) + 1)), (rd_T36 x19 x21).f1⟩ : S46)) x19 x20 (wrap64 (x21 + 1))) else (none)) else (none)) else (none)) else (none)) else (some x5)
end
def impl_ExecDo.f (k : Nat) (l0 : List (S46)) (l1_0 : List (S48)) (l1_1 : List (S36)) (a1_2 : Int) (a1_3 : Int) : Option ((List (S46))) := (impl_BoxOk.f k l0).bind fun t408 => (if t408 = true then ((impl_ExecOk.f k l1_0 l1_1 a1_2 a1_3).bind fun t409 => (impl_ExecDo.j0 k l0 (!t409) l1_0 l1_1 a1_2 a1_3)) else (impl_ExecDo.j0 k l0 true l1_0 l1_1 a1_2 a1_3))
theorem impl_ExecDo.mono_l : ∀ k, (∀ y0 y1 y2 y3 y4 y5, LeO (impl_ExecDo.j0 k y0 y1 y2 y3 y4 y5) (impl_ExecDo.j0 (k + 1) y0 y1 y2 y3 y4 y5)) ∧ (∀ y0 y1 y2 y3, LeO (impl_ExecDo.l0 k y0 y1 y2 y3) (impl_ExecDo.l0 (k + 1) y0 y1 y2 y3))
 | 0 => ⟨fun _ _ _ _ _ _ r h => by simp [impl_ExecDo.j0] at h, fun _ _ _ _ r h => by simp [impl_ExecDo.l0] at h⟩
 | k + 1 => by
  obtain ⟨J0, J1⟩ := impl_ExecDo.mono_l k
  refine ⟨?_, ?_⟩
  ·intro y0 y1 y2 y3 y4 y5
   unfold impl_ExecDo.j0
   repeat' first
   | (with_reducible exact J0 _ _ _ _ _ _)
   | (with_reducible exact J1 _ _ _ _)
   | (with_reducible exact impl_BoxOk.mono _ _)
   | (with_reducible exact impl_ExecOk.mono _ _ _ _ _)
   | (with_reducible exact LeO.refl _)
   | (with_reducible exact LeO.none _)
   | (with_reducible refine LeO.ite ?_ ?_)
   | (with_reducible refine LeO.bind ?_ (fun _ => ?_))
   | exact J0 _ _ _ _ _ _
   | exact J1 _ _ _ _
   | exact impl_BoxOk.mono _ _
   | exact impl_ExecOk.mono _ _ _ _ _
   | exact LeO.none _
   | refine LeO.ite ?_ ?_
   | refine LeO.bind ?_ (fun _ => ?_)
  ·intro y0 y1 y2 y3
   unfold impl_ExecDo.l0
   repeat' first
   | (with_reducible exact J0 _ _ _ _ _ _)
   | (with_reducible exact J1 _ _ _ _)
   | (with_reducible exact impl_BoxOk.mono _ _)
   | (with_reducible exact impl_ExecOk.mono _ _ _ _ _)
   | (with_reducible exact LeO.refl _)
   | (with_reducible exact LeO.none _)
   | (with_reducible refine LeO.ite ?_ ?_)
   | (with_reducible refine LeO.bind ?_ (fun _ => ?_))
   | exact J0 _ _ _ _ _ _
   | exact J1 _ _ _ _
   | exact impl_BoxOk.mono _ _
   | exact impl_ExecOk.mono _ _ _ _ _
   | exact LeO.none _
   | refine LeO.ite ?_ ?_
   | refine LeO.bind ?_ (fun _ => ?_)
theorem impl_ExecDo.mono : ∀ a0 a1 a2 a3 a4 k, LeO (impl_ExecDo.f k a0 a1 a2 a3 a4) (impl_ExecDo.f (k + 1) a0 a1 a2 a3 a4) := by
 intro a0 a1 a2 a3 a4 k
 obtain ⟨J0, J1⟩ := impl_ExecDo.mono_l k
 unfold impl_ExecDo.f
 repeat' first
   | (with_reducible exact J0 _ _ _ _ _ _)
   | (with_reducible exact J1 _ _ _ _)
   | (with_reducible exact impl_BoxOk.mono _ _)
   | (with_reducible exact impl_ExecOk.mono _ _ _ _ _)
   | (with_reducible exact LeO.refl _)
   | (with_reducible exact LeO.none _)
   | (with_reducible refine LeO.ite ?_ ?_)
   | (with_reducible refine LeO.bind ?_ (fun _ => ?_))
   | exact J0 _ _ _ _ _ _
   | exact J1 _ _ _ _
   | exact impl_BoxOk.mono _ _
   | exact impl_ExecOk.mono _ _ _ _ _
   | exact LeO.none _
   | refine LeO.ite ?_ ?_
   | refine LeO.bind ?_ (fun _ => ?_)
def impl_ExecDo.T7 : Bool × List (List Nat × List Nat) := (true, [([], []), ([], []), ([1], [1]), ([], []), ([], []), ([4], [4]), ([3, 5], [3, 5]), ([6], [6]), ([7], [7]), ([8], [8]), ([9], [9]), ([], []), ([11], [11]), ([10, 12], [10, 12]), ([0, 2, 0, 1, 2, 3, 4, 5, 6, 7, 8, 9, 10, 11, 12, 13], [0, 2]), ([14, 13, 0, 1, 2, 3, 4, 5, 6, 7, 8, 9, 10, 11, 12, 13], [13, 14])])
def impl_ExecDo.B7 : List Nat := [0, 0, 2, 0, 0, 16, 56, 120, 248, 504, 1016, 0, 2048, 8184, 16383, 32767]
theorem impl_ExecDo.tab7 : rtab .any (opsOf Try.f17 7) = impl_ExecDo.T7 := by kernel_rfl
theorem impl_ExecDo.bits7 : waitsOk impl_ExecDo.T7.2 impl_ExecDo.B7 = true := by kernel_rfl
set_option maxHeartbeats 8000000 in
set_option maxRecDepth 100000 in
theorem impl_ExecDo.calls (k : Nat) (A0 : Option Addr) (c0 : Nat) (l0 : List (S46)) (N0 : Option Addr) (I0 : Nat) (m0 : List (S48)) (N1 : Option Addr) (I1 : Nat) (m1 : List (S36)) (g0 : Int) (g1 : Int) (r : List (S46)) (w : World) (X0 : Kd.C k46 w A0 l0.length l0) (Z0 : l0.length ≤ c0) (au0 : Kd.C k48 w N0 m0.length m0) (av0 : m0.length ≤ I0) (au1 : Kd.C k36 w N1 m1.length m1) (av1 : m1.length ≤ I1) (h : impl_ExecDo.f k l0 m0 m1 g0 g1 = some r) :
  Calls Try.prog 17 #[.slice A0 l0.length c0, .agg #[.slice N0 m0.length I0, .slice N1 m1.length I1, .int .i64 g0, .int .i64 g1]] w fun e w' => ∃ v0_ : Value, e = .returned (v0_) ∧ Kd.R k46 46 w' w.heap.size (fun _ => True) v0_ r ∧ Below w.heap.size w w' := by
 have ar0 := Try.underlying30; have ar1 := Try.underlying36; have ar2 := Try.underlying46; have V0 := Aside0.mk X0; have aa0 := Aside0.mk Z0; clear X0 Z0; have am0 := Aside0.mk au0; have aA0 := Aside0.mk av0; clear au0 av0; have am1 := Aside0.mk au1; have aA1 := Aside0.mk av1; clear au1 av1; have HB := Aside0.mk (Below.refl w.heap.size w); have H : ((impl_BoxOk.f k l0).bind fun e0 => (if e0 = true then ((impl_ExecOk.f k m0 m1 g0 g1).bind fun e1 => (impl_ExecDo.j0 k l0 (!e1) m0 m1 g0 g1)) else (impl_ExecDo.j0 k l0 true m0 m1 g0 g1))) = some r := h; clear h; have aa1 := Aside0.mk H; clear H
 go_enter Try.func17, Try.ntmps17
 go_upto_region 1 with (first | ((with_reducible refine gate_dst (N := 3) rfl ?_); refine bxe_ (N := 3) (cs := #[.slice N0 m0.length I0, .slice N1 m1.length I1, .int .i64 g0, .int .i64 g1]) (t := 30) ?_; intro c3 hg w4 C_ hb; have n_ := A4_ (below_step zq6d_ hb) (C_) ((zqa9_ : w.heap.size ≤ c3)) ((zqa9_ : w.heap.size ≤ c3)); clear HB; obtain ⟨HB, b0, x0, l1⟩ := n_; clear hb C_ hg))
 (try simp only [Act.put, List.setIfInBounds_toArray, List.set_cons_zero, List.set_cons_succ])
 go_cut [15] (fun U0 wc => ∃ (kq : Nat) (a0 : Bool), U0 = .bool a0 ∧ Aside0 (impl_ExecDo.j0 kq l0 a0 m0 m1 g0 g1 = some r) ∧ Aside0 (kq ≤ k) ∧ Aside0 (wc.heap[c3]? = some (.cells #[(.slice N0 m0.length I0), (.slice N1 m1.length I1), .int .i64 g0, .int .i64 g1] 30 (0, 0))) ∧ Aside0 (Below w.heap.size w wc))
 case first =>
  have H := aa1.out; clear aa1; replace H := bs_ H; obtain ⟨e0, A5, H⟩ := H; (try dsimp only at H); replace H := ifB_ H
  rcases H with ⟨rfl, H⟩ | ⟨rfl, H⟩
  ·replace H := bs_ H; obtain ⟨e1, A7, H⟩ := H; (try dsimp only at H); have H' := Aside0.mk H; clear H
   go_wp2_with (first | ((with_reducible refine gate_callee (f := 25) rfl ?_); refine gl_ 9 Try.func25 #[.slice A0 l0.length c0] ?_; (with_reducible refine (impl_BoxOk.calls k _ _ l0 true _ ?_ ?_ A5.out).mono ?_); exact zq7c_; exact aa0.out; rintro e w8 ⟨rfl, hb⟩; refine ⟨_, rfl, ?_⟩; have n_ := A2_ (blk_below (g := c3) (o := .cells #[.slice N0 m0.length I0, .slice N1 m1.length I1, .int .i64 g0, .int .i64 g1] 30 (0, 0)) zq26_ hb) (below_step zq68_ hb); clear b0 HB; obtain ⟨b0, HB⟩ := n_; (try clear hb); obtain ⟨i0, i1, i2, i3, j1, j2, j3, j4⟩ := bz4_ b0.out) | (go_at_call 20; (with_reducible refine (impl_ExecOk.calls k _ _ m0 _ _ m1 g0 g1 e1 _ ?_ ?_ ?_ ?_ A7.out).mono ?_); exact zq7d_; exact aA0.out; exact zq7e_; exact aA1.out; rintro e q0 ⟨rfl, hb⟩; have n_ := A2_ (blk_below (g := c3) (o := .cells #[.slice N0 m0.length I0, .slice N1 m1.length I1, .int .i64 g0, .int .i64 g1] 30 (0, 0)) zq26_ hb) (below_step zq68_ hb); clear b0 HB; obtain ⟨b0, HB⟩ := n_; (try clear hb); (try clear A7)))
   go_meet
   case rel => exact ⟨_, (!e1), zq5b_, H', ⟨zq59_⟩, ⟨zq26_⟩, ⟨zq68_⟩⟩
  ·have H' := Aside0.mk H; clear H
   go_wp2_with (first | ((with_reducible refine gate_callee (f := 25) rfl ?_); refine gl_ 9 Try.func25 #[.slice A0 l0.length c0] ?_; (with_reducible refine (impl_BoxOk.calls k _ _ l0 false _ ?_ ?_ A5.out).mono ?_); exact zq7c_; exact aa0.out; rintro e q0 ⟨rfl, hb⟩; refine ⟨_, rfl, ?_⟩; have n_ := A2_ (blk_below (g := c3) (o := .cells #[.slice N0 m0.length I0, .slice N1 m1.length I1, .int .i64 g0, .int .i64 g1] 30 (0, 0)) zq26_ hb) (below_step zq68_ hb); clear b0 HB; obtain ⟨b0, HB⟩ := n_; (try clear hb)))
   go_meet
   case rel => exact ⟨_, (true), zq5b_, H', ⟨zq59_⟩, ⟨zq26_⟩, ⟨zq68_⟩⟩
 case rest =>
  clear aa1
  try clear c1
  try clear c2
  try clear p2
  try clear c6
  try clear i0 i1 i2 i3 j1 j2 j3 j4
  obtain ⟨kq, a0, rfl, HA, ak0, b0, HB⟩ := hcut
  cases kq with
  | zero => exact absurd HA.out (by simp [impl_ExecDo.j0])
  | succ kj2 =>
   have H := HA.out; clear HA; simp only [impl_ExecDo.j0] at H; replace H := ifB_ H
   rcases H with ⟨rfl, H⟩ | ⟨rfl, H⟩
   ·obtain rfl := Option.some.inj H
    go_wp2
    go_ret
    exact ⟨_, zq5a_, zq57_, zq68_⟩
   ·replace H := bs_ H; obtain ⟨e2, D0, H⟩ := H; (try dsimp only at H); have H' := Aside0.mk H; clear H
    go_wp2_with (first | ((with_reducible refine gate_callee (f := 70) rfl ?_); refine gl_ 17 Try.func70 #[.slice A0 l0.length c0] ?_; (with_reducible refine (impl_copied_impl_Box.calls _ _ l0 e2 _ ?_ ?_ D0.out).mono ?_); exact zq7c_; exact aa0.out; rintro e q0 ⟨U1, rfl, A1, hb⟩; refine ⟨_, rfl, ?_⟩; have n_ := A3_ (Kd.R_lower A1 (below_size zq68_)) (blk_below (g := c3) (o := .cells #[.slice N0 m0.length I0, .slice N1 m1.length I1, .int .i64 g0, .int .i64 g1] 30 (0, 0)) zq26_ hb) (below_step zq68_ hb); clear b0 HB; obtain ⟨f2, b0, HB⟩ := n_; (try clear hb); (try clear A1); obtain ⟨i4, i5, i6, i7, j5, j6, j7, j8⟩ := bz4_ b0.out))
    go_loopg [21] kj2 (fun kq U2 w' => ∃ (a1 : List (S46)) (a2 : Int), U2 = .int .i64 a2 ∧ Aside0 (impl_ExecDo.l0 kq a1 m1 (m1.length : Int) a2 = some r) ∧ Aside0 (kq ≤ kj2) ∧ Aside0 (Kd.R k46 46 w' w.heap.size (fun _ => True) U1 a1) ∧ Aside0 (w'.heap[c3]? = some (.cells #[(.slice N0 m0.length I0), (.slice N1 m1.length I1), .int .i64 g0, .int .i64 g1] 30 (0, 0))) ∧ Aside0 (Below w.heap.size w w'))
    case atStart => exact ⟨(e2), (0), zq5b_, H', ⟨Nat.le_refl _⟩, ⟨zq17_⟩, ⟨zq26_⟩, ⟨zq68_⟩⟩
    case round =>
     clear H'
     try clear c1
     try clear c2
     try clear p2
     try clear c6
     try clear c7
     try clear c12
     try clear i4 i5 i6 i7 j5 j6 j7 j8
     try clear i0 i1 i2 i3 j1 j2 j3 j4
     try clear p2
     obtain ⟨a1, a2, rfl, HA, ae0, o0, b0, HB⟩ := hrel
     cases gk with
     | zero => exact absurd HA.out (by simp [impl_ExecDo.l0])
     | succ k2 =>
      have H := HA.out; clear HA; simp only [impl_ExecDo.l0] at H; replace H := ifc_ H
      rcases H with ⟨c16b0, H⟩ | ⟨c16b0, H⟩
      ·replace H := ifd4_ H; obtain ⟨s0, s1, s2, s3, H⟩ := H; obtain ⟨aD0, be0⟩ : ∃ j_ : Int, (mn 1000000 (wrap64 (((rd_T46 a1 ((rd_T36 m1 a2).f0)).f0) + 1))) = j_ := ⟨_, rfl⟩; replace H : (impl_ExecDo.l0 k2 (a1.set (((rd_T36 m1 a2).f0) : Int).toNat (⟨aD0, (rd_T36 m1 a2).f1⟩ : S46)) m1 (m1.length : Int) (wrap64 (a2 + 1))) = some r := by first | (rw [be0] at H; exact H) | (simp only [be0] at H ⊢; exact H)
       have cn0 : (if (wrap64 (((rd_T46 a1 ((rd_T36 m1 a2).f0)).f0) + 1)) < 1000000 then (wrap64 (((rd_T46 a1 ((rd_T36 m1 a2).f0)).f0) + 1)) else 1000000) = aD0 := be0; obtain ⟨L0, M0⟩ : ∃ y_ : List (S46), y_ = (a1.set (((rd_T36 m1 a2).f0) : Int).toNat (⟨aD0, (rd_T36 m1 a2).f1⟩ : S46)) := ⟨_, rfl⟩; replace H : (impl_ExecDo.l0 k2 L0 m1 (m1.length : Int) (wrap64 (a2 + 1))) = some r := by first | (rw [M0]; with_reducible exact H) | (have T0 := (Option.bind_some _ _).symm.trans H; rw [M0]; with_reducible exact T0) | (have T0 := (Option.bind_some _ _).symm.trans H; with_reducible exact T0) | with_reducible exact H | (rw [M0]; exact H) | exact H
       have ab0 := Aside0.mk M0; clear M0; have H' := Aside0.mk H; clear H; have v0 : 0 ≤ (a2 : Int) := of_decide_eq_true zq56_; have u0 : a2 < (m1.length : Int) := of_decide_eq_true zq56_; obtain ⟨H0, Q0, r0, r1⟩ := at_T36 am1.out a2 v0 u0; cases Q0; replace r0 := pb_ HB.out r0; replace r1 := pb_ HB.out r1; replace v0 := eq_true v0; replace u0 := eq_true u0
       try go_wp2_with (first | ((with_reducible refine gate_dst (N := 7) rfl ?_); refine bxe_ (N := 7) (cs := #[.int .i64 0, .int .i64 0]) (t := 36) ?_; intro c4 hg q1 C_ hb; have n_ := A8_ (Kd.R_below zq1f_ hb) (blk_below (g := c3) (o := .cells #[.slice N0 m0.length I0, .slice (some H0) m1.length I1, .int .i64 g0, .int .i64 g1] 30 (0, 0)) zq26_ hb) (below_step zq68_ hb) (C_) ((zqa5_ : w.heap.size ≤ c4)) ((zqa5_ : w.heap.size ≤ c4)) ((by rw [hg]; exact Nat.ne_of_lt (blk_lt (g := c3) (o := .cells #[.slice N0 m0.length I0, .slice (some H0) m1.length I1, .int .i64 g0, .int .i64 g1] 30 (0, 0)) zq26_) : c3 ≠ c4)) ((by rw [hg]; exact Nat.ne_of_gt (blk_lt (g := c3) (o := .cells #[.slice N0 m0.length I0, .slice (some H0) m1.length I1, .int .i64 g0, .int .i64 g1] 30 (0, 0)) zq26_) : c4 ≠ c3)); clear o0 b0 HB; obtain ⟨o0, b0, HB, b1, x1, l2, h0, h1⟩ := n_; clear hb C_ hg; have O0 := h1.out; have P0 := h0.out; obtain ⟨i8, i9, j9, j10⟩ := bz2_ b1.out))
       have d0 : Aside0 (Kd.R k46 46 ((q1.setCell ⟨c4, 0, none⟩ (.int .i64 ((rd_T36 m1 a2).f0))).setCell ⟨c4, 1, none⟩ (.int .i64 ((rd_T36 m1 a2).f1))) w.heap.size (fun _ => True) U1 a1) := ⟨by (with_reducible repeat (first | apply Kd.R_alloc | apply Kd.R_drewN | apply Kd.R_drew)); exact Kd.R_mono (Kd.R_far (p := ⟨c4, 1, none⟩) (Kd.R_far (p := ⟨c4, 0, none⟩) (Kd.R_types o0.out b1.out (by decide)) (fun _ hk => hk.2) (.int .i64 ((rd_T36 m1 a2).f0))) (fun _ hk => hk.2) (.int .i64 ((rd_T36 m1 a2).f1))) (fun _ hk => trivial)⟩; have d1 : Aside0 (((q1.setCell ⟨c4, 0, none⟩ (.int .i64 ((rd_T36 m1 a2).f0))).setCell ⟨c4, 1, none⟩ (.int .i64 ((rd_T36 m1 a2).f1))).heap[c3]? = some (.cells #[.slice N0 m0.length I0, .slice (some H0) m1.length I1, .int .i64 g0, .int .i64 g1] 30 (0, 0))) := ⟨zq2e_⟩; have d2 : Aside0 (((q1.setCell ⟨c4, 0, none⟩ (.int .i64 ((rd_T36 m1 a2).f0))).setCell ⟨c4, 1, none⟩ (.int .i64 ((rd_T36 m1 a2).f1))).heap[c4]? = some (.cells #[.int .i64 ((rd_T36 m1 a2).f0), .int .i64 ((rd_T36 m1 a2).f1)] 36 (0, 0))) := ⟨by (with_reducible repeat (first | refine blk_drewN ?_ _ | refine blk_drew ?_ | refine blk_alloc ?_ _)); refine blk_put (cs := #[.int .i64 ((rd_T36 m1 a2).f0), .int .i64 0]) ?_ 1 _ rfl; (with_reducible repeat (first | refine blk_drewN ?_ _ | refine blk_drew ?_ | refine blk_alloc ?_ _)); refine blk_put (cs := #[.int .i64 0, .int .i64 0]) ?_ 0 _ rfl; (with_reducible repeat (first | refine blk_drewN ?_ _ | refine blk_drew ?_ | refine blk_alloc ?_ _)); exact b1.out⟩; have d3 : Aside0 (Below w.heap.size w ((q1.setCell ⟨c4, 0, none⟩ (.int .i64 ((rd_T36 m1 a2).f0))).setCell ⟨c4, 1, none⟩ (.int .i64 ((rd_T36 m1 a2).f1)))) := ⟨zq64_⟩; (try clear o0); (try clear b0); (try clear b1); (try clear HB); generalize ((q1.setCell ⟨c4, 0, none⟩ (.int .i64 ((rd_T36 m1 a2).f0))).setCell ⟨c4, 1, none⟩ (.int .i64 ((rd_T36 m1 a2).f1))) = q2 at d0 d1 d2 d3 ⊢; have o0 := d0; have b0 := d1; have b1 := d2; have HB := d3; clear d0 d1 d2 d3; have n_ := A4_ (Kd.R_drew o0.out) (blk_drew b0.out) (blk_drew b1.out) (below_drew1 HB.out); clear o0 b0 b1 HB; obtain ⟨o0, b0, b1, HB⟩ := n_; obtain ⟨n0, k0, B0⟩ := Kd.R_slice o0.out; (first | subst B0 | (injection B0 with E0 E1 E2; have E3 := E0.symm; have E4 := E2.symm; clear E0 E1 E2; subst E3; subst E4)); have v1 : 0 ≤ (((rd_T36 m1 a2).f0) : Int) := of_decide_eq_true zq56_; have u1 : ((rd_T36 m1 a2).f0) < (a1.length : Int) := of_decide_eq_true zq56_; obtain ⟨H1, Q1, r2, r3⟩ := at_T46 (Kd.R_reads' o0.out).2.2 ((rd_T36 m1 a2).f0) v1 u1; cases Q1; replace v1 := eq_true v1; replace u1 := eq_true u1; have v2 : 0 ≤ (((rd_T36 m1 a2).f0) : Int) := of_decide_eq_true zq56_; have u2 : (((rd_T36 m1 a2).f0) : Int) < ((a1.length : Int) : Int) := of_decide_eq_true zq56_; obtain ⟨S0, k1, B1, c5, aK0, bj0, ax0⟩ := Kd.R_form o0.out (by omega); (first | cases B1 | (injection B1 with ah aL aM; (first | subst ah | (injection ah with ah; subst ah)); subst aM; clear aL)); have aG0 := Aside0.mk c5; have aV0 := Aside0.mk ax0; clear c5 aK0 ax0; (first | simp only [add_plain] at r2 | skip); (first | simp only [add_plain] at r3 | skip); obtain ⟨bc0, ao0, aj0, af0, ag0⟩ := Kd.R_elem o0.out z46 (((rd_T36 m1 a2).f0) : Int) v2 u2; obtain rfl := k46_openM aj0; have r4 : World.cell? _ ⟨S0, (((rd_T36 m1 a2).f0) : Int).toNat * 2, none⟩ = some (.int .i64 ((rd_T46 a1 ((rd_T36 m1 a2).f0)).f0)) := af0 0 _ rfl; have r5 : World.cell? _ ⟨S0, (((rd_T36 m1 a2).f0) : Int).toNat * 2 + 1, none⟩ = some (.int .i64 ((rd_T46 a1 ((rd_T36 m1 a2).f0)).f1)) := af0 1 _ rfl; have an0 : World.frozen? _ ⟨S0, (((rd_T36 m1 a2).f0) : Int).toNat * 2, none⟩ = false := ag0 0; have an1 : World.frozen? _ ⟨S0, (((rd_T36 m1 a2).f0) : Int).toNat * 2 + 1, none⟩ = false := ag0 1; clear ao0 af0 ag0 aj0; replace v2 := eq_true v2; replace u2 := eq_true u2; obtain ⟨bc1, ao1, aj1, af1, ag1⟩ := Kd.R_elem o0.out z46 (((rd_T36 m1 a2).f0) : Int) (of_decide_eq_true zq56_) zq99_; obtain rfl := k46_openM aj1
       have al0 := (Kd.R_seg o0.out (((rd_T36 m1 a2).f0) : Int) (of_decide_eq_true zq56_) zq99_ (seg := [.int .i64 aD0, .int .i64 ((rd_T36 m1 a2).f1)]) (j := 0) ao1 af1 (show 2 ≤ 2 from by decide) (x' := (⟨aD0, (rd_T36 m1 a2).f1⟩ : S46)) (k46_mkM _ _ _ (⟨aD0, (rd_T36 m1 a2).f1⟩ : S46) ) (fun _ hk => hk)).1; rw [← ab0.out] at al0; have bm0 := Aside0.mk al0; clear ao1 af1 ag1 aj1 al0; refine start_ (n := 16) (S := fun w' => w'.cell? ⟨c4, 0, none⟩ = some (.int .i64 ((rd_T36 m1 a2).f0)) ∧ w'.cell? ⟨c4, 1, none⟩ = some (.int .i64 ((rd_T36 m1 a2).f1)) ∧ w'.cell? ⟨S0, ((((rd_T36 m1 a2).f0)).toNat * 2), none⟩ = some (.int .i64 ((rd_T46 a1 ((rd_T36 m1 a2).f0)).f0)) ∧ w'.cell? ⟨S0, ((((rd_T36 m1 a2).f0)).toNat * 2) + 1, none⟩ = some (.int .i64 ((rd_T46 a1 ((rd_T36 m1 a2).f0)).f1))) (ds := [15]) #[false, false, false, false, false, false, false, false, false, false, false, false, false, false, false, false] (by kernel_rfl) rfl rfl ⟨(blk_cell b1.out 0).trans rfl, (blk_cell b1.out 1).trans rfl, r2, r3⟩ (fun hHeld => ?_); refine with_tabW impl_ExecDo.tab7 impl_ExecDo.bits7 (fun HT_ HW_ => ?_); generalize q2.drew = q3 at o0 b0 b1 HB aV0 bm0 an0 an1 r4 r5 r2 r3 hHeld ⊢; refine pw_ 0 25 ?_; refine pw_ 1 26 ?_; refine pw_ 3 28 ?_; refine pw_ 4 29 ?_; refine pw_ 11 36 ?_; refine tw_ 2 27 ?_; refine tw_ 5 30 ?_; refine pw_ 6 31 ?_; refine pw_ 7 32 ?_; refine tw_ 8 33 ?_; refine pw_ 9 34 ?_; refine pw_ 10 35 ?_; refine tw_ 12 37 ?_; refine pw_ 13 38 ?_; refine pw_ 14 39 ?_; refine last_ (i := 15) (N := none) #[true, true, true, true, true, true, true, true, true, true, true, true, true, true, true, true] rfl rfl (one_of HT_.out (by kernel_rfl)) (by decide) (fun K hK => ?_); refine skip_ (w1 := ?_) (by rfl) rfl ?_ ?_
       rotate_left
       ·go_simp
        rfl
       refine hK.out _ _ ?_; clear hK K; refine done_ (done_of HT_.out (by kernel_rfl)) ?_
       try go_wp2
       go_roundg k2
       case measure => have := ak0.out; have := ae0.out; omega
       case rel => exact ⟨(L0), (wrap64 (a2 + 1)), zq5b_, H', ⟨by have := ak0.out; have := ae0.out; omega⟩, ⟨zq11_⟩, ⟨by (with_reducible repeat (first | refine blk_drewN ?_ _ | refine blk_drew ?_ | refine blk_alloc ?_ _)); refine blk_far ?_ (by have h_ := Kd.R_ne o0.out b0.out (by decide); intro e_; exact h_ (by rw [e_]; rfl)) _; (with_reducible repeat (first | refine blk_drewN ?_ _ | refine blk_drew ?_ | refine blk_alloc ?_ _)); refine blk_far ?_ (by have h_ := Kd.R_ne o0.out b0.out (by decide); intro e_; exact h_ (by rw [e_]; rfl)) _; (with_reducible repeat (first | refine blk_drewN ?_ _ | refine blk_drew ?_ | refine blk_alloc ?_ _)); exact b0.out⟩, ⟨by repeat (first | (with_reducible first | exact HB.out | apply below_alloc | apply pw_below_drewN | apply below_drew1 | refine below_set ?_ aG0.out | refine below_set ?_ aG0.out | refine below_set ?_ l1.out | refine below_set ?_ l2.out) | exact HB.out)⟩⟩
      ·obtain rfl := Option.some.inj H
       go_wp2
       go_ret
       exact ⟨_, zq5a_, zq1f_, zq68_⟩

/-! ### impl_same_impl_Box: function 71 -/
def impl_same_impl_Box.l0 : Nat → List (S46) → List (S46) → Int → Int → Option (Bool)
 | 0, _, _, _, _ => none
 | k + 1, x0, x1, x12, x13 => if x13 < x12 then (if 0 ≤ x13 then (if x13 < (x0.length : Int) then (if x13 < (x1.length : Int) then (if (!(((rd_T46 x0 x13).f0) == ((rd_T46 x1 x13).f0)) || (!(((rd_T46 x0 x13).f1) == ((rd_T46 x1 x13).f1)))) = true then (some false) else (impl_same_impl_Box.l0 k x0 x1 x12 (wrap64 (x13 + 1)))) else (none)) else (none)) else (none)) else (some true)
def impl_same_impl_Box.f (k : Nat) (l0 : List (S46)) (l1 : List (S46)) : Option (Bool) := if (l0.length : Int) = (l1.length : Int) then (impl_same_impl_Box.l0 k l0 l1 (l0.length : Int) 0) else (some false)
theorem impl_same_impl_Box.mono_l : ∀ k, (∀ y0 y1 y2 y3, LeO (impl_same_impl_Box.l0 k y0 y1 y2 y3) (impl_same_impl_Box.l0 (k + 1) y0 y1 y2 y3))
 | 0 => fun _ _ _ _ r h => by simp [impl_same_impl_Box.l0] at h
 | k + 1 => by
  have J0 := impl_same_impl_Box.mono_l k
  ·intro y0 y1 y2 y3
   unfold impl_same_impl_Box.l0
   repeat' first
   | (with_reducible exact J0 _ _ _ _)
   | (with_reducible exact LeO.refl _)
   | (with_reducible exact LeO.none _)
   | (with_reducible refine LeO.ite ?_ ?_)
   | (with_reducible refine LeO.bind ?_ (fun _ => ?_))
   | exact J0 _ _ _ _
   | exact LeO.none _
   | refine LeO.ite ?_ ?_
   | refine LeO.bind ?_ (fun _ => ?_)
theorem impl_same_impl_Box.mono : ∀ a0 a1 k, LeO (impl_same_impl_Box.f k a0 a1) (impl_same_impl_Box.f (k + 1) a0 a1) := by
 intro a0 a1 k
 have J0 := impl_same_impl_Box.mono_l k
 unfold impl_same_impl_Box.f
 repeat' first
   | (with_reducible exact J0 _ _ _ _)
   | (with_reducible exact LeO.refl _)
   | (with_reducible exact LeO.none _)
   | (with_reducible refine LeO.ite ?_ ?_)
   | (with_reducible refine LeO.bind ?_ (fun _ => ?_))
   | exact J0 _ _ _ _
   | exact LeO.none _
   | refine LeO.ite ?_ ?_
   | refine LeO.bind ?_ (fun _ => ?_)
set_option maxHeartbeats 8000000 in
set_option maxRecDepth 100000 in
theorem impl_same_impl_Box.calls (k : Nat) (A0 : Option Addr) (c0 : Nat) (l0 : List (S46)) (A1 : Option Addr) (c1 : Nat) (l1 : List (S46)) (r : Bool) (w : World) (X0 : Kd.C k46 w A0 l0.length l0) (Z0 : l0.length ≤ c0) (X1 : Kd.C k46 w A1 l1.length l1) (Z1 : l1.length ≤ c1) (h : impl_same_impl_Box.f k l0 l1 = some r) :
  Calls Try.prog 71 #[.slice A0 l0.length c0, .slice A1 l1.length c1] w fun e w' => e = .returned (.bool r) ∧ Drawn0 w w' := by
 have ar0 := Try.underlying46; have V0 := Aside0.mk X0; have aa0 := Aside0.mk Z0; clear X0 Z0; have V1 := Aside0.mk X1; have aa1 := Aside0.mk Z1; clear X1 Z1; have H : (if (l0.length : Int) = (l1.length : Int) then (impl_same_impl_Box.l0 k l0 l1 (l0.length : Int) 0) else (some false)) = some r := h; clear h; by_cases c3 : (l0.length : Int) = (l1.length : Int)
 ·rw [if_pos c3] at H; have s0 : ((l0.length : Int) == (l1.length : Int)) = true := beq_iff_eq.mpr c3; have s1 : ((l0.length : Int) != (l1.length : Int)) = false := bne_eq_false_iff_eq.mpr c3; have s2 : (l0.length == l1.length) = true := by first | simpa using c3 | (simp at c3 ⊢; omega)
  clear c3; have H' := Aside0.mk H; clear H
  go_enter Try.func71, Try.ntmps71
  go_wp2
  repeat (go_quiet (fail); try go_wp2)
  go_loopg [13] k (fun kq U0 w' => ∃ (a0 : Int), U0 = .int .i64 a0 ∧ Aside0 (impl_same_impl_Box.l0 kq l0 l1 (l0.length : Int) a0 = some r) ∧ Aside0 (kq ≤ k) ∧ Drawn0 w w')
  case atStart => exact ⟨(0), zq5b_, H', ⟨Nat.le_refl _⟩, zq8f_⟩
  case round =>
   clear H'
   try clear c1
   try clear p2
   try clear c3
   try clear s0
   try clear s1
   try clear s2
   obtain ⟨a0, rfl, HA, ae0, ⟨m1, rfl⟩⟩ := hrel
   cases gk with
   | zero => exact absurd HA.out (by simp [impl_same_impl_Box.l0])
   | succ k1 =>
    have H := HA.out; clear HA; simp only [impl_same_impl_Box.l0] at H; replace H := ifc_ H
    rcases H with ⟨c4b0, H⟩ | ⟨c4b0, H⟩
    ·replace H := ifd3_ H; obtain ⟨s3, s4, s5, H⟩ := H; by_cases c8 : (!(((rd_T46 l0 a0).f0) == ((rd_T46 l1 a0).f0)) || (!(((rd_T46 l0 a0).f1) == ((rd_T46 l1 a0).f1)))) = true
     ·rw [if_pos c8] at H; have s6 : (!(((rd_T46 l0 a0).f0) == ((rd_T46 l1 a0).f0)) || (!(((rd_T46 l0 a0).f1) == ((rd_T46 l1 a0).f1)))) = true := c8; clear c8; obtain rfl := Option.some.inj H; have v0 : 0 ≤ (a0 : Int) := of_decide_eq_true zq56_; have u0 : a0 < (l0.length : Int) := of_decide_eq_true zq56_; obtain ⟨H0, Q0, r0, r1⟩ := at_T46 V0.out a0 v0 u0; cases Q0; replace v0 := eq_true v0; replace u0 := eq_true u0; have v1 : 0 ≤ (a0 : Int) := of_decide_eq_true zq56_; have u1 : a0 < (l1.length : Int) := of_decide_eq_true zq56_; obtain ⟨H1, Q1, r2, r3⟩ := at_T46 V1.out a0 v1 u1; cases Q1; replace v1 := eq_true v1; replace u1 := eq_true u1
      go_wp2
      repeat (go_quiet (fail); try go_wp2)
      go_ret
      exact ⟨zq5b_, zq8f_⟩
     ·rw [if_neg c8] at H; have s6 : (!(((rd_T46 l0 a0).f0) == ((rd_T46 l1 a0).f0)) || (!(((rd_T46 l0 a0).f1) == ((rd_T46 l1 a0).f1)))) = false := by simpa using c8
      clear c8; have H' := Aside0.mk H; clear H; have v0 : 0 ≤ (a0 : Int) := of_decide_eq_true zq56_; have u0 : a0 < (l0.length : Int) := of_decide_eq_true zq56_; obtain ⟨H0, Q0, r0, r1⟩ := at_T46 V0.out a0 v0 u0; cases Q0; replace v0 := eq_true v0; replace u0 := eq_true u0; have v1 : 0 ≤ (a0 : Int) := of_decide_eq_true zq56_; have u1 : a0 < (l1.length : Int) := of_decide_eq_true zq56_; obtain ⟨H1, Q1, r2, r3⟩ := at_T46 V1.out a0 v1 u1; cases Q1; replace v1 := eq_true v1; replace u1 := eq_true u1
      go_wp2
      repeat (go_quiet (fail); try go_wp2)
      go_roundg k1
      case measure => have := ae0.out; omega
      case rel => exact ⟨(wrap64 (a0 + 1)), zq5b_, H', ⟨by have := ae0.out; omega⟩, zq8f_⟩
    ·obtain rfl := Option.some.inj H
     go_wp2
     repeat (go_quiet (fail); try go_wp2)
     go_ret
     exact ⟨zq5b_, zq8f_⟩
 ·rw [if_neg c3] at H; have s0 : ((l0.length : Int) == (l1.length : Int)) = false := beq_eq_false_iff_ne.mpr c3; have s1 : ((l0.length : Int) != (l1.length : Int)) = true := bne_iff_ne.mpr c3; have s2 : (l0.length == l1.length) = false := by first | simpa using c3 | (simp at c3 ⊢; omega)
  obtain rfl := Option.some.inj H
  go_enter Try.func71, Try.ntmps71
  go_wp2
  repeat (go_quiet (fail); try go_wp2)
  go_ret
  exact ⟨zq5b_, zq8f_⟩

/-! ### impl_BoxSame: function 18 -/
def impl_BoxSame.f (k : Nat) (l0 : List (S46)) (l1 : List (S46)) : Option (Bool) := (impl_same_impl_Box.f k l0 l1).bind fun t419 => (some t419)
theorem impl_BoxSame.mono : ∀ a0 a1 k, LeO (impl_BoxSame.f k a0 a1) (impl_BoxSame.f (k + 1) a0 a1) := by
 intro a0 a1 k
 unfold impl_BoxSame.f
 repeat' first
   | (with_reducible exact impl_same_impl_Box.mono _ _ _)
   | (with_reducible exact LeO.refl _)
   | (with_reducible exact LeO.none _)
   | (with_reducible refine LeO.ite ?_ ?_)
   | (with_reducible refine LeO.bind ?_ (fun _ => ?_))
   | exact impl_same_impl_Box.mono _ _ _
   | exact LeO.none _
   | refine LeO.ite ?_ ?_
   | refine LeO.bind ?_ (fun _ => ?_)
set_option maxHeartbeats 8000000 in
set_option maxRecDepth 100000 in
theorem impl_BoxSame.calls (k : Nat) (A0 : Option Addr) (c0 : Nat) (l0 : List (S46)) (A1 : Option Addr) (c1 : Nat) (l1 : List (S46)) (r : Bool) (w : World) (X0 : Kd.C k46 w A0 l0.length l0) (Z0 : l0.length ≤ c0) (X1 : Kd.C k46 w A1 l1.length l1) (Z1 : l1.length ≤ c1) (h : impl_BoxSame.f k l0 l1 = some r) :
  Calls Try.prog 18 #[.slice A0 l0.length c0, .slice A1 l1.length c1] w fun e w' => e = .returned (.bool r) ∧ Drawn0 w w' := by
 have V0 := Aside0.mk X0; have aa0 := Aside0.mk Z0; clear X0 Z0; have V1 := Aside0.mk X1; have aa1 := Aside0.mk Z1; clear X1 Z1; have H : ((impl_same_impl_Box.f k l0 l1).bind fun e0 => (some e0)) = some r := h; clear h; replace H := bs_ H; obtain ⟨e0, A3, H⟩ := H; (try dsimp only at H); obtain rfl := Option.some.inj H
 go_enter Try.func18, Try.ntmps18
 go_wp2_with (first | ((with_reducible refine gate_callee (f := 71) rfl ?_); refine gl_ 7 Try.func71 #[.slice A0 l0.length c0, .slice A1 l1.length c1] ?_; (with_reducible refine (impl_same_impl_Box.calls k _ _ l0 _ _ l1 e0 _ ?side1 ?side2 ?side3 ?side4 A3.out).mono ?_); (case side1 => exact zq92_); (case side2 => exact aa0.out); (case side3 => repeat (first | exact V1.out | (with_reducible refine Kd.C_alloc ?_ _) | (with_reducible refine Kd.C_drewN ?_ _) | (with_reducible refine Kd.C_drew ?_))); (case side4 => exact aa1.out); rintro e w' ⟨rfl, ⟨nd, rfl⟩⟩; refine ⟨_, rfl, ?_⟩))
 go_ret
 exact ⟨zq5b_, zq8f_⟩

/-! ### impl_ExecFresh: function 22 -/
mutual
def impl_ExecFresh.j0 : Nat → List (S46) → Bool → List (S48) → List (S36) → Int → Int → Option (Bool)
 | 0, _, _, _, _, _, _ => none
 | k + 1, x0, x14, x421000, x421001, x421002, x421003 => if x14 = true then (some false) else (impl_ExecFresh.l0 k x0 x421000 (x421000.length : Int) 0)
def impl_ExecFresh.l0 : Nat → List (S46) → List (S48) → Int → Int → Option (Bool)
 | 0, _, _, _, _ => none
 | k + 1, x0, x16, x17, x18 => if x18 < x17 then (if 0 ≤ x18 then (if x18 < (x16.length : Int) then (if 0 ≤ ((rd_T48 x16 x18).f0) then (if ((rd_T48 x16 x18).f0) < (x0.length : Int) then (if ((rd_T46 x0 ((rd_T48 x16 x18).f0)).f0) = ((rd_T48 x16 x18).f1) then (impl_ExecFresh.l0 k x0 x16 x17 (wrap64 (x18 + 1))) else (some false)) else (none)) else (none)) else (none)) else (none)) else (some true)
end
def impl_ExecFresh.f (k : Nat) (l0 : List (S46)) (l1_0 : List (S48)) (l1_1 : List (S36)) (a1_2 : Int) (a1_3 : Int) : Option (Bool) := (impl_BoxOk.f k l0).bind fun t421 => (if t421 = true then ((impl_ExecOk.f k l1_0 l1_1 a1_2 a1_3).bind fun t422 => (impl_ExecFresh.j0 k l0 (!t422) l1_0 l1_1 a1_2 a1_3)) else (impl_ExecFresh.j0 k l0 true l1_0 l1_1 a1_2 a1_3))
theorem impl_ExecFresh.mono_l : ∀ k, (∀ y0 y1 y2 y3 y4 y5, LeO (impl_ExecFresh.j0 k y0 y1 y2 y3 y4 y5) (impl_ExecFresh.j0 (k + 1) y0 y1 y2 y3 y4 y5)) ∧ (∀ y0 y1 y2 y3, LeO (impl_ExecFresh.l0 k y0 y1 y2 y3) (impl_ExecFresh.l0 (k + 1) y0 y1 y2 y3))
 | 0 => ⟨fun _ _ _ _ _ _ r h => by simp [impl_ExecFresh.j0] at h, fun _ _ _ _ r h => by simp [impl_ExecFresh.l0] at h⟩
 | k + 1 => by
  obtain ⟨J0, J1⟩ := impl_ExecFresh.mono_l k
  refine ⟨?_, ?_⟩
  ·intro y0 y1 y2 y3 y4 y5
   unfold impl_ExecFresh.j0
   repeat' first
   | (with_reducible exact J0 _ _ _ _ _ _)
   | (with_reducible exact J1 _ _ _ _)
   | (with_reducible exact impl_BoxOk.mono _ _)
   | (with_reducible exact impl_ExecOk.mono _ _ _ _ _)
   | (with_reducible exact LeO.refl _)
   | (with_reducible exact LeO.none _)
   | (with_reducible refine LeO.ite ?_ ?_)
   | (with_reducible refine LeO.bind ?_ (fun _ => ?_))
   | exact J0 _ _ _ _ _ _
   | exact J1 _ _ _ _
   | exact impl_BoxOk.mono _ _
   | exact impl_ExecOk.mono _ _ _ _ _
   | exact LeO.none _
   | refine LeO.ite ?_ ?_
   | refine LeO.bind ?_ (fun _ => ?_)
  ·intro y0 y1 y2 y3
   unfold impl_ExecFresh.l0
   repeat' first
   | (with_reducible exact J0 _ _ _ _ _ _)
   | (with_reducible exact J1 _ _ _ _)
   | (with_reducible exact impl_BoxOk.mono _ _)
   | (with_reducible exact impl_ExecOk.mono _ _ _ _ _)
   | (with_reducible exact LeO.refl _)
   | (with_reducible exact LeO.none _)
   | (with_reducible refine LeO.ite ?_ ?_)
   | (with_reducible refine LeO.bind ?_ (fun _ => ?_))
   | exact J0 _ _ _ _ _ _
   | exact J1 _ _ _ _
   | exact impl_BoxOk.mono _ _
   | exact impl_ExecOk.mono _ _ _ _ _
   | exact LeO.none _
   | refine LeO.ite ?_ ?_
   | refine LeO.bind ?_ (fun _ => ?_)
theorem impl_ExecFresh.mono : ∀ a0 a1 a2 a3 a4 k, LeO (impl_ExecFresh.f k a0 a1 a2 a3 a4) (impl_ExecFresh.f (k + 1) a0 a1 a2 a3 a4) := by
 intro a0 a1 a2 a3 a4 k
 obtain ⟨J0, J1⟩ := impl_ExecFresh.mono_l k
 unfold impl_ExecFresh.f
 repeat' first
   | (with_reducible exact J0 _ _ _ _ _ _)
   | (with_reducible exact J1 _ _ _ _)
   | (with_reducible exact impl_BoxOk.mono _ _)
   | (with_reducible exact impl_ExecOk.mono _ _ _ _ _)
   | (with_reducible exact LeO.refl _)
   | (with_reducible exact LeO.none _)
   | (with_reducible refine LeO.ite ?_ ?_)
   | (with_reducible refine LeO.bind ?_ (fun _ => ?_))
   | exact J0 _ _ _ _ _ _
   | exact J1 _ _ _ _
   | exact impl_BoxOk.mono _ _
   | exact impl_ExecOk.mono _ _ _ _ _
   | exact LeO.none _
   | refine LeO.ite ?_ ?_
   | refine LeO.bind ?_ (fun _ => ?_)
set_option maxHeartbeats 8000000 in
set_option maxRecDepth 100000 in
theorem impl_ExecFresh.calls (k : Nat) (A0 : Option Addr) (c0 : Nat) (l0 : List (S46)) (N0 : Option Addr) (I0 : Nat) (m0 : List (S48)) (N1 : Option Addr) (I1 : Nat) (m1 : List (S36)) (g0 : Int) (g1 : Int) (r : Bool) (w : World) (X0 : Kd.C k46 w A0 l0.length l0) (Z0 : l0.length ≤ c0) (au0 : Kd.C k48 w N0 m0.length m0) (av0 : m0.length ≤ I0) (au1 : Kd.C k36 w N1 m1.length m1) (av1 : m1.length ≤ I1) (h : impl_ExecFresh.f k l0 m0 m1 g0 g1 = some r) :
  Calls Try.prog 22 #[.slice A0 l0.length c0, .agg #[.slice N0 m0.length I0, .slice N1 m1.length I1, .int .i64 g0, .int .i64 g1]] w fun e w' => e = .returned (.bool r) ∧ Below w.heap.size w w' := by
 have ar0 := Try.underlying30; have ar1 := Try.underlying48; have V0 := Aside0.mk X0; have aa0 := Aside0.mk Z0; clear X0 Z0; have am0 := Aside0.mk au0; have aA0 := Aside0.mk av0; clear au0 av0; have am1 := Aside0.mk au1; have aA1 := Aside0.mk av1; clear au1 av1; have HB := Aside0.mk (Below.refl w.heap.size w); have H : ((impl_BoxOk.f k l0).bind fun e0 => (if e0 = true then ((impl_ExecOk.f k m0 m1 g0 g1).bind fun e1 => (impl_ExecFresh.j0 k l0 (!e1) m0 m1 g0 g1)) else (impl_ExecFresh.j0 k l0 true m0 m1 g0 g1))) = some r := h; clear h; have aa1 := Aside0.mk H; clear H
 go_enter Try.func22, Try.ntmps22
 go_upto_region 1 with (first | ((with_reducible refine gate_dst (N := 3) rfl ?_); refine bxe_ (N := 3) (cs := #[.slice N0 m0.length I0, .slice N1 m1.length I1, .int .i64 g0, .int .i64 g1]) (t := 30) ?_; intro c3 hg w4 C_ hb; have n_ := A4_ (below_step zq6d_ hb) (C_) ((zqa9_ : w.heap.size ≤ c3)) ((zqa9_ : w.heap.size ≤ c3)); clear HB; obtain ⟨HB, b0, x0, l1⟩ := n_; clear hb C_ hg))
 repeat (go_quiet (first | ((with_reducible refine gate_dst (N := 3) rfl ?_); refine bxe_ (N := 3) (cs := #[.slice N0 m0.length I0, .slice N1 m1.length I1, .int .i64 g0, .int .i64 g1]) (t := 30) ?_; intro c3 hg w4 C_ hb; have n_ := A4_ (below_step zq6d_ hb) (C_) ((zqa9_ : w.heap.size ≤ c3)) ((zqa9_ : w.heap.size ≤ c3)); clear HB; obtain ⟨HB, b0, x0, l1⟩ := n_; clear hb C_ hg)); go_upto_region 1 with (first | ((with_reducible refine gate_dst (N := 3) rfl ?_); refine bxe_ (N := 3) (cs := #[.slice N0 m0.length I0, .slice N1 m1.length I1, .int .i64 g0, .int .i64 g1]) (t := 30) ?_; intro c3 hg w4 C_ hb; have n_ := A4_ (below_step zq6d_ hb) (C_) ((zqa9_ : w.heap.size ≤ c3)) ((zqa9_ : w.heap.size ≤ c3)); clear HB; obtain ⟨HB, b0, x0, l1⟩ := n_; clear hb C_ hg)))
 (try simp only [Act.put, List.setIfInBounds_toArray, List.set_cons_zero, List.set_cons_succ])
 go_cut [14] (fun U0 wc => ∃ (kq : Nat) (a0 : Bool), U0 = .bool a0 ∧ Aside0 (impl_ExecFresh.j0 kq l0 a0 m0 m1 g0 g1 = some r) ∧ Aside0 (kq ≤ k) ∧ Aside0 (wc.heap[c3]? = some (.cells #[(.slice N0 m0.length I0), (.slice N1 m1.length I1), .int .i64 g0, .int .i64 g1] 30 (0, 0))) ∧ Aside0 (Below w.heap.size w wc))
 case first =>
  have H := aa1.out; clear aa1; replace H := bs_ H; obtain ⟨e0, A5, H⟩ := H; (try dsimp only at H); replace H := ifB_ H
  rcases H with ⟨rfl, H⟩ | ⟨rfl, H⟩
  ·replace H := bs_ H; obtain ⟨e1, A7, H⟩ := H; (try dsimp only at H); have H' := Aside0.mk H; clear H
   go_wp2_with (first | (go_at_call 25; (with_reducible refine (impl_BoxOk.calls k _ _ l0 true _ ?_ ?_ A5.out).mono ?_); exact zq7c_; exact aa0.out; rintro e w8 ⟨rfl, hb⟩; have n_ := A2_ (blk_below (g := c3) (o := .cells #[.slice N0 m0.length I0, .slice N1 m1.length I1, .int .i64 g0, .int .i64 g1] 30 (0, 0)) zq26_ hb) (below_step zq68_ hb); clear b0 HB; obtain ⟨b0, HB⟩ := n_; (try clear hb); (try clear A5); obtain ⟨i0, i1, i2, i3, j1, j2, j3, j4⟩ := bz4_ b0.out) | (go_at_call 20; (with_reducible refine (impl_ExecOk.calls k _ _ m0 _ _ m1 g0 g1 e1 _ ?_ ?_ ?_ ?_ A7.out).mono ?_); exact zq7d_; exact aA0.out; exact zq7e_; exact aA1.out; rintro e q0 ⟨rfl, hb⟩; have n_ := A2_ (blk_below (g := c3) (o := .cells #[.slice N0 m0.length I0, .slice N1 m1.length I1, .int .i64 g0, .int .i64 g1] 30 (0, 0)) zq26_ hb) (below_step zq68_ hb); clear b0 HB; obtain ⟨b0, HB⟩ := n_; (try clear hb); (try clear A7)))
   repeat (go_quiet (first | (go_at_call 25; (with_reducible refine (impl_BoxOk.calls k _ _ l0 true _ ?_ ?_ A5.out).mono ?_); exact zq7c_; exact aa0.out; rintro e w8 ⟨rfl, hb⟩; have n_ := A2_ (blk_below (g := c3) (o := .cells #[.slice N0 m0.length I0, .slice N1 m1.length I1, .int .i64 g0, .int .i64 g1] 30 (0, 0)) zq26_ hb) (below_step zq68_ hb); clear b0 HB; obtain ⟨b0, HB⟩ := n_; (try clear hb); (try clear A5); obtain ⟨i0, i1, i2, i3, j1, j2, j3, j4⟩ := bz4_ b0.out) | (go_at_call 20; (with_reducible refine (impl_ExecOk.calls k _ _ m0 _ _ m1 g0 g1 e1 _ ?_ ?_ ?_ ?_ A7.out).mono ?_); exact zq7d_; exact aA0.out; exact zq7e_; exact aA1.out; rintro e q0 ⟨rfl, hb⟩; have n_ := A2_ (blk_below (g := c3) (o := .cells #[.slice N0 m0.length I0, .slice N1 m1.length I1, .int .i64 g0, .int .i64 g1] 30 (0, 0)) zq26_ hb) (below_step zq68_ hb); clear b0 HB; obtain ⟨b0, HB⟩ := n_; (try clear hb); (try clear A7))); try go_wp2_with (first | (go_at_call 25; (with_reducible refine (impl_BoxOk.calls k _ _ l0 true _ ?_ ?_ A5.out).mono ?_); exact zq7c_; exact aa0.out; rintro e w8 ⟨rfl, hb⟩; have n_ := A2_ (blk_below (g := c3) (o := .cells #[.slice N0 m0.length I0, .slice N1 m1.length I1, .int .i64 g0, .int .i64 g1] 30 (0, 0)) zq26_ hb) (below_step zq68_ hb); clear b0 HB; obtain ⟨b0, HB⟩ := n_; (try clear hb); (try clear A5); obtain ⟨i0, i1, i2, i3, j1, j2, j3, j4⟩ := bz4_ b0.out) | (go_at_call 20; (with_reducible refine (impl_ExecOk.calls k _ _ m0 _ _ m1 g0 g1 e1 _ ?_ ?_ ?_ ?_ A7.out).mono ?_); exact zq7d_; exact aA0.out; exact zq7e_; exact aA1.out; rintro e q0 ⟨rfl, hb⟩; have n_ := A2_ (blk_below (g := c3) (o := .cells #[.slice N0 m0.length I0, .slice N1 m1.length I1, .int .i64 g0, .int .i64 g1] 30 (0, 0)) zq26_ hb) (below_step zq68_ hb); clear b0 HB; obtain ⟨b0, HB⟩ := n_; (try clear hb); (try clear A7))))
   go_meet
   case rel => exact ⟨_, (!e1), zq5b_, H', ⟨zq59_⟩, ⟨zq26_⟩, ⟨zq68_⟩⟩
  ·have H' := Aside0.mk H; clear H
   go_wp2_with (first | (go_at_call 25; (with_reducible refine (impl_BoxOk.calls k _ _ l0 false _ ?_ ?_ A5.out).mono ?_); exact zq7c_; exact aa0.out; rintro e q0 ⟨rfl, hb⟩; have n_ := A2_ (blk_below (g := c3) (o := .cells #[.slice N0 m0.length I0, .slice N1 m1.length I1, .int .i64 g0, .int .i64 g1] 30 (0, 0)) zq26_ hb) (below_step zq68_ hb); clear b0 HB; obtain ⟨b0, HB⟩ := n_; (try clear hb); (try clear A5)))
   repeat (go_quiet (first | (go_at_call 25; (with_reducible refine (impl_BoxOk.calls k _ _ l0 false _ ?_ ?_ A5.out).mono ?_); exact zq7c_; exact aa0.out; rintro e q0 ⟨rfl, hb⟩; have n_ := A2_ (blk_below (g := c3) (o := .cells #[.slice N0 m0.length I0, .slice N1 m1.length I1, .int .i64 g0, .int .i64 g1] 30 (0, 0)) zq26_ hb) (below_step zq68_ hb); clear b0 HB; obtain ⟨b0, HB⟩ := n_; (try clear hb); (try clear A5))); try go_wp2_with (first | (go_at_call 25; (with_reducible refine (impl_BoxOk.calls k _ _ l0 false _ ?_ ?_ A5.out).mono ?_); exact zq7c_; exact aa0.out; rintro e q0 ⟨rfl, hb⟩; have n_ := A2_ (blk_below (g := c3) (o := .cells #[.slice N0 m0.length I0, .slice N1 m1.length I1, .int .i64 g0, .int .i64 g1] 30 (0, 0)) zq26_ hb) (below_step zq68_ hb); clear b0 HB; obtain ⟨b0, HB⟩ := n_; (try clear hb); (try clear A5))))
   go_meet
   case rel => exact ⟨_, (true), zq5b_, H', ⟨zq59_⟩, ⟨zq26_⟩, ⟨zq68_⟩⟩
 case rest =>
  clear aa1
  try clear c1
  try clear c2
  try clear p2
  try clear c6
  try clear i0 i1 i2 i3 j1 j2 j3 j4
  obtain ⟨kq, a0, rfl, HA, ak0, b0, HB⟩ := hcut
  cases kq with
  | zero => exact absurd HA.out (by simp [impl_ExecFresh.j0])
  | succ kj2 =>
   have H := HA.out; clear HA; simp only [impl_ExecFresh.j0] at H; replace H := ifB_ H
   rcases H with ⟨rfl, H⟩ | ⟨rfl, H⟩
   ·obtain rfl := Option.some.inj H
    go_wp2
    repeat (go_quiet (fail); try go_wp2)
    go_ret
    exact ⟨zq5a_, zq68_⟩
   ·have H' := Aside0.mk H; clear H; obtain ⟨i4, i5, i6, i7, j5, j6, j7, j8⟩ := bz4_ b0.out
    go_wp2
    repeat (go_quiet (fail); try go_wp2)
    go_loopg [18] kj2 (fun kq U1 w' => ∃ (a1 : Int), U1 = .int .i64 a1 ∧ Aside0 (impl_ExecFresh.l0 kq l0 m0 (m0.length : Int) a1 = some r) ∧ Aside0 (kq ≤ kj2) ∧ Aside0 (w'.heap[c3]? = some (.cells #[(.slice N0 m0.length I0), (.slice N1 m1.length I1), .int .i64 g0, .int .i64 g1] 30 (0, 0))) ∧ Aside0 (Below w.heap.size w w'))
    case atStart => exact ⟨(0), zq5b_, H', ⟨Nat.le_refl _⟩, ⟨zq26_⟩, ⟨zq68_⟩⟩
    case round =>
     clear H'
     try clear c1
     try clear c2
     try clear p2
     try clear c6
     try clear c12
     try clear i4 i5 i6 i7 j5 j6 j7 j8
     try clear i0 i1 i2 i3 j1 j2 j3 j4
     try clear p2
     obtain ⟨a1, rfl, HA, ae0, b0, HB⟩ := hrel
     cases gk with
     | zero => exact absurd HA.out (by simp [impl_ExecFresh.l0])
     | succ k2 =>
      have H := HA.out; clear HA; simp only [impl_ExecFresh.l0] at H; replace H := ifc_ H
      rcases H with ⟨c14b0, H⟩ | ⟨c14b0, H⟩
      ·replace H := ifd4_ H; obtain ⟨s0, s1, s2, s3, H⟩ := H; by_cases t0 : ((rd_T46 l0 ((rd_T48 m0 a1).f0)).f0) = ((rd_T48 m0 a1).f1)
       ·rw [if_pos t0] at H; have s4 : (((rd_T46 l0 ((rd_T48 m0 a1).f0)).f0) == ((rd_T48 m0 a1).f1)) = true := beq_iff_eq.mpr t0; have s5 : (((rd_T46 l0 ((rd_T48 m0 a1).f0)).f0) != ((rd_T48 m0 a1).f1)) = false := bne_eq_false_iff_eq.mpr t0; clear t0; have H' := Aside0.mk H; clear H; have v0 : 0 ≤ (a1 : Int) := of_decide_eq_true zq56_; have u0 : a1 < (m0.length : Int) := of_decide_eq_true zq56_; obtain ⟨H0, Q0, r0, r1⟩ := at_T48 am0.out a1 v0 u0; cases Q0; replace r0 := pb_ HB.out r0; replace r1 := pb_ HB.out r1; replace v0 := eq_true v0; replace u0 := eq_true u0
        go_wp2_with (first | ((with_reducible refine gate_dst (N := 6) rfl ?_); refine bxe_ (N := 6) (cs := #[.int .i64 0, .int .i64 0]) (t := 48) ?_; intro c4 hg q0 C_ hb; have n_ := A7_ (blk_below (g := c3) (o := .cells #[.slice (some H0) m0.length I0, .slice N1 m1.length I1, .int .i64 g0, .int .i64 g1] 30 (0, 0)) zq26_ hb) (below_step zq68_ hb) (C_) ((zqa5_ : w.heap.size ≤ c4)) ((zqa5_ : w.heap.size ≤ c4)) ((zqcb_ : c3 ≠ c4)) ((zqba_ : c4 ≠ c3)); clear b0 HB; obtain ⟨b0, HB, b1, x1, l2, h0, h1⟩ := n_; clear hb C_ hg; have O0 := h1.out; have P0 := h0.out; obtain ⟨i8, i9, j9, j10⟩ := bz2_ b1.out; have v1 : 0 ≤ (((rd_T48 m0 a1).f0) : Int) := of_decide_eq_true zq56_; have u1 : ((rd_T48 m0 a1).f0) < (l0.length : Int) := of_decide_eq_true zq56_; obtain ⟨H1, Q1, r2, r3⟩ := at_T46 V0.out ((rd_T48 m0 a1).f0) v1 u1; cases Q1; have y0 : H1.block ≠ c4 := Nat.ne_of_lt (Nat.lt_of_lt_of_le (by have := World.block_lt_of_cell? _ _ r2; first | rwa [add_block] at this | exact this) x1.out); have y1 : H1.block ≠ c4 := Nat.ne_of_lt (Nat.lt_of_lt_of_le (by have := World.block_lt_of_cell? _ _ r2; first | rwa [add_block] at this | exact this) x1.out); replace r2 := pb_ HB.out r2; replace r3 := pb_ HB.out r3; replace r2 := (cell_far (p := ⟨c4, 0, none⟩) zq4e_ (.int .i64 ((rd_T48 m0 a1).f0))).trans r2; replace r3 := (cell_far (p := ⟨c4, 0, none⟩) zq4e_ (.int .i64 ((rd_T48 m0 a1).f0))).trans r3; replace r2 := (cell_far (p := ⟨c4, 1, none⟩) zq4f_ (.int .i64 ((rd_T48 m0 a1).f1))).trans r2; replace r3 := (cell_far (p := ⟨c4, 1, none⟩) zq4f_ (.int .i64 ((rd_T48 m0 a1).f1))).trans r3; (try have aO0 := fun (n_ : Nat) => (show ((((q0.drewN n_).setCell ⟨c4, 0, none⟩ (.int .i64 ((rd_T48 m0 a1).f0))).setCell ⟨c4, 1, none⟩ (.int .i64 ((rd_T48 m0 a1).f1)))).cell? _ = some _ from r2)); (try have aO1 := fun (n_ : Nat) => (show ((((q0.drewN n_).setCell ⟨c4, 0, none⟩ (.int .i64 ((rd_T48 m0 a1).f0))).setCell ⟨c4, 1, none⟩ (.int .i64 ((rd_T48 m0 a1).f1)))).cell? _ = some _ from r3)); clear y0; clear y1; replace v1 := eq_true v1; replace u1 := eq_true u1))
        repeat (go_quiet (first | ((with_reducible refine gate_dst (N := 6) rfl ?_); refine bxe_ (N := 6) (cs := #[.int .i64 0, .int .i64 0]) (t := 48) ?_; intro c4 hg q0 C_ hb; have n_ := A7_ (blk_below (g := c3) (o := .cells #[.slice (some H0) m0.length I0, .slice N1 m1.length I1, .int .i64 g0, .int .i64 g1] 30 (0, 0)) zq26_ hb) (below_step zq68_ hb) (C_) ((zqa5_ : w.heap.size ≤ c4)) ((zqa5_ : w.heap.size ≤ c4)) ((zqcb_ : c3 ≠ c4)) ((zqba_ : c4 ≠ c3)); clear b0 HB; obtain ⟨b0, HB, b1, x1, l2, h0, h1⟩ := n_; clear hb C_ hg; have O0 := h1.out; have P0 := h0.out; obtain ⟨i8, i9, j9, j10⟩ := bz2_ b1.out; have v1 : 0 ≤ (((rd_T48 m0 a1).f0) : Int) := of_decide_eq_true zq56_; have u1 : ((rd_T48 m0 a1).f0) < (l0.length : Int) := of_decide_eq_true zq56_; obtain ⟨H1, Q1, r2, r3⟩ := at_T46 V0.out ((rd_T48 m0 a1).f0) v1 u1; cases Q1; have y0 : H1.block ≠ c4 := Nat.ne_of_lt (Nat.lt_of_lt_of_le (by have := World.block_lt_of_cell? _ _ r2; first | rwa [add_block] at this | exact this) x1.out); have y1 : H1.block ≠ c4 := Nat.ne_of_lt (Nat.lt_of_lt_of_le (by have := World.block_lt_of_cell? _ _ r2; first | rwa [add_block] at this | exact this) x1.out); replace r2 := pb_ HB.out r2; replace r3 := pb_ HB.out r3; replace r2 := (cell_far (p := ⟨c4, 0, none⟩) zq4e_ (.int .i64 ((rd_T48 m0 a1).f0))).trans r2; replace r3 := (cell_far (p := ⟨c4, 0, none⟩) zq4e_ (.int .i64 ((rd_T48 m0 a1).f0))).trans r3; replace r2 := (cell_far (p := ⟨c4, 1, none⟩) zq4f_ (.int .i64 ((rd_T48 m0 a1).f1))).trans r2; replace r3 := (cell_far (p := ⟨c4, 1, none⟩) zq4f_ (.int .i64 ((rd_T48 m0 a1).f1))).trans r3; (try have aO0 := fun (n_ : Nat) => (show ((((q0.drewN n_).setCell ⟨c4, 0, none⟩ (.int .i64 ((rd_T48 m0 a1).f0))).setCell ⟨c4, 1, none⟩ (.int .i64 ((rd_T48 m0 a1).f1)))).cell? _ = some _ from r2)); (try have aO1 := fun (n_ : Nat) => (show ((((q0.drewN n_).setCell ⟨c4, 0, none⟩ (.int .i64 ((rd_T48 m0 a1).f0))).setCell ⟨c4, 1, none⟩ (.int .i64 ((rd_T48 m0 a1).f1)))).cell? _ = some _ from r3)); clear y0; clear y1; replace v1 := eq_true v1; replace u1 := eq_true u1)); try go_wp2_with (first | ((with_reducible refine gate_dst (N := 6) rfl ?_); refine bxe_ (N := 6) (cs := #[.int .i64 0, .int .i64 0]) (t := 48) ?_; intro c4 hg q0 C_ hb; have n_ := A7_ (blk_below (g := c3) (o := .cells #[.slice (some H0) m0.length I0, .slice N1 m1.length I1, .int .i64 g0, .int .i64 g1] 30 (0, 0)) zq26_ hb) (below_step zq68_ hb) (C_) ((zqa5_ : w.heap.size ≤ c4)) ((zqa5_ : w.heap.size ≤ c4)) ((zqcb_ : c3 ≠ c4)) ((zqba_ : c4 ≠ c3)); clear b0 HB; obtain ⟨b0, HB, b1, x1, l2, h0, h1⟩ := n_; clear hb C_ hg; have O0 := h1.out; have P0 := h0.out; obtain ⟨i8, i9, j9, j10⟩ := bz2_ b1.out; have v1 : 0 ≤ (((rd_T48 m0 a1).f0) : Int) := of_decide_eq_true zq56_; have u1 : ((rd_T48 m0 a1).f0) < (l0.length : Int) := of_decide_eq_true zq56_; obtain ⟨H1, Q1, r2, r3⟩ := at_T46 V0.out ((rd_T48 m0 a1).f0) v1 u1; cases Q1; have y0 : H1.block ≠ c4 := Nat.ne_of_lt (Nat.lt_of_lt_of_le (by have := World.block_lt_of_cell? _ _ r2; first | rwa [add_block] at this | exact this) x1.out); have y1 : H1.block ≠ c4 := Nat.ne_of_lt (Nat.lt_of_lt_of_le (by have := World.block_lt_of_cell? _ _ r2; first | rwa [add_block] at this | exact this) x1.out); replace r2 := pb_ HB.out r2; replace r3 := pb_ HB.out r3; replace r2 := (cell_far (p := ⟨c4, 0, none⟩) zq4e_ (.int .i64 ((rd_T48 m0 a1).f0))).trans r2; replace r3 := (cell_far (p := ⟨c4, 0, none⟩) zq4e_ (.int .i64 ((rd_T48 m0 a1).f0))).trans r3; replace r2 := (cell_far (p := ⟨c4, 1, none⟩) zq4f_ (.int .i64 ((rd_T48 m0 a1).f1))).trans r2; replace r3 := (cell_far (p := ⟨c4, 1, none⟩) zq4f_ (.int .i64 ((rd_T48 m0 a1).f1))).trans r3; (try have aO0 := fun (n_ : Nat) => (show ((((q0.drewN n_).setCell ⟨c4, 0, none⟩ (.int .i64 ((rd_T48 m0 a1).f0))).setCell ⟨c4, 1, none⟩ (.int .i64 ((rd_T48 m0 a1).f1)))).cell? _ = some _ from r2)); (try have aO1 := fun (n_ : Nat) => (show ((((q0.drewN n_).setCell ⟨c4, 0, none⟩ (.int .i64 ((rd_T48 m0 a1).f0))).setCell ⟨c4, 1, none⟩ (.int .i64 ((rd_T48 m0 a1).f1)))).cell? _ = some _ from r3)); clear y0; clear y1; replace v1 := eq_true v1; replace u1 := eq_true u1)))
        go_roundg k2
        case measure => have := ak0.out; have := ae0.out; omega
        case rel => exact ⟨(wrap64 (a1 + 1)), zq5b_, H', ⟨by have := ak0.out; have := ae0.out; omega⟩, ⟨zq2e_⟩, ⟨zq64_⟩⟩
       ·rw [if_neg t0] at H; have s4 : (((rd_T46 l0 ((rd_T48 m0 a1).f0)).f0) == ((rd_T48 m0 a1).f1)) = false := beq_eq_false_iff_ne.mpr t0; have s5 : (((rd_T46 l0 ((rd_T48 m0 a1).f0)).f0) != ((rd_T48 m0 a1).f1)) = true := bne_iff_ne.mpr t0; obtain rfl := Option.some.inj H; have v0 : 0 ≤ (a1 : Int) := of_decide_eq_true zq56_; have u0 : a1 < (m0.length : Int) := of_decide_eq_true zq56_; obtain ⟨H0, Q0, r0, r1⟩ := at_T48 am0.out a1 v0 u0; cases Q0; replace r0 := pb_ HB.out r0; replace r1 := pb_ HB.out r1; replace v0 := eq_true v0; replace u0 := eq_true u0
        go_wp2_with (first | ((with_reducible refine gate_dst (N := 6) rfl ?_); refine bxe_ (N := 6) (cs := #[.int .i64 0, .int .i64 0]) (t := 48) ?_; intro c4 hg q0 C_ hb; have n_ := A7_ (blk_below (g := c3) (o := .cells #[.slice (some H0) m0.length I0, .slice N1 m1.length I1, .int .i64 g0, .int .i64 g1] 30 (0, 0)) zq26_ hb) (below_step zq68_ hb) (C_) ((zqa5_ : w.heap.size ≤ c4)) ((zqa5_ : w.heap.size ≤ c4)) ((zqcb_ : c3 ≠ c4)) ((zqba_ : c4 ≠ c3)); clear b0 HB; obtain ⟨b0, HB, b1, x1, l2, h0, h1⟩ := n_; clear hb C_ hg; have O0 := h1.out; have P0 := h0.out; obtain ⟨i8, i9, j9, j10⟩ := bz2_ b1.out; have v1 : 0 ≤ (((rd_T48 m0 a1).f0) : Int) := of_decide_eq_true zq56_; have u1 : ((rd_T48 m0 a1).f0) < (l0.length : Int) := of_decide_eq_true zq56_; obtain ⟨H1, Q1, r2, r3⟩ := at_T46 V0.out ((rd_T48 m0 a1).f0) v1 u1; cases Q1; have y0 : H1.block ≠ c4 := Nat.ne_of_lt (Nat.lt_of_lt_of_le (by have := World.block_lt_of_cell? _ _ r2; first | rwa [add_block] at this | exact this) x1.out); have y1 : H1.block ≠ c4 := Nat.ne_of_lt (Nat.lt_of_lt_of_le (by have := World.block_lt_of_cell? _ _ r2; first | rwa [add_block] at this | exact this) x1.out); replace r2 := pb_ HB.out r2; replace r3 := pb_ HB.out r3; replace r2 := (cell_far (p := ⟨c4, 0, none⟩) zq4e_ (.int .i64 ((rd_T48 m0 a1).f0))).trans r2; replace r3 := (cell_far (p := ⟨c4, 0, none⟩) zq4e_ (.int .i64 ((rd_T48 m0 a1).f0))).trans r3; replace r2 := (cell_far (p := ⟨c4, 1, none⟩) zq4f_ (.int .i64 ((rd_T48 m0 a1).f1))).trans r2; replace r3 := (cell_far (p := ⟨c4, 1, none⟩) zq4f_ (.int .i64 ((rd_T48 m0 a1).f1))).trans r3; (try have aO0 := fun (n_ : Nat) => (show ((((q0.drewN n_).setCell ⟨c4, 0, none⟩ (.int .i64 ((rd_T48 m0 a1).f0))).setCell ⟨c4, 1, none⟩ (.int .i64 ((rd_T48 m0 a1).f1)))).cell? _ = some _ from r2)); (try have aO1 := fun (n_ : Nat) => (show ((((q0.drewN n_).setCell ⟨c4, 0, none⟩ (.int .i64 ((rd_T48 m0 a1).f0))).setCell ⟨c4, 1, none⟩ (.int .i64 ((rd_T48 m0 a1).f1)))).cell? _ = some _ from r3)); clear y0; clear y1; replace v1 := eq_true v1; replace u1 := eq_true u1))
        repeat (go_quiet (first | ((with_reducible refine gate_dst (N := 6) rfl ?_); refine bxe_ (N := 6) (cs := #[.int .i64 0, .int .i64 0]) (t := 48) ?_; intro c4 hg q0 C_ hb; have n_ := A7_ (blk_below (g := c3) (o := .cells #[.slice (some H0) m0.length I0, .slice N1 m1.length I1, .int .i64 g0, .int .i64 g1] 30 (0, 0)) zq26_ hb) (below_step zq68_ hb) (C_) ((zqa5_ : w.heap.size ≤ c4)) ((zqa5_ : w.heap.size ≤ c4)) ((zqcb_ : c3 ≠ c4)) ((zqba_ : c4 ≠ c3)); clear b0 HB; obtain ⟨b0, HB, b1, x1, l2, h0, h1⟩ := n_; clear hb C_ hg; have O0 := h1.out; have P0 := h0.out; obtain ⟨i8, i9, j9, j10⟩ := bz2_ b1.out; have v1 : 0 ≤ (((rd_T48 m0 a1).f0) : Int) := of_decide_eq_true zq56_; have u1 : ((rd_T48 m0 a1).f0) < (l0.length : Int) := of_decide_eq_true zq56_; obtain ⟨H1, Q1, r2, r3⟩ := at_T46 V0.out ((rd_T48 m0 a1).f0) v1 u1; cases Q1; have y0 : H1.block ≠ c4 := Nat.ne_of_lt (Nat.lt_of_lt_of_le (by have := World.block_lt_of_cell? _ _ r2; first | rwa [add_block] at this | exact this) x1.out); have y1 : H1.block ≠ c4 := Nat.ne_of_lt (Nat.lt_of_lt_of_le (by have := World.block_lt_of_cell? _ _ r2; first | rwa [add_block] at this | exact this) x1.out); replace r2 := pb_ HB.out r2; replace r3 := pb_ HB.out r3; replace r2 := (cell_far (p := ⟨c4, 0, none⟩) zq4e_ (.int .i64 ((rd_T48 m0 a1).f0))).trans r2; replace r3 := (cell_far (p := ⟨c4, 0, none⟩) zq4e_ (.int .i64 ((rd_T48 m0 a1).f0))).trans r3; replace r2 := (cell_far (p := ⟨c4, 1, none⟩) zq4f_ (.int .i64 ((rd_T48 m0 a1).f1))).trans r2; replace r3 := (cell_far (p := ⟨c4, 1, none⟩) zq4f_ (.int .i64 ((rd_T48 m0 a1).f1))).trans r3; (try have aO0 := fun (n_ : Nat) => (show ((((q0.drewN n_).setCell ⟨c4, 0, none⟩ (.int .i64 ((rd_T48 m0 a1).f0))).setCell ⟨c4, 1, none⟩ (.int .i64 ((rd_T48 m0 a1).f1)))).cell? _ = some _ from r2)); (try have aO1 := fun (n_ : Nat) => (show ((((q0.drewN n_).setCell ⟨c4, 0, none⟩ (.int .i64 ((rd_T48 m0 a1).f0))).setCell ⟨c4, 1, none⟩ (.int .i64 ((rd_T48 m0 a1).f1)))).cell? _ = some _ from r3)); clear y0; clear y1; replace v1 := eq_true v1; replace u1 := eq_true u1)); try go_wp2_with (first | ((with_reducible refine gate_dst (N := 6) rfl ?_); refine bxe_ (N := 6) (cs := #[.int .i64 0, .int .i64 0]) (t := 48) ?_; intro c4 hg q0 C_ hb; have n_ := A7_ (blk_below (g := c3) (o := .cells #[.slice (some H0) m0.length I0, .slice N1 m1.length I1, .int .i64 g0, .int .i64 g1] 30 (0, 0)) zq26_ hb) (below_step zq68_ hb) (C_) ((zqa5_ : w.heap.size ≤ c4)) ((zqa5_ : w.heap.size ≤ c4)) ((zqcb_ : c3 ≠ c4)) ((zqba_ : c4 ≠ c3)); clear b0 HB; obtain ⟨b0, HB, b1, x1, l2, h0, h1⟩ := n_; clear hb C_ hg; have O0 := h1.out; have P0 := h0.out; obtain ⟨i8, i9, j9, j10⟩ := bz2_ b1.out; have v1 : 0 ≤ (((rd_T48 m0 a1).f0) : Int) := of_decide_eq_true zq56_; have u1 : ((rd_T48 m0 a1).f0) < (l0.length : Int) := of_decide_eq_true zq56_; obtain ⟨H1, Q1, r2, r3⟩ := at_T46 V0.out ((rd_T48 m0 a1).f0) v1 u1; cases Q1; have y0 : H1.block ≠ c4 := Nat.ne_of_lt (Nat.lt_of_lt_of_le (by have := World.block_lt_of_cell? _ _ r2; first | rwa [add_block] at this | exact this) x1.out); have y1 : H1.block ≠ c4 := Nat.ne_of_lt (Nat.lt_of_lt_of_le (by have := World.block_lt_of_cell? _ _ r2; first | rwa [add_block] at this | exact this) x1.out); replace r2 := pb_ HB.out r2; replace r3 := pb_ HB.out r3; replace r2 := (cell_far (p := ⟨c4, 0, none⟩) zq4e_ (.int .i64 ((rd_T48 m0 a1).f0))).trans r2; replace r3 := (cell_far (p := ⟨c4, 0, none⟩) zq4e_ (.int .i64 ((rd_T48 m0 a1).f0))).trans r3; replace r2 := (cell_far (p := ⟨c4, 1, none⟩) zq4f_ (.int .i64 ((rd_T48 m0 a1).f1))).trans r2; replace r3 := (cell_far (p := ⟨c4, 1, none⟩) zq4f_ (.int .i64 ((rd_T48 m0 a1).f1))).trans r3; (try have aO0 := fun (n_ : Nat) => (show ((((q0.drewN n_).setCell ⟨c4, 0, none⟩ (.int .i64 ((rd_T48 m0 a1).f0))).setCell ⟨c4, 1, none⟩ (.int .i64 ((rd_T48 m0 a1).f1)))).cell? _ = some _ from r2)); (try have aO1 := fun (n_ : Nat) => (show ((((q0.drewN n_).setCell ⟨c4, 0, none⟩ (.int .i64 ((rd_T48 m0 a1).f0))).setCell ⟨c4, 1, none⟩ (.int .i64 ((rd_T48 m0 a1).f1)))).cell? _ = some _ from r3)); clear y0; clear y1; replace v1 := eq_true v1; replace u1 := eq_true u1)))
        go_ret
        exact ⟨zq5a_, zq64_⟩
      ·obtain rfl := Option.some.inj H
       go_wp2
       repeat (go_quiet (fail); try go_wp2)
       go_ret
       exact ⟨zq5a_, zq68_⟩

end Go.Proofs.Ytgdafcakefnpdaa.PFnExecGrow
