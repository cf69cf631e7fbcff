-- Laid by this session's program out of the translation (gen.sh).
import Derived.Test.YtgdafcakefnpdaaPFnExecx0
import Derived.Test.YtgdafcakefnpdaaPFnExecx4
import Derived.Test.YtgdafcakefnpdaaPFnExecx13
namespace Go.Proofs.Ytgdafcakefnpdaa.PFnExec
open Go.RowKit Go.Proofs.YtgdafcakefnpdaaW.PrintWords Go.Proofs.YtgdafcakefnpdaaW.PrintLast Go.Proofs.YtgdafcakefnpdaaW.PrintMore
attribute [local go_sem] max2_int min2_int max_two min_two max_three min_three max_four min_four   -- for this text's walks alone
set_option linter.unusedVariables false
set_option linter.unusedSimpArgs false

/-! ### impl_ExecFresh: function 22 -/
mutual
def impl_ExecFresh.j0 : Nat → List (S46) → Bool → List (S48) → List (S36) → Int → Int → Option (Bool)
 | 0, _, _, _, _, _, _ => none
 | k + 1, x0, x14, x408000, x408001, x408002, x408003 => if x14 = true then (some false) else (impl_ExecFresh.l0 k x0 x408000 (x408000.length : Int) 0)
def impl_ExecFresh.l0 : Nat → List (S46) → List (S48) → Int → Int → Option (Bool)
 | 0, _, _, _, _ => none
 | k + 1, x0, x16, x17, x18 => if x18 < x17 then (if 0 ≤ x18 then (if x18 < (x16.length : Int) then (if 0 ≤ ((rd_T48 x16 x18).f0) then (if ((rd_T48 x16 x18).f0) < (x0.length : Int) then (if ((rd_T46 x0 ((rd_T48 x16 x18).f0)).f0) = ((rd_T48 x16 x18).f1) then (impl_ExecFresh.l0 k x0 x16 x17 (wrap64 (x18 + 1))) else (some false)) else (none)) else (none)) else (none)) else (none)) else (some true)
end
def impl_ExecFresh.f (k : Nat) (l0 : List (S46)) (l1_0 : List (S48)) (l1_1 : List (S36)) (a1_2 : Int) (a1_3 : Int) : Option (Bool) := (impl_BoxOk.f k l0).bind fun t408 => (if t408 = true then ((impl_ExecOk.f k l1_0 l1_1 a1_2 a1_3).bind fun t409 => (impl_ExecFresh.j0 k l0 (!t409) l1_0 l1_1 a1_2 a1_3)) else (impl_ExecFresh.j0 k l0 true l1_0 l1_1 a1_2 a1_3))
theorem impl_ExecFresh.mono_l : ∀ k, (∀ y0 y1 y2 y3 y4 y5, LeO (impl_ExecFresh.j0 k y0 y1 y2 y3 y4 y5) (impl_ExecFresh.j0 (k + 1) y0 y1 y2 y3 y4 y5)) ∧ (∀ y0 y1 y2 y3, LeO (impl_ExecFresh.l0 k y0 y1 y2 y3) (impl_ExecFresh.l0 (k + 1) y0 y1 y2 y3))
 | 0 => ⟨fun _ _ _ _ _ _ r h => by simp [impl_ExecFresh.j0] at h, fun _ _ _ _ r h => by simp [impl_ExecFresh.l0] at h⟩
 | k + 1 => by
  obtain ⟨H0, H1⟩ := impl_ExecFresh.mono_l k
  refine ⟨?_, ?_⟩
  ·intro y0 y1 y2 y3 y4 y5
   unfold impl_ExecFresh.j0
   repeat' first
   | (with_reducible exact H0 _ _ _ _ _ _)
   | (with_reducible exact H1 _ _ _ _)
   | (with_reducible exact impl_BoxOk.mono _ _)
   | (with_reducible exact impl_ExecOk.mono _ _ _ _ _)
   | (with_reducible exact LeO.refl _)
   | (with_reducible exact LeO.none _)
   | (with_reducible refine LeO.ite ?_ ?_)
   | (with_reducible refine LeO.bind ?_ (fun _ => ?_))
   | exact H0 _ _ _ _ _ _
   | exact H1 _ _ _ _
   | exact impl_BoxOk.mono _ _
   | exact impl_ExecOk.mono _ _ _ _ _
   | exact LeO.none _
   | refine LeO.ite ?_ ?_
   | refine LeO.bind ?_ (fun _ => ?_)
  ·intro y0 y1 y2 y3
   unfold impl_ExecFresh.l0
   repeat' first
   | (with_reducible exact H0 _ _ _ _ _ _)
   | (with_reducible exact H1 _ _ _ _)
   | (with_reducible exact impl_BoxOk.mono _ _)
   | (with_reducible exact impl_ExecOk.mono _ _ _ _ _)
   | (with_reducible exact LeO.refl _)
   | (with_reducible exact LeO.none _)
   | (with_reducible refine LeO.ite ?_ ?_)
   | (with_reducible refine LeO.bind ?_ (fun _ => ?_))
   | exact H0 _ _ _ _ _ _
   | exact H1 _ _ _ _
   | exact impl_BoxOk.mono _ _
   | exact impl_ExecOk.mono _ _ _ _ _
   | exact LeO.none _
   | refine LeO.ite ?_ ?_
   | refine LeO.bind ?_ (fun _ => ?_)
theorem impl_ExecFresh.mono : ∀ a0 a1 a2 a3 a4 k, LeO (impl_ExecFresh.f k a0 a1 a2 a3 a4) (impl_ExecFresh.f (k + 1) a0 a1 a2 a3 a4) := by
 intro a0 a1 a2 a3 a4 k
 obtain ⟨H0, H1⟩ := impl_ExecFresh.mono_l k
 unfold impl_ExecFresh.f
 repeat' first
   | (with_reducible exact H0 _ _ _ _ _ _)
   | (with_reducible exact H1 _ _ _ _)
   | (with_reducible exact impl_BoxOk.mono _ _)
   | (with_reducible exact impl_ExecOk.mono _ _ _ _ _)
   | (with_reducible exact LeO.refl _)
   | (with_reducible exact LeO.none _)
   | (with_reducible refine LeO.ite ?_ ?_)
   | (with_reducible refine LeO.bind ?_ (fun _ => ?_))
   | exact H0 _ _ _ _ _ _
   | exact H1 _ _ _ _
   | exact impl_BoxOk.mono _ _
   | exact impl_ExecOk.mono _ _ _ _ _
   | exact LeO.none _
   | refine LeO.ite ?_ ?_
   | refine LeO.bind ?_ (fun _ => ?_)
set_option maxHeartbeats 8000000 in
set_option maxRecDepth 100000 in
theorem impl_ExecFresh.calls (k : Nat) (A0 : Option Addr) (c0 : Nat) (l0 : List (S46)) (P0 : Option Addr) (J0 : Nat) (n0 : List (S48)) (P1 : Option Addr) (J1 : Nat) (n1 : List (S36)) (g0 : Int) (g1 : Int) (r : Bool) (w : World) (Y0 : Kd.C k46 w A0 l0.length l0) (ac0 : l0.length ≤ c0) (ay0 : Kd.C k48 w P0 n0.length n0) (az0 : n0.length ≤ J0) (ay1 : Kd.C k36 w P1 n1.length n1) (az1 : n1.length ≤ J1) (h : impl_ExecFresh.f k l0 n0 n1 g0 g1 = some r) :
  Calls Try.prog 22 #[.slice A0 l0.length c0, .agg #[.slice P0 n0.length J0, .slice P1 n1.length J1, .int .i64 g0, .int .i64 g1]] w fun e w' => e = .returned (.bool r) ∧ Below w.heap.size w w' := by
 have ap0 := Try.underlying30; have ap1 := Try.underlying48; have V0 := Aside0.mk Y0; have ae0 := Aside0.mk ac0; clear Y0 ac0; have an0 := Aside0.mk ay0; have aD0 := Aside0.mk az0; clear ay0 az0; have an1 := Aside0.mk ay1; have aD1 := Aside0.mk az1; clear ay1 az1; have HB := Aside0.mk (Below.refl w.heap.size w); have H : ((impl_BoxOk.f k l0).bind fun e0 => (if e0 = true then ((impl_ExecOk.f k n0 n1 g0 g1).bind fun e1 => (impl_ExecFresh.j0 k l0 (!e1) n0 n1 g0 g1)) else (impl_ExecFresh.j0 k l0 true n0 n1 g0 g1))) = some r := h; clear h; have ae1 := Aside0.mk H; clear H
 go_enter Try.func22, Try.ntmps22
 go_upto_region 1 with (first | ((with_reducible refine gate_dst (N := 3) rfl ?_); refine bxe_ (N := 3) (cs := #[.slice P0 n0.length J0, .slice P1 n1.length J1, .int .i64 g0, .int .i64 g1]) (t := 30) ?_; intro c3 hg w4 y hb; have n_ := A4_ (below_step zq6c_ hb) (y) ((zqa8_ : w.heap.size ≤ c3)) ((zqa8_ : w.heap.size ≤ c3)); clear HB; obtain ⟨HB, b0, x0, l1⟩ := n_; clear hb y hg))
 repeat (go_quiet (first | ((with_reducible refine gate_dst (N := 3) rfl ?_); refine bxe_ (N := 3) (cs := #[.slice P0 n0.length J0, .slice P1 n1.length J1, .int .i64 g0, .int .i64 g1]) (t := 30) ?_; intro c3 hg w4 y hb; have n_ := A4_ (below_step zq6c_ hb) (y) ((zqa8_ : w.heap.size ≤ c3)) ((zqa8_ : w.heap.size ≤ c3)); clear HB; obtain ⟨HB, b0, x0, l1⟩ := n_; clear hb y hg)); go_upto_region 1 with (first | ((with_reducible refine gate_dst (N := 3) rfl ?_); refine bxe_ (N := 3) (cs := #[.slice P0 n0.length J0, .slice P1 n1.length J1, .int .i64 g0, .int .i64 g1]) (t := 30) ?_; intro c3 hg w4 y hb; have n_ := A4_ (below_step zq6c_ hb) (y) ((zqa8_ : w.heap.size ≤ c3)) ((zqa8_ : w.heap.size ≤ c3)); clear HB; obtain ⟨HB, b0, x0, l1⟩ := n_; clear hb y hg)))
 (try simp only [Act.put, List.setIfInBounds_toArray, List.set_cons_zero, List.set_cons_succ])
 go_cut [14] (fun X0 wc => ∃ (kq : Nat) (a0 : Bool), X0 = .bool a0 ∧ Aside0 (impl_ExecFresh.j0 kq l0 a0 n0 n1 g0 g1 = some r) ∧ Aside0 (kq ≤ k) ∧ Aside0 (wc.heap[c3]? = some (.cells #[(.slice P0 n0.length J0), (.slice P1 n1.length J1), .int .i64 g0, .int .i64 g1] 30 (0, 0))) ∧ Aside0 (Below w.heap.size w wc))
 case first =>
  have H := ae1.out; clear ae1; replace H := bs_ H; obtain ⟨e0, A5, H⟩ := H; (try dsimp only at H); replace H := ifB_ H
  rcases H with ⟨rfl, H⟩ | ⟨rfl, H⟩
  ·replace H := bs_ H; obtain ⟨e1, A7, H⟩ := H; (try dsimp only at H); have H' := Aside0.mk H; clear H
   go_wp2_with (first | (go_at_call 25; (with_reducible refine (impl_BoxOk.calls k _ _ l0 true _ ?_ ?_ A5.out).mono ?_); exact zq7b_; exact ae0.out; rintro e w8 ⟨rfl, hb⟩; have n_ := A2_ (blk_below (g := c3) (o := .cells #[.slice P0 n0.length J0, .slice P1 n1.length J1, .int .i64 g0, .int .i64 g1] 30 (0, 0)) zq25_ hb) (below_step zq67_ hb); clear b0 HB; obtain ⟨b0, HB⟩ := n_; (try clear hb); (try clear A5); obtain ⟨h0, h1, h2, h3, i0, i1, i2, i3⟩ := bz4_ b0.out) | (go_at_call 20; (with_reducible refine (impl_ExecOk.calls k _ _ n0 _ _ n1 g0 g1 e1 _ ?_ ?_ ?_ ?_ A7.out).mono ?_); exact zq7c_; exact aD0.out; exact zq7d_; exact aD1.out; rintro e r0 ⟨rfl, hb⟩; have n_ := A2_ (blk_below (g := c3) (o := .cells #[.slice P0 n0.length J0, .slice P1 n1.length J1, .int .i64 g0, .int .i64 g1] 30 (0, 0)) zq25_ hb) (below_step zq67_ hb); clear b0 HB; obtain ⟨b0, HB⟩ := n_; (try clear hb); (try clear A7)))
   repeat (go_quiet (first | (go_at_call 25; (with_reducible refine (impl_BoxOk.calls k _ _ l0 true _ ?_ ?_ A5.out).mono ?_); exact zq7b_; exact ae0.out; rintro e w8 ⟨rfl, hb⟩; have n_ := A2_ (blk_below (g := c3) (o := .cells #[.slice P0 n0.length J0, .slice P1 n1.length J1, .int .i64 g0, .int .i64 g1] 30 (0, 0)) zq25_ hb) (below_step zq67_ hb); clear b0 HB; obtain ⟨b0, HB⟩ := n_; (try clear hb); (try clear A5); obtain ⟨h0, h1, h2, h3, i0, i1, i2, i3⟩ := bz4_ b0.out) | (go_at_call 20; (with_reducible refine (impl_ExecOk.calls k _ _ n0 _ _ n1 g0 g1 e1 _ ?_ ?_ ?_ ?_ A7.out).mono ?_); exact zq7c_; exact aD0.out; exact zq7d_; exact aD1.out; rintro e r0 ⟨rfl, hb⟩; have n_ := A2_ (blk_below (g := c3) (o := .cells #[.slice P0 n0.length J0, .slice P1 n1.length J1, .int .i64 g0, .int .i64 g1] 30 (0, 0)) zq25_ hb) (below_step zq67_ hb); clear b0 HB; obtain ⟨b0, HB⟩ := n_; (try clear hb); (try clear A7))); try go_wp2_with (first | (go_at_call 25; (with_reducible refine (impl_BoxOk.calls k _ _ l0 true _ ?_ ?_ A5.out).mono ?_); exact zq7b_; exact ae0.out; rintro e w8 ⟨rfl, hb⟩; have n_ := A2_ (blk_below (g := c3) (o := .cells #[.slice P0 n0.length J0, .slice P1 n1.length J1, .int .i64 g0, .int .i64 g1] 30 (0, 0)) zq25_ hb) (below_step zq67_ hb); clear b0 HB; obtain ⟨b0, HB⟩ := n_; (try clear hb); (try clear A5); obtain ⟨h0, h1, h2, h3, i0, i1, i2, i3⟩ := bz4_ b0.out) | (go_at_call 20; (with_reducible refine (impl_ExecOk.calls k _ _ n0 _ _ n1 g0 g1 e1 _ ?_ ?_ ?_ ?_ A7.out).mono ?_); exact zq7c_; exact aD0.out; exact zq7d_; exact aD1.out; rintro e r0 ⟨rfl, hb⟩; have n_ := A2_ (blk_below (g := c3) (o := .cells #[.slice P0 n0.length J0, .slice P1 n1.length J1, .int .i64 g0, .int .i64 g1] 30 (0, 0)) zq25_ hb) (below_step zq67_ hb); clear b0 HB; obtain ⟨b0, HB⟩ := n_; (try clear hb); (try clear A7))))
   go_meet
   case rel => exact ⟨_, (!e1), zq5a_, H', ⟨zq58_⟩, ⟨zq25_⟩, ⟨zq67_⟩⟩
  ·have H' := Aside0.mk H; clear H
   go_wp2_with (first | (go_at_call 25; (with_reducible refine (impl_BoxOk.calls k _ _ l0 false _ ?_ ?_ A5.out).mono ?_); exact zq7b_; exact ae0.out; rintro e r0 ⟨rfl, hb⟩; have n_ := A2_ (blk_below (g := c3) (o := .cells #[.slice P0 n0.length J0, .slice P1 n1.length J1, .int .i64 g0, .int .i64 g1] 30 (0, 0)) zq25_ hb) (below_step zq67_ hb); clear b0 HB; obtain ⟨b0, HB⟩ := n_; (try clear hb); (try clear A5)))
   repeat (go_quiet (first | (go_at_call 25; (with_reducible refine (impl_BoxOk.calls k _ _ l0 false _ ?_ ?_ A5.out).mono ?_); exact zq7b_; exact ae0.out; rintro e r0 ⟨rfl, hb⟩; have n_ := A2_ (blk_below (g := c3) (o := .cells #[.slice P0 n0.length J0, .slice P1 n1.length J1, .int .i64 g0, .int .i64 g1] 30 (0, 0)) zq25_ hb) (below_step zq67_ hb); clear b0 HB; obtain ⟨b0, HB⟩ := n_; (try clear hb); (try clear A5))); try go_wp2_with (first | (go_at_call 25; (with_reducible refine (impl_BoxOk.calls k _ _ l0 false _ ?_ ?_ A5.out).mono ?_); exact zq7b_; exact ae0.out; rintro e r0 ⟨rfl, hb⟩; have n_ := A2_ (blk_below (g := c3) (o := .cells #[.slice P0 n0.length J0, .slice P1 n1.length J1, .int .i64 g0, .int .i64 g1] 30 (0, 0)) zq25_ hb) (below_step zq67_ hb); clear b0 HB; obtain ⟨b0, HB⟩ := n_; (try clear hb); (try clear A5))))
   go_meet
   case rel => exact ⟨_, (true), zq5a_, H', ⟨zq58_⟩, ⟨zq25_⟩, ⟨zq67_⟩⟩
 case rest =>
  clear ae1
  try clear c1
  try clear c2
  try clear p2
  try clear c6
  try clear h0 h1 h2 h3 i0 i1 i2 i3
  obtain ⟨kq, a0, rfl, HA, am0, b0, HB⟩ := hcut
  cases kq with
  | zero => exact absurd HA.out (by simp [impl_ExecFresh.j0])
  | succ kj2 =>
   have H := HA.out; clear HA; simp only [impl_ExecFresh.j0] at H; replace H := ifB_ H
   rcases H with ⟨rfl, H⟩ | ⟨rfl, H⟩
   ·obtain rfl := Option.some.inj H
    go_wp2
    repeat (go_quiet (fail); try go_wp2)
    go_ret
    exact ⟨zq59_, zq67_⟩
   ·have H' := Aside0.mk H; clear H; obtain ⟨h4, h5, h6, h7, i4, i5, i6, i7⟩ := bz4_ b0.out
    go_wp2
    repeat (go_quiet (fail); try go_wp2)
    go_loopg [18] kj2 (fun kq X1 w' => ∃ (a1 : Int), X1 = .int .i64 a1 ∧ Aside0 (impl_ExecFresh.l0 kq l0 n0 (n0.length : Int) a1 = some r) ∧ Aside0 (kq ≤ kj2) ∧ Aside0 (w'.heap[c3]? = some (.cells #[(.slice P0 n0.length J0), (.slice P1 n1.length J1), .int .i64 g0, .int .i64 g1] 30 (0, 0))) ∧ Aside0 (Below w.heap.size w w'))
    case atStart => exact ⟨(0), zq5a_, H', ⟨Nat.le_refl _⟩, ⟨zq25_⟩, ⟨zq67_⟩⟩
    case round =>
     clear H'
     try clear c1
     try clear c2
     try clear p2
     try clear c6
     try clear c12
     try clear h4 h5 h6 h7 i4 i5 i6 i7
     try clear h0 h1 h2 h3 i0 i1 i2 i3
     try clear p2
     obtain ⟨a1, rfl, HA, Z0, b0, HB⟩ := hrel
     cases gk with
     | zero => exact absurd HA.out (by simp [impl_ExecFresh.l0])
     | succ k2 =>
      have H := HA.out; clear HA; simp only [impl_ExecFresh.l0] at H; replace H := ifc_ H
      rcases H with ⟨c14b0, H⟩ | ⟨c14b0, H⟩
      ·replace H := ifd4_ H; obtain ⟨s0, s1, s2, s3, H⟩ := H; by_cases v0 : ((rd_T46 l0 ((rd_T48 n0 a1).f0)).f0) = ((rd_T48 n0 a1).f1)
       ·rw [if_pos v0] at H; have s4 : (((rd_T46 l0 ((rd_T48 n0 a1).f0)).f0) == ((rd_T48 n0 a1).f1)) = true := beq_iff_eq.mpr v0; have s5 : (((rd_T46 l0 ((rd_T48 n0 a1).f0)).f0) != ((rd_T48 n0 a1).f1)) = false := bne_eq_false_iff_eq.mpr v0; clear v0; have H' := Aside0.mk H; clear H; have u0 : 0 ≤ (a1 : Int) := of_decide_eq_true zq55_; have t0 : a1 < (n0.length : Int) := of_decide_eq_true zq55_; obtain ⟨F0, Q0, q0, q1⟩ := at_T48 an0.out a1 u0 t0; cases Q0; replace q0 := pb_ HB.out q0; replace q1 := pb_ HB.out q1; replace u0 := eq_true u0; replace t0 := eq_true t0
        go_wp2_with (first | ((with_reducible refine gate_dst (N := 6) rfl ?_); refine bxe_ (N := 6) (cs := #[.int .i64 0, .int .i64 0]) (t := 48) ?_; intro c4 hg r0 y hb; have n_ := A7_ (blk_below (g := c3) (o := .cells #[.slice (some F0) n0.length J0, .slice P1 n1.length J1, .int .i64 g0, .int .i64 g1] 30 (0, 0)) zq25_ hb) (below_step zq67_ hb) (y) ((zqa4_ : w.heap.size ≤ c4)) ((zqa4_ : w.heap.size ≤ c4)) ((zqca_ : c3 ≠ c4)) ((zqb9_ : c4 ≠ c3)); clear b0 HB; obtain ⟨b0, HB, b1, x1, l2, f2, f3⟩ := n_; clear hb y hg; have N0 := f3.out; have O0 := f2.out; obtain ⟨h8, h9, i8, i9⟩ := bz2_ b1.out; have u1 : 0 ≤ (((rd_T48 n0 a1).f0) : Int) := of_decide_eq_true zq55_; have t1 : ((rd_T48 n0 a1).f0) < (l0.length : Int) := of_decide_eq_true zq55_; obtain ⟨F1, Q1, q2, q3⟩ := at_T46 V0.out ((rd_T48 n0 a1).f0) u1 t1; cases Q1; have z0 : F1.block ≠ c4 := Nat.ne_of_lt (Nat.lt_of_lt_of_le (by have := World.block_lt_of_cell? _ _ q2; first | rwa [add_block] at this | exact this) x1.out); have z1 : F1.block ≠ c4 := Nat.ne_of_lt (Nat.lt_of_lt_of_le (by have := World.block_lt_of_cell? _ _ q2; first | rwa [add_block] at this | exact this) x1.out); replace q2 := pb_ HB.out q2; replace q3 := pb_ HB.out q3; replace q2 := (cell_far (p := ⟨c4, 0, none⟩) zq4d_ (.int .i64 ((rd_T48 n0 a1).f0))).trans q2; replace q3 := (cell_far (p := ⟨c4, 0, none⟩) zq4d_ (.int .i64 ((rd_T48 n0 a1).f0))).trans q3; replace q2 := (cell_far (p := ⟨c4, 1, none⟩) zq4e_ (.int .i64 ((rd_T48 n0 a1).f1))).trans q2; replace q3 := (cell_far (p := ⟨c4, 1, none⟩) zq4e_ (.int .i64 ((rd_T48 n0 a1).f1))).trans q3; (try have aR0 := fun (n_ : Nat) => (show ((((r0.drewN n_).setCell ⟨c4, 0, none⟩ (.int .i64 ((rd_T48 n0 a1).f0))).setCell ⟨c4, 1, none⟩ (.int .i64 ((rd_T48 n0 a1).f1)))).cell? _ = some _ from q2)); (try have aR1 := fun (n_ : Nat) => (show ((((r0.drewN n_).setCell ⟨c4, 0, none⟩ (.int .i64 ((rd_T48 n0 a1).f0))).setCell ⟨c4, 1, none⟩ (.int .i64 ((rd_T48 n0 a1).f1)))).cell? _ = some _ from q3)); clear z0; clear z1; replace u1 := eq_true u1; replace t1 := eq_true t1))
        repeat (go_quiet (first | ((with_reducible refine gate_dst (N := 6) rfl ?_); refine bxe_ (N := 6) (cs := #[.int .i64 0, .int .i64 0]) (t := 48) ?_; intro c4 hg r0 y hb; have n_ := A7_ (blk_below (g := c3) (o := .cells #[.slice (some F0) n0.length J0, .slice P1 n1.length J1, .int .i64 g0, .int .i64 g1] 30 (0, 0)) zq25_ hb) (below_step zq67_ hb) (y) ((zqa4_ : w.heap.size ≤ c4)) ((zqa4_ : w.heap.size ≤ c4)) ((zqca_ : c3 ≠ c4)) ((zqb9_ : c4 ≠ c3)); clear b0 HB; obtain ⟨b0, HB, b1, x1, l2, f2, f3⟩ := n_; clear hb y hg; have N0 := f3.out; have O0 := f2.out; obtain ⟨h8, h9, i8, i9⟩ := bz2_ b1.out; have u1 : 0 ≤ (((rd_T48 n0 a1).f0) : Int) := of_decide_eq_true zq55_; have t1 : ((rd_T48 n0 a1).f0) < (l0.length : Int) := of_decide_eq_true zq55_; obtain ⟨F1, Q1, q2, q3⟩ := at_T46 V0.out ((rd_T48 n0 a1).f0) u1 t1; cases Q1; have z0 : F1.block ≠ c4 := Nat.ne_of_lt (Nat.lt_of_lt_of_le (by have := World.block_lt_of_cell? _ _ q2; first | rwa [add_block] at this | exact this) x1.out); have z1 : F1.block ≠ c4 := Nat.ne_of_lt (Nat.lt_of_lt_of_le (by have := World.block_lt_of_cell? _ _ q2; first | rwa [add_block] at this | exact this) x1.out); replace q2 := pb_ HB.out q2; replace q3 := pb_ HB.out q3; replace q2 := (cell_far (p := ⟨c4, 0, none⟩) zq4d_ (.int .i64 ((rd_T48 n0 a1).f0))).trans q2; replace q3 := (cell_far (p := ⟨c4, 0, none⟩) zq4d_ (.int .i64 ((rd_T48 n0 a1).f0))).trans q3; replace q2 := (cell_far (p := ⟨c4, 1, none⟩) zq4e_ (.int .i64 ((rd_T48 n0 a1).f1))).trans q2; replace q3 := (cell_far (p := ⟨c4, 1, none⟩) zq4e_ (.int .i64 ((rd_T48 n0 a1).f1))).trans q3; (try have aR0 := fun (n_ : Nat) => (show ((((r0.drewN n_).setCell ⟨c4, 0, none⟩ (.int .i64 ((rd_T48 n0 a1).f0))).setCell ⟨c4, 1, none⟩ (.int .i64 ((rd_T48 n0 a1).f1)))).cell? _ = some _ from q2)); (try have aR1 := fun (n_ : Nat) => (show ((((r0.drewN n_).setCell ⟨c4, 0, none⟩ (.int .i64 ((rd_T48 n0 a1).f0))).setCell ⟨c4, 1, none⟩ (.int .i64 ((rd_T48 n0 a1).f1)))).cell? _ = some _ from q3)); clear z0; clear z1; replace u1 := eq_true u1; replace t1 := eq_true t1)); try go_wp2_with (first | ((with_reducible refine gate_dst (N := 6) rfl ?_); refine bxe_ (N := 6) (cs := #[.int .i64 0, .int .i64 0]) (t := 48) ?_; intro c4 hg r0 y hb; have n_ := A7_ (blk_below (g := c3) (o := .cells #[.slice (some F0) n0.length J0, .slice P1 n1.length J1, .int .i64 g0, .int .i64 g1] 30 (0, 0)) zq25_ hb) (below_step zq67_ hb) (y) ((zqa4_ : w.heap.size ≤ c4)) ((zqa4_ : w.heap.size ≤ c4)) ((zqca_ : c3 ≠ c4)) ((zqb9_ : c4 ≠ c3)); clear b0 HB; obtain ⟨b0, HB, b1, x1, l2, f2, f3⟩ := n_; clear hb y hg; have N0 := f3.out; have O0 := f2.out; obtain ⟨h8, h9, i8, i9⟩ := bz2_ b1.out; have u1 : 0 ≤ (((rd_T48 n0 a1).f0) : Int) := of_decide_eq_true zq55_; have t1 : ((rd_T48 n0 a1).f0) < (l0.length : Int) := of_decide_eq_true zq55_; obtain ⟨F1, Q1, q2, q3⟩ := at_T46 V0.out ((rd_T48 n0 a1).f0) u1 t1; cases Q1; have z0 : F1.block ≠ c4 := Nat.ne_of_lt (Nat.lt_of_lt_of_le (by have := World.block_lt_of_cell? _ _ q2; first | rwa [add_block] at this | exact this) x1.out); have z1 : F1.block ≠ c4 := Nat.ne_of_lt (Nat.lt_of_lt_of_le (by have := World.block_lt_of_cell? _ _ q2; first | rwa [add_block] at this | exact this) x1.out); replace q2 := pb_ HB.out q2; replace q3 := pb_ HB.out q3; replace q2 := (cell_far (p := ⟨c4, 0, none⟩) zq4d_ (.int .i64 ((rd_T48 n0 a1).f0))).trans q2; replace q3 := (cell_far (p := ⟨c4, 0, none⟩) zq4d_ (.int .i64 ((rd_T48 n0 a1).f0))).trans q3; replace q2 := (cell_far (p := ⟨c4, 1, none⟩) zq4e_ (.int .i64 ((rd_T48 n0 a1).f1))).trans q2; replace q3 := (cell_far (p := ⟨c4, 1, none⟩) zq4e_ (.int .i64 ((rd_T48 n0 a1).f1))).trans q3; (try have aR0 := fun (n_ : Nat) => (show ((((r0.drewN n_).setCell ⟨c4, 0, none⟩ (.int .i64 ((rd_T48 n0 a1).f0))).setCell ⟨c4, 1, none⟩ (.int .i64 ((rd_T48 n0 a1).f1)))).cell? _ = some _ from q2)); (try have aR1 := fun (n_ : Nat) => (show ((((r0.drewN n_).setCell ⟨c4, 0, none⟩ (.int .i64 ((rd_T48 n0 a1).f0))).setCell ⟨c4, 1, none⟩ (.int .i64 ((rd_T48 n0 a1).f1)))).cell? _ = some _ from q3)); clear z0; clear z1; replace u1 := eq_true u1; replace t1 := eq_true t1)))
        go_roundg k2
        case measure => have := am0.out; have := Z0.out; omega
        case rel => exact ⟨(wrap64 (a1 + 1)), zq5a_, H', ⟨by have := am0.out; have := Z0.out; omega⟩, ⟨by (with_reducible repeat (first | refine blk_drewN ?_ _ | refine blk_drew ?_ | refine blk_alloc ?_ _)); refine blk_far ?_ f2.out _; (with_reducible repeat (first | refine blk_drewN ?_ _ | refine blk_drew ?_ | refine blk_alloc ?_ _)); refine blk_far ?_ f2.out _; (with_reducible repeat (first | refine blk_drewN ?_ _ | refine blk_drew ?_ | refine blk_alloc ?_ _)); exact b0.out⟩, ⟨zq63_⟩⟩
       ·rw [if_neg v0] at H; have s4 : (((rd_T46 l0 ((rd_T48 n0 a1).f0)).f0) == ((rd_T48 n0 a1).f1)) = false := beq_eq_false_iff_ne.mpr v0; have s5 : (((rd_T46 l0 ((rd_T48 n0 a1).f0)).f0) != ((rd_T48 n0 a1).f1)) = true := bne_iff_ne.mpr v0; obtain rfl := Option.some.inj H; have u0 : 0 ≤ (a1 : Int) := of_decide_eq_true zq55_; have t0 : a1 < (n0.length : Int) := of_decide_eq_true zq55_; obtain ⟨F0, Q0, q0, q1⟩ := at_T48 an0.out a1 u0 t0; cases Q0; replace q0 := pb_ HB.out q0; replace q1 := pb_ HB.out q1; replace u0 := eq_true u0; replace t0 := eq_true t0
        go_wp2_with (first | ((with_reducible refine gate_dst (N := 6) rfl ?_); refine bxe_ (N := 6) (cs := #[.int .i64 0, .int .i64 0]) (t := 48) ?_; intro c4 hg r0 y hb; have n_ := A7_ (blk_below (g := c3) (o := .cells #[.slice (some F0) n0.length J0, .slice P1 n1.length J1, .int .i64 g0, .int .i64 g1] 30 (0, 0)) zq25_ hb) (below_step zq67_ hb) (y) ((zqa4_ : w.heap.size ≤ c4)) ((zqa4_ : w.heap.size ≤ c4)) ((zqca_ : c3 ≠ c4)) ((zqb9_ : c4 ≠ c3)); clear b0 HB; obtain ⟨b0, HB, b1, x1, l2, f2, f3⟩ := n_; clear hb y hg; have N0 := f3.out; have O0 := f2.out; obtain ⟨h8, h9, i8, i9⟩ := bz2_ b1.out; have u1 : 0 ≤ (((rd_T48 n0 a1).f0) : Int) := of_decide_eq_true zq55_; have t1 : ((rd_T48 n0 a1).f0) < (l0.length : Int) := of_decide_eq_true zq55_; obtain ⟨F1, Q1, q2, q3⟩ := at_T46 V0.out ((rd_T48 n0 a1).f0) u1 t1; cases Q1; have z0 : F1.block ≠ c4 := Nat.ne_of_lt (Nat.lt_of_lt_of_le (by have := World.block_lt_of_cell? _ _ q2; first | rwa [add_block] at this | exact this) x1.out); have z1 : F1.block ≠ c4 := Nat.ne_of_lt (Nat.lt_of_lt_of_le (by have := World.block_lt_of_cell? _ _ q2; first | rwa [add_block] at this | exact this) x1.out); replace q2 := pb_ HB.out q2; replace q3 := pb_ HB.out q3; replace q2 := (cell_far (p := ⟨c4, 0, none⟩) zq4d_ (.int .i64 ((rd_T48 n0 a1).f0))).trans q2; replace q3 := (cell_far (p := ⟨c4, 0, none⟩) zq4d_ (.int .i64 ((rd_T48 n0 a1).f0))).trans q3; replace q2 := (cell_far (p := ⟨c4, 1, none⟩) zq4e_ (.int .i64 ((rd_T48 n0 a1).f1))).trans q2; replace q3 := (cell_far (p := ⟨c4, 1, none⟩) zq4e_ (.int .i64 ((rd_T48 n0 a1).f1))).trans q3; (try have aR0 := fun (n_ : Nat) => (show ((((r0.drewN n_).setCell ⟨c4, 0, none⟩ (.int .i64 ((rd_T48 n0 a1).f0))).setCell ⟨c4, 1, none⟩ (.int .i64 ((rd_T48 n0 a1).f1)))).cell? _ = some _ from q2)); (try have aR1 := fun (n_ : Nat) => (show ((((r0.drewN n_).setCell ⟨c4, 0, none⟩ (.int .i64 ((rd_T48 n0 a1).f0))).setCell ⟨c4, 1, none⟩ (.int .i64 ((rd_T48 n0 a1).f1)))).cell? _ = some _ from q3)); clear z0; clear z1; replace u1 := eq_true u1; replace t1 := eq_true t1))
        repeat (go_quiet (first | ((with_reducible refine gate_dst (N := 6) rfl ?_); refine bxe_ (N := 6) (cs := #[.int .i64 0, .int .i64 0]) (t := 48) ?_; intro c4 hg r0 y hb; have n_ := A7_ (blk_below (g := c3) (o := .cells #[.slice (some F0) n0.length J0, .slice P1 n1.length J1, .int .i64 g0, .int .i64 g1] 30 (0, 0)) zq25_ hb) (below_step zq67_ hb) (y) ((zqa4_ : w.heap.size ≤ c4)) ((zqa4_ : w.heap.size ≤ c4)) ((zqca_ : c3 ≠ c4)) ((zqb9_ : c4 ≠ c3)); clear b0 HB; obtain ⟨b0, HB, b1, x1, l2, f2, f3⟩ := n_; clear hb y hg; have N0 := f3.out; have O0 := f2.out; obtain ⟨h8, h9, i8, i9⟩ := bz2_ b1.out; have u1 : 0 ≤ (((rd_T48 n0 a1).f0) : Int) := of_decide_eq_true zq55_; have t1 : ((rd_T48 n0 a1).f0) < (l0.length : Int) := of_decide_eq_true zq55_; obtain ⟨F1, Q1, q2, q3⟩ := at_T46 V0.out ((rd_T48 n0 a1).f0) u1 t1; cases Q1; have z0 : F1.block ≠ c4 := Nat.ne_of_lt (Nat.lt_of_lt_of_le (by have := World.block_lt_of_cell? _ _ q2; first | rwa [add_block] at this | exact this) x1.out); have z1 : F1.block ≠ c4 := Nat.ne_of_lt (Nat.lt_of_lt_of_le (by have := World.block_lt_of_cell? _ _ q2; first | rwa [add_block] at this | exact this) x1.out); replace q2 := pb_ HB.out q2; replace q3 := pb_ HB.out q3; replace q2 := (cell_far (p := ⟨c4, 0, none⟩) zq4d_ (.int .i64 ((rd_T48 n0 a1).f0))).trans q2; replace q3 := (cell_far (p := ⟨c4, 0, none⟩) zq4d_ (.int .i64 ((rd_T48 n0 a1).f0))).trans q3; replace q2 := (cell_far (p := ⟨c4, 1, none⟩) zq4e_ (.int .i64 ((rd_T48 n0 a1).f1))).trans q2; replace q3 := (cell_far (p := ⟨c4, 1, none⟩) zq4e_ (.int .i64 ((rd_T48 n0 a1).f1))).trans q3; (try have aR0 := fun (n_ : Nat) => (show ((((r0.drewN n_).setCell ⟨c4, 0, none⟩ (.int .i64 ((rd_T48 n0 a1).f0))).setCell ⟨c4, 1, none⟩ (.int .i64 ((rd_T48 n0 a1).f1)))).cell? _ = some _ from q2)); (try have aR1 := fun (n_ : Nat) => (show ((((r0.drewN n_).setCell ⟨c4, 0, none⟩ (.int .i64 ((rd_T48 n0 a1).f0))).setCell ⟨c4, 1, none⟩ (.int .i64 ((rd_T48 n0 a1).f1)))).cell? _ = some _ from q3)); clear z0; clear z1; replace u1 := eq_true u1; replace t1 := eq_true t1)); try go_wp2_with (first | ((with_reducible refine gate_dst (N := 6) rfl ?_); refine bxe_ (N := 6) (cs := #[.int .i64 0, .int .i64 0]) (t := 48) ?_; intro c4 hg r0 y hb; have n_ := A7_ (blk_below (g := c3) (o := .cells #[.slice (some F0) n0.length J0, .slice P1 n1.length J1, .int .i64 g0, .int .i64 g1] 30 (0, 0)) zq25_ hb) (below_step zq67_ hb) (y) ((zqa4_ : w.heap.size ≤ c4)) ((zqa4_ : w.heap.size ≤ c4)) ((zqca_ : c3 ≠ c4)) ((zqb9_ : c4 ≠ c3)); clear b0 HB; obtain ⟨b0, HB, b1, x1, l2, f2, f3⟩ := n_; clear hb y hg; have N0 := f3.out; have O0 := f2.out; obtain ⟨h8, h9, i8, i9⟩ := bz2_ b1.out; have u1 : 0 ≤ (((rd_T48 n0 a1).f0) : Int) := of_decide_eq_true zq55_; have t1 : ((rd_T48 n0 a1).f0) < (l0.length : Int) := of_decide_eq_true zq55_; obtain ⟨F1, Q1, q2, q3⟩ := at_T46 V0.out ((rd_T48 n0 a1).f0) u1 t1; cases Q1; have z0 : F1.block ≠ c4 := Nat.ne_of_lt (Nat.lt_of_lt_of_le (by have := World.block_lt_of_cell? _ _ q2; first | rwa [add_block] at this | exact this) x1.out); have z1 : F1.block ≠ c4 := Nat.ne_of_lt (Nat.lt_of_lt_of_le (by have := World.block_lt_of_cell? _ _ q2; first | rwa [add_block] at this | exact this) x1.out); replace q2 := pb_ HB.out q2; replace q3 := pb_ HB.out q3; replace q2 := (cell_far (p := ⟨c4, 0, none⟩) zq4d_ (.int .i64 ((rd_T48 n0 a1).f0))).trans q2; replace q3 := (cell_far (p := ⟨c4, 0, none⟩) zq4d_ (.int .i64 ((rd_T48 n0 a1).f0))).trans q3; replace q2 := (cell_far (p := ⟨c4, 1, none⟩) zq4e_ (.int .i64 ((rd_T48 n0 a1).f1))).trans q2; replace q3 := (cell_far (p := ⟨c4, 1, none⟩) zq4e_ (.int .i64 ((rd_T48 n0 a1).f1))).trans q3; (try have aR0 := fun (n_ : Nat) => (show ((((r0.drewN n_).setCell ⟨c4, 0, none⟩ (.int .i64 ((rd_T48 n0 a1).f0))).setCell ⟨c4, 1, none⟩ (.int .i64 ((rd_T48 n0 a1).f1)))).cell? _ = some _ from q2)); (try have aR1 := fun (n_ : Nat) => (show ((((r0.drewN n_).setCell ⟨c4, 0, none⟩ (.int .i64 ((rd_T48 n0 a1).f0))).setCell ⟨c4, 1, none⟩ (.int .i64 ((rd_T48 n0 a1).f1)))).cell? _ = some _ from q3)); clear z0; clear z1; replace u1 := eq_true u1; replace t1 := eq_true t1)))
        go_ret
        exact ⟨zq59_, zq63_⟩
      ·obtain rfl := Option.some.inj H
       go_wp2
       repeat (go_quiet (fail); try go_wp2)
       go_ret
       exact ⟨zq59_, zq67_⟩

/-! ### impl_copied_int: function 90 -/
def impl_copied_int.f (l0 : List Int) : Option (List Int) := if l0.length ≤ 35184372088832 then some l0 else none
set_option maxHeartbeats 8000000 in
set_option maxRecDepth 100000 in
theorem impl_copied_int.calls (A0 : Option Addr) (c0 : Nat) (l0 : List Int) (r : List Int) (w : World) (Y0 : Kd.C (Kd.int .i64) w A0 l0.length l0) (ac0 : l0.length ≤ c0) (h : impl_copied_int.f l0 = some r) :
  Calls Try.prog 90 #[.slice A0 l0.length c0] w fun e w' => ∃ v0_ : Value, e = .returned (v0_) ∧ Kd.R (Kd.int .i64) 3 w' w.heap.size (fun _ => True) v0_ r ∧ Below w.heap.size w w' := by
 unfold impl_copied_int.f at h; by_cases bc : l0.length ≤ 35184372088832
 ·rw [if_pos bc] at h; obtain rfl := Option.some.inj h; clear h; have bq := Aside0.mk bc; by_cases aV0 : l0.length = 0
  ·obtain rfl : l0 = [] := List.eq_nil_of_length_eq_zero aV0; clear Y0 ac0 bc bq aV0
   go_enter Try.func90, Try.ntmps90
   go_wp2
   go_ret
   exact ⟨_, rfl, Kd.R_nil _ _ _ _ _, Below.refl _ _⟩
  ·have bm0 : ((l0.length : Int) == 0) = false := beq_eq_false_iff_ne.mpr (by omega); have bm1 : (l0.length == 0) = false := beq_eq_false_iff_ne.mpr aV0; have bD := Aside0.mk (Nat.pos_of_ne_zero aV0); have br0 : (0 : Int) ≤ (l0.length : Int) := Int.natCast_nonneg _; have bE := Aside0.mk Y0; have bV := Aside0.mk ac0; clear Y0 ac0 bc aV0
   go_enter Try.func90, Try.ntmps90
   go_wp2_with (first | ((with_reducible refine gate_dst (N := 9) rfl ?_); refine Kd.R_make (Kd.int .i64) _ 3 rfl (N := 9) rfl 52 _ _ rfl (l0.length : Int) rfl rfl Try.underlying52 (.int .i64 0) 8 info3 rfl (by decide) (by omega) 0 (ok := fun _ => True) (okp := fun _ => True) rfl (fun _ hk => hk) trivial (by omega) (by have := bq.out; omega) (Below.refl _ _) (Nat.le_refl _) ?_; intro X0 w2 E0 hb aq ar; clear aq ar; have bF := Aside0.mk E0; have bs := Aside0.mk hb; clear E0 hb) | ((with_reducible refine gate_dst (N := 12) rfl ?_); refine copy_event (Kd.int .i64) _ rfl (N := 12) rfl (.tmp 10) (.tmp 11) 52 52 3 rfl Try.underlying52 (by have h_ := info3; obtain ⟨i0, hi, bt⟩ := Option.map_eq_some_iff.1 h_; simp only [Prod.mk.injEq] at bt; rw [hi]; exact congrArg some bt.2.1) (by decide) _ _ l0 A0 c0 (fun _ => True) rfl rfl bF.out (Kd.C_below bE.out bs.out) (by simp) bD.out (fun w' x cs h_ w1 b1 o1 => h_) bs.out ?_; intro w3 E1 hb; have bG0 := Aside0.mk E1; have bH0 := Aside0.mk hb; clear E1 hb))
   go_ret
   exact ⟨_, rfl, bG0.out, bH0.out⟩
 ·rw [if_neg bc] at h; cases h

/-! ### impl_boxesOf: function 79 -/
def impl_boxesOf.l0 : Nat → List Int → Int → Bool → Bool → Bool → Bool → Option (List Int)
 | 0, _, _, _, _, _, _ => none
 | k + 1, x3, x7, x415000, x415001, x415002, x415003 => if x7 < 4 then (if 0 ≤ x7 then (if rdOf false [x415000, x415001, x415002, x415003] x7 = true then (if x3.length < 17592186044416 then (impl_boxesOf.l0 k (x3 ++ [x7]) (wrap64 (x7 + 1)) x415000 x415001 x415002 x415003) else (none)) else (impl_boxesOf.l0 k x3 (wrap64 (x7 + 1)) x415000 x415001 x415002 x415003)) else (none)) else ((impl_copied_int.f x3).bind fun t418 => (some t418))
def impl_boxesOf.f (k : Nat) (a0_0 : Bool) (a0_1 : Bool) (a0_2 : Bool) (a0_3 : Bool) : Option (List Int) := impl_boxesOf.l0 k ([] : List Int) 0 a0_0 a0_1 a0_2 a0_3
theorem impl_boxesOf.mono_l : ∀ k, (∀ y0 y1 y2 y3 y4 y5, LeO (impl_boxesOf.l0 k y0 y1 y2 y3 y4 y5) (impl_boxesOf.l0 (k + 1) y0 y1 y2 y3 y4 y5))
 | 0 => fun _ _ _ _ _ _ r h => by simp [impl_boxesOf.l0] at h
 | k + 1 => by
  have H0 := impl_boxesOf.mono_l k
  ·intro y0 y1 y2 y3 y4 y5
   unfold impl_boxesOf.l0
   repeat' first
   | (with_reducible exact H0 _ _ _ _ _ _)
   | (with_reducible exact LeO.refl _)
   | (with_reducible exact LeO.none _)
   | (with_reducible refine LeO.ite ?_ ?_)
   | (with_reducible refine LeO.bind ?_ (fun _ => ?_))
   | exact H0 _ _ _ _ _ _
   | exact LeO.none _
   | refine LeO.ite ?_ ?_
   | refine LeO.bind ?_ (fun _ => ?_)
theorem impl_boxesOf.mono : ∀ a0 a1 a2 a3 k, LeO (impl_boxesOf.f k a0 a1 a2 a3) (impl_boxesOf.f (k + 1) a0 a1 a2 a3) := by
 intro a0 a1 a2 a3 k
 have H0 := impl_boxesOf.mono_l k
 unfold impl_boxesOf.f
 repeat' first
   | (with_reducible exact H0 _ _ _ _ _ _)
   | (with_reducible exact LeO.refl _)
   | (with_reducible exact LeO.none _)
   | (with_reducible refine LeO.ite ?_ ?_)
   | (with_reducible refine LeO.bind ?_ (fun _ => ?_))
   | exact H0 _ _ _ _ _ _
   | exact LeO.none _
   | refine LeO.ite ?_ ?_
   | refine LeO.bind ?_ (fun _ => ?_)
set_option maxHeartbeats 8000000 in
set_option maxRecDepth 100000 in
theorem impl_boxesOf.calls (k : Nat) (g0 : Bool) (g1 : Bool) (g2 : Bool) (g3 : Bool) (r : List Int) (w : World) (h : impl_boxesOf.f k g0 g1 g2 g3 = some r) :
  Calls Try.prog 79 #[.agg #[.bool g0, .bool g1, .bool g2, .bool g3]] w fun e w' => ∃ v0_ : Value, e = .returned (v0_) ∧ Kd.R (Kd.int .i64) 3 w' w.heap.size (fun _ => True) v0_ r ∧ Below w.heap.size w w' := by
 have ap0 := Try.underlying51; have HB := Aside0.mk (Below.refl w.heap.size w); have H : (impl_boxesOf.l0 k ([] : List Int) 0 g0 g1 g2 g3) = some r := h; clear h; have H' := Aside0.mk H; clear H
 go_enter Try.func79, Try.ntmps79
 go_wp2_with (first | ((with_reducible refine gate_dst (N := 1) rfl ?_); refine bxe_ (N := 1) (cs := #[.bool g0, .bool g1, .bool g2, .bool g3]) (t := 51) ?_; intro c0 hg w2 y hb; have n_ := A4_ (below_step zq6c_ hb) (y) ((zqa8_ : w.heap.size ≤ c0)) ((zqa8_ : w.heap.size ≤ c0)); clear HB; obtain ⟨HB, b0, x0, l1⟩ := n_; clear hb y hg; obtain ⟨h0, h1, h2, h3, i0, i1, i2, i3⟩ := bz4_ b0.out))
 go_loopg [3, 7] k (fun kq v3 v7 w' => ∃ (a0 : List Int) (a1 : Int), v7 = .int .i64 a1 ∧ Aside0 (impl_boxesOf.l0 kq a0 a1 g0 g1 g2 g3 = some r) ∧ Aside0 (kq ≤ k) ∧ Aside0 (Kd.R (Kd.int .i64) 3 w' w.heap.size (fun _ => True) v3 a0) ∧ Aside0 (w'.heap[c0]? = some (.cells #[.bool g0, .bool g1, .bool g2, .bool g3] 51 (0, 0))) ∧ Aside0 (Below w.heap.size w w'))
 case atStart => exact ⟨(([] : List Int)), (0), zq5a_, H', ⟨Nat.le_refl _⟩, ⟨zq56_⟩, ⟨zq25_⟩, ⟨zq67_⟩⟩
 case round =>
  clear H'
  try clear p2
  try clear h0 h1 h2 h3 i0 i1 i2 i3
  obtain ⟨a0, a1, rfl, HA, Z0, k0, b0, HB⟩ := hrel
  cases gk with
  | zero => exact absurd HA.out (by simp [impl_boxesOf.l0])
  | succ k1 =>
   have H := HA.out; clear HA; simp only [impl_boxesOf.l0] at H; replace H := ifc_ H
   rcases H with ⟨c4b0, H⟩ | ⟨c4b0, H⟩
   ·replace H := ifd_ H; obtain ⟨s0, H⟩ := H; obtain ⟨bv0, bh0⟩ : ∃ b_ : Bool, b_ = (rdOf false [g0, g1, g2, g3] a1) := ⟨_, rfl⟩; replace H : (if bv0 = true then (if a0.length < 17592186044416 then (impl_boxesOf.l0 k1 (a0 ++ [a1]) (wrap64 (a1 + 1)) g0 g1 g2 g3) else (none)) else (impl_boxesOf.l0 k1 a0 (wrap64 (a1 + 1)) g0 g1 g2 g3)) = some r := by rw [← bh0] at H; exact H
    have bi0 := Aside0.mk bh0; clear bh0; replace H := ifB_ H
    rcases H with ⟨rfl, H⟩ | ⟨rfl, H⟩
    ·replace H := ifp_ H; obtain ⟨c8, H⟩ := H; have bg0 := Aside0.mk c8; clear c8; obtain ⟨K0, M0⟩ : ∃ y_ : List Int, y_ = (a0 ++ [a1]) := ⟨_, rfl⟩; replace H : (impl_boxesOf.l0 k1 K0 (wrap64 (a1 + 1)) g0 g1 g2 g3) = some r := by first | (rw [M0]; with_reducible exact H) | (have T0 := (Option.bind_some _ _).symm.trans H; rw [M0]; with_reducible exact T0) | (have T0 := (Option.bind_some _ _).symm.trans H; with_reducible exact T0) | with_reducible exact H | (rw [M0]; exact H) | exact H
     have ad0 := Aside0.mk M0; clear M0; have H' := Aside0.mk H; clear H; have p9 : 0 ≤ a1 := of_decide_eq_true zq55_; have q9 : a1 < 4 := of_decide_eq_true zq55_; have bI0 := agxB4 (P := Try.prog) Try.underlying51 Try.underlying4 (by kernel_rfl) g0 g1 g2 g3 a1 p9 q9; replace p9 := eq_true p9; replace q9 := eq_true q9; (try rw [← bi0.out] at bI0)
     go_wp2_with (first | ((with_reducible refine gate_builtin (b := .append) (xs := #[.tmp 12, .tmp 14]) rfl ?_); at_builtin; refine Kd.R_append (Kd.int .i64) (w0 := w) w.heap.size rfl (.tmp 12) (.tmp 14) 52 3 (.int .i64 0) 8 rfl Try.underlying52 info3 rfl (by decide) (by omega) u3 a0 a1 [.int .i64 a1] (fun _ => True) (fun _ => False) rfl rfl ?aP (fun _ hk => hk.elim) ?aF ?aO ?aB ?aS ?aL ?_; (case aP => exact rfl); (case aB => exact zq67_); (case aF => exact (fun _ _ => trivial)); (case aO => exact zq1f_); (case aS => exact (below_size zq67_)); (case aL => have := bg0.out; omega); intro X0 r0 ho hb hg bf; rw [← ad0.out] at ho; have n_ := A3_ (blk_grown (g := c0) (o := .cells #[.bool g0, .bool g1, .bool g2, .bool g3] 51 (0, 0)) zq25_ hg (Kd.R_ne k0.out b0.out (by decide))) (hb) (ho); clear b0 HB k0; obtain ⟨b0, HB, j0⟩ := n_; clear ho hb hg bf))
     go_roundg k1
     case measure => have := Z0.out; omega
     case rel => exact ⟨(K0), (wrap64 (a1 + 1)), zq5a_, H', ⟨by have := Z0.out; omega⟩, ⟨zq14_⟩, ⟨zq25_⟩, ⟨zq67_⟩⟩
    ·have H' := Aside0.mk H; clear H; have u0 : 0 ≤ a1 := of_decide_eq_true zq55_; have t0 : a1 < 4 := of_decide_eq_true zq55_; have bI0 := agxB4 (P := Try.prog) Try.underlying51 Try.underlying4 (by kernel_rfl) g0 g1 g2 g3 a1 u0 t0; replace u0 := eq_true u0; replace t0 := eq_true t0; (try rw [← bi0.out] at bI0)
     go_wp2
     go_roundg k1
     case measure => have := Z0.out; omega
     case rel => exact ⟨(a0), (wrap64 (a1 + 1)), zq5a_, H', ⟨by have := Z0.out; omega⟩, ⟨zq1f_⟩, ⟨zq25_⟩, ⟨zq67_⟩⟩
   ·replace H := bs_ H; obtain ⟨e0, B0, H⟩ := H; (try dsimp only at H); obtain rfl := Option.some.inj H; obtain ⟨o0, m0, D0⟩ := Kd.R_slice k0.out; subst D0
    go_wp2_with (first | ((with_reducible refine gate_callee (f := 90) rfl ?_); refine gl_ 18 Try.func90 #[.slice o0 a0.length m0] ?_; (with_reducible refine (impl_copied_int.calls _ _ a0 e0 _ ?_ ?_ B0.out).mono ?_); exact zq87_; exact zq49_; rintro e r0 ⟨X0, rfl, E0, hb⟩; refine ⟨_, rfl, ?_⟩; have n_ := A4_ (Kd.R_elder' zq1f_ (Kd.R_base E0) hb) (Kd.R_lower (Kd.R_new' E0 (Kd.R_lt zq1f_)) (below_size zq67_)) (blk_below (g := c0) (o := .cells #[.bool g0, .bool g1, .bool g2, .bool g3] 51 (0, 0)) zq25_ hb) (below_step zq67_ hb); clear k0 b0 HB; obtain ⟨k0, j0, b0, HB⟩ := n_; (try clear hb); (try clear E0)))
    go_ret
    exact ⟨_, zq59_, by (with_reducible repeat (first | apply Kd.R_alloc | apply Kd.R_drewN | apply Kd.R_drew)); exact Kd.R_mono j0.out (fun _ hk => trivial), zq67_⟩

/-! ### impl_ProgLoads: function 27 -/
def impl_ProgLoads.l0 : Nat → List (S34) → Int → Int → Bool → Bool → Bool → Bool → Option (List Int)
 | 0, _, _, _, _, _, _, _ => none
 | k + 1, x6, x7, x8, x422000, x422001, x422002, x422003 => if x8 < x7 then (if 0 ≤ x8 then (if x8 < (x6.length : Int) then (if ((rd_T34 x6 x8).f0) = 1 then ((impl_in.f ((rd_T34 x6 x8).f2) 0 3).bind fun t424 => (if t424 = true then (if 0 ≤ ((rd_T34 x6 x8).f2) then (if ((rd_T34 x6 x8).f2) < 4 then (impl_ProgLoads.l0 k x6 x7 (wrap64 (x8 + 1)) (ixB ((rd_T34 x6 x8).f2) 0 true x422000) (ixB ((rd_T34 x6 x8).f2) 1 true x422001) (ixB ((rd_T34 x6 x8).f2) 2 true x422002) (ixB ((rd_T34 x6 x8).f2) 3 true x422003)) else (none)) else (none)) else (impl_ProgLoads.l0 k x6 x7 (wrap64 (x8 + 1)) x422000 x422001 x422002 x422003))) else (impl_ProgLoads.l0 k x6 x7 (wrap64 (x8 + 1)) x422000 x422001 x422002 x422003)) else (none)) else (none)) else ((impl_boxesOf.f k x422000 x422001 x422002 x422003).bind fun t426 => (some t426))
def impl_ProgLoads.f (k : Nat) (l0 : List (S34)) : Option (List Int) := impl_ProgLoads.l0 k l0 (l0.length : Int) 0 false false false false
theorem impl_ProgLoads.mono_l : ∀ k, (∀ y0 y1 y2 y3 y4 y5 y6, LeO (impl_ProgLoads.l0 k y0 y1 y2 y3 y4 y5 y6) (impl_ProgLoads.l0 (k + 1) y0 y1 y2 y3 y4 y5 y6))
 | 0 => fun _ _ _ _ _ _ _ r h => by simp [impl_ProgLoads.l0] at h
 | k + 1 => by
  have H0 := impl_ProgLoads.mono_l k
  ·intro y0 y1 y2 y3 y4 y5 y6
   unfold impl_ProgLoads.l0
   repeat' first
   | (with_reducible exact H0 _ _ _ _ _ _ _)
   | (with_reducible exact impl_boxesOf.mono _ _ _ _ _)
   | (with_reducible exact LeO.refl _)
   | (with_reducible exact LeO.none _)
   | (with_reducible refine LeO.ite ?_ ?_)
   | (with_reducible refine LeO.bind ?_ (fun _ => ?_))
   | exact H0 _ _ _ _ _ _ _
   | exact impl_boxesOf.mono _ _ _ _ _
   | exact LeO.none _
   | refine LeO.ite ?_ ?_
   | refine LeO.bind ?_ (fun _ => ?_)
theorem impl_ProgLoads.mono : ∀ a0 k, LeO (impl_ProgLoads.f k a0) (impl_ProgLoads.f (k + 1) a0) := by
 intro a0 k
 have H0 := impl_ProgLoads.mono_l k
 unfold impl_ProgLoads.f
 repeat' first
   | (with_reducible exact H0 _ _ _ _ _ _ _)
   | (with_reducible exact impl_boxesOf.mono _ _ _ _ _)
   | (with_reducible exact LeO.refl _)
   | (with_reducible exact LeO.none _)
   | (with_reducible refine LeO.ite ?_ ?_)
   | (with_reducible refine LeO.bind ?_ (fun _ => ?_))
   | exact H0 _ _ _ _ _ _ _
   | exact impl_boxesOf.mono _ _ _ _ _
   | exact LeO.none _
   | refine LeO.ite ?_ ?_
   | refine LeO.bind ?_ (fun _ => ?_)
set_option maxHeartbeats 8000000 in
set_option maxRecDepth 100000 in
theorem impl_ProgLoads.calls (k : Nat) (A0 : Option Addr) (c0 : Nat) (l0 : List (S34)) (r : List Int) (w : World) (Y0 : Kd.C k34 w A0 l0.length l0) (ac0 : l0.length ≤ c0) (h : impl_ProgLoads.f k l0 = some r) :
  Calls Try.prog 27 #[.slice A0 l0.length c0] w fun e w' => ∃ v0_ : Value, e = .returned (v0_) ∧ Kd.R (Kd.int .i64) 3 w' w.heap.size (fun _ => True) v0_ r ∧ Below w.heap.size w w' := by
 have ap0 := Try.underlying51; have ap1 := Try.underlying34; have V0 := Aside0.mk Y0; have ae0 := Aside0.mk ac0; clear Y0 ac0; have HB := Aside0.mk (Below.refl w.heap.size w); have H : (impl_ProgLoads.l0 k l0 (l0.length : Int) 0 false false false false) = some r := h; clear h; have H' := Aside0.mk H; clear H
 go_enter Try.func27, Try.ntmps27
 go_wp2_with (first | ((with_reducible refine gate_dst (N := 3) rfl ?_); refine bxe_ (N := 3) (cs := #[.bool false, .bool false, .bool false, .bool false]) (t := 51) ?_; intro c1 hg w2 y hb; have n_ := A4_ (below_step zq6c_ hb) (y) ((zqa8_ : w.heap.size ≤ c1)) ((zqa8_ : w.heap.size ≤ c1)); clear HB; obtain ⟨HB, b0, x0, l1⟩ := n_; clear hb y hg))
 go_loopg [8] k (fun kq v8 w' => ∃ (a0 : Int) (a1 : Bool) (a2 : Bool) (a3 : Bool) (a4 : Bool), v8 = .int .i64 a0 ∧ Aside0 (impl_ProgLoads.l0 kq l0 (l0.length : Int) a0 a1 a2 a3 a4 = some r) ∧ Aside0 (kq ≤ k) ∧ Aside0 (w'.heap[c1]? = some (.cells #[.bool a1, .bool a2, .bool a3, .bool a4] 51 (0, 0))) ∧ Aside0 (Below w.heap.size w w'))
 case atStart => exact ⟨(0), (false), (false), (false), (false), zq5a_, H', ⟨Nat.le_refl _⟩, ⟨zq25_⟩, ⟨zq67_⟩⟩
 case round =>
  clear H'
  try clear c2
  try clear p2
  obtain ⟨a0, a1, a2, a3, a4, rfl, HA, Z0, b0, HB⟩ := hrel
  cases gk with
  | zero => exact absurd HA.out (by simp [impl_ProgLoads.l0])
  | succ k1 =>
   have H := HA.out; clear HA; simp only [impl_ProgLoads.l0] at H; replace H := ifc_ H
   rcases H with ⟨c3b0, H⟩ | ⟨c3b0, H⟩
   ·replace H := ifd2_ H; obtain ⟨s0, s1, H⟩ := H; by_cases c6 : ((rd_T34 l0 a0).f0) = 1
    ·rw [if_pos c6] at H; have s2 : (((rd_T34 l0 a0).f0) == 1) = true := beq_iff_eq.mpr c6; have s3 : (((rd_T34 l0 a0).f0) != 1) = false := bne_eq_false_iff_eq.mpr c6; clear c6; replace H := bs_ H; obtain ⟨e0, A7, H⟩ := H; (try dsimp only at H); replace H := ifB_ H
     rcases H with ⟨rfl, H⟩ | ⟨rfl, H⟩
     ·replace H := ifd2_ H; obtain ⟨s4, s5, H⟩ := H; have H' := Aside0.mk H; clear H; have u0 : 0 ≤ (a0 : Int) := of_decide_eq_true zq55_; have t0 : a0 < (l0.length : Int) := of_decide_eq_true zq55_; obtain ⟨F0, Q0, q0, q1, q2, q3⟩ := at_T34 V0.out a0 u0 t0; cases Q0; replace q0 := pb_ HB.out q0; replace q1 := pb_ HB.out q1; replace q2 := pb_ HB.out q2; replace q3 := pb_ HB.out q3; replace u0 := eq_true u0; replace t0 := eq_true t0
      go_wp2_with (first | ((with_reducible refine gate_dst (N := 5) rfl ?_); refine bxe_ (N := 5) (cs := #[.int .i64 0, .int .i64 0, .int .i64 0, .int .i64 0]) (t := 34) ?_; intro c3 hg r0 y hb; have n_ := A7_ (blk_below (g := c1) (o := .cells #[.bool a1, .bool a2, .bool a3, .bool a4] 51 (0, 0)) zq25_ hb) (below_step zq67_ hb) (y) ((zqa4_ : w.heap.size ≤ c3)) ((zqa4_ : w.heap.size ≤ c3)) ((zqc3_ : c1 ≠ c3)) ((zqb2_ : c3 ≠ c1)); clear b0 HB; obtain ⟨b0, HB, b1, x1, l2, f4, f5⟩ := n_; clear hb y hg; have N0 := f5.out; have O0 := f4.out; obtain ⟨h0, h1, h2, h3, i0, i1, i2, i3⟩ := bz4_ b1.out) | (go_at_call 64; (with_reducible refine (impl_in.calls ((rd_T34 l0 a0).f2) 0 3 true _ A7.out).mono ?_); rintro e w' ⟨rfl, ⟨nd, rfl⟩⟩; (try clear A7); have aa0 : 0 ≤ ((rd_T34 l0 a0).f2) := of_decide_eq_true zq55_; have ab0 : ((rd_T34 l0 a0).f2) < 4 := of_decide_eq_true zq55_; have aC0 := ixcellB4 (w := r0) ((rd_T34 l0 a0).f2) aa0 ab0 b0.out; have aS0 := blk_frozen b0.out ((rd_T34 l0 a0).f2).toNat; have aH0 := eq_true aa0; have aI0 := eq_true ab0) | ((with_reducible refine gate_store (t := 4) (p := 22) rfl ?_); refine store_event (t := 4) (p := 22) (v := ?vo_w15) (w1 := ?wo_w15) ?hg ?ho ?hn ?hr ?_; (case ho => rfl); (case hg => rfl); (case hn => rfl); (case hr => first | (go_simp; done) | (go_simp; rfl)); intro r1 hw; have d0 : Aside0 (r1.heap[c1]? = some (.cells #[.bool (ixB ((rd_T34 l0 a0).f2) 0 true a1), .bool (ixB ((rd_T34 l0 a0).f2) 1 true a2), .bool (ixB ((rd_T34 l0 a0).f2) 2 true a3), .bool (ixB ((rd_T34 l0 a0).f2) 3 true a4)] 51 (0, 0))) := ⟨(by rw [hw]; exact (by (with_reducible repeat (first | refine blk_drewN ?_ _ | refine blk_drew ?_ | refine blk_alloc ?_ _)); refine blk_put (cs := #[.bool a1, .bool a2, .bool a3, .bool a4]) ?_ ((rd_T34 l0 a0).f2).toNat _ (ixputB4 ((rd_T34 l0 a0).f2) true a1 a2 a3 a4 aa0 ab0); (with_reducible repeat (first | refine blk_drewN ?_ _ | refine blk_drew ?_ | refine blk_alloc ?_ _)); refine blk_far ?_ f4.out _; (with_reducible repeat (first | refine blk_drewN ?_ _ | refine blk_drew ?_ | refine blk_alloc ?_ _)); refine blk_far ?_ f4.out _; (with_reducible repeat (first | refine blk_drewN ?_ _ | refine blk_drew ?_ | refine blk_alloc ?_ _)); refine blk_far ?_ f4.out _; (with_reducible repeat (first | refine blk_drewN ?_ _ | refine blk_drew ?_ | refine blk_alloc ?_ _)); refine blk_far ?_ f4.out _; (with_reducible repeat (first | refine blk_drewN ?_ _ | refine blk_drew ?_ | refine blk_alloc ?_ _)); exact b0.out))⟩; have d1 : Aside0 (r1.heap[c3]? = some (.cells #[.int .i64 ((rd_T34 l0 a0).f0), .int .i64 ((rd_T34 l0 a0).f1), .int .i64 ((rd_T34 l0 a0).f2), .int .i64 ((rd_T34 l0 a0).f3)] 34 (0, 0))) := ⟨(by rw [hw]; exact zq37_)⟩; have d2 : Aside0 (Below w.heap.size w r1) := ⟨(by rw [hw]; exact zq63_)⟩; clear hw; clear b0; clear b1; clear HB; have b0 := d0; have b1 := d1; have HB := d2; clear d0 d1 d2))
      go_roundg k1
      case measure => have := Z0.out; omega
      case rel => exact ⟨(wrap64 (a0 + 1)), ((ixB ((rd_T34 l0 a0).f2) 0 true a1)), ((ixB ((rd_T34 l0 a0).f2) 1 true a2)), ((ixB ((rd_T34 l0 a0).f2) 2 true a3)), ((ixB ((rd_T34 l0 a0).f2) 3 true a4)), zq5a_, H', ⟨by have := Z0.out; omega⟩, ⟨zq25_⟩, ⟨zq63_⟩⟩
     ·have H' := Aside0.mk H; clear H; have u0 : 0 ≤ (a0 : Int) := of_decide_eq_true zq55_; have t0 : a0 < (l0.length : Int) := of_decide_eq_true zq55_; obtain ⟨F0, Q0, q0, q1, q2, q3⟩ := at_T34 V0.out a0 u0 t0; cases Q0; replace q0 := pb_ HB.out q0; replace q1 := pb_ HB.out q1; replace q2 := pb_ HB.out q2; replace q3 := pb_ HB.out q3; replace u0 := eq_true u0; replace t0 := eq_true t0
      go_wp2_with (first | ((with_reducible refine gate_dst (N := 5) rfl ?_); refine bxe_ (N := 5) (cs := #[.int .i64 0, .int .i64 0, .int .i64 0, .int .i64 0]) (t := 34) ?_; intro c3 hg r0 y hb; have n_ := A7_ (blk_below (g := c1) (o := .cells #[.bool a1, .bool a2, .bool a3, .bool a4] 51 (0, 0)) zq25_ hb) (below_step zq67_ hb) (y) ((zqa4_ : w.heap.size ≤ c3)) ((zqa4_ : w.heap.size ≤ c3)) ((zqc3_ : c1 ≠ c3)) ((zqb2_ : c3 ≠ c1)); clear b0 HB; obtain ⟨b0, HB, b1, x1, l2, f4, f5⟩ := n_; clear hb y hg; have N0 := f5.out; have O0 := f4.out; obtain ⟨h0, h1, h2, h3, i0, i1, i2, i3⟩ := bz4_ b1.out) | (go_at_call 64; (with_reducible refine (impl_in.calls ((rd_T34 l0 a0).f2) 0 3 false _ A7.out).mono ?_); rintro e w' ⟨rfl, ⟨nd, rfl⟩⟩; (try clear A7)))
      go_roundg k1
      case measure => have := Z0.out; omega
      case rel => exact ⟨(wrap64 (a0 + 1)), (a1), (a2), (a3), (a4), zq5a_, H', ⟨by have := Z0.out; omega⟩, ⟨zq36_⟩, ⟨zq63_⟩⟩
    ·rw [if_neg c6] at H; have s2 : (((rd_T34 l0 a0).f0) == 1) = false := beq_eq_false_iff_ne.mpr c6; have s3 : (((rd_T34 l0 a0).f0) != 1) = true := bne_iff_ne.mpr c6; have H' := Aside0.mk H; clear H; have u0 : 0 ≤ (a0 : Int) := of_decide_eq_true zq55_; have t0 : a0 < (l0.length : Int) := of_decide_eq_true zq55_; obtain ⟨F0, Q0, q0, q1, q2, q3⟩ := at_T34 V0.out a0 u0 t0; cases Q0; replace q0 := pb_ HB.out q0; replace q1 := pb_ HB.out q1; replace q2 := pb_ HB.out q2; replace q3 := pb_ HB.out q3; replace u0 := eq_true u0; replace t0 := eq_true t0
     go_wp2_with (first | ((with_reducible refine gate_dst (N := 5) rfl ?_); refine bxe_ (N := 5) (cs := #[.int .i64 0, .int .i64 0, .int .i64 0, .int .i64 0]) (t := 34) ?_; intro c3 hg r0 y hb; have n_ := A7_ (blk_below (g := c1) (o := .cells #[.bool a1, .bool a2, .bool a3, .bool a4] 51 (0, 0)) zq25_ hb) (below_step zq67_ hb) (y) ((zqa4_ : w.heap.size ≤ c3)) ((zqa4_ : w.heap.size ≤ c3)) ((zqc3_ : c1 ≠ c3)) ((zqb2_ : c3 ≠ c1)); clear b0 HB; obtain ⟨b0, HB, b1, x1, l2, f4, f5⟩ := n_; clear hb y hg; have N0 := f5.out; have O0 := f4.out; obtain ⟨h0, h1, h2, h3, i0, i1, i2, i3⟩ := bz4_ b1.out))
     go_roundg k1
     case measure => have := Z0.out; omega
     case rel => exact ⟨(wrap64 (a0 + 1)), (a1), (a2), (a3), (a4), zq5a_, H', ⟨by have := Z0.out; omega⟩, ⟨zq36_⟩, ⟨zq63_⟩⟩
   ·replace H := bs_ H; obtain ⟨e0, B0, H⟩ := H; (try dsimp only at H); obtain rfl := Option.some.inj H; obtain ⟨h0, h1, h2, h3, i0, i1, i2, i3⟩ := bz4_ b0.out
    go_wp2_with (first | ((with_reducible refine gate_callee (f := 79) rfl ?_); refine gl_ 25 Try.func79 #[.agg #[.bool a1, .bool a2, .bool a3, .bool a4]] ?_; (with_reducible refine (impl_boxesOf.calls k1 a1 a2 a3 a4 e0 _ B0.out).mono ?_); rintro e r0 ⟨X0, rfl, E0, hb⟩; refine ⟨_, rfl, ?_⟩; have n_ := A3_ (Kd.R_lower E0 (below_size zq67_)) (blk_below (g := c1) (o := .cells #[.bool a1, .bool a2, .bool a3, .bool a4] 51 (0, 0)) zq25_ hb) (below_step zq67_ hb); clear b0 HB; obtain ⟨j0, b0, HB⟩ := n_; (try clear hb); (try clear E0)))
    go_ret
    exact ⟨_, zq59_, zq14_, zq67_⟩

/-! ### impl_ProgPuts: function 28 -/
def impl_ProgPuts.l0 : Nat → List (S34) → Int → Int → Bool → Bool → Bool → Bool → Option (List Int)
 | 0, _, _, _, _, _, _, _ => none
 | k + 1, x6, x7, x8, x430000, x430001, x430002, x430003 => if x8 < x7 then (if 0 ≤ x8 then (if x8 < (x6.length : Int) then (if ((rd_T34 x6 x8).f0) = 2 then ((impl_in.f ((rd_T34 x6 x8).f1) 0 3).bind fun t432 => (if t432 = true then (if 0 ≤ ((rd_T34 x6 x8).f1) then (if ((rd_T34 x6 x8).f1) < 4 then (impl_ProgPuts.l0 k x6 x7 (wrap64 (x8 + 1)) (ixB ((rd_T34 x6 x8).f1) 0 true x430000) (ixB ((rd_T34 x6 x8).f1) 1 true x430001) (ixB ((rd_T34 x6 x8).f1) 2 true x430002) (ixB ((rd_T34 x6 x8).f1) 3 true x430003)) else (none)) else (none)) else (impl_ProgPuts.l0 k x6 x7 (wrap64 (x8 + 1)) x430000 x430001 x430002 x430003))) else (impl_ProgPuts.l0 k x6 x7 (wrap64 (x8 + 1)) x430000 x430001 x430002 x430003)) else (none)) else (none)) else ((impl_boxesOf.f k x430000 x430001 x430002 x430003).bind fun t434 => (some t434))
def impl_ProgPuts.f (k : Nat) (l0 : List (S34)) : Option (List Int) := impl_ProgPuts.l0 k l0 (l0.length : Int) 0 false false false false
theorem impl_ProgPuts.mono_l : ∀ k, (∀ y0 y1 y2 y3 y4 y5 y6, LeO (impl_ProgPuts.l0 k y0 y1 y2 y3 y4 y5 y6) (impl_ProgPuts.l0 (k + 1) y0 y1 y2 y3 y4 y5 y6))
 | 0 => fun _ _ _ _ _ _ _ r h => by simp [impl_ProgPuts.l0] at h
 | k + 1 => by
  have H0 := impl_ProgPuts.mono_l k
  ·intro y0 y1 y2 y3 y4 y5 y6
   unfold impl_ProgPuts.l0
   repeat' first
   | (with_reducible exact H0 _ _ _ _ _ _ _)
   | (with_reducible exact impl_boxesOf.mono _ _ _ _ _)
   | (with_reducible exact LeO.refl _)
   | (with_reducible exact LeO.none _)
   | (with_reducible refine LeO.ite ?_ ?_)
   | (with_reducible refine LeO.bind ?_ (fun _ => ?_))
   | exact H0 _ _ _ _ _ _ _
   | exact impl_boxesOf.mono _ _ _ _ _
   | exact LeO.none _
   | refine LeO.ite ?_ ?_
   | refine LeO.bind ?_ (fun _ => ?_)
theorem impl_ProgPuts.mono : ∀ a0 k, LeO (impl_ProgPuts.f k a0) (impl_ProgPuts.f (k + 1) a0) := by
 intro a0 k
 have H0 := impl_ProgPuts.mono_l k
 unfold impl_ProgPuts.f
 repeat' first
   | (with_reducible exact H0 _ _ _ _ _ _ _)
   | (with_reducible exact impl_boxesOf.mono _ _ _ _ _)
   | (with_reducible exact LeO.refl _)
   | (with_reducible exact LeO.none _)
   | (with_reducible refine LeO.ite ?_ ?_)
   | (with_reducible refine LeO.bind ?_ (fun _ => ?_))
   | exact H0 _ _ _ _ _ _ _
   | exact impl_boxesOf.mono _ _ _ _ _
   | exact LeO.none _
   | refine LeO.ite ?_ ?_
   | refine LeO.bind ?_ (fun _ => ?_)
set_option maxHeartbeats 8000000 in
set_option maxRecDepth 100000 in
theorem impl_ProgPuts.calls (k : Nat) (A0 : Option Addr) (c0 : Nat) (l0 : List (S34)) (r : List Int) (w : World) (Y0 : Kd.C k34 w A0 l0.length l0) (ac0 : l0.length ≤ c0) (h : impl_ProgPuts.f k l0 = some r) :
  Calls Try.prog 28 #[.slice A0 l0.length c0] w fun e w' => ∃ v0_ : Value, e = .returned (v0_) ∧ Kd.R (Kd.int .i64) 3 w' w.heap.size (fun _ => True) v0_ r ∧ Below w.heap.size w w' := by
 have ap0 := Try.underlying51; have ap1 := Try.underlying34; have V0 := Aside0.mk Y0; have ae0 := Aside0.mk ac0; clear Y0 ac0; have HB := Aside0.mk (Below.refl w.heap.size w); have H : (impl_ProgPuts.l0 k l0 (l0.length : Int) 0 false false false false) = some r := h; clear h; have H' := Aside0.mk H; clear H
 go_enter Try.func28, Try.ntmps28
 go_wp2_with (first | ((with_reducible refine gate_dst (N := 3) rfl ?_); refine bxe_ (N := 3) (cs := #[.bool false, .bool false, .bool false, .bool false]) (t := 51) ?_; intro c1 hg w2 y hb; have n_ := A4_ (below_step zq6c_ hb) (y) ((zqa8_ : w.heap.size ≤ c1)) ((zqa8_ : w.heap.size ≤ c1)); clear HB; obtain ⟨HB, b0, x0, l1⟩ := n_; clear hb y hg))
 go_loopg [8] k (fun kq v8 w' => ∃ (a0 : Int) (a1 : Bool) (a2 : Bool) (a3 : Bool) (a4 : Bool), v8 = .int .i64 a0 ∧ Aside0 (impl_ProgPuts.l0 kq l0 (l0.length : Int) a0 a1 a2 a3 a4 = some r) ∧ Aside0 (kq ≤ k) ∧ Aside0 (w'.heap[c1]? = some (.cells #[.bool a1, .bool a2, .bool a3, .bool a4] 51 (0, 0))) ∧ Aside0 (Below w.heap.size w w'))
 case atStart => exact ⟨(0), (false), (false), (false), (false), zq5a_, H', ⟨Nat.le_refl _⟩, ⟨zq25_⟩, ⟨zq67_⟩⟩
 case round =>
  clear H'
  try clear c2
  try clear p2
  obtain ⟨a0, a1, a2, a3, a4, rfl, HA, Z0, b0, HB⟩ := hrel
  cases gk with
  | zero => exact absurd HA.out (by simp [impl_ProgPuts.l0])
  | succ k1 =>
   have H := HA.out; clear HA; simp only [impl_ProgPuts.l0] at H; replace H := ifc_ H
   rcases H with ⟨c3b0, H⟩ | ⟨c3b0, H⟩
   ·replace H := ifd2_ H; obtain ⟨s0, s1, H⟩ := H; by_cases c6 : ((rd_T34 l0 a0).f0) = 2
    ·rw [if_pos c6] at H; have s2 : (((rd_T34 l0 a0).f0) == 2) = true := beq_iff_eq.mpr c6; have s3 : (((rd_T34 l0 a0).f0) != 2) = false := bne_eq_false_iff_eq.mpr c6; clear c6; replace H := bs_ H; obtain ⟨e0, A7, H⟩ := H; (try dsimp only at H); replace H := ifB_ H
     rcases H with ⟨rfl, H⟩ | ⟨rfl, H⟩
     ·replace H := ifd2_ H; obtain ⟨s4, s5, H⟩ := H; have H' := Aside0.mk H; clear H; have u0 : 0 ≤ (a0 : Int) := of_decide_eq_true zq55_; have t0 : a0 < (l0.length : Int) := of_decide_eq_true zq55_; obtain ⟨F0, Q0, q0, q1, q2, q3⟩ := at_T34 V0.out a0 u0 t0; cases Q0; replace q0 := pb_ HB.out q0; replace q1 := pb_ HB.out q1; replace q2 := pb_ HB.out q2; replace q3 := pb_ HB.out q3; replace u0 := eq_true u0; replace t0 := eq_true t0
      go_wp2_with (first | ((with_reducible refine gate_dst (N := 5) rfl ?_); refine bxe_ (N := 5) (cs := #[.int .i64 0, .int .i64 0, .int .i64 0, .int .i64 0]) (t := 34) ?_; intro c3 hg r0 y hb; have n_ := A7_ (blk_below (g := c1) (o := .cells #[.bool a1, .bool a2, .bool a3, .bool a4] 51 (0, 0)) zq25_ hb) (below_step zq67_ hb) (y) ((zqa4_ : w.heap.size ≤ c3)) ((zqa4_ : w.heap.size ≤ c3)) ((zqc3_ : c1 ≠ c3)) ((zqb2_ : c3 ≠ c1)); clear b0 HB; obtain ⟨b0, HB, b1, x1, l2, f4, f5⟩ := n_; clear hb y hg; have N0 := f5.out; have O0 := f4.out; obtain ⟨h0, h1, h2, h3, i0, i1, i2, i3⟩ := bz4_ b1.out) | (go_at_call 64; (with_reducible refine (impl_in.calls ((rd_T34 l0 a0).f1) 0 3 true _ A7.out).mono ?_); rintro e w' ⟨rfl, ⟨nd, rfl⟩⟩; (try clear A7); have aa0 : 0 ≤ ((rd_T34 l0 a0).f1) := of_decide_eq_true zq55_; have ab0 : ((rd_T34 l0 a0).f1) < 4 := of_decide_eq_true zq55_; have aC0 := ixcellB4 (w := r0) ((rd_T34 l0 a0).f1) aa0 ab0 b0.out; have aS0 := blk_frozen b0.out ((rd_T34 l0 a0).f1).toNat; have aH0 := eq_true aa0; have aI0 := eq_true ab0) | ((with_reducible refine gate_store (t := 4) (p := 22) rfl ?_); refine store_event (t := 4) (p := 22) (v := ?vo_w15) (w1 := ?wo_w15) ?hg ?ho ?hn ?hr ?_; (case ho => rfl); (case hg => rfl); (case hn => rfl); (case hr => first | (go_simp; done) | (go_simp; rfl)); intro r1 hw; have d0 : Aside0 (r1.heap[c1]? = some (.cells #[.bool (ixB ((rd_T34 l0 a0).f1) 0 true a1), .bool (ixB ((rd_T34 l0 a0).f1) 1 true a2), .bool (ixB ((rd_T34 l0 a0).f1) 2 true a3), .bool (ixB ((rd_T34 l0 a0).f1) 3 true a4)] 51 (0, 0))) := ⟨(by rw [hw]; exact (by (with_reducible repeat (first | refine blk_drewN ?_ _ | refine blk_drew ?_ | refine blk_alloc ?_ _)); refine blk_put (cs := #[.bool a1, .bool a2, .bool a3, .bool a4]) ?_ ((rd_T34 l0 a0).f1).toNat _ (ixputB4 ((rd_T34 l0 a0).f1) true a1 a2 a3 a4 aa0 ab0); (with_reducible repeat (first | refine blk_drewN ?_ _ | refine blk_drew ?_ | refine blk_alloc ?_ _)); refine blk_far ?_ f4.out _; (with_reducible repeat (first | refine blk_drewN ?_ _ | refine blk_drew ?_ | refine blk_alloc ?_ _)); refine blk_far ?_ f4.out _; (with_reducible repeat (first | refine blk_drewN ?_ _ | refine blk_drew ?_ | refine blk_alloc ?_ _)); refine blk_far ?_ f4.out _; (with_reducible repeat (first | refine blk_drewN ?_ _ | refine blk_drew ?_ | refine blk_alloc ?_ _)); refine blk_far ?_ f4.out _; (with_reducible repeat (first | refine blk_drewN ?_ _ | refine blk_drew ?_ | refine blk_alloc ?_ _)); exact b0.out))⟩; have d1 : Aside0 (r1.heap[c3]? = some (.cells #[.int .i64 ((rd_T34 l0 a0).f0), .int .i64 ((rd_T34 l0 a0).f1), .int .i64 ((rd_T34 l0 a0).f2), .int .i64 ((rd_T34 l0 a0).f3)] 34 (0, 0))) := ⟨(by rw [hw]; exact zq37_)⟩; have d2 : Aside0 (Below w.heap.size w r1) := ⟨(by rw [hw]; exact zq63_)⟩; clear hw; clear b0; clear b1; clear HB; have b0 := d0; have b1 := d1; have HB := d2; clear d0 d1 d2))
      go_roundg k1
      case measure => have := Z0.out; omega
      case rel => exact ⟨(wrap64 (a0 + 1)), ((ixB ((rd_T34 l0 a0).f1) 0 true a1)), ((ixB ((rd_T34 l0 a0).f1) 1 true a2)), ((ixB ((rd_T34 l0 a0).f1) 2 true a3)), ((ixB ((rd_T34 l0 a0).f1) 3 true a4)), zq5a_, H', ⟨by have := Z0.out; omega⟩, ⟨zq25_⟩, ⟨zq63_⟩⟩
     ·have H' := Aside0.mk H; clear H; have u0 : 0 ≤ (a0 : Int) := of_decide_eq_true zq55_; have t0 : a0 < (l0.length : Int) := of_decide_eq_true zq55_; obtain ⟨F0, Q0, q0, q1, q2, q3⟩ := at_T34 V0.out a0 u0 t0; cases Q0; replace q0 := pb_ HB.out q0; replace q1 := pb_ HB.out q1; replace q2 := pb_ HB.out q2; replace q3 := pb_ HB.out q3; replace u0 := eq_true u0; replace t0 := eq_true t0
      go_wp2_with (first | ((with_reducible refine gate_dst (N := 5) rfl ?_); refine bxe_ (N := 5) (cs := #[.int .i64 0, .int .i64 0, .int .i64 0, .int .i64 0]) (t := 34) ?_; intro c3 hg r0 y hb; have n_ := A7_ (blk_below (g := c1) (o := .cells #[.bool a1, .bool a2, .bool a3, .bool a4] 51 (0, 0)) zq25_ hb) (below_step zq67_ hb) (y) ((zqa4_ : w.heap.size ≤ c3)) ((zqa4_ : w.heap.size ≤ c3)) ((zqc3_ : c1 ≠ c3)) ((zqb2_ : c3 ≠ c1)); clear b0 HB; obtain ⟨b0, HB, b1, x1, l2, f4, f5⟩ := n_; clear hb y hg; have N0 := f5.out; have O0 := f4.out; obtain ⟨h0, h1, h2, h3, i0, i1, i2, i3⟩ := bz4_ b1.out) | (go_at_call 64; (with_reducible refine (impl_in.calls ((rd_T34 l0 a0).f1) 0 3 false _ A7.out).mono ?_); rintro e w' ⟨rfl, ⟨nd, rfl⟩⟩; (try clear A7)))
      go_roundg k1
      case measure => have := Z0.out; omega
      case rel => exact ⟨(wrap64 (a0 + 1)), (a1), (a2), (a3), (a4), zq5a_, H', ⟨by have := Z0.out; omega⟩, ⟨zq36_⟩, ⟨zq63_⟩⟩
    ·rw [if_neg c6] at H; have s2 : (((rd_T34 l0 a0).f0) == 2) = false := beq_eq_false_iff_ne.mpr c6; have s3 : (((rd_T34 l0 a0).f0) != 2) = true := bne_iff_ne.mpr c6; have H' := Aside0.mk H; clear H; have u0 : 0 ≤ (a0 : Int) := of_decide_eq_true zq55_; have t0 : a0 < (l0.length : Int) := of_decide_eq_true zq55_; obtain ⟨F0, Q0, q0, q1, q2, q3⟩ := at_T34 V0.out a0 u0 t0; cases Q0; replace q0 := pb_ HB.out q0; replace q1 := pb_ HB.out q1; replace q2 := pb_ HB.out q2; replace q3 := pb_ HB.out q3; replace u0 := eq_true u0; replace t0 := eq_true t0
     go_wp2_with (first | ((with_reducible refine gate_dst (N := 5) rfl ?_); refine bxe_ (N := 5) (cs := #[.int .i64 0, .int .i64 0, .int .i64 0, .int .i64 0]) (t := 34) ?_; intro c3 hg r0 y hb; have n_ := A7_ (blk_below (g := c1) (o := .cells #[.bool a1, .bool a2, .bool a3, .bool a4] 51 (0, 0)) zq25_ hb) (below_step zq67_ hb) (y) ((zqa4_ : w.heap.size ≤ c3)) ((zqa4_ : w.heap.size ≤ c3)) ((zqc3_ : c1 ≠ c3)) ((zqb2_ : c3 ≠ c1)); clear b0 HB; obtain ⟨b0, HB, b1, x1, l2, f4, f5⟩ := n_; clear hb y hg; have N0 := f5.out; have O0 := f4.out; obtain ⟨h0, h1, h2, h3, i0, i1, i2, i3⟩ := bz4_ b1.out))
     go_roundg k1
     case measure => have := Z0.out; omega
     case rel => exact ⟨(wrap64 (a0 + 1)), (a1), (a2), (a3), (a4), zq5a_, H', ⟨by have := Z0.out; omega⟩, ⟨zq36_⟩, ⟨zq63_⟩⟩
   ·replace H := bs_ H; obtain ⟨e0, B0, H⟩ := H; (try dsimp only at H); obtain rfl := Option.some.inj H; obtain ⟨h0, h1, h2, h3, i0, i1, i2, i3⟩ := bz4_ b0.out
    go_wp2_with (first | ((with_reducible refine gate_callee (f := 79) rfl ?_); refine gl_ 25 Try.func79 #[.agg #[.bool a1, .bool a2, .bool a3, .bool a4]] ?_; (with_reducible refine (impl_boxesOf.calls k1 a1 a2 a3 a4 e0 _ B0.out).mono ?_); rintro e r0 ⟨X0, rfl, E0, hb⟩; refine ⟨_, rfl, ?_⟩; have n_ := A3_ (Kd.R_lower E0 (below_size zq67_)) (blk_below (g := c1) (o := .cells #[.bool a1, .bool a2, .bool a3, .bool a4] 51 (0, 0)) zq25_ hb) (below_step zq67_ hb); clear b0 HB; obtain ⟨j0, b0, HB⟩ := n_; (try clear hb); (try clear E0)))
    go_ret
    exact ⟨_, zq59_, zq14_, zq67_⟩

end Go.Proofs.Ytgdafcakefnpdaa.PFnExec
