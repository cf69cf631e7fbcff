-- Laid by this session's program out of the translation (gen.sh).
import Derived.Test.YtgdafcakefnpdaaPFnSerialOnex0
import Derived.Test.YtgdafcakefnpdaaPFnSerialOnex2
namespace Go.Proofs.Ytgdafcakefnpdaa.PFnSerialOne
open Go.RowKit Go.Proofs.YtgdafcakefnpdaaW.PrintWords Go.Proofs.YtgdafcakefnpdaaW.PrintLast Go.Proofs.YtgdafcakefnpdaaW.PrintMore
attribute [local go_sem] max2_int min2_int max_two min_two max_three min_three max_four min_four   -- for this text's walks alone
set_option linter.unusedVariables false
set_option linter.unusedSimpArgs false

/-! ### impl_ProgOk: function 60 -/
def impl_ProgOk.l0 : Nat → List (S34) → List (S34) → Int → Int → Option (Bool)
 | 0, _, _, _, _ => none
 | k + 1, x0, x5, x6, x7 => if x7 < x6 then (if 0 ≤ x7 then (if x7 < (x5.length : Int) then ((impl_insOk.f k ((rd_T34 x5 x7).f0) ((rd_T34 x5 x7).f1) ((rd_T34 x5 x7).f2) ((rd_T34 x5 x7).f3)).bind fun t121 => (if t121 = true then (impl_ProgOk.l0 k x0 x5 x6 (wrap64 (x7 + 1))) else (some false))) else (none)) else (none)) else (some (decide ((x0.length : Int) ≤ 10)))
def impl_ProgOk.f (k : Nat) (l0 : List (S34)) : Option (Bool) := impl_ProgOk.l0 k l0 l0 (l0.length : Int) 0
theorem impl_ProgOk.mono_l : ∀ k, (∀ y0 y1 y2 y3, LeO (impl_ProgOk.l0 k y0 y1 y2 y3) (impl_ProgOk.l0 (k + 1) y0 y1 y2 y3))
 | 0 => fun _ _ _ _ r h => by simp [impl_ProgOk.l0] at h
 | k + 1 => by
  have G0 := impl_ProgOk.mono_l k
  ·intro y0 y1 y2 y3
   unfold impl_ProgOk.l0
   repeat' first
   | (with_reducible exact G0 _ _ _ _)
   | (with_reducible exact impl_insOk.mono _ _ _ _ _)
   | (with_reducible exact LeO.refl _)
   | (with_reducible exact LeO.none _)
   | (with_reducible refine LeO.ite ?_ ?_)
   | (with_reducible refine LeO.bind ?_ (fun _ => ?_))
   | exact G0 _ _ _ _
   | exact impl_insOk.mono _ _ _ _ _
   | exact LeO.none _
   | refine LeO.ite ?_ ?_
   | refine LeO.bind ?_ (fun _ => ?_)
theorem impl_ProgOk.mono : ∀ a0 k, LeO (impl_ProgOk.f k a0) (impl_ProgOk.f (k + 1) a0) := by
 intro a0 k
 have G0 := impl_ProgOk.mono_l k
 unfold impl_ProgOk.f
 repeat' first
   | (with_reducible exact G0 _ _ _ _)
   | (with_reducible exact impl_insOk.mono _ _ _ _ _)
   | (with_reducible exact LeO.refl _)
   | (with_reducible exact LeO.none _)
   | (with_reducible refine LeO.ite ?_ ?_)
   | (with_reducible refine LeO.bind ?_ (fun _ => ?_))
   | exact G0 _ _ _ _
   | exact impl_insOk.mono _ _ _ _ _
   | exact LeO.none _
   | refine LeO.ite ?_ ?_
   | refine LeO.bind ?_ (fun _ => ?_)
set_option maxHeartbeats 8000000 in
set_option maxRecDepth 100000 in
theorem impl_ProgOk.calls (k : Nat) (A0 : Option Addr) (c0 : Nat) (l0 : List (S34)) (r : Bool) (w : World) (V0 : Kd.C k34 w A0 l0.length l0) (Z0 : l0.length ≤ c0) (h : impl_ProgOk.f k l0 = some r) :
  Calls Try.prog 60 #[.slice A0 l0.length c0] w fun e w' => e = .returned (.bool r) ∧ Below w.heap.size w w' := by
 have aq0 := Try.underlying34; have U0 := Aside0.mk V0; have aa0 := Aside0.mk Z0; clear V0 Z0; have HB := Aside0.mk (Below.refl w.heap.size w); have H : (impl_ProgOk.l0 k l0 l0 (l0.length : Int) 0) = some r := h; clear h; have H' := Aside0.mk H; clear H
 go_enter Try.func60, Try.ntmps60
 go_wp2
 go_loopg [7] k (fun kq v7 w' => ∃ (a0 : Int), v7 = .int .i64 a0 ∧ Aside0 (impl_ProgOk.l0 kq l0 l0 (l0.length : Int) a0 = some r) ∧ Aside0 (kq ≤ k) ∧ Aside0 (Below w.heap.size w w'))
 case atStart => exact ⟨(0), zq69_, H', ⟨Nat.le_refl _⟩, ⟨zq74_⟩⟩
 case round =>
  clear H'; obtain ⟨a0, rfl, HA, X0, HB⟩ := hrel
  cases gk with
  | zero => exact absurd HA.out (by simp [impl_ProgOk.l0])
  | succ k1 =>
   have H := HA.out; clear HA; simp only [impl_ProgOk.l0] at H; replace H := ifc_ H
   rcases H with ⟨c2b0, H⟩ | ⟨c2b0, H⟩
   ·replace H := ifd2_ H; obtain ⟨r0, r1, H⟩ := H; replace H := bs_ H; obtain ⟨e0, A5, H⟩ := H; (try dsimp only at H); replace H := ifB_ H
    rcases H with ⟨rfl, H⟩ | ⟨rfl, H⟩
    ·have H' := Aside0.mk H; clear H; have x0 : 0 ≤ (a0 : Int) := of_decide_eq_true zq64_; have v0 : a0 < (l0.length : Int) := of_decide_eq_true zq64_; obtain ⟨E0, M0, s0, s1, s2, s3⟩ := at_T34 U0.out a0 x0 v0; cases M0; replace s0 := pb_ HB.out s0; replace s1 := pb_ HB.out s1; replace s2 := pb_ HB.out s2; replace s3 := pb_ HB.out s3; replace x0 := eq_true x0; replace v0 := eq_true v0
     go_wp2_with (first | ((with_reducible refine gate_dst (N := 4) rfl ?_); refine bxe_ (N := 4) (cs := #[.int .i64 0, .int .i64 0, .int .i64 0, .int .i64 0]) (t := 34) ?_; intro d0 hg w7 C_ hb; have n_ := A4_ (below_step zq74_ hb) (C_) ((zqa9_ : w.heap.size ≤ d0)) ((zqa9_ : w.heap.size ≤ d0)); clear HB; obtain ⟨HB, c1, B0, n0⟩ := n_; clear hb C_ hg; obtain ⟨j0, j1, j2, j3, k0, k2, k3, k4⟩ := bz4_ c1.out) | ((with_reducible refine gate_callee (f := 99) rfl ?_); refine gl_ 12 Try.func99 #[.agg #[.int .i64 ((rd_T34 l0 a0).f0), .int .i64 ((rd_T34 l0 a0).f1), .int .i64 ((rd_T34 l0 a0).f2), .int .i64 ((rd_T34 l0 a0).f3)]] ?_; (with_reducible refine (impl_insOk.calls k1 ((rd_T34 l0 a0).f0) ((rd_T34 l0 a0).f1) ((rd_T34 l0 a0).f2) ((rd_T34 l0 a0).f3) true _ A5.out).mono ?_); rintro e w9 ⟨rfl, hb⟩; refine ⟨_, rfl, ?_⟩; have n_ := A2_ (blk_below (g := d0) (o := .cells #[.int .i64 ((rd_T34 l0 a0).f0), .int .i64 ((rd_T34 l0 a0).f1), .int .i64 ((rd_T34 l0 a0).f2), .int .i64 ((rd_T34 l0 a0).f3)] 34 (0, 0)) zq48_ hb) (below_step zq73_ hb); clear c1 HB; obtain ⟨c1, HB⟩ := n_; (try clear hb)))
     go_roundg k1
     case measure => have := X0.out; omega
     case rel => exact ⟨(wrap64 (a0 + 1)), zq69_, H', ⟨by have := X0.out; omega⟩, ⟨zq73_⟩⟩
    ·obtain rfl := Option.some.inj H; have x0 : 0 ≤ (a0 : Int) := of_decide_eq_true zq64_; have v0 : a0 < (l0.length : Int) := of_decide_eq_true zq64_; obtain ⟨E0, M0, s0, s1, s2, s3⟩ := at_T34 U0.out a0 x0 v0; cases M0; replace s0 := pb_ HB.out s0; replace s1 := pb_ HB.out s1; replace s2 := pb_ HB.out s2; replace s3 := pb_ HB.out s3; replace x0 := eq_true x0; replace v0 := eq_true v0
     go_wp2_with (first | ((with_reducible refine gate_dst (N := 4) rfl ?_); refine bxe_ (N := 4) (cs := #[.int .i64 0, .int .i64 0, .int .i64 0, .int .i64 0]) (t := 34) ?_; intro d0 hg q0 C_ hb; have n_ := A4_ (below_step zq74_ hb) (C_) ((zqa9_ : w.heap.size ≤ d0)) ((zqa9_ : w.heap.size ≤ d0)); clear HB; obtain ⟨HB, c1, B0, n0⟩ := n_; clear hb C_ hg; obtain ⟨j0, j1, j2, j3, k0, k2, k3, k4⟩ := bz4_ c1.out) | ((with_reducible refine gate_callee (f := 99) rfl ?_); refine gl_ 12 Try.func99 #[.agg #[.int .i64 ((rd_T34 l0 a0).f0), .int .i64 ((rd_T34 l0 a0).f1), .int .i64 ((rd_T34 l0 a0).f2), .int .i64 ((rd_T34 l0 a0).f3)]] ?_; (with_reducible refine (impl_insOk.calls k1 ((rd_T34 l0 a0).f0) ((rd_T34 l0 a0).f1) ((rd_T34 l0 a0).f2) ((rd_T34 l0 a0).f3) false _ A5.out).mono ?_); rintro e q1 ⟨rfl, hb⟩; refine ⟨_, rfl, ?_⟩; have n_ := A2_ (blk_below (g := d0) (o := .cells #[.int .i64 ((rd_T34 l0 a0).f0), .int .i64 ((rd_T34 l0 a0).f1), .int .i64 ((rd_T34 l0 a0).f2), .int .i64 ((rd_T34 l0 a0).f3)] 34 (0, 0)) zq48_ hb) (below_step zq73_ hb); clear c1 HB; obtain ⟨c1, HB⟩ := n_; (try clear hb)))
     go_ret
     exact ⟨zq68_, zq73_⟩
   ·obtain rfl := Option.some.inj H
    go_wp2
    go_ret
    exact ⟨zq68_, zq74_⟩

/-! ### impl_putAt: function 61 -/
def impl_putAt.l0 : Nat → Int → List (S36) → Int → Int → Option (Int)
 | 0, _, _, _, _ => none
 | k + 1, x1, x8, x9, x10 => if x10 < x9 then (if 0 ≤ x10 then (if x10 < (x8.length : Int) then (if ((rd_T36 x8 x10).f0) = x1 then (some x10) else (impl_putAt.l0 k x1 x8 x9 (wrap64 (x10 + 1)))) else (none)) else (none)) else (some (-1))
def impl_putAt.f (k : Nat) (l0_0 : List (S48)) (l0_1 : List (S36)) (a0_2 : Int) (a0_3 : Int) (a1 : Int) : Option (Int) := impl_putAt.l0 k a1 l0_1 (l0_1.length : Int) 0
theorem impl_putAt.mono_l : ∀ k, (∀ y0 y1 y2 y3, LeO (impl_putAt.l0 k y0 y1 y2 y3) (impl_putAt.l0 (k + 1) y0 y1 y2 y3))
 | 0 => fun _ _ _ _ r h => by simp [impl_putAt.l0] at h
 | k + 1 => by
  have G0 := impl_putAt.mono_l k
  ·intro y0 y1 y2 y3
   unfold impl_putAt.l0
   repeat' first
   | (with_reducible exact G0 _ _ _ _)
   | (with_reducible exact LeO.refl _)
   | (with_reducible exact LeO.none _)
   | (with_reducible refine LeO.ite ?_ ?_)
   | (with_reducible refine LeO.bind ?_ (fun _ => ?_))
   | exact G0 _ _ _ _
   | exact LeO.none _
   | refine LeO.ite ?_ ?_
   | refine LeO.bind ?_ (fun _ => ?_)
theorem impl_putAt.mono : ∀ a0 a1 a2 a3 a4 k, LeO (impl_putAt.f k a0 a1 a2 a3 a4) (impl_putAt.f (k + 1) a0 a1 a2 a3 a4) := by
 intro a0 a1 a2 a3 a4 k
 have G0 := impl_putAt.mono_l k
 unfold impl_putAt.f
 repeat' first
   | (with_reducible exact G0 _ _ _ _)
   | (with_reducible exact LeO.refl _)
   | (with_reducible exact LeO.none _)
   | (with_reducible refine LeO.ite ?_ ?_)
   | (with_reducible refine LeO.bind ?_ (fun _ => ?_))
   | exact G0 _ _ _ _
   | exact LeO.none _
   | refine LeO.ite ?_ ?_
   | refine LeO.bind ?_ (fun _ => ?_)
set_option maxHeartbeats 8000000 in
set_option maxRecDepth 100000 in
theorem impl_putAt.calls (k : Nat) (Y0 : Option Addr) (R0 : Nat) (o0 : List (S48)) (Y1 : Option Addr) (R1 : Nat) (o1 : List (S36)) (h0 : Int) (h1 : Int) (a1 : Int) (r : Int) (w : World) (aE0 : Kd.C k48 w Y0 o0.length o0) (aF0 : o0.length ≤ R0) (aE1 : Kd.C k36 w Y1 o1.length o1) (aF1 : o1.length ≤ R1) (h : impl_putAt.f k o0 o1 h0 h1 a1 = some r) :
  Calls Try.prog 61 #[.agg #[.slice Y0 o0.length R0, .slice Y1 o1.length R1, .int .i64 h0, .int .i64 h1], .int .i64 a1] w fun e w' => e = .returned (.int .i64 r) ∧ Below w.heap.size w w' := by
 have aq0 := Try.underlying30; have aq1 := Try.underlying36; have aN0 := Aside0.mk aE0; have bl0 := Aside0.mk aF0; clear aE0 aF0; have aN1 := Aside0.mk aE1; have bl1 := Aside0.mk aF1; clear aE1 aF1; have HB := Aside0.mk (Below.refl w.heap.size w); have H : (impl_putAt.l0 k a1 o1 (o1.length : Int) 0) = some r := h; clear h; have H' := Aside0.mk H; clear H
 go_enter Try.func61, Try.ntmps61
 go_wp2_with (first | ((with_reducible refine gate_dst (N := 2) rfl ?_); refine bxe_ (N := 2) (cs := #[.slice Y0 o0.length R0, .slice Y1 o1.length R1, .int .i64 h0, .int .i64 h1]) (t := 30) ?_; intro d0 hg w3 C_ hb; have n_ := A4_ (below_step zq74_ hb) (C_) ((zqa9_ : w.heap.size ≤ d0)) ((zqa9_ : w.heap.size ≤ d0)); clear HB; obtain ⟨HB, c0, B0, n0⟩ := n_; clear hb C_ hg; obtain ⟨j0, j1, j2, j3, k0, k2, k3, k4⟩ := bz4_ c0.out))
 go_loopg [10] k (fun kq L0 w' => ∃ (a0 : Int), L0 = .int .i64 a0 ∧ Aside0 (impl_putAt.l0 kq a1 o1 (o1.length : Int) a0 = some r) ∧ Aside0 (kq ≤ k) ∧ Aside0 (w'.heap[d0]? = some (.cells #[(.slice Y0 o0.length R0), (.slice Y1 o1.length R1), .int .i64 h0, .int .i64 h1] 30 (0, 0))) ∧ Aside0 (Below w.heap.size w w'))
 case atStart => exact ⟨(0), zq69_, H', ⟨Nat.le_refl _⟩, ⟨zq28_⟩, ⟨zq73_⟩⟩
 case round =>
  clear H'
  try clear p2
  try clear j0 j1 j2 j3 k0 k2 k3 k4
  obtain ⟨a0, rfl, HA, X0, c0, HB⟩ := hrel
  cases gk with
  | zero => exact absurd HA.out (by simp [impl_putAt.l0])
  | succ k1 =>
   have H := HA.out; clear HA; simp only [impl_putAt.l0] at H; replace H := ifc_ H
   rcases H with ⟨c5b0, H⟩ | ⟨c5b0, H⟩
   ·replace H := ifd2_ H; obtain ⟨r0, r1, H⟩ := H; by_cases c8 : ((rd_T36 o1 a0).f0) = a1
    ·rw [if_pos c8] at H; have r2 : (((rd_T36 o1 a0).f0) == a1) = true := beq_iff_eq.mpr c8; have r3 : (((rd_T36 o1 a0).f0) != a1) = false := bne_eq_false_iff_eq.mpr c8; clear c8; obtain rfl := Option.some.inj H; have x0 : 0 ≤ (a0 : Int) := of_decide_eq_true zq64_; have v0 : a0 < (o1.length : Int) := of_decide_eq_true zq64_; obtain ⟨E0, M0, s0, s1⟩ := at_T36 aN1.out a0 x0 v0; cases M0; replace s0 := pb_ HB.out s0; replace s1 := pb_ HB.out s1; replace x0 := eq_true x0; replace v0 := eq_true v0
     go_wp2_with (first | ((with_reducible refine gate_dst (N := 6) rfl ?_); refine bxe_ (N := 6) (cs := #[.int .i64 0, .int .i64 0]) (t := 36) ?_; intro d1 hg w9 C_ hb; have n_ := A7_ (blk_below (g := d0) (o := .cells #[.slice Y0 o0.length R0, .slice (some E0) o1.length R1, .int .i64 h0, .int .i64 h1] 30 (0, 0)) zq28_ hb) (below_step zq73_ hb) (C_) ((zqa8_ : w.heap.size ≤ d1)) ((zqa8_ : w.heap.size ≤ d1)) ((zqc1_ : d0 ≠ d1)) ((zqb1_ : d1 ≠ d0)); clear c0 HB; obtain ⟨c0, HB, c1, B1, n1, g0, g1⟩ := n_; clear hb C_ hg; have N0 := g1.out; have O0 := g0.out; obtain ⟨j4, j5, k5, k6⟩ := bz2_ c1.out))
     go_ret
     exact ⟨zq68_, zq72_⟩
    ·rw [if_neg c8] at H; have r2 : (((rd_T36 o1 a0).f0) == a1) = false := beq_eq_false_iff_ne.mpr c8; have r3 : (((rd_T36 o1 a0).f0) != a1) = true := bne_iff_ne.mpr c8; have H' := Aside0.mk H; clear H; have x0 : 0 ≤ (a0 : Int) := of_decide_eq_true zq64_; have v0 : a0 < (o1.length : Int) := of_decide_eq_true zq64_; obtain ⟨E0, M0, s0, s1⟩ := at_T36 aN1.out a0 x0 v0; cases M0; replace s0 := pb_ HB.out s0; replace s1 := pb_ HB.out s1; replace x0 := eq_true x0; replace v0 := eq_true v0
     go_wp2_with (first | ((with_reducible refine gate_dst (N := 6) rfl ?_); refine bxe_ (N := 6) (cs := #[.int .i64 0, .int .i64 0]) (t := 36) ?_; intro d1 hg q0 C_ hb; have n_ := A7_ (blk_below (g := d0) (o := .cells #[.slice Y0 o0.length R0, .slice (some E0) o1.length R1, .int .i64 h0, .int .i64 h1] 30 (0, 0)) zq28_ hb) (below_step zq73_ hb) (C_) ((zqa8_ : w.heap.size ≤ d1)) ((zqa8_ : w.heap.size ≤ d1)) ((zqc1_ : d0 ≠ d1)) ((zqb1_ : d1 ≠ d0)); clear c0 HB; obtain ⟨c0, HB, c1, B1, n1, g0, g1⟩ := n_; clear hb C_ hg; have N0 := g1.out; have O0 := g0.out; obtain ⟨j4, j5, k5, k6⟩ := bz2_ c1.out))
     go_roundg k1
     case measure => have := X0.out; omega
     case rel => exact ⟨(wrap64 (a0 + 1)), zq69_, H', ⟨by have := X0.out; omega⟩, ⟨zq36_⟩, ⟨zq72_⟩⟩
   ·obtain rfl := Option.some.inj H
    go_wp2
    go_ret
    exact ⟨zq68_, zq73_⟩

/-! ### impl_readAt: function 62 -/
def impl_readAt.l0 : Nat → Int → List (S48) → Int → Int → Option (Int)
 | 0, _, _, _, _ => none
 | k + 1, x1, x8, x9, x10 => if x10 < x9 then (if 0 ≤ x10 then (if x10 < (x8.length : Int) then (if ((rd_T48 x8 x10).f0) = x1 then (some x10) else (impl_readAt.l0 k x1 x8 x9 (wrap64 (x10 + 1)))) else (none)) else (none)) else (some (-1))
def impl_readAt.f (k : Nat) (l0_0 : List (S48)) (l0_1 : List (S36)) (a0_2 : Int) (a0_3 : Int) (a1 : Int) : Option (Int) := impl_readAt.l0 k a1 l0_0 (l0_0.length : Int) 0
theorem impl_readAt.mono_l : ∀ k, (∀ y0 y1 y2 y3, LeO (impl_readAt.l0 k y0 y1 y2 y3) (impl_readAt.l0 (k + 1) y0 y1 y2 y3))
 | 0 => fun _ _ _ _ r h => by simp [impl_readAt.l0] at h
 | k + 1 => by
  have G0 := impl_readAt.mono_l k
  ·intro y0 y1 y2 y3
   unfold impl_readAt.l0
   repeat' first
   | (with_reducible exact G0 _ _ _ _)
   | (with_reducible exact LeO.refl _)
   | (with_reducible exact LeO.none _)
   | (with_reducible refine LeO.ite ?_ ?_)
   | (with_reducible refine LeO.bind ?_ (fun _ => ?_))
   | exact G0 _ _ _ _
   | exact LeO.none _
   | refine LeO.ite ?_ ?_
   | refine LeO.bind ?_ (fun _ => ?_)
theorem impl_readAt.mono : ∀ a0 a1 a2 a3 a4 k, LeO (impl_readAt.f k a0 a1 a2 a3 a4) (impl_readAt.f (k + 1) a0 a1 a2 a3 a4) := by
 intro a0 a1 a2 a3 a4 k
 have G0 := impl_readAt.mono_l k
 unfold impl_readAt.f
 repeat' first
   | (with_reducible exact G0 _ _ _ _)
   | (with_reducible exact LeO.refl _)
   | (with_reducible exact LeO.none _)
   | (with_reducible refine LeO.ite ?_ ?_)
   | (with_reducible refine LeO.bind ?_ (fun _ => ?_))
   | exact G0 _ _ _ _
   | exact LeO.none _
   | refine LeO.ite ?_ ?_
   | refine LeO.bind ?_ (fun _ => ?_)
set_option maxHeartbeats 8000000 in
set_option maxRecDepth 100000 in
theorem impl_readAt.calls (k : Nat) (Y0 : Option Addr) (R0 : Nat) (o0 : List (S48)) (Y1 : Option Addr) (R1 : Nat) (o1 : List (S36)) (h0 : Int) (h1 : Int) (a1 : Int) (r : Int) (w : World) (aE0 : Kd.C k48 w Y0 o0.length o0) (aF0 : o0.length ≤ R0) (aE1 : Kd.C k36 w Y1 o1.length o1) (aF1 : o1.length ≤ R1) (h : impl_readAt.f k o0 o1 h0 h1 a1 = some r) :
  Calls Try.prog 62 #[.agg #[.slice Y0 o0.length R0, .slice Y1 o1.length R1, .int .i64 h0, .int .i64 h1], .int .i64 a1] w fun e w' => e = .returned (.int .i64 r) ∧ Below w.heap.size w w' := by
 have aq0 := Try.underlying30; have aq1 := Try.underlying48; have aN0 := Aside0.mk aE0; have bl0 := Aside0.mk aF0; clear aE0 aF0; have aN1 := Aside0.mk aE1; have bl1 := Aside0.mk aF1; clear aE1 aF1; have HB := Aside0.mk (Below.refl w.heap.size w); have H : (impl_readAt.l0 k a1 o0 (o0.length : Int) 0) = some r := h; clear h; have H' := Aside0.mk H; clear H
 go_enter Try.func62, Try.ntmps62
 go_wp2_with (first | ((with_reducible refine gate_dst (N := 2) rfl ?_); refine bxe_ (N := 2) (cs := #[.slice Y0 o0.length R0, .slice Y1 o1.length R1, .int .i64 h0, .int .i64 h1]) (t := 30) ?_; intro d0 hg w3 C_ hb; have n_ := A4_ (below_step zq74_ hb) (C_) ((zqa9_ : w.heap.size ≤ d0)) ((zqa9_ : w.heap.size ≤ d0)); clear HB; obtain ⟨HB, c0, B0, n0⟩ := n_; clear hb C_ hg; obtain ⟨j0, j1, j2, j3, k0, k2, k3, k4⟩ := bz4_ c0.out))
 go_loopg [10] k (fun kq L0 w' => ∃ (a0 : Int), L0 = .int .i64 a0 ∧ Aside0 (impl_readAt.l0 kq a1 o0 (o0.length : Int) a0 = some r) ∧ Aside0 (kq ≤ k) ∧ Aside0 (w'.heap[d0]? = some (.cells #[(.slice Y0 o0.length R0), (.slice Y1 o1.length R1), .int .i64 h0, .int .i64 h1] 30 (0, 0))) ∧ Aside0 (Below w.heap.size w w'))
 case atStart => exact ⟨(0), zq69_, H', ⟨Nat.le_refl _⟩, ⟨zq28_⟩, ⟨zq73_⟩⟩
 case round =>
  clear H'
  try clear p2
  try clear j0 j1 j2 j3 k0 k2 k3 k4
  obtain ⟨a0, rfl, HA, X0, c0, HB⟩ := hrel
  cases gk with
  | zero => exact absurd HA.out (by simp [impl_readAt.l0])
  | succ k1 =>
   have H := HA.out; clear HA; simp only [impl_readAt.l0] at H; replace H := ifc_ H
   rcases H with ⟨c5b0, H⟩ | ⟨c5b0, H⟩
   ·replace H := ifd2_ H; obtain ⟨r0, r1, H⟩ := H; by_cases c8 : ((rd_T48 o0 a0).f0) = a1
    ·rw [if_pos c8] at H; have r2 : (((rd_T48 o0 a0).f0) == a1) = true := beq_iff_eq.mpr c8; have r3 : (((rd_T48 o0 a0).f0) != a1) = false := bne_eq_false_iff_eq.mpr c8; clear c8; obtain rfl := Option.some.inj H; have x0 : 0 ≤ (a0 : Int) := of_decide_eq_true zq64_; have v0 : a0 < (o0.length : Int) := of_decide_eq_true zq64_; obtain ⟨E0, M0, s0, s1⟩ := at_T48 aN0.out a0 x0 v0; cases M0; replace s0 := pb_ HB.out s0; replace s1 := pb_ HB.out s1; replace x0 := eq_true x0; replace v0 := eq_true v0
     go_wp2_with (first | ((with_reducible refine gate_dst (N := 6) rfl ?_); refine bxe_ (N := 6) (cs := #[.int .i64 0, .int .i64 0]) (t := 48) ?_; intro d1 hg w9 C_ hb; have n_ := A7_ (blk_below (g := d0) (o := .cells #[.slice (some E0) o0.length R0, .slice Y1 o1.length R1, .int .i64 h0, .int .i64 h1] 30 (0, 0)) zq28_ hb) (below_step zq73_ hb) (C_) ((zqa8_ : w.heap.size ≤ d1)) ((zqa8_ : w.heap.size ≤ d1)) ((zqc0_ : d0 ≠ d1)) ((zqb0_ : d1 ≠ d0)); clear c0 HB; obtain ⟨c0, HB, c1, B1, n1, g0, g1⟩ := n_; clear hb C_ hg; have N0 := g1.out; have O0 := g0.out; obtain ⟨j4, j5, k5, k6⟩ := bz2_ c1.out))
     go_ret
     exact ⟨zq68_, zq72_⟩
    ·rw [if_neg c8] at H; have r2 : (((rd_T48 o0 a0).f0) == a1) = false := beq_eq_false_iff_ne.mpr c8; have r3 : (((rd_T48 o0 a0).f0) != a1) = true := bne_iff_ne.mpr c8; have H' := Aside0.mk H; clear H; have x0 : 0 ≤ (a0 : Int) := of_decide_eq_true zq64_; have v0 : a0 < (o0.length : Int) := of_decide_eq_true zq64_; obtain ⟨E0, M0, s0, s1⟩ := at_T48 aN0.out a0 x0 v0; cases M0; replace s0 := pb_ HB.out s0; replace s1 := pb_ HB.out s1; replace x0 := eq_true x0; replace v0 := eq_true v0
     go_wp2_with (first | ((with_reducible refine gate_dst (N := 6) rfl ?_); refine bxe_ (N := 6) (cs := #[.int .i64 0, .int .i64 0]) (t := 48) ?_; intro d1 hg q0 C_ hb; have n_ := A7_ (blk_below (g := d0) (o := .cells #[.slice (some E0) o0.length R0, .slice Y1 o1.length R1, .int .i64 h0, .int .i64 h1] 30 (0, 0)) zq28_ hb) (below_step zq73_ hb) (C_) ((zqa8_ : w.heap.size ≤ d1)) ((zqa8_ : w.heap.size ≤ d1)) ((zqc0_ : d0 ≠ d1)) ((zqb0_ : d1 ≠ d0)); clear c0 HB; obtain ⟨c0, HB, c1, B1, n1, g0, g1⟩ := n_; clear hb C_ hg; have N0 := g1.out; have O0 := g0.out; obtain ⟨j4, j5, k5, k6⟩ := bz2_ c1.out))
     go_roundg k1
     case measure => have := X0.out; omega
     case rel => exact ⟨(wrap64 (a0 + 1)), zq69_, H', ⟨by have := X0.out; omega⟩, ⟨zq36_⟩, ⟨zq72_⟩⟩
   ·obtain rfl := Option.some.inj H
    go_wp2
    go_ret
    exact ⟨zq68_, zq73_⟩

/-! ### impl_copied_impl_Read: function 63 -/
def impl_copied_impl_Read.f (l0 : List (S48)) : Option (List (S48)) := if l0.length ≤ 17592186044416 then some l0 else none
set_option maxHeartbeats 8000000 in
set_option maxRecDepth 100000 in
theorem impl_copied_impl_Read.calls (A0 : Option Addr) (c0 : Nat) (l0 : List (S48)) (r : List (S48)) (w : World) (V0 : Kd.C k48 w A0 l0.length l0) (Z0 : l0.length ≤ c0) (h : impl_copied_impl_Read.f l0 = some r) :
  Calls Try.prog 63 #[.slice A0 l0.length c0] w fun e w' => ∃ v0_ : Value, e = .returned (v0_) ∧ Kd.R k48 48 w' w.heap.size (fun _ => True) v0_ r ∧ Below w.heap.size w w' := by
 unfold impl_copied_impl_Read.f at h; by_cases aQ : l0.length ≤ 17592186044416
 ·rw [if_pos aQ] at h; obtain rfl := Option.some.inj h; clear h; have bm := Aside0.mk aQ; by_cases aG0 : l0.length = 0
  ·obtain rfl : l0 = [] := List.eq_nil_of_length_eq_zero aG0; clear V0 Z0 aQ bm aG0
   go_enter Try.func63, Try.ntmps63
   go_wp2
   go_ret
   exact ⟨_, rfl, Kd.R_nil _ _ _ _ _, Below.refl _ _⟩
  ·have be0 : ((l0.length : Int) == 0) = false := beq_eq_false_iff_ne.mpr (by omega); have be1 : (l0.length == 0) = false := beq_eq_false_iff_ne.mpr aG0; have bB := Aside0.mk (Nat.pos_of_ne_zero aG0); have bs0 : (0 : Int) ≤ (l0.length : Int) := Int.natCast_nonneg _; have bC := Aside0.mk V0; have bP := Aside0.mk Z0; clear V0 Z0 aQ aG0
   go_enter Try.func63, Try.ntmps63
   go_wp2_with (first | ((with_reducible refine gate_dst (N := 9) rfl ?_); refine Kd.R_make k48 _ 48 rfl (N := 9) rfl 27 _ _ rfl (l0.length : Int) rfl rfl Try.underlying27 (.agg #[(.int .i64 0), (.int .i64 0)]) 16 info48 rfl (by decide) (by omega) z48 (ok := fun _ => True) (okp := fun _ => True) (k48_mkM _ _ _ z48) (fun _ hk => hk) trivial (by omega) (by have := bm.out; omega) (Below.refl _ _) (Nat.le_refl _) ?_; intro L0 w2 t0 hb ao ap; clear ao ap; have bD := Aside0.mk t0; have bn := Aside0.mk hb; clear t0 hb) | ((with_reducible refine gate_dst (N := 12) rfl ?_); refine copy_event k48 _ rfl (N := 12) rfl (.tmp 10) (.tmp 11) 27 27 48 rfl Try.underlying27 (by have h_ := info48; obtain ⟨i0, hi, bo⟩ := Option.map_eq_some_iff.1 h_; simp only [Prod.mk.injEq] at bo; rw [hi]; exact congrArg some bo.2.1) (by decide) _ _ l0 A0 c0 (fun _ => True) rfl rfl bD.out (Kd.C_below bC.out bn.out) (by simp) bB.out (fun w' x cs h_ w1 b1 o1 => by obtain rfl := k48_open h_; exact k48_mkM _ _ _ x) bn.out ?_; intro w3 t1 hb; have bE0 := Aside0.mk t1; have bF0 := Aside0.mk hb; clear t1 hb))
   go_ret
   exact ⟨_, rfl, bE0.out, bF0.out⟩
 ·rw [if_neg aQ] at h; cases h

/-! ### impl_copied_impl_Put: function 65 -/
def impl_copied_impl_Put.f (l0 : List (S36)) : Option (List (S36)) := if l0.length ≤ 17592186044416 then some l0 else none
set_option maxHeartbeats 8000000 in
set_option maxRecDepth 100000 in
theorem impl_copied_impl_Put.calls (A0 : Option Addr) (c0 : Nat) (l0 : List (S36)) (r : List (S36)) (w : World) (V0 : Kd.C k36 w A0 l0.length l0) (Z0 : l0.length ≤ c0) (h : impl_copied_impl_Put.f l0 = some r) :
  Calls Try.prog 65 #[.slice A0 l0.length c0] w fun e w' => ∃ v0_ : Value, e = .returned (v0_) ∧ Kd.R k36 36 w' w.heap.size (fun _ => True) v0_ r ∧ Below w.heap.size w w' := by
 unfold impl_copied_impl_Put.f at h; by_cases aQ : l0.length ≤ 17592186044416
 ·rw [if_pos aQ] at h; obtain rfl := Option.some.inj h; clear h; have bm := Aside0.mk aQ; by_cases aG0 : l0.length = 0
  ·obtain rfl : l0 = [] := List.eq_nil_of_length_eq_zero aG0; clear V0 Z0 aQ bm aG0
   go_enter Try.func65, Try.ntmps65
   go_wp2
   go_ret
   exact ⟨_, rfl, Kd.R_nil _ _ _ _ _, Below.refl _ _⟩
  ·have be0 : ((l0.length : Int) == 0) = false := beq_eq_false_iff_ne.mpr (by omega); have be1 : (l0.length == 0) = false := beq_eq_false_iff_ne.mpr aG0; have bB := Aside0.mk (Nat.pos_of_ne_zero aG0); have bs0 : (0 : Int) ≤ (l0.length : Int) := Int.natCast_nonneg _; have bC := Aside0.mk V0; have bP := Aside0.mk Z0; clear V0 Z0 aQ aG0
   go_enter Try.func65, Try.ntmps65
   go_wp2_with (first | ((with_reducible refine gate_dst (N := 9) rfl ?_); refine Kd.R_make k36 _ 36 rfl (N := 9) rfl 28 _ _ rfl (l0.length : Int) rfl rfl Try.underlying28 (.agg #[(.int .i64 0), (.int .i64 0)]) 16 info36 rfl (by decide) (by omega) z36 (ok := fun _ => True) (okp := fun _ => True) (k36_mkM _ _ _ z36) (fun _ hk => hk) trivial (by omega) (by have := bm.out; omega) (Below.refl _ _) (Nat.le_refl _) ?_; intro L0 w2 t0 hb ao ap; clear ao ap; have bD := Aside0.mk t0; have bn := Aside0.mk hb; clear t0 hb) | ((with_reducible refine gate_dst (N := 12) rfl ?_); refine copy_event k36 _ rfl (N := 12) rfl (.tmp 10) (.tmp 11) 28 28 36 rfl Try.underlying28 (by have h_ := info36; obtain ⟨i0, hi, bo⟩ := Option.map_eq_some_iff.1 h_; simp only [Prod.mk.injEq] at bo; rw [hi]; exact congrArg some bo.2.1) (by decide) _ _ l0 A0 c0 (fun _ => True) rfl rfl bD.out (Kd.C_below bC.out bn.out) (by simp) bB.out (fun w' x cs h_ w1 b1 o1 => by obtain rfl := k36_open h_; exact k36_mkM _ _ _ x) bn.out ?_; intro w3 t1 hb; have bE0 := Aside0.mk t1; have bF0 := Aside0.mk hb; clear t1 hb))
   go_ret
   exact ⟨_, rfl, bE0.out, bF0.out⟩
 ·rw [if_neg aQ] at h; cases h

end Go.Proofs.Ytgdafcakefnpdaa.PFnSerialOne
