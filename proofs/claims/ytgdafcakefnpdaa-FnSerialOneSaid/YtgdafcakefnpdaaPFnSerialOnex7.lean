-- Laid by this session's program out of the translation (gen.sh).
import Derived.Test.YtgdafcakefnpdaaPFnSerialOnex0
import Derived.Test.YtgdafcakefnpdaaPFnSerialOnex2
import Derived.Test.YtgdafcakefnpdaaPFnSerialOnex6
namespace Go.Proofs.Ytgdafcakefnpdaa.PFnSerialOne
open Go.RowKit Go.Proofs.YtgdafcakefnpdaaW.PrintWords Go.Proofs.YtgdafcakefnpdaaW.PrintLast Go.Proofs.YtgdafcakefnpdaaW.PrintMore
attribute [local go_sem] max2_int min2_int max_two min_two max_three min_three max_four min_four   -- for this text's walks alone
set_option linter.unusedVariables false
set_option linter.unusedSimpArgs false

/-! ### impl_ProgLoads: function 27 -/
def impl_ProgLoads.l0 : Nat → List (S34) → Int → Int → Bool → Bool → Bool → Bool → Option (List Int)
 | 0, _, _, _, _, _, _, _ => none
 | k + 1, x6, x7, x8, x198000, x198001, x198002, x198003 => if x8 < x7 then (if 0 ≤ x8 then (if x8 < (x6.length : Int) then (if ((rd_T34 x6 x8).f0) = 1 then ((impl_in.f ((rd_T34 x6 x8).f2) 0 3).bind fun t200 => (if t200 = true then (if 0 ≤ ((rd_T34 x6 x8).f2) then (if ((rd_T34 x6 x8).f2) < 4 then (impl_ProgLoads.l0 k x6 x7 (wrap64 (x8 + 1)) (ixB ((rd_T34 x6 x8).f2) 0 true x198000) (ixB ((rd_T34 x6 x8).f2) 1 true x198001) (ixB ((rd_T34 x6 x8).f2) 2 true x198002) (ixB ((rd_T34 x6 x8).f2) 3 true x198003)) else (none)) else (none)) else (impl_ProgLoads.l0 k x6 x7 (wrap64 (x8 + 1)) x198000 x198001 x198002 x198003))) else (impl_ProgLoads.l0 k x6 x7 (wrap64 (x8 + 1)) x198000 x198001 x198002 x198003)) else (none)) else (none)) else ((impl_boxesOf.f k x198000 x198001 x198002 x198003).bind fun t202 => (some t202))
def impl_ProgLoads.f (k : Nat) (l0 : List (S34)) : Option (List Int) := impl_ProgLoads.l0 k l0 (l0.length : Int) 0 false false false false
theorem impl_ProgLoads.mono_l : ∀ k, (∀ y0 y1 y2 y3 y4 y5 y6, LeO (impl_ProgLoads.l0 k y0 y1 y2 y3 y4 y5 y6) (impl_ProgLoads.l0 (k + 1) y0 y1 y2 y3 y4 y5 y6))
 | 0 => fun _ _ _ _ _ _ _ r h => by simp [impl_ProgLoads.l0] at h
 | k + 1 => by
  have G0 := impl_ProgLoads.mono_l k
  ·intro y0 y1 y2 y3 y4 y5 y6
   unfold impl_ProgLoads.l0
   repeat' first
   | (with_reducible exact G0 _ _ _ _ _ _ _)
   | (with_reducible exact impl_boxesOf.mono _ _ _ _ _)
   | (with_reducible exact LeO.refl _)
   | (with_reducible exact LeO.none _)
   | (with_reducible refine LeO.ite ?_ ?_)
   | (with_reducible refine LeO.bind ?_ (fun _ => ?_))
   | exact G0 _ _ _ _ _ _ _
   | exact impl_boxesOf.mono _ _ _ _ _
   | exact LeO.none _
   | refine LeO.ite ?_ ?_
   | refine LeO.bind ?_ (fun _ => ?_)
theorem impl_ProgLoads.mono : ∀ a0 k, LeO (impl_ProgLoads.f k a0) (impl_ProgLoads.f (k + 1) a0) := by
 intro a0 k
 have G0 := impl_ProgLoads.mono_l k
 unfold impl_ProgLoads.f
 repeat' first
   | (with_reducible exact G0 _ _ _ _ _ _ _)
   | (with_reducible exact impl_boxesOf.mono _ _ _ _ _)
   | (with_reducible exact LeO.refl _)
   | (with_reducible exact LeO.none _)
   | (with_reducible refine LeO.ite ?_ ?_)
   | (with_reducible refine LeO.bind ?_ (fun _ => ?_))
   | exact G0 _ _ _ _ _ _ _
   | exact impl_boxesOf.mono _ _ _ _ _
   | exact LeO.none _
   | refine LeO.ite ?_ ?_
   | refine LeO.bind ?_ (fun _ => ?_)
set_option maxHeartbeats 8000000 in
set_option maxRecDepth 100000 in
theorem impl_ProgLoads.calls (k : Nat) (A0 : Option Addr) (c0 : Nat) (l0 : List (S34)) (r : List Int) (w : World) (V0 : Kd.C k34 w A0 l0.length l0) (Z0 : l0.length ≤ c0) (h : impl_ProgLoads.f k l0 = some r) :
  Calls Try.prog 27 #[.slice A0 l0.length c0] w fun e w' => ∃ v0_ : Value, e = .returned (v0_) ∧ Kd.R (Kd.int .i64) 3 w' w.heap.size (fun _ => True) v0_ r ∧ Below w.heap.size w w' := by
 have aq0 := Try.underlying51; have aq1 := Try.underlying34; have U0 := Aside0.mk V0; have aa0 := Aside0.mk Z0; clear V0 Z0; have HB := Aside0.mk (Below.refl w.heap.size w); have H : (impl_ProgLoads.l0 k l0 (l0.length : Int) 0 false false false false) = some r := h; clear h; have H' := Aside0.mk H; clear H
 go_enter Try.func27, Try.ntmps27
 go_wp2_with (first | ((with_reducible refine gate_dst (N := 3) rfl ?_); refine bxe_ (N := 3) (cs := #[.bool false, .bool false, .bool false, .bool false]) (t := 51) ?_; intro d0 hg w2 C_ hb; have n_ := A4_ (below_step zq74_ hb) (C_) ((zqa9_ : w.heap.size ≤ d0)) ((zqa9_ : w.heap.size ≤ d0)); clear HB; obtain ⟨HB, c1, B0, n0⟩ := n_; clear hb C_ hg))
 go_loopg [8] k (fun kq v8 w' => ∃ (a0 : Int) (a1 : Bool) (a2 : Bool) (a3 : Bool) (a4 : Bool), v8 = .int .i64 a0 ∧ Aside0 (impl_ProgLoads.l0 kq l0 (l0.length : Int) a0 a1 a2 a3 a4 = some r) ∧ Aside0 (kq ≤ k) ∧ Aside0 (w'.heap[d0]? = some (.cells #[.bool a1, .bool a2, .bool a3, .bool a4] 51 (0, 0))) ∧ Aside0 (Below w.heap.size w w'))
 case atStart => exact ⟨(0), (false), (false), (false), (false), zq69_, H', ⟨Nat.le_refl _⟩, ⟨zq29_⟩, ⟨zq73_⟩⟩
 case round =>
  clear H'
  try clear c2
  try clear p2
  obtain ⟨a0, a1, a2, a3, a4, rfl, HA, X0, c1, HB⟩ := hrel
  cases gk with
  | zero => exact absurd HA.out (by simp [impl_ProgLoads.l0])
  | succ k1 =>
   have H := HA.out; clear HA; simp only [impl_ProgLoads.l0] at H; replace H := ifc_ H
   rcases H with ⟨c3b0, H⟩ | ⟨c3b0, H⟩
   ·replace H := ifd2_ H; obtain ⟨r0, r1, H⟩ := H; by_cases c6 : ((rd_T34 l0 a0).f0) = 1
    ·rw [if_pos c6] at H; have r2 : (((rd_T34 l0 a0).f0) == 1) = true := beq_iff_eq.mpr c6; have r3 : (((rd_T34 l0 a0).f0) != 1) = false := bne_eq_false_iff_eq.mpr c6; clear c6; replace H := bs_ H; obtain ⟨e0, A7, H⟩ := H; (try dsimp only at H); replace H := ifB_ H
     rcases H with ⟨rfl, H⟩ | ⟨rfl, H⟩
     ·replace H := ifd2_ H; obtain ⟨r4, r5, H⟩ := H; have H' := Aside0.mk H; clear H; have x0 : 0 ≤ (a0 : Int) := of_decide_eq_true zq64_; have v0 : a0 < (l0.length : Int) := of_decide_eq_true zq64_; obtain ⟨E0, M0, s0, s1, s2, s3⟩ := at_T34 U0.out a0 x0 v0; cases M0; replace s0 := pb_ HB.out s0; replace s1 := pb_ HB.out s1; replace s2 := pb_ HB.out s2; replace s3 := pb_ HB.out s3; replace x0 := eq_true x0; replace v0 := eq_true v0
      go_wp2_with (first | ((with_reducible refine gate_dst (N := 5) rfl ?_); refine bxe_ (N := 5) (cs := #[.int .i64 0, .int .i64 0, .int .i64 0, .int .i64 0]) (t := 34) ?_; intro d1 hg q0 C_ hb; have n_ := A7_ (blk_below (g := d0) (o := .cells #[.bool a1, .bool a2, .bool a3, .bool a4] 51 (0, 0)) zq29_ hb) (below_step zq73_ hb) (C_) ((zqa8_ : w.heap.size ≤ d1)) ((zqa8_ : w.heap.size ≤ d1)) ((zqbe_ : d0 ≠ d1)) ((zqae_ : d1 ≠ d0)); clear c1 HB; obtain ⟨c1, HB, c3, B1, n1, g0, g1⟩ := n_; clear hb C_ hg; have N0 := g1.out; have O0 := g0.out; obtain ⟨j0, j1, j2, j3, k0, k2, k3, k4⟩ := bz4_ c3.out) | (go_at_call 64; (with_reducible refine (impl_in.calls ((rd_T34 l0 a0).f2) 0 3 true _ A7.out).mono ?_); rintro e w' ⟨rfl, ⟨nd, rfl⟩⟩; (try clear A7); have ad0 : 0 ≤ ((rd_T34 l0 a0).f2) := of_decide_eq_true zq64_; have ae0 : ((rd_T34 l0 a0).f2) < 4 := of_decide_eq_true zq64_; have aH0 := ixcellB4 (w := q0) ((rd_T34 l0 a0).f2) ad0 ae0 c1.out; have aX0 := blk_frozen c1.out ((rd_T34 l0 a0).f2).toNat; have aO0 := eq_true ad0; have aP0 := eq_true ae0) | ((with_reducible refine gate_store (t := 4) (p := 22) rfl ?_); refine store_event (t := 4) (p := 22) (v := ?vo_w15) (w1 := ?wo_w15) ?hg ?ho ?hn ?hr ?_; (case ho => rfl); (case hg => rfl); (case hn => rfl); (case hr => first | (go_simp; done) | (go_simp; rfl)); intro q1 hw; have b0 : Aside0 (q1.heap[d0]? = some (.cells #[.bool (ixB ((rd_T34 l0 a0).f2) 0 true a1), .bool (ixB ((rd_T34 l0 a0).f2) 1 true a2), .bool (ixB ((rd_T34 l0 a0).f2) 2 true a3), .bool (ixB ((rd_T34 l0 a0).f2) 3 true a4)] 51 (0, 0))) := ⟨(by rw [hw]; exact (by (with_reducible repeat (first | refine blk_drewN ?_ _ | refine blk_drew ?_ | refine blk_alloc ?_ _)); refine blk_put (cs := #[.bool a1, .bool a2, .bool a3, .bool a4]) ?_ ((rd_T34 l0 a0).f2).toNat _ (ixputB4 ((rd_T34 l0 a0).f2) true a1 a2 a3 a4 ad0 ae0); (with_reducible repeat (first | refine blk_drewN ?_ _ | refine blk_drew ?_ | refine blk_alloc ?_ _)); refine blk_far ?_ g0.out _; (with_reducible repeat (first | refine blk_drewN ?_ _ | refine blk_drew ?_ | refine blk_alloc ?_ _)); refine blk_far ?_ g0.out _; (with_reducible repeat (first | refine blk_drewN ?_ _ | refine blk_drew ?_ | refine blk_alloc ?_ _)); refine blk_far ?_ g0.out _; (with_reducible repeat (first | refine blk_drewN ?_ _ | refine blk_drew ?_ | refine blk_alloc ?_ _)); refine blk_far ?_ g0.out _; (with_reducible repeat (first | refine blk_drewN ?_ _ | refine blk_drew ?_ | refine blk_alloc ?_ _)); exact c1.out))⟩; have b1 : Aside0 (q1.heap[d1]? = some (.cells #[.int .i64 ((rd_T34 l0 a0).f0), .int .i64 ((rd_T34 l0 a0).f1), .int .i64 ((rd_T34 l0 a0).f2), .int .i64 ((rd_T34 l0 a0).f3)] 34 (0, 0))) := ⟨(by rw [hw]; exact zq3b_)⟩; have b2 : Aside0 (Below w.heap.size w q1) := ⟨(by rw [hw]; exact zq72_)⟩; clear hw; clear c1; clear c3; clear HB; have c1 := b0; have c3 := b1; have HB := b2; clear b0 b1 b2))
      go_roundg k1
      case measure => have := X0.out; omega
      case rel => exact ⟨(wrap64 (a0 + 1)), ((ixB ((rd_T34 l0 a0).f2) 0 true a1)), ((ixB ((rd_T34 l0 a0).f2) 1 true a2)), ((ixB ((rd_T34 l0 a0).f2) 2 true a3)), ((ixB ((rd_T34 l0 a0).f2) 3 true a4)), zq69_, H', ⟨by have := X0.out; omega⟩, ⟨zq29_⟩, ⟨zq72_⟩⟩
     ·have H' := Aside0.mk H; clear H; have x0 : 0 ≤ (a0 : Int) := of_decide_eq_true zq64_; have v0 : a0 < (l0.length : Int) := of_decide_eq_true zq64_; obtain ⟨E0, M0, s0, s1, s2, s3⟩ := at_T34 U0.out a0 x0 v0; cases M0; replace s0 := pb_ HB.out s0; replace s1 := pb_ HB.out s1; replace s2 := pb_ HB.out s2; replace s3 := pb_ HB.out s3; replace x0 := eq_true x0; replace v0 := eq_true v0
      go_wp2_with (first | ((with_reducible refine gate_dst (N := 5) rfl ?_); refine bxe_ (N := 5) (cs := #[.int .i64 0, .int .i64 0, .int .i64 0, .int .i64 0]) (t := 34) ?_; intro d1 hg q0 C_ hb; have n_ := A7_ (blk_below (g := d0) (o := .cells #[.bool a1, .bool a2, .bool a3, .bool a4] 51 (0, 0)) zq29_ hb) (below_step zq73_ hb) (C_) ((zqa8_ : w.heap.size ≤ d1)) ((zqa8_ : w.heap.size ≤ d1)) ((zqbe_ : d0 ≠ d1)) ((zqae_ : d1 ≠ d0)); clear c1 HB; obtain ⟨c1, HB, c3, B1, n1, g0, g1⟩ := n_; clear hb C_ hg; have N0 := g1.out; have O0 := g0.out; obtain ⟨j0, j1, j2, j3, k0, k2, k3, k4⟩ := bz4_ c3.out) | (go_at_call 64; (with_reducible refine (impl_in.calls ((rd_T34 l0 a0).f2) 0 3 false _ A7.out).mono ?_); rintro e w' ⟨rfl, ⟨nd, rfl⟩⟩; (try clear A7)))
      go_roundg k1
      case measure => have := X0.out; omega
      case rel => exact ⟨(wrap64 (a0 + 1)), (a1), (a2), (a3), (a4), zq69_, H', ⟨by have := X0.out; omega⟩, ⟨zq37_⟩, ⟨zq72_⟩⟩
    ·rw [if_neg c6] at H; have r2 : (((rd_T34 l0 a0).f0) == 1) = false := beq_eq_false_iff_ne.mpr c6; have r3 : (((rd_T34 l0 a0).f0) != 1) = true := bne_iff_ne.mpr c6; have H' := Aside0.mk H; clear H; have x0 : 0 ≤ (a0 : Int) := of_decide_eq_true zq64_; have v0 : a0 < (l0.length : Int) := of_decide_eq_true zq64_; obtain ⟨E0, M0, s0, s1, s2, s3⟩ := at_T34 U0.out a0 x0 v0; cases M0; replace s0 := pb_ HB.out s0; replace s1 := pb_ HB.out s1; replace s2 := pb_ HB.out s2; replace s3 := pb_ HB.out s3; replace x0 := eq_true x0; replace v0 := eq_true v0
     go_wp2_with (first | ((with_reducible refine gate_dst (N := 5) rfl ?_); refine bxe_ (N := 5) (cs := #[.int .i64 0, .int .i64 0, .int .i64 0, .int .i64 0]) (t := 34) ?_; intro d1 hg q0 C_ hb; have n_ := A7_ (blk_below (g := d0) (o := .cells #[.bool a1, .bool a2, .bool a3, .bool a4] 51 (0, 0)) zq29_ hb) (below_step zq73_ hb) (C_) ((zqa8_ : w.heap.size ≤ d1)) ((zqa8_ : w.heap.size ≤ d1)) ((zqbe_ : d0 ≠ d1)) ((zqae_ : d1 ≠ d0)); clear c1 HB; obtain ⟨c1, HB, c3, B1, n1, g0, g1⟩ := n_; clear hb C_ hg; have N0 := g1.out; have O0 := g0.out; obtain ⟨j0, j1, j2, j3, k0, k2, k3, k4⟩ := bz4_ c3.out))
     go_roundg k1
     case measure => have := X0.out; omega
     case rel => exact ⟨(wrap64 (a0 + 1)), (a1), (a2), (a3), (a4), zq69_, H', ⟨by have := X0.out; omega⟩, ⟨zq37_⟩, ⟨zq72_⟩⟩
   ·replace H := bs_ H; obtain ⟨e0, y0, H⟩ := H; (try dsimp only at H); obtain rfl := Option.some.inj H; obtain ⟨j0, j1, j2, j3, k0, k2, k3, k4⟩ := bz4_ c1.out
    go_wp2_with (first | ((with_reducible refine gate_callee (f := 79) rfl ?_); refine gl_ 25 Try.func79 #[.agg #[.bool a1, .bool a2, .bool a3, .bool a4]] ?_; (with_reducible refine (impl_boxesOf.calls k1 a1 a2 a3 a4 e0 _ y0.out).mono ?_); rintro e q0 ⟨L0, rfl, t0, hb⟩; refine ⟨_, rfl, ?_⟩; have n_ := A3_ (Kd.R_lower t0 (below_size zq73_)) (blk_below (g := d0) (o := .cells #[.bool a1, .bool a2, .bool a3, .bool a4] 51 (0, 0)) zq29_ hb) (below_step zq73_ hb); clear c1 HB; obtain ⟨f4, c1, HB⟩ := n_; (try clear hb); (try clear t0)))
    go_ret
    exact ⟨_, zq68_, zq1c_, zq73_⟩

/-! ### impl_ProgPuts: function 28 -/
def impl_ProgPuts.l0 : Nat → List (S34) → Int → Int → Bool → Bool → Bool → Bool → Option (List Int)
 | 0, _, _, _, _, _, _, _ => none
 | k + 1, x6, x7, x8, x206000, x206001, x206002, x206003 => if x8 < x7 then (if 0 ≤ x8 then (if x8 < (x6.length : Int) then (if ((rd_T34 x6 x8).f0) = 2 then ((impl_in.f ((rd_T34 x6 x8).f1) 0 3).bind fun t208 => (if t208 = true then (if 0 ≤ ((rd_T34 x6 x8).f1) then (if ((rd_T34 x6 x8).f1) < 4 then (impl_ProgPuts.l0 k x6 x7 (wrap64 (x8 + 1)) (ixB ((rd_T34 x6 x8).f1) 0 true x206000) (ixB ((rd_T34 x6 x8).f1) 1 true x206001) (ixB ((rd_T34 x6 x8).f1) 2 true x206002) (ixB ((rd_T34 x6 x8).f1) 3 true x206003)) else (none)) else (none)) else (impl_ProgPuts.l0 k x6 x7 (wrap64 (x8 + 1)) x206000 x206001 x206002 x206003))) else (impl_ProgPuts.l0 k x6 x7 (wrap64 (x8 + 1)) x206000 x206001 x206002 x206003)) else (none)) else (none)) else ((impl_boxesOf.f k x206000 x206001 x206002 x206003).bind fun t210 => (some t210))
def impl_ProgPuts.f (k : Nat) (l0 : List (S34)) : Option (List Int) := impl_ProgPuts.l0 k l0 (l0.length : Int) 0 false false false false
theorem impl_ProgPuts.mono_l : ∀ k, (∀ y0 y1 y2 y3 y4 y5 y6, LeO (impl_ProgPuts.l0 k y0 y1 y2 y3 y4 y5 y6) (impl_ProgPuts.l0 (k + 1) y0 y1 y2 y3 y4 y5 y6))
 | 0 => fun _ _ _ _ _ _ _ r h => by simp [impl_ProgPuts.l0] at h
 | k + 1 => by
  have G0 := impl_ProgPuts.mono_l k
  ·intro y0 y1 y2 y3 y4 y5 y6
   unfold impl_ProgPuts.l0
   repeat' first
   | (with_reducible exact G0 _ _ _ _ _ _ _)
   | (with_reducible exact impl_boxesOf.mono _ _ _ _ _)
   | (with_reducible exact LeO.refl _)
   | (with_reducible exact LeO.none _)
   | (with_reducible refine LeO.ite ?_ ?_)
   | (with_reducible refine LeO.bind ?_ (fun _ => ?_))
   | exact G0 _ _ _ _ _ _ _
   | exact impl_boxesOf.mono _ _ _ _ _
   | exact LeO.none _
   | refine LeO.ite ?_ ?_
   | refine LeO.bind ?_ (fun _ => ?_)
theorem impl_ProgPuts.mono : ∀ a0 k, LeO (impl_ProgPuts.f k a0) (impl_ProgPuts.f (k + 1) a0) := by
 intro a0 k
 have G0 := impl_ProgPuts.mono_l k
 unfold impl_ProgPuts.f
 repeat' first
   | (with_reducible exact G0 _ _ _ _ _ _ _)
   | (with_reducible exact impl_boxesOf.mono _ _ _ _ _)
   | (with_reducible exact LeO.refl _)
   | (with_reducible exact LeO.none _)
   | (with_reducible refine LeO.ite ?_ ?_)
   | (with_reducible refine LeO.bind ?_ (fun _ => ?_))
   | exact G0 _ _ _ _ _ _ _
   | exact impl_boxesOf.mono _ _ _ _ _
   | exact LeO.none _
   | refine LeO.ite ?_ ?_
   | refine LeO.bind ?_ (fun _ => ?_)
set_option maxHeartbeats 8000000 in
set_option maxRecDepth 100000 in
theorem impl_ProgPuts.calls (k : Nat) (A0 : Option Addr) (c0 : Nat) (l0 : List (S34)) (r : List Int) (w : World) (V0 : Kd.C k34 w A0 l0.length l0) (Z0 : l0.length ≤ c0) (h : impl_ProgPuts.f k l0 = some r) :
  Calls Try.prog 28 #[.slice A0 l0.length c0] w fun e w' => ∃ v0_ : Value, e = .returned (v0_) ∧ Kd.R (Kd.int .i64) 3 w' w.heap.size (fun _ => True) v0_ r ∧ Below w.heap.size w w' := by
 have aq0 := Try.underlying51; have aq1 := Try.underlying34; have U0 := Aside0.mk V0; have aa0 := Aside0.mk Z0; clear V0 Z0; have HB := Aside0.mk (Below.refl w.heap.size w); have H : (impl_ProgPuts.l0 k l0 (l0.length : Int) 0 false false false false) = some r := h; clear h; have H' := Aside0.mk H; clear H
 go_enter Try.func28, Try.ntmps28
 go_wp2_with (first | ((with_reducible refine gate_dst (N := 3) rfl ?_); refine bxe_ (N := 3) (cs := #[.bool false, .bool false, .bool false, .bool false]) (t := 51) ?_; intro d0 hg w2 C_ hb; have n_ := A4_ (below_step zq74_ hb) (C_) ((zqa9_ : w.heap.size ≤ d0)) ((zqa9_ : w.heap.size ≤ d0)); clear HB; obtain ⟨HB, c1, B0, n0⟩ := n_; clear hb C_ hg))
 go_loopg [8] k (fun kq v8 w' => ∃ (a0 : Int) (a1 : Bool) (a2 : Bool) (a3 : Bool) (a4 : Bool), v8 = .int .i64 a0 ∧ Aside0 (impl_ProgPuts.l0 kq l0 (l0.length : Int) a0 a1 a2 a3 a4 = some r) ∧ Aside0 (kq ≤ k) ∧ Aside0 (w'.heap[d0]? = some (.cells #[.bool a1, .bool a2, .bool a3, .bool a4] 51 (0, 0))) ∧ Aside0 (Below w.heap.size w w'))
 case atStart => exact ⟨(0), (false), (false), (false), (false), zq69_, H', ⟨Nat.le_refl _⟩, ⟨zq29_⟩, ⟨zq73_⟩⟩
 case round =>
  clear H'
  try clear c2
  try clear p2
  obtain ⟨a0, a1, a2, a3, a4, rfl, HA, X0, c1, HB⟩ := hrel
  cases gk with
  | zero => exact absurd HA.out (by simp [impl_ProgPuts.l0])
  | succ k1 =>
   have H := HA.out; clear HA; simp only [impl_ProgPuts.l0] at H; replace H := ifc_ H
   rcases H with ⟨c3b0, H⟩ | ⟨c3b0, H⟩
   ·replace H := ifd2_ H; obtain ⟨r0, r1, H⟩ := H; by_cases c6 : ((rd_T34 l0 a0).f0) = 2
    ·rw [if_pos c6] at H; have r2 : (((rd_T34 l0 a0).f0) == 2) = true := beq_iff_eq.mpr c6; have r3 : (((rd_T34 l0 a0).f0) != 2) = false := bne_eq_false_iff_eq.mpr c6; clear c6; replace H := bs_ H; obtain ⟨e0, A7, H⟩ := H; (try dsimp only at H); replace H := ifB_ H
     rcases H with ⟨rfl, H⟩ | ⟨rfl, H⟩
     ·replace H := ifd2_ H; obtain ⟨r4, r5, H⟩ := H; have H' := Aside0.mk H; clear H; have x0 : 0 ≤ (a0 : Int) := of_decide_eq_true zq64_; have v0 : a0 < (l0.length : Int) := of_decide_eq_true zq64_; obtain ⟨E0, M0, s0, s1, s2, s3⟩ := at_T34 U0.out a0 x0 v0; cases M0; replace s0 := pb_ HB.out s0; replace s1 := pb_ HB.out s1; replace s2 := pb_ HB.out s2; replace s3 := pb_ HB.out s3; replace x0 := eq_true x0; replace v0 := eq_true v0
      go_wp2_with (first | ((with_reducible refine gate_dst (N := 5) rfl ?_); refine bxe_ (N := 5) (cs := #[.int .i64 0, .int .i64 0, .int .i64 0, .int .i64 0]) (t := 34) ?_; intro d1 hg q0 C_ hb; have n_ := A7_ (blk_below (g := d0) (o := .cells #[.bool a1, .bool a2, .bool a3, .bool a4] 51 (0, 0)) zq29_ hb) (below_step zq73_ hb) (C_) ((zqa8_ : w.heap.size ≤ d1)) ((zqa8_ : w.heap.size ≤ d1)) ((zqbe_ : d0 ≠ d1)) ((zqae_ : d1 ≠ d0)); clear c1 HB; obtain ⟨c1, HB, c3, B1, n1, g0, g1⟩ := n_; clear hb C_ hg; have N0 := g1.out; have O0 := g0.out; obtain ⟨j0, j1, j2, j3, k0, k2, k3, k4⟩ := bz4_ c3.out) | (go_at_call 64; (with_reducible refine (impl_in.calls ((rd_T34 l0 a0).f1) 0 3 true _ A7.out).mono ?_); rintro e w' ⟨rfl, ⟨nd, rfl⟩⟩; (try clear A7); have ad0 : 0 ≤ ((rd_T34 l0 a0).f1) := of_decide_eq_true zq64_; have ae0 : ((rd_T34 l0 a0).f1) < 4 := of_decide_eq_true zq64_; have aH0 := ixcellB4 (w := q0) ((rd_T34 l0 a0).f1) ad0 ae0 c1.out; have aX0 := blk_frozen c1.out ((rd_T34 l0 a0).f1).toNat; have aO0 := eq_true ad0; have aP0 := eq_true ae0) | ((with_reducible refine gate_store (t := 4) (p := 22) rfl ?_); refine store_event (t := 4) (p := 22) (v := ?vo_w15) (w1 := ?wo_w15) ?hg ?ho ?hn ?hr ?_; (case ho => rfl); (case hg => rfl); (case hn => rfl); (case hr => first | (go_simp; done) | (go_simp; rfl)); intro q1 hw; have b0 : Aside0 (q1.heap[d0]? = some (.cells #[.bool (ixB ((rd_T34 l0 a0).f1) 0 true a1), .bool (ixB ((rd_T34 l0 a0).f1) 1 true a2), .bool (ixB ((rd_T34 l0 a0).f1) 2 true a3), .bool (ixB ((rd_T34 l0 a0).f1) 3 true a4)] 51 (0, 0))) := ⟨(by rw [hw]; exact (by (with_reducible repeat (first | refine blk_drewN ?_ _ | refine blk_drew ?_ | refine blk_alloc ?_ _)); refine blk_put (cs := #[.bool a1, .bool a2, .bool a3, .bool a4]) ?_ ((rd_T34 l0 a0).f1).toNat _ (ixputB4 ((rd_T34 l0 a0).f1) true a1 a2 a3 a4 ad0 ae0); (with_reducible repeat (first | refine blk_drewN ?_ _ | refine blk_drew ?_ | refine blk_alloc ?_ _)); refine blk_far ?_ g0.out _; (with_reducible repeat (first | refine blk_drewN ?_ _ | refine blk_drew ?_ | refine blk_alloc ?_ _)); refine blk_far ?_ g0.out _; (with_reducible repeat (first | refine blk_drewN ?_ _ | refine blk_drew ?_ | refine blk_alloc ?_ _)); refine blk_far ?_ g0.out _; (with_reducible repeat (first | refine blk_drewN ?_ _ | refine blk_drew ?_ | refine blk_alloc ?_ _)); refine blk_far ?_ g0.out _; (with_reducible repeat (first | refine blk_drewN ?_ _ | refine blk_drew ?_ | refine blk_alloc ?_ _)); exact c1.out))⟩; have b1 : Aside0 (q1.heap[d1]? = some (.cells #[.int .i64 ((rd_T34 l0 a0).f0), .int .i64 ((rd_T34 l0 a0).f1), .int .i64 ((rd_T34 l0 a0).f2), .int .i64 ((rd_T34 l0 a0).f3)] 34 (0, 0))) := ⟨(by rw [hw]; exact zq3b_)⟩; have b2 : Aside0 (Below w.heap.size w q1) := ⟨(by rw [hw]; exact zq72_)⟩; clear hw; clear c1; clear c3; clear HB; have c1 := b0; have c3 := b1; have HB := b2; clear b0 b1 b2))
      go_roundg k1
      case measure => have := X0.out; omega
      case rel => exact ⟨(wrap64 (a0 + 1)), ((ixB ((rd_T34 l0 a0).f1) 0 true a1)), ((ixB ((rd_T34 l0 a0).f1) 1 true a2)), ((ixB ((rd_T34 l0 a0).f1) 2 true a3)), ((ixB ((rd_T34 l0 a0).f1) 3 true a4)), zq69_, H', ⟨by have := X0.out; omega⟩, ⟨zq29_⟩, ⟨zq72_⟩⟩
     ·have H' := Aside0.mk H; clear H; have x0 : 0 ≤ (a0 : Int) := of_decide_eq_true zq64_; have v0 : a0 < (l0.length : Int) := of_decide_eq_true zq64_; obtain ⟨E0, M0, s0, s1, s2, s3⟩ := at_T34 U0.out a0 x0 v0; cases M0; replace s0 := pb_ HB.out s0; replace s1 := pb_ HB.out s1; replace s2 := pb_ HB.out s2; replace s3 := pb_ HB.out s3; replace x0 := eq_true x0; replace v0 := eq_true v0
      go_wp2_with (first | ((with_reducible refine gate_dst (N := 5) rfl ?_); refine bxe_ (N := 5) (cs := #[.int .i64 0, .int .i64 0, .int .i64 0, .int .i64 0]) (t := 34) ?_; intro d1 hg q0 C_ hb; have n_ := A7_ (blk_below (g := d0) (o := .cells #[.bool a1, .bool a2, .bool a3, .bool a4] 51 (0, 0)) zq29_ hb) (below_step zq73_ hb) (C_) ((zqa8_ : w.heap.size ≤ d1)) ((zqa8_ : w.heap.size ≤ d1)) ((zqbe_ : d0 ≠ d1)) ((zqae_ : d1 ≠ d0)); clear c1 HB; obtain ⟨c1, HB, c3, B1, n1, g0, g1⟩ := n_; clear hb C_ hg; have N0 := g1.out; have O0 := g0.out; obtain ⟨j0, j1, j2, j3, k0, k2, k3, k4⟩ := bz4_ c3.out) | (go_at_call 64; (with_reducible refine (impl_in.calls ((rd_T34 l0 a0).f1) 0 3 false _ A7.out).mono ?_); rintro e w' ⟨rfl, ⟨nd, rfl⟩⟩; (try clear A7)))
      go_roundg k1
      case measure => have := X0.out; omega
      case rel => exact ⟨(wrap64 (a0 + 1)), (a1), (a2), (a3), (a4), zq69_, H', ⟨by have := X0.out; omega⟩, ⟨zq37_⟩, ⟨zq72_⟩⟩
    ·rw [if_neg c6] at H; have r2 : (((rd_T34 l0 a0).f0) == 2) = false := beq_eq_false_iff_ne.mpr c6; have r3 : (((rd_T34 l0 a0).f0) != 2) = true := bne_iff_ne.mpr c6; have H' := Aside0.mk H; clear H; have x0 : 0 ≤ (a0 : Int) := of_decide_eq_true zq64_; have v0 : a0 < (l0.length : Int) := of_decide_eq_true zq64_; obtain ⟨E0, M0, s0, s1, s2, s3⟩ := at_T34 U0.out a0 x0 v0; cases M0; replace s0 := pb_ HB.out s0; replace s1 := pb_ HB.out s1; replace s2 := pb_ HB.out s2; replace s3 := pb_ HB.out s3; replace x0 := eq_true x0; replace v0 := eq_true v0
     go_wp2_with (first | ((with_reducible refine gate_dst (N := 5) rfl ?_); refine bxe_ (N := 5) (cs := #[.int .i64 0, .int .i64 0, .int .i64 0, .int .i64 0]) (t := 34) ?_; intro d1 hg q0 C_ hb; have n_ := A7_ (blk_below (g := d0) (o := .cells #[.bool a1, .bool a2, .bool a3, .bool a4] 51 (0, 0)) zq29_ hb) (below_step zq73_ hb) (C_) ((zqa8_ : w.heap.size ≤ d1)) ((zqa8_ : w.heap.size ≤ d1)) ((zqbe_ : d0 ≠ d1)) ((zqae_ : d1 ≠ d0)); clear c1 HB; obtain ⟨c1, HB, c3, B1, n1, g0, g1⟩ := n_; clear hb C_ hg; have N0 := g1.out; have O0 := g0.out; obtain ⟨j0, j1, j2, j3, k0, k2, k3, k4⟩ := bz4_ c3.out))
     go_roundg k1
     case measure => have := X0.out; omega
     case rel => exact ⟨(wrap64 (a0 + 1)), (a1), (a2), (a3), (a4), zq69_, H', ⟨by have := X0.out; omega⟩, ⟨zq37_⟩, ⟨zq72_⟩⟩
   ·replace H := bs_ H; obtain ⟨e0, y0, H⟩ := H; (try dsimp only at H); obtain rfl := Option.some.inj H; obtain ⟨j0, j1, j2, j3, k0, k2, k3, k4⟩ := bz4_ c1.out
    go_wp2_with (first | ((with_reducible refine gate_callee (f := 79) rfl ?_); refine gl_ 25 Try.func79 #[.agg #[.bool a1, .bool a2, .bool a3, .bool a4]] ?_; (with_reducible refine (impl_boxesOf.calls k1 a1 a2 a3 a4 e0 _ y0.out).mono ?_); rintro e q0 ⟨L0, rfl, t0, hb⟩; refine ⟨_, rfl, ?_⟩; have n_ := A3_ (Kd.R_lower t0 (below_size zq73_)) (blk_below (g := d0) (o := .cells #[.bool a1, .bool a2, .bool a3, .bool a4] 51 (0, 0)) zq29_ hb) (below_step zq73_ hb); clear c1 HB; obtain ⟨f4, c1, HB⟩ := n_; (try clear hb); (try clear t0)))
    go_ret
    exact ⟨_, zq68_, zq1c_, zq73_⟩

/-! ### spec_l1Num: function 74 -/
def spec_l1Num.f (a0 : Int) : Option (Bool) := if a0 ≥ (-1000000) then (some (decide (a0 ≤ 1000000))) else (some false)
set_option maxHeartbeats 8000000 in
set_option maxRecDepth 100000 in
theorem spec_l1Num.calls (a0 : Int) (r : Bool) (w : World) (h : spec_l1Num.f a0 = some r) :
  Calls Try.prog 74 #[.int .i64 a0] w fun e w' => e = .returned (.bool r) ∧ Drawn0 w w' := by
 have H : (if a0 ≥ (-1000000) then (some (decide (a0 ≤ 1000000))) else (some false)) = some r := h; clear h; replace H := ifc_ H
 rcases H with ⟨c2b0, H⟩ | ⟨c2b0, H⟩
 ·change decide ((-1000000) ≤ a0) = true at c2b0; obtain rfl := Option.some.inj H
  go_enter Try.func74, Try.ntmps74
  go_wp2
  go_ret
  exact ⟨zq69_, zq8e_⟩
 ·change decide ((-1000000) ≤ a0) = false at c2b0; obtain rfl := Option.some.inj H
  go_enter Try.func74, Try.ntmps74
  go_wp2
  go_ret
  exact ⟨zq69_, zq8e_⟩

/-! ### spec_BoxOk: function 24 -/
def spec_BoxOk.l0 : Nat → List (S46) → Int → Option (Bool)
 | 0, _, _ => none
 | k + 1, x0, x3 => if x3 < (x0.length : Int) then (if 0 ≤ x3 then (if ((rd_T46 x0 x3).f0) < 0 then (some false) else (if ((rd_T46 x0 x3).f0) > 1000000 then (some false) else ((spec_l1Num.f ((rd_T46 x0 x3).f1)).bind fun t216 => (if t216 = true then (spec_BoxOk.l0 k x0 (wrap64 (x3 + 1))) else (some false))))) else (none)) else (some true)
def spec_BoxOk.f (k : Nat) (l0 : List (S46)) : Option (Bool) := if (l0.length : Int) = 4 then (spec_BoxOk.l0 k l0 0) else (some false)
theorem spec_BoxOk.mono_l : ∀ k, (∀ y0 y1, LeO (spec_BoxOk.l0 k y0 y1) (spec_BoxOk.l0 (k + 1) y0 y1))
 | 0 => fun _ _ r h => by simp [spec_BoxOk.l0] at h
 | k + 1 => by
  have G0 := spec_BoxOk.mono_l k
  ·intro y0 y1
   unfold spec_BoxOk.l0
   repeat' first
   | (with_reducible exact G0 _ _)
   | (with_reducible exact LeO.refl _)
   | (with_reducible exact LeO.none _)
   | (with_reducible refine LeO.ite ?_ ?_)
   | (with_reducible refine LeO.bind ?_ (fun _ => ?_))
   | exact G0 _ _
   | exact LeO.none _
   | refine LeO.ite ?_ ?_
   | refine LeO.bind ?_ (fun _ => ?_)
theorem spec_BoxOk.mono : ∀ a0 k, LeO (spec_BoxOk.f k a0) (spec_BoxOk.f (k + 1) a0) := by
 intro a0 k
 have G0 := spec_BoxOk.mono_l k
 unfold spec_BoxOk.f
 repeat' first
   | (with_reducible exact G0 _ _)
   | (with_reducible exact LeO.refl _)
   | (with_reducible exact LeO.none _)
   | (with_reducible refine LeO.ite ?_ ?_)
   | (with_reducible refine LeO.bind ?_ (fun _ => ?_))
   | exact G0 _ _
   | exact LeO.none _
   | refine LeO.ite ?_ ?_
   | refine LeO.bind ?_ (fun _ => ?_)
set_option maxHeartbeats 8000000 in
set_option maxRecDepth 100000 in
theorem spec_BoxOk.calls (k : Nat) (A0 : Option Addr) (c0 : Nat) (l0 : List (S46)) (r : Bool) (w : World) (V0 : Kd.C k46 w A0 l0.length l0) (Z0 : l0.length ≤ c0) (h : spec_BoxOk.f k l0 = some r) :
  Calls Try.prog 24 #[.slice A0 l0.length c0] w fun e w' => e = .returned (.bool r) ∧ Drawn0 w w' := by
 have U0 := Aside0.mk V0; have aa0 := Aside0.mk Z0; clear V0 Z0; have H : (if (l0.length : Int) = 4 then (spec_BoxOk.l0 k l0 0) else (some false)) = some r := h; clear h; by_cases c2 : (l0.length : Int) = 4
 ·rw [if_pos c2] at H; have r0 : ((l0.length : Int) == 4) = true := beq_iff_eq.mpr c2; have r1 : ((l0.length : Int) != 4) = false := bne_eq_false_iff_eq.mpr c2; clear c2; have H' := Aside0.mk H; clear H
  go_enter Try.func24, Try.ntmps24
  go_wp2
  go_loopg [3] k (fun kq v3 w' => ∃ (a0 : Int), v3 = .int .i64 a0 ∧ Aside0 (spec_BoxOk.l0 kq l0 a0 = some r) ∧ Aside0 (kq ≤ k) ∧ Drawn0 w w')
  case atStart => exact ⟨(0), zq69_, H', ⟨Nat.le_refl _⟩, zq8e_⟩
  case round =>
   clear H'
   try clear c2
   try clear r0
   try clear r1
   try clear p2
   obtain ⟨a0, rfl, HA, X0, ⟨m1, rfl⟩⟩ := hrel
   cases gk with
   | zero => exact absurd HA.out (by simp [spec_BoxOk.l0])
   | succ k1 =>
    have H := HA.out; clear HA; simp only [spec_BoxOk.l0] at H; replace H := ifc_ H
    rcases H with ⟨c3b0, H⟩ | ⟨c3b0, H⟩
    ·replace H := ifd_ H; obtain ⟨r2, H⟩ := H; replace H := ifc_ H
     rcases H with ⟨c5b0, H⟩ | ⟨c5b0, H⟩
     ·obtain rfl := Option.some.inj H; have x0 : 0 ≤ (a0 : Int) := of_decide_eq_true zq64_; have v0 : a0 < (l0.length : Int) := of_decide_eq_true zq64_; obtain ⟨E0, M0, s0, s1⟩ := at_T46 U0.out a0 x0 v0; cases M0; replace x0 := eq_true x0; replace v0 := eq_true v0
      go_wp2
      go_ret
      exact ⟨zq69_, zq8e_⟩
     ·replace H := ifc_ H
      rcases H with ⟨c6b0, H⟩ | ⟨c6b0, H⟩
      ·change decide (1000000 < ((rd_T46 l0 a0).f0)) = true at c6b0; obtain rfl := Option.some.inj H; have x0 : 0 ≤ (a0 : Int) := of_decide_eq_true zq64_; have v0 : a0 < (l0.length : Int) := of_decide_eq_true zq64_; obtain ⟨E0, M0, s0, s1⟩ := at_T46 U0.out a0 x0 v0; cases M0; replace x0 := eq_true x0; replace v0 := eq_true v0; have x1 : 0 ≤ (a0 : Int) := of_decide_eq_true zq64_; have v1 : a0 < (l0.length : Int) := of_decide_eq_true zq64_; obtain ⟨E1, M1, s2, s3⟩ := at_T46 U0.out a0 x1 v1; obtain rfl : E0 = E1 := (by injection M1); replace x1 := eq_true x1; replace v1 := eq_true v1
       go_wp2
       go_ret
       exact ⟨zq69_, zq8e_⟩
      ·change decide (1000000 < ((rd_T46 l0 a0).f0)) = false at c6b0; replace H := bs_ H; obtain ⟨e0, A7, H⟩ := H; (try dsimp only at H); replace H := ifB_ H
       rcases H with ⟨rfl, H⟩ | ⟨rfl, H⟩
       ·have H' := Aside0.mk H; clear H; have x0 : 0 ≤ (a0 : Int) := of_decide_eq_true zq64_; have v0 : a0 < (l0.length : Int) := of_decide_eq_true zq64_; obtain ⟨E0, M0, s0, s1⟩ := at_T46 U0.out a0 x0 v0; cases M0; replace x0 := eq_true x0; replace v0 := eq_true v0; have x1 : 0 ≤ (a0 : Int) := of_decide_eq_true zq64_; have v1 : a0 < (l0.length : Int) := of_decide_eq_true zq64_; obtain ⟨E1, M1, s2, s3⟩ := at_T46 U0.out a0 x1 v1; obtain rfl : E0 = E1 := (by injection M1); replace x1 := eq_true x1; replace v1 := eq_true v1; have x2 : 0 ≤ (a0 : Int) := of_decide_eq_true zq64_; have v2 : a0 < (l0.length : Int) := of_decide_eq_true zq64_; obtain ⟨E2, M2, s4, s5⟩ := at_T46 U0.out a0 x2 v2; obtain rfl : E0 = E2 := (by injection M2); replace x2 := eq_true x2; replace v2 := eq_true v2
        go_wp2_with (first | (go_at_call 74; (with_reducible refine (spec_l1Num.calls ((rd_T46 l0 a0).f1) true _ A7.out).mono ?_); rintro e w' ⟨rfl, ⟨nd, rfl⟩⟩; (try clear A7)))
        go_roundg k1
        case measure => have := X0.out; omega
        case rel => exact ⟨(wrap64 (a0 + 1)), zq69_, H', ⟨by have := X0.out; omega⟩, zq8e_⟩
       ·obtain rfl := Option.some.inj H; have x0 : 0 ≤ (a0 : Int) := of_decide_eq_true zq64_; have v0 : a0 < (l0.length : Int) := of_decide_eq_true zq64_; obtain ⟨E0, M0, s0, s1⟩ := at_T46 U0.out a0 x0 v0; cases M0; replace x0 := eq_true x0; replace v0 := eq_true v0; have x1 : 0 ≤ (a0 : Int) := of_decide_eq_true zq64_; have v1 : a0 < (l0.length : Int) := of_decide_eq_true zq64_; obtain ⟨E1, M1, s2, s3⟩ := at_T46 U0.out a0 x1 v1; obtain rfl : E0 = E1 := (by injection M1); replace x1 := eq_true x1; replace v1 := eq_true v1; have x2 : 0 ≤ (a0 : Int) := of_decide_eq_true zq64_; have v2 : a0 < (l0.length : Int) := of_decide_eq_true zq64_; obtain ⟨E2, M2, s4, s5⟩ := at_T46 U0.out a0 x2 v2; obtain rfl : E0 = E2 := (by injection M2); replace x2 := eq_true x2; replace v2 := eq_true v2
        go_wp2_with (first | (go_at_call 74; (with_reducible refine (spec_l1Num.calls ((rd_T46 l0 a0).f1) false _ A7.out).mono ?_); rintro e w' ⟨rfl, ⟨nd, rfl⟩⟩; (try clear A7)))
        go_ret
        exact ⟨zq69_, zq8e_⟩
    ·obtain rfl := Option.some.inj H
     go_wp2
     go_ret
     exact ⟨zq69_, zq8e_⟩
 ·rw [if_neg c2] at H; have r0 : ((l0.length : Int) == 4) = false := beq_eq_false_iff_ne.mpr c2; have r1 : ((l0.length : Int) != 4) = true := bne_iff_ne.mpr c2; obtain rfl := Option.some.inj H
  go_enter Try.func24, Try.ntmps24
  go_wp2
  go_ret
  exact ⟨zq69_, zq8e_⟩

/-! ### spec_l2Box: function 75 -/
def spec_l2Box.f (a0 : Int) : Option (Bool) := if a0 ≥ 0 then (some (decide (a0 < 4))) else (some false)
set_option maxHeartbeats 8000000 in
set_option maxRecDepth 100000 in
theorem spec_l2Box.calls (a0 : Int) (r : Bool) (w : World) (h : spec_l2Box.f a0 = some r) :
  Calls Try.prog 75 #[.int .i64 a0] w fun e w' => e = .returned (.bool r) ∧ Drawn0 w w' := by
 have H : (if a0 ≥ 0 then (some (decide (a0 < 4))) else (some false)) = some r := h; clear h; replace H := ifc_ H
 rcases H with ⟨c2b0, H⟩ | ⟨c2b0, H⟩
 ·change decide (0 ≤ a0) = true at c2b0; obtain rfl := Option.some.inj H
  go_enter Try.func75, Try.ntmps75
  go_wp2
  go_ret
  exact ⟨zq69_, zq8e_⟩
 ·change decide (0 ≤ a0) = false at c2b0; obtain rfl := Option.some.inj H
  go_enter Try.func75, Try.ntmps75
  go_wp2
  go_ret
  exact ⟨zq69_, zq8e_⟩

/-! ### spec_l2Reg: function 103 -/
def spec_l2Reg.f (a0 : Int) : Option (Bool) := if a0 ≥ 0 then (some (decide (a0 < 4))) else (some false)
set_option maxHeartbeats 8000000 in
set_option maxRecDepth 100000 in
theorem spec_l2Reg.calls (a0 : Int) (r : Bool) (w : World) (h : spec_l2Reg.f a0 = some r) :
  Calls Try.prog 103 #[.int .i64 a0] w fun e w' => e = .returned (.bool r) ∧ Drawn0 w w' := by
 have H : (if a0 ≥ 0 then (some (decide (a0 < 4))) else (some false)) = some r := h; clear h; replace H := ifc_ H
 rcases H with ⟨c2b0, H⟩ | ⟨c2b0, H⟩
 ·change decide (0 ≤ a0) = true at c2b0; obtain rfl := Option.some.inj H
  go_enter Try.func103, Try.ntmps103
  go_wp2
  go_ret
  exact ⟨zq69_, zq8e_⟩
 ·change decide (0 ≤ a0) = false at c2b0; obtain rfl := Option.some.inj H
  go_enter Try.func103, Try.ntmps103
  go_wp2
  go_ret
  exact ⟨zq69_, zq8e_⟩

end Go.Proofs.Ytgdafcakefnpdaa.PFnSerialOne
