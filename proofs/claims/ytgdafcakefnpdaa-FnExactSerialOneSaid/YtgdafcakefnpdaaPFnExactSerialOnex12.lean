-- Laid by this session's program out of the translation (gen.sh).
import Derived.Test.YtgdafcakefnpdaaPFnExactSerialOnex0
namespace Go.Proofs.Ytgdafcakefnpdaa.PFnExactSerialOne
open Go.RowKit Go.Proofs.YtgdafcakefnpdaaW.PrintWords Go.Proofs.YtgdafcakefnpdaaW.PrintLast Go.Proofs.YtgdafcakefnpdaaW.PrintMore
attribute [local go_sem] max2_int min2_int max_two min_two max_three min_three max_four min_four   -- for this text's walks alone
set_option linter.unusedVariables false
set_option linter.unusedSimpArgs false

/-! ### laws_eqIns: function 83 -/
def laws_eqIns.f (a0_0 : Int) (a0_1 : Int) (a0_2 : Int) (a0_3 : Int) (a1_0 : Int) (a1_1 : Int) (a1_2 : Int) (a1_3 : Int) : Option (Bool) := if a0_0 = a1_0 then (if a0_1 = a1_1 then (if a0_2 = a1_2 then (if a0_3 = a1_3 then (some true) else (some false)) else (some false)) else (some false)) else (some false)
set_option maxHeartbeats 8000000 in
set_option maxRecDepth 100000 in
theorem laws_eqIns.calls (e0 : Int) (e1 : Int) (e2 : Int) (e3 : Int) (e4 : Int) (e5 : Int) (e6 : Int) (e7 : Int) (r : Bool) (w : World) (h : laws_eqIns.f e0 e1 e2 e3 e4 e5 e6 e7 = some r) :
  Calls Try.prog 83 #[.agg #[.int .i64 e0, .int .i64 e1, .int .i64 e2, .int .i64 e3], .agg #[.int .i64 e4, .int .i64 e5, .int .i64 e6, .int .i64 e7]] w fun e w' => e = .returned (.bool r) ∧ Below w.heap.size w w' := by
 have ar0 := Try.underlying34; have HB := Aside0.mk (Below.refl w.heap.size w); have H : (if e0 = e4 then (if e1 = e5 then (if e2 = e6 then (if e3 = e7 then (some true) else (some false)) else (some false)) else (some false)) else (some false)) = some r := h; clear h; by_cases c3 : e0 = e4
 ·rw [if_pos c3] at H; have r0 : (e0 == e4) = true := beq_iff_eq.mpr c3; have r1 : (e0 != e4) = false := bne_eq_false_iff_eq.mpr c3; clear c3; by_cases c4 : e1 = e5
  ·rw [if_pos c4] at H; have r2 : (e1 == e5) = true := beq_iff_eq.mpr c4; have r3 : (e1 != e5) = false := bne_eq_false_iff_eq.mpr c4; clear c4; by_cases c5 : e2 = e6
   ·rw [if_pos c5] at H; have r4 : (e2 == e6) = true := beq_iff_eq.mpr c5; have r5 : (e2 != e6) = false := bne_eq_false_iff_eq.mpr c5; clear c5; by_cases c6 : e3 = e7
    ·rw [if_pos c6] at H; have r6 : (e3 == e7) = true := beq_iff_eq.mpr c6; have r7 : (e3 != e7) = false := bne_eq_false_iff_eq.mpr c6; clear c6; obtain rfl := Option.some.inj H
     go_enter Try.func83, Try.ntmps83
     go_wp2_with (first | ((with_reducible refine gate_dst (N := 2) rfl ?_); refine bxe_ (N := 2) (cs := #[.int .i64 e0, .int .i64 e1, .int .i64 e2, .int .i64 e3]) (t := 34) ?_; intro c0 hg w7 x hb; have n_ := A4_ (below_step zq54_ hb) (x) ((zq81_ : w.heap.size ≤ c0)) ((zq81_ : w.heap.size ≤ c0)); clear HB; obtain ⟨HB, b0, z0, j0⟩ := n_; clear hb x hg) | ((with_reducible refine gate_dst (N := 3) rfl ?_); refine bxe_ (N := 3) (cs := #[.int .i64 e4, .int .i64 e5, .int .i64 e6, .int .i64 e7]) (t := 34) ?_; intro c1 hg w8 x hb; have n_ := A7_ (blk_below (g := c0) (o := .cells #[.int .i64 e0, .int .i64 e1, .int .i64 e2, .int .i64 e3] 34 (0, 0)) zq19_ hb) (below_step zq4c_ hb) (x) ((zq7d_ : w.heap.size ≤ c1)) ((zq7d_ : w.heap.size ≤ c1)) ((zq94_ : c0 ≠ c1)) ((zq83_ : c1 ≠ c0)); clear b0 HB; obtain ⟨b0, HB, b1, z1, j1, f0, f1⟩ := n_; clear hb x hg; have J0 := f0.out; have K0 := f1.out; obtain ⟨g0, g1, g2, g3, h0, h1, h2, h3⟩ := bz4_ b0.out; obtain ⟨g4, g5, g6, g7, h4, h5, h6, h7⟩ := bz4_ b1.out))
     go_ret
     exact ⟨zq44_, zq4b_⟩
    ·rw [if_neg c6] at H; have r6 : (e3 == e7) = false := beq_eq_false_iff_ne.mpr c6; have r7 : (e3 != e7) = true := bne_iff_ne.mpr c6; obtain rfl := Option.some.inj H
     go_enter Try.func83, Try.ntmps83
     go_wp2_with (first | ((with_reducible refine gate_dst (N := 2) rfl ?_); refine bxe_ (N := 2) (cs := #[.int .i64 e0, .int .i64 e1, .int .i64 e2, .int .i64 e3]) (t := 34) ?_; intro c0 hg q0 x hb; have n_ := A4_ (below_step zq54_ hb) (x) ((zq81_ : w.heap.size ≤ c0)) ((zq81_ : w.heap.size ≤ c0)); clear HB; obtain ⟨HB, b0, z0, j0⟩ := n_; clear hb x hg) | ((with_reducible refine gate_dst (N := 3) rfl ?_); refine bxe_ (N := 3) (cs := #[.int .i64 e4, .int .i64 e5, .int .i64 e6, .int .i64 e7]) (t := 34) ?_; intro c1 hg q1 x hb; have n_ := A7_ (blk_below (g := c0) (o := .cells #[.int .i64 e0, .int .i64 e1, .int .i64 e2, .int .i64 e3] 34 (0, 0)) zq19_ hb) (below_step zq4c_ hb) (x) ((zq7d_ : w.heap.size ≤ c1)) ((zq7d_ : w.heap.size ≤ c1)) ((zq94_ : c0 ≠ c1)) ((zq83_ : c1 ≠ c0)); clear b0 HB; obtain ⟨b0, HB, b1, z1, j1, f0, f1⟩ := n_; clear hb x hg; have J0 := f0.out; have K0 := f1.out; obtain ⟨g0, g1, g2, g3, h0, h1, h2, h3⟩ := bz4_ b0.out; obtain ⟨g4, g5, g6, g7, h4, h5, h6, h7⟩ := bz4_ b1.out))
     go_ret
     exact ⟨zq44_, zq4b_⟩
   ·rw [if_neg c5] at H; have r4 : (e2 == e6) = false := beq_eq_false_iff_ne.mpr c5; have r5 : (e2 != e6) = true := bne_iff_ne.mpr c5; obtain rfl := Option.some.inj H
    go_enter Try.func83, Try.ntmps83
    go_wp2_with (first | ((with_reducible refine gate_dst (N := 2) rfl ?_); refine bxe_ (N := 2) (cs := #[.int .i64 e0, .int .i64 e1, .int .i64 e2, .int .i64 e3]) (t := 34) ?_; intro c0 hg q0 x hb; have n_ := A4_ (below_step zq54_ hb) (x) ((zq81_ : w.heap.size ≤ c0)) ((zq81_ : w.heap.size ≤ c0)); clear HB; obtain ⟨HB, b0, z0, j0⟩ := n_; clear hb x hg) | ((with_reducible refine gate_dst (N := 3) rfl ?_); refine bxe_ (N := 3) (cs := #[.int .i64 e4, .int .i64 e5, .int .i64 e6, .int .i64 e7]) (t := 34) ?_; intro c1 hg q1 x hb; have n_ := A7_ (blk_below (g := c0) (o := .cells #[.int .i64 e0, .int .i64 e1, .int .i64 e2, .int .i64 e3] 34 (0, 0)) zq19_ hb) (below_step zq4c_ hb) (x) ((zq7d_ : w.heap.size ≤ c1)) ((zq7d_ : w.heap.size ≤ c1)) ((zq94_ : c0 ≠ c1)) ((zq83_ : c1 ≠ c0)); clear b0 HB; obtain ⟨b0, HB, b1, z1, j1, f0, f1⟩ := n_; clear hb x hg; have J0 := f0.out; have K0 := f1.out; obtain ⟨g0, g1, g2, g3, h0, h1, h2, h3⟩ := bz4_ b0.out; obtain ⟨g4, g5, g6, g7, h4, h5, h6, h7⟩ := bz4_ b1.out))
    go_ret
    exact ⟨zq44_, zq4b_⟩
  ·rw [if_neg c4] at H; have r2 : (e1 == e5) = false := beq_eq_false_iff_ne.mpr c4; have r3 : (e1 != e5) = true := bne_iff_ne.mpr c4; obtain rfl := Option.some.inj H
   go_enter Try.func83, Try.ntmps83
   go_wp2_with (first | ((with_reducible refine gate_dst (N := 2) rfl ?_); refine bxe_ (N := 2) (cs := #[.int .i64 e0, .int .i64 e1, .int .i64 e2, .int .i64 e3]) (t := 34) ?_; intro c0 hg q0 x hb; have n_ := A4_ (below_step zq54_ hb) (x) ((zq81_ : w.heap.size ≤ c0)) ((zq81_ : w.heap.size ≤ c0)); clear HB; obtain ⟨HB, b0, z0, j0⟩ := n_; clear hb x hg) | ((with_reducible refine gate_dst (N := 3) rfl ?_); refine bxe_ (N := 3) (cs := #[.int .i64 e4, .int .i64 e5, .int .i64 e6, .int .i64 e7]) (t := 34) ?_; intro c1 hg q1 x hb; have n_ := A7_ (blk_below (g := c0) (o := .cells #[.int .i64 e0, .int .i64 e1, .int .i64 e2, .int .i64 e3] 34 (0, 0)) zq19_ hb) (below_step zq4c_ hb) (x) ((zq7d_ : w.heap.size ≤ c1)) ((zq7d_ : w.heap.size ≤ c1)) ((zq94_ : c0 ≠ c1)) ((zq83_ : c1 ≠ c0)); clear b0 HB; obtain ⟨b0, HB, b1, z1, j1, f0, f1⟩ := n_; clear hb x hg; have J0 := f0.out; have K0 := f1.out; obtain ⟨g0, g1, g2, g3, h0, h1, h2, h3⟩ := bz4_ b0.out; obtain ⟨g4, g5, g6, g7, h4, h5, h6, h7⟩ := bz4_ b1.out))
   go_ret
   exact ⟨zq44_, zq4b_⟩
 ·rw [if_neg c3] at H; have r0 : (e0 == e4) = false := beq_eq_false_iff_ne.mpr c3; have r1 : (e0 != e4) = true := bne_iff_ne.mpr c3; obtain rfl := Option.some.inj H
  go_enter Try.func83, Try.ntmps83
  go_wp2_with (first | ((with_reducible refine gate_dst (N := 2) rfl ?_); refine bxe_ (N := 2) (cs := #[.int .i64 e0, .int .i64 e1, .int .i64 e2, .int .i64 e3]) (t := 34) ?_; intro c0 hg q0 x hb; have n_ := A4_ (below_step zq54_ hb) (x) ((zq81_ : w.heap.size ≤ c0)) ((zq81_ : w.heap.size ≤ c0)); clear HB; obtain ⟨HB, b0, z0, j0⟩ := n_; clear hb x hg) | ((with_reducible refine gate_dst (N := 3) rfl ?_); refine bxe_ (N := 3) (cs := #[.int .i64 e4, .int .i64 e5, .int .i64 e6, .int .i64 e7]) (t := 34) ?_; intro c1 hg q1 x hb; have n_ := A7_ (blk_below (g := c0) (o := .cells #[.int .i64 e0, .int .i64 e1, .int .i64 e2, .int .i64 e3] 34 (0, 0)) zq19_ hb) (below_step zq4c_ hb) (x) ((zq7d_ : w.heap.size ≤ c1)) ((zq7d_ : w.heap.size ≤ c1)) ((zq94_ : c0 ≠ c1)) ((zq83_ : c1 ≠ c0)); clear b0 HB; obtain ⟨b0, HB, b1, z1, j1, f0, f1⟩ := n_; clear hb x hg; have J0 := f0.out; have K0 := f1.out; obtain ⟨g0, g1, g2, g3, h0, h1, h2, h3⟩ := bz4_ b0.out; obtain ⟨g4, g5, g6, g7, h4, h5, h6, h7⟩ := bz4_ b1.out))
  go_ret
  exact ⟨zq44_, zq4b_⟩

/-! ### laws_eqInsS: function 36 -/
def laws_eqInsS.l0 : Nat → List (S34) → List (S34) → Int → Option (Bool)
 | 0, _, _, _ => none
 | k + 1, x0, x1, x5 => if x5 < (x0.length : Int) then (if 0 ≤ x5 then (if x5 < (x1.length : Int) then ((laws_eqIns.f ((rd_T34 x0 x5).f0) ((rd_T34 x0 x5).f1) ((rd_T34 x0 x5).f2) ((rd_T34 x0 x5).f3) ((rd_T34 x1 x5).f0) ((rd_T34 x1 x5).f1) ((rd_T34 x1 x5).f2) ((rd_T34 x1 x5).f3)).bind fun t349 => (if t349 = true then (laws_eqInsS.l0 k x0 x1 (wrap64 (x5 + 1))) else (some false))) else (none)) else (none)) else (some true)
def laws_eqInsS.f (k : Nat) (l0 : List (S34)) (l1 : List (S34)) : Option (Bool) := if (l0.length : Int) = (l1.length : Int) then (laws_eqInsS.l0 k l0 l1 0) else (some false)
theorem laws_eqInsS.mono_l : ∀ k, (∀ y0 y1 y2, LeO (laws_eqInsS.l0 k y0 y1 y2) (laws_eqInsS.l0 (k + 1) y0 y1 y2))
 | 0 => fun _ _ _ r h => by simp [laws_eqInsS.l0] at h
 | k + 1 => by
  have E0 := laws_eqInsS.mono_l k
  ·intro y0 y1 y2
   unfold laws_eqInsS.l0
   repeat' first
   | (with_reducible exact E0 _ _ _)
   | (with_reducible exact LeO.refl _)
   | (with_reducible exact LeO.none _)
   | (with_reducible refine LeO.ite ?_ ?_)
   | (with_reducible refine LeO.bind ?_ (fun _ => ?_))
   | exact E0 _ _ _
   | exact LeO.none _
   | refine LeO.ite ?_ ?_
   | refine LeO.bind ?_ (fun _ => ?_)
theorem laws_eqInsS.mono : ∀ a0 a1 k, LeO (laws_eqInsS.f k a0 a1) (laws_eqInsS.f (k + 1) a0 a1) := by
 intro a0 a1 k
 have E0 := laws_eqInsS.mono_l k
 unfold laws_eqInsS.f
 repeat' first
   | (with_reducible exact E0 _ _ _)
   | (with_reducible exact LeO.refl _)
   | (with_reducible exact LeO.none _)
   | (with_reducible refine LeO.ite ?_ ?_)
   | (with_reducible refine LeO.bind ?_ (fun _ => ?_))
   | exact E0 _ _ _
   | exact LeO.none _
   | refine LeO.ite ?_ ?_
   | refine LeO.bind ?_ (fun _ => ?_)
def laws_eqInsS.T6 : Bool × List (List Nat × List Nat) := (true, [([], []), ([], []), ([0, 1], [0, 1]), ([2], [2]), ([], []), ([], []), ([4, 5], [4, 5]), ([6], [6]), ([3, 7], [3, 7]), ([8], [8])])
def laws_eqInsS.B6 : List Nat := [0, 0, 3, 7, 0, 0, 48, 112, 255, 511]
theorem laws_eqInsS.tab6 : rtab .any (opsOf Try.f36 6) = laws_eqInsS.T6 := by kernel_rfl
theorem laws_eqInsS.bits6 : waitsOk laws_eqInsS.T6.2 laws_eqInsS.B6 = true := by kernel_rfl
set_option maxHeartbeats 8000000 in
set_option maxRecDepth 100000 in
theorem laws_eqInsS.calls (k : Nat) (A0 : Option Addr) (c0 : Nat) (l0 : List (S34)) (A1 : Option Addr) (c1 : Nat) (l1 : List (S34)) (r : Bool) (w : World) (V0 : Kd.C k34 w A0 l0.length l0) (S0 : l0.length ≤ c0) (V1 : Kd.C k34 w A1 l1.length l1) (S1 : l1.length ≤ c1) (h : laws_eqInsS.f k l0 l1 = some r) :
  Calls Try.prog 36 #[.slice A0 l0.length c0, .slice A1 l1.length c1] w fun e w' => e = .returned (.bool r) ∧ Below w.heap.size w w' := by
 have ar0 := Try.underlying34; have R0 := Aside0.mk V0; have X0 := Aside0.mk S0; clear V0 S0; have R1 := Aside0.mk V1; have X1 := Aside0.mk S1; clear V1 S1; have HB := Aside0.mk (Below.refl w.heap.size w); have H : (if (l0.length : Int) = (l1.length : Int) then (laws_eqInsS.l0 k l0 l1 0) else (some false)) = some r := h; clear h; by_cases c3 : (l0.length : Int) = (l1.length : Int)
 ·rw [if_pos c3] at H; have r0 : ((l0.length : Int) == (l1.length : Int)) = true := beq_iff_eq.mpr c3; have r1 : ((l0.length : Int) != (l1.length : Int)) = false := bne_eq_false_iff_eq.mpr c3; have r2 : (l0.length == l1.length) = true := by first | simpa using c3 | (simp at c3 ⊢; omega)
  clear c3; have H' := Aside0.mk H; clear H
  go_enter Try.func36, Try.ntmps36
  go_wp2
  go_loopg [5] k (fun kq v5 w' => ∃ (a0 : Int), v5 = .int .i64 a0 ∧ Aside0 (laws_eqInsS.l0 kq l0 l1 a0 = some r) ∧ Aside0 (kq ≤ k) ∧ Aside0 (Below w.heap.size w w'))
  case atStart => exact ⟨(0), zq45_, H', ⟨Nat.le_refl _⟩, ⟨zq54_⟩⟩
  case round =>
   clear H'
   try clear c1
   try clear p2
   try clear c3
   try clear r0
   try clear r1
   try clear r2
   obtain ⟨a0, rfl, HA, ae0, HB⟩ := hrel
   cases gk with
   | zero => exact absurd HA.out (by simp [laws_eqInsS.l0])
   | succ k1 =>
    have H := HA.out; clear HA; simp only [laws_eqInsS.l0] at H; replace H := ifc_ H
    rcases H with ⟨c4b0, H⟩ | ⟨c4b0, H⟩
    ·replace H := ifd2_ H; obtain ⟨r3, r4, H⟩ := H; replace H := bs_ H; obtain ⟨i0, A7, H⟩ := H; (try dsimp only at H); replace H := ifB_ H
     rcases H with ⟨rfl, H⟩ | ⟨rfl, H⟩
     ·have H' := Aside0.mk H; clear H
      try go_wp2
      replace HB := Aside0.mk (below_drew1 HB.out); have s0 : 0 ≤ (a0 : Int) := of_decide_eq_true zq40_; have t0 : a0 < (l0.length : Int) := of_decide_eq_true zq40_; obtain ⟨y0, N0, p0, p1, p3, p4⟩ := at_T34 R0.out a0 s0 t0; have Q0 := p4; have Q1 := p3; have Q2 := p1; have Q3 := p0; cases N0; replace p0 := pb_ HB.out p0; replace p1 := pb_ HB.out p1; replace p3 := pb_ HB.out p3; replace p4 := pb_ HB.out p4; replace s0 := eq_true s0; replace t0 := eq_true t0; have s1 : 0 ≤ (a0 : Int) := of_decide_eq_true zq40_; have t1 : a0 < (l1.length : Int) := of_decide_eq_true zq40_; obtain ⟨y1, N1, p5, p6, p7, p8⟩ := at_T34 R1.out a0 s1 t1; have Q4 := p8; have Q5 := p7; have Q6 := p6; have Q7 := p5; cases N1; replace p5 := pb_ HB.out p5; replace p6 := pb_ HB.out p6; replace p7 := pb_ HB.out p7; replace p8 := pb_ HB.out p8; replace s1 := eq_true s1; replace t1 := eq_true t1; refine start_ (n := 10) (S := fun w' => w'.cell? (y0.add ((a0).toNat * 4)) = some (.int .i64 ((rd_T34 l0 a0).f0)) ∧ w'.cell? ⟨(y0.add ((a0).toNat * 4)).block, (y0.add ((a0).toNat * 4)).off + 1, none⟩ = some (.int .i64 ((rd_T34 l0 a0).f1)) ∧ w'.cell? ⟨(y0.add ((a0).toNat * 4)).block, (y0.add ((a0).toNat * 4)).off + 2, none⟩ = some (.int .i64 ((rd_T34 l0 a0).f2)) ∧ w'.cell? ⟨(y0.add ((a0).toNat * 4)).block, (y0.add ((a0).toNat * 4)).off + 3, none⟩ = some (.int .i64 ((rd_T34 l0 a0).f3)) ∧ w'.cell? (y1.add ((a0).toNat * 4)) = some (.int .i64 ((rd_T34 l1 a0).f0)) ∧ w'.cell? ⟨(y1.add ((a0).toNat * 4)).block, (y1.add ((a0).toNat * 4)).off + 1, none⟩ = some (.int .i64 ((rd_T34 l1 a0).f1)) ∧ w'.cell? ⟨(y1.add ((a0).toNat * 4)).block, (y1.add ((a0).toNat * 4)).off + 2, none⟩ = some (.int .i64 ((rd_T34 l1 a0).f2)) ∧ w'.cell? ⟨(y1.add ((a0).toNat * 4)).block, (y1.add ((a0).toNat * 4)).off + 3, none⟩ = some (.int .i64 ((rd_T34 l1 a0).f3))) (ds := []) #[false, false, false, false, false, false, false, false, false, false] (by kernel_rfl) rfl rfl ⟨((HB.out.cell (World.block_lt_of_cell? w _ Q3)).trans Q3), ((HB.out.cell (World.block_lt_of_cell? w _ Q2)).trans Q2), ((HB.out.cell (World.block_lt_of_cell? w _ Q1)).trans Q1), ((HB.out.cell (World.block_lt_of_cell? w _ Q0)).trans Q0), ((HB.out.cell (World.block_lt_of_cell? w _ Q7)).trans Q7), ((HB.out.cell (World.block_lt_of_cell? w _ Q6)).trans Q6), ((HB.out.cell (World.block_lt_of_cell? w _ Q5)).trans Q5), ((HB.out.cell (World.block_lt_of_cell? w _ Q4)).trans Q4)⟩ (fun hHeld => ?_); refine with_tabW laws_eqInsS.tab6 laws_eqInsS.bits6 (fun HT_ HW_ => ?_); generalize wr.drew = w9 at HB p0 p1 p3 p4 p5 p6 p7 p8 hHeld ⊢; refine pw_ 0 17 ?_; refine pw_ 1 18 ?_; refine pw_ 2 19 ?_; refine pw_ 4 21 ?_; refine pw_ 5 22 ?_; refine pw_ 6 23 ?_; refine tw_ 3 20 ?_; refine tw_ 7 24 ?_; refine on_ (i := 8) (N := some 25) rfl rfl (one_of HT_.out (by kernel_rfl)) (by decide) (fun K hK => ?_); refine goes_ Try.func83 (by kernel_rfl) rfl #[.agg #[.int .i64 ((rd_T34 l0 a0).f0), .int .i64 ((rd_T34 l0 a0).f1), .int .i64 ((rd_T34 l0 a0).f2), .int .i64 ((rd_T34 l0 a0).f3)], .agg #[.int .i64 ((rd_T34 l1 a0).f0), .int .i64 ((rd_T34 l1 a0).f1), .int .i64 ((rd_T34 l1 a0).f2), .int .i64 ((rd_T34 l1 a0).f3)]] (by rfl) rfl rfl zq1_ ?_
      with_reducible refine (laws_eqIns.calls ((rd_T34 l0 a0).f0) ((rd_T34 l0 a0).f1) ((rd_T34 l0 a0).f2) ((rd_T34 l0 a0).f3) ((rd_T34 l1 a0).f0) ((rd_T34 l1 a0).f1) ((rd_T34 l1 a0).f2) ((rd_T34 l1 a0).f3) true _ A7.out).mono ?_
      rintro e q0 ⟨rfl, hb⟩; refine ⟨_, rfl, ?_⟩; replace HB := Aside0.mk (below_step zq54_ hb); (try clear hb); (try clear hb2); (try clear hk); (try clear hi); refine hK.out _ _ ⟨((HB.out.cell (World.block_lt_of_cell? w _ Q3)).trans Q3), ((HB.out.cell (World.block_lt_of_cell? w _ Q2)).trans Q2), ((HB.out.cell (World.block_lt_of_cell? w _ Q1)).trans Q1), ((HB.out.cell (World.block_lt_of_cell? w _ Q0)).trans Q0), ((HB.out.cell (World.block_lt_of_cell? w _ Q7)).trans Q7), ((HB.out.cell (World.block_lt_of_cell? w _ Q6)).trans Q6), ((HB.out.cell (World.block_lt_of_cell? w _ Q5)).trans Q5), ((HB.out.cell (World.block_lt_of_cell? w _ Q4)).trans Q4)⟩ (fun hHeld => ?_); clear hK K; refine norm_ (a' := ?_) ?_ ?_
      rotate_left
      ·show Act.put _ (some 25) _ = _; simp only [Act.put, List.setIfInBounds_toArray, List.set_cons_zero, List.set_cons_succ, i64_w, i32_w]; rfl
      refine pw_ 9 26 ?_; refine done_ (done_of HT_.out (by kernel_rfl)) ?_
      try go_wp2
      go_roundg k1
      case measure => have := ae0.out; omega
      case rel => exact ⟨(wrap64 (a0 + 1)), zq45_, H', ⟨by have := ae0.out; omega⟩, ⟨zq54_⟩⟩
     ·obtain rfl := Option.some.inj H
      try go_wp2
      replace HB := Aside0.mk (below_drew1 HB.out); have s0 : 0 ≤ (a0 : Int) := of_decide_eq_true zq40_; have t0 : a0 < (l0.length : Int) := of_decide_eq_true zq40_; obtain ⟨y0, N0, p0, p1, p3, p4⟩ := at_T34 R0.out a0 s0 t0; have Q0 := p4; have Q1 := p3; have Q2 := p1; have Q3 := p0; cases N0; replace p0 := pb_ HB.out p0; replace p1 := pb_ HB.out p1; replace p3 := pb_ HB.out p3; replace p4 := pb_ HB.out p4; replace s0 := eq_true s0; replace t0 := eq_true t0; have s1 : 0 ≤ (a0 : Int) := of_decide_eq_true zq40_; have t1 : a0 < (l1.length : Int) := of_decide_eq_true zq40_; obtain ⟨y1, N1, p5, p6, p7, p8⟩ := at_T34 R1.out a0 s1 t1; have Q4 := p8; have Q5 := p7; have Q6 := p6; have Q7 := p5; cases N1; replace p5 := pb_ HB.out p5; replace p6 := pb_ HB.out p6; replace p7 := pb_ HB.out p7; replace p8 := pb_ HB.out p8; replace s1 := eq_true s1; replace t1 := eq_true t1; refine start_ (n := 10) (S := fun w' => w'.cell? (y0.add ((a0).toNat * 4)) = some (.int .i64 ((rd_T34 l0 a0).f0)) ∧ w'.cell? ⟨(y0.add ((a0).toNat * 4)).block, (y0.add ((a0).toNat * 4)).off + 1, none⟩ = some (.int .i64 ((rd_T34 l0 a0).f1)) ∧ w'.cell? ⟨(y0.add ((a0).toNat * 4)).block, (y0.add ((a0).toNat * 4)).off + 2, none⟩ = some (.int .i64 ((rd_T34 l0 a0).f2)) ∧ w'.cell? ⟨(y0.add ((a0).toNat * 4)).block, (y0.add ((a0).toNat * 4)).off + 3, none⟩ = some (.int .i64 ((rd_T34 l0 a0).f3)) ∧ w'.cell? (y1.add ((a0).toNat * 4)) = some (.int .i64 ((rd_T34 l1 a0).f0)) ∧ w'.cell? ⟨(y1.add ((a0).toNat * 4)).block, (y1.add ((a0).toNat * 4)).off + 1, none⟩ = some (.int .i64 ((rd_T34 l1 a0).f1)) ∧ w'.cell? ⟨(y1.add ((a0).toNat * 4)).block, (y1.add ((a0).toNat * 4)).off + 2, none⟩ = some (.int .i64 ((rd_T34 l1 a0).f2)) ∧ w'.cell? ⟨(y1.add ((a0).toNat * 4)).block, (y1.add ((a0).toNat * 4)).off + 3, none⟩ = some (.int .i64 ((rd_T34 l1 a0).f3))) (ds := []) #[false, false, false, false, false, false, false, false, false, false] (by kernel_rfl) rfl rfl ⟨((HB.out.cell (World.block_lt_of_cell? w _ Q3)).trans Q3), ((HB.out.cell (World.block_lt_of_cell? w _ Q2)).trans Q2), ((HB.out.cell (World.block_lt_of_cell? w _ Q1)).trans Q1), ((HB.out.cell (World.block_lt_of_cell? w _ Q0)).trans Q0), ((HB.out.cell (World.block_lt_of_cell? w _ Q7)).trans Q7), ((HB.out.cell (World.block_lt_of_cell? w _ Q6)).trans Q6), ((HB.out.cell (World.block_lt_of_cell? w _ Q5)).trans Q5), ((HB.out.cell (World.block_lt_of_cell? w _ Q4)).trans Q4)⟩ (fun hHeld => ?_); refine with_tabW laws_eqInsS.tab6 laws_eqInsS.bits6 (fun HT_ HW_ => ?_); generalize wr.drew = q0 at HB p0 p1 p3 p4 p5 p6 p7 p8 hHeld ⊢; refine pw_ 0 17 ?_; refine pw_ 1 18 ?_; refine pw_ 2 19 ?_; refine pw_ 4 21 ?_; refine pw_ 5 22 ?_; refine pw_ 6 23 ?_; refine tw_ 3 20 ?_; refine tw_ 7 24 ?_; refine on_ (i := 8) (N := some 25) rfl rfl (one_of HT_.out (by kernel_rfl)) (by decide) (fun K hK => ?_); refine goes_ Try.func83 (by kernel_rfl) rfl #[.agg #[.int .i64 ((rd_T34 l0 a0).f0), .int .i64 ((rd_T34 l0 a0).f1), .int .i64 ((rd_T34 l0 a0).f2), .int .i64 ((rd_T34 l0 a0).f3)], .agg #[.int .i64 ((rd_T34 l1 a0).f0), .int .i64 ((rd_T34 l1 a0).f1), .int .i64 ((rd_T34 l1 a0).f2), .int .i64 ((rd_T34 l1 a0).f3)]] (by rfl) rfl rfl zq1_ ?_
      with_reducible refine (laws_eqIns.calls ((rd_T34 l0 a0).f0) ((rd_T34 l0 a0).f1) ((rd_T34 l0 a0).f2) ((rd_T34 l0 a0).f3) ((rd_T34 l1 a0).f0) ((rd_T34 l1 a0).f1) ((rd_T34 l1 a0).f2) ((rd_T34 l1 a0).f3) false _ A7.out).mono ?_
      rintro e q1 ⟨rfl, hb⟩; refine ⟨_, rfl, ?_⟩; replace HB := Aside0.mk (below_step zq54_ hb); (try clear hb); (try clear hb2); (try clear hk); (try clear hi); refine hK.out _ _ ⟨((HB.out.cell (World.block_lt_of_cell? w _ Q3)).trans Q3), ((HB.out.cell (World.block_lt_of_cell? w _ Q2)).trans Q2), ((HB.out.cell (World.block_lt_of_cell? w _ Q1)).trans Q1), ((HB.out.cell (World.block_lt_of_cell? w _ Q0)).trans Q0), ((HB.out.cell (World.block_lt_of_cell? w _ Q7)).trans Q7), ((HB.out.cell (World.block_lt_of_cell? w _ Q6)).trans Q6), ((HB.out.cell (World.block_lt_of_cell? w _ Q5)).trans Q5), ((HB.out.cell (World.block_lt_of_cell? w _ Q4)).trans Q4)⟩ (fun hHeld => ?_); clear hK K; refine norm_ (a' := ?_) ?_ ?_
      rotate_left
      ·show Act.put _ (some 25) _ = _; simp only [Act.put, List.setIfInBounds_toArray, List.set_cons_zero, List.set_cons_succ, i64_w, i32_w]; rfl
      refine pw_ 9 26 ?_; refine done_ (done_of HT_.out (by kernel_rfl)) ?_
      try go_wp2
      go_ret
      exact ⟨zq44_, zq54_⟩
    ·obtain rfl := Option.some.inj H
     go_wp2
     go_ret
     exact ⟨zq44_, zq54_⟩
 ·rw [if_neg c3] at H; have r0 : ((l0.length : Int) == (l1.length : Int)) = false := beq_eq_false_iff_ne.mpr c3; have r1 : ((l0.length : Int) != (l1.length : Int)) = true := bne_iff_ne.mpr c3; have r2 : (l0.length == l1.length) = false := by first | simpa using c3 | (simp at c3 ⊢; omega)
  obtain rfl := Option.some.inj H
  go_enter Try.func36, Try.ntmps36
  go_wp2
  go_ret
  exact ⟨zq44_, zq54_⟩

/-! ### laws_markBoxS: function 37 -/
def laws_markBoxS.l0 : Nat → List (S46) → Int → Int → Option (Int × (List (S46)))
 | 0, _, _, _ => none
 | k + 1, x0, x1, x5 => if x5 < (x0.length : Int) then (if 0 ≤ x5 then ((some (x0.set (x5 : Int).toNat (⟨x1, (rd_T46 x0 x5).f1⟩ : S46) : List (S46))).bind fun y350 => (laws_markBoxS.l0 k (y350.set (x5 : Int).toNat (⟨(rd_T46 y350 x5).f0, wrap64 (x1 + 1)⟩ : S46)) (wrap64 ((wrap64 (x1 + 1)) + 1)) (wrap64 (x5 + 1)))) else (none)) else (some (x1, x0))
def laws_markBoxS.f (k : Nat) (l0 : List (S46)) (a1 : Int) : Option (Int × (List (S46))) := laws_markBoxS.l0 k l0 a1 0
theorem laws_markBoxS.mono_l : ∀ k, (∀ y0 y1 y2, LeO (laws_markBoxS.l0 k y0 y1 y2) (laws_markBoxS.l0 (k + 1) y0 y1 y2))
 | 0 => fun _ _ _ r h => by simp [laws_markBoxS.l0] at h
 | k + 1 => by
  have E0 := laws_markBoxS.mono_l k
  ·intro y0 y1 y2
   unfold laws_markBoxS.l0
   repeat' first
   | (with_reducible exact E0 _ _ _)
   | (with_reducible exact LeO.refl _)
   | (with_reducible exact LeO.none _)
   | (with_reducible refine LeO.ite ?_ ?_)
   | (with_reducible refine LeO.bind ?_ (fun _ => ?_))
   | exact E0 _ _ _
   | exact LeO.none _
   | refine LeO.ite ?_ ?_
   | refine LeO.bind ?_ (fun _ => ?_)
theorem laws_markBoxS.mono : ∀ a0 a1 k, LeO (laws_markBoxS.f k a0 a1) (laws_markBoxS.f (k + 1) a0 a1) := by
 intro a0 a1 k
 have E0 := laws_markBoxS.mono_l k
 unfold laws_markBoxS.f
 repeat' first
   | (with_reducible exact E0 _ _ _)
   | (with_reducible exact LeO.refl _)
   | (with_reducible exact LeO.none _)
   | (with_reducible refine LeO.ite ?_ ?_)
   | (with_reducible refine LeO.bind ?_ (fun _ => ?_))
   | exact E0 _ _ _
   | exact LeO.none _
   | refine LeO.ite ?_ ?_
   | refine LeO.bind ?_ (fun _ => ?_)
set_option maxHeartbeats 8000000 in
set_option maxRecDepth 100000 in
theorem laws_markBoxS.calls (k : Nat) (aa0 : Nat → Prop) (aq0 : Value) (l0 : List (S46)) (a1 : Int) (r1 : Int) (r2 : List (S46)) (w0 w : World) (hB : Below w0.heap.size w0 w) (G0 : Kd.R k46 46 w w0.heap.size aa0 aq0 l0) (h : laws_markBoxS.f k l0 a1 = some (r1, r2)) :
  Calls Try.prog 37 #[aq0, .int .i64 a1] w fun e w' => e = .returned (.int .i64 r1) ∧ Kd.R k46 46 w' w0.heap.size (fun k_ => (aa0 k_ ∨ w.heap.size ≤ k_)) aq0 r2 ∧ Below w0.heap.size w0 w' ∧ Kept w w' (fun k_ => aa0 k_) := by
 have m0 := Aside0.mk (show Kd.R k46 46 w w0.heap.size (fun k_ => (aa0 k_ ∨ w.heap.size ≤ k_)) aq0 l0 from Kd.R_mono G0 (fun k_ hk => (.inl hk))); have HK := Aside0.mk (Kept.refl w (fun k_ => aa0 k_)); have bz0 := Aside0.mk hB.size; have HB := Aside0.mk hB; clear hB; have H : (laws_markBoxS.l0 k l0 a1 0) = some (r1, r2) := h; clear h; have H' := Aside0.mk H; clear H
 go_enter Try.func37, Try.ntmps37
 go_wp2
 go_loopg [1, 5] k (fun kq v1 v5 w' => ∃ (a0 : List (S46)) (a2 : Int) (a3 : Int), v1 = .int .i64 a2 ∧ v5 = .int .i64 a3 ∧ Aside0 (laws_markBoxS.l0 kq a0 a2 a3 = some (r1, r2)) ∧ Aside0 (kq ≤ k) ∧ Aside0 (Kd.R k46 46 w' w0.heap.size (fun k_ => (aa0 k_ ∨ w.heap.size ≤ k_)) aq0 a0) ∧ Aside0 (Kept w w' (fun k_ => aa0 k_)) ∧ Aside0 (Below w0.heap.size w0 w'))
 case atStart => exact ⟨(l0), (a1), (0), zq45_, zq45_, H', ⟨Nat.le_refl _⟩, ⟨zqe_⟩, ⟨zq5a_⟩, ⟨zq54_⟩⟩
 case round =>
  clear H'
  try clear p2
  obtain ⟨a0, a2, a3, rfl, rfl, HA, ae0, k0, HK, HB⟩ := hrel
  cases gk with
  | zero => exact absurd HA.out (by simp [laws_markBoxS.l0])
  | succ k1 =>
   have H := HA.out; clear HA; simp only [laws_markBoxS.l0] at H; replace H := ifc_ H
   rcases H with ⟨c3b0, H⟩ | ⟨c3b0, H⟩
   ·replace H := ifd_ H; obtain ⟨r0, H⟩ := H; obtain ⟨A0, H0⟩ : ∃ y_ : List (S46), y_ = (a0.set (a3 : Int).toNat (⟨a2, (rd_T46 a0 a3).f1⟩ : S46)) := ⟨_, rfl⟩; replace H : (laws_markBoxS.l0 k1 (A0.set (a3 : Int).toNat (⟨(rd_T46 A0 a3).f0, wrap64 (a2 + 1)⟩ : S46)) (wrap64 ((wrap64 (a2 + 1)) + 1)) (wrap64 (a3 + 1))) = some (r1, r2) := by first | (rw [H0]; with_reducible exact H) | (have Z0 := (Option.bind_some _ _).symm.trans H; rw [H0]; with_reducible exact Z0) | (have Z0 := (Option.bind_some _ _).symm.trans H; with_reducible exact Z0) | with_reducible exact H | (rw [H0]; exact H) | exact H
    have am0 := Aside0.mk H0; clear H0; obtain ⟨A1, H1⟩ : ∃ y_ : List (S46), y_ = (A0.set (a3 : Int).toNat (⟨(rd_T46 A0 a3).f0, wrap64 (a2 + 1)⟩ : S46)) := ⟨_, rfl⟩; replace H : (laws_markBoxS.l0 k1 A1 (wrap64 ((wrap64 (a2 + 1)) + 1)) (wrap64 (a3 + 1))) = some (r1, r2) := by first | (rw [H1]; with_reducible exact H) | (have Z0 := (Option.bind_some _ _).symm.trans H; rw [H1]; with_reducible exact Z0) | (have Z0 := (Option.bind_some _ _).symm.trans H; with_reducible exact Z0) | with_reducible exact H | (rw [H1]; exact H) | exact H
    have am1 := Aside0.mk H1; clear H1; have H' := Aside0.mk H; clear H; obtain ⟨o0, l1, D0⟩ := Kd.R_slice k0.out; subst D0; have p5 : 0 ≤ (a3 : Int) := of_decide_eq_true zq40_; have q5 : (a3 : Int) < ((a0.length : Int) : Int) := of_decide_eq_true zq40_; obtain ⟨L0, l2, D1, c0, aJ0, ba0, au0⟩ := Kd.R_form k0.out (by omega); (first | cases D1 | (injection D1 with ak aF aG; (first | subst ak | (injection ak with ak; subst ak)); subst aG; clear aF)); have ay0 := Aside0.mk c0; have aO0 := Aside0.mk au0; clear c0 aJ0 au0; have bb0 := Aside0.mk (show (aa0 L0 ∨ w.heap.size ≤ L0) from (k0.out.1 _ rfl)); obtain ⟨aK0, an0, ag0, Y0, ab0⟩ := Kd.R_elem k0.out z46 (a3 : Int) p5 q5; obtain rfl := k46_openM ag0; have p0 : wr.cell? ⟨L0, (a3 : Int).toNat * 2, none⟩ = some (.int .i64 ((rd_T46 a0 a3).f0)) := Y0 0 _ rfl; have p1 : wr.cell? ⟨L0, (a3 : Int).toNat * 2 + 1, none⟩ = some (.int .i64 ((rd_T46 a0 a3).f1)) := Y0 1 _ rfl; have ah0 : wr.frozen? ⟨L0, (a3 : Int).toNat * 2, none⟩ = false := ab0 0; have ah1 : wr.frozen? ⟨L0, (a3 : Int).toNat * 2 + 1, none⟩ = false := ab0 1; clear an0 Y0 ab0 ag0; replace p5 := eq_true p5; replace q5 := eq_true q5; have aE0 := Aside0.mk (show Kd.R k46 46 wr w0.heap.size (fun k_ => (aa0 k_ ∨ w.heap.size ≤ k_)) (.slice (some ⟨L0, 0, none⟩) a0.length l1) a0 from zqb_); obtain ⟨aK1, an1, ag1, Y1, ab1⟩ := Kd.R_elem aE0.out z46 (a3 : Int) (of_decide_eq_true zq40_) zq77_; obtain rfl := k46_openM ag1; have aj0 := Kd.R_seg aE0.out (a3 : Int) (of_decide_eq_true zq40_) zq77_ (seg := [.int .i64 a2]) (j := 0) an1 Y1 (show 1 ≤ 2 from by decide) (x' := (⟨a2, (rd_T46 a0 a3).f1⟩ : S46)) (k46_mkM _ _ _ (⟨a2, (rd_T46 a0 a3).f1⟩ : S46) ) (fun _ hk => hk); have p3 := Y1 0 _ rfl; (try simp only [show (k46).sz = 2 from rfl, Nat.mul_one, Nat.add_zero] at p3); have ah2 := ab1 0; (try simp only [show (k46).sz = 2 from rfl, Nat.mul_one, Nat.add_zero] at ah2); clear an1 Y1 ab1 ag1
    go_wp2_with (first | ((with_reducible refine gate_store (t := 3) (p := 16) rfl ?_); refine store_event (t := 3) (p := 16) (v := ?vo_w9) (w1 := (wr.setCell ⟨L0, (a3 : Int).toNat * 2, none⟩ (.int .i64 a2))) ?hg ?ho ?hn ?hr ?_; (case ho => rfl); (case hg => rfl); (case hn => rfl); (case hr => first | (go_simp; done) | (go_simp; rfl)); intro w9 hw; have hg : wr.grownBy w9 (some L0) := (by rw [hw]; exact aj0.2); have az : Kd.R k46 46 w9 w0.heap.size (fun k_ => (aa0 k_ ∨ w.heap.size ≤ k_)) (.slice (some ⟨L0, 0, none⟩) a0.length l1) A0 := (by rw [hw, am0.out]; exact aj0.1); clear aj0; have n_ := A3_ (az) ((by rw [hw]; exact below_set (HB.out) ay0.out : Below w0.heap.size w0 w9)) (Kept.of_grown (S := (fun k_ => aa0 k_)) hg zq5a_ (fun k_ e_ => (k0.out.1 k_ e_))); clear k0 HB HK; obtain ⟨k0, HB, HK⟩ := n_; clear hg hw az; have p6 : 0 ≤ (a3 : Int) := of_decide_eq_true zq40_; have q6 : (a3 : Int) < ((a0.length : Int) : Int) := of_decide_eq_true zq40_; obtain ⟨aK2, an2, ag2, Y2, ab2⟩ := Kd.R_elem k0.out z46 (a3 : Int) p6 q6; obtain rfl := k46_openM ag2; have p4 : w9.cell? ⟨L0, (a3 : Int).toNat * 2, none⟩ = some (.int .i64 ((rd_T46 A0 a3).f0)) := Y2 0 _ rfl; have p7 : w9.cell? ⟨L0, (a3 : Int).toNat * 2 + 1, none⟩ = some (.int .i64 ((rd_T46 A0 a3).f1)) := Y2 1 _ rfl; have ah3 : w9.frozen? ⟨L0, (a3 : Int).toNat * 2, none⟩ = false := ab2 0; have ah4 : w9.frozen? ⟨L0, (a3 : Int).toNat * 2 + 1, none⟩ = false := ab2 1; clear an2 Y2 ab2 ag2; replace p6 := eq_true p6; replace q6 := eq_true q6; have aE1 := Aside0.mk (show Kd.R k46 46 w9 w0.heap.size (fun k_ => (aa0 k_ ∨ w.heap.size ≤ k_)) (.slice (some ⟨L0, 0, none⟩) a0.length l1) A0 from zqb_); obtain ⟨aK3, an3, ag3, Y3, ab3⟩ := Kd.R_elem aE1.out z46 (a3 : Int) (of_decide_eq_true zq40_) zq77_; obtain rfl := k46_openM ag3; have aj1 := Kd.R_seg aE1.out (a3 : Int) (of_decide_eq_true zq40_) zq77_ (seg := [.int .i64 (wrap64 (a2 + 1))]) (j := 1) an3 Y3 (show 2 ≤ 2 from by decide) (x' := (⟨(rd_T46 A0 a3).f0, wrap64 (a2 + 1)⟩ : S46)) (k46_mkM _ _ _ (⟨(rd_T46 A0 a3).f0, wrap64 (a2 + 1)⟩ : S46) ) (fun _ hk => hk); have p8 := Y3 1 _ rfl; (try simp only [show (k46).sz = 2 from rfl, Nat.mul_one, Nat.add_zero] at p8); have ah5 := ab3 1; (try simp only [show (k46).sz = 2 from rfl, Nat.mul_one, Nat.add_zero] at ah5); clear an3 Y3 ab3 ag3) | ((with_reducible refine gate_store (t := 3) (p := 23) rfl ?_); refine store_event (t := 3) (p := 23) (v := ?vo_w11) (w1 := (w9.setCell ⟨L0, (a3 : Int).toNat * 2 + 1, none⟩ (.int .i64 (wrap64 (a2 + 1))))) ?hg ?ho ?hn ?hr ?_; (case ho => rfl); (case hg => rfl); (case hn => rfl); (case hr => first | (go_simp; done) | (go_simp; rfl)); intro q0 hw; have hg : w9.grownBy q0 (some L0) := (by rw [hw]; exact aj1.2); have az : Kd.R k46 46 q0 w0.heap.size (fun k_ => (aa0 k_ ∨ w.heap.size ≤ k_)) (.slice (some ⟨L0, 0, none⟩) a0.length l1) A1 := (by rw [hw, am1.out]; exact aj1.1); clear aj1; have n_ := A3_ (az) ((by rw [hw]; exact below_set (HB.out) ay0.out : Below w0.heap.size w0 q0)) (Kept.of_grown (S := (fun k_ => aa0 k_)) hg zq5a_ (fun k_ e_ => (k0.out.1 k_ e_))); clear k0 HB HK; obtain ⟨k0, HB, HK⟩ := n_; clear hg hw az))
    go_roundg k1
    case measure => have := ae0.out; omega
    case rel => exact ⟨(A1), (wrap64 ((wrap64 (a2 + 1)) + 1)), (wrap64 (a3 + 1)), zq45_, zq45_, H', ⟨by have := ae0.out; omega⟩, ⟨zqb_⟩, ⟨zq5a_⟩, ⟨zq54_⟩⟩
   ·simp only [Option.some.injEq, Prod.mk.injEq] at H; obtain ⟨rfl, rfl⟩ := H; obtain ⟨o0, l1, D0⟩ := Kd.R_slice k0.out; subst D0
    go_wp2
    go_ret
    exact ⟨zq44_, zqb_, zq54_, zq5a_⟩

/-! ### laws_markInsS: function 38 -/
def laws_markInsS.l0 : Nat → List (S34) → Int → Int → Option (Int × (List (S34)))
 | 0, _, _, _ => none
 | k + 1, x0, x1, x5 => if x5 < (x0.length : Int) then (if 0 ≤ x5 then ((some (x0.set (x5 : Int).toNat (⟨x1, (rd_T34 x0 x5).f1, (rd_T34 x0 x5).f2, (rd_T34 x0 x5).f3⟩ : S34) : List (S34))).bind fun y352 => ((some (y352.set (x5 : Int).toNat (⟨(rd_T34 y352 x5).f0, wrap64 (x1 + 1), (rd_T34 y352 x5).f2, (rd_T34 y352 x5).f3⟩ : S34) : List (S34))).bind fun y353 => ((some (y353.set (x5 : Int).toNat (⟨(rd_T34 y353 x5).f0, (rd_T34 y353 x5).f1, wrap64 ((wrap64 (x1 + 1)) + 1), (rd_T34 y353 x5).f3⟩ : S34) : List (S34))).bind fun y354 => (laws_markInsS.l0 k (y354.set (x5 : Int).toNat (⟨(rd_T34 y354 x5).f0, (rd_T34 y354 x5).f1, (rd_T34 y354 x5).f2, wrap64 ((wrap64 ((wrap64 (x1 + 1)) + 1)) + 1)⟩ : S34)) (wrap64 ((wrap64 ((wrap64 ((wrap64 (x1 + 1)) + 1)) + 1)) + 1)) (wrap64 (x5 + 1)))))) else (none)) else (some (x1, x0))
def laws_markInsS.f (k : Nat) (l0 : List (S34)) (a1 : Int) : Option (Int × (List (S34))) := laws_markInsS.l0 k l0 a1 0
theorem laws_markInsS.mono_l : ∀ k, (∀ y0 y1 y2, LeO (laws_markInsS.l0 k y0 y1 y2) (laws_markInsS.l0 (k + 1) y0 y1 y2))
 | 0 => fun _ _ _ r h => by simp [laws_markInsS.l0] at h
 | k + 1 => by
  have E0 := laws_markInsS.mono_l k
  ·intro y0 y1 y2
   unfold laws_markInsS.l0
   repeat' first
   | (with_reducible exact E0 _ _ _)
   | (with_reducible exact LeO.refl _)
   | (with_reducible exact LeO.none _)
   | (with_reducible refine LeO.ite ?_ ?_)
   | (with_reducible refine LeO.bind ?_ (fun _ => ?_))
   | exact E0 _ _ _
   | exact LeO.none _
   | refine LeO.ite ?_ ?_
   | refine LeO.bind ?_ (fun _ => ?_)
theorem laws_markInsS.mono : ∀ a0 a1 k, LeO (laws_markInsS.f k a0 a1) (laws_markInsS.f (k + 1) a0 a1) := by
 intro a0 a1 k
 have E0 := laws_markInsS.mono_l k
 unfold laws_markInsS.f
 repeat' first
   | (with_reducible exact E0 _ _ _)
   | (with_reducible exact LeO.refl _)
   | (with_reducible exact LeO.none _)
   | (with_reducible refine LeO.ite ?_ ?_)
   | (with_reducible refine LeO.bind ?_ (fun _ => ?_))
   | exact E0 _ _ _
   | exact LeO.none _
   | refine LeO.ite ?_ ?_
   | refine LeO.bind ?_ (fun _ => ?_)
set_option maxHeartbeats 8000000 in
set_option maxRecDepth 100000 in
theorem laws_markInsS.calls (k : Nat) (aa0 : Nat → Prop) (aq0 : Value) (l0 : List (S34)) (a1 : Int) (r1 : Int) (r2 : List (S34)) (w0 w : World) (hB : Below w0.heap.size w0 w) (G0 : Kd.R k34 34 w w0.heap.size aa0 aq0 l0) (h : laws_markInsS.f k l0 a1 = some (r1, r2)) :
  Calls Try.prog 38 #[aq0, .int .i64 a1] w fun e w' => e = .returned (.int .i64 r1) ∧ Kd.R k34 34 w' w0.heap.size (fun k_ => (aa0 k_ ∨ w.heap.size ≤ k_)) aq0 r2 ∧ Below w0.heap.size w0 w' ∧ Kept w w' (fun k_ => aa0 k_) := by
 have m0 := Aside0.mk (show Kd.R k34 34 w w0.heap.size (fun k_ => (aa0 k_ ∨ w.heap.size ≤ k_)) aq0 l0 from Kd.R_mono G0 (fun k_ hk => (.inl hk))); have HK := Aside0.mk (Kept.refl w (fun k_ => aa0 k_)); have bz0 := Aside0.mk hB.size; have HB := Aside0.mk hB; clear hB; have H : (laws_markInsS.l0 k l0 a1 0) = some (r1, r2) := h; clear h; have H' := Aside0.mk H; clear H
 go_enter Try.func38, Try.ntmps38
 go_wp2
 go_loopg [1, 5] k (fun kq v1 v5 w' => ∃ (a0 : List (S34)) (a2 : Int) (a3 : Int), v1 = .int .i64 a2 ∧ v5 = .int .i64 a3 ∧ Aside0 (laws_markInsS.l0 kq a0 a2 a3 = some (r1, r2)) ∧ Aside0 (kq ≤ k) ∧ Aside0 (Kd.R k34 34 w' w0.heap.size (fun k_ => (aa0 k_ ∨ w.heap.size ≤ k_)) aq0 a0) ∧ Aside0 (Kept w w' (fun k_ => aa0 k_)) ∧ Aside0 (Below w0.heap.size w0 w'))
 case atStart => exact ⟨(l0), (a1), (0), zq45_, zq45_, H', ⟨Nat.le_refl _⟩, ⟨zqe_⟩, ⟨zq5a_⟩, ⟨zq54_⟩⟩
 case round =>
  clear H'
  try clear p2
  obtain ⟨a0, a2, a3, rfl, rfl, HA, ae0, k0, HK, HB⟩ := hrel
  cases gk with
  | zero => exact absurd HA.out (by simp [laws_markInsS.l0])
  | succ k1 =>
   have H := HA.out; clear HA; simp only [laws_markInsS.l0] at H; replace H := ifc_ H
   rcases H with ⟨c3b0, H⟩ | ⟨c3b0, H⟩
   ·replace H := ifd_ H; obtain ⟨r0, H⟩ := H; obtain ⟨A0, H0⟩ : ∃ y_ : List (S34), y_ = (a0.set (a3 : Int).toNat (⟨a2, (rd_T34 a0 a3).f1, (rd_T34 a0 a3).f2, (rd_T34 a0 a3).f3⟩ : S34)) := ⟨_, rfl⟩; replace H : ((some (A0.set (a3 : Int).toNat (⟨(rd_T34 A0 a3).f0, wrap64 (a2 + 1), (rd_T34 A0 a3).f2, (rd_T34 A0 a3).f3⟩ : S34) : List (S34))).bind fun A1 => ((some (A1.set (a3 : Int).toNat (⟨(rd_T34 A1 a3).f0, (rd_T34 A1 a3).f1, wrap64 ((wrap64 (a2 + 1)) + 1), (rd_T34 A1 a3).f3⟩ : S34) : List (S34))).bind fun A2 => (laws_markInsS.l0 k1 (A2.set (a3 : Int).toNat (⟨(rd_T34 A2 a3).f0, (rd_T34 A2 a3).f1, (rd_T34 A2 a3).f2, wrap64 ((wrap64 ((wrap64 (a2 + 1)) + 1)) + 1)⟩ : S34)) (wrap64 ((wrap64 ((wrap64 ((wrap64 (a2 + 1)) + 1)) + 1)) + 1)) (wrap64 (a3 + 1))))) = some (r1, r2) := by first | (rw [H0]; with_reducible exact H) | (have Z0 := (Option.bind_some _ _).symm.trans H; rw [H0]; with_reducible exact Z0) | (have Z0 := (Option.bind_some _ _).symm.trans H; with_reducible exact Z0) | with_reducible exact H | (rw [H0]; exact H) | exact H
    have am0 := Aside0.mk H0; clear H0; obtain ⟨A1, H1⟩ : ∃ y_ : List (S34), y_ = (A0.set (a3 : Int).toNat (⟨(rd_T34 A0 a3).f0, wrap64 (a2 + 1), (rd_T34 A0 a3).f2, (rd_T34 A0 a3).f3⟩ : S34)) := ⟨_, rfl⟩; replace H : ((some (A1.set (a3 : Int).toNat (⟨(rd_T34 A1 a3).f0, (rd_T34 A1 a3).f1, wrap64 ((wrap64 (a2 + 1)) + 1), (rd_T34 A1 a3).f3⟩ : S34) : List (S34))).bind fun A2 => (laws_markInsS.l0 k1 (A2.set (a3 : Int).toNat (⟨(rd_T34 A2 a3).f0, (rd_T34 A2 a3).f1, (rd_T34 A2 a3).f2, wrap64 ((wrap64 ((wrap64 (a2 + 1)) + 1)) + 1)⟩ : S34)) (wrap64 ((wrap64 ((wrap64 ((wrap64 (a2 + 1)) + 1)) + 1)) + 1)) (wrap64 (a3 + 1)))) = some (r1, r2) := by first | (rw [H1]; with_reducible exact H) | (have Z0 := (Option.bind_some _ _).symm.trans H; rw [H1]; with_reducible exact Z0) | (have Z0 := (Option.bind_some _ _).symm.trans H; with_reducible exact Z0) | with_reducible exact H | (rw [H1]; exact H) | exact H
    have am1 := Aside0.mk H1; clear H1; obtain ⟨A2, H2⟩ : ∃ y_ : List (S34), y_ = (A1.set (a3 : Int).toNat (⟨(rd_T34 A1 a3).f0, (rd_T34 A1 a3).f1, wrap64 ((wrap64 (a2 + 1)) + 1), (rd_T34 A1 a3).f3⟩ : S34)) := ⟨_, rfl⟩; replace H : (laws_markInsS.l0 k1 (A2.set (a3 : Int).toNat (⟨(rd_T34 A2 a3).f0, (rd_T34 A2 a3).f1, (rd_T34 A2 a3).f2, wrap64 ((wrap64 ((wrap64 (a2 + 1)) + 1)) + 1)⟩ : S34)) (wrap64 ((wrap64 ((wrap64 ((wrap64 (a2 + 1)) + 1)) + 1)) + 1)) (wrap64 (a3 + 1))) = some (r1, r2) := by first | (rw [H2]; with_reducible exact H) | (have Z0 := (Option.bind_some _ _).symm.trans H; rw [H2]; with_reducible exact Z0) | (have Z0 := (Option.bind_some _ _).symm.trans H; with_reducible exact Z0) | with_reducible exact H | (rw [H2]; exact H) | exact H
    have am2 := Aside0.mk H2; clear H2; obtain ⟨A3, H3⟩ : ∃ y_ : List (S34), y_ = (A2.set (a3 : Int).toNat (⟨(rd_T34 A2 a3).f0, (rd_T34 A2 a3).f1, (rd_T34 A2 a3).f2, wrap64 ((wrap64 ((wrap64 (a2 + 1)) + 1)) + 1)⟩ : S34)) := ⟨_, rfl⟩; replace H : (laws_markInsS.l0 k1 A3 (wrap64 ((wrap64 ((wrap64 ((wrap64 (a2 + 1)) + 1)) + 1)) + 1)) (wrap64 (a3 + 1))) = some (r1, r2) := by first | (rw [H3]; with_reducible exact H) | (have Z0 := (Option.bind_some _ _).symm.trans H; rw [H3]; with_reducible exact Z0) | (have Z0 := (Option.bind_some _ _).symm.trans H; with_reducible exact Z0) | with_reducible exact H | (rw [H3]; exact H) | exact H
    have am3 := Aside0.mk H3; clear H3; have H' := Aside0.mk H; clear H; obtain ⟨o0, l1, D0⟩ := Kd.R_slice k0.out; subst D0; have p5 : 0 ≤ (a3 : Int) := of_decide_eq_true zq40_; have q5 : (a3 : Int) < ((a0.length : Int) : Int) := of_decide_eq_true zq40_; obtain ⟨L0, l2, D1, c0, aJ0, ba0, au0⟩ := Kd.R_form k0.out (by omega); (first | cases D1 | (injection D1 with ak aF aG; (first | subst ak | (injection ak with ak; subst ak)); subst aG; clear aF)); have ay0 := Aside0.mk c0; have aO0 := Aside0.mk au0; clear c0 aJ0 au0; have bb0 := Aside0.mk (show (aa0 L0 ∨ w.heap.size ≤ L0) from (k0.out.1 _ rfl)); obtain ⟨aK0, an0, ag0, Y0, ab0⟩ := Kd.R_elem k0.out z34 (a3 : Int) p5 q5; obtain rfl := k34_openM ag0; have p0 : wr.cell? ⟨L0, (a3 : Int).toNat * 4, none⟩ = some (.int .i64 ((rd_T34 a0 a3).f0)) := Y0 0 _ rfl; have p1 : wr.cell? ⟨L0, (a3 : Int).toNat * 4 + 1, none⟩ = some (.int .i64 ((rd_T34 a0 a3).f1)) := Y0 1 _ rfl; have p3 : wr.cell? ⟨L0, (a3 : Int).toNat * 4 + 2, none⟩ = some (.int .i64 ((rd_T34 a0 a3).f2)) := Y0 2 _ rfl; have p4 : wr.cell? ⟨L0, (a3 : Int).toNat * 4 + 3, none⟩ = some (.int .i64 ((rd_T34 a0 a3).f3)) := Y0 3 _ rfl; have ah0 : wr.frozen? ⟨L0, (a3 : Int).toNat * 4, none⟩ = false := ab0 0; have ah1 : wr.frozen? ⟨L0, (a3 : Int).toNat * 4 + 1, none⟩ = false := ab0 1; have ah2 : wr.frozen? ⟨L0, (a3 : Int).toNat * 4 + 2, none⟩ = false := ab0 2; have ah3 : wr.frozen? ⟨L0, (a3 : Int).toNat * 4 + 3, none⟩ = false := ab0 3; clear an0 Y0 ab0 ag0; replace p5 := eq_true p5; replace q5 := eq_true q5; have aE0 := Aside0.mk (show Kd.R k34 34 wr w0.heap.size (fun k_ => (aa0 k_ ∨ w.heap.size ≤ k_)) (.slice (some ⟨L0, 0, none⟩) a0.length l1) a0 from zqb_); obtain ⟨aK1, an1, ag1, Y1, ab1⟩ := Kd.R_elem aE0.out z34 (a3 : Int) (of_decide_eq_true zq40_) zq77_; obtain rfl := k34_openM ag1; have aj0 := Kd.R_seg aE0.out (a3 : Int) (of_decide_eq_true zq40_) zq77_ (seg := [.int .i64 a2]) (j := 0) an1 Y1 (show 1 ≤ 4 from by decide) (x' := (⟨a2, (rd_T34 a0 a3).f1, (rd_T34 a0 a3).f2, (rd_T34 a0 a3).f3⟩ : S34)) (k34_mkM _ _ _ (⟨a2, (rd_T34 a0 a3).f1, (rd_T34 a0 a3).f2, (rd_T34 a0 a3).f3⟩ : S34) ) (fun _ hk => hk); have p9 := Y1 0 _ rfl; (try simp only [show (k34).sz = 4 from rfl, Nat.mul_one, Nat.add_zero] at p9); have ah4 := ab1 0; (try simp only [show (k34).sz = 4 from rfl, Nat.mul_one, Nat.add_zero] at ah4); clear an1 Y1 ab1 ag1
    go_wp2_with (first | ((with_reducible refine gate_store (t := 3) (p := 16) rfl ?_); refine store_event (t := 3) (p := 16) (v := ?vo_w11) (w1 := (wr.setCell ⟨L0, (a3 : Int).toNat * 4, none⟩ (.int .i64 a2))) ?hg ?ho ?hn ?hr ?_; (case ho => rfl); (case hg => rfl); (case hn => rfl); (case hr => first | (go_simp; done) | (go_simp; rfl)); intro q0 hw; have hg : wr.grownBy q0 (some L0) := (by rw [hw]; exact aj0.2); have az : Kd.R k34 34 q0 w0.heap.size (fun k_ => (aa0 k_ ∨ w.heap.size ≤ k_)) (.slice (some ⟨L0, 0, none⟩) a0.length l1) A0 := (by rw [hw, am0.out]; exact aj0.1); clear aj0; have n_ := A3_ (az) ((by rw [hw]; exact below_set (HB.out) ay0.out : Below w0.heap.size w0 q0)) (Kept.of_grown (S := (fun k_ => aa0 k_)) hg zq5a_ (fun k_ e_ => (k0.out.1 k_ e_))); clear k0 HB HK; obtain ⟨k0, HB, HK⟩ := n_; clear hg hw az; have p6 : 0 ≤ (a3 : Int) := of_decide_eq_true zq40_; have q6 : (a3 : Int) < ((a0.length : Int) : Int) := of_decide_eq_true zq40_; obtain ⟨aK2, an2, ag2, Y2, ab2⟩ := Kd.R_elem k0.out z34 (a3 : Int) p6 q6; obtain rfl := k34_openM ag2; have p10 : q0.cell? ⟨L0, (a3 : Int).toNat * 4, none⟩ = some (.int .i64 ((rd_T34 A0 a3).f0)) := Y2 0 _ rfl; have p11 : q0.cell? ⟨L0, (a3 : Int).toNat * 4 + 1, none⟩ = some (.int .i64 ((rd_T34 A0 a3).f1)) := Y2 1 _ rfl; have p12 : q0.cell? ⟨L0, (a3 : Int).toNat * 4 + 2, none⟩ = some (.int .i64 ((rd_T34 A0 a3).f2)) := Y2 2 _ rfl; have p13 : q0.cell? ⟨L0, (a3 : Int).toNat * 4 + 3, none⟩ = some (.int .i64 ((rd_T34 A0 a3).f3)) := Y2 3 _ rfl; have ah5 : q0.frozen? ⟨L0, (a3 : Int).toNat * 4, none⟩ = false := ab2 0; have ah6 : q0.frozen? ⟨L0, (a3 : Int).toNat * 4 + 1, none⟩ = false := ab2 1; have ah7 : q0.frozen? ⟨L0, (a3 : Int).toNat * 4 + 2, none⟩ = false := ab2 2; have ah8 : q0.frozen? ⟨L0, (a3 : Int).toNat * 4 + 3, none⟩ = false := ab2 3; clear an2 Y2 ab2 ag2; replace p6 := eq_true p6; replace q6 := eq_true q6; have aE1 := Aside0.mk (show Kd.R k34 34 q0 w0.heap.size (fun k_ => (aa0 k_ ∨ w.heap.size ≤ k_)) (.slice (some ⟨L0, 0, none⟩) a0.length l1) A0 from zqb_); obtain ⟨aK3, an3, ag3, Y3, ab3⟩ := Kd.R_elem aE1.out z34 (a3 : Int) (of_decide_eq_true zq40_) zq77_; obtain rfl := k34_openM ag3; have aj1 := Kd.R_seg aE1.out (a3 : Int) (of_decide_eq_true zq40_) zq77_ (seg := [.int .i64 (wrap64 (a2 + 1))]) (j := 1) an3 Y3 (show 2 ≤ 4 from by decide) (x' := (⟨(rd_T34 A0 a3).f0, wrap64 (a2 + 1), (rd_T34 A0 a3).f2, (rd_T34 A0 a3).f3⟩ : S34)) (k34_mkM _ _ _ (⟨(rd_T34 A0 a3).f0, wrap64 (a2 + 1), (rd_T34 A0 a3).f2, (rd_T34 A0 a3).f3⟩ : S34) ) (fun _ hk => hk); have p14 := Y3 1 _ rfl; (try simp only [show (k34).sz = 4 from rfl, Nat.mul_one, Nat.add_zero] at p14); have ah9 := ab3 1; (try simp only [show (k34).sz = 4 from rfl, Nat.mul_one, Nat.add_zero] at ah9); clear an3 Y3 ab3 ag3) | ((with_reducible refine gate_store (t := 3) (p := 23) rfl ?_); refine store_event (t := 3) (p := 23) (v := ?vo_w13) (w1 := (q0.setCell ⟨L0, (a3 : Int).toNat * 4 + 1, none⟩ (.int .i64 (wrap64 (a2 + 1))))) ?hg ?ho ?hn ?hr ?_; (case ho => rfl); (case hg => rfl); (case hn => rfl); (case hr => first | (go_simp; done) | (go_simp; rfl)); intro q1 hw; have hg : q0.grownBy q1 (some L0) := (by rw [hw]; exact aj1.2); have az : Kd.R k34 34 q1 w0.heap.size (fun k_ => (aa0 k_ ∨ w.heap.size ≤ k_)) (.slice (some ⟨L0, 0, none⟩) a0.length l1) A1 := (by rw [hw, am1.out]; exact aj1.1); clear aj1; have n_ := A3_ (az) ((by rw [hw]; exact below_set (HB.out) ay0.out : Below w0.heap.size w0 q1)) (Kept.of_grown (S := (fun k_ => aa0 k_)) hg zq5a_ (fun k_ e_ => (k0.out.1 k_ e_))); clear k0 HB HK; obtain ⟨k0, HB, HK⟩ := n_; clear hg hw az; have p7 : 0 ≤ (a3 : Int) := of_decide_eq_true zq40_; have q7 : (a3 : Int) < ((a0.length : Int) : Int) := of_decide_eq_true zq40_; obtain ⟨aK4, an4, ag4, Y4, ab4⟩ := Kd.R_elem k0.out z34 (a3 : Int) p7 q7; obtain rfl := k34_openM ag4; have p15 : q1.cell? ⟨L0, (a3 : Int).toNat * 4, none⟩ = some (.int .i64 ((rd_T34 A1 a3).f0)) := Y4 0 _ rfl; have p16 : q1.cell? ⟨L0, (a3 : Int).toNat * 4 + 1, none⟩ = some (.int .i64 ((rd_T34 A1 a3).f1)) := Y4 1 _ rfl; have p17 : q1.cell? ⟨L0, (a3 : Int).toNat * 4 + 2, none⟩ = some (.int .i64 ((rd_T34 A1 a3).f2)) := Y4 2 _ rfl; have p18 : q1.cell? ⟨L0, (a3 : Int).toNat * 4 + 3, none⟩ = some (.int .i64 ((rd_T34 A1 a3).f3)) := Y4 3 _ rfl; have ah10 : q1.frozen? ⟨L0, (a3 : Int).toNat * 4, none⟩ = false := ab4 0; have ah11 : q1.frozen? ⟨L0, (a3 : Int).toNat * 4 + 1, none⟩ = false := ab4 1; have ah12 : q1.frozen? ⟨L0, (a3 : Int).toNat * 4 + 2, none⟩ = false := ab4 2; have ah13 : q1.frozen? ⟨L0, (a3 : Int).toNat * 4 + 3, none⟩ = false := ab4 3; clear an4 Y4 ab4 ag4; replace p7 := eq_true p7; replace q7 := eq_true q7; have aE2 := Aside0.mk (show Kd.R k34 34 q1 w0.heap.size (fun k_ => (aa0 k_ ∨ w.heap.size ≤ k_)) (.slice (some ⟨L0, 0, none⟩) a0.length l1) A1 from zqb_); obtain ⟨aK5, an5, ag5, Y5, ab5⟩ := Kd.R_elem aE2.out z34 (a3 : Int) (of_decide_eq_true zq40_) zq77_; obtain rfl := k34_openM ag5; have aj2 := Kd.R_seg aE2.out (a3 : Int) (of_decide_eq_true zq40_) zq77_ (seg := [.int .i64 (wrap64 ((wrap64 (a2 + 1)) + 1))]) (j := 2) an5 Y5 (show 3 ≤ 4 from by decide) (x' := (⟨(rd_T34 A1 a3).f0, (rd_T34 A1 a3).f1, wrap64 ((wrap64 (a2 + 1)) + 1), (rd_T34 A1 a3).f3⟩ : S34)) (k34_mkM _ _ _ (⟨(rd_T34 A1 a3).f0, (rd_T34 A1 a3).f1, wrap64 ((wrap64 (a2 + 1)) + 1), (rd_T34 A1 a3).f3⟩ : S34) ) (fun _ hk => hk); have p19 := Y5 2 _ rfl; (try simp only [show (k34).sz = 4 from rfl, Nat.mul_one, Nat.add_zero] at p19); have ah14 := ab5 2; (try simp only [show (k34).sz = 4 from rfl, Nat.mul_one, Nat.add_zero] at ah14); clear an5 Y5 ab5 ag5) | ((with_reducible refine gate_store (t := 3) (p := 30) rfl ?_); refine store_event (t := 3) (p := 30) (v := ?vo_w15) (w1 := (q1.setCell ⟨L0, (a3 : Int).toNat * 4 + 2, none⟩ (.int .i64 (wrap64 ((wrap64 (a2 + 1)) + 1))))) ?hg ?ho ?hn ?hr ?_; (case ho => rfl); (case hg => rfl); (case hn => rfl); (case hr => first | (go_simp; done) | (go_simp; rfl)); intro q2 hw; have hg : q1.grownBy q2 (some L0) := (by rw [hw]; exact aj2.2); have az : Kd.R k34 34 q2 w0.heap.size (fun k_ => (aa0 k_ ∨ w.heap.size ≤ k_)) (.slice (some ⟨L0, 0, none⟩) a0.length l1) A2 := (by rw [hw, am2.out]; exact aj2.1); clear aj2; have n_ := A3_ (az) ((by rw [hw]; exact below_set (HB.out) ay0.out : Below w0.heap.size w0 q2)) (Kept.of_grown (S := (fun k_ => aa0 k_)) hg zq5a_ (fun k_ e_ => (k0.out.1 k_ e_))); clear k0 HB HK; obtain ⟨k0, HB, HK⟩ := n_; clear hg hw az; have p8 : 0 ≤ (a3 : Int) := of_decide_eq_true zq40_; have q8 : (a3 : Int) < ((a0.length : Int) : Int) := of_decide_eq_true zq40_; obtain ⟨aK6, an6, ag6, Y6, ab6⟩ := Kd.R_elem k0.out z34 (a3 : Int) p8 q8; obtain rfl := k34_openM ag6; have p20 : q2.cell? ⟨L0, (a3 : Int).toNat * 4, none⟩ = some (.int .i64 ((rd_T34 A2 a3).f0)) := Y6 0 _ rfl; have p21 : q2.cell? ⟨L0, (a3 : Int).toNat * 4 + 1, none⟩ = some (.int .i64 ((rd_T34 A2 a3).f1)) := Y6 1 _ rfl; have p22 : q2.cell? ⟨L0, (a3 : Int).toNat * 4 + 2, none⟩ = some (.int .i64 ((rd_T34 A2 a3).f2)) := Y6 2 _ rfl; have p23 : q2.cell? ⟨L0, (a3 : Int).toNat * 4 + 3, none⟩ = some (.int .i64 ((rd_T34 A2 a3).f3)) := Y6 3 _ rfl; have ah15 : q2.frozen? ⟨L0, (a3 : Int).toNat * 4, none⟩ = false := ab6 0; have ah16 : q2.frozen? ⟨L0, (a3 : Int).toNat * 4 + 1, none⟩ = false := ab6 1; have ah17 : q2.frozen? ⟨L0, (a3 : Int).toNat * 4 + 2, none⟩ = false := ab6 2; have ah18 : q2.frozen? ⟨L0, (a3 : Int).toNat * 4 + 3, none⟩ = false := ab6 3; clear an6 Y6 ab6 ag6; replace p8 := eq_true p8; replace q8 := eq_true q8; have aE3 := Aside0.mk (show Kd.R k34 34 q2 w0.heap.size (fun k_ => (aa0 k_ ∨ w.heap.size ≤ k_)) (.slice (some ⟨L0, 0, none⟩) a0.length l1) A2 from zqb_); obtain ⟨aK7, an7, ag7, Y7, ab7⟩ := Kd.R_elem aE3.out z34 (a3 : Int) (of_decide_eq_true zq40_) zq77_; obtain rfl := k34_openM ag7; have aj3 := Kd.R_seg aE3.out (a3 : Int) (of_decide_eq_true zq40_) zq77_ (seg := [.int .i64 (wrap64 ((wrap64 ((wrap64 (a2 + 1)) + 1)) + 1))]) (j := 3) an7 Y7 (show 4 ≤ 4 from by decide) (x' := (⟨(rd_T34 A2 a3).f0, (rd_T34 A2 a3).f1, (rd_T34 A2 a3).f2, wrap64 ((wrap64 ((wrap64 (a2 + 1)) + 1)) + 1)⟩ : S34)) (k34_mkM _ _ _ (⟨(rd_T34 A2 a3).f0, (rd_T34 A2 a3).f1, (rd_T34 A2 a3).f2, wrap64 ((wrap64 ((wrap64 (a2 + 1)) + 1)) + 1)⟩ : S34) ) (fun _ hk => hk); have p24 := Y7 3 _ rfl; (try simp only [show (k34).sz = 4 from rfl, Nat.mul_one, Nat.add_zero] at p24); have ah19 := ab7 3; (try simp only [show (k34).sz = 4 from rfl, Nat.mul_one, Nat.add_zero] at ah19); clear an7 Y7 ab7 ag7) | ((with_reducible refine gate_store (t := 3) (p := 37) rfl ?_); refine store_event (t := 3) (p := 37) (v := ?vo_w17) (w1 := (q2.setCell ⟨L0, (a3 : Int).toNat * 4 + 3, none⟩ (.int .i64 (wrap64 ((wrap64 ((wrap64 (a2 + 1)) + 1)) + 1))))) ?hg ?ho ?hn ?hr ?_; (case ho => rfl); (case hg => rfl); (case hn => rfl); (case hr => first | (go_simp; done) | (go_simp; rfl)); intro q3 hw; have hg : q2.grownBy q3 (some L0) := (by rw [hw]; exact aj3.2); have az : Kd.R k34 34 q3 w0.heap.size (fun k_ => (aa0 k_ ∨ w.heap.size ≤ k_)) (.slice (some ⟨L0, 0, none⟩) a0.length l1) A3 := (by rw [hw, am3.out]; exact aj3.1); clear aj3; have n_ := A3_ (az) ((by rw [hw]; exact below_set (HB.out) ay0.out : Below w0.heap.size w0 q3)) (Kept.of_grown (S := (fun k_ => aa0 k_)) hg zq5a_ (fun k_ e_ => (k0.out.1 k_ e_))); clear k0 HB HK; obtain ⟨k0, HB, HK⟩ := n_; clear hg hw az))
    go_roundg k1
    case measure => have := ae0.out; omega
    case rel => exact ⟨(A3), (wrap64 ((wrap64 ((wrap64 ((wrap64 (a2 + 1)) + 1)) + 1)) + 1)), (wrap64 (a3 + 1)), zq45_, zq45_, H', ⟨by have := ae0.out; omega⟩, ⟨zqb_⟩, ⟨zq5a_⟩, ⟨zq54_⟩⟩
   ·simp only [Option.some.injEq, Prod.mk.injEq] at H; obtain ⟨rfl, rfl⟩ := H; obtain ⟨o0, l1, D0⟩ := Kd.R_slice k0.out; subst D0
    go_wp2
    go_ret
    exact ⟨zq44_, zqb_, zq54_, zq5a_⟩

/-! ### laws_heldBoxS: function 39 -/
def laws_heldBoxS.l0 : Nat → List (S46) → Int → Int → Option (Int)
 | 0, _, _, _ => none
 | k + 1, x0, x1, x5 => if x5 < (x0.length : Int) then (if 0 ≤ x5 then (if ((rd_T46 x0 x5).f0) = x1 then (if ((rd_T46 x0 x5).f1) = (wrap64 (x1 + 1)) then (laws_heldBoxS.l0 k x0 (wrap64 ((wrap64 (x1 + 1)) + 1)) (wrap64 (x5 + 1))) else (some (-1))) else (some (-1))) else (none)) else (some x1)
def laws_heldBoxS.f (k : Nat) (l0 : List (S46)) (a1 : Int) : Option (Int) := laws_heldBoxS.l0 k l0 a1 0
theorem laws_heldBoxS.mono_l : ∀ k, (∀ y0 y1 y2, LeO (laws_heldBoxS.l0 k y0 y1 y2) (laws_heldBoxS.l0 (k + 1) y0 y1 y2))
 | 0 => fun _ _ _ r h => by simp [laws_heldBoxS.l0] at h
 | k + 1 => by
  have E0 := laws_heldBoxS.mono_l k
  ·intro y0 y1 y2
   unfold laws_heldBoxS.l0
   repeat' first
   | (with_reducible exact E0 _ _ _)
   | (with_reducible exact LeO.refl _)
   | (with_reducible exact LeO.none _)
   | (with_reducible refine LeO.ite ?_ ?_)
   | (with_reducible refine LeO.bind ?_ (fun _ => ?_))
   | exact E0 _ _ _
   | exact LeO.none _
   | refine LeO.ite ?_ ?_
   | refine LeO.bind ?_ (fun _ => ?_)
theorem laws_heldBoxS.mono : ∀ a0 a1 k, LeO (laws_heldBoxS.f k a0 a1) (laws_heldBoxS.f (k + 1) a0 a1) := by
 intro a0 a1 k
 have E0 := laws_heldBoxS.mono_l k
 unfold laws_heldBoxS.f
 repeat' first
   | (with_reducible exact E0 _ _ _)
   | (with_reducible exact LeO.refl _)
   | (with_reducible exact LeO.none _)
   | (with_reducible refine LeO.ite ?_ ?_)
   | (with_reducible refine LeO.bind ?_ (fun _ => ?_))
   | exact E0 _ _ _
   | exact LeO.none _
   | refine LeO.ite ?_ ?_
   | refine LeO.bind ?_ (fun _ => ?_)
set_option maxHeartbeats 8000000 in
set_option maxRecDepth 100000 in
theorem laws_heldBoxS.calls (k : Nat) (A0 : Option Addr) (c0 : Nat) (l0 : List (S46)) (a1 : Int) (r : Int) (w : World) (V0 : Kd.C k46 w A0 l0.length l0) (S0 : l0.length ≤ c0) (h : laws_heldBoxS.f k l0 a1 = some r) :
  Calls Try.prog 39 #[.slice A0 l0.length c0, .int .i64 a1] w fun e w' => e = .returned (.int .i64 r) ∧ Drawn0 w w' := by
 have R0 := Aside0.mk V0; have X0 := Aside0.mk S0; clear V0 S0; have H : (laws_heldBoxS.l0 k l0 a1 0) = some r := h; clear h; have H' := Aside0.mk H; clear H
 go_enter Try.func39, Try.ntmps39
 go_wp2
 go_loopg [1, 5] k (fun kq v1 v5 w' => ∃ (a0 : Int) (a2 : Int), v1 = .int .i64 a0 ∧ v5 = .int .i64 a2 ∧ Aside0 (laws_heldBoxS.l0 kq l0 a0 a2 = some r) ∧ Aside0 (kq ≤ k) ∧ Drawn0 w w')
 case atStart => exact ⟨(a1), (0), zq45_, zq45_, H', ⟨Nat.le_refl _⟩, zq67_⟩
 case round =>
  clear H'
  try clear p2
  obtain ⟨a0, a2, rfl, rfl, HA, ae0, ⟨m1, rfl⟩⟩ := hrel
  cases gk with
  | zero => exact absurd HA.out (by simp [laws_heldBoxS.l0])
  | succ k1 =>
   have H := HA.out; clear HA; simp only [laws_heldBoxS.l0] at H; replace H := ifc_ H
   rcases H with ⟨c3b0, H⟩ | ⟨c3b0, H⟩
   ·replace H := ifd_ H; obtain ⟨r0, H⟩ := H; by_cases c5 : ((rd_T46 l0 a2).f0) = a0
    ·rw [if_pos c5] at H; have r1 : (((rd_T46 l0 a2).f0) == a0) = true := beq_iff_eq.mpr c5; have r2 : (((rd_T46 l0 a2).f0) != a0) = false := bne_eq_false_iff_eq.mpr c5; clear c5; by_cases c6 : ((rd_T46 l0 a2).f1) = (wrap64 (a0 + 1))
     ·rw [if_pos c6] at H; have r3 : (((rd_T46 l0 a2).f1) == (wrap64 (a0 + 1))) = true := beq_iff_eq.mpr c6; have r4 : (((rd_T46 l0 a2).f1) != (wrap64 (a0 + 1))) = false := bne_eq_false_iff_eq.mpr c6; clear c6; have H' := Aside0.mk H; clear H; have s0 : 0 ≤ (a2 : Int) := of_decide_eq_true zq40_; have t0 : a2 < (l0.length : Int) := of_decide_eq_true zq40_; obtain ⟨y0, N0, p0, p1⟩ := at_T46 R0.out a2 s0 t0; cases N0; replace s0 := eq_true s0; replace t0 := eq_true t0; have s1 : 0 ≤ (a2 : Int) := of_decide_eq_true zq40_; have t1 : a2 < (l0.length : Int) := of_decide_eq_true zq40_; obtain ⟨y1, N1, p3, p4⟩ := at_T46 R0.out a2 s1 t1; obtain rfl : y0 = y1 := (by injection N1); replace s1 := eq_true s1; replace t1 := eq_true t1
      go_wp2
      go_roundg k1
      case measure => have := ae0.out; omega
      case rel => exact ⟨(wrap64 ((wrap64 (a0 + 1)) + 1)), (wrap64 (a2 + 1)), zq45_, zq45_, H', ⟨by have := ae0.out; omega⟩, zq67_⟩
     ·rw [if_neg c6] at H; have r3 : (((rd_T46 l0 a2).f1) == (wrap64 (a0 + 1))) = false := beq_eq_false_iff_ne.mpr c6; have r4 : (((rd_T46 l0 a2).f1) != (wrap64 (a0 + 1))) = true := bne_iff_ne.mpr c6; obtain rfl := Option.some.inj H; have s0 : 0 ≤ (a2 : Int) := of_decide_eq_true zq40_; have t0 : a2 < (l0.length : Int) := of_decide_eq_true zq40_; obtain ⟨y0, N0, p0, p1⟩ := at_T46 R0.out a2 s0 t0; cases N0; replace s0 := eq_true s0; replace t0 := eq_true t0; have s1 : 0 ≤ (a2 : Int) := of_decide_eq_true zq40_; have t1 : a2 < (l0.length : Int) := of_decide_eq_true zq40_; obtain ⟨y1, N1, p3, p4⟩ := at_T46 R0.out a2 s1 t1; obtain rfl : y0 = y1 := (by injection N1); replace s1 := eq_true s1; replace t1 := eq_true t1
      go_wp2
      go_ret
      exact ⟨zq45_, zq67_⟩
    ·rw [if_neg c5] at H; have r1 : (((rd_T46 l0 a2).f0) == a0) = false := beq_eq_false_iff_ne.mpr c5; have r2 : (((rd_T46 l0 a2).f0) != a0) = true := bne_iff_ne.mpr c5; obtain rfl := Option.some.inj H; have s0 : 0 ≤ (a2 : Int) := of_decide_eq_true zq40_; have t0 : a2 < (l0.length : Int) := of_decide_eq_true zq40_; obtain ⟨y0, N0, p0, p1⟩ := at_T46 R0.out a2 s0 t0; cases N0; replace s0 := eq_true s0; replace t0 := eq_true t0
     go_wp2
     go_ret
     exact ⟨zq45_, zq67_⟩
   ·obtain rfl := Option.some.inj H
    go_wp2
    go_ret
    exact ⟨zq45_, zq67_⟩

end Go.Proofs.Ytgdafcakefnpdaa.PFnExactSerialOne
