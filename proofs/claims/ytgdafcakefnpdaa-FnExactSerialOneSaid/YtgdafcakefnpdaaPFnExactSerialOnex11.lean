-- Laid by this session's program out of the translation (gen.sh).
import Derived.Test.YtgdafcakefnpdaaPFnExactSerialOnex0
import Derived.Test.YtgdafcakefnpdaaPFnExactSerialOnex6
import Derived.Test.YtgdafcakefnpdaaPFnExactSerialOnex9
import Derived.Test.YtgdafcakefnpdaaPFnExactSerialOnex10
namespace Go.Proofs.Ytgdafcakefnpdaa.PFnExactSerialOne
open Go.RowKit Go.Proofs.YtgdafcakefnpdaaW.PrintWords Go.Proofs.YtgdafcakefnpdaaW.PrintLast Go.Proofs.YtgdafcakefnpdaaW.PrintMore
attribute [local go_sem] max2_int min2_int max_two min_two max_three min_three max_four min_four   -- for this text's walks alone
set_option linter.unusedVariables false
set_option linter.unusedSimpArgs false

/-! ### impl_copied_impl_Box: function 70 -/
def impl_copied_impl_Box.f (l0 : List (S46)) : Option (List (S46)) := if l0.length ≤ 17592186044416 then some l0 else none
set_option maxHeartbeats 8000000 in
set_option maxRecDepth 100000 in
theorem impl_copied_impl_Box.calls (A0 : Option Addr) (c0 : Nat) (l0 : List (S46)) (r : List (S46)) (w : World) (V0 : Kd.C k46 w A0 l0.length l0) (S0 : l0.length ≤ c0) (h : impl_copied_impl_Box.f l0 = some r) :
  Calls Try.prog 70 #[.slice A0 l0.length c0] w fun e w' => ∃ v0_ : Value, e = .returned (v0_) ∧ Kd.R k46 46 w' w.heap.size (fun _ => True) v0_ r ∧ Below w.heap.size w w' := by
 unfold impl_copied_impl_Box.f at h; by_cases aS : l0.length ≤ 17592186044416
 ·rw [if_pos aS] at h; obtain rfl := Option.some.inj h; clear h; have bj := Aside0.mk aS; by_cases aL0 : l0.length = 0
  ·obtain rfl : l0 = [] := List.eq_nil_of_length_eq_zero aL0; clear V0 S0 aS bj aL0
   go_enter Try.func70, Try.ntmps70
   go_wp2
   go_ret
   exact ⟨_, rfl, Kd.R_nil _ _ _ _ _, Below.refl _ _⟩
  ·have br0 : ((l0.length : Int) == 0) = false := beq_eq_false_iff_ne.mpr (by omega); have br1 : (l0.length == 0) = false := beq_eq_false_iff_ne.mpr aL0; have bs := Aside0.mk (Nat.pos_of_ne_zero aL0); have bK0 : (0 : Int) ≤ (l0.length : Int) := Int.natCast_nonneg _; have bt := Aside0.mk V0; have bL := Aside0.mk S0; clear V0 S0 aS aL0
   go_enter Try.func70, Try.ntmps70
   go_wp2_with (first | ((with_reducible refine gate_dst (N := 9) rfl ?_); refine Kd.R_make k46 _ 46 rfl (N := 9) rfl 23 _ _ rfl (l0.length : Int) rfl rfl Try.underlying23 (.agg #[(.int .i64 0), (.int .i64 0)]) 16 info46 rfl (by decide) (by omega) z46 (ok := fun _ => True) (okp := fun _ => True) (k46_mkM _ _ _ z46) (fun _ hk => hk) trivial (by omega) (by have := bj.out; omega) (Below.refl _ _) (Nat.le_refl _) ?_; intro af0 w2 G0 hb aP aQ; clear aP aQ; have bu := Aside0.mk G0; have bk := Aside0.mk hb; clear G0 hb) | ((with_reducible refine gate_dst (N := 12) rfl ?_); refine copy_event k46 _ rfl (N := 12) rfl (.tmp 10) (.tmp 11) 23 23 46 rfl Try.underlying23 (by have h_ := info46; obtain ⟨i0, hi, bl⟩ := Option.map_eq_some_iff.1 h_; simp only [Prod.mk.injEq] at bl; rw [hi]; exact congrArg some bl.2.1) (by decide) _ _ l0 A0 c0 (fun _ => True) rfl rfl bu.out (Kd.C_below bt.out bk.out) (by simp) bs.out (fun w' x cs h_ w1 b1 o1 => by obtain rfl := k46_open h_; exact k46_mkM _ _ _ x) bk.out ?_; intro w3 G1 hb; have bv0 := Aside0.mk G1; have bx0 := Aside0.mk hb; clear G1 hb))
   go_ret
   exact ⟨_, rfl, bv0.out, bx0.out⟩
 ·rw [if_neg aS] at h; cases h

/-! ### impl_ExecDo: function 17 -/
mutual
def impl_ExecDo.j0 : Nat → List (S46) → Bool → List (S48) → List (S36) → Int → Int → Option ((List (S46)))
 | 0, _, _, _, _, _, _ => none
 | k + 1, x0, x15, x319000, x319001, x319002, x319003 => if x15 = true then (some ([] : List (S46))) else ((impl_copied_impl_Box.f x0).bind fun t321 => (impl_ExecDo.l0 k t321 x319001 (x319001.length : Int) 0))
def impl_ExecDo.l0 : Nat → List (S46) → List (S36) → Int → Int → Option ((List (S46)))
 | 0, _, _, _, _ => none
 | k + 1, x5, x19, x20, x21 => if x21 < x20 then (if 0 ≤ x21 then (if x21 < (x19.length : Int) then (if 0 ≤ ((rd_T36 x19 x21).f0) then (if ((rd_T36 x19 x21).f0) < (x5.length : Int) then (impl_ExecDo.l0 k (x5.set (((rd_T36 x19 x21).f0) : Int).toNat (⟨mn 1000000 (wrap64 (((rd_T46 x5 ((rd_T36 x19 x21).f0)).f0) + 1)), (rd_T36 x19 x21).f1⟩ : S46)) x19 x20 (wrap64 (x21 + 1))) else (none)) else (none)) else (none)) else (none)) else (some x5)
end
def impl_ExecDo.f (k : Nat) (l0 : List (S46)) (l1_0 : List (S48)) (l1_1 : List (S36)) (a1_2 : Int) (a1_3 : Int) : Option ((List (S46))) := (impl_BoxOk.f k l0).bind fun t319 => (if t319 = true then ((impl_ExecOk.f k l1_0 l1_1 a1_2 a1_3).bind fun t320 => (impl_ExecDo.j0 k l0 (!t320) l1_0 l1_1 a1_2 a1_3)) else (impl_ExecDo.j0 k l0 true l1_0 l1_1 a1_2 a1_3))
theorem impl_ExecDo.mono_l : ∀ k, (∀ y0 y1 y2 y3 y4 y5, LeO (impl_ExecDo.j0 k y0 y1 y2 y3 y4 y5) (impl_ExecDo.j0 (k + 1) y0 y1 y2 y3 y4 y5)) ∧ (∀ y0 y1 y2 y3, LeO (impl_ExecDo.l0 k y0 y1 y2 y3) (impl_ExecDo.l0 (k + 1) y0 y1 y2 y3))
 | 0 => ⟨fun _ _ _ _ _ _ r h => by simp [impl_ExecDo.j0] at h, fun _ _ _ _ r h => by simp [impl_ExecDo.l0] at h⟩
 | k + 1 => by
  obtain ⟨E0, E1⟩ := impl_ExecDo.mono_l k
  refine ⟨?_, ?_⟩
  ·intro y0 y1 y2 y3 y4 y5
   unfold impl_ExecDo.j0
   repeat' first
   | (with_reducible exact E0 _ _ _ _ _ _)
   | (with_reducible exact E1 _ _ _ _)
   | (with_reducible exact impl_BoxOk.mono _ _)
   | (with_reducible exact impl_ExecOk.mono _ _ _ _ _)
   | (with_reducible exact LeO.refl _)
   | (with_reducible exact LeO.none _)
   | (with_reducible refine LeO.ite ?_ ?_)
   | (with_reducible refine LeO.bind ?_ (fun _ => ?_))
   | exact E0 _ _ _ _ _ _
   | exact E1 _ _ _ _
   | exact impl_BoxOk.mono _ _
   | exact impl_ExecOk.mono _ _ _ _ _
   | exact LeO.none _
   | refine LeO.ite ?_ ?_
   | refine LeO.bind ?_ (fun _ => ?_)
  ·intro y0 y1 y2 y3
   unfold impl_ExecDo.l0
   repeat' first
   | (with_reducible exact E0 _ _ _ _ _ _)
   | (with_reducible exact E1 _ _ _ _)
   | (with_reducible exact impl_BoxOk.mono _ _)
   | (with_reducible exact impl_ExecOk.mono _ _ _ _ _)
   | (with_reducible exact LeO.refl _)
   | (with_reducible exact LeO.none _)
   | (with_reducible refine LeO.ite ?_ ?_)
   | (with_reducible refine LeO.bind ?_ (fun _ => ?_))
   | exact E0 _ _ _ _ _ _
   | exact E1 _ _ _ _
   | exact impl_BoxOk.mono _ _
   | exact impl_ExecOk.mono _ _ _ _ _
   | exact LeO.none _
   | refine LeO.ite ?_ ?_
   | refine LeO.bind ?_ (fun _ => ?_)
theorem impl_ExecDo.mono : ∀ a0 a1 a2 a3 a4 k, LeO (impl_ExecDo.f k a0 a1 a2 a3 a4) (impl_ExecDo.f (k + 1) a0 a1 a2 a3 a4) := by
 intro a0 a1 a2 a3 a4 k
 obtain ⟨E0, E1⟩ := impl_ExecDo.mono_l k
 unfold impl_ExecDo.f
 repeat' first
   | (with_reducible exact E0 _ _ _ _ _ _)
   | (with_reducible exact E1 _ _ _ _)
   | (with_reducible exact impl_BoxOk.mono _ _)
   | (with_reducible exact impl_ExecOk.mono _ _ _ _ _)
   | (with_reducible exact LeO.refl _)
   | (with_reducible exact LeO.none _)
   | (with_reducible refine LeO.ite ?_ ?_)
   | (with_reducible refine LeO.bind ?_ (fun _ => ?_))
   | exact E0 _ _ _ _ _ _
   | exact E1 _ _ _ _
   | exact impl_BoxOk.mono _ _
   | exact impl_ExecOk.mono _ _ _ _ _
   | exact LeO.none _
   | refine LeO.ite ?_ ?_
   | refine LeO.bind ?_ (fun _ => ?_)
def impl_ExecDo.T7 : Bool × List (List Nat × List Nat) := (true, [([], []), ([], []), ([1], [1]), ([], []), ([], []), ([4], [4]), ([3, 5], [3, 5]), ([6], [6]), ([7], [7]), ([8], [8]), ([9], [9]), ([], []), ([11], [11]), ([10, 12], [10, 12]), ([0, 2, 0, 1, 2, 3, 4, 5, 6, 7, 8, 9, 10, 11, 12, 13], [0, 2]), ([14, 13, 0, 1, 2, 3, 4, 5, 6, 7, 8, 9, 10, 11, 12, 13], [13, 14])])
def impl_ExecDo.B7 : List Nat := [0, 0, 2, 0, 0, 16, 56, 120, 248, 504, 1016, 0, 2048, 8184, 16383, 32767]
theorem impl_ExecDo.tab7 : rtab .any (opsOf Try.f17 7) = impl_ExecDo.T7 := by kernel_rfl
theorem impl_ExecDo.bits7 : waitsOk impl_ExecDo.T7.2 impl_ExecDo.B7 = true := by kernel_rfl
set_option maxHeartbeats 8000000 in
set_option maxRecDepth 100000 in
theorem impl_ExecDo.calls (k : Nat) (A0 : Option Addr) (c0 : Nat) (l0 : List (S46)) (T0 : Option Addr) (P0 : Nat) (n0 : List (S48)) (T1 : Option Addr) (P1 : Nat) (n1 : List (S36)) (e0 : Int) (e1 : Int) (r : List (S46)) (w : World) (V0 : Kd.C k46 w A0 l0.length l0) (S0 : l0.length ≤ c0) (aA0 : Kd.C k48 w T0 n0.length n0) (aB0 : n0.length ≤ P0) (aA1 : Kd.C k36 w T1 n1.length n1) (aB1 : n1.length ≤ P1) (h : impl_ExecDo.f k l0 n0 n1 e0 e1 = some r) :
  Calls Try.prog 17 #[.slice A0 l0.length c0, .agg #[.slice T0 n0.length P0, .slice T1 n1.length P1, .int .i64 e0, .int .i64 e1]] w fun e w' => ∃ v0_ : Value, e = .returned (v0_) ∧ Kd.R k46 46 w' w.heap.size (fun _ => True) v0_ r ∧ Below w.heap.size w w' := by
 have ar0 := Try.underlying30; have ar1 := Try.underlying36; have ar2 := Try.underlying46; have R0 := Aside0.mk V0; have X0 := Aside0.mk S0; clear V0 S0; have aC0 := Aside0.mk aA0; have aZ0 := Aside0.mk aB0; clear aA0 aB0; have aC1 := Aside0.mk aA1; have aZ1 := Aside0.mk aB1; clear aA1 aB1; have HB := Aside0.mk (Below.refl w.heap.size w); have H : ((impl_BoxOk.f k l0).bind fun i0 => (if i0 = true then ((impl_ExecOk.f k n0 n1 e0 e1).bind fun i1 => (impl_ExecDo.j0 k l0 (!i1) n0 n1 e0 e1)) else (impl_ExecDo.j0 k l0 true n0 n1 e0 e1))) = some r := h; clear h; have X1 := Aside0.mk H; clear H
 go_enter Try.func17, Try.ntmps17
 go_upto_region 1 with (first | ((with_reducible refine gate_dst (N := 3) rfl ?_); refine bxe_ (N := 3) (cs := #[.slice T0 n0.length P0, .slice T1 n1.length P1, .int .i64 e0, .int .i64 e1]) (t := 30) ?_; intro c3 hg w4 x hb; have n_ := A4_ (below_step zq54_ hb) (x) ((zq81_ : w.heap.size ≤ c3)) ((zq81_ : w.heap.size ≤ c3)); clear HB; obtain ⟨HB, b0, z0, j1⟩ := n_; clear hb x hg))
 (try simp only [Act.put, List.setIfInBounds_toArray, List.set_cons_zero, List.set_cons_succ])
 go_cut [15] (fun af0 wc => ∃ (kq : Nat) (a0 : Bool), af0 = .bool a0 ∧ Aside0 (impl_ExecDo.j0 kq l0 a0 n0 n1 e0 e1 = some r) ∧ Aside0 (kq ≤ k) ∧ Aside0 (wc.heap[c3]? = some (.cells #[(.slice T0 n0.length P0), (.slice T1 n1.length P1), .int .i64 e0, .int .i64 e1] 30 (0, 0))) ∧ Aside0 (Below w.heap.size w wc))
 case first =>
  have H := X1.out; clear X1; replace H := bs_ H; obtain ⟨i0, A5, H⟩ := H; (try dsimp only at H); replace H := ifB_ H
  rcases H with ⟨rfl, H⟩ | ⟨rfl, H⟩
  ·replace H := bs_ H; obtain ⟨i1, A7, H⟩ := H; (try dsimp only at H); have H' := Aside0.mk H; clear H
   go_wp2_with (first | ((with_reducible refine gate_callee (f := 25) rfl ?_); refine gl_ 9 Try.func25 #[.slice A0 l0.length c0] ?_; (with_reducible refine (impl_BoxOk.calls k _ _ l0 true _ ?_ ?_ A5.out).mono ?_); exact zq5b_; exact X0.out; rintro e w8 ⟨rfl, hb⟩; refine ⟨_, rfl, ?_⟩; have n_ := A2_ (blk_below (g := c3) (o := .cells #[.slice T0 n0.length P0, .slice T1 n1.length P1, .int .i64 e0, .int .i64 e1] 30 (0, 0)) zq19_ hb) (below_step zq53_ hb); clear b0 HB; obtain ⟨b0, HB⟩ := n_; (try clear hb); obtain ⟨g0, g1, g2, g3, h0, h1, h2, h3⟩ := bz4_ b0.out) | (go_at_call 20; (with_reducible refine (impl_ExecOk.calls k _ _ n0 _ _ n1 e0 e1 i1 _ ?side1 ?side2 ?side3 ?side4 A7.out).mono ?_); (case side1 => repeat (first | exact (Kd.C_below aC0.out HB.out) | (with_reducible refine Kd.C_alloc ?_ _) | (with_reducible refine Kd.C_drewN ?_ _) | (with_reducible refine Kd.C_drew ?_))); (case side2 => exact aZ0.out); (case side3 => repeat (first | exact (Kd.C_below aC1.out HB.out) | (with_reducible refine Kd.C_alloc ?_ _) | (with_reducible refine Kd.C_drewN ?_ _) | (with_reducible refine Kd.C_drew ?_))); (case side4 => exact aZ1.out); rintro e q0 ⟨rfl, hb⟩; have n_ := A2_ (blk_below (g := c3) (o := .cells #[.slice T0 n0.length P0, .slice T1 n1.length P1, .int .i64 e0, .int .i64 e1] 30 (0, 0)) zq19_ hb) (below_step zq53_ hb); clear b0 HB; obtain ⟨b0, HB⟩ := n_; (try clear hb); (try clear A7)))
   go_meet
   case rel => exact ⟨_, (!i1), zq45_, H', ⟨zq43_⟩, ⟨zq19_⟩, ⟨zq53_⟩⟩
  ·have H' := Aside0.mk H; clear H
   go_wp2_with (first | ((with_reducible refine gate_callee (f := 25) rfl ?_); refine gl_ 9 Try.func25 #[.slice A0 l0.length c0] ?_; (with_reducible refine (impl_BoxOk.calls k _ _ l0 false _ ?_ ?_ A5.out).mono ?_); exact zq5b_; exact X0.out; rintro e q0 ⟨rfl, hb⟩; refine ⟨_, rfl, ?_⟩; have n_ := A2_ (blk_below (g := c3) (o := .cells #[.slice T0 n0.length P0, .slice T1 n1.length P1, .int .i64 e0, .int .i64 e1] 30 (0, 0)) zq19_ hb) (below_step zq53_ hb); clear b0 HB; obtain ⟨b0, HB⟩ := n_; (try clear hb)))
   go_meet
   case rel => exact ⟨_, (true), zq45_, H', ⟨zq43_⟩, ⟨zq19_⟩, ⟨zq53_⟩⟩
 case rest =>
  clear X1
  try clear c1
  try clear c2
  try clear p2
  try clear c6
  try clear g0 g1 g2 g3 h0 h1 h2 h3
  obtain ⟨kq, a0, rfl, HA, ap0, b0, HB⟩ := hcut
  cases kq with
  | zero => exact absurd HA.out (by simp [impl_ExecDo.j0])
  | succ kj2 =>
   have H := HA.out; clear HA; simp only [impl_ExecDo.j0] at H; replace H := ifB_ H
   rcases H with ⟨rfl, H⟩ | ⟨rfl, H⟩
   ·obtain rfl := Option.some.inj H
    go_wp2
    go_ret
    exact ⟨_, zq44_, zq41_, zq53_⟩
   ·replace H := bs_ H; obtain ⟨i2, F0, H⟩ := H; (try dsimp only at H); have H' := Aside0.mk H; clear H
    go_wp2_with (first | ((with_reducible refine gate_callee (f := 70) rfl ?_); refine gl_ 17 Try.func70 #[.slice A0 l0.length c0] ?_; (with_reducible refine (impl_copied_impl_Box.calls _ _ l0 i2 _ ?_ ?_ F0.out).mono ?_); exact zq5b_; exact X0.out; rintro e q0 ⟨af1, rfl, G0, hb⟩; refine ⟨_, rfl, ?_⟩; have n_ := A3_ (Kd.R_lower G0 (below_size zq53_)) (blk_below (g := c3) (o := .cells #[.slice T0 n0.length P0, .slice T1 n1.length P1, .int .i64 e0, .int .i64 e1] 30 (0, 0)) zq19_ hb) (below_step zq53_ hb); clear b0 HB; obtain ⟨m0, b0, HB⟩ := n_; (try clear hb); (try clear G0); obtain ⟨g4, g5, g6, g7, h4, h5, h6, h7⟩ := bz4_ b0.out))
    go_loopg [21] kj2 (fun kq af2 w' => ∃ (a1 : List (S46)) (a2 : Int), af2 = .int .i64 a2 ∧ Aside0 (impl_ExecDo.l0 kq a1 n1 (n1.length : Int) a2 = some r) ∧ Aside0 (kq ≤ kj2) ∧ Aside0 (Kd.R k46 46 w' w.heap.size (fun _ => True) af1 a1) ∧ Aside0 (w'.heap[c3]? = some (.cells #[(.slice T0 n0.length P0), (.slice T1 n1.length P1), .int .i64 e0, .int .i64 e1] 30 (0, 0))) ∧ Aside0 (Below w.heap.size w w'))
    case atStart => exact ⟨(i2), (0), zq45_, H', ⟨Nat.le_refl _⟩, ⟨zqe_⟩, ⟨zq19_⟩, ⟨zq53_⟩⟩
    case round =>
     clear H'
     try clear c1
     try clear c2
     try clear p2
     try clear c6
     try clear c7
     try clear c12
     try clear g4 g5 g6 g7 h4 h5 h6 h7
     try clear g0 g1 g2 g3 h0 h1 h2 h3
     try clear p2
     obtain ⟨a1, a2, rfl, HA, ae0, k0, b0, HB⟩ := hrel
     cases gk with
     | zero => exact absurd HA.out (by simp [impl_ExecDo.l0])
     | succ k2 =>
      have H := HA.out; clear HA; simp only [impl_ExecDo.l0] at H; replace H := ifc_ H
      rcases H with ⟨c16b0, H⟩ | ⟨c16b0, H⟩
      ·replace H := ifd4_ H; obtain ⟨r0, r1, r2, r3, H⟩ := H; obtain ⟨bp0, bF0⟩ : ∃ j_ : Int, (mn 1000000 (wrap64 (((rd_T46 a1 ((rd_T36 n1 a2).f0)).f0) + 1))) = j_ := ⟨_, rfl⟩; replace H : (impl_ExecDo.l0 k2 (a1.set (((rd_T36 n1 a2).f0) : Int).toNat (⟨bp0, (rd_T36 n1 a2).f1⟩ : S46)) n1 (n1.length : Int) (wrap64 (a2 + 1))) = some r := by first | (rw [bF0] at H; exact H) | (simp only [bF0] at H ⊢; exact H)
       have bV0 : (if (wrap64 (((rd_T46 a1 ((rd_T36 n1 a2).f0)).f0) + 1)) < 1000000 then (wrap64 (((rd_T46 a1 ((rd_T36 n1 a2).f0)).f0) + 1)) else 1000000) = bp0 := bF0; obtain ⟨A1, H0⟩ : ∃ y_ : List (S46), y_ = (a1.set (((rd_T36 n1 a2).f0) : Int).toNat (⟨bp0, (rd_T36 n1 a2).f1⟩ : S46)) := ⟨_, rfl⟩; replace H : (impl_ExecDo.l0 k2 A1 n1 (n1.length : Int) (wrap64 (a2 + 1))) = some r := by first | (rw [H0]; with_reducible exact H) | (have Z0 := (Option.bind_some _ _).symm.trans H; rw [H0]; with_reducible exact Z0) | (have Z0 := (Option.bind_some _ _).symm.trans H; with_reducible exact Z0) | with_reducible exact H | (rw [H0]; exact H) | exact H
       have am0 := Aside0.mk H0; clear H0; have H' := Aside0.mk H; clear H; have s0 : 0 ≤ (a2 : Int) := of_decide_eq_true zq40_; have t0 : a2 < (n1.length : Int) := of_decide_eq_true zq40_; obtain ⟨y0, N0, p0, p1⟩ := at_T36 aC1.out a2 s0 t0; cases N0; replace p0 := pb_ HB.out p0; replace p1 := pb_ HB.out p1; replace s0 := eq_true s0; replace t0 := eq_true t0
       try go_wp2_with (first | ((with_reducible refine gate_dst (N := 7) rfl ?_); refine bxe_ (N := 7) (cs := #[.int .i64 0, .int .i64 0]) (t := 36) ?_; intro c4 hg q1 x hb; have n_ := A8_ (Kd.R_below zqb_ hb) (blk_below (g := c3) (o := .cells #[.slice T0 n0.length P0, .slice (some y0) n1.length P1, .int .i64 e0, .int .i64 e1] 30 (0, 0)) zq19_ hb) (below_step zq53_ hb) (x) ((zq80_ : w.heap.size ≤ c4)) ((zq80_ : w.heap.size ≤ c4)) ((by rw [hg]; exact Nat.ne_of_lt (blk_lt (g := c3) (o := .cells #[.slice T0 n0.length P0, .slice (some y0) n1.length P1, .int .i64 e0, .int .i64 e1] 30 (0, 0)) zq19_) : c3 ≠ c4)) ((by rw [hg]; exact Nat.ne_of_gt (blk_lt (g := c3) (o := .cells #[.slice T0 n0.length P0, .slice (some y0) n1.length P1, .int .i64 e0, .int .i64 e1] 30 (0, 0)) zq19_) : c4 ≠ c3)); clear k0 b0 HB; obtain ⟨k0, b0, HB, b1, z1, j2, f2, f3⟩ := n_; clear hb x hg; have J0 := f3.out; have K0 := f2.out; obtain ⟨g8, g9, h8, h9⟩ := bz2_ b1.out))
       have d0 : Aside0 (Kd.R k46 46 ((q1.setCell ⟨c4, 0, none⟩ (.int .i64 ((rd_T36 n1 a2).f0))).setCell ⟨c4, 1, none⟩ (.int .i64 ((rd_T36 n1 a2).f1))) w.heap.size (fun _ => True) af1 a1) := ⟨by (with_reducible repeat (first | apply Kd.R_alloc | apply Kd.R_drewN | apply Kd.R_drew)); exact Kd.R_mono (Kd.R_far (p := ⟨c4, 1, none⟩) (Kd.R_far (p := ⟨c4, 0, none⟩) (Kd.R_types k0.out b1.out (by decide)) (fun _ hk => hk.2) (.int .i64 ((rd_T36 n1 a2).f0))) (fun _ hk => hk.2) (.int .i64 ((rd_T36 n1 a2).f1))) (fun _ hk => trivial)⟩; have d1 : Aside0 (((q1.setCell ⟨c4, 0, none⟩ (.int .i64 ((rd_T36 n1 a2).f0))).setCell ⟨c4, 1, none⟩ (.int .i64 ((rd_T36 n1 a2).f1))).heap[c3]? = some (.cells #[.slice T0 n0.length P0, .slice (some y0) n1.length P1, .int .i64 e0, .int .i64 e1] 30 (0, 0))) := ⟨by (with_reducible repeat (first | refine blk_drewN ?_ _ | refine blk_drew ?_ | refine blk_alloc ?_ _)); refine blk_far ?_ f2.out _; (with_reducible repeat (first | refine blk_drewN ?_ _ | refine blk_drew ?_ | refine blk_alloc ?_ _)); refine blk_far ?_ f2.out _; (with_reducible repeat (first | refine blk_drewN ?_ _ | refine blk_drew ?_ | refine blk_alloc ?_ _)); exact b0.out⟩; have d2 : Aside0 (((q1.setCell ⟨c4, 0, none⟩ (.int .i64 ((rd_T36 n1 a2).f0))).setCell ⟨c4, 1, none⟩ (.int .i64 ((rd_T36 n1 a2).f1))).heap[c4]? = some (.cells #[.int .i64 ((rd_T36 n1 a2).f0), .int .i64 ((rd_T36 n1 a2).f1)] 36 (0, 0))) := ⟨by (with_reducible repeat (first | refine blk_drewN ?_ _ | refine blk_drew ?_ | refine blk_alloc ?_ _)); refine blk_put (cs := #[.int .i64 ((rd_T36 n1 a2).f0), .int .i64 0]) ?_ 1 _ rfl; (with_reducible repeat (first | refine blk_drewN ?_ _ | refine blk_drew ?_ | refine blk_alloc ?_ _)); refine blk_put (cs := #[.int .i64 0, .int .i64 0]) ?_ 0 _ rfl; (with_reducible repeat (first | refine blk_drewN ?_ _ | refine blk_drew ?_ | refine blk_alloc ?_ _)); exact b1.out⟩; have d3 : Aside0 (Below w.heap.size w ((q1.setCell ⟨c4, 0, none⟩ (.int .i64 ((rd_T36 n1 a2).f0))).setCell ⟨c4, 1, none⟩ (.int .i64 ((rd_T36 n1 a2).f1)))) := ⟨zq4f_⟩; (try clear k0); (try clear b0); (try clear b1); (try clear HB); generalize ((q1.setCell ⟨c4, 0, none⟩ (.int .i64 ((rd_T36 n1 a2).f0))).setCell ⟨c4, 1, none⟩ (.int .i64 ((rd_T36 n1 a2).f1))) = q2 at d0 d1 d2 d3 ⊢; have k0 := d0; have b0 := d1; have b1 := d2; have HB := d3; clear d0 d1 d2 d3; have n_ := A4_ (Kd.R_drew k0.out) (blk_drew b0.out) (blk_drew b1.out) (below_drew1 HB.out); clear k0 b0 b1 HB; obtain ⟨k0, b0, b1, HB⟩ := n_; obtain ⟨o0, l1, D0⟩ := Kd.R_slice k0.out; (first | subst D0 | (injection D0 with I0 I1 I2; have I3 := I0.symm; have I4 := I2.symm; clear I0 I1 I2; subst I3; subst I4)); have s1 : 0 ≤ (((rd_T36 n1 a2).f0) : Int) := of_decide_eq_true zq40_; have t1 : ((rd_T36 n1 a2).f0) < (a1.length : Int) := of_decide_eq_true zq40_; obtain ⟨y1, N1, p3, p4⟩ := at_T46 (Kd.R_reads' k0.out).2.2 ((rd_T36 n1 a2).f0) s1 t1; cases N1; replace s1 := eq_true s1; replace t1 := eq_true t1; have s2 : 0 ≤ (((rd_T36 n1 a2).f0) : Int) := of_decide_eq_true zq40_; have t2 : (((rd_T36 n1 a2).f0) : Int) < ((a1.length : Int) : Int) := of_decide_eq_true zq40_; obtain ⟨L0, l2, D1, c5, aJ0, ba0, au0⟩ := Kd.R_form k0.out (by omega); (first | cases D1 | (injection D1 with ak aF aG; (first | subst ak | (injection ak with ak; subst ak)); subst aG; clear aF)); have ay0 := Aside0.mk c5; have aO0 := Aside0.mk au0; clear c5 aJ0 au0; (first | simp only [add_plain] at p3 | skip); (first | simp only [add_plain] at p4 | skip); obtain ⟨aK0, an0, ag0, Y0, ab0⟩ := Kd.R_elem k0.out z46 (((rd_T36 n1 a2).f0) : Int) s2 t2; obtain rfl := k46_openM ag0; have p5 : World.cell? _ ⟨L0, (((rd_T36 n1 a2).f0) : Int).toNat * 2, none⟩ = some (.int .i64 ((rd_T46 a1 ((rd_T36 n1 a2).f0)).f0)) := Y0 0 _ rfl; have p6 : World.cell? _ ⟨L0, (((rd_T36 n1 a2).f0) : Int).toNat * 2 + 1, none⟩ = some (.int .i64 ((rd_T46 a1 ((rd_T36 n1 a2).f0)).f1)) := Y0 1 _ rfl; have ah0 : World.frozen? _ ⟨L0, (((rd_T36 n1 a2).f0) : Int).toNat * 2, none⟩ = false := ab0 0
       have ah1 : World.frozen? _ ⟨L0, (((rd_T36 n1 a2).f0) : Int).toNat * 2 + 1, none⟩ = false := ab0 1; clear an0 Y0 ab0 ag0; replace s2 := eq_true s2; replace t2 := eq_true t2; obtain ⟨aK1, an1, ag1, Y1, ab1⟩ := Kd.R_elem k0.out z46 (((rd_T36 n1 a2).f0) : Int) (of_decide_eq_true zq40_) zq75_; obtain rfl := k46_openM ag1; have aj0 := (Kd.R_seg k0.out (((rd_T36 n1 a2).f0) : Int) (of_decide_eq_true zq40_) zq75_ (seg := [.int .i64 bp0, .int .i64 ((rd_T36 n1 a2).f1)]) (j := 0) an1 Y1 (show 2 ≤ 2 from by decide) (x' := (⟨bp0, (rd_T36 n1 a2).f1⟩ : S46)) (k46_mkM _ _ _ (⟨bp0, (rd_T36 n1 a2).f1⟩ : S46) ) (fun _ hk => hk)).1; rw [← am0.out] at aj0; have aY0 := Aside0.mk aj0; clear an1 Y1 ab1 ag1 aj0; refine start_ (n := 16) (S := fun w' => w'.cell? ⟨c4, 0, none⟩ = some (.int .i64 ((rd_T36 n1 a2).f0)) ∧ w'.cell? ⟨c4, 1, none⟩ = some (.int .i64 ((rd_T36 n1 a2).f1)) ∧ w'.cell? ⟨L0, ((((rd_T36 n1 a2).f0)).toNat * 2), none⟩ = some (.int .i64 ((rd_T46 a1 ((rd_T36 n1 a2).f0)).f0)) ∧ w'.cell? ⟨L0, ((((rd_T36 n1 a2).f0)).toNat * 2) + 1, none⟩ = some (.int .i64 ((rd_T46 a1 ((rd_T36 n1 a2).f0)).f1))) (ds := [15]) #[false, false, false, false, false, false, false, false, false, false, false, false, false, false, false, false] (by kernel_rfl) rfl rfl ⟨(blk_cell b1.out 0).trans rfl, (blk_cell b1.out 1).trans rfl, p3, p4⟩ (fun hHeld => ?_); refine with_tabW impl_ExecDo.tab7 impl_ExecDo.bits7 (fun HT_ HW_ => ?_); generalize q2.drew = q3 at k0 b0 b1 HB aO0 aY0 ah0 ah1 p5 p6 p3 p4 hHeld ⊢; refine pw_ 0 25 ?_; refine pw_ 1 26 ?_; refine pw_ 3 28 ?_; refine pw_ 4 29 ?_; refine pw_ 11 36 ?_; refine tw_ 2 27 ?_; refine tw_ 5 30 ?_; refine pw_ 6 31 ?_; refine pw_ 7 32 ?_; refine tw_ 8 33 ?_; refine pw_ 9 34 ?_; refine pw_ 10 35 ?_; refine tw_ 12 37 ?_; refine pw_ 13 38 ?_; refine pw_ 14 39 ?_; refine last_ (i := 15) (N := none) #[true, true, true, true, true, true, true, true, true, true, true, true, true, true, true, true] rfl rfl (one_of HT_.out (by kernel_rfl)) (by decide) (fun K hK => ?_); refine skip_ (w1 := ?_) (by rfl) rfl ?_ ?_
       rotate_left
       ·go_simp
        rfl
       refine hK.out _ _ ?_; clear hK K; refine done_ (done_of HT_.out (by kernel_rfl)) ?_
       try go_wp2
       go_roundg k2
       case measure => have := ap0.out; have := ae0.out; omega
       case rel => exact ⟨(A1), (wrap64 (a2 + 1)), zq45_, H', ⟨by have := ap0.out; have := ae0.out; omega⟩, ⟨zqa_⟩, ⟨zq6e_⟩, ⟨by repeat (first | (with_reducible first | exact HB.out | apply below_alloc | apply pw_below_drewN | apply below_drew1 | refine below_set ?_ ay0.out | refine below_set ?_ ay0.out | refine below_set ?_ j1.out | refine below_set ?_ j2.out) | exact HB.out)⟩⟩
      ·obtain rfl := Option.some.inj H
       go_wp2
       go_ret
       exact ⟨_, zq44_, zqb_, zq53_⟩

/-! ### impl_SerialOne: function 34 -/
def impl_SerialOne.f (k : Nat) (l0 : List (S46)) (l1 : List (S34)) : Option ((List (S46)) × Int × Int) := (impl_ExecRun.f k l0 l1).bind fun bt328 => (if bt328.2.2.2 = 3 then (some (([] : List (S46)), 0, 3)) else ((impl_ExecDo.f k l0 bt328.1 bt328.2.1 bt328.2.2.1 bt328.2.2.2).bind fun t337 => (some (t337, bt328.2.2.1, bt328.2.2.2))))
theorem impl_SerialOne.mono : ∀ a0 a1 k, LeO (impl_SerialOne.f k a0 a1) (impl_SerialOne.f (k + 1) a0 a1) := by
 intro a0 a1 k
 unfold impl_SerialOne.f
 repeat' first
   | (with_reducible exact impl_ExecDo.mono _ _ _ _ _ _)
   | (with_reducible exact impl_ExecRun.mono _ _ _)
   | (with_reducible exact LeO.refl _)
   | (with_reducible exact LeO.none _)
   | (with_reducible refine LeO.ite ?_ ?_)
   | (with_reducible refine LeO.bind ?_ (fun _ => ?_))
   | exact impl_ExecDo.mono _ _ _ _ _ _
   | exact impl_ExecRun.mono _ _ _
   | exact LeO.none _
   | refine LeO.ite ?_ ?_
   | refine LeO.bind ?_ (fun _ => ?_)
def impl_SerialOne.T4 : Bool × List (List Nat × List Nat) := (true, [([], []), ([], []), ([0, 1], [0, 1]), ([], []), ([3], [3]), ([], []), ([5], [5]), ([2, 2, 0, 1, 2], [2]), ([4, 7, 0, 1, 2, 3, 4, 7], [4]), ([6, 8, 0, 1, 2, 3, 4, 5, 6, 7, 8], [6])])
def impl_SerialOne.B4 : List Nat := [0, 0, 3, 0, 8, 0, 32, 7, 159, 511]
theorem impl_SerialOne.tab4 : rtab .any (opsOf Try.f34 4) = impl_SerialOne.T4 := by kernel_rfl
theorem impl_SerialOne.bits4 : waitsOk impl_SerialOne.T4.2 impl_SerialOne.B4 = true := by kernel_rfl
set_option maxHeartbeats 8000000 in
set_option maxRecDepth 100000 in
theorem impl_SerialOne.calls (k : Nat) (A0 : Option Addr) (c0 : Nat) (l0 : List (S46)) (A1 : Option Addr) (c1 : Nat) (l1 : List (S34)) (r1 : List (S46)) (r2 : Int) (r3 : Int) (w : World) (V0 : Kd.C k46 w A0 l0.length l0) (S0 : l0.length ≤ c0) (V1 : Kd.C k34 w A1 l1.length l1) (S1 : l1.length ≤ c1) (h : impl_SerialOne.f k l0 l1 = some (r1, r2, r3)) :
  Calls Try.prog 34 #[.slice A0 l0.length c0, .slice A1 l1.length c1] w fun e w' => ∃ v0_ : Value, e = .returned (.tuple #[v0_, .int .i64 r2, .int .i64 r3]) ∧ Kd.R k46 46 w' w.heap.size (fun _ => True) v0_ r1 ∧ Below w.heap.size w w' := by
 have ar0 := Try.underlying30; have R0 := Aside0.mk V0; have X0 := Aside0.mk S0; clear V0 S0; have R1 := Aside0.mk V1; have X1 := Aside0.mk S1; clear V1 S1; have HB := Aside0.mk (Below.refl w.heap.size w); have H : ((impl_ExecRun.f k l0 l1).bind fun ao0 => (if ao0.2.2.2 = 3 then (some (([] : List (S46)), 0, 3)) else ((impl_ExecDo.f k l0 ao0.1 ao0.2.1 ao0.2.2.1 ao0.2.2.2).bind fun i0 => (some (i0, ao0.2.2.1, ao0.2.2.2))))) = some (r1, r2, r3) := h; clear h; replace H := Option.bind_eq_some_iff.mp H; obtain ⟨⟨i1, i2, i3, i4⟩, F0, H⟩ := H; (try dsimp only at H); have A3 := Aside0.mk F0; clear F0; by_cases c4 : i4 = 3
 ·rw [if_pos c4] at H; have r0 : (i4 == 3) = true := beq_iff_eq.mpr c4; have r4 : (i4 != 3) = false := bne_eq_false_iff_eq.mpr c4; clear c4; simp only [Option.some.injEq, Prod.mk.injEq] at H; obtain ⟨rfl, rfl, rfl⟩ := H
  go_enter Try.func34, Try.ntmps34
  go_wp2_with (first | ((with_reducible refine gate_callee (f := 13) rfl ?_); refine gl_ 10 Try.func13 #[.slice A0 l0.length c0, .slice A1 l1.length c1] ?_; (with_reducible refine (impl_ExecRun.calls k _ _ l0 _ _ l1 i1 i2 i3 i4 _ ?_ ?_ ?_ ?_ A3.out).mono ?_); exact zq6a_; exact X0.out; exact zq6b_; exact X1.out; rintro e w5 ⟨af0, af1, rfl, G0, G1, hb⟩; refine ⟨_, rfl, ?_⟩; have n_ := A3_ (Kd.R_lower G0 (below_size zq54_)) (Kd.R_lower G1 (below_size zq54_)) (below_step zq54_ hb); clear HB; obtain ⟨m0, m1, HB⟩ := n_; (try clear hb); (try clear G0); (try clear G1)) | ((with_reducible refine gate_dst (N := 7) rfl ?_); refine bxe_ (N := 7) (cs := #[.slice none 0 0, .slice none 0 0, .int .i64 0, .int .i64 0]) (t := 30) ?_; intro c2 hg w6 x hb; have n_ := A6_ (Kd.R_below zqe_ hb) (Kd.R_below zqf_ hb) (below_step zq54_ hb) (x) ((zq81_ : w.heap.size ≤ c2)) ((zq81_ : w.heap.size ≤ c2)); clear m0 m1 HB; obtain ⟨m0, m1, HB, b0, z0, j0⟩ := n_; clear hb x hg; obtain ⟨o0, l2, D0⟩ := Kd.R_slice m0.out; subst D0; obtain ⟨g0, g1, g2, g3, h0, h1, h2, h3⟩ := bz4_ b0.out; obtain ⟨o1, l3, D1⟩ := Kd.R_slice m1.out; subst D1))
  go_ret3
  exact ⟨_, zq44_, zq41_, zq4c_⟩
 ·rw [if_neg c4] at H; have r0 : (i4 == 3) = false := beq_eq_false_iff_ne.mpr c4; have r4 : (i4 != 3) = true := bne_iff_ne.mpr c4; replace H := bs_ H; obtain ⟨i0, F1, H⟩ := H; (try dsimp only at H); simp only [Option.some.injEq, Prod.mk.injEq] at H; obtain ⟨rfl, rfl, rfl⟩ := H
  go_enter Try.func34, Try.ntmps34
  try go_wp2_with (first | ((with_reducible refine gate_callee (f := 13) rfl ?_); refine gl_ 10 Try.func13 #[.slice A0 l0.length c0, .slice A1 l1.length c1] ?_; (with_reducible refine (impl_ExecRun.calls k _ _ l0 _ _ l1 i1 i2 i3 i4 _ ?_ ?_ ?_ ?_ A3.out).mono ?_); exact zq6a_; exact X0.out; exact zq6b_; exact X1.out; rintro e q0 ⟨af0, af1, rfl, G0, G1, hb⟩; refine ⟨_, rfl, ?_⟩; have n_ := A3_ (Kd.R_lower G0 (below_size zq54_)) (Kd.R_lower G1 (below_size zq54_)) (below_step zq54_ hb); clear HB; obtain ⟨m0, m1, HB⟩ := n_; (try clear hb); (try clear G0); (try clear G1)) | ((with_reducible refine gate_dst (N := 7) rfl ?_); refine bxe_ (N := 7) (cs := #[.slice none 0 0, .slice none 0 0, .int .i64 0, .int .i64 0]) (t := 30) ?_; intro c2 hg q1 x hb; have n_ := A6_ (Kd.R_below zqe_ hb) (Kd.R_below zqf_ hb) (below_step zq54_ hb) (x) ((zq81_ : w.heap.size ≤ c2)) ((zq81_ : w.heap.size ≤ c2)); clear m0 m1 HB; obtain ⟨m0, m1, HB, b0, z0, j0⟩ := n_; clear hb x hg; obtain ⟨o0, l2, D0⟩ := Kd.R_slice m0.out; subst D0; obtain ⟨g0, g1, g2, g3, h0, h1, h2, h3⟩ := bz4_ b0.out; obtain ⟨o1, l3, D1⟩ := Kd.R_slice m1.out; subst D1))
  have d0 : Aside0 (Kd.R k48 48 ((((q1.setCell ⟨c2, 0, none⟩ (.slice o0 i1.length l2)).setCell ⟨c2, 1, none⟩ (.slice o1 i2.length l3)).setCell ⟨c2, 2, none⟩ (.int .i64 i3)).setCell ⟨c2, 3, none⟩ (.int .i64 i4)) w.heap.size (fun _ => True) (.slice o0 i1.length l2) i1) := ⟨by (with_reducible repeat (first | apply Kd.R_alloc | apply Kd.R_drewN | apply Kd.R_drew)); exact Kd.R_mono (Kd.R_far (p := ⟨c2, 3, none⟩) (Kd.R_far (p := ⟨c2, 2, none⟩) (Kd.R_far (p := ⟨c2, 1, none⟩) (Kd.R_far (p := ⟨c2, 0, none⟩) (Kd.R_types m0.out b0.out (by decide)) (fun _ hk => hk.2) (.slice o0 i1.length l2)) (fun _ hk => hk.2) (.slice o1 i2.length l3)) (fun _ hk => hk.2) (.int .i64 i3)) (fun _ hk => hk.2) (.int .i64 i4)) (fun _ hk => trivial)⟩; have d1 : Aside0 (Kd.R k36 36 ((((q1.setCell ⟨c2, 0, none⟩ (.slice o0 i1.length l2)).setCell ⟨c2, 1, none⟩ (.slice o1 i2.length l3)).setCell ⟨c2, 2, none⟩ (.int .i64 i3)).setCell ⟨c2, 3, none⟩ (.int .i64 i4)) w.heap.size (fun _ => True) (.slice o1 i2.length l3) i2) := ⟨by (with_reducible repeat (first | apply Kd.R_alloc | apply Kd.R_drewN | apply Kd.R_drew)); exact Kd.R_mono (Kd.R_far (p := ⟨c2, 3, none⟩) (Kd.R_far (p := ⟨c2, 2, none⟩) (Kd.R_far (p := ⟨c2, 1, none⟩) (Kd.R_far (p := ⟨c2, 0, none⟩) (Kd.R_types m1.out b0.out (by decide)) (fun _ hk => hk.2) (.slice o0 i1.length l2)) (fun _ hk => hk.2) (.slice o1 i2.length l3)) (fun _ hk => hk.2) (.int .i64 i3)) (fun _ hk => hk.2) (.int .i64 i4)) (fun _ hk => trivial)⟩; have d2 : Aside0 (((((q1.setCell ⟨c2, 0, none⟩ (.slice o0 i1.length l2)).setCell ⟨c2, 1, none⟩ (.slice o1 i2.length l3)).setCell ⟨c2, 2, none⟩ (.int .i64 i3)).setCell ⟨c2, 3, none⟩ (.int .i64 i4)).heap[c2]? = some (.cells #[.slice o0 i1.length l2, .slice o1 i2.length l3, .int .i64 i3, .int .i64 i4] 30 (0, 0))) := ⟨by (with_reducible repeat (first | refine blk_drewN ?_ _ | refine blk_drew ?_ | refine blk_alloc ?_ _)); refine blk_put (cs := #[.slice o0 i1.length l2, .slice o1 i2.length l3, .int .i64 i3, .int .i64 0]) ?_ 3 _ rfl; (with_reducible repeat (first | refine blk_drewN ?_ _ | refine blk_drew ?_ | refine blk_alloc ?_ _)); refine blk_put (cs := #[.slice o0 i1.length l2, .slice o1 i2.length l3, .int .i64 0, .int .i64 0]) ?_ 2 _ rfl; (with_reducible repeat (first | refine blk_drewN ?_ _ | refine blk_drew ?_ | refine blk_alloc ?_ _)); refine blk_put (cs := #[.slice o0 i1.length l2, .slice none 0 0, .int .i64 0, .int .i64 0]) ?_ 1 _ rfl; (with_reducible repeat (first | refine blk_drewN ?_ _ | refine blk_drew ?_ | refine blk_alloc ?_ _)); refine blk_put (cs := #[.slice none 0 0, .slice none 0 0, .int .i64 0, .int .i64 0]) ?_ 0 _ rfl; (with_reducible repeat (first | refine blk_drewN ?_ _ | refine blk_drew ?_ | refine blk_alloc ?_ _)); exact b0.out⟩; have d3 : Aside0 (Below w.heap.size w ((((q1.setCell ⟨c2, 0, none⟩ (.slice o0 i1.length l2)).setCell ⟨c2, 1, none⟩ (.slice o1 i2.length l3)).setCell ⟨c2, 2, none⟩ (.int .i64 i3)).setCell ⟨c2, 3, none⟩ (.int .i64 i4))) := ⟨zq4c_⟩; (try clear m0); (try clear m1); (try clear b0); (try clear HB); generalize ((((q1.setCell ⟨c2, 0, none⟩ (.slice o0 i1.length l2)).setCell ⟨c2, 1, none⟩ (.slice o1 i2.length l3)).setCell ⟨c2, 2, none⟩ (.int .i64 i3)).setCell ⟨c2, 3, none⟩ (.int .i64 i4)) = q2 at d0 d1 d2 d3 ⊢; have m0 := d0; have m1 := d1; have b0 := d2; have HB := d3; clear d0 d1 d2 d3; have n_ := A4_ (Kd.R_drew m0.out) (Kd.R_drew m1.out) (blk_drew b0.out) (below_drew1 HB.out); clear m0 m1 b0 HB; obtain ⟨m0, m1, b0, HB⟩ := n_
  refine start_ (n := 10) (S := fun w' => w'.cell? ⟨c2, 0, none⟩ = some (.slice o0 i1.length l2) ∧ w'.cell? ⟨c2, 1, none⟩ = some (.slice o1 i2.length l3) ∧ w'.cell? ⟨c2, 2, none⟩ = some (.int .i64 i3) ∧ w'.cell? ⟨c2, 3, none⟩ = some (.int .i64 i4)) (ds := []) #[false, false, false, false, false, false, false, false, false, false] (by kernel_rfl) rfl rfl ⟨(blk_cell b0.out 0).trans rfl, (blk_cell b0.out 1).trans rfl, (blk_cell b0.out 2).trans rfl, (blk_cell b0.out 3).trans rfl⟩ (fun hHeld => ?_); refine with_tabW impl_SerialOne.tab4 impl_SerialOne.bits4 (fun HT_ HW_ => ?_); generalize q2.drew = q3 at m0 m1 b0 HB hHeld ⊢; refine pw_ 0 14 ?_; refine pw_ 3 17 ?_; refine pw_ 5 19 ?_; refine tw_ 1 15 ?_; refine tw_ 4 18 ?_; refine tw_ 6 20 ?_; refine on_ (i := 2) (N := some 16) rfl rfl (one_of HT_.out (by kernel_rfl)) (by decide) (fun K hK => ?_); refine goes_ Try.func17 (by kernel_rfl) rfl #[.slice A0 l0.length c0, .agg #[.slice o0 i1.length l2, .slice o1 i2.length l3, .int .i64 i3, .int .i64 i4]] (by rfl) rfl rfl zq1_ ?_
  with_reducible refine (impl_ExecDo.calls k _ _ l0 _ _ i1 _ _ i2 i3 i4 i0 _ ?side1 ?side2 ?side3 ?side4 ?side5 ?side6 F1.out).mono ?_
  (case side1 => exact zq5b_); (case side2 => exact X0.out); (case side3 => exact zq5f_); (case side4 => exact (Kd.R_reads' m0.out).2.1); (case side5 => exact zq60_); (case side6 => exact (Kd.R_reads' m1.out).2.1); rintro e q4 ⟨af2, rfl, G0, hb⟩; refine ⟨_, rfl, ?_⟩; have n_ := A5_ (Kd.R_below zqe_ hb) (Kd.R_below zqf_ hb) (Kd.R_lower G0 (below_size zq4c_)) (blk_below (g := c2) (o := .cells #[.slice o0 i1.length l2, .slice o1 i2.length l3, .int .i64 i3, .int .i64 i4] 30 (0, 0)) zq19_ hb) (below_step zq4c_ hb); clear m0 m1 b0 HB; obtain ⟨m0, m1, m2, b0, HB⟩ := n_; (try clear hb); (try clear hb2); (try clear hk); (try clear hi); (try clear G0); refine hK.out _ _ ⟨(blk_cell b0.out 0).trans rfl, (blk_cell b0.out 1).trans rfl, (blk_cell b0.out 2).trans rfl, (blk_cell b0.out 3).trans rfl⟩ (fun hHeld => ?_); clear hK K; refine norm_ (a' := ?_) ?_ ?_
  rotate_left
  ·show Act.put _ (some 16) _ = _; simp only [Act.put, List.setIfInBounds_toArray, List.set_cons_zero, List.set_cons_succ, i64_w, i32_w]; rfl
  refine pw_ 7 4 ?_; refine pw_ 8 5 ?_; refine pw_ 9 6 ?_; refine done_ (done_of HT_.out (by kernel_rfl)) ?_
  try go_wp2
  go_ret3
  exact ⟨_, zq44_, zq10_, zq4c_⟩

/-! ### laws_eqBox: function 82 -/
def laws_eqBox.f (a0_0 : Int) (a0_1 : Int) (a1_0 : Int) (a1_1 : Int) : Option (Bool) := if a0_0 = a1_0 then (if a0_1 = a1_1 then (some true) else (some false)) else (some false)
set_option maxHeartbeats 8000000 in
set_option maxRecDepth 100000 in
theorem laws_eqBox.calls (e0 : Int) (e1 : Int) (e2 : Int) (e3 : Int) (r : Bool) (w : World) (h : laws_eqBox.f e0 e1 e2 e3 = some r) :
  Calls Try.prog 82 #[.agg #[.int .i64 e0, .int .i64 e1], .agg #[.int .i64 e2, .int .i64 e3]] w fun e w' => e = .returned (.bool r) ∧ Below w.heap.size w w' := by
 have ar0 := Try.underlying46; have HB := Aside0.mk (Below.refl w.heap.size w); have H : (if e0 = e2 then (if e1 = e3 then (some true) else (some false)) else (some false)) = some r := h; clear h; by_cases c3 : e0 = e2
 ·rw [if_pos c3] at H; have r0 : (e0 == e2) = true := beq_iff_eq.mpr c3; have r1 : (e0 != e2) = false := bne_eq_false_iff_eq.mpr c3; clear c3; by_cases c4 : e1 = e3
  ·rw [if_pos c4] at H; have r2 : (e1 == e3) = true := beq_iff_eq.mpr c4; have r3 : (e1 != e3) = false := bne_eq_false_iff_eq.mpr c4; clear c4; obtain rfl := Option.some.inj H
   go_enter Try.func82, Try.ntmps82
   go_wp2_with (first | ((with_reducible refine gate_dst (N := 2) rfl ?_); refine bxe_ (N := 2) (cs := #[.int .i64 e0, .int .i64 e1]) (t := 46) ?_; intro c0 hg w5 x hb; have n_ := A4_ (below_step zq54_ hb) (x) ((zq81_ : w.heap.size ≤ c0)) ((zq81_ : w.heap.size ≤ c0)); clear HB; obtain ⟨HB, b0, z0, j0⟩ := n_; clear hb x hg) | ((with_reducible refine gate_dst (N := 3) rfl ?_); refine bxe_ (N := 3) (cs := #[.int .i64 e2, .int .i64 e3]) (t := 46) ?_; intro c1 hg w6 x hb; have n_ := A7_ (blk_below (g := c0) (o := .cells #[.int .i64 e0, .int .i64 e1] 46 (0, 0)) zq19_ hb) (below_step zq4c_ hb) (x) ((zq7d_ : w.heap.size ≤ c1)) ((zq7d_ : w.heap.size ≤ c1)) ((zq96_ : c0 ≠ c1)) ((zq85_ : c1 ≠ c0)); clear b0 HB; obtain ⟨b0, HB, b1, z1, j1, f0, f1⟩ := n_; clear hb x hg; have J0 := f0.out; have K0 := f1.out; obtain ⟨g0, g1, h0, h1⟩ := bz2_ b0.out; obtain ⟨g2, g3, h2, h3⟩ := bz2_ b1.out))
   go_ret
   exact ⟨zq44_, zq4b_⟩
  ·rw [if_neg c4] at H; have r2 : (e1 == e3) = false := beq_eq_false_iff_ne.mpr c4; have r3 : (e1 != e3) = true := bne_iff_ne.mpr c4; obtain rfl := Option.some.inj H
   go_enter Try.func82, Try.ntmps82
   go_wp2_with (first | ((with_reducible refine gate_dst (N := 2) rfl ?_); refine bxe_ (N := 2) (cs := #[.int .i64 e0, .int .i64 e1]) (t := 46) ?_; intro c0 hg q0 x hb; have n_ := A4_ (below_step zq54_ hb) (x) ((zq81_ : w.heap.size ≤ c0)) ((zq81_ : w.heap.size ≤ c0)); clear HB; obtain ⟨HB, b0, z0, j0⟩ := n_; clear hb x hg) | ((with_reducible refine gate_dst (N := 3) rfl ?_); refine bxe_ (N := 3) (cs := #[.int .i64 e2, .int .i64 e3]) (t := 46) ?_; intro c1 hg q1 x hb; have n_ := A7_ (blk_below (g := c0) (o := .cells #[.int .i64 e0, .int .i64 e1] 46 (0, 0)) zq19_ hb) (below_step zq4c_ hb) (x) ((zq7d_ : w.heap.size ≤ c1)) ((zq7d_ : w.heap.size ≤ c1)) ((zq96_ : c0 ≠ c1)) ((zq85_ : c1 ≠ c0)); clear b0 HB; obtain ⟨b0, HB, b1, z1, j1, f0, f1⟩ := n_; clear hb x hg; have J0 := f0.out; have K0 := f1.out; obtain ⟨g0, g1, h0, h1⟩ := bz2_ b0.out; obtain ⟨g2, g3, h2, h3⟩ := bz2_ b1.out))
   go_ret
   exact ⟨zq44_, zq4b_⟩
 ·rw [if_neg c3] at H; have r0 : (e0 == e2) = false := beq_eq_false_iff_ne.mpr c3; have r1 : (e0 != e2) = true := bne_iff_ne.mpr c3; obtain rfl := Option.some.inj H
  go_enter Try.func82, Try.ntmps82
  go_wp2_with (first | ((with_reducible refine gate_dst (N := 2) rfl ?_); refine bxe_ (N := 2) (cs := #[.int .i64 e0, .int .i64 e1]) (t := 46) ?_; intro c0 hg q0 x hb; have n_ := A4_ (below_step zq54_ hb) (x) ((zq81_ : w.heap.size ≤ c0)) ((zq81_ : w.heap.size ≤ c0)); clear HB; obtain ⟨HB, b0, z0, j0⟩ := n_; clear hb x hg) | ((with_reducible refine gate_dst (N := 3) rfl ?_); refine bxe_ (N := 3) (cs := #[.int .i64 e2, .int .i64 e3]) (t := 46) ?_; intro c1 hg q1 x hb; have n_ := A7_ (blk_below (g := c0) (o := .cells #[.int .i64 e0, .int .i64 e1] 46 (0, 0)) zq19_ hb) (below_step zq4c_ hb) (x) ((zq7d_ : w.heap.size ≤ c1)) ((zq7d_ : w.heap.size ≤ c1)) ((zq96_ : c0 ≠ c1)) ((zq85_ : c1 ≠ c0)); clear b0 HB; obtain ⟨b0, HB, b1, z1, j1, f0, f1⟩ := n_; clear hb x hg; have J0 := f0.out; have K0 := f1.out; obtain ⟨g0, g1, h0, h1⟩ := bz2_ b0.out; obtain ⟨g2, g3, h2, h3⟩ := bz2_ b1.out))
  go_ret
  exact ⟨zq44_, zq4b_⟩

/-! ### laws_eqBoxS: function 35 -/
def laws_eqBoxS.l0 : Nat → List (S46) → List (S46) → Int → Option (Bool)
 | 0, _, _, _ => none
 | k + 1, x0, x1, x5 => if x5 < (x0.length : Int) then (if 0 ≤ x5 then (if x5 < (x1.length : Int) then ((laws_eqBox.f ((rd_T46 x0 x5).f0) ((rd_T46 x0 x5).f1) ((rd_T46 x1 x5).f0) ((rd_T46 x1 x5).f1)).bind fun t344 => (if t344 = true then (laws_eqBoxS.l0 k x0 x1 (wrap64 (x5 + 1))) else (some false))) else (none)) else (none)) else (some true)
def laws_eqBoxS.f (k : Nat) (l0 : List (S46)) (l1 : List (S46)) : Option (Bool) := if (l0.length : Int) = (l1.length : Int) then (laws_eqBoxS.l0 k l0 l1 0) else (some false)
theorem laws_eqBoxS.mono_l : ∀ k, (∀ y0 y1 y2, LeO (laws_eqBoxS.l0 k y0 y1 y2) (laws_eqBoxS.l0 (k + 1) y0 y1 y2))
 | 0 => fun _ _ _ r h => by simp [laws_eqBoxS.l0] at h
 | k + 1 => by
  have E0 := laws_eqBoxS.mono_l k
  ·intro y0 y1 y2
   unfold laws_eqBoxS.l0
   repeat' first
   | (with_reducible exact E0 _ _ _)
   | (with_reducible exact LeO.refl _)
   | (with_reducible exact LeO.none _)
   | (with_reducible refine LeO.ite ?_ ?_)
   | (with_reducible refine LeO.bind ?_ (fun _ => ?_))
   | exact E0 _ _ _
   | exact LeO.none _
   | refine LeO.ite ?_ ?_
   | refine LeO.bind ?_ (fun _ => ?_)
theorem laws_eqBoxS.mono : ∀ a0 a1 k, LeO (laws_eqBoxS.f k a0 a1) (laws_eqBoxS.f (k + 1) a0 a1) := by
 intro a0 a1 k
 have E0 := laws_eqBoxS.mono_l k
 unfold laws_eqBoxS.f
 repeat' first
   | (with_reducible exact E0 _ _ _)
   | (with_reducible exact LeO.refl _)
   | (with_reducible exact LeO.none _)
   | (with_reducible refine LeO.ite ?_ ?_)
   | (with_reducible refine LeO.bind ?_ (fun _ => ?_))
   | exact E0 _ _ _
   | exact LeO.none _
   | refine LeO.ite ?_ ?_
   | refine LeO.bind ?_ (fun _ => ?_)
def laws_eqBoxS.T6 : Bool × List (List Nat × List Nat) := (true, [([], []), ([], []), ([0, 1], [0, 1]), ([2], [2]), ([], []), ([], []), ([4, 5], [4, 5]), ([6], [6]), ([3, 7], [3, 7]), ([8], [8])])
def laws_eqBoxS.B6 : List Nat := [0, 0, 3, 7, 0, 0, 48, 112, 255, 511]
theorem laws_eqBoxS.tab6 : rtab .any (opsOf Try.f35 6) = laws_eqBoxS.T6 := by kernel_rfl
theorem laws_eqBoxS.bits6 : waitsOk laws_eqBoxS.T6.2 laws_eqBoxS.B6 = true := by kernel_rfl
set_option maxHeartbeats 8000000 in
set_option maxRecDepth 100000 in
theorem laws_eqBoxS.calls (k : Nat) (A0 : Option Addr) (c0 : Nat) (l0 : List (S46)) (A1 : Option Addr) (c1 : Nat) (l1 : List (S46)) (r : Bool) (w : World) (V0 : Kd.C k46 w A0 l0.length l0) (S0 : l0.length ≤ c0) (V1 : Kd.C k46 w A1 l1.length l1) (S1 : l1.length ≤ c1) (h : laws_eqBoxS.f k l0 l1 = some r) :
  Calls Try.prog 35 #[.slice A0 l0.length c0, .slice A1 l1.length c1] w fun e w' => e = .returned (.bool r) ∧ Below w.heap.size w w' := by
 have ar0 := Try.underlying46; have R0 := Aside0.mk V0; have X0 := Aside0.mk S0; clear V0 S0; have R1 := Aside0.mk V1; have X1 := Aside0.mk S1; clear V1 S1; have HB := Aside0.mk (Below.refl w.heap.size w); have H : (if (l0.length : Int) = (l1.length : Int) then (laws_eqBoxS.l0 k l0 l1 0) else (some false)) = some r := h; clear h; by_cases c3 : (l0.length : Int) = (l1.length : Int)
 ·rw [if_pos c3] at H; have r0 : ((l0.length : Int) == (l1.length : Int)) = true := beq_iff_eq.mpr c3; have r1 : ((l0.length : Int) != (l1.length : Int)) = false := bne_eq_false_iff_eq.mpr c3; have r2 : (l0.length == l1.length) = true := by first | simpa using c3 | (simp at c3 ⊢; omega)
  clear c3; have H' := Aside0.mk H; clear H
  go_enter Try.func35, Try.ntmps35
  go_wp2
  go_loopg [5] k (fun kq v5 w' => ∃ (a0 : Int), v5 = .int .i64 a0 ∧ Aside0 (laws_eqBoxS.l0 kq l0 l1 a0 = some r) ∧ Aside0 (kq ≤ k) ∧ Aside0 (Below w.heap.size w w'))
  case atStart => exact ⟨(0), zq45_, H', ⟨Nat.le_refl _⟩, ⟨zq54_⟩⟩
  case round =>
   clear H'
   try clear c1
   try clear p2
   try clear c3
   try clear r0
   try clear r1
   try clear r2
   obtain ⟨a0, rfl, HA, ae0, HB⟩ := hrel
   cases gk with
   | zero => exact absurd HA.out (by simp [laws_eqBoxS.l0])
   | succ k1 =>
    have H := HA.out; clear HA; simp only [laws_eqBoxS.l0] at H; replace H := ifc_ H
    rcases H with ⟨c4b0, H⟩ | ⟨c4b0, H⟩
    ·replace H := ifd2_ H; obtain ⟨r3, r4, H⟩ := H; replace H := bs_ H; obtain ⟨i0, A7, H⟩ := H; (try dsimp only at H); replace H := ifB_ H
     rcases H with ⟨rfl, H⟩ | ⟨rfl, H⟩
     ·have H' := Aside0.mk H; clear H
      try go_wp2
      replace HB := Aside0.mk (below_drew1 HB.out); have s0 : 0 ≤ (a0 : Int) := of_decide_eq_true zq40_; have t0 : a0 < (l0.length : Int) := of_decide_eq_true zq40_; obtain ⟨y0, N0, p0, p1⟩ := at_T46 R0.out a0 s0 t0; have Q0 := p1; have Q1 := p0; cases N0; replace p0 := pb_ HB.out p0; replace p1 := pb_ HB.out p1; replace s0 := eq_true s0; replace t0 := eq_true t0; have s1 : 0 ≤ (a0 : Int) := of_decide_eq_true zq40_; have t1 : a0 < (l1.length : Int) := of_decide_eq_true zq40_; obtain ⟨y1, N1, p3, p4⟩ := at_T46 R1.out a0 s1 t1; have Q2 := p4; have Q3 := p3; cases N1; replace p3 := pb_ HB.out p3; replace p4 := pb_ HB.out p4; replace s1 := eq_true s1; replace t1 := eq_true t1; refine start_ (n := 10) (S := fun w' => w'.cell? (y0.add ((a0).toNat * 2)) = some (.int .i64 ((rd_T46 l0 a0).f0)) ∧ w'.cell? ⟨(y0.add ((a0).toNat * 2)).block, (y0.add ((a0).toNat * 2)).off + 1, none⟩ = some (.int .i64 ((rd_T46 l0 a0).f1)) ∧ w'.cell? (y1.add ((a0).toNat * 2)) = some (.int .i64 ((rd_T46 l1 a0).f0)) ∧ w'.cell? ⟨(y1.add ((a0).toNat * 2)).block, (y1.add ((a0).toNat * 2)).off + 1, none⟩ = some (.int .i64 ((rd_T46 l1 a0).f1))) (ds := []) #[false, false, false, false, false, false, false, false, false, false] (by kernel_rfl) rfl rfl ⟨((HB.out.cell (World.block_lt_of_cell? w _ Q1)).trans Q1), ((HB.out.cell (World.block_lt_of_cell? w _ Q0)).trans Q0), ((HB.out.cell (World.block_lt_of_cell? w _ Q3)).trans Q3), ((HB.out.cell (World.block_lt_of_cell? w _ Q2)).trans Q2)⟩ (fun hHeld => ?_); refine with_tabW laws_eqBoxS.tab6 laws_eqBoxS.bits6 (fun HT_ HW_ => ?_); generalize wr.drew = w9 at HB p0 p1 p3 p4 hHeld ⊢; refine pw_ 0 17 ?_; refine pw_ 1 18 ?_; refine pw_ 2 19 ?_; refine pw_ 4 21 ?_; refine pw_ 5 22 ?_; refine pw_ 6 23 ?_; refine tw_ 3 20 ?_; refine tw_ 7 24 ?_; refine on_ (i := 8) (N := some 25) rfl rfl (one_of HT_.out (by kernel_rfl)) (by decide) (fun K hK => ?_); refine goes_ Try.func82 (by kernel_rfl) rfl #[.agg #[.int .i64 ((rd_T46 l0 a0).f0), .int .i64 ((rd_T46 l0 a0).f1)], .agg #[.int .i64 ((rd_T46 l1 a0).f0), .int .i64 ((rd_T46 l1 a0).f1)]] (by rfl) rfl rfl zq1_ ?_
      with_reducible refine (laws_eqBox.calls ((rd_T46 l0 a0).f0) ((rd_T46 l0 a0).f1) ((rd_T46 l1 a0).f0) ((rd_T46 l1 a0).f1) true _ A7.out).mono ?_
      rintro e q0 ⟨rfl, hb⟩; refine ⟨_, rfl, ?_⟩; replace HB := Aside0.mk (below_step zq54_ hb); (try clear hb); (try clear hb2); (try clear hk); (try clear hi); refine hK.out _ _ ⟨((HB.out.cell (World.block_lt_of_cell? w _ Q1)).trans Q1), ((HB.out.cell (World.block_lt_of_cell? w _ Q0)).trans Q0), ((HB.out.cell (World.block_lt_of_cell? w _ Q3)).trans Q3), ((HB.out.cell (World.block_lt_of_cell? w _ Q2)).trans Q2)⟩ (fun hHeld => ?_); clear hK K; refine norm_ (a' := ?_) ?_ ?_
      rotate_left
      ·show Act.put _ (some 25) _ = _; simp only [Act.put, List.setIfInBounds_toArray, List.set_cons_zero, List.set_cons_succ, i64_w, i32_w]; rfl
      refine pw_ 9 26 ?_; refine done_ (done_of HT_.out (by kernel_rfl)) ?_
      try go_wp2
      go_roundg k1
      case measure => have := ae0.out; omega
      case rel => exact ⟨(wrap64 (a0 + 1)), zq45_, H', ⟨by have := ae0.out; omega⟩, ⟨zq54_⟩⟩
     ·obtain rfl := Option.some.inj H
      try go_wp2
      replace HB := Aside0.mk (below_drew1 HB.out); have s0 : 0 ≤ (a0 : Int) := of_decide_eq_true zq40_; have t0 : a0 < (l0.length : Int) := of_decide_eq_true zq40_; obtain ⟨y0, N0, p0, p1⟩ := at_T46 R0.out a0 s0 t0; have Q0 := p1; have Q1 := p0; cases N0; replace p0 := pb_ HB.out p0; replace p1 := pb_ HB.out p1; replace s0 := eq_true s0; replace t0 := eq_true t0; have s1 : 0 ≤ (a0 : Int) := of_decide_eq_true zq40_; have t1 : a0 < (l1.length : Int) := of_decide_eq_true zq40_; obtain ⟨y1, N1, p3, p4⟩ := at_T46 R1.out a0 s1 t1; have Q2 := p4; have Q3 := p3; cases N1; replace p3 := pb_ HB.out p3; replace p4 := pb_ HB.out p4; replace s1 := eq_true s1; replace t1 := eq_true t1; refine start_ (n := 10) (S := fun w' => w'.cell? (y0.add ((a0).toNat * 2)) = some (.int .i64 ((rd_T46 l0 a0).f0)) ∧ w'.cell? ⟨(y0.add ((a0).toNat * 2)).block, (y0.add ((a0).toNat * 2)).off + 1, none⟩ = some (.int .i64 ((rd_T46 l0 a0).f1)) ∧ w'.cell? (y1.add ((a0).toNat * 2)) = some (.int .i64 ((rd_T46 l1 a0).f0)) ∧ w'.cell? ⟨(y1.add ((a0).toNat * 2)).block, (y1.add ((a0).toNat * 2)).off + 1, none⟩ = some (.int .i64 ((rd_T46 l1 a0).f1))) (ds := []) #[false, false, false, false, false, false, false, false, false, false] (by kernel_rfl) rfl rfl ⟨((HB.out.cell (World.block_lt_of_cell? w _ Q1)).trans Q1), ((HB.out.cell (World.block_lt_of_cell? w _ Q0)).trans Q0), ((HB.out.cell (World.block_lt_of_cell? w _ Q3)).trans Q3), ((HB.out.cell (World.block_lt_of_cell? w _ Q2)).trans Q2)⟩ (fun hHeld => ?_); refine with_tabW laws_eqBoxS.tab6 laws_eqBoxS.bits6 (fun HT_ HW_ => ?_); generalize wr.drew = q0 at HB p0 p1 p3 p4 hHeld ⊢; refine pw_ 0 17 ?_; refine pw_ 1 18 ?_; refine pw_ 2 19 ?_; refine pw_ 4 21 ?_; refine pw_ 5 22 ?_; refine pw_ 6 23 ?_; refine tw_ 3 20 ?_; refine tw_ 7 24 ?_; refine on_ (i := 8) (N := some 25) rfl rfl (one_of HT_.out (by kernel_rfl)) (by decide) (fun K hK => ?_); refine goes_ Try.func82 (by kernel_rfl) rfl #[.agg #[.int .i64 ((rd_T46 l0 a0).f0), .int .i64 ((rd_T46 l0 a0).f1)], .agg #[.int .i64 ((rd_T46 l1 a0).f0), .int .i64 ((rd_T46 l1 a0).f1)]] (by rfl) rfl rfl zq1_ ?_
      with_reducible refine (laws_eqBox.calls ((rd_T46 l0 a0).f0) ((rd_T46 l0 a0).f1) ((rd_T46 l1 a0).f0) ((rd_T46 l1 a0).f1) false _ A7.out).mono ?_
      rintro e q1 ⟨rfl, hb⟩; refine ⟨_, rfl, ?_⟩; replace HB := Aside0.mk (below_step zq54_ hb); (try clear hb); (try clear hb2); (try clear hk); (try clear hi); refine hK.out _ _ ⟨((HB.out.cell (World.block_lt_of_cell? w _ Q1)).trans Q1), ((HB.out.cell (World.block_lt_of_cell? w _ Q0)).trans Q0), ((HB.out.cell (World.block_lt_of_cell? w _ Q3)).trans Q3), ((HB.out.cell (World.block_lt_of_cell? w _ Q2)).trans Q2)⟩ (fun hHeld => ?_); clear hK K; refine norm_ (a' := ?_) ?_ ?_
      rotate_left
      ·show Act.put _ (some 25) _ = _; simp only [Act.put, List.setIfInBounds_toArray, List.set_cons_zero, List.set_cons_succ, i64_w, i32_w]; rfl
      refine pw_ 9 26 ?_; refine done_ (done_of HT_.out (by kernel_rfl)) ?_
      try go_wp2
      go_ret
      exact ⟨zq44_, zq54_⟩
    ·obtain rfl := Option.some.inj H
     go_wp2
     go_ret
     exact ⟨zq44_, zq54_⟩
 ·rw [if_neg c3] at H; have r0 : ((l0.length : Int) == (l1.length : Int)) = false := beq_eq_false_iff_ne.mpr c3; have r1 : ((l0.length : Int) != (l1.length : Int)) = true := bne_iff_ne.mpr c3; have r2 : (l0.length == l1.length) = false := by first | simpa using c3 | (simp at c3 ⊢; omega)
  obtain rfl := Option.some.inj H
  go_enter Try.func35, Try.ntmps35
  go_wp2
  go_ret
  exact ⟨zq44_, zq54_⟩

end Go.Proofs.Ytgdafcakefnpdaa.PFnExactSerialOne
