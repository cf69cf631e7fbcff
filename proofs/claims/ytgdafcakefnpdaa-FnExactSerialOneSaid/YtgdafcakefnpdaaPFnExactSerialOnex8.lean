-- Laid by this session's program out of the translation (gen.sh).
import Derived.Test.YtgdafcakefnpdaaPFnExactSerialOnex0
namespace Go.Proofs.Ytgdafcakefnpdaa.PFnExactSerialOne
open Go.RowKit Go.Proofs.YtgdafcakefnpdaaW.PrintWords Go.Proofs.YtgdafcakefnpdaaW.PrintLast Go.Proofs.YtgdafcakefnpdaaW.PrintMore
attribute [local go_sem] max2_int min2_int max_two min_two max_three min_three max_four min_four   -- for this text's walks alone
set_option linter.unusedVariables false
set_option linter.unusedSimpArgs false

/-! ### impl_readAt: function 62 -/
def impl_readAt.l0 : Nat → Int → List (S48) → Int → Int → Option (Int)
 | 0, _, _, _, _ => none
 | k + 1, x1, x8, x9, x10 => if x10 < x9 then (if 0 ≤ x10 then (if x10 < (x8.length : Int) then (if ((rd_T48 x8 x10).f0) = x1 then (some x10) else (impl_readAt.l0 k x1 x8 x9 (wrap64 (x10 + 1)))) else (none)) else (none)) else (some (-1))
def impl_readAt.f (k : Nat) (l0_0 : List (S48)) (l0_1 : List (S36)) (a0_2 : Int) (a0_3 : Int) (a1 : Int) : Option (Int) := impl_readAt.l0 k a1 l0_0 (l0_0.length : Int) 0
theorem impl_readAt.mono_l : ∀ k, (∀ y0 y1 y2 y3, LeO (impl_readAt.l0 k y0 y1 y2 y3) (impl_readAt.l0 (k + 1) y0 y1 y2 y3))
 | 0 => fun _ _ _ _ r h => by simp [impl_readAt.l0] at h
 | k + 1 => by
  have E0 := impl_readAt.mono_l k
  ·intro y0 y1 y2 y3
   unfold impl_readAt.l0
   repeat' first
   | (with_reducible exact E0 _ _ _ _)
   | (with_reducible exact LeO.refl _)
   | (with_reducible exact LeO.none _)
   | (with_reducible refine LeO.ite ?_ ?_)
   | (with_reducible refine LeO.bind ?_ (fun _ => ?_))
   | exact E0 _ _ _ _
   | exact LeO.none _
   | refine LeO.ite ?_ ?_
   | refine LeO.bind ?_ (fun _ => ?_)
theorem impl_readAt.mono : ∀ a0 a1 a2 a3 a4 k, LeO (impl_readAt.f k a0 a1 a2 a3 a4) (impl_readAt.f (k + 1) a0 a1 a2 a3 a4) := by
 intro a0 a1 a2 a3 a4 k
 have E0 := impl_readAt.mono_l k
 unfold impl_readAt.f
 repeat' first
   | (with_reducible exact E0 _ _ _ _)
   | (with_reducible exact LeO.refl _)
   | (with_reducible exact LeO.none _)
   | (with_reducible refine LeO.ite ?_ ?_)
   | (with_reducible refine LeO.bind ?_ (fun _ => ?_))
   | exact E0 _ _ _ _
   | exact LeO.none _
   | refine LeO.ite ?_ ?_
   | refine LeO.bind ?_ (fun _ => ?_)
set_option maxHeartbeats 8000000 in
set_option maxRecDepth 100000 in
theorem impl_readAt.calls (k : Nat) (T0 : Option Addr) (P0 : Nat) (n0 : List (S48)) (T1 : Option Addr) (P1 : Nat) (n1 : List (S36)) (e0 : Int) (e1 : Int) (a1 : Int) (r : Int) (w : World) (aA0 : Kd.C k48 w T0 n0.length n0) (aB0 : n0.length ≤ P0) (aA1 : Kd.C k36 w T1 n1.length n1) (aB1 : n1.length ≤ P1) (h : impl_readAt.f k n0 n1 e0 e1 a1 = some r) :
  Calls Try.prog 62 #[.agg #[.slice T0 n0.length P0, .slice T1 n1.length P1, .int .i64 e0, .int .i64 e1], .int .i64 a1] w fun e w' => e = .returned (.int .i64 r) ∧ Below w.heap.size w w' := by
 have ar0 := Try.underlying30; have ar1 := Try.underlying48; have aC0 := Aside0.mk aA0; have aZ0 := Aside0.mk aB0; clear aA0 aB0; have aC1 := Aside0.mk aA1; have aZ1 := Aside0.mk aB1; clear aA1 aB1; have HB := Aside0.mk (Below.refl w.heap.size w); have H : (impl_readAt.l0 k a1 n0 (n0.length : Int) 0) = some r := h; clear h; have H' := Aside0.mk H; clear H
 go_enter Try.func62, Try.ntmps62
 go_wp2_with (first | ((with_reducible refine gate_dst (N := 2) rfl ?_); refine bxe_ (N := 2) (cs := #[.slice T0 n0.length P0, .slice T1 n1.length P1, .int .i64 e0, .int .i64 e1]) (t := 30) ?_; intro c0 hg w3 x hb; have n_ := A4_ (below_step zq54_ hb) (x) ((zq81_ : w.heap.size ≤ c0)) ((zq81_ : w.heap.size ≤ c0)); clear HB; obtain ⟨HB, b0, z0, j0⟩ := n_; clear hb x hg; obtain ⟨g0, g1, g2, g3, h0, h1, h2, h3⟩ := bz4_ b0.out))
 go_loopg [10] k (fun kq af0 w' => ∃ (a0 : Int), af0 = .int .i64 a0 ∧ Aside0 (impl_readAt.l0 kq a1 n0 (n0.length : Int) a0 = some r) ∧ Aside0 (kq ≤ k) ∧ Aside0 (w'.heap[c0]? = some (.cells #[(.slice T0 n0.length P0), (.slice T1 n1.length P1), .int .i64 e0, .int .i64 e1] 30 (0, 0))) ∧ Aside0 (Below w.heap.size w w'))
 case atStart => exact ⟨(0), zq45_, H', ⟨Nat.le_refl _⟩, ⟨zq19_⟩, ⟨zq4c_⟩⟩
 case round =>
  clear H'
  try clear p2
  try clear g0 g1 g2 g3 h0 h1 h2 h3
  obtain ⟨a0, rfl, HA, ae0, b0, HB⟩ := hrel
  cases gk with
  | zero => exact absurd HA.out (by simp [impl_readAt.l0])
  | succ k1 =>
   have H := HA.out; clear HA; simp only [impl_readAt.l0] at H; replace H := ifc_ H
   rcases H with ⟨c5b0, H⟩ | ⟨c5b0, H⟩
   ·replace H := ifd2_ H; obtain ⟨r0, r1, H⟩ := H; by_cases c8 : ((rd_T48 n0 a0).f0) = a1
    ·rw [if_pos c8] at H; have r2 : (((rd_T48 n0 a0).f0) == a1) = true := beq_iff_eq.mpr c8; have r3 : (((rd_T48 n0 a0).f0) != a1) = false := bne_eq_false_iff_eq.mpr c8; clear c8; obtain rfl := Option.some.inj H; have s0 : 0 ≤ (a0 : Int) := of_decide_eq_true zq40_; have t0 : a0 < (n0.length : Int) := of_decide_eq_true zq40_; obtain ⟨y0, N0, p0, p1⟩ := at_T48 aC0.out a0 s0 t0; cases N0; replace p0 := pb_ HB.out p0; replace p1 := pb_ HB.out p1; replace s0 := eq_true s0; replace t0 := eq_true t0
     go_wp2_with (first | ((with_reducible refine gate_dst (N := 6) rfl ?_); refine bxe_ (N := 6) (cs := #[.int .i64 0, .int .i64 0]) (t := 48) ?_; intro c1 hg w9 x hb; have n_ := A7_ (blk_below (g := c0) (o := .cells #[.slice (some y0) n0.length P0, .slice T1 n1.length P1, .int .i64 e0, .int .i64 e1] 30 (0, 0)) zq19_ hb) (below_step zq4c_ hb) (x) ((zq7d_ : w.heap.size ≤ c1)) ((zq7d_ : w.heap.size ≤ c1)) ((zq97_ : c0 ≠ c1)) ((zq86_ : c1 ≠ c0)); clear b0 HB; obtain ⟨b0, HB, b1, z1, j1, f1, f2⟩ := n_; clear hb x hg; have J0 := f2.out; have K0 := f1.out; obtain ⟨g4, g5, h4, h5⟩ := bz2_ b1.out))
     go_ret
     exact ⟨zq44_, zq4b_⟩
    ·rw [if_neg c8] at H; have r2 : (((rd_T48 n0 a0).f0) == a1) = false := beq_eq_false_iff_ne.mpr c8; have r3 : (((rd_T48 n0 a0).f0) != a1) = true := bne_iff_ne.mpr c8; have H' := Aside0.mk H; clear H; have s0 : 0 ≤ (a0 : Int) := of_decide_eq_true zq40_; have t0 : a0 < (n0.length : Int) := of_decide_eq_true zq40_; obtain ⟨y0, N0, p0, p1⟩ := at_T48 aC0.out a0 s0 t0; cases N0; replace p0 := pb_ HB.out p0; replace p1 := pb_ HB.out p1; replace s0 := eq_true s0; replace t0 := eq_true t0
     go_wp2_with (first | ((with_reducible refine gate_dst (N := 6) rfl ?_); refine bxe_ (N := 6) (cs := #[.int .i64 0, .int .i64 0]) (t := 48) ?_; intro c1 hg q0 x hb; have n_ := A7_ (blk_below (g := c0) (o := .cells #[.slice (some y0) n0.length P0, .slice T1 n1.length P1, .int .i64 e0, .int .i64 e1] 30 (0, 0)) zq19_ hb) (below_step zq4c_ hb) (x) ((zq7d_ : w.heap.size ≤ c1)) ((zq7d_ : w.heap.size ≤ c1)) ((zq97_ : c0 ≠ c1)) ((zq86_ : c1 ≠ c0)); clear b0 HB; obtain ⟨b0, HB, b1, z1, j1, f1, f2⟩ := n_; clear hb x hg; have J0 := f2.out; have K0 := f1.out; obtain ⟨g4, g5, h4, h5⟩ := bz2_ b1.out))
     go_roundg k1
     case measure => have := ae0.out; omega
     case rel => exact ⟨(wrap64 (a0 + 1)), zq45_, H', ⟨by have := ae0.out; omega⟩, ⟨zq20_⟩, ⟨zq4b_⟩⟩
   ·obtain rfl := Option.some.inj H
    go_wp2
    go_ret
    exact ⟨zq44_, zq4c_⟩

/-! ### impl_copied_impl_Read: function 63 -/
def impl_copied_impl_Read.f (l0 : List (S48)) : Option (List (S48)) := if l0.length ≤ 17592186044416 then some l0 else none
set_option maxHeartbeats 8000000 in
set_option maxRecDepth 100000 in
theorem impl_copied_impl_Read.calls (A0 : Option Addr) (c0 : Nat) (l0 : List (S48)) (r : List (S48)) (w : World) (V0 : Kd.C k48 w A0 l0.length l0) (S0 : l0.length ≤ c0) (h : impl_copied_impl_Read.f l0 = some r) :
  Calls Try.prog 63 #[.slice A0 l0.length c0] w fun e w' => ∃ v0_ : Value, e = .returned (v0_) ∧ Kd.R k48 48 w' w.heap.size (fun _ => True) v0_ r ∧ Below w.heap.size w w' := by
 unfold impl_copied_impl_Read.f at h; by_cases aS : l0.length ≤ 17592186044416
 ·rw [if_pos aS] at h; obtain rfl := Option.some.inj h; clear h; have bj := Aside0.mk aS; by_cases aL0 : l0.length = 0
  ·obtain rfl : l0 = [] := List.eq_nil_of_length_eq_zero aL0; clear V0 S0 aS bj aL0
   go_enter Try.func63, Try.ntmps63
   go_wp2
   go_ret
   exact ⟨_, rfl, Kd.R_nil _ _ _ _ _, Below.refl _ _⟩
  ·have br0 : ((l0.length : Int) == 0) = false := beq_eq_false_iff_ne.mpr (by omega); have br1 : (l0.length == 0) = false := beq_eq_false_iff_ne.mpr aL0; have bs := Aside0.mk (Nat.pos_of_ne_zero aL0); have bK0 : (0 : Int) ≤ (l0.length : Int) := Int.natCast_nonneg _; have bt := Aside0.mk V0; have bL := Aside0.mk S0; clear V0 S0 aS aL0
   go_enter Try.func63, Try.ntmps63
   go_wp2_with (first | ((with_reducible refine gate_dst (N := 9) rfl ?_); refine Kd.R_make k48 _ 48 rfl (N := 9) rfl 27 _ _ rfl (l0.length : Int) rfl rfl Try.underlying27 (.agg #[(.int .i64 0), (.int .i64 0)]) 16 info48 rfl (by decide) (by omega) z48 (ok := fun _ => True) (okp := fun _ => True) (k48_mkM _ _ _ z48) (fun _ hk => hk) trivial (by omega) (by have := bj.out; omega) (Below.refl _ _) (Nat.le_refl _) ?_; intro af0 w2 G0 hb aP aQ; clear aP aQ; have bu := Aside0.mk G0; have bk := Aside0.mk hb; clear G0 hb) | ((with_reducible refine gate_dst (N := 12) rfl ?_); refine copy_event k48 _ rfl (N := 12) rfl (.tmp 10) (.tmp 11) 27 27 48 rfl Try.underlying27 (by have h_ := info48; obtain ⟨i0, hi, bl⟩ := Option.map_eq_some_iff.1 h_; simp only [Prod.mk.injEq] at bl; rw [hi]; exact congrArg some bl.2.1) (by decide) _ _ l0 A0 c0 (fun _ => True) rfl rfl bu.out (Kd.C_below bt.out bk.out) (by simp) bs.out (fun w' x cs h_ w1 b1 o1 => by obtain rfl := k48_open h_; exact k48_mkM _ _ _ x) bk.out ?_; intro w3 G1 hb; have bv0 := Aside0.mk G1; have bx0 := Aside0.mk hb; clear G1 hb))
   go_ret
   exact ⟨_, rfl, bv0.out, bx0.out⟩
 ·rw [if_neg aS] at h; cases h

/-! ### impl_copied_impl_Put: function 65 -/
def impl_copied_impl_Put.f (l0 : List (S36)) : Option (List (S36)) := if l0.length ≤ 17592186044416 then some l0 else none
set_option maxHeartbeats 8000000 in
set_option maxRecDepth 100000 in
theorem impl_copied_impl_Put.calls (A0 : Option Addr) (c0 : Nat) (l0 : List (S36)) (r : List (S36)) (w : World) (V0 : Kd.C k36 w A0 l0.length l0) (S0 : l0.length ≤ c0) (h : impl_copied_impl_Put.f l0 = some r) :
  Calls Try.prog 65 #[.slice A0 l0.length c0] w fun e w' => ∃ v0_ : Value, e = .returned (v0_) ∧ Kd.R k36 36 w' w.heap.size (fun _ => True) v0_ r ∧ Below w.heap.size w w' := by
 unfold impl_copied_impl_Put.f at h; by_cases aS : l0.length ≤ 17592186044416
 ·rw [if_pos aS] at h; obtain rfl := Option.some.inj h; clear h; have bj := Aside0.mk aS; by_cases aL0 : l0.length = 0
  ·obtain rfl : l0 = [] := List.eq_nil_of_length_eq_zero aL0; clear V0 S0 aS bj aL0
   go_enter Try.func65, Try.ntmps65
   go_wp2
   go_ret
   exact ⟨_, rfl, Kd.R_nil _ _ _ _ _, Below.refl _ _⟩
  ·have br0 : ((l0.length : Int) == 0) = false := beq_eq_false_iff_ne.mpr (by omega); have br1 : (l0.length == 0) = false := beq_eq_false_iff_ne.mpr aL0; have bs := Aside0.mk (Nat.pos_of_ne_zero aL0); have bK0 : (0 : Int) ≤ (l0.length : Int) := Int.natCast_nonneg _; have bt := Aside0.mk V0; have bL := Aside0.mk S0; clear V0 S0 aS aL0
   go_enter Try.func65, Try.ntmps65
   go_wp2_with (first | ((with_reducible refine gate_dst (N := 9) rfl ?_); refine Kd.R_make k36 _ 36 rfl (N := 9) rfl 28 _ _ rfl (l0.length : Int) rfl rfl Try.underlying28 (.agg #[(.int .i64 0), (.int .i64 0)]) 16 info36 rfl (by decide) (by omega) z36 (ok := fun _ => True) (okp := fun _ => True) (k36_mkM _ _ _ z36) (fun _ hk => hk) trivial (by omega) (by have := bj.out; omega) (Below.refl _ _) (Nat.le_refl _) ?_; intro af0 w2 G0 hb aP aQ; clear aP aQ; have bu := Aside0.mk G0; have bk := Aside0.mk hb; clear G0 hb) | ((with_reducible refine gate_dst (N := 12) rfl ?_); refine copy_event k36 _ rfl (N := 12) rfl (.tmp 10) (.tmp 11) 28 28 36 rfl Try.underlying28 (by have h_ := info36; obtain ⟨i0, hi, bl⟩ := Option.map_eq_some_iff.1 h_; simp only [Prod.mk.injEq] at bl; rw [hi]; exact congrArg some bl.2.1) (by decide) _ _ l0 A0 c0 (fun _ => True) rfl rfl bu.out (Kd.C_below bt.out bk.out) (by simp) bs.out (fun w' x cs h_ w1 b1 o1 => by obtain rfl := k36_open h_; exact k36_mkM _ _ _ x) bk.out ?_; intro w3 G1 hb; have bv0 := Aside0.mk G1; have bx0 := Aside0.mk hb; clear G1 hb))
   go_ret
   exact ⟨_, rfl, bv0.out, bx0.out⟩
 ·rw [if_neg aS] at h; cases h

end Go.Proofs.Ytgdafcakefnpdaa.PFnExactSerialOne
