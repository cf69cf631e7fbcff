-- Laid by this session's program out of the translation (gen.sh).
import Derived.Test.YtgdafcakefnpdaaPFnExecGrowx0
namespace Go.Proofs.Ytgdafcakefnpdaa.PFnExecGrow
open Go.RowKit Go.Proofs.YtgdafcakefnpdaaW.PrintWords Go.Proofs.YtgdafcakefnpdaaW.PrintLast Go.Proofs.YtgdafcakefnpdaaW.PrintMore
attribute [local go_sem] max2_int min2_int max_two min_two max_three min_three max_four min_four   -- for this text's walks alone
set_option linter.unusedVariables false
set_option linter.unusedSimpArgs false

/-! ### impl_readAt: function 62 -/
def impl_readAt.l0 : Nat → Int → List (S48) → Int → Int → Option (Int)
 | 0, _, _, _, _ => none
 | k + 1, x1, x8, x9, x10 => if x10 < x9 then (if 0 ≤ x10 then (if x10 < (x8.length : Int) then (if ((rd_T48 x8 x10).f0) = x1 then (some x10) else (impl_readAt.l0 k x1 x8 x9 (wrap64 (x10 + 1)))) else (none)) else (none)) else (some (-1))
def impl_readAt.f (k : Nat) (l0_0 : List (S48)) (l0_1 : List (S36)) (a0_2 : Int) (a0_3 : Int) (a1 : Int) : Option (Int) := impl_readAt.l0 k a1 l0_0 (l0_0.length : Int) 0
theorem impl_readAt.mono_l : ∀ k, (∀ y0 y1 y2 y3, LeO (impl_readAt.l0 k y0 y1 y2 y3) (impl_readAt.l0 (k + 1) y0 y1 y2 y3))
 | 0 => fun _ _ _ _ r h => by simp [impl_readAt.l0] at h
 | k + 1 => by
  have J0 := impl_readAt.mono_l k
  ·intro y0 y1 y2 y3
   unfold impl_readAt.l0
   repeat' first
   | (with_reducible exact J0 _ _ _ _)
   | (with_reducible exact LeO.refl _)
   | (with_reducible exact LeO.none _)
   | (with_reducible refine LeO.ite ?_ ?_)
   | (with_reducible refine LeO.bind ?_ (fun _ => ?_))
   | exact J0 _ _ _ _
   | exact LeO.none _
   | refine LeO.ite ?_ ?_
   | refine LeO.bind ?_ (fun _ => ?_)
theorem impl_readAt.mono : ∀ a0 a1 a2 a3 a4 k, LeO (impl_readAt.f k a0 a1 a2 a3 a4) (impl_readAt.f (k + 1) a0 a1 a2 a3 a4) := by
 intro a0 a1 a2 a3 a4 k
 have J0 := impl_readAt.mono_l k
 unfold impl_readAt.f
 repeat' first
   | (with_reducible exact J0 _ _ _ _)
   | (with_reducible exact LeO.refl _)
   | (with_reducible exact LeO.none _)
   | (with_reducible refine LeO.ite ?_ ?_)
   | (with_reducible refine LeO.bind ?_ (fun _ => ?_))
   | exact J0 _ _ _ _
   | exact LeO.none _
   | refine LeO.ite ?_ ?_
   | refine LeO.bind ?_ (fun _ => ?_)
set_option maxHeartbeats 8000000 in
set_option maxRecDepth 100000 in
theorem impl_readAt.calls (k : Nat) (N0 : Option Addr) (I0 : Nat) (m0 : List (S48)) (N1 : Option Addr) (I1 : Nat) (m1 : List (S36)) (g0 : Int) (g1 : Int) (a1 : Int) (r : Int) (w : World) (au0 : Kd.C k48 w N0 m0.length m0) (av0 : m0.length ≤ I0) (au1 : Kd.C k36 w N1 m1.length m1) (av1 : m1.length ≤ I1) (h : impl_readAt.f k m0 m1 g0 g1 a1 = some r) :
  Calls Try.prog 62 #[.agg #[.slice N0 m0.length I0, .slice N1 m1.length I1, .int .i64 g0, .int .i64 g1], .int .i64 a1] w fun e w' => e = .returned (.int .i64 r) ∧ Below w.heap.size w w' := by
 have ar0 := Try.underlying30; have ar1 := Try.underlying48; have am0 := Aside0.mk au0; have aA0 := Aside0.mk av0; clear au0 av0; have am1 := Aside0.mk au1; have aA1 := Aside0.mk av1; clear au1 av1; have HB := Aside0.mk (Below.refl w.heap.size w); have H : (impl_readAt.l0 k a1 m0 (m0.length : Int) 0) = some r := h; clear h; have H' := Aside0.mk H; clear H
 go_enter Try.func62, Try.ntmps62
 go_wp2_with (first | ((with_reducible refine gate_dst (N := 2) rfl ?_); refine bxe_ (N := 2) (cs := #[.slice N0 m0.length I0, .slice N1 m1.length I1, .int .i64 g0, .int .i64 g1]) (t := 30) ?_; intro c0 hg w3 C_ hb; have n_ := A4_ (below_step zq6d_ hb) (C_) ((zqa9_ : w.heap.size ≤ c0)) ((zqa9_ : w.heap.size ≤ c0)); clear HB; obtain ⟨HB, b0, x0, l1⟩ := n_; clear hb C_ hg; obtain ⟨i0, i1, i2, i3, j0, j1, j2, j3⟩ := bz4_ b0.out))
 go_loopg [10] k (fun kq U0 w' => ∃ (a0 : Int), U0 = .int .i64 a0 ∧ Aside0 (impl_readAt.l0 kq a1 m0 (m0.length : Int) a0 = some r) ∧ Aside0 (kq ≤ k) ∧ Aside0 (w'.heap[c0]? = some (.cells #[(.slice N0 m0.length I0), (.slice N1 m1.length I1), .int .i64 g0, .int .i64 g1] 30 (0, 0))) ∧ Aside0 (Below w.heap.size w w'))
 case atStart => exact ⟨(0), zq5b_, H', ⟨Nat.le_refl _⟩, ⟨zq26_⟩, ⟨zq68_⟩⟩
 case round =>
  clear H'
  try clear p2
  try clear i0 i1 i2 i3 j0 j1 j2 j3
  obtain ⟨a0, rfl, HA, ae0, b0, HB⟩ := hrel
  cases gk with
  | zero => exact absurd HA.out (by simp [impl_readAt.l0])
  | succ k1 =>
   have H := HA.out; clear HA; simp only [impl_readAt.l0] at H; replace H := ifc_ H
   rcases H with ⟨c5b0, H⟩ | ⟨c5b0, H⟩
   ·replace H := ifd2_ H; obtain ⟨s0, s1, H⟩ := H; by_cases c8 : ((rd_T48 m0 a0).f0) = a1
    ·rw [if_pos c8] at H; have s2 : (((rd_T48 m0 a0).f0) == a1) = true := beq_iff_eq.mpr c8; have s3 : (((rd_T48 m0 a0).f0) != a1) = false := bne_eq_false_iff_eq.mpr c8; clear c8; obtain rfl := Option.some.inj H; have v0 : 0 ≤ (a0 : Int) := of_decide_eq_true zq56_; have u0 : a0 < (m0.length : Int) := of_decide_eq_true zq56_; obtain ⟨H0, Q0, r0, r1⟩ := at_T48 am0.out a0 v0 u0; cases Q0; replace r0 := pb_ HB.out r0; replace r1 := pb_ HB.out r1; replace v0 := eq_true v0; replace u0 := eq_true u0
     go_wp2_with (first | ((with_reducible refine gate_dst (N := 6) rfl ?_); refine bxe_ (N := 6) (cs := #[.int .i64 0, .int .i64 0]) (t := 48) ?_; intro c1 hg w9 C_ hb; have n_ := A7_ (blk_below (g := c0) (o := .cells #[.slice (some H0) m0.length I0, .slice N1 m1.length I1, .int .i64 g0, .int .i64 g1] 30 (0, 0)) zq26_ hb) (below_step zq68_ hb) (C_) ((zqa5_ : w.heap.size ≤ c1)) ((zqa5_ : w.heap.size ≤ c1)) ((zqc0_ : c0 ≠ c1)) ((zqaf_ : c1 ≠ c0)); clear b0 HB; obtain ⟨b0, HB, b1, x1, l2, h0, h1⟩ := n_; clear hb C_ hg; have O0 := h1.out; have P0 := h0.out; obtain ⟨i4, i5, j4, j5⟩ := bz2_ b1.out))
     go_ret
     exact ⟨zq5a_, zq64_⟩
    ·rw [if_neg c8] at H; have s2 : (((rd_T48 m0 a0).f0) == a1) = false := beq_eq_false_iff_ne.mpr c8; have s3 : (((rd_T48 m0 a0).f0) != a1) = true := bne_iff_ne.mpr c8; have H' := Aside0.mk H; clear H; have v0 : 0 ≤ (a0 : Int) := of_decide_eq_true zq56_; have u0 : a0 < (m0.length : Int) := of_decide_eq_true zq56_; obtain ⟨H0, Q0, r0, r1⟩ := at_T48 am0.out a0 v0 u0; cases Q0; replace r0 := pb_ HB.out r0; replace r1 := pb_ HB.out r1; replace v0 := eq_true v0; replace u0 := eq_true u0
     go_wp2_with (first | ((with_reducible refine gate_dst (N := 6) rfl ?_); refine bxe_ (N := 6) (cs := #[.int .i64 0, .int .i64 0]) (t := 48) ?_; intro c1 hg q0 C_ hb; have n_ := A7_ (blk_below (g := c0) (o := .cells #[.slice (some H0) m0.length I0, .slice N1 m1.length I1, .int .i64 g0, .int .i64 g1] 30 (0, 0)) zq26_ hb) (below_step zq68_ hb) (C_) ((zqa5_ : w.heap.size ≤ c1)) ((zqa5_ : w.heap.size ≤ c1)) ((zqc0_ : c0 ≠ c1)) ((zqaf_ : c1 ≠ c0)); clear b0 HB; obtain ⟨b0, HB, b1, x1, l2, h0, h1⟩ := n_; clear hb C_ hg; have O0 := h1.out; have P0 := h0.out; obtain ⟨i4, i5, j4, j5⟩ := bz2_ b1.out))
     go_roundg k1
     case measure => have := ae0.out; omega
     case rel => exact ⟨(wrap64 (a0 + 1)), zq5b_, H', ⟨by have := ae0.out; omega⟩, ⟨zq2e_⟩, ⟨zq64_⟩⟩
   ·obtain rfl := Option.some.inj H
    go_wp2
    go_ret
    exact ⟨zq5a_, zq68_⟩

/-! ### impl_copied_impl_Read: function 63 -/
def impl_copied_impl_Read.f (l0 : List (S48)) : Option (List (S48)) := if l0.length ≤ 17592186044416 then some l0 else none
set_option maxHeartbeats 8000000 in
set_option maxRecDepth 100000 in
theorem impl_copied_impl_Read.calls (A0 : Option Addr) (c0 : Nat) (l0 : List (S48)) (r : List (S48)) (w : World) (X0 : Kd.C k48 w A0 l0.length l0) (Z0 : l0.length ≤ c0) (h : impl_copied_impl_Read.f l0 = some r) :
  Calls Try.prog 63 #[.slice A0 l0.length c0] w fun e w' => ∃ v0_ : Value, e = .returned (v0_) ∧ Kd.R k48 48 w' w.heap.size (fun _ => True) v0_ r ∧ Below w.heap.size w w' := by
 unfold impl_copied_impl_Read.f at h; by_cases bd : l0.length ≤ 17592186044416
 ·rw [if_pos bd] at h; obtain rfl := Option.some.inj h; clear h; have bp := Aside0.mk bd; by_cases aT0 : l0.length = 0
  ·obtain rfl : l0 = [] := List.eq_nil_of_length_eq_zero aT0; clear X0 Z0 bd bp aT0
   go_enter Try.func63, Try.ntmps63
   go_wp2
   go_ret
   exact ⟨_, rfl, Kd.R_nil _ _ _ _ _, Below.refl _ _⟩
  ·have bk0 : ((l0.length : Int) == 0) = false := beq_eq_false_iff_ne.mpr (by omega); have bk1 : (l0.length == 0) = false := beq_eq_false_iff_ne.mpr aT0; have bC := Aside0.mk (Nat.pos_of_ne_zero aT0); have bq0 : (0 : Int) ≤ (l0.length : Int) := Int.natCast_nonneg _; have bD := Aside0.mk X0; have bU := Aside0.mk Z0; clear X0 Z0 bd aT0
   go_enter Try.func63, Try.ntmps63
   go_wp2_with (first | ((with_reducible refine gate_dst (N := 9) rfl ?_); refine Kd.R_make k48 _ 48 rfl (N := 9) rfl 27 _ _ rfl (l0.length : Int) rfl rfl Try.underlying27 (.agg #[(.int .i64 0), (.int .i64 0)]) 16 info48 rfl (by decide) (by omega) z48 (ok := fun _ => True) (okp := fun _ => True) (k48_mkM _ _ _ z48) (fun _ hk => hk) trivial (by omega) (by have := bp.out; omega) (Below.refl _ _) (Nat.le_refl _) ?_; intro U0 w2 A1 hb ap aq; clear ap aq; have bE := Aside0.mk A1; have br := Aside0.mk hb; clear A1 hb) | ((with_reducible refine gate_dst (N := 12) rfl ?_); refine copy_event k48 _ rfl (N := 12) rfl (.tmp 10) (.tmp 11) 27 27 48 rfl Try.underlying27 (by have h_ := info48; obtain ⟨i0, hi, bs⟩ := Option.map_eq_some_iff.1 h_; simp only [Prod.mk.injEq] at bs; rw [hi]; exact congrArg some bs.2.1) (by decide) _ _ l0 A0 c0 (fun _ => True) rfl rfl bE.out (Kd.C_below bD.out br.out) (by simp) bC.out (fun w' x cs h_ w1 b1 o1 => by obtain rfl := k48_open h_; exact k48_mkM _ _ _ x) br.out ?_; intro w3 A2 hb; have bF0 := Aside0.mk A2; have bG0 := Aside0.mk hb; clear A2 hb))
   go_ret
   exact ⟨_, rfl, bF0.out, bG0.out⟩
 ·rw [if_neg bd] at h; cases h

/-! ### impl_copied_impl_Put: function 65 -/
def impl_copied_impl_Put.f (l0 : List (S36)) : Option (List (S36)) := if l0.length ≤ 17592186044416 then some l0 else none
set_option maxHeartbeats 8000000 in
set_option maxRecDepth 100000 in
theorem impl_copied_impl_Put.calls (A0 : Option Addr) (c0 : Nat) (l0 : List (S36)) (r : List (S36)) (w : World) (X0 : Kd.C k36 w A0 l0.length l0) (Z0 : l0.length ≤ c0) (h : impl_copied_impl_Put.f l0 = some r) :
  Calls Try.prog 65 #[.slice A0 l0.length c0] w fun e w' => ∃ v0_ : Value, e = .returned (v0_) ∧ Kd.R k36 36 w' w.heap.size (fun _ => True) v0_ r ∧ Below w.heap.size w w' := by
 unfold impl_copied_impl_Put.f at h; by_cases bd : l0.length ≤ 17592186044416
 ·rw [if_pos bd] at h; obtain rfl := Option.some.inj h; clear h; have bp := Aside0.mk bd; by_cases aT0 : l0.length = 0
  ·obtain rfl : l0 = [] := List.eq_nil_of_length_eq_zero aT0; clear X0 Z0 bd bp aT0
   go_enter Try.func65, Try.ntmps65
   go_wp2
   go_ret
   exact ⟨_, rfl, Kd.R_nil _ _ _ _ _, Below.refl _ _⟩
  ·have bk0 : ((l0.length : Int) == 0) = false := beq_eq_false_iff_ne.mpr (by omega); have bk1 : (l0.length == 0) = false := beq_eq_false_iff_ne.mpr aT0; have bC := Aside0.mk (Nat.pos_of_ne_zero aT0); have bq0 : (0 : Int) ≤ (l0.length : Int) := Int.natCast_nonneg _; have bD := Aside0.mk X0; have bU := Aside0.mk Z0; clear X0 Z0 bd aT0
   go_enter Try.func65, Try.ntmps65
   go_wp2_with (first | ((with_reducible refine gate_dst (N := 9) rfl ?_); refine Kd.R_make k36 _ 36 rfl (N := 9) rfl 28 _ _ rfl (l0.length : Int) rfl rfl Try.underlying28 (.agg #[(.int .i64 0), (.int .i64 0)]) 16 info36 rfl (by decide) (by omega) z36 (ok := fun _ => True) (okp := fun _ => True) (k36_mkM _ _ _ z36) (fun _ hk => hk) trivial (by omega) (by have := bp.out; omega) (Below.refl _ _) (Nat.le_refl _) ?_; intro U0 w2 A1 hb ap aq; clear ap aq; have bE := Aside0.mk A1; have br := Aside0.mk hb; clear A1 hb) | ((with_reducible refine gate_dst (N := 12) rfl ?_); refine copy_event k36 _ rfl (N := 12) rfl (.tmp 10) (.tmp 11) 28 28 36 rfl Try.underlying28 (by have h_ := info36; obtain ⟨i0, hi, bs⟩ := Option.map_eq_some_iff.1 h_; simp only [Prod.mk.injEq] at bs; rw [hi]; exact congrArg some bs.2.1) (by decide) _ _ l0 A0 c0 (fun _ => True) rfl rfl bE.out (Kd.C_below bD.out br.out) (by simp) bC.out (fun w' x cs h_ w1 b1 o1 => by obtain rfl := k36_open h_; exact k36_mkM _ _ _ x) br.out ?_; intro w3 A2 hb; have bF0 := Aside0.mk A2; have bG0 := Aside0.mk hb; clear A2 hb))
   go_ret
   exact ⟨_, rfl, bF0.out, bG0.out⟩
 ·rw [if_neg bd] at h; cases h

end Go.Proofs.Ytgdafcakefnpdaa.PFnExecGrow
