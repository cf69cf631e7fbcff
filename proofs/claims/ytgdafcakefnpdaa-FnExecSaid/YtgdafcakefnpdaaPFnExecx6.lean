-- Laid by this session's program out of the translation (gen.sh).
import Derived.Test.YtgdafcakefnpdaaPFnExecx0
namespace Go.Proofs.Ytgdafcakefnpdaa.PFnExec
open Go.RowKit Go.Proofs.YtgdafcakefnpdaaW.PrintWords Go.Proofs.YtgdafcakefnpdaaW.PrintLast Go.Proofs.YtgdafcakefnpdaaW.PrintMore
attribute [local go_sem] max2_int min2_int max_two min_two max_three min_three max_four min_four   -- for this text's walks alone
set_option linter.unusedVariables false
set_option linter.unusedSimpArgs false

/-! ### impl_readAt: function 62 -/
def impl_readAt.l0 : Nat → Int → List (S48) → Int → Int → Option (Int)
 | 0, _, _, _, _ => none
 | k + 1, x1, x8, x9, x10 => if x10 < x9 then (if 0 ≤ x10 then (if x10 < (x8.length : Int) then (if ((rd_T48 x8 x10).f0) = x1 then (some x10) else (impl_readAt.l0 k x1 x8 x9 (wrap64 (x10 + 1)))) else (none)) else (none)) else (some (-1))
def impl_readAt.f (k : Nat) (l0_0 : List (S48)) (l0_1 : List (S36)) (a0_2 : Int) (a0_3 : Int) (a1 : Int) : Option (Int) := impl_readAt.l0 k a1 l0_0 (l0_0.length : Int) 0
theorem impl_readAt.mono_l : ∀ k, (∀ y0 y1 y2 y3, LeO (impl_readAt.l0 k y0 y1 y2 y3) (impl_readAt.l0 (k + 1) y0 y1 y2 y3))
 | 0 => fun _ _ _ _ r h => by simp [impl_readAt.l0] at h
 | k + 1 => by
  have H0 := impl_readAt.mono_l k
  ·intro y0 y1 y2 y3
   unfold impl_readAt.l0
   repeat' first
   | (with_reducible exact H0 _ _ _ _)
   | (with_reducible exact LeO.refl _)
   | (with_reducible exact LeO.none _)
   | (with_reducible refine LeO.ite ?_ ?_)
   | (with_reducible refine LeO.bind ?_ (fun _ => ?_))
   | exact H0 _ _ _ _
   | exact LeO.none _
   | refine LeO.ite ?_ ?_
   | refine LeO.bind ?_ (fun _ => ?_)
theorem impl_readAt.mono : ∀ a0 a1 a2 a3 a4 k, LeO (impl_readAt.f k a0 a1 a2 a3 a4) (impl_readAt.f (k + 1) a0 a1 a2 a3 a4) := by
 intro a0 a1 a2 a3 a4 k
 have H0 := impl_readAt.mono_l k
 unfold impl_readAt.f
 repeat' first
   | (with_reducible exact H0 _ _ _ _)
   | (with_reducible exact LeO.refl _)
   | (with_reducible exact LeO.none _)
   | (with_reducible refine LeO.ite ?_ ?_)
   | (with_reducible refine LeO.bind ?_ (fun _ => ?_))
   | exact H0 _ _ _ _
   | exact LeO.none _
   | refine LeO.ite ?_ ?_
   | refine LeO.bind ?_ (fun _ => ?_)
set_option maxHeartbeats 8000000 in
set_option maxRecDepth 100000 in
theorem impl_readAt.calls (k : Nat) (P0 : Option Addr) (J0 : Nat) (n0 : List (S48)) (P1 : Option Addr) (J1 : Nat) (n1 : List (S36)) (g0 : Int) (g1 : Int) (a1 : Int) (r : Int) (w : World) (ay0 : Kd.C k48 w P0 n0.length n0) (az0 : n0.length ≤ J0) (ay1 : Kd.C k36 w P1 n1.length n1) (az1 : n1.length ≤ J1) (h : impl_readAt.f k n0 n1 g0 g1 a1 = some r) :
  Calls Try.prog 62 #[.agg #[.slice P0 n0.length J0, .slice P1 n1.length J1, .int .i64 g0, .int .i64 g1], .int .i64 a1] w fun e w' => e = .returned (.int .i64 r) ∧ Below w.heap.size w w' := by
 have ap0 := Try.underlying30; have ap1 := Try.underlying48; have an0 := Aside0.mk ay0; have aD0 := Aside0.mk az0; clear ay0 az0; have an1 := Aside0.mk ay1; have aD1 := Aside0.mk az1; clear ay1 az1; have HB := Aside0.mk (Below.refl w.heap.size w); have H : (impl_readAt.l0 k a1 n0 (n0.length : Int) 0) = some r := h; clear h; have H' := Aside0.mk H; clear H
 go_enter Try.func62, Try.ntmps62
 go_wp2_with (first | ((with_reducible refine gate_dst (N := 2) rfl ?_); refine bxe_ (N := 2) (cs := #[.slice P0 n0.length J0, .slice P1 n1.length J1, .int .i64 g0, .int .i64 g1]) (t := 30) ?_; intro c0 hg w3 y hb; have n_ := A4_ (below_step zq6c_ hb) (y) ((zqa8_ : w.heap.size ≤ c0)) ((zqa8_ : w.heap.size ≤ c0)); clear HB; obtain ⟨HB, b0, x0, l1⟩ := n_; clear hb y hg; obtain ⟨h0, h1, h2, h3, i0, i1, i2, i3⟩ := bz4_ b0.out))
 go_loopg [10] k (fun kq X0 w' => ∃ (a0 : Int), X0 = .int .i64 a0 ∧ Aside0 (impl_readAt.l0 kq a1 n0 (n0.length : Int) a0 = some r) ∧ Aside0 (kq ≤ k) ∧ Aside0 (w'.heap[c0]? = some (.cells #[(.slice P0 n0.length J0), (.slice P1 n1.length J1), .int .i64 g0, .int .i64 g1] 30 (0, 0))) ∧ Aside0 (Below w.heap.size w w'))
 case atStart => exact ⟨(0), zq5a_, H', ⟨Nat.le_refl _⟩, ⟨zq25_⟩, ⟨zq67_⟩⟩
 case round =>
  clear H'
  try clear p2
  try clear h0 h1 h2 h3 i0 i1 i2 i3
  obtain ⟨a0, rfl, HA, Z0, b0, HB⟩ := hrel
  cases gk with
  | zero => exact absurd HA.out (by simp [impl_readAt.l0])
  | succ k1 =>
   have H := HA.out; clear HA; simp only [impl_readAt.l0] at H; replace H := ifc_ H
   rcases H with ⟨c5b0, H⟩ | ⟨c5b0, H⟩
   ·replace H := ifd2_ H; obtain ⟨s0, s1, H⟩ := H; by_cases c8 : ((rd_T48 n0 a0).f0) = a1
    ·rw [if_pos c8] at H; have s2 : (((rd_T48 n0 a0).f0) == a1) = true := beq_iff_eq.mpr c8; have s3 : (((rd_T48 n0 a0).f0) != a1) = false := bne_eq_false_iff_eq.mpr c8; clear c8; obtain rfl := Option.some.inj H; have u0 : 0 ≤ (a0 : Int) := of_decide_eq_true zq55_; have t0 : a0 < (n0.length : Int) := of_decide_eq_true zq55_; obtain ⟨F0, Q0, q0, q1⟩ := at_T48 an0.out a0 u0 t0; cases Q0; replace q0 := pb_ HB.out q0; replace q1 := pb_ HB.out q1; replace u0 := eq_true u0; replace t0 := eq_true t0
     go_wp2_with (first | ((with_reducible refine gate_dst (N := 6) rfl ?_); refine bxe_ (N := 6) (cs := #[.int .i64 0, .int .i64 0]) (t := 48) ?_; intro c1 hg w9 y hb; have n_ := A7_ (blk_below (g := c0) (o := .cells #[.slice (some F0) n0.length J0, .slice P1 n1.length J1, .int .i64 g0, .int .i64 g1] 30 (0, 0)) zq25_ hb) (below_step zq67_ hb) (y) ((zqa4_ : w.heap.size ≤ c1)) ((zqa4_ : w.heap.size ≤ c1)) ((zqbf_ : c0 ≠ c1)) ((zqae_ : c1 ≠ c0)); clear b0 HB; obtain ⟨b0, HB, b1, x1, l2, f1, f2⟩ := n_; clear hb y hg; have N0 := f2.out; have O0 := f1.out; obtain ⟨h4, h5, i4, i5⟩ := bz2_ b1.out))
     go_ret
     exact ⟨zq59_, zq63_⟩
    ·rw [if_neg c8] at H; have s2 : (((rd_T48 n0 a0).f0) == a1) = false := beq_eq_false_iff_ne.mpr c8; have s3 : (((rd_T48 n0 a0).f0) != a1) = true := bne_iff_ne.mpr c8; have H' := Aside0.mk H; clear H; have u0 : 0 ≤ (a0 : Int) := of_decide_eq_true zq55_; have t0 : a0 < (n0.length : Int) := of_decide_eq_true zq55_; obtain ⟨F0, Q0, q0, q1⟩ := at_T48 an0.out a0 u0 t0; cases Q0; replace q0 := pb_ HB.out q0; replace q1 := pb_ HB.out q1; replace u0 := eq_true u0; replace t0 := eq_true t0
     go_wp2_with (first | ((with_reducible refine gate_dst (N := 6) rfl ?_); refine bxe_ (N := 6) (cs := #[.int .i64 0, .int .i64 0]) (t := 48) ?_; intro c1 hg r0 y hb; have n_ := A7_ (blk_below (g := c0) (o := .cells #[.slice (some F0) n0.length J0, .slice P1 n1.length J1, .int .i64 g0, .int .i64 g1] 30 (0, 0)) zq25_ hb) (below_step zq67_ hb) (y) ((zqa4_ : w.heap.size ≤ c1)) ((zqa4_ : w.heap.size ≤ c1)) ((zqbf_ : c0 ≠ c1)) ((zqae_ : c1 ≠ c0)); clear b0 HB; obtain ⟨b0, HB, b1, x1, l2, f1, f2⟩ := n_; clear hb y hg; have N0 := f2.out; have O0 := f1.out; obtain ⟨h4, h5, i4, i5⟩ := bz2_ b1.out))
     go_roundg k1
     case measure => have := Z0.out; omega
     case rel => exact ⟨(wrap64 (a0 + 1)), zq5a_, H', ⟨by have := Z0.out; omega⟩, ⟨zq2c_⟩, ⟨zq63_⟩⟩
   ·obtain rfl := Option.some.inj H
    go_wp2
    go_ret
    exact ⟨zq59_, zq67_⟩

/-! ### impl_copied_impl_Read: function 63 -/
def impl_copied_impl_Read.f (l0 : List (S48)) : Option (List (S48)) := if l0.length ≤ 17592186044416 then some l0 else none
set_option maxHeartbeats 8000000 in
set_option maxRecDepth 100000 in
theorem impl_copied_impl_Read.calls (A0 : Option Addr) (c0 : Nat) (l0 : List (S48)) (r : List (S48)) (w : World) (Y0 : Kd.C k48 w A0 l0.length l0) (ac0 : l0.length ≤ c0) (h : impl_copied_impl_Read.f l0 = some r) :
  Calls Try.prog 63 #[.slice A0 l0.length c0] w fun e w' => ∃ v0_ : Value, e = .returned (v0_) ∧ Kd.R k48 48 w' w.heap.size (fun _ => True) v0_ r ∧ Below w.heap.size w w' := by
 unfold impl_copied_impl_Read.f at h; by_cases bc : l0.length ≤ 17592186044416
 ·rw [if_pos bc] at h; obtain rfl := Option.some.inj h; clear h; have bq := Aside0.mk bc; by_cases aV0 : l0.length = 0
  ·obtain rfl : l0 = [] := List.eq_nil_of_length_eq_zero aV0; clear Y0 ac0 bc bq aV0
   go_enter Try.func63, Try.ntmps63
   go_wp2
   go_ret
   exact ⟨_, rfl, Kd.R_nil _ _ _ _ _, Below.refl _ _⟩
  ·have bm0 : ((l0.length : Int) == 0) = false := beq_eq_false_iff_ne.mpr (by omega); have bm1 : (l0.length == 0) = false := beq_eq_false_iff_ne.mpr aV0; have bD := Aside0.mk (Nat.pos_of_ne_zero aV0); have br0 : (0 : Int) ≤ (l0.length : Int) := Int.natCast_nonneg _; have bE := Aside0.mk Y0; have bV := Aside0.mk ac0; clear Y0 ac0 bc aV0
   go_enter Try.func63, Try.ntmps63
   go_wp2_with (first | ((with_reducible refine gate_dst (N := 9) rfl ?_); refine Kd.R_make k48 _ 48 rfl (N := 9) rfl 27 _ _ rfl (l0.length : Int) rfl rfl Try.underlying27 (.agg #[(.int .i64 0), (.int .i64 0)]) 16 info48 rfl (by decide) (by omega) z48 (ok := fun _ => True) (okp := fun _ => True) (k48_mkM _ _ _ z48) (fun _ hk => hk) trivial (by omega) (by have := bq.out; omega) (Below.refl _ _) (Nat.le_refl _) ?_; intro X0 w2 E0 hb aq ar; clear aq ar; have bF := Aside0.mk E0; have bs := Aside0.mk hb; clear E0 hb) | ((with_reducible refine gate_dst (N := 12) rfl ?_); refine copy_event k48 _ rfl (N := 12) rfl (.tmp 10) (.tmp 11) 27 27 48 rfl Try.underlying27 (by have h_ := info48; obtain ⟨i0, hi, bt⟩ := Option.map_eq_some_iff.1 h_; simp only [Prod.mk.injEq] at bt; rw [hi]; exact congrArg some bt.2.1) (by decide) _ _ l0 A0 c0 (fun _ => True) rfl rfl bF.out (Kd.C_below bE.out bs.out) (by simp) bD.out (fun w' x cs h_ w1 b1 o1 => by obtain rfl := k48_open h_; exact k48_mkM _ _ _ x) bs.out ?_; intro w3 E1 hb; have bG0 := Aside0.mk E1; have bH0 := Aside0.mk hb; clear E1 hb))
   go_ret
   exact ⟨_, rfl, bG0.out, bH0.out⟩
 ·rw [if_neg bc] at h; cases h

/-! ### impl_copied_impl_Put: function 65 -/
def impl_copied_impl_Put.f (l0 : List (S36)) : Option (List (S36)) := if l0.length ≤ 17592186044416 then some l0 else none
set_option maxHeartbeats 8000000 in
set_option maxRecDepth 100000 in
theorem impl_copied_impl_Put.calls (A0 : Option Addr) (c0 : Nat) (l0 : List (S36)) (r : List (S36)) (w : World) (Y0 : Kd.C k36 w A0 l0.length l0) (ac0 : l0.length ≤ c0) (h : impl_copied_impl_Put.f l0 = some r) :
  Calls Try.prog 65 #[.slice A0 l0.length c0] w fun e w' => ∃ v0_ : Value, e = .returned (v0_) ∧ Kd.R k36 36 w' w.heap.size (fun _ => True) v0_ r ∧ Below w.heap.size w w' := by
 unfold impl_copied_impl_Put.f at h; by_cases bc : l0.length ≤ 17592186044416
 ·rw [if_pos bc] at h; obtain rfl := Option.some.inj h; clear h; have bq := Aside0.mk bc; by_cases aV0 : l0.length = 0
  ·obtain rfl : l0 = [] := List.eq_nil_of_length_eq_zero aV0; clear Y0 ac0 bc bq aV0
   go_enter Try.func65, Try.ntmps65
   go_wp2
   go_ret
   exact ⟨_, rfl, Kd.R_nil _ _ _ _ _, Below.refl _ _⟩
  ·have bm0 : ((l0.length : Int) == 0) = false := beq_eq_false_iff_ne.mpr (by omega); have bm1 : (l0.length == 0) = false := beq_eq_false_iff_ne.mpr aV0; have bD := Aside0.mk (Nat.pos_of_ne_zero aV0); have br0 : (0 : Int) ≤ (l0.length : Int) := Int.natCast_nonneg _; have bE := Aside0.mk Y0; have bV := Aside0.mk ac0; clear Y0 ac0 bc aV0
   go_enter Try.func65, Try.ntmps65
   go_wp2_with (first | ((with_reducible refine gate_dst (N := 9) rfl ?_); refine Kd.R_make k36 _ 36 rfl (N := 9) rfl 28 _ _ rfl (l0.length : Int) rfl rfl Try.underlying28 (.agg #[(.int .i64 0), (.int .i64 0)]) 16 info36 rfl (by decide) (by omega) z36 (ok := fun _ => True) (okp := fun _ => True) (k36_mkM _ _ _ z36) (fun _ hk => hk) trivial (by omega) (by have := bq.out; omega) (Below.refl _ _) (Nat.le_refl _) ?_; intro X0 w2 E0 hb aq ar; clear aq ar; have bF := Aside0.mk E0; have bs := Aside0.mk hb; clear E0 hb) | ((with_reducible refine gate_dst (N := 12) rfl ?_); refine copy_event k36 _ rfl (N := 12) rfl (.tmp 10) (.tmp 11) 28 28 36 rfl Try.underlying28 (by have h_ := info36; obtain ⟨i0, hi, bt⟩ := Option.map_eq_some_iff.1 h_; simp only [Prod.mk.injEq] at bt; rw [hi]; exact congrArg some bt.2.1) (by decide) _ _ l0 A0 c0 (fun _ => True) rfl rfl bF.out (Kd.C_below bE.out bs.out) (by simp) bD.out (fun w' x cs h_ w1 b1 o1 => by obtain rfl := k36_open h_; exact k36_mkM _ _ _ x) bs.out ?_; intro w3 E1 hb; have bG0 := Aside0.mk E1; have bH0 := Aside0.mk hb; clear E1 hb))
   go_ret
   exact ⟨_, rfl, bG0.out, bH0.out⟩
 ·rw [if_neg bc] at h; cases h

end Go.Proofs.Ytgdafcakefnpdaa.PFnExec
