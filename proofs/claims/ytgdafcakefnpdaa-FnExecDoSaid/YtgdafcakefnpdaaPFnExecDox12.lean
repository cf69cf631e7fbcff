-- Laid by this session's program out of the translation (gen.sh).
import Derived.Test.YtgdafcakefnpdaaPFnExecDox0
import Derived.Test.YtgdafcakefnpdaaPFnExecDox1
import Derived.Test.YtgdafcakefnpdaaPFnExecDox10
import Derived.Test.YtgdafcakefnpdaaPFnExecDox11
namespace Go.Proofs.Ytgdafcakefnpdaa.PFnExecDo
open Go.RowKit Go.Proofs.YtgdafcakefnpdaaW.PrintWords Go.Proofs.YtgdafcakefnpdaaW.PrintLast Go.Proofs.YtgdafcakefnpdaaW.PrintMore
attribute [local go_sem] max2_int min2_int max_two min_two max_three min_three max_four min_four   -- for this text's walks alone
set_option linter.unusedVariables false
set_option linter.unusedSimpArgs false

attribute [local go_sem high] eqA46
/-! ### impl_BoxOk: function 25 -/
def impl_BoxOk.l0 : Nat → List (S46) → List (S46) → Int → Int → Option (Bool)
 | 0, _, _, _, _ => none
 | k + 1, x0, x5, x6, x7 => if x7 < x6 then (if 0 ≤ x7 then (if x7 < (x5.length : Int) then ((impl_in.f ((rd_T46 x5 x7).f0) 0 1000000).bind fun t379 => (if t379 = true then ((impl_in.f ((rd_T46 x5 x7).f1) (-1000000) 1000000).bind fun t380 => (if t380 = true then (impl_BoxOk.l0 k x0 x5 x6 (wrap64 (x7 + 1))) else (some false))) else (some false))) else (none)) else (none)) else (some ((x0.length : Int) == 4))
def impl_BoxOk.f (k : Nat) (l0 : List (S46)) : Option (Bool) := impl_BoxOk.l0 k l0 l0 (l0.length : Int) 0
theorem impl_BoxOk.mono_l : ∀ k, (∀ y0 y1 y2 y3, LeO (impl_BoxOk.l0 k y0 y1 y2 y3) (impl_BoxOk.l0 (k + 1) y0 y1 y2 y3))
 | 0 => fun _ _ _ _ r h => by simp [impl_BoxOk.l0] at h
 | k + 1 => by
  have J0 := impl_BoxOk.mono_l k
  ·intro y0 y1 y2 y3
   unfold impl_BoxOk.l0
   repeat' first
   | (with_reducible exact J0 _ _ _ _)
   | (with_reducible exact LeO.refl _)
   | (with_reducible exact LeO.none _)
   | (with_reducible refine LeO.ite ?_ ?_)
   | (with_reducible refine LeO.bind ?_ (fun _ => ?_))
   | exact J0 _ _ _ _
   | exact LeO.none _
   | refine LeO.ite ?_ ?_
   | refine LeO.bind ?_ (fun _ => ?_)
theorem impl_BoxOk.mono : ∀ a0 k, LeO (impl_BoxOk.f k a0) (impl_BoxOk.f (k + 1) a0) := by
 intro a0 k
 have J0 := impl_BoxOk.mono_l k
 unfold impl_BoxOk.f
 repeat' first
   | (with_reducible exact J0 _ _ _ _)
   | (with_reducible exact LeO.refl _)
   | (with_reducible exact LeO.none _)
   | (with_reducible refine LeO.ite ?_ ?_)
   | (with_reducible refine LeO.bind ?_ (fun _ => ?_))
   | exact J0 _ _ _ _
   | exact LeO.none _
   | refine LeO.ite ?_ ?_
   | refine LeO.bind ?_ (fun _ => ?_)
set_option maxHeartbeats 8000000 in
set_option maxRecDepth 100000 in
theorem impl_BoxOk.calls (k : Nat) (A0 : Option Addr) (c0 : Nat) (l0 : List (S46)) (r : Bool) (w : World) (Y0 : Kd.C k46 w A0 l0.length l0) (ad0 : l0.length ≤ c0) (h : impl_BoxOk.f k l0 = some r) :
  Calls Try.prog 25 #[.slice A0 l0.length c0] w fun e w' => e = .returned (.bool r) ∧ Below w.heap.size w w' := by
 have aB0 := Try.underlying46; have V0 := Aside0.mk Y0; have X0 := Aside0.mk ad0; clear Y0 ad0; have HB := Aside0.mk (Below.refl w.heap.size w); have H : (impl_BoxOk.l0 k l0 l0 (l0.length : Int) 0) = some r := h; clear h; have H' := Aside0.mk H; clear H
 go_enter Try.func25, Try.ntmps25
 go_wp2
 go_loopg [7] k (fun kq v7 w' => ∃ (e0 : Int), v7 = .int .i64 e0 ∧ Aside0 (impl_BoxOk.l0 kq l0 l0 (l0.length : Int) e0 = some r) ∧ Aside0 (kq ≤ k) ∧ Aside0 (Below w.heap.size w w'))
 case atStart => exact ⟨(0), zq46_, H', ⟨Nat.le_refl _⟩, ⟨zq59_⟩⟩
 case round =>
  clear H'; obtain ⟨e0, rfl, HA, Z0, HB⟩ := hrel
  cases gk with
  | zero => exact absurd HA.out (by simp [impl_BoxOk.l0])
  | succ k1 =>
   have H := HA.out; clear HA; simp only [impl_BoxOk.l0] at H; replace H := ifc_ H
   rcases H with ⟨c2b0, H⟩ | ⟨c2b0, H⟩
   ·replace H := ifd2_ H; obtain ⟨u0, u1, H⟩ := H; replace H := bs_ H; obtain ⟨a0, A5, H⟩ := H; (try dsimp only at H); replace H := ifB_ H
    rcases H with ⟨rfl, H⟩ | ⟨rfl, H⟩
    ·replace H := bs_ H; obtain ⟨a1, A7, H⟩ := H; (try dsimp only at H); replace H := ifB_ H
     rcases H with ⟨rfl, H⟩ | ⟨rfl, H⟩
     ·have H' := Aside0.mk H; clear H; have t0 : 0 ≤ (e0 : Int) := of_decide_eq_true zq41_; have s0 : e0 < (l0.length : Int) := of_decide_eq_true zq41_; obtain ⟨v0, M0, n0, n1⟩ := at_T46 V0.out e0 t0 s0; cases M0; replace n0 := pb_ HB.out n0; replace n1 := pb_ HB.out n1; replace t0 := eq_true t0; replace s0 := eq_true s0
      go_wp2_with (first | ((with_reducible refine gate_dst (N := 4) rfl ?_); refine bxe_ (N := 4) (cs := #[.int .i64 0, .int .i64 0]) (t := 46) ?_; intro c1 hg w9 H_ hb; have n_ := A4_ (below_step zq59_ hb) (H_) ((zq95_ : w.heap.size ≤ c1)) ((zq95_ : w.heap.size ≤ c1)); clear HB; obtain ⟨HB, b0, y0, p0⟩ := n_; clear hb H_ hg; obtain ⟨k0, k2, l1, l2⟩ := bz2_ b0.out) | ((with_reducible refine gate_callee (f := 64) rfl ?_); refine gl_ 13 Try.func64 #[.int .i64 ((rd_T46 l0 e0).f0), .int .i64 0, .int .i64 1000000] ?_; (with_reducible refine (impl_in.calls ((rd_T46 l0 e0).f0) 0 1000000 true _ A5.out).mono ?_); rintro e w' ⟨rfl, ⟨nd, rfl⟩⟩; refine ⟨_, rfl, ?_⟩) | (go_at_call 64; (with_reducible refine (impl_in.calls ((rd_T46 l0 e0).f1) (-1000000) 1000000 true _ A7.out).mono ?_); rintro e w' ⟨rfl, ⟨nd, rfl⟩⟩; (try clear A7)))
      go_roundg k1
      case measure => have := Z0.out; omega
      case rel => exact ⟨(wrap64 (e0 + 1)), zq46_, H', ⟨by have := Z0.out; omega⟩, ⟨zq58_⟩⟩
     ·obtain rfl := Option.some.inj H; have t0 : 0 ≤ (e0 : Int) := of_decide_eq_true zq41_; have s0 : e0 < (l0.length : Int) := of_decide_eq_true zq41_; obtain ⟨v0, M0, n0, n1⟩ := at_T46 V0.out e0 t0 s0; cases M0; replace n0 := pb_ HB.out n0; replace n1 := pb_ HB.out n1; replace t0 := eq_true t0; replace s0 := eq_true s0
      go_wp2_with (first | ((with_reducible refine gate_dst (N := 4) rfl ?_); refine bxe_ (N := 4) (cs := #[.int .i64 0, .int .i64 0]) (t := 46) ?_; intro c1 hg r0 H_ hb; have n_ := A4_ (below_step zq59_ hb) (H_) ((zq95_ : w.heap.size ≤ c1)) ((zq95_ : w.heap.size ≤ c1)); clear HB; obtain ⟨HB, b0, y0, p0⟩ := n_; clear hb H_ hg; obtain ⟨k0, k2, l1, l2⟩ := bz2_ b0.out) | ((with_reducible refine gate_callee (f := 64) rfl ?_); refine gl_ 13 Try.func64 #[.int .i64 ((rd_T46 l0 e0).f0), .int .i64 0, .int .i64 1000000] ?_; (with_reducible refine (impl_in.calls ((rd_T46 l0 e0).f0) 0 1000000 true _ A5.out).mono ?_); rintro e w' ⟨rfl, ⟨nd, rfl⟩⟩; refine ⟨_, rfl, ?_⟩) | (go_at_call 64; (with_reducible refine (impl_in.calls ((rd_T46 l0 e0).f1) (-1000000) 1000000 false _ A7.out).mono ?_); rintro e w' ⟨rfl, ⟨nd, rfl⟩⟩; (try clear A7)))
      go_ret
      exact ⟨zq45_, zq58_⟩
    ·obtain rfl := Option.some.inj H; have t0 : 0 ≤ (e0 : Int) := of_decide_eq_true zq41_; have s0 : e0 < (l0.length : Int) := of_decide_eq_true zq41_; obtain ⟨v0, M0, n0, n1⟩ := at_T46 V0.out e0 t0 s0; cases M0; replace n0 := pb_ HB.out n0; replace n1 := pb_ HB.out n1; replace t0 := eq_true t0; replace s0 := eq_true s0
     go_wp2_with (first | ((with_reducible refine gate_dst (N := 4) rfl ?_); refine bxe_ (N := 4) (cs := #[.int .i64 0, .int .i64 0]) (t := 46) ?_; intro c1 hg r0 H_ hb; have n_ := A4_ (below_step zq59_ hb) (H_) ((zq95_ : w.heap.size ≤ c1)) ((zq95_ : w.heap.size ≤ c1)); clear HB; obtain ⟨HB, b0, y0, p0⟩ := n_; clear hb H_ hg; obtain ⟨k0, k2, l1, l2⟩ := bz2_ b0.out) | ((with_reducible refine gate_callee (f := 64) rfl ?_); refine gl_ 13 Try.func64 #[.int .i64 ((rd_T46 l0 e0).f0), .int .i64 0, .int .i64 1000000] ?_; (with_reducible refine (impl_in.calls ((rd_T46 l0 e0).f0) 0 1000000 false _ A5.out).mono ?_); rintro e w' ⟨rfl, ⟨nd, rfl⟩⟩; refine ⟨_, rfl, ?_⟩))
     go_ret
     exact ⟨zq45_, zq58_⟩
   ·obtain rfl := Option.some.inj H
    go_wp2
    go_ret
    exact ⟨zq45_, zq59_⟩

/-! ### impl_copied_impl_Box: function 70 -/
def impl_copied_impl_Box.f (l0 : List (S46)) : Option (List (S46)) := if l0.length ≤ 17592186044416 then some l0 else none
set_option maxHeartbeats 8000000 in
set_option maxRecDepth 100000 in
theorem impl_copied_impl_Box.calls (A0 : Option Addr) (c0 : Nat) (l0 : List (S46)) (r : List (S46)) (w : World) (Y0 : Kd.C k46 w A0 l0.length l0) (ad0 : l0.length ≤ c0) (h : impl_copied_impl_Box.f l0 = some r) :
  Calls Try.prog 70 #[.slice A0 l0.length c0] w fun e w' => ∃ v0_ : Value, e = .returned (v0_) ∧ Kd.R k46 46 w' w.heap.size (fun _ => True) v0_ r ∧ Below w.heap.size w w' := by
 unfold impl_copied_impl_Box.f at h; by_cases bx : l0.length ≤ 17592186044416
 ·rw [if_pos bx] at h; obtain rfl := Option.some.inj h; clear h; have bM := Aside0.mk bx; by_cases bz0 : l0.length = 0
  ·obtain rfl : l0 = [] := List.eq_nil_of_length_eq_zero bz0; clear Y0 ad0 bx bM bz0
   go_enter Try.func70, Try.ntmps70
   go_wp2
   go_ret
   exact ⟨_, rfl, Kd.R_nil _ _ _ _ _, Below.refl _ _⟩
  ·have bh0 : ((l0.length : Int) == 0) = false := beq_eq_false_iff_ne.mpr (by omega); have bh1 : (l0.length == 0) = false := beq_eq_false_iff_ne.mpr bz0; have bT := Aside0.mk (Nat.pos_of_ne_zero bz0); have aU0 : (0 : Int) ≤ (l0.length : Int) := Int.natCast_nonneg _; have bU := Aside0.mk Y0; have cg := Aside0.mk ad0; clear Y0 ad0 bx bz0
   go_enter Try.func70, Try.ntmps70
   go_wp2_with (first | ((with_reducible refine gate_dst (N := 9) rfl ?_); refine Kd.R_make k46 _ 46 rfl (N := 9) rfl 23 _ _ rfl (l0.length : Int) rfl rfl Try.underlying23 (.agg #[(.int .i64 0), (.int .i64 0)]) 16 info46 rfl (by decide) (by omega) z46 (ok := fun _ => True) (okp := fun _ => True) (k46_mkM _ _ _ z46) (fun _ hk => hk) trivial (by omega) (by have := bM.out; omega) (Below.refl _ _) (Nat.le_refl _) ?_; intro S0 w2 D0 hb an ao; clear an ao; have bV := Aside0.mk D0; have bN := Aside0.mk hb; clear D0 hb) | ((with_reducible refine gate_dst (N := 12) rfl ?_); refine copy_event k46 _ rfl (N := 12) rfl (.tmp 10) (.tmp 11) 23 23 46 rfl Try.underlying23 (by have h_ := info46; obtain ⟨i0, hi, bO⟩ := Option.map_eq_some_iff.1 h_; simp only [Prod.mk.injEq] at bO; rw [hi]; exact congrArg some bO.2.1) (by decide) _ _ l0 A0 c0 (fun _ => True) rfl rfl bV.out (Kd.C_below bU.out bN.out) (by simp) bT.out (fun w' x cs h_ w1 b1 o1 => by obtain rfl := k46_open h_; exact k46_mkM _ _ _ x) bN.out ?_; intro w3 D1 hb; have bX0 := Aside0.mk D1; have bY0 := Aside0.mk hb; clear D1 hb))
   go_ret
   exact ⟨_, rfl, bX0.out, bY0.out⟩
 ·rw [if_neg bx] at h; cases h

/-! ### impl_ExecDo: function 17 -/
mutual
def impl_ExecDo.j0 : Nat → List (S46) → Bool → List (S48) → List (S36) → Int → Int → Option ((List (S46)))
 | 0, _, _, _, _, _, _ => none
 | k + 1, x0, x15, x382000, x382001, x382002, x382003 => if x15 = true then (some ([] : List (S46))) else ((impl_copied_impl_Box.f x0).bind fun t384 => (impl_ExecDo.l0 k t384 x382001 (x382001.length : Int) 0))
def impl_ExecDo.l0 : Nat → List (S46) → List (S36) → Int → Int → Option ((List (S46)))
 | 0, _, _, _, _ => none
 | k + 1, x5, x19, x20, x21 => if x21 < x20 then (if 0 ≤ x21 then (if x21 < (x19.length : Int) then (if 0 ≤ ((rd_T36 x19 x21).f0) then (if ((rd_T36 x19 x21).f0) < (x5.length : Int) then (impl_ExecDo.l0 k (x5.set (((rd_T36 x19 x21).f0) : Int).toNat (⟨mn 1000000 (wrap64 (((rd_T46 x5 ((rd_T36 x19 x21).f0)).f0) + 1)), (rd_T36 x19 x21).f1⟩ : S46)) x19 x20 (wrap64 (x21 + 1))) else (none)) else (none)) else (none)) else (none)) else (some x5)
end
def impl_ExecDo.f (k : Nat) (l0 : List (S46)) (l1_0 : List (S48)) (l1_1 : List (S36)) (a1_2 : Int) (a1_3 : Int) : Option ((List (S46))) := (impl_BoxOk.f k l0).bind fun t382 => (if t382 = true then ((impl_ExecOk.f k l1_0 l1_1 a1_2 a1_3).bind fun t383 => (impl_ExecDo.j0 k l0 (!t383) l1_0 l1_1 a1_2 a1_3)) else (impl_ExecDo.j0 k l0 true l1_0 l1_1 a1_2 a1_3))
theorem impl_ExecDo.mono_l : ∀ k, (∀ y0 y1 y2 y3 y4 y5, LeO (impl_ExecDo.j0 k y0 y1 y2 y3 y4 y5) (impl_ExecDo.j0 (k + 1) y0 y1 y2 y3 y4 y5)) ∧ (∀ y0 y1 y2 y3, LeO (impl_ExecDo.l0 k y0 y1 y2 y3) (impl_ExecDo.l0 (k + 1) y0 y1 y2 y3))
 | 0 => ⟨fun _ _ _ _ _ _ r h => by simp [impl_ExecDo.j0] at h, fun _ _ _ _ r h => by simp [impl_ExecDo.l0] at h⟩
 | k + 1 => by
  obtain ⟨J0, J1⟩ := impl_ExecDo.mono_l k
  refine ⟨?_, ?_⟩
  ·intro y0 y1 y2 y3 y4 y5
   unfold impl_ExecDo.j0
   repeat' first
   | (with_reducible exact J0 _ _ _ _ _ _)
   | (with_reducible exact J1 _ _ _ _)
   | (with_reducible exact impl_BoxOk.mono _ _)
   | (with_reducible exact impl_ExecOk.mono _ _ _ _ _)
   | (with_reducible exact LeO.refl _)
   | (with_reducible exact LeO.none _)
   | (with_reducible refine LeO.ite ?_ ?_)
   | (with_reducible refine LeO.bind ?_ (fun _ => ?_))
   | exact J0 _ _ _ _ _ _
   | exact J1 _ _ _ _
   | exact impl_BoxOk.mono _ _
   | exact impl_ExecOk.mono _ _ _ _ _
   | exact LeO.none _
   | refine LeO.ite ?_ ?_
   | refine LeO.bind ?_ (fun _ => ?_)
  ·intro y0 y1 y2 y3
   unfold impl_ExecDo.l0
   repeat' first
   | (with_reducible exact J0 _ _ _ _ _ _)
   | (with_reducible exact J1 _ _ _ _)
   | (with_reducible exact impl_BoxOk.mono _ _)
   | (with_reducible exact impl_ExecOk.mono _ _ _ _ _)
   | (with_reducible exact LeO.refl _)
   | (with_reducible exact LeO.none _)
   | (with_reducible refine LeO.ite ?_ ?_)
   | (with_reducible refine LeO.bind ?_ (fun _ => ?_))
   | exact J0 _ _ _ _ _ _
   | exact J1 _ _ _ _
   | exact impl_BoxOk.mono _ _
   | exact impl_ExecOk.mono _ _ _ _ _
   | exact LeO.none _
   | refine LeO.ite ?_ ?_
   | refine LeO.bind ?_ (fun _ => ?_)
theorem impl_ExecDo.mono : ∀ a0 a1 a2 a3 a4 k, LeO (impl_ExecDo.f k a0 a1 a2 a3 a4) (impl_ExecDo.f (k + 1) a0 a1 a2 a3 a4) := by
 intro a0 a1 a2 a3 a4 k
 obtain ⟨J0, J1⟩ := impl_ExecDo.mono_l k
 unfold impl_ExecDo.f
 repeat' first
   | (with_reducible exact J0 _ _ _ _ _ _)
   | (with_reducible exact J1 _ _ _ _)
   | (with_reducible exact impl_BoxOk.mono _ _)
   | (with_reducible exact impl_ExecOk.mono _ _ _ _ _)
   | (with_reducible exact LeO.refl _)
   | (with_reducible exact LeO.none _)
   | (with_reducible refine LeO.ite ?_ ?_)
   | (with_reducible refine LeO.bind ?_ (fun _ => ?_))
   | exact J0 _ _ _ _ _ _
   | exact J1 _ _ _ _
   | exact impl_BoxOk.mono _ _
   | exact impl_ExecOk.mono _ _ _ _ _
   | exact LeO.none _
   | refine LeO.ite ?_ ?_
   | refine LeO.bind ?_ (fun _ => ?_)
def impl_ExecDo.T7 : Bool × List (List Nat × List Nat) := (true, [([], []), ([], []), ([1], [1]), ([], []), ([], []), ([4], [4]), ([3, 5], [3, 5]), ([6], [6]), ([7], [7]), ([8], [8]), ([9], [9]), ([], []), ([11], [11]), ([10, 12], [10, 12]), ([0, 2, 0, 1, 2, 3, 4, 5, 6, 7, 8, 9, 10, 11, 12, 13], [0, 2]), ([14, 13, 0, 1, 2, 3, 4, 5, 6, 7, 8, 9, 10, 11, 12, 13], [13, 14])])
def impl_ExecDo.B7 : List Nat := [0, 0, 2, 0, 0, 16, 56, 120, 248, 504, 1016, 0, 2048, 8184, 16383, 32767]
theorem impl_ExecDo.tab7 : rtab .any (opsOf Try.f17 7) = impl_ExecDo.T7 := by kernel_rfl
theorem impl_ExecDo.bits7 : waitsOk impl_ExecDo.T7.2 impl_ExecDo.B7 = true := by kernel_rfl
set_option maxHeartbeats 8000000 in
set_option maxRecDepth 100000 in
theorem impl_ExecDo.calls (k : Nat) (A0 : Option Addr) (c0 : Nat) (l0 : List (S46)) (O0 : Option Addr) (I0 : Nat) (g0 : List (S48)) (O1 : Option Addr) (I1 : Nat) (g1 : List (S36)) (h0 : Int) (h1 : Int) (r : List (S46)) (w : World) (Y0 : Kd.C k46 w A0 l0.length l0) (ad0 : l0.length ≤ c0) (ar0 : Kd.C k48 w O0 g0.length g0) (au0 : g0.length ≤ I0) (ar1 : Kd.C k36 w O1 g1.length g1) (au1 : g1.length ≤ I1) (h : impl_ExecDo.f k l0 g0 g1 h0 h1 = some r) :
  Calls Try.prog 17 #[.slice A0 l0.length c0, .agg #[.slice O0 g0.length I0, .slice O1 g1.length I1, .int .i64 h0, .int .i64 h1]] w fun e w' => ∃ v0_ : Value, e = .returned (v0_) ∧ Kd.R k46 46 w' w.heap.size (fun _ => True) v0_ r ∧ Below w.heap.size w w' := by
 have aB0 := Try.underlying30; have aB1 := Try.underlying36; have aB2 := Try.underlying46; have V0 := Aside0.mk Y0; have X0 := Aside0.mk ad0; clear Y0 ad0; have af0 := Aside0.mk ar0; have aC0 := Aside0.mk au0; clear ar0 au0; have af1 := Aside0.mk ar1; have aC1 := Aside0.mk au1; clear ar1 au1; have HB := Aside0.mk (Below.refl w.heap.size w); have H : ((impl_BoxOk.f k l0).bind fun a0 => (if a0 = true then ((impl_ExecOk.f k g0 g1 h0 h1).bind fun a1 => (impl_ExecDo.j0 k l0 (!a1) g0 g1 h0 h1)) else (impl_ExecDo.j0 k l0 true g0 g1 h0 h1))) = some r := h; clear h; have X1 := Aside0.mk H; clear H
 go_enter Try.func17, Try.ntmps17
 go_upto_region 1 with (first | ((with_reducible refine gate_dst (N := 3) rfl ?_); refine bxe_ (N := 3) (cs := #[.slice O0 g0.length I0, .slice O1 g1.length I1, .int .i64 h0, .int .i64 h1]) (t := 30) ?_; intro c3 hg w4 H_ hb; have n_ := A4_ (below_step zq59_ hb) (H_) ((zq95_ : w.heap.size ≤ c3)) ((zq95_ : w.heap.size ≤ c3)); clear HB; obtain ⟨HB, b0, y0, p0⟩ := n_; clear hb H_ hg))
 (try simp only [Act.put, List.setIfInBounds_toArray, List.set_cons_zero, List.set_cons_succ])
 go_cut [15] (fun S0 wc => ∃ (kq : Nat) (e0 : Bool), S0 = .bool e0 ∧ Aside0 (impl_ExecDo.j0 kq l0 e0 g0 g1 h0 h1 = some r) ∧ Aside0 (kq ≤ k) ∧ Aside0 (wc.heap[c3]? = some (.cells #[(.slice O0 g0.length I0), (.slice O1 g1.length I1), .int .i64 h0, .int .i64 h1] 30 (0, 0))) ∧ Aside0 (Below w.heap.size w wc))
 case first =>
  have H := X1.out; clear X1; replace H := bs_ H; obtain ⟨a0, A5, H⟩ := H; (try dsimp only at H); replace H := ifB_ H
  rcases H with ⟨rfl, H⟩ | ⟨rfl, H⟩
  ·replace H := bs_ H; obtain ⟨a1, A7, H⟩ := H; (try dsimp only at H); have H' := Aside0.mk H; clear H
   go_wp2_with (first | ((with_reducible refine gate_callee (f := 25) rfl ?_); refine gl_ 9 Try.func25 #[.slice A0 l0.length c0] ?_; (with_reducible refine (impl_BoxOk.calls k _ _ l0 true _ ?_ ?_ A5.out).mono ?_); exact zq69_; exact X0.out; rintro e w8 ⟨rfl, hb⟩; refine ⟨_, rfl, ?_⟩; have n_ := A2_ (blk_below (g := c3) (o := .cells #[.slice O0 g0.length I0, .slice O1 g1.length I1, .int .i64 h0, .int .i64 h1] 30 (0, 0)) zq1c_ hb) (below_step zq58_ hb); clear b0 HB; obtain ⟨b0, HB⟩ := n_; (try clear hb); obtain ⟨k0, k1, k3, k4, l1, l2, l3, l4⟩ := bz4_ b0.out) | (go_at_call 20; (with_reducible refine (impl_ExecOk.calls k _ _ g0 _ _ g1 h0 h1 a1 _ ?_ ?_ ?_ ?_ A7.out).mono ?_); exact zq6a_; exact aC0.out; exact zq6b_; exact aC1.out; rintro e r0 ⟨rfl, hb⟩; have n_ := A2_ (blk_below (g := c3) (o := .cells #[.slice O0 g0.length I0, .slice O1 g1.length I1, .int .i64 h0, .int .i64 h1] 30 (0, 0)) zq1c_ hb) (below_step zq58_ hb); clear b0 HB; obtain ⟨b0, HB⟩ := n_; (try clear hb); (try clear A7)))
   go_meet
   case rel => exact ⟨_, (!a1), zq46_, H', ⟨zq44_⟩, ⟨zq1c_⟩, ⟨zq58_⟩⟩
  ·have H' := Aside0.mk H; clear H
   go_wp2_with (first | ((with_reducible refine gate_callee (f := 25) rfl ?_); refine gl_ 9 Try.func25 #[.slice A0 l0.length c0] ?_; (with_reducible refine (impl_BoxOk.calls k _ _ l0 false _ ?_ ?_ A5.out).mono ?_); exact zq69_; exact X0.out; rintro e r0 ⟨rfl, hb⟩; refine ⟨_, rfl, ?_⟩; have n_ := A2_ (blk_below (g := c3) (o := .cells #[.slice O0 g0.length I0, .slice O1 g1.length I1, .int .i64 h0, .int .i64 h1] 30 (0, 0)) zq1c_ hb) (below_step zq58_ hb); clear b0 HB; obtain ⟨b0, HB⟩ := n_; (try clear hb)))
   go_meet
   case rel => exact ⟨_, (true), zq46_, H', ⟨zq44_⟩, ⟨zq1c_⟩, ⟨zq58_⟩⟩
 case rest =>
  clear X1
  try clear c1
  try clear c2
  try clear p2
  try clear c6
  try clear k0 k1 k3 k4 l1 l2 l3 l4
  obtain ⟨kq, e0, rfl, HA, av0, b0, HB⟩ := hcut
  cases kq with
  | zero => exact absurd HA.out (by simp [impl_ExecDo.j0])
  | succ kj2 =>
   have H := HA.out; clear HA; simp only [impl_ExecDo.j0] at H; replace H := ifB_ H
   rcases H with ⟨rfl, H⟩ | ⟨rfl, H⟩
   ·obtain rfl := Option.some.inj H
    go_wp2
    go_ret
    exact ⟨_, zq45_, zq42_, zq58_⟩
   ·replace H := bs_ H; obtain ⟨a2, G0, H⟩ := H; (try dsimp only at H); have H' := Aside0.mk H; clear H
    go_wp2_with (first | ((with_reducible refine gate_callee (f := 70) rfl ?_); refine gl_ 17 Try.func70 #[.slice A0 l0.length c0] ?_; (with_reducible refine (impl_copied_impl_Box.calls _ _ l0 a2 _ ?_ ?_ G0.out).mono ?_); exact zq69_; exact X0.out; rintro e r0 ⟨S1, rfl, D0, hb⟩; refine ⟨_, rfl, ?_⟩; have n_ := A3_ (Kd.R_lower D0 (below_size zq58_)) (blk_below (g := c3) (o := .cells #[.slice O0 g0.length I0, .slice O1 g1.length I1, .int .i64 h0, .int .i64 h1] 30 (0, 0)) zq1c_ hb) (below_step zq58_ hb); clear b0 HB; obtain ⟨f2, b0, HB⟩ := n_; (try clear hb); (try clear D0); obtain ⟨k5, k6, k7, k8, l5, l6, l7, l8⟩ := bz4_ b0.out))
    go_loopg [21] kj2 (fun kq S2 w' => ∃ (e1 : List (S46)) (e2 : Int), S2 = .int .i64 e2 ∧ Aside0 (impl_ExecDo.l0 kq e1 g1 (g1.length : Int) e2 = some r) ∧ Aside0 (kq ≤ kj2) ∧ Aside0 (Kd.R k46 46 w' w.heap.size (fun _ => True) S1 e1) ∧ Aside0 (w'.heap[c3]? = some (.cells #[(.slice O0 g0.length I0), (.slice O1 g1.length I1), .int .i64 h0, .int .i64 h1] 30 (0, 0))) ∧ Aside0 (Below w.heap.size w w'))
    case atStart => exact ⟨(a2), (0), zq46_, H', ⟨Nat.le_refl _⟩, ⟨zq13_⟩, ⟨zq1c_⟩, ⟨zq58_⟩⟩
    case round =>
     clear H'
     try clear c1
     try clear c2
     try clear p2
     try clear c6
     try clear c7
     try clear c12
     try clear k5 k6 k7 k8 l5 l6 l7 l8
     try clear k0 k1 k3 k4 l1 l2 l3 l4
     try clear p2
     obtain ⟨e1, e2, rfl, HA, Z0, q0, b0, HB⟩ := hrel
     cases gk with
     | zero => exact absurd HA.out (by simp [impl_ExecDo.l0])
     | succ k2 =>
      have H := HA.out; clear HA; simp only [impl_ExecDo.l0] at H; replace H := ifc_ H
      rcases H with ⟨c16b0, H⟩ | ⟨c16b0, H⟩
      ·replace H := ifd4_ H; obtain ⟨u0, u1, u2, u3, H⟩ := H; obtain ⟨aG0, aX0⟩ : ∃ j_ : Int, (mn 1000000 (wrap64 (((rd_T46 e1 ((rd_T36 g1 e2).f0)).f0) + 1))) = j_ := ⟨_, rfl⟩; replace H : (impl_ExecDo.l0 k2 (e1.set (((rd_T36 g1 e2).f0) : Int).toNat (⟨aG0, (rd_T36 g1 e2).f1⟩ : S46)) g1 (g1.length : Int) (wrap64 (e2 + 1))) = some r := by first | (rw [aX0] at H; exact H) | (simp only [aX0] at H ⊢; exact H)
       have ch0 : (if (wrap64 (((rd_T46 e1 ((rd_T36 g1 e2).f0)).f0) + 1)) < 1000000 then (wrap64 (((rd_T46 e1 ((rd_T36 g1 e2).f0)).f0) + 1)) else 1000000) = aG0 := aX0; obtain ⟨N0, K0⟩ : ∃ y_ : List (S46), y_ = (e1.set (((rd_T36 g1 e2).f0) : Int).toNat (⟨aG0, (rd_T36 g1 e2).f1⟩ : S46)) := ⟨_, rfl⟩; replace H : (impl_ExecDo.l0 k2 N0 g1 (g1.length : Int) (wrap64 (e2 + 1))) = some r := by first | (rw [K0]; with_reducible exact H) | (have Q0 := (Option.bind_some _ _).symm.trans H; rw [K0]; with_reducible exact Q0) | (have Q0 := (Option.bind_some _ _).symm.trans H; with_reducible exact Q0) | with_reducible exact H | (rw [K0]; exact H) | exact H
       have aa0 := Aside0.mk K0; clear K0; have H' := Aside0.mk H; clear H; have t0 : 0 ≤ (e2 : Int) := of_decide_eq_true zq41_; have s0 : e2 < (g1.length : Int) := of_decide_eq_true zq41_; obtain ⟨v0, M0, n0, n1⟩ := at_T36 af1.out e2 t0 s0; cases M0; replace n0 := pb_ HB.out n0; replace n1 := pb_ HB.out n1; replace t0 := eq_true t0; replace s0 := eq_true s0
       try go_wp2_with (first | ((with_reducible refine gate_dst (N := 7) rfl ?_); refine bxe_ (N := 7) (cs := #[.int .i64 0, .int .i64 0]) (t := 36) ?_; intro c4 hg r1 H_ hb; have n_ := A8_ (Kd.R_below zq18_ hb) (blk_below (g := c3) (o := .cells #[.slice O0 g0.length I0, .slice (some v0) g1.length I1, .int .i64 h0, .int .i64 h1] 30 (0, 0)) zq1c_ hb) (below_step zq58_ hb) (H_) ((zq94_ : w.heap.size ≤ c4)) ((zq94_ : w.heap.size ≤ c4)) ((by rw [hg]; exact Nat.ne_of_lt (blk_lt (g := c3) (o := .cells #[.slice O0 g0.length I0, .slice (some v0) g1.length I1, .int .i64 h0, .int .i64 h1] 30 (0, 0)) zq1c_) : c3 ≠ c4)) ((by rw [hg]; exact Nat.ne_of_gt (blk_lt (g := c3) (o := .cells #[.slice O0 g0.length I0, .slice (some v0) g1.length I1, .int .i64 h0, .int .i64 h1] 30 (0, 0)) zq1c_) : c4 ≠ c3)); clear q0 b0 HB; obtain ⟨q0, b0, HB, b1, y1, p1, i0, i1⟩ := n_; clear hb H_ hg; have T0 := i1.out; have U0 := i0.out; obtain ⟨k9, k10, l9, l10⟩ := bz2_ b1.out))
       have d0 : Aside0 (Kd.R k46 46 ((r1.setCell ⟨c4, 0, none⟩ (.int .i64 ((rd_T36 g1 e2).f0))).setCell ⟨c4, 1, none⟩ (.int .i64 ((rd_T36 g1 e2).f1))) w.heap.size (fun _ => True) S1 e1) := ⟨by (with_reducible repeat (first | apply Kd.R_alloc | apply Kd.R_drewN | apply Kd.R_drew)); exact Kd.R_mono (Kd.R_far (p := ⟨c4, 1, none⟩) (Kd.R_far (p := ⟨c4, 0, none⟩) (Kd.R_types q0.out b1.out (by decide)) (fun _ hk => hk.2) (.int .i64 ((rd_T36 g1 e2).f0))) (fun _ hk => hk.2) (.int .i64 ((rd_T36 g1 e2).f1))) (fun _ hk => trivial)⟩; have d1 : Aside0 (((r1.setCell ⟨c4, 0, none⟩ (.int .i64 ((rd_T36 g1 e2).f0))).setCell ⟨c4, 1, none⟩ (.int .i64 ((rd_T36 g1 e2).f1))).heap[c3]? = some (.cells #[.slice O0 g0.length I0, .slice (some v0) g1.length I1, .int .i64 h0, .int .i64 h1] 30 (0, 0))) := ⟨zq22_⟩; have d2 : Aside0 (((r1.setCell ⟨c4, 0, none⟩ (.int .i64 ((rd_T36 g1 e2).f0))).setCell ⟨c4, 1, none⟩ (.int .i64 ((rd_T36 g1 e2).f1))).heap[c4]? = some (.cells #[.int .i64 ((rd_T36 g1 e2).f0), .int .i64 ((rd_T36 g1 e2).f1)] 36 (0, 0))) := ⟨by (with_reducible repeat (first | refine blk_drewN ?_ _ | refine blk_drew ?_ | refine blk_alloc ?_ _)); refine blk_put (cs := #[.int .i64 ((rd_T36 g1 e2).f0), .int .i64 0]) ?_ 1 _ rfl; (with_reducible repeat (first | refine blk_drewN ?_ _ | refine blk_drew ?_ | refine blk_alloc ?_ _)); refine blk_put (cs := #[.int .i64 0, .int .i64 0]) ?_ 0 _ rfl; (with_reducible repeat (first | refine blk_drewN ?_ _ | refine blk_drew ?_ | refine blk_alloc ?_ _)); exact b1.out⟩; have d3 : Aside0 (Below w.heap.size w ((r1.setCell ⟨c4, 0, none⟩ (.int .i64 ((rd_T36 g1 e2).f0))).setCell ⟨c4, 1, none⟩ (.int .i64 ((rd_T36 g1 e2).f1)))) := ⟨zq54_⟩; (try clear q0); (try clear b0); (try clear b1); (try clear HB); generalize ((r1.setCell ⟨c4, 0, none⟩ (.int .i64 ((rd_T36 g1 e2).f0))).setCell ⟨c4, 1, none⟩ (.int .i64 ((rd_T36 g1 e2).f1))) = r2 at d0 d1 d2 d3 ⊢; have q0 := d0; have b0 := d1; have b1 := d2; have HB := d3; clear d0 d1 d2 d3; have n_ := A4_ (Kd.R_drew q0.out) (blk_drew b0.out) (blk_drew b1.out) (below_drew1 HB.out); clear q0 b0 b1 HB; obtain ⟨q0, b0, b1, HB⟩ := n_; obtain ⟨o0, m0, E0⟩ := Kd.R_slice q0.out; (first | subst E0 | (injection E0 with P0 P1 P2; have P3 := P0.symm; have P4 := P2.symm; clear P0 P1 P2; subst P3; subst P4)); have t1 : 0 ≤ (((rd_T36 g1 e2).f0) : Int) := of_decide_eq_true zq41_; have s1 : ((rd_T36 g1 e2).f0) < (e1.length : Int) := of_decide_eq_true zq41_; obtain ⟨v1, M1, n2, n3⟩ := at_T46 (Kd.R_reads' q0.out).2.2 ((rd_T36 g1 e2).f0) t1 s1; cases M1; replace t1 := eq_true t1; replace s1 := eq_true s1; have t2 : 0 ≤ (((rd_T36 g1 e2).f0) : Int) := of_decide_eq_true zq41_; have s2 : (((rd_T36 g1 e2).f0) : Int) < ((e1.length : Int) : Int) := of_decide_eq_true zq41_; obtain ⟨R0, m1, E1, c5, aM0, be0, ax0⟩ := Kd.R_form q0.out (by omega); (first | cases E1 | (injection E1 with ai aN aO; (first | subst ai | (injection ai with ai; subst ai)); subst aO; clear aN)); have aH0 := Aside0.mk c5; have aS0 := Aside0.mk ax0; clear c5 aM0 ax0; (first | simp only [add_plain] at n2 | skip); (first | simp only [add_plain] at n3 | skip); obtain ⟨aY0, am0, aj0, ae0, ag0⟩ := Kd.R_elem q0.out z46 (((rd_T36 g1 e2).f0) : Int) t2 s2; obtain rfl := k46_openM aj0; have n4 : World.cell? _ ⟨R0, (((rd_T36 g1 e2).f0) : Int).toNat * 2, none⟩ = some (.int .i64 ((rd_T46 e1 ((rd_T36 g1 e2).f0)).f0)) := ae0 0 _ rfl; have n5 : World.cell? _ ⟨R0, (((rd_T36 g1 e2).f0) : Int).toNat * 2 + 1, none⟩ = some (.int .i64 ((rd_T46 e1 ((rd_T36 g1 e2).f0)).f1)) := ae0 1 _ rfl; have al0 : World.frozen? _ ⟨R0, (((rd_T36 g1 e2).f0) : Int).toNat * 2, none⟩ = false := ag0 0; have al1 : World.frozen? _ ⟨R0, (((rd_T36 g1 e2).f0) : Int).toNat * 2 + 1, none⟩ = false := ag0 1; clear am0 ae0 ag0 aj0; replace t2 := eq_true t2; replace s2 := eq_true s2; obtain ⟨aY1, am1, aj1, ae1, ag1⟩ := Kd.R_elem q0.out z46 (((rd_T36 g1 e2).f0) : Int) (of_decide_eq_true zq41_) zq86_; obtain rfl := k46_openM aj1
       have ak0 := (Kd.R_seg q0.out (((rd_T36 g1 e2).f0) : Int) (of_decide_eq_true zq41_) zq86_ (seg := [.int .i64 aG0, .int .i64 ((rd_T36 g1 e2).f1)]) (j := 0) am1 ae1 (show 2 ≤ 2 from by decide) (x' := (⟨aG0, (rd_T36 g1 e2).f1⟩ : S46)) (k46_mkM _ _ _ (⟨aG0, (rd_T36 g1 e2).f1⟩ : S46) ) (fun _ hk => hk)).1; rw [← aa0.out] at ak0; have bi0 := Aside0.mk ak0; clear am1 ae1 ag1 aj1 ak0; refine start_ (n := 16) (S := fun w' => w'.cell? ⟨c4, 0, none⟩ = some (.int .i64 ((rd_T36 g1 e2).f0)) ∧ w'.cell? ⟨c4, 1, none⟩ = some (.int .i64 ((rd_T36 g1 e2).f1)) ∧ w'.cell? ⟨R0, ((((rd_T36 g1 e2).f0)).toNat * 2), none⟩ = some (.int .i64 ((rd_T46 e1 ((rd_T36 g1 e2).f0)).f0)) ∧ w'.cell? ⟨R0, ((((rd_T36 g1 e2).f0)).toNat * 2) + 1, none⟩ = some (.int .i64 ((rd_T46 e1 ((rd_T36 g1 e2).f0)).f1))) (ds := [15]) #[false, false, false, false, false, false, false, false, false, false, false, false, false, false, false, false] (by kernel_rfl) rfl rfl ⟨(blk_cell b1.out 0).trans rfl, (blk_cell b1.out 1).trans rfl, n2, n3⟩ (fun hHeld => ?_); refine with_tabW impl_ExecDo.tab7 impl_ExecDo.bits7 (fun HT_ HW_ => ?_); generalize r2.drew = r3 at q0 b0 b1 HB aS0 bi0 al0 al1 n4 n5 n2 n3 hHeld ⊢; refine pw_ 0 25 ?_; refine pw_ 1 26 ?_; refine pw_ 3 28 ?_; refine pw_ 4 29 ?_; refine pw_ 11 36 ?_; refine tw_ 2 27 ?_; refine tw_ 5 30 ?_; refine pw_ 6 31 ?_; refine pw_ 7 32 ?_; refine tw_ 8 33 ?_; refine pw_ 9 34 ?_; refine pw_ 10 35 ?_; refine tw_ 12 37 ?_; refine pw_ 13 38 ?_; refine pw_ 14 39 ?_; refine last_ (i := 15) (N := none) #[true, true, true, true, true, true, true, true, true, true, true, true, true, true, true, true] rfl rfl (one_of HT_.out (by kernel_rfl)) (by decide) (fun K hK => ?_); refine skip_ (w1 := ?_) (by rfl) rfl ?_ ?_
       rotate_left
       ·go_simp
        rfl
       refine hK.out _ _ ?_; clear hK K; refine done_ (done_of HT_.out (by kernel_rfl)) ?_
       try go_wp2
       go_roundg k2
       case measure => have := av0.out; have := Z0.out; omega
       case rel => exact ⟨(N0), (wrap64 (e2 + 1)), zq46_, H', ⟨zq4a_⟩, ⟨zq10_⟩, ⟨zq7f_⟩, ⟨by repeat (first | (with_reducible first | exact HB.out | apply below_alloc | apply pw_below_drewN | apply below_drew1 | refine below_set ?_ aH0.out | refine below_set ?_ aH0.out | refine below_set ?_ p0.out | refine below_set ?_ p1.out) | exact HB.out)⟩⟩
      ·obtain rfl := Option.some.inj H
       go_wp2
       go_ret
       exact ⟨_, zq45_, zq18_, zq58_⟩

/-! ### impl_same_impl_Box: function 71 -/
def impl_same_impl_Box.l0 : Nat → List (S46) → List (S46) → Int → Int → Option (Bool)
 | 0, _, _, _, _ => none
 | k + 1, x0, x1, x12, x13 => if x13 < x12 then (if 0 ≤ x13 then (if x13 < (x0.length : Int) then (if x13 < (x1.length : Int) then (if (!(((rd_T46 x0 x13).f0) == ((rd_T46 x1 x13).f0)) || (!(((rd_T46 x0 x13).f1) == ((rd_T46 x1 x13).f1)))) = true then (some false) else (impl_same_impl_Box.l0 k x0 x1 x12 (wrap64 (x13 + 1)))) else (none)) else (none)) else (none)) else (some true)
def impl_same_impl_Box.f (k : Nat) (l0 : List (S46)) (l1 : List (S46)) : Option (Bool) := if (l0.length : Int) = (l1.length : Int) then (impl_same_impl_Box.l0 k l0 l1 (l0.length : Int) 0) else (some false)
theorem impl_same_impl_Box.mono_l : ∀ k, (∀ y0 y1 y2 y3, LeO (impl_same_impl_Box.l0 k y0 y1 y2 y3) (impl_same_impl_Box.l0 (k + 1) y0 y1 y2 y3))
 | 0 => fun _ _ _ _ r h => by simp [impl_same_impl_Box.l0] at h
 | k + 1 => by
  have J0 := impl_same_impl_Box.mono_l k
  ·intro y0 y1 y2 y3
   unfold impl_same_impl_Box.l0
   repeat' first
   | (with_reducible exact J0 _ _ _ _)
   | (with_reducible exact LeO.refl _)
   | (with_reducible exact LeO.none _)
   | (with_reducible refine LeO.ite ?_ ?_)
   | (with_reducible refine LeO.bind ?_ (fun _ => ?_))
   | exact J0 _ _ _ _
   | exact LeO.none _
   | refine LeO.ite ?_ ?_
   | refine LeO.bind ?_ (fun _ => ?_)
theorem impl_same_impl_Box.mono : ∀ a0 a1 k, LeO (impl_same_impl_Box.f k a0 a1) (impl_same_impl_Box.f (k + 1) a0 a1) := by
 intro a0 a1 k
 have J0 := impl_same_impl_Box.mono_l k
 unfold impl_same_impl_Box.f
 repeat' first
   | (with_reducible exact J0 _ _ _ _)
   | (with_reducible exact LeO.refl _)
   | (with_reducible exact LeO.none _)
   | (with_reducible refine LeO.ite ?_ ?_)
   | (with_reducible refine LeO.bind ?_ (fun _ => ?_))
   | exact J0 _ _ _ _
   | exact LeO.none _
   | refine LeO.ite ?_ ?_
   | refine LeO.bind ?_ (fun _ => ?_)
set_option maxHeartbeats 8000000 in
set_option maxRecDepth 100000 in
theorem impl_same_impl_Box.calls (k : Nat) (A0 : Option Addr) (c0 : Nat) (l0 : List (S46)) (A1 : Option Addr) (c1 : Nat) (l1 : List (S46)) (r : Bool) (w : World) (Y0 : Kd.C k46 w A0 l0.length l0) (ad0 : l0.length ≤ c0) (Y1 : Kd.C k46 w A1 l1.length l1) (ad1 : l1.length ≤ c1) (h : impl_same_impl_Box.f k l0 l1 = some r) :
  Calls Try.prog 71 #[.slice A0 l0.length c0, .slice A1 l1.length c1] w fun e w' => e = .returned (.bool r) ∧ Drawn0 w w' := by
 have aB0 := Try.underlying46; have V0 := Aside0.mk Y0; have X0 := Aside0.mk ad0; clear Y0 ad0; have V1 := Aside0.mk Y1; have X1 := Aside0.mk ad1; clear Y1 ad1; have H : (if (l0.length : Int) = (l1.length : Int) then (impl_same_impl_Box.l0 k l0 l1 (l0.length : Int) 0) else (some false)) = some r := h; clear h; by_cases c3 : (l0.length : Int) = (l1.length : Int)
 ·rw [if_pos c3] at H; have u0 : ((l0.length : Int) == (l1.length : Int)) = true := beq_iff_eq.mpr c3; have u1 : ((l0.length : Int) != (l1.length : Int)) = false := bne_eq_false_iff_eq.mpr c3; have u2 : (l0.length == l1.length) = true := by first | simpa using c3 | (simp at c3 ⊢; omega)
  clear c3; have H' := Aside0.mk H; clear H
  go_enter Try.func71, Try.ntmps71
  go_wp2
  repeat (go_quiet (fail); try go_wp2)
  go_loopg [13] k (fun kq S0 w' => ∃ (e0 : Int), S0 = .int .i64 e0 ∧ Aside0 (impl_same_impl_Box.l0 kq l0 l1 (l0.length : Int) e0 = some r) ∧ Aside0 (kq ≤ k) ∧ Drawn0 w w')
  case atStart => exact ⟨(0), zq46_, H', ⟨Nat.le_refl _⟩, zq79_⟩
  case round =>
   clear H'
   try clear c1
   try clear p2
   try clear c3
   try clear u0
   try clear u1
   try clear u2
   obtain ⟨e0, rfl, HA, Z0, ⟨m1, rfl⟩⟩ := hrel
   cases gk with
   | zero => exact absurd HA.out (by simp [impl_same_impl_Box.l0])
   | succ k1 =>
    have H := HA.out; clear HA; simp only [impl_same_impl_Box.l0] at H; replace H := ifc_ H
    rcases H with ⟨c4b0, H⟩ | ⟨c4b0, H⟩
    ·replace H := ifd3_ H; obtain ⟨u3, u4, u5, H⟩ := H; by_cases c8 : (!(((rd_T46 l0 e0).f0) == ((rd_T46 l1 e0).f0)) || (!(((rd_T46 l0 e0).f1) == ((rd_T46 l1 e0).f1)))) = true
     ·rw [if_pos c8] at H; have u6 : (!(((rd_T46 l0 e0).f0) == ((rd_T46 l1 e0).f0)) || (!(((rd_T46 l0 e0).f1) == ((rd_T46 l1 e0).f1)))) = true := c8; clear c8; obtain rfl := Option.some.inj H; have t0 : 0 ≤ (e0 : Int) := of_decide_eq_true zq41_; have s0 : e0 < (l0.length : Int) := of_decide_eq_true zq41_; obtain ⟨v0, M0, n0, n1⟩ := at_T46 V0.out e0 t0 s0; cases M0; replace t0 := eq_true t0; replace s0 := eq_true s0; have t1 : 0 ≤ (e0 : Int) := of_decide_eq_true zq41_; have s1 : e0 < (l1.length : Int) := of_decide_eq_true zq41_; obtain ⟨v1, M1, n2, n3⟩ := at_T46 V1.out e0 t1 s1; cases M1; replace t1 := eq_true t1; replace s1 := eq_true s1
      go_wp2
      repeat (go_quiet (fail); try go_wp2)
      go_ret
      exact ⟨zq46_, zq79_⟩
     ·rw [if_neg c8] at H; have u6 : (!(((rd_T46 l0 e0).f0) == ((rd_T46 l1 e0).f0)) || (!(((rd_T46 l0 e0).f1) == ((rd_T46 l1 e0).f1)))) = false := by simpa using c8
      clear c8; have H' := Aside0.mk H; clear H; have t0 : 0 ≤ (e0 : Int) := of_decide_eq_true zq41_; have s0 : e0 < (l0.length : Int) := of_decide_eq_true zq41_; obtain ⟨v0, M0, n0, n1⟩ := at_T46 V0.out e0 t0 s0; cases M0; replace t0 := eq_true t0; replace s0 := eq_true s0; have t1 : 0 ≤ (e0 : Int) := of_decide_eq_true zq41_; have s1 : e0 < (l1.length : Int) := of_decide_eq_true zq41_; obtain ⟨v1, M1, n2, n3⟩ := at_T46 V1.out e0 t1 s1; cases M1; replace t1 := eq_true t1; replace s1 := eq_true s1
      go_wp2
      repeat (go_quiet (fail); try go_wp2)
      go_roundg k1
      case measure => have := Z0.out; omega
      case rel => exact ⟨(wrap64 (e0 + 1)), zq46_, H', ⟨by have := Z0.out; omega⟩, zq79_⟩
    ·obtain rfl := Option.some.inj H
     go_wp2
     repeat (go_quiet (fail); try go_wp2)
     go_ret
     exact ⟨zq46_, zq79_⟩
 ·rw [if_neg c3] at H; have u0 : ((l0.length : Int) == (l1.length : Int)) = false := beq_eq_false_iff_ne.mpr c3; have u1 : ((l0.length : Int) != (l1.length : Int)) = true := bne_iff_ne.mpr c3; have u2 : (l0.length == l1.length) = false := by first | simpa using c3 | (simp at c3 ⊢; omega)
  obtain rfl := Option.some.inj H
  go_enter Try.func71, Try.ntmps71
  go_wp2
  repeat (go_quiet (fail); try go_wp2)
  go_ret
  exact ⟨zq46_, zq79_⟩

/-! ### impl_BoxSame: function 18 -/
def impl_BoxSame.f (k : Nat) (l0 : List (S46)) (l1 : List (S46)) : Option (Bool) := (impl_same_impl_Box.f k l0 l1).bind fun t393 => (some t393)
theorem impl_BoxSame.mono : ∀ a0 a1 k, LeO (impl_BoxSame.f k a0 a1) (impl_BoxSame.f (k + 1) a0 a1) := by
 intro a0 a1 k
 unfold impl_BoxSame.f
 repeat' first
   | (with_reducible exact impl_same_impl_Box.mono _ _ _)
   | (with_reducible exact LeO.refl _)
   | (with_reducible exact LeO.none _)
   | (with_reducible refine LeO.ite ?_ ?_)
   | (with_reducible refine LeO.bind ?_ (fun _ => ?_))
   | exact impl_same_impl_Box.mono _ _ _
   | exact LeO.none _
   | refine LeO.ite ?_ ?_
   | refine LeO.bind ?_ (fun _ => ?_)
set_option maxHeartbeats 8000000 in
set_option maxRecDepth 100000 in
theorem impl_BoxSame.calls (k : Nat) (A0 : Option Addr) (c0 : Nat) (l0 : List (S46)) (A1 : Option Addr) (c1 : Nat) (l1 : List (S46)) (r : Bool) (w : World) (Y0 : Kd.C k46 w A0 l0.length l0) (ad0 : l0.length ≤ c0) (Y1 : Kd.C k46 w A1 l1.length l1) (ad1 : l1.length ≤ c1) (h : impl_BoxSame.f k l0 l1 = some r) :
  Calls Try.prog 18 #[.slice A0 l0.length c0, .slice A1 l1.length c1] w fun e w' => e = .returned (.bool r) ∧ Drawn0 w w' := by
 have V0 := Aside0.mk Y0; have X0 := Aside0.mk ad0; clear Y0 ad0; have V1 := Aside0.mk Y1; have X1 := Aside0.mk ad1; clear Y1 ad1; have H : ((impl_same_impl_Box.f k l0 l1).bind fun a0 => (some a0)) = some r := h; clear h; replace H := bs_ H; obtain ⟨a0, A3, H⟩ := H; (try dsimp only at H); obtain rfl := Option.some.inj H
 go_enter Try.func18, Try.ntmps18
 go_wp2_with (first | ((with_reducible refine gate_callee (f := 71) rfl ?_); refine gl_ 7 Try.func71 #[.slice A0 l0.length c0, .slice A1 l1.length c1] ?_; (with_reducible refine (impl_same_impl_Box.calls k _ _ l0 _ _ l1 a0 _ ?side1 ?side2 ?side3 ?side4 A3.out).mono ?_); (case side1 => exact zq7c_); (case side2 => exact X0.out); (case side3 => repeat (first | exact V1.out | (with_reducible refine Kd.C_alloc ?_ _) | (with_reducible refine Kd.C_drewN ?_ _) | (with_reducible refine Kd.C_drew ?_))); (case side4 => exact X1.out); rintro e w' ⟨rfl, ⟨nd, rfl⟩⟩; refine ⟨_, rfl, ?_⟩))
 go_ret
 exact ⟨zq46_, zq79_⟩

end Go.Proofs.Ytgdafcakefnpdaa.PFnExecDo
