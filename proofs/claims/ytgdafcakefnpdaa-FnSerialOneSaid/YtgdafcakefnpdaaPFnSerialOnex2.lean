-- Laid by this session's program out of the translation (gen.sh).
import Derived.Test.YtgdafcakefnpdaaPFnSerialOnex0
namespace Go.Proofs.Ytgdafcakefnpdaa.PFnSerialOne
open Go.RowKit Go.Proofs.YtgdafcakefnpdaaW.PrintWords Go.Proofs.YtgdafcakefnpdaaW.PrintLast Go.Proofs.YtgdafcakefnpdaaW.PrintMore
attribute [local go_sem] max2_int min2_int max_two min_two max_three min_three max_four min_four   -- for this text's walks alone
set_option linter.unusedVariables false
set_option linter.unusedSimpArgs false

/-! ### impl_in: function 64 -/
def impl_in.f (a0 : Int) (a1 : Int) (a2 : Int) : Option (Bool) := if a0 ≥ a1 then (some (decide (a0 ≤ a2))) else (some false)
set_option maxHeartbeats 8000000 in
set_option maxRecDepth 100000 in
theorem impl_in.calls (a0 : Int) (a1 : Int) (a2 : Int) (r : Bool) (w : World) (h : impl_in.f a0 a1 a2 = some r) :
  Calls Try.prog 64 #[.int .i64 a0, .int .i64 a1, .int .i64 a2] w fun e w' => e = .returned (.bool r) ∧ Drawn0 w w' := by
 have H : (if a0 ≥ a1 then (some (decide (a0 ≤ a2))) else (some false)) = some r := h; clear h; replace H := ifc_ H
 rcases H with ⟨c4b0, H⟩ | ⟨c4b0, H⟩
 ·change decide (a1 ≤ a0) = true at c4b0; obtain rfl := Option.some.inj H
  go_enter Try.func64, Try.ntmps64
  go_wp2
  go_ret
  exact ⟨zq69_, zq8e_⟩
 ·change decide (a1 ≤ a0) = false at c4b0; obtain rfl := Option.some.inj H
  go_enter Try.func64, Try.ntmps64
  go_wp2
  go_ret
  exact ⟨zq69_, zq8e_⟩

/-! ### impl_BoxOk: function 25 -/
def impl_BoxOk.l0 : Nat → List (S46) → List (S46) → Int → Int → Option (Bool)
 | 0, _, _, _, _ => none
 | k + 1, x0, x5, x6, x7 => if x7 < x6 then (if 0 ≤ x7 then (if x7 < (x5.length : Int) then ((impl_in.f ((rd_T46 x5 x7).f0) 0 1000000).bind fun t103 => (if t103 = true then ((impl_in.f ((rd_T46 x5 x7).f1) (-1000000) 1000000).bind fun t104 => (if t104 = true then (impl_BoxOk.l0 k x0 x5 x6 (wrap64 (x7 + 1))) else (some false))) else (some false))) else (none)) else (none)) else (some ((x0.length : Int) == 4))
def impl_BoxOk.f (k : Nat) (l0 : List (S46)) : Option (Bool) := impl_BoxOk.l0 k l0 l0 (l0.length : Int) 0
theorem impl_BoxOk.mono_l : ∀ k, (∀ y0 y1 y2 y3, LeO (impl_BoxOk.l0 k y0 y1 y2 y3) (impl_BoxOk.l0 (k + 1) y0 y1 y2 y3))
 | 0 => fun _ _ _ _ r h => by simp [impl_BoxOk.l0] at h
 | k + 1 => by
  have G0 := impl_BoxOk.mono_l k
  ·intro y0 y1 y2 y3
   unfold impl_BoxOk.l0
   repeat' first
   | (with_reducible exact G0 _ _ _ _)
   | (with_reducible exact LeO.refl _)
   | (with_reducible exact LeO.none _)
   | (with_reducible refine LeO.ite ?_ ?_)
   | (with_reducible refine LeO.bind ?_ (fun _ => ?_))
   | exact G0 _ _ _ _
   | exact LeO.none _
   | refine LeO.ite ?_ ?_
   | refine LeO.bind ?_ (fun _ => ?_)
theorem impl_BoxOk.mono : ∀ a0 k, LeO (impl_BoxOk.f k a0) (impl_BoxOk.f (k + 1) a0) := by
 intro a0 k
 have G0 := impl_BoxOk.mono_l k
 unfold impl_BoxOk.f
 repeat' first
   | (with_reducible exact G0 _ _ _ _)
   | (with_reducible exact LeO.refl _)
   | (with_reducible exact LeO.none _)
   | (with_reducible refine LeO.ite ?_ ?_)
   | (with_reducible refine LeO.bind ?_ (fun _ => ?_))
   | exact G0 _ _ _ _
   | exact LeO.none _
   | refine LeO.ite ?_ ?_
   | refine LeO.bind ?_ (fun _ => ?_)
set_option maxHeartbeats 8000000 in
set_option maxRecDepth 100000 in
theorem impl_BoxOk.calls (k : Nat) (A0 : Option Addr) (c0 : Nat) (l0 : List (S46)) (r : Bool) (w : World) (V0 : Kd.C k46 w A0 l0.length l0) (Z0 : l0.length ≤ c0) (h : impl_BoxOk.f k l0 = some r) :
  Calls Try.prog 25 #[.slice A0 l0.length c0] w fun e w' => e = .returned (.bool r) ∧ Below w.heap.size w w' := by
 have aq0 := Try.underlying46; have U0 := Aside0.mk V0; have aa0 := Aside0.mk Z0; clear V0 Z0; have HB := Aside0.mk (Below.refl w.heap.size w); have H : (impl_BoxOk.l0 k l0 l0 (l0.length : Int) 0) = some r := h; clear h; have H' := Aside0.mk H; clear H
 go_enter Try.func25, Try.ntmps25
 go_wp2
 go_loopg [7] k (fun kq v7 w' => ∃ (a0 : Int), v7 = .int .i64 a0 ∧ Aside0 (impl_BoxOk.l0 kq l0 l0 (l0.length : Int) a0 = some r) ∧ Aside0 (kq ≤ k) ∧ Aside0 (Below w.heap.size w w'))
 case atStart => exact ⟨(0), zq69_, H', ⟨Nat.le_refl _⟩, ⟨zq74_⟩⟩
 case round =>
  clear H'; obtain ⟨a0, rfl, HA, X0, HB⟩ := hrel
  cases gk with
  | zero => exact absurd HA.out (by simp [impl_BoxOk.l0])
  | succ k1 =>
   have H := HA.out; clear HA; simp only [impl_BoxOk.l0] at H; replace H := ifc_ H
   rcases H with ⟨c2b0, H⟩ | ⟨c2b0, H⟩
   ·replace H := ifd2_ H; obtain ⟨r0, r1, H⟩ := H; replace H := bs_ H; obtain ⟨e0, A5, H⟩ := H; (try dsimp only at H); replace H := ifB_ H
    rcases H with ⟨rfl, H⟩ | ⟨rfl, H⟩
    ·replace H := bs_ H; obtain ⟨e1, A7, H⟩ := H; (try dsimp only at H); replace H := ifB_ H
     rcases H with ⟨rfl, H⟩ | ⟨rfl, H⟩
     ·have H' := Aside0.mk H; clear H; have x0 : 0 ≤ (a0 : Int) := of_decide_eq_true zq64_; have v0 : a0 < (l0.length : Int) := of_decide_eq_true zq64_; obtain ⟨E0, M0, s0, s1⟩ := at_T46 U0.out a0 x0 v0; cases M0; replace s0 := pb_ HB.out s0; replace s1 := pb_ HB.out s1; replace x0 := eq_true x0; replace v0 := eq_true v0
      go_wp2_with (first | ((with_reducible refine gate_dst (N := 4) rfl ?_); refine bxe_ (N := 4) (cs := #[.int .i64 0, .int .i64 0]) (t := 46) ?_; intro d0 hg w9 C_ hb; have n_ := A4_ (below_step zq74_ hb) (C_) ((zqa9_ : w.heap.size ≤ d0)) ((zqa9_ : w.heap.size ≤ d0)); clear HB; obtain ⟨HB, c1, B0, n0⟩ := n_; clear hb C_ hg; obtain ⟨j0, j1, k0, k2⟩ := bz2_ c1.out) | ((with_reducible refine gate_callee (f := 64) rfl ?_); refine gl_ 13 Try.func64 #[.int .i64 ((rd_T46 l0 a0).f0), .int .i64 0, .int .i64 1000000] ?_; (with_reducible refine (impl_in.calls ((rd_T46 l0 a0).f0) 0 1000000 true _ A5.out).mono ?_); rintro e w' ⟨rfl, ⟨nd, rfl⟩⟩; refine ⟨_, rfl, ?_⟩) | (go_at_call 64; (with_reducible refine (impl_in.calls ((rd_T46 l0 a0).f1) (-1000000) 1000000 true _ A7.out).mono ?_); rintro e w' ⟨rfl, ⟨nd, rfl⟩⟩; (try clear A7)))
      go_roundg k1
      case measure => have := X0.out; omega
      case rel => exact ⟨(wrap64 (a0 + 1)), zq69_, H', ⟨by have := X0.out; omega⟩, ⟨zq73_⟩⟩
     ·obtain rfl := Option.some.inj H; have x0 : 0 ≤ (a0 : Int) := of_decide_eq_true zq64_; have v0 : a0 < (l0.length : Int) := of_decide_eq_true zq64_; obtain ⟨E0, M0, s0, s1⟩ := at_T46 U0.out a0 x0 v0; cases M0; replace s0 := pb_ HB.out s0; replace s1 := pb_ HB.out s1; replace x0 := eq_true x0; replace v0 := eq_true v0
      go_wp2_with (first | ((with_reducible refine gate_dst (N := 4) rfl ?_); refine bxe_ (N := 4) (cs := #[.int .i64 0, .int .i64 0]) (t := 46) ?_; intro d0 hg q0 C_ hb; have n_ := A4_ (below_step zq74_ hb) (C_) ((zqa9_ : w.heap.size ≤ d0)) ((zqa9_ : w.heap.size ≤ d0)); clear HB; obtain ⟨HB, c1, B0, n0⟩ := n_; clear hb C_ hg; obtain ⟨j0, j1, k0, k2⟩ := bz2_ c1.out) | ((with_reducible refine gate_callee (f := 64) rfl ?_); refine gl_ 13 Try.func64 #[.int .i64 ((rd_T46 l0 a0).f0), .int .i64 0, .int .i64 1000000] ?_; (with_reducible refine (impl_in.calls ((rd_T46 l0 a0).f0) 0 1000000 true _ A5.out).mono ?_); rintro e w' ⟨rfl, ⟨nd, rfl⟩⟩; refine ⟨_, rfl, ?_⟩) | (go_at_call 64; (with_reducible refine (impl_in.calls ((rd_T46 l0 a0).f1) (-1000000) 1000000 false _ A7.out).mono ?_); rintro e w' ⟨rfl, ⟨nd, rfl⟩⟩; (try clear A7)))
      go_ret
      exact ⟨zq68_, zq73_⟩
    ·obtain rfl := Option.some.inj H; have x0 : 0 ≤ (a0 : Int) := of_decide_eq_true zq64_; have v0 : a0 < (l0.length : Int) := of_decide_eq_true zq64_; obtain ⟨E0, M0, s0, s1⟩ := at_T46 U0.out a0 x0 v0; cases M0; replace s0 := pb_ HB.out s0; replace s1 := pb_ HB.out s1; replace x0 := eq_true x0; replace v0 := eq_true v0
     go_wp2_with (first | ((with_reducible refine gate_dst (N := 4) rfl ?_); refine bxe_ (N := 4) (cs := #[.int .i64 0, .int .i64 0]) (t := 46) ?_; intro d0 hg q0 C_ hb; have n_ := A4_ (below_step zq74_ hb) (C_) ((zqa9_ : w.heap.size ≤ d0)) ((zqa9_ : w.heap.size ≤ d0)); clear HB; obtain ⟨HB, c1, B0, n0⟩ := n_; clear hb C_ hg; obtain ⟨j0, j1, k0, k2⟩ := bz2_ c1.out) | ((with_reducible refine gate_callee (f := 64) rfl ?_); refine gl_ 13 Try.func64 #[.int .i64 ((rd_T46 l0 a0).f0), .int .i64 0, .int .i64 1000000] ?_; (with_reducible refine (impl_in.calls ((rd_T46 l0 a0).f0) 0 1000000 false _ A5.out).mono ?_); rintro e w' ⟨rfl, ⟨nd, rfl⟩⟩; refine ⟨_, rfl, ?_⟩))
     go_ret
     exact ⟨zq68_, zq73_⟩
   ·obtain rfl := Option.some.inj H
    go_wp2
    go_ret
    exact ⟨zq68_, zq74_⟩

/-! ### impl_insOk_1: function 108 -/
def impl_insOk_1.f (a0 : Int) : Option (Bool) := (impl_in.f a0 0 3).bind fun t105 => (some t105)
set_option maxHeartbeats 8000000 in
set_option maxRecDepth 100000 in
theorem impl_insOk_1.calls (a0 : Int) (r : Bool) (w : World) (h : impl_insOk_1.f a0 = some r) :
  Calls Try.prog 108 #[.int .i64 a0] w fun e w' => e = .returned (.bool r) ∧ Drawn0 w w' := by
 have H : ((impl_in.f a0 0 3).bind fun e0 => (some e0)) = some r := h; clear h; replace H := bs_ H; obtain ⟨e0, A2, H⟩ := H; (try dsimp only at H); obtain rfl := Option.some.inj H
 go_enter Try.func108, Try.ntmps108
 go_wp2_with (first | ((with_reducible refine gate_callee (f := 64) rfl ?_); refine gl_ 4 Try.func64 #[.int .i64 a0, .int .i64 0, .int .i64 3] ?_; (with_reducible refine (impl_in.calls a0 0 3 e0 _ A2.out).mono ?_); rintro e w' ⟨rfl, ⟨nd, rfl⟩⟩; refine ⟨_, rfl, ?_⟩))
 go_ret
 exact ⟨zq69_, zq8e_⟩

/-! ### impl_insOk_2: function 109 -/
def impl_insOk_2.f (a0 : Int) : Option (Bool) := (impl_in.f a0 0 3).bind fun t106 => (some t106)
set_option maxHeartbeats 8000000 in
set_option maxRecDepth 100000 in
theorem impl_insOk_2.calls (a0 : Int) (r : Bool) (w : World) (h : impl_insOk_2.f a0 = some r) :
  Calls Try.prog 109 #[.int .i64 a0] w fun e w' => e = .returned (.bool r) ∧ Drawn0 w w' := by
 have H : ((impl_in.f a0 0 3).bind fun e0 => (some e0)) = some r := h; clear h; replace H := bs_ H; obtain ⟨e0, A2, H⟩ := H; (try dsimp only at H); obtain rfl := Option.some.inj H
 go_enter Try.func109, Try.ntmps109
 go_wp2_with (first | ((with_reducible refine gate_callee (f := 64) rfl ?_); refine gl_ 4 Try.func64 #[.int .i64 a0, .int .i64 0, .int .i64 3] ?_; (with_reducible refine (impl_in.calls a0 0 3 e0 _ A2.out).mono ?_); rintro e w' ⟨rfl, ⟨nd, rfl⟩⟩; refine ⟨_, rfl, ?_⟩))
 go_ret
 exact ⟨zq69_, zq8e_⟩

/-! ### impl_insOk: function 99 -/
def impl_insOk.j0 : Nat → Int → Bool → Int → Int → Int → Int → Option (Bool)
 | 0, _, _, _, _, _, _ => none
 | k + 1, x6, x57, x108000, x108001, x108002, x108003 => if x57 = true then ((impl_insOk_1.f x108001).bind fun t114 => (if t114 = true then ((impl_insOk_1.f x108002).bind fun t115 => (if t115 = true then (some (x108003 == 0)) else (some false))) else (some false))) else (if x6 = 6 then ((impl_insOk_1.f x108001).bind fun t116 => (if t116 = true then ((impl_insOk_1.f x108002).bind fun t117 => (if t117 = true then ((impl_in.f x108003 1 10).bind fun t118 => (some t118)) else (some false))) else (some false))) else (if x6 = 7 then (if x108001 = 0 then (if x108002 = 0 then (some (x108003 == 0)) else (some false)) else (some false)) else (some false)))
def impl_insOk.f (k : Nat) (a0_0 : Int) (a0_1 : Int) (a0_2 : Int) (a0_3 : Int) : Option (Bool) := if a0_0 = 1 then ((impl_insOk_1.f a0_1).bind fun t108 => (if t108 = true then ((impl_insOk_2.f a0_2).bind fun t109 => (if t109 = true then (some (a0_3 == 0)) else (some false))) else (some false))) else (if a0_0 = 2 then ((impl_insOk_2.f a0_1).bind fun t110 => (if t110 = true then ((impl_insOk_1.f a0_2).bind fun t111 => (if t111 = true then (some (a0_3 == 0)) else (some false))) else (some false))) else (if a0_0 = 3 then ((impl_insOk_1.f a0_1).bind fun t112 => (if t112 = true then (if a0_2 = 0 then ((impl_in.f a0_3 (-1000000) 1000000).bind fun t113 => (some t113)) else (some false)) else (some false))) else (if a0_0 = 4 then (impl_insOk.j0 k a0_0 (a0_0 == 4) a0_0 a0_1 a0_2 a0_3) else (impl_insOk.j0 k a0_0 (a0_0 == 5) a0_0 a0_1 a0_2 a0_3))))
theorem impl_insOk.mono_l : ∀ k, (∀ y0 y1 y2 y3 y4 y5, LeO (impl_insOk.j0 k y0 y1 y2 y3 y4 y5) (impl_insOk.j0 (k + 1) y0 y1 y2 y3 y4 y5))
 | 0 => fun _ _ _ _ _ _ r h => by simp [impl_insOk.j0] at h
 | k + 1 => by
  have G0 := impl_insOk.mono_l k
  ·intro y0 y1 y2 y3 y4 y5
   unfold impl_insOk.j0
   repeat' first
   | (with_reducible exact G0 _ _ _ _ _ _)
   | (with_reducible exact LeO.refl _)
   | (with_reducible exact LeO.none _)
   | (with_reducible refine LeO.ite ?_ ?_)
   | (with_reducible refine LeO.bind ?_ (fun _ => ?_))
   | exact G0 _ _ _ _ _ _
   | exact LeO.none _
   | refine LeO.ite ?_ ?_
   | refine LeO.bind ?_ (fun _ => ?_)
theorem impl_insOk.mono : ∀ a0 a1 a2 a3 k, LeO (impl_insOk.f k a0 a1 a2 a3) (impl_insOk.f (k + 1) a0 a1 a2 a3) := by
 intro a0 a1 a2 a3 k
 have G0 := impl_insOk.mono_l k
 unfold impl_insOk.f
 repeat' first
   | (with_reducible exact G0 _ _ _ _ _ _)
   | (with_reducible exact LeO.refl _)
   | (with_reducible exact LeO.none _)
   | (with_reducible refine LeO.ite ?_ ?_)
   | (with_reducible refine LeO.bind ?_ (fun _ => ?_))
   | exact G0 _ _ _ _ _ _
   | exact LeO.none _
   | refine LeO.ite ?_ ?_
   | refine LeO.bind ?_ (fun _ => ?_)
set_option maxHeartbeats 8000000 in
set_option maxRecDepth 100000 in
theorem impl_insOk.calls (k : Nat) (h0 : Int) (h1 : Int) (h2 : Int) (h3 : Int) (r : Bool) (w : World) (h : impl_insOk.f k h0 h1 h2 h3 = some r) :
  Calls Try.prog 99 #[.agg #[.int .i64 h0, .int .i64 h1, .int .i64 h2, .int .i64 h3]] w fun e w' => e = .returned (.bool r) ∧ Below w.heap.size w w' := by
 have aq0 := Try.underlying34; have HB := Aside0.mk (Below.refl w.heap.size w); have H : (if h0 = 1 then ((impl_insOk_1.f h1).bind fun e0 => (if e0 = true then ((impl_insOk_2.f h2).bind fun e1 => (if e1 = true then (some (h3 == 0)) else (some false))) else (some false))) else (if h0 = 2 then ((impl_insOk_2.f h1).bind fun e2 => (if e2 = true then ((impl_insOk_1.f h2).bind fun e3 => (if e3 = true then (some (h3 == 0)) else (some false))) else (some false))) else (if h0 = 3 then ((impl_insOk_1.f h1).bind fun e4 => (if e4 = true then (if h2 = 0 then ((impl_in.f h3 (-1000000) 1000000).bind fun e5 => (some e5)) else (some false)) else (some false))) else (if h0 = 4 then (impl_insOk.j0 k h0 (h0 == 4) h0 h1 h2 h3) else (impl_insOk.j0 k h0 (h0 == 5) h0 h1 h2 h3))))) = some r := h; clear h; by_cases c2 : h0 = 1
 ·rw [if_pos c2] at H; have r0 : (h0 == 1) = true := beq_iff_eq.mpr c2; have r1 : (h0 != 1) = false := bne_eq_false_iff_eq.mpr c2; clear c2; replace H := bs_ H; obtain ⟨e0, A3, H⟩ := H; (try dsimp only at H); replace H := ifB_ H
  rcases H with ⟨rfl, H⟩ | ⟨rfl, H⟩
  ·replace H := bs_ H; obtain ⟨e1, A5, H⟩ := H; (try dsimp only at H); replace H := ifB_ H
   rcases H with ⟨rfl, H⟩ | ⟨rfl, H⟩
   ·obtain rfl := Option.some.inj H
    go_enter Try.func99, Try.ntmps99
    go_wp2_with (first | ((with_reducible refine gate_dst (N := 1) rfl ?_); refine bxe_ (N := 1) (cs := #[.int .i64 h0, .int .i64 h1, .int .i64 h2, .int .i64 h3]) (t := 34) ?_; intro d0 hg w7 C hb; have n_ := A4_ (below_step zq74_ hb) (C) ((zqa9_ : w.heap.size ≤ d0)) ((zqa9_ : w.heap.size ≤ d0)); clear HB; obtain ⟨HB, c0, B0, n0⟩ := n_; clear hb C hg; obtain ⟨j1, j2, j3, j4, k0, k1, k2, k3⟩ := bz4_ c0.out) | (go_at_call 108; (with_reducible refine (impl_insOk_1.calls h1 true _ A3.out).mono ?_); rintro e w' ⟨rfl, ⟨nd, rfl⟩⟩; (try clear A3)) | (go_at_call 109; (with_reducible refine (impl_insOk_2.calls h2 true _ A5.out).mono ?_); rintro e w' ⟨rfl, ⟨nd, rfl⟩⟩; (try clear A5)))
    go_ret
    exact ⟨zq68_, zq73_⟩
   ·obtain rfl := Option.some.inj H
    go_enter Try.func99, Try.ntmps99
    go_wp2_with (first | ((with_reducible refine gate_dst (N := 1) rfl ?_); refine bxe_ (N := 1) (cs := #[.int .i64 h0, .int .i64 h1, .int .i64 h2, .int .i64 h3]) (t := 34) ?_; intro d0 hg w9 C hb; have n_ := A4_ (below_step zq74_ hb) (C) ((zqa9_ : w.heap.size ≤ d0)) ((zqa9_ : w.heap.size ≤ d0)); clear HB; obtain ⟨HB, c0, B0, n0⟩ := n_; clear hb C hg; obtain ⟨j1, j2, j3, j4, k0, k1, k2, k3⟩ := bz4_ c0.out) | (go_at_call 108; (with_reducible refine (impl_insOk_1.calls h1 true _ A3.out).mono ?_); rintro e w' ⟨rfl, ⟨nd, rfl⟩⟩; (try clear A3)) | (go_at_call 109; (with_reducible refine (impl_insOk_2.calls h2 false _ A5.out).mono ?_); rintro e w' ⟨rfl, ⟨nd, rfl⟩⟩; (try clear A5)))
    go_ret
    exact ⟨zq68_, zq73_⟩
  ·obtain rfl := Option.some.inj H
   go_enter Try.func99, Try.ntmps99
   go_wp2_with (first | ((with_reducible refine gate_dst (N := 1) rfl ?_); refine bxe_ (N := 1) (cs := #[.int .i64 h0, .int .i64 h1, .int .i64 h2, .int .i64 h3]) (t := 34) ?_; intro d0 hg q0 C hb; have n_ := A4_ (below_step zq74_ hb) (C) ((zqa9_ : w.heap.size ≤ d0)) ((zqa9_ : w.heap.size ≤ d0)); clear HB; obtain ⟨HB, c0, B0, n0⟩ := n_; clear hb C hg; obtain ⟨j1, j2, j3, j4, k0, k1, k2, k3⟩ := bz4_ c0.out) | (go_at_call 108; (with_reducible refine (impl_insOk_1.calls h1 false _ A3.out).mono ?_); rintro e w' ⟨rfl, ⟨nd, rfl⟩⟩; (try clear A3)))
   go_ret
   exact ⟨zq68_, zq73_⟩
 ·rw [if_neg c2] at H; have r0 : (h0 == 1) = false := beq_eq_false_iff_ne.mpr c2; have r1 : (h0 != 1) = true := bne_iff_ne.mpr c2; by_cases u0 : h0 = 2
  ·rw [if_pos u0] at H; have r2 : (h0 == 2) = true := beq_iff_eq.mpr u0; have r3 : (h0 != 2) = false := bne_eq_false_iff_eq.mpr u0; clear u0; replace H := bs_ H; obtain ⟨e2, y0, H⟩ := H; (try dsimp only at H); replace H := ifB_ H
   rcases H with ⟨rfl, H⟩ | ⟨rfl, H⟩
   ·replace H := bs_ H; obtain ⟨e3, y1, H⟩ := H; (try dsimp only at H); replace H := ifB_ H
    rcases H with ⟨rfl, H⟩ | ⟨rfl, H⟩
    ·obtain rfl := Option.some.inj H
     go_enter Try.func99, Try.ntmps99
     go_wp2_with (first | ((with_reducible refine gate_dst (N := 1) rfl ?_); refine bxe_ (N := 1) (cs := #[.int .i64 h0, .int .i64 h1, .int .i64 h2, .int .i64 h3]) (t := 34) ?_; intro d0 hg q0 C hb; have n_ := A4_ (below_step zq74_ hb) (C) ((zqa9_ : w.heap.size ≤ d0)) ((zqa9_ : w.heap.size ≤ d0)); clear HB; obtain ⟨HB, c0, B0, n0⟩ := n_; clear hb C hg; obtain ⟨j1, j2, j3, j4, k0, k1, k2, k3⟩ := bz4_ c0.out) | (go_at_call 109; (with_reducible refine (impl_insOk_2.calls h1 true _ y0.out).mono ?_); rintro e w' ⟨rfl, ⟨nd, rfl⟩⟩; (try clear y0)) | (go_at_call 108; (with_reducible refine (impl_insOk_1.calls h2 true _ y1.out).mono ?_); rintro e w' ⟨rfl, ⟨nd, rfl⟩⟩; (try clear y1)))
     go_ret
     exact ⟨zq68_, zq73_⟩
    ·obtain rfl := Option.some.inj H
     go_enter Try.func99, Try.ntmps99
     go_wp2_with (first | ((with_reducible refine gate_dst (N := 1) rfl ?_); refine bxe_ (N := 1) (cs := #[.int .i64 h0, .int .i64 h1, .int .i64 h2, .int .i64 h3]) (t := 34) ?_; intro d0 hg q0 C hb; have n_ := A4_ (below_step zq74_ hb) (C) ((zqa9_ : w.heap.size ≤ d0)) ((zqa9_ : w.heap.size ≤ d0)); clear HB; obtain ⟨HB, c0, B0, n0⟩ := n_; clear hb C hg; obtain ⟨j1, j2, j3, j4, k0, k1, k2, k3⟩ := bz4_ c0.out) | (go_at_call 109; (with_reducible refine (impl_insOk_2.calls h1 true _ y0.out).mono ?_); rintro e w' ⟨rfl, ⟨nd, rfl⟩⟩; (try clear y0)) | (go_at_call 108; (with_reducible refine (impl_insOk_1.calls h2 false _ y1.out).mono ?_); rintro e w' ⟨rfl, ⟨nd, rfl⟩⟩; (try clear y1)))
     go_ret
     exact ⟨zq68_, zq73_⟩
   ·obtain rfl := Option.some.inj H
    go_enter Try.func99, Try.ntmps99
    go_wp2_with (first | ((with_reducible refine gate_dst (N := 1) rfl ?_); refine bxe_ (N := 1) (cs := #[.int .i64 h0, .int .i64 h1, .int .i64 h2, .int .i64 h3]) (t := 34) ?_; intro d0 hg q0 C hb; have n_ := A4_ (below_step zq74_ hb) (C) ((zqa9_ : w.heap.size ≤ d0)) ((zqa9_ : w.heap.size ≤ d0)); clear HB; obtain ⟨HB, c0, B0, n0⟩ := n_; clear hb C hg; obtain ⟨j1, j2, j3, j4, k0, k1, k2, k3⟩ := bz4_ c0.out) | (go_at_call 109; (with_reducible refine (impl_insOk_2.calls h1 false _ y0.out).mono ?_); rintro e w' ⟨rfl, ⟨nd, rfl⟩⟩; (try clear y0)))
    go_ret
    exact ⟨zq68_, zq73_⟩
  ·rw [if_neg u0] at H; have r2 : (h0 == 2) = false := beq_eq_false_iff_ne.mpr u0; have r3 : (h0 != 2) = true := bne_iff_ne.mpr u0; by_cases u1 : h0 = 3
   ·rw [if_pos u1] at H; have r4 : (h0 == 3) = true := beq_iff_eq.mpr u1; have r5 : (h0 != 3) = false := bne_eq_false_iff_eq.mpr u1; clear u1; replace H := bs_ H; obtain ⟨e4, y0, H⟩ := H; (try dsimp only at H); replace H := ifB_ H
    rcases H with ⟨rfl, H⟩ | ⟨rfl, H⟩
    ·by_cases u2 : h2 = 0
     ·rw [if_pos u2] at H; have r6 : (h2 == 0) = true := beq_iff_eq.mpr u2; have r7 : (h2 != 0) = false := bne_eq_false_iff_eq.mpr u2; clear u2; replace H := bs_ H; obtain ⟨e5, y1, H⟩ := H; (try dsimp only at H); obtain rfl := Option.some.inj H
      go_enter Try.func99, Try.ntmps99
      go_wp2_with (first | ((with_reducible refine gate_dst (N := 1) rfl ?_); refine bxe_ (N := 1) (cs := #[.int .i64 h0, .int .i64 h1, .int .i64 h2, .int .i64 h3]) (t := 34) ?_; intro d0 hg q0 C hb; have n_ := A4_ (below_step zq74_ hb) (C) ((zqa9_ : w.heap.size ≤ d0)) ((zqa9_ : w.heap.size ≤ d0)); clear HB; obtain ⟨HB, c0, B0, n0⟩ := n_; clear hb C hg; obtain ⟨j1, j2, j3, j4, k0, k1, k2, k3⟩ := bz4_ c0.out) | (go_at_call 108; (with_reducible refine (impl_insOk_1.calls h1 true _ y0.out).mono ?_); rintro e w' ⟨rfl, ⟨nd, rfl⟩⟩; (try clear y0)) | (go_at_call 64; (with_reducible refine (impl_in.calls h3 (-1000000) 1000000 e5 _ y1.out).mono ?_); rintro e w' ⟨rfl, ⟨nd, rfl⟩⟩; (try clear y1)))
      go_ret
      exact ⟨zq68_, zq73_⟩
     ·rw [if_neg u2] at H; have r6 : (h2 == 0) = false := beq_eq_false_iff_ne.mpr u2; have r7 : (h2 != 0) = true := bne_iff_ne.mpr u2; obtain rfl := Option.some.inj H
      go_enter Try.func99, Try.ntmps99
      go_wp2_with (first | ((with_reducible refine gate_dst (N := 1) rfl ?_); refine bxe_ (N := 1) (cs := #[.int .i64 h0, .int .i64 h1, .int .i64 h2, .int .i64 h3]) (t := 34) ?_; intro d0 hg q0 C hb; have n_ := A4_ (below_step zq74_ hb) (C) ((zqa9_ : w.heap.size ≤ d0)) ((zqa9_ : w.heap.size ≤ d0)); clear HB; obtain ⟨HB, c0, B0, n0⟩ := n_; clear hb C hg; obtain ⟨j1, j2, j3, j4, k0, k1, k2, k3⟩ := bz4_ c0.out) | (go_at_call 108; (with_reducible refine (impl_insOk_1.calls h1 true _ y0.out).mono ?_); rintro e w' ⟨rfl, ⟨nd, rfl⟩⟩; (try clear y0)))
      go_ret
      exact ⟨zq68_, zq73_⟩
    ·obtain rfl := Option.some.inj H
     go_enter Try.func99, Try.ntmps99
     go_wp2_with (first | ((with_reducible refine gate_dst (N := 1) rfl ?_); refine bxe_ (N := 1) (cs := #[.int .i64 h0, .int .i64 h1, .int .i64 h2, .int .i64 h3]) (t := 34) ?_; intro d0 hg q0 C hb; have n_ := A4_ (below_step zq74_ hb) (C) ((zqa9_ : w.heap.size ≤ d0)) ((zqa9_ : w.heap.size ≤ d0)); clear HB; obtain ⟨HB, c0, B0, n0⟩ := n_; clear hb C hg; obtain ⟨j1, j2, j3, j4, k0, k1, k2, k3⟩ := bz4_ c0.out) | (go_at_call 108; (with_reducible refine (impl_insOk_1.calls h1 false _ y0.out).mono ?_); rintro e w' ⟨rfl, ⟨nd, rfl⟩⟩; (try clear y0)))
     go_ret
     exact ⟨zq68_, zq73_⟩
   ·rw [if_neg u1] at H; have r4 : (h0 == 3) = false := beq_eq_false_iff_ne.mpr u1; have r5 : (h0 != 3) = true := bne_iff_ne.mpr u1; have aa0 := Aside0.mk H; clear H
    go_enter Try.func99, Try.ntmps99
    go_upto_if 57 with (first | ((with_reducible refine gate_dst (N := 1) rfl ?_); refine bxe_ (N := 1) (cs := #[.int .i64 h0, .int .i64 h1, .int .i64 h2, .int .i64 h3]) (t := 34) ?_; intro d0 hg q0 C hb; have n_ := A4_ (below_step zq74_ hb) (C) ((zqa9_ : w.heap.size ≤ d0)) ((zqa9_ : w.heap.size ≤ d0)); clear HB; obtain ⟨HB, c0, B0, n0⟩ := n_; clear hb C hg; obtain ⟨j1, j2, j3, j4, k0, k1, k2, k3⟩ := bz4_ c0.out))
    (try simp only [Act.put, List.setIfInBounds_toArray, List.set_cons_zero, List.set_cons_succ])
    go_cut [57] (fun L0 wc => ∃ (kq : Nat) (a0 : Bool), L0 = .bool a0 ∧ Aside0 (impl_insOk.j0 kq h0 a0 h0 h1 h2 h3 = some r) ∧ Aside0 (kq ≤ k) ∧ Aside0 (wc.heap[d0]? = some (.cells #[.int .i64 h0, .int .i64 h1, .int .i64 h2, .int .i64 h3] 34 (0, 0))) ∧ Aside0 (Below w.heap.size w wc))
    case first =>
     have H := aa0.out; clear aa0; by_cases u2 : h0 = 4
     ·rw [if_pos u2] at H; have r6 : (h0 == 4) = true := beq_iff_eq.mpr u2; have r7 : (h0 != 4) = false := bne_eq_false_iff_eq.mpr u2; clear u2; (first | rw [r6] | (simp only [i64_w, i32_w]; rw [r6]) | skip); have H' := Aside0.mk H; clear H
      go_wp2
      go_meet
      case rel => exact ⟨_, ((h0 == 4)), zq69_, H', ⟨zq67_⟩, ⟨zq28_⟩, ⟨zq73_⟩⟩
     ·rw [if_neg u2] at H; have r6 : (h0 == 4) = false := beq_eq_false_iff_ne.mpr u2; have r7 : (h0 != 4) = true := bne_iff_ne.mpr u2; (first | rw [r6] | (simp only [i64_w, i32_w]; rw [r6]) | skip); have H' := Aside0.mk H; clear H
      go_wp2
      go_meet
      case rel => exact ⟨_, ((h0 == 5)), zq69_, H', ⟨zq67_⟩, ⟨zq28_⟩, ⟨zq73_⟩⟩
    case rest =>
     clear aa0
     try clear c1
     try clear c2
     try clear r0
     try clear r1
     try clear p2
     try clear c3
     try clear c4
     try clear c6
     try clear c9
     try clear u0
     try clear r2
     try clear r3
     try clear c15
     try clear c17
     try clear u1
     try clear r4
     try clear r5
     try clear c26
     try clear u3
     try clear r6
     try clear r7
     try clear u2
     try clear r8
     try clear r9
     try clear j5 j6 j7 j8 k4 k5 k6 k7
     try clear j9 j10 j11 j12 k8 k9 k10 k11
     try clear j13 j14 j15 j16 k12 k13 k14 k15
     try clear j17 j18 j19 j20 k16 k17 k18 k19
     try clear j21 j22 j23 j24 k20 k21 k22 k23
     try clear j25 j26 j27 j28 k24 k25 k26 k27
     try clear j29 j30 j31 j32 k28 k29 k30 k31
     try clear j33 j34 j35 j36 k32 k33 k34 k35
     try clear j1 j2 j3 j4 k0 k1 k2 k3
     try clear j37 j38 j39 j40 k36 k37 k38 k39
     obtain ⟨kq, a0, rfl, HA, an0, c0, HB⟩ := hcut
     cases kq with
     | zero => exact absurd HA.out (by simp [impl_insOk.j0])
     | succ kj34 =>
      have H := HA.out; clear HA; simp only [impl_insOk.j0] at H; replace H := ifB_ H
      rcases H with ⟨rfl, H⟩ | ⟨rfl, H⟩
      ·replace H := bs_ H; obtain ⟨e6, y0, H⟩ := H; (try dsimp only at H); replace H := ifB_ H
       rcases H with ⟨rfl, H⟩ | ⟨rfl, H⟩
       ·replace H := bs_ H; obtain ⟨e7, y1, H⟩ := H; (try dsimp only at H); replace H := ifB_ H
        rcases H with ⟨rfl, H⟩ | ⟨rfl, H⟩
        ·obtain rfl := Option.some.inj H; obtain ⟨j41, j42, j43, j44, k40, k41, k42, k43⟩ := bz4_ c0.out
         go_wp2_with (first | (go_at_call 108; (with_reducible refine (impl_insOk_1.calls h1 true _ y0.out).mono ?_); rintro e w' ⟨rfl, ⟨nd, rfl⟩⟩; (try clear y0)) | (go_at_call 108; (with_reducible refine (impl_insOk_1.calls h2 true _ y1.out).mono ?_); rintro e w' ⟨rfl, ⟨nd, rfl⟩⟩; (try clear y1)))
         go_ret
         exact ⟨zq68_, zq73_⟩
        ·obtain rfl := Option.some.inj H; obtain ⟨j41, j42, j43, j44, k40, k41, k42, k43⟩ := bz4_ c0.out
         go_wp2_with (first | (go_at_call 108; (with_reducible refine (impl_insOk_1.calls h1 true _ y0.out).mono ?_); rintro e w' ⟨rfl, ⟨nd, rfl⟩⟩; (try clear y0)) | (go_at_call 108; (with_reducible refine (impl_insOk_1.calls h2 false _ y1.out).mono ?_); rintro e w' ⟨rfl, ⟨nd, rfl⟩⟩; (try clear y1)))
         go_ret
         exact ⟨zq68_, zq73_⟩
       ·obtain rfl := Option.some.inj H; obtain ⟨j41, j42, j43, j44, k40, k41, k42, k43⟩ := bz4_ c0.out
        go_wp2_with (first | (go_at_call 108; (with_reducible refine (impl_insOk_1.calls h1 false _ y0.out).mono ?_); rintro e w' ⟨rfl, ⟨nd, rfl⟩⟩; (try clear y0)))
        go_ret
        exact ⟨zq68_, zq73_⟩
      ·by_cases u4 : h0 = 6
       ·rw [if_pos u4] at H; have r10 : (h0 == 6) = true := beq_iff_eq.mpr u4; have r11 : (h0 != 6) = false := bne_eq_false_iff_eq.mpr u4; clear u4; replace H := bs_ H; obtain ⟨e6, y0, H⟩ := H; (try dsimp only at H); replace H := ifB_ H
        rcases H with ⟨rfl, H⟩ | ⟨rfl, H⟩
        ·replace H := bs_ H; obtain ⟨e7, y1, H⟩ := H; (try dsimp only at H); replace H := ifB_ H
         rcases H with ⟨rfl, H⟩ | ⟨rfl, H⟩
         ·replace H := bs_ H; obtain ⟨e8, y2, H⟩ := H; (try dsimp only at H); obtain rfl := Option.some.inj H; obtain ⟨j41, j42, j43, j44, k40, k41, k42, k43⟩ := bz4_ c0.out
          go_wp2_with (first | (go_at_call 108; (with_reducible refine (impl_insOk_1.calls h1 true _ y0.out).mono ?_); rintro e w' ⟨rfl, ⟨nd, rfl⟩⟩; (try clear y0)) | (go_at_call 108; (with_reducible refine (impl_insOk_1.calls h2 true _ y1.out).mono ?_); rintro e w' ⟨rfl, ⟨nd, rfl⟩⟩; (try clear y1)) | (go_at_call 64; (with_reducible refine (impl_in.calls h3 1 10 e8 _ y2.out).mono ?_); rintro e w' ⟨rfl, ⟨nd, rfl⟩⟩; (try clear y2)))
          go_ret
          exact ⟨zq68_, zq73_⟩
         ·obtain rfl := Option.some.inj H; obtain ⟨j41, j42, j43, j44, k40, k41, k42, k43⟩ := bz4_ c0.out
          go_wp2_with (first | (go_at_call 108; (with_reducible refine (impl_insOk_1.calls h1 true _ y0.out).mono ?_); rintro e w' ⟨rfl, ⟨nd, rfl⟩⟩; (try clear y0)) | (go_at_call 108; (with_reducible refine (impl_insOk_1.calls h2 false _ y1.out).mono ?_); rintro e w' ⟨rfl, ⟨nd, rfl⟩⟩; (try clear y1)))
          go_ret
          exact ⟨zq68_, zq73_⟩
        ·obtain rfl := Option.some.inj H; obtain ⟨j41, j42, j43, j44, k40, k41, k42, k43⟩ := bz4_ c0.out
         go_wp2_with (first | (go_at_call 108; (with_reducible refine (impl_insOk_1.calls h1 false _ y0.out).mono ?_); rintro e w' ⟨rfl, ⟨nd, rfl⟩⟩; (try clear y0)))
         go_ret
         exact ⟨zq68_, zq73_⟩
       ·rw [if_neg u4] at H; have r10 : (h0 == 6) = false := beq_eq_false_iff_ne.mpr u4; have r11 : (h0 != 6) = true := bne_iff_ne.mpr u4; by_cases u5 : h0 = 7
        ·rw [if_pos u5] at H; have r12 : (h0 == 7) = true := beq_iff_eq.mpr u5; have r13 : (h0 != 7) = false := bne_eq_false_iff_eq.mpr u5; clear u5; by_cases u6 : h1 = 0
         ·rw [if_pos u6] at H; have r14 : (h1 == 0) = true := beq_iff_eq.mpr u6; have r15 : (h1 != 0) = false := bne_eq_false_iff_eq.mpr u6; clear u6; by_cases u7 : h2 = 0
          ·rw [if_pos u7] at H; have r16 : (h2 == 0) = true := beq_iff_eq.mpr u7; have r17 : (h2 != 0) = false := bne_eq_false_iff_eq.mpr u7; clear u7; obtain rfl := Option.some.inj H; obtain ⟨j41, j42, j43, j44, k40, k41, k42, k43⟩ := bz4_ c0.out
           go_wp2
           go_ret
           exact ⟨zq68_, zq73_⟩
          ·rw [if_neg u7] at H; have r16 : (h2 == 0) = false := beq_eq_false_iff_ne.mpr u7; have r17 : (h2 != 0) = true := bne_iff_ne.mpr u7; obtain rfl := Option.some.inj H; obtain ⟨j41, j42, j43, j44, k40, k41, k42, k43⟩ := bz4_ c0.out
           go_wp2
           go_ret
           exact ⟨zq68_, zq73_⟩
         ·rw [if_neg u6] at H; have r14 : (h1 == 0) = false := beq_eq_false_iff_ne.mpr u6; have r15 : (h1 != 0) = true := bne_iff_ne.mpr u6; obtain rfl := Option.some.inj H; obtain ⟨j41, j42, j43, j44, k40, k41, k42, k43⟩ := bz4_ c0.out
          go_wp2
          go_ret
          exact ⟨zq68_, zq73_⟩
        ·rw [if_neg u5] at H; have r12 : (h0 == 7) = false := beq_eq_false_iff_ne.mpr u5; have r13 : (h0 != 7) = true := bne_iff_ne.mpr u5; obtain rfl := Option.some.inj H
         go_wp2
         go_ret
         exact ⟨zq68_, zq73_⟩

end Go.Proofs.Ytgdafcakefnpdaa.PFnSerialOne
