-- Laid by this session's program out of the translation (gen.sh).
import Derived.Test.YtgdafcakefnpdaaPFnSerialOnex0
import Derived.Test.YtgdafcakefnpdaaPFnSerialOnex7
namespace Go.Proofs.Ytgdafcakefnpdaa.PFnSerialOne
open Go.RowKit Go.Proofs.YtgdafcakefnpdaaW.PrintWords Go.Proofs.YtgdafcakefnpdaaW.PrintLast Go.Proofs.YtgdafcakefnpdaaW.PrintMore
attribute [local go_sem] max2_int min2_int max_two min_two max_three min_three max_four min_four   -- for this text's walks alone
set_option linter.unusedVariables false
set_option linter.unusedSimpArgs false

/-! ### spec_l2Ins: function 78 -/
def spec_l2Ins.j0 : Nat → Int → Bool → Int → Int → Int → Int → Option (Bool)
 | 0, _, _, _, _, _, _ => none
 | k + 1, x4, x50, x218000, x218001, x218002, x218003 => if x50 = true then ((spec_l2Reg.f x218001).bind fun t224 => (if t224 = true then ((spec_l2Reg.f x218002).bind fun t225 => (if t225 = true then (some (x218003 == 0)) else (some false))) else (some false))) else (if x4 = 6 then ((spec_l2Reg.f x218001).bind fun t226 => (if t226 = true then ((spec_l2Reg.f x218002).bind fun t227 => (if t227 = true then (if x218003 ≥ 1 then (some (decide (x218003 ≤ 10))) else (some false)) else (some false))) else (some false))) else (if x4 = 7 then (if x218001 = 0 then (if x218002 = 0 then (some (x218003 == 0)) else (some false)) else (some false)) else (some false)))
def spec_l2Ins.f (k : Nat) (a0_0 : Int) (a0_1 : Int) (a0_2 : Int) (a0_3 : Int) : Option (Bool) := if a0_0 = 1 then ((spec_l2Reg.f a0_1).bind fun t218 => (if t218 = true then ((spec_l2Box.f a0_2).bind fun t219 => (if t219 = true then (some (a0_3 == 0)) else (some false))) else (some false))) else (if a0_0 = 2 then ((spec_l2Box.f a0_1).bind fun t220 => (if t220 = true then ((spec_l2Reg.f a0_2).bind fun t221 => (if t221 = true then (some (a0_3 == 0)) else (some false))) else (some false))) else (if a0_0 = 3 then ((spec_l2Reg.f a0_1).bind fun t222 => (if t222 = true then (if a0_2 = 0 then ((spec_l1Num.f a0_3).bind fun t223 => (some t223)) else (some false)) else (some false))) else (if a0_0 = 4 then (spec_l2Ins.j0 k a0_0 (a0_0 == 4) a0_0 a0_1 a0_2 a0_3) else (spec_l2Ins.j0 k a0_0 (a0_0 == 5) a0_0 a0_1 a0_2 a0_3))))
theorem spec_l2Ins.mono_l : ∀ k, (∀ y0 y1 y2 y3 y4 y5, LeO (spec_l2Ins.j0 k y0 y1 y2 y3 y4 y5) (spec_l2Ins.j0 (k + 1) y0 y1 y2 y3 y4 y5))
 | 0 => fun _ _ _ _ _ _ r h => by simp [spec_l2Ins.j0] at h
 | k + 1 => by
  have G0 := spec_l2Ins.mono_l k
  ·intro y0 y1 y2 y3 y4 y5
   unfold spec_l2Ins.j0
   repeat' first
   | (with_reducible exact G0 _ _ _ _ _ _)
   | (with_reducible exact LeO.refl _)
   | (with_reducible exact LeO.none _)
   | (with_reducible refine LeO.ite ?_ ?_)
   | (with_reducible refine LeO.bind ?_ (fun _ => ?_))
   | exact G0 _ _ _ _ _ _
   | exact LeO.none _
   | refine LeO.ite ?_ ?_
   | refine LeO.bind ?_ (fun _ => ?_)
theorem spec_l2Ins.mono : ∀ a0 a1 a2 a3 k, LeO (spec_l2Ins.f k a0 a1 a2 a3) (spec_l2Ins.f (k + 1) a0 a1 a2 a3) := by
 intro a0 a1 a2 a3 k
 have G0 := spec_l2Ins.mono_l k
 unfold spec_l2Ins.f
 repeat' first
   | (with_reducible exact G0 _ _ _ _ _ _)
   | (with_reducible exact LeO.refl _)
   | (with_reducible exact LeO.none _)
   | (with_reducible refine LeO.ite ?_ ?_)
   | (with_reducible refine LeO.bind ?_ (fun _ => ?_))
   | exact G0 _ _ _ _ _ _
   | exact LeO.none _
   | refine LeO.ite ?_ ?_
   | refine LeO.bind ?_ (fun _ => ?_)
set_option maxHeartbeats 8000000 in
set_option maxRecDepth 100000 in
theorem spec_l2Ins.calls (k : Nat) (h0 : Int) (h1 : Int) (h2 : Int) (h3 : Int) (r : Bool) (w : World) (h : spec_l2Ins.f k h0 h1 h2 h3 = some r) :
  Calls Try.prog 78 #[.agg #[.int .i64 h0, .int .i64 h1, .int .i64 h2, .int .i64 h3]] w fun e w' => e = .returned (.bool r) ∧ Below w.heap.size w w' := by
 have aq0 := Try.underlying34; have HB := Aside0.mk (Below.refl w.heap.size w); have H : (if h0 = 1 then ((spec_l2Reg.f h1).bind fun e0 => (if e0 = true then ((spec_l2Box.f h2).bind fun e1 => (if e1 = true then (some (h3 == 0)) else (some false))) else (some false))) else (if h0 = 2 then ((spec_l2Box.f h1).bind fun e2 => (if e2 = true then ((spec_l2Reg.f h2).bind fun e3 => (if e3 = true then (some (h3 == 0)) else (some false))) else (some false))) else (if h0 = 3 then ((spec_l2Reg.f h1).bind fun e4 => (if e4 = true then (if h2 = 0 then ((spec_l1Num.f h3).bind fun e5 => (some e5)) else (some false)) else (some false))) else (if h0 = 4 then (spec_l2Ins.j0 k h0 (h0 == 4) h0 h1 h2 h3) else (spec_l2Ins.j0 k h0 (h0 == 5) h0 h1 h2 h3))))) = some r := h; clear h; by_cases c2 : h0 = 1
 ·rw [if_pos c2] at H; have r0 : (h0 == 1) = true := beq_iff_eq.mpr c2; have r1 : (h0 != 1) = false := bne_eq_false_iff_eq.mpr c2; clear c2; replace H := bs_ H; obtain ⟨e0, A3, H⟩ := H; (try dsimp only at H); replace H := ifB_ H
  rcases H with ⟨rfl, H⟩ | ⟨rfl, H⟩
  ·replace H := bs_ H; obtain ⟨e1, A5, H⟩ := H; (try dsimp only at H); replace H := ifB_ H
   rcases H with ⟨rfl, H⟩ | ⟨rfl, H⟩
   ·obtain rfl := Option.some.inj H
    go_enter Try.func78, Try.ntmps78
    go_wp2_with (first | ((with_reducible refine gate_dst (N := 1) rfl ?_); refine bxe_ (N := 1) (cs := #[.int .i64 h0, .int .i64 h1, .int .i64 h2, .int .i64 h3]) (t := 34) ?_; intro d0 hg w7 C hb; have n_ := A4_ (below_step zq74_ hb) (C) ((zqa9_ : w.heap.size ≤ d0)) ((zqa9_ : w.heap.size ≤ d0)); clear HB; obtain ⟨HB, c0, B0, n0⟩ := n_; clear hb C hg; obtain ⟨j1, j2, j3, j4, k0, k1, k2, k3⟩ := bz4_ c0.out) | ((with_reducible refine gate_callee (f := 103) rfl ?_); refine gl_ 9 Try.func103 #[.int .i64 h1] ?_; (with_reducible refine (spec_l2Reg.calls h1 true _ A3.out).mono ?_); rintro e w' ⟨rfl, ⟨nd, rfl⟩⟩; refine ⟨_, rfl, ?_⟩) | (go_at_call 75; (with_reducible refine (spec_l2Box.calls h2 true _ A5.out).mono ?_); rintro e w' ⟨rfl, ⟨nd, rfl⟩⟩; (try clear A5)))
    go_ret
    exact ⟨zq68_, zq73_⟩
   ·obtain rfl := Option.some.inj H
    go_enter Try.func78, Try.ntmps78
    go_wp2_with (first | ((with_reducible refine gate_dst (N := 1) rfl ?_); refine bxe_ (N := 1) (cs := #[.int .i64 h0, .int .i64 h1, .int .i64 h2, .int .i64 h3]) (t := 34) ?_; intro d0 hg w9 C hb; have n_ := A4_ (below_step zq74_ hb) (C) ((zqa9_ : w.heap.size ≤ d0)) ((zqa9_ : w.heap.size ≤ d0)); clear HB; obtain ⟨HB, c0, B0, n0⟩ := n_; clear hb C hg; obtain ⟨j1, j2, j3, j4, k0, k1, k2, k3⟩ := bz4_ c0.out) | ((with_reducible refine gate_callee (f := 103) rfl ?_); refine gl_ 9 Try.func103 #[.int .i64 h1] ?_; (with_reducible refine (spec_l2Reg.calls h1 true _ A3.out).mono ?_); rintro e w' ⟨rfl, ⟨nd, rfl⟩⟩; refine ⟨_, rfl, ?_⟩) | (go_at_call 75; (with_reducible refine (spec_l2Box.calls h2 false _ A5.out).mono ?_); rintro e w' ⟨rfl, ⟨nd, rfl⟩⟩; (try clear A5)))
    go_ret
    exact ⟨zq68_, zq73_⟩
  ·obtain rfl := Option.some.inj H
   go_enter Try.func78, Try.ntmps78
   go_wp2_with (first | ((with_reducible refine gate_dst (N := 1) rfl ?_); refine bxe_ (N := 1) (cs := #[.int .i64 h0, .int .i64 h1, .int .i64 h2, .int .i64 h3]) (t := 34) ?_; intro d0 hg q0 C hb; have n_ := A4_ (below_step zq74_ hb) (C) ((zqa9_ : w.heap.size ≤ d0)) ((zqa9_ : w.heap.size ≤ d0)); clear HB; obtain ⟨HB, c0, B0, n0⟩ := n_; clear hb C hg; obtain ⟨j1, j2, j3, j4, k0, k1, k2, k3⟩ := bz4_ c0.out) | ((with_reducible refine gate_callee (f := 103) rfl ?_); refine gl_ 9 Try.func103 #[.int .i64 h1] ?_; (with_reducible refine (spec_l2Reg.calls h1 false _ A3.out).mono ?_); rintro e w' ⟨rfl, ⟨nd, rfl⟩⟩; refine ⟨_, rfl, ?_⟩))
   go_ret
   exact ⟨zq68_, zq73_⟩
 ·rw [if_neg c2] at H; have r0 : (h0 == 1) = false := beq_eq_false_iff_ne.mpr c2; have r1 : (h0 != 1) = true := bne_iff_ne.mpr c2; by_cases u0 : h0 = 2
  ·rw [if_pos u0] at H; have r2 : (h0 == 2) = true := beq_iff_eq.mpr u0; have r3 : (h0 != 2) = false := bne_eq_false_iff_eq.mpr u0; clear u0; replace H := bs_ H; obtain ⟨e2, y0, H⟩ := H; (try dsimp only at H); replace H := ifB_ H
   rcases H with ⟨rfl, H⟩ | ⟨rfl, H⟩
   ·replace H := bs_ H; obtain ⟨e3, y1, H⟩ := H; (try dsimp only at H); replace H := ifB_ H
    rcases H with ⟨rfl, H⟩ | ⟨rfl, H⟩
    ·obtain rfl := Option.some.inj H
     go_enter Try.func78, Try.ntmps78
     go_wp2_with (first | ((with_reducible refine gate_dst (N := 1) rfl ?_); refine bxe_ (N := 1) (cs := #[.int .i64 h0, .int .i64 h1, .int .i64 h2, .int .i64 h3]) (t := 34) ?_; intro d0 hg q0 C hb; have n_ := A4_ (below_step zq74_ hb) (C) ((zqa9_ : w.heap.size ≤ d0)) ((zqa9_ : w.heap.size ≤ d0)); clear HB; obtain ⟨HB, c0, B0, n0⟩ := n_; clear hb C hg; obtain ⟨j1, j2, j3, j4, k0, k1, k2, k3⟩ := bz4_ c0.out) | ((with_reducible refine gate_callee (f := 75) rfl ?_); refine gl_ 24 Try.func75 #[.int .i64 h1] ?_; (with_reducible refine (spec_l2Box.calls h1 true _ y0.out).mono ?_); rintro e w' ⟨rfl, ⟨nd, rfl⟩⟩; refine ⟨_, rfl, ?_⟩) | (go_at_call 103; (with_reducible refine (spec_l2Reg.calls h2 true _ y1.out).mono ?_); rintro e w' ⟨rfl, ⟨nd, rfl⟩⟩; (try clear y1)))
     go_ret
     exact ⟨zq68_, zq73_⟩
    ·obtain rfl := Option.some.inj H
     go_enter Try.func78, Try.ntmps78
     go_wp2_with (first | ((with_reducible refine gate_dst (N := 1) rfl ?_); refine bxe_ (N := 1) (cs := #[.int .i64 h0, .int .i64 h1, .int .i64 h2, .int .i64 h3]) (t := 34) ?_; intro d0 hg q0 C hb; have n_ := A4_ (below_step zq74_ hb) (C) ((zqa9_ : w.heap.size ≤ d0)) ((zqa9_ : w.heap.size ≤ d0)); clear HB; obtain ⟨HB, c0, B0, n0⟩ := n_; clear hb C hg; obtain ⟨j1, j2, j3, j4, k0, k1, k2, k3⟩ := bz4_ c0.out) | ((with_reducible refine gate_callee (f := 75) rfl ?_); refine gl_ 24 Try.func75 #[.int .i64 h1] ?_; (with_reducible refine (spec_l2Box.calls h1 true _ y0.out).mono ?_); rintro e w' ⟨rfl, ⟨nd, rfl⟩⟩; refine ⟨_, rfl, ?_⟩) | (go_at_call 103; (with_reducible refine (spec_l2Reg.calls h2 false _ y1.out).mono ?_); rintro e w' ⟨rfl, ⟨nd, rfl⟩⟩; (try clear y1)))
     go_ret
     exact ⟨zq68_, zq73_⟩
   ·obtain rfl := Option.some.inj H
    go_enter Try.func78, Try.ntmps78
    go_wp2_with (first | ((with_reducible refine gate_dst (N := 1) rfl ?_); refine bxe_ (N := 1) (cs := #[.int .i64 h0, .int .i64 h1, .int .i64 h2, .int .i64 h3]) (t := 34) ?_; intro d0 hg q0 C hb; have n_ := A4_ (below_step zq74_ hb) (C) ((zqa9_ : w.heap.size ≤ d0)) ((zqa9_ : w.heap.size ≤ d0)); clear HB; obtain ⟨HB, c0, B0, n0⟩ := n_; clear hb C hg; obtain ⟨j1, j2, j3, j4, k0, k1, k2, k3⟩ := bz4_ c0.out) | ((with_reducible refine gate_callee (f := 75) rfl ?_); refine gl_ 24 Try.func75 #[.int .i64 h1] ?_; (with_reducible refine (spec_l2Box.calls h1 false _ y0.out).mono ?_); rintro e w' ⟨rfl, ⟨nd, rfl⟩⟩; refine ⟨_, rfl, ?_⟩))
    go_ret
    exact ⟨zq68_, zq73_⟩
  ·rw [if_neg u0] at H; have r2 : (h0 == 2) = false := beq_eq_false_iff_ne.mpr u0; have r3 : (h0 != 2) = true := bne_iff_ne.mpr u0; by_cases u1 : h0 = 3
   ·rw [if_pos u1] at H; have r4 : (h0 == 3) = true := beq_iff_eq.mpr u1; have r5 : (h0 != 3) = false := bne_eq_false_iff_eq.mpr u1; clear u1; replace H := bs_ H; obtain ⟨e4, y0, H⟩ := H; (try dsimp only at H); replace H := ifB_ H
    rcases H with ⟨rfl, H⟩ | ⟨rfl, H⟩
    ·by_cases u2 : h2 = 0
     ·rw [if_pos u2] at H; have r6 : (h2 == 0) = true := beq_iff_eq.mpr u2; have r7 : (h2 != 0) = false := bne_eq_false_iff_eq.mpr u2; clear u2; replace H := bs_ H; obtain ⟨e5, y1, H⟩ := H; (try dsimp only at H); obtain rfl := Option.some.inj H
      go_enter Try.func78, Try.ntmps78
      go_wp2_with (first | ((with_reducible refine gate_dst (N := 1) rfl ?_); refine bxe_ (N := 1) (cs := #[.int .i64 h0, .int .i64 h1, .int .i64 h2, .int .i64 h3]) (t := 34) ?_; intro d0 hg q0 C hb; have n_ := A4_ (below_step zq74_ hb) (C) ((zqa9_ : w.heap.size ≤ d0)) ((zqa9_ : w.heap.size ≤ d0)); clear HB; obtain ⟨HB, c0, B0, n0⟩ := n_; clear hb C hg; obtain ⟨j1, j2, j3, j4, k0, k1, k2, k3⟩ := bz4_ c0.out) | ((with_reducible refine gate_callee (f := 103) rfl ?_); refine gl_ 39 Try.func103 #[.int .i64 h1] ?_; (with_reducible refine (spec_l2Reg.calls h1 true _ y0.out).mono ?_); rintro e w' ⟨rfl, ⟨nd, rfl⟩⟩; refine ⟨_, rfl, ?_⟩) | (go_at_call 74; (with_reducible refine (spec_l1Num.calls h3 e5 _ y1.out).mono ?_); rintro e w' ⟨rfl, ⟨nd, rfl⟩⟩; (try clear y1)))
      go_ret
      exact ⟨zq68_, zq73_⟩
     ·rw [if_neg u2] at H; have r6 : (h2 == 0) = false := beq_eq_false_iff_ne.mpr u2; have r7 : (h2 != 0) = true := bne_iff_ne.mpr u2; obtain rfl := Option.some.inj H
      go_enter Try.func78, Try.ntmps78
      go_wp2_with (first | ((with_reducible refine gate_dst (N := 1) rfl ?_); refine bxe_ (N := 1) (cs := #[.int .i64 h0, .int .i64 h1, .int .i64 h2, .int .i64 h3]) (t := 34) ?_; intro d0 hg q0 C hb; have n_ := A4_ (below_step zq74_ hb) (C) ((zqa9_ : w.heap.size ≤ d0)) ((zqa9_ : w.heap.size ≤ d0)); clear HB; obtain ⟨HB, c0, B0, n0⟩ := n_; clear hb C hg; obtain ⟨j1, j2, j3, j4, k0, k1, k2, k3⟩ := bz4_ c0.out) | ((with_reducible refine gate_callee (f := 103) rfl ?_); refine gl_ 39 Try.func103 #[.int .i64 h1] ?_; (with_reducible refine (spec_l2Reg.calls h1 true _ y0.out).mono ?_); rintro e w' ⟨rfl, ⟨nd, rfl⟩⟩; refine ⟨_, rfl, ?_⟩))
      go_ret
      exact ⟨zq68_, zq73_⟩
    ·obtain rfl := Option.some.inj H
     go_enter Try.func78, Try.ntmps78
     go_wp2_with (first | ((with_reducible refine gate_dst (N := 1) rfl ?_); refine bxe_ (N := 1) (cs := #[.int .i64 h0, .int .i64 h1, .int .i64 h2, .int .i64 h3]) (t := 34) ?_; intro d0 hg q0 C hb; have n_ := A4_ (below_step zq74_ hb) (C) ((zqa9_ : w.heap.size ≤ d0)) ((zqa9_ : w.heap.size ≤ d0)); clear HB; obtain ⟨HB, c0, B0, n0⟩ := n_; clear hb C hg; obtain ⟨j1, j2, j3, j4, k0, k1, k2, k3⟩ := bz4_ c0.out) | ((with_reducible refine gate_callee (f := 103) rfl ?_); refine gl_ 39 Try.func103 #[.int .i64 h1] ?_; (with_reducible refine (spec_l2Reg.calls h1 false _ y0.out).mono ?_); rintro e w' ⟨rfl, ⟨nd, rfl⟩⟩; refine ⟨_, rfl, ?_⟩))
     go_ret
     exact ⟨zq68_, zq73_⟩
   ·rw [if_neg u1] at H; have r4 : (h0 == 3) = false := beq_eq_false_iff_ne.mpr u1; have r5 : (h0 != 3) = true := bne_iff_ne.mpr u1; have aa0 := Aside0.mk H; clear H
    go_enter Try.func78, Try.ntmps78
    go_upto_if 50 with (first | ((with_reducible refine gate_dst (N := 1) rfl ?_); refine bxe_ (N := 1) (cs := #[.int .i64 h0, .int .i64 h1, .int .i64 h2, .int .i64 h3]) (t := 34) ?_; intro d0 hg q0 C hb; have n_ := A4_ (below_step zq74_ hb) (C) ((zqa9_ : w.heap.size ≤ d0)) ((zqa9_ : w.heap.size ≤ d0)); clear HB; obtain ⟨HB, c0, B0, n0⟩ := n_; clear hb C hg; obtain ⟨j1, j2, j3, j4, k0, k1, k2, k3⟩ := bz4_ c0.out))
    (try simp only [Act.put, List.setIfInBounds_toArray, List.set_cons_zero, List.set_cons_succ])
    go_cut [50] (fun L0 wc => ∃ (kq : Nat) (a0 : Bool), L0 = .bool a0 ∧ Aside0 (spec_l2Ins.j0 kq h0 a0 h0 h1 h2 h3 = some r) ∧ Aside0 (kq ≤ k) ∧ Aside0 (wc.heap[d0]? = some (.cells #[.int .i64 h0, .int .i64 h1, .int .i64 h2, .int .i64 h3] 34 (0, 0))) ∧ Aside0 (Below w.heap.size w wc))
    case first =>
     have H := aa0.out; clear aa0; by_cases u2 : h0 = 4
     ·rw [if_pos u2] at H; have r6 : (h0 == 4) = true := beq_iff_eq.mpr u2; have r7 : (h0 != 4) = false := bne_eq_false_iff_eq.mpr u2; clear u2; (first | rw [r6] | (simp only [i64_w, i32_w]; rw [r6]) | skip); have H' := Aside0.mk H; clear H
      go_wp2
      go_meet
      case rel => exact ⟨_, ((h0 == 4)), zq69_, H', ⟨zq67_⟩, ⟨zq28_⟩, ⟨zq73_⟩⟩
     ·rw [if_neg u2] at H; have r6 : (h0 == 4) = false := beq_eq_false_iff_ne.mpr u2; have r7 : (h0 != 4) = true := bne_iff_ne.mpr u2; (first | rw [r6] | (simp only [i64_w, i32_w]; rw [r6]) | skip); have H' := Aside0.mk H; clear H
      go_wp2
      go_meet
      case rel => exact ⟨_, ((h0 == 5)), zq69_, H', ⟨zq67_⟩, ⟨zq28_⟩, ⟨zq73_⟩⟩
    case rest =>
     clear aa0
     try clear c1
     try clear c2
     try clear r0
     try clear r1
     try clear p2
     try clear c3
     try clear c4
     try clear c6
     try clear c7
     try clear c10
     try clear u0
     try clear r2
     try clear r3
     try clear c15
     try clear c17
     try clear u1
     try clear r4
     try clear r5
     try clear c26
     try clear u3
     try clear r6
     try clear r7
     try clear u2
     try clear r8
     try clear r9
     try clear j5 j6 j7 j8 k4 k5 k6 k7
     try clear j9 j10 j11 j12 k8 k9 k10 k11
     try clear j13 j14 j15 j16 k12 k13 k14 k15
     try clear j17 j18 j19 j20 k16 k17 k18 k19
     try clear j21 j22 j23 j24 k20 k21 k22 k23
     try clear j25 j26 j27 j28 k24 k25 k26 k27
     try clear j29 j30 j31 j32 k28 k29 k30 k31
     try clear j33 j34 j35 j36 k32 k33 k34 k35
     try clear j1 j2 j3 j4 k0 k1 k2 k3
     try clear j37 j38 j39 j40 k36 k37 k38 k39
     obtain ⟨kq, a0, rfl, HA, an0, c0, HB⟩ := hcut
     cases kq with
     | zero => exact absurd HA.out (by simp [spec_l2Ins.j0])
     | succ kj34 =>
      have H := HA.out; clear HA; simp only [spec_l2Ins.j0] at H; replace H := ifB_ H
      rcases H with ⟨rfl, H⟩ | ⟨rfl, H⟩
      ·replace H := bs_ H; obtain ⟨e6, y0, H⟩ := H; (try dsimp only at H); replace H := ifB_ H
       rcases H with ⟨rfl, H⟩ | ⟨rfl, H⟩
       ·replace H := bs_ H; obtain ⟨e7, y1, H⟩ := H; (try dsimp only at H); replace H := ifB_ H
        rcases H with ⟨rfl, H⟩ | ⟨rfl, H⟩
        ·obtain rfl := Option.some.inj H; obtain ⟨j41, j42, j43, j44, k40, k41, k42, k43⟩ := bz4_ c0.out
         go_wp2_with (first | ((with_reducible refine gate_callee (f := 103) rfl ?_); refine gl_ 55 Try.func103 #[.int .i64 h1] ?_; (with_reducible refine (spec_l2Reg.calls h1 true _ y0.out).mono ?_); rintro e w' ⟨rfl, ⟨nd, rfl⟩⟩; refine ⟨_, rfl, ?_⟩) | (go_at_call 103; (with_reducible refine (spec_l2Reg.calls h2 true _ y1.out).mono ?_); rintro e w' ⟨rfl, ⟨nd, rfl⟩⟩; (try clear y1)))
         go_ret
         exact ⟨zq68_, zq73_⟩
        ·obtain rfl := Option.some.inj H; obtain ⟨j41, j42, j43, j44, k40, k41, k42, k43⟩ := bz4_ c0.out
         go_wp2_with (first | ((with_reducible refine gate_callee (f := 103) rfl ?_); refine gl_ 55 Try.func103 #[.int .i64 h1] ?_; (with_reducible refine (spec_l2Reg.calls h1 true _ y0.out).mono ?_); rintro e w' ⟨rfl, ⟨nd, rfl⟩⟩; refine ⟨_, rfl, ?_⟩) | (go_at_call 103; (with_reducible refine (spec_l2Reg.calls h2 false _ y1.out).mono ?_); rintro e w' ⟨rfl, ⟨nd, rfl⟩⟩; (try clear y1)))
         go_ret
         exact ⟨zq68_, zq73_⟩
       ·obtain rfl := Option.some.inj H; obtain ⟨j41, j42, j43, j44, k40, k41, k42, k43⟩ := bz4_ c0.out
        go_wp2_with (first | ((with_reducible refine gate_callee (f := 103) rfl ?_); refine gl_ 55 Try.func103 #[.int .i64 h1] ?_; (with_reducible refine (spec_l2Reg.calls h1 false _ y0.out).mono ?_); rintro e w' ⟨rfl, ⟨nd, rfl⟩⟩; refine ⟨_, rfl, ?_⟩))
        go_ret
        exact ⟨zq68_, zq73_⟩
      ·by_cases u4 : h0 = 6
       ·rw [if_pos u4] at H; have r10 : (h0 == 6) = true := beq_iff_eq.mpr u4; have r11 : (h0 != 6) = false := bne_eq_false_iff_eq.mpr u4; clear u4; replace H := bs_ H; obtain ⟨e6, y0, H⟩ := H; (try dsimp only at H); replace H := ifB_ H
        rcases H with ⟨rfl, H⟩ | ⟨rfl, H⟩
        ·replace H := bs_ H; obtain ⟨e7, y1, H⟩ := H; (try dsimp only at H); replace H := ifB_ H
         rcases H with ⟨rfl, H⟩ | ⟨rfl, H⟩
         ·replace H := ifc_ H
          rcases H with ⟨c52b0, H⟩ | ⟨c52b0, H⟩
          ·change decide (1 ≤ h3) = true at c52b0; obtain rfl := Option.some.inj H; obtain ⟨j41, j42, j43, j44, k40, k41, k42, k43⟩ := bz4_ c0.out
           go_wp2_with (first | ((with_reducible refine gate_callee (f := 103) rfl ?_); refine gl_ 70 Try.func103 #[.int .i64 h1] ?_; (with_reducible refine (spec_l2Reg.calls h1 true _ y0.out).mono ?_); rintro e w' ⟨rfl, ⟨nd, rfl⟩⟩; refine ⟨_, rfl, ?_⟩) | (go_at_call 103; (with_reducible refine (spec_l2Reg.calls h2 true _ y1.out).mono ?_); rintro e w' ⟨rfl, ⟨nd, rfl⟩⟩; (try clear y1)))
           go_ret
           exact ⟨zq68_, zq73_⟩
          ·change decide (1 ≤ h3) = false at c52b0; obtain rfl := Option.some.inj H; obtain ⟨j41, j42, j43, j44, k40, k41, k42, k43⟩ := bz4_ c0.out
           go_wp2_with (first | ((with_reducible refine gate_callee (f := 103) rfl ?_); refine gl_ 70 Try.func103 #[.int .i64 h1] ?_; (with_reducible refine (spec_l2Reg.calls h1 true _ y0.out).mono ?_); rintro e w' ⟨rfl, ⟨nd, rfl⟩⟩; refine ⟨_, rfl, ?_⟩) | (go_at_call 103; (with_reducible refine (spec_l2Reg.calls h2 true _ y1.out).mono ?_); rintro e w' ⟨rfl, ⟨nd, rfl⟩⟩; (try clear y1)))
           go_ret
           exact ⟨zq68_, zq73_⟩
         ·obtain rfl := Option.some.inj H; obtain ⟨j41, j42, j43, j44, k40, k41, k42, k43⟩ := bz4_ c0.out
          go_wp2_with (first | ((with_reducible refine gate_callee (f := 103) rfl ?_); refine gl_ 70 Try.func103 #[.int .i64 h1] ?_; (with_reducible refine (spec_l2Reg.calls h1 true _ y0.out).mono ?_); rintro e w' ⟨rfl, ⟨nd, rfl⟩⟩; refine ⟨_, rfl, ?_⟩) | (go_at_call 103; (with_reducible refine (spec_l2Reg.calls h2 false _ y1.out).mono ?_); rintro e w' ⟨rfl, ⟨nd, rfl⟩⟩; (try clear y1)))
          go_ret
          exact ⟨zq68_, zq73_⟩
        ·obtain rfl := Option.some.inj H; obtain ⟨j41, j42, j43, j44, k40, k41, k42, k43⟩ := bz4_ c0.out
         go_wp2_with (first | ((with_reducible refine gate_callee (f := 103) rfl ?_); refine gl_ 70 Try.func103 #[.int .i64 h1] ?_; (with_reducible refine (spec_l2Reg.calls h1 false _ y0.out).mono ?_); rintro e w' ⟨rfl, ⟨nd, rfl⟩⟩; refine ⟨_, rfl, ?_⟩))
         go_ret
         exact ⟨zq68_, zq73_⟩
       ·rw [if_neg u4] at H; have r10 : (h0 == 6) = false := beq_eq_false_iff_ne.mpr u4; have r11 : (h0 != 6) = true := bne_iff_ne.mpr u4; by_cases u5 : h0 = 7
        ·rw [if_pos u5] at H; have r12 : (h0 == 7) = true := beq_iff_eq.mpr u5; have r13 : (h0 != 7) = false := bne_eq_false_iff_eq.mpr u5; clear u5; by_cases u6 : h1 = 0
         ·rw [if_pos u6] at H; have r14 : (h1 == 0) = true := beq_iff_eq.mpr u6; have r15 : (h1 != 0) = false := bne_eq_false_iff_eq.mpr u6; clear u6; by_cases u7 : h2 = 0
          ·rw [if_pos u7] at H; have r16 : (h2 == 0) = true := beq_iff_eq.mpr u7; have r17 : (h2 != 0) = false := bne_eq_false_iff_eq.mpr u7; clear u7; obtain rfl := Option.some.inj H; obtain ⟨j41, j42, j43, j44, k40, k41, k42, k43⟩ := bz4_ c0.out
           go_wp2
           go_ret
           exact ⟨zq68_, zq73_⟩
          ·rw [if_neg u7] at H; have r16 : (h2 == 0) = false := beq_eq_false_iff_ne.mpr u7; have r17 : (h2 != 0) = true := bne_iff_ne.mpr u7; obtain rfl := Option.some.inj H; obtain ⟨j41, j42, j43, j44, k40, k41, k42, k43⟩ := bz4_ c0.out
           go_wp2
           go_ret
           exact ⟨zq68_, zq73_⟩
         ·rw [if_neg u6] at H; have r14 : (h1 == 0) = false := beq_eq_false_iff_ne.mpr u6; have r15 : (h1 != 0) = true := bne_iff_ne.mpr u6; obtain rfl := Option.some.inj H; obtain ⟨j41, j42, j43, j44, k40, k41, k42, k43⟩ := bz4_ c0.out
          go_wp2
          go_ret
          exact ⟨zq68_, zq73_⟩
        ·rw [if_neg u5] at H; have r12 : (h0 == 7) = false := beq_eq_false_iff_ne.mpr u5; have r13 : (h0 != 7) = true := bne_iff_ne.mpr u5; obtain rfl := Option.some.inj H
         go_wp2
         go_ret
         exact ⟨zq68_, zq73_⟩

/-! ### spec_ProgOk: function 26 -/
def spec_ProgOk.l0 : Nat → List (S34) → Int → Option (Bool)
 | 0, _, _ => none
 | k + 1, x0, x3 => if x3 < (x0.length : Int) then (if 0 ≤ x3 then ((spec_l2Ins.f k ((rd_T34 x0 x3).f0) ((rd_T34 x0 x3).f1) ((rd_T34 x0 x3).f2) ((rd_T34 x0 x3).f3)).bind fun t229 => (if t229 = true then (spec_ProgOk.l0 k x0 (wrap64 (x3 + 1))) else (some false))) else (none)) else (some true)
def spec_ProgOk.f (k : Nat) (l0 : List (S34)) : Option (Bool) := if (l0.length : Int) > 10 then (some false) else (spec_ProgOk.l0 k l0 0)
theorem spec_ProgOk.mono_l : ∀ k, (∀ y0 y1, LeO (spec_ProgOk.l0 k y0 y1) (spec_ProgOk.l0 (k + 1) y0 y1))
 | 0 => fun _ _ r h => by simp [spec_ProgOk.l0] at h
 | k + 1 => by
  have G0 := spec_ProgOk.mono_l k
  ·intro y0 y1
   unfold spec_ProgOk.l0
   repeat' first
   | (with_reducible exact G0 _ _)
   | (with_reducible exact spec_l2Ins.mono _ _ _ _ _)
   | (with_reducible exact LeO.refl _)
   | (with_reducible exact LeO.none _)
   | (with_reducible refine LeO.ite ?_ ?_)
   | (with_reducible refine LeO.bind ?_ (fun _ => ?_))
   | exact G0 _ _
   | exact spec_l2Ins.mono _ _ _ _ _
   | exact LeO.none _
   | refine LeO.ite ?_ ?_
   | refine LeO.bind ?_ (fun _ => ?_)
theorem spec_ProgOk.mono : ∀ a0 k, LeO (spec_ProgOk.f k a0) (spec_ProgOk.f (k + 1) a0) := by
 intro a0 k
 have G0 := spec_ProgOk.mono_l k
 unfold spec_ProgOk.f
 repeat' first
   | (with_reducible exact G0 _ _)
   | (with_reducible exact spec_l2Ins.mono _ _ _ _ _)
   | (with_reducible exact LeO.refl _)
   | (with_reducible exact LeO.none _)
   | (with_reducible refine LeO.ite ?_ ?_)
   | (with_reducible refine LeO.bind ?_ (fun _ => ?_))
   | exact G0 _ _
   | exact spec_l2Ins.mono _ _ _ _ _
   | exact LeO.none _
   | refine LeO.ite ?_ ?_
   | refine LeO.bind ?_ (fun _ => ?_)
set_option maxHeartbeats 8000000 in
set_option maxRecDepth 100000 in
theorem spec_ProgOk.calls (k : Nat) (A0 : Option Addr) (c0 : Nat) (l0 : List (S34)) (r : Bool) (w : World) (V0 : Kd.C k34 w A0 l0.length l0) (Z0 : l0.length ≤ c0) (h : spec_ProgOk.f k l0 = some r) :
  Calls Try.prog 26 #[.slice A0 l0.length c0] w fun e w' => e = .returned (.bool r) ∧ Below w.heap.size w w' := by
 have aq0 := Try.underlying34; have U0 := Aside0.mk V0; have aa0 := Aside0.mk Z0; clear V0 Z0; have HB := Aside0.mk (Below.refl w.heap.size w); have H : (if (l0.length : Int) > 10 then (some false) else (spec_ProgOk.l0 k l0 0)) = some r := h; clear h; by_cases c2 : (l0.length : Int) > 10
 ·rw [if_pos c2] at H; have r0 : decide (10 < (l0.length : Int)) = true := decide_eq_true c2; have r1 : decide (10 < l0.length) = true := decide_eq_true (by omega); clear c2; obtain rfl := Option.some.inj H
  go_enter Try.func26, Try.ntmps26
  go_wp2
  go_ret
  exact ⟨zq68_, zq74_⟩
 ·rw [if_neg c2] at H; have r0 : decide (10 < (l0.length : Int)) = false := decide_eq_false c2; have r1 : decide (10 < l0.length) = false := decide_eq_false (by omega); clear c2; have H' := Aside0.mk H; clear H
  go_enter Try.func26, Try.ntmps26
  go_wp2
  go_loopg [3] k (fun kq v3 w' => ∃ (a0 : Int), v3 = .int .i64 a0 ∧ Aside0 (spec_ProgOk.l0 kq l0 a0 = some r) ∧ Aside0 (kq ≤ k) ∧ Aside0 (Below w.heap.size w w'))
  case atStart => exact ⟨(0), zq69_, H', ⟨Nat.le_refl _⟩, ⟨zq74_⟩⟩
  case round =>
   clear H'
   try clear c2
   try clear r0
   try clear r1
   try clear p2
   obtain ⟨a0, rfl, HA, X0, HB⟩ := hrel
   cases gk with
   | zero => exact absurd HA.out (by simp [spec_ProgOk.l0])
   | succ k1 =>
    have H := HA.out; clear HA; simp only [spec_ProgOk.l0] at H; replace H := ifc_ H
    rcases H with ⟨c3b0, H⟩ | ⟨c3b0, H⟩
    ·replace H := ifd_ H; obtain ⟨r2, H⟩ := H; replace H := bs_ H; obtain ⟨e0, A5, H⟩ := H; (try dsimp only at H); replace H := ifB_ H
     rcases H with ⟨rfl, H⟩ | ⟨rfl, H⟩
     ·have H' := Aside0.mk H; clear H; have x0 : 0 ≤ (a0 : Int) := of_decide_eq_true zq64_; have v0 : a0 < (l0.length : Int) := of_decide_eq_true zq64_; obtain ⟨E0, M0, s0, s1, s2, s3⟩ := at_T34 U0.out a0 x0 v0; cases M0; replace s0 := pb_ HB.out s0; replace s1 := pb_ HB.out s1; replace s2 := pb_ HB.out s2; replace s3 := pb_ HB.out s3; replace x0 := eq_true x0; replace v0 := eq_true v0
      go_wp2_with (first | ((with_reducible refine gate_callee (f := 78) rfl ?_); refine gl_ 17 Try.func78 #[.agg #[.int .i64 ((rd_T34 l0 a0).f0), .int .i64 ((rd_T34 l0 a0).f1), .int .i64 ((rd_T34 l0 a0).f2), .int .i64 ((rd_T34 l0 a0).f3)]] ?_; (with_reducible refine (spec_l2Ins.calls k1 ((rd_T34 l0 a0).f0) ((rd_T34 l0 a0).f1) ((rd_T34 l0 a0).f2) ((rd_T34 l0 a0).f3) true _ A5.out).mono ?_); rintro e w7 ⟨rfl, hb⟩; refine ⟨_, rfl, ?_⟩; replace HB := Aside0.mk (below_step zq74_ hb); (try clear hb)))
      go_roundg k1
      case measure => have := X0.out; omega
      case rel => exact ⟨(wrap64 (a0 + 1)), zq69_, H', ⟨by have := X0.out; omega⟩, ⟨zq74_⟩⟩
     ·obtain rfl := Option.some.inj H; have x0 : 0 ≤ (a0 : Int) := of_decide_eq_true zq64_; have v0 : a0 < (l0.length : Int) := of_decide_eq_true zq64_; obtain ⟨E0, M0, s0, s1, s2, s3⟩ := at_T34 U0.out a0 x0 v0; cases M0; replace s0 := pb_ HB.out s0; replace s1 := pb_ HB.out s1; replace s2 := pb_ HB.out s2; replace s3 := pb_ HB.out s3; replace x0 := eq_true x0; replace v0 := eq_true v0
      go_wp2_with (first | ((with_reducible refine gate_callee (f := 78) rfl ?_); refine gl_ 17 Try.func78 #[.agg #[.int .i64 ((rd_T34 l0 a0).f0), .int .i64 ((rd_T34 l0 a0).f1), .int .i64 ((rd_T34 l0 a0).f2), .int .i64 ((rd_T34 l0 a0).f3)]] ?_; (with_reducible refine (spec_l2Ins.calls k1 ((rd_T34 l0 a0).f0) ((rd_T34 l0 a0).f1) ((rd_T34 l0 a0).f2) ((rd_T34 l0 a0).f3) false _ A5.out).mono ?_); rintro e w8 ⟨rfl, hb⟩; refine ⟨_, rfl, ?_⟩; replace HB := Aside0.mk (below_step zq74_ hb); (try clear hb)))
      go_ret
      exact ⟨zq68_, zq74_⟩
    ·obtain rfl := Option.some.inj H
     go_wp2
     go_ret
     exact ⟨zq68_, zq74_⟩

/-! ### spec_l3Saw: function 76 -/
def spec_l3Saw.l0 : Nat → List (S48) → Int → Int → Option (Bool)
 | 0, _, _, _ => none
 | k + 1, x0, x1, x5 => if x5 < (x0.length : Int) then (if 0 ≤ x5 then (if ((rd_T48 x0 x5).f0) = x1 then (some true) else (spec_l3Saw.l0 k x0 x1 (wrap64 (x5 + 1)))) else (none)) else (some false)
def spec_l3Saw.f (k : Nat) (l0 : List (S48)) (a1 : Int) : Option (Bool) := spec_l3Saw.l0 k l0 a1 0
theorem spec_l3Saw.mono_l : ∀ k, (∀ y0 y1 y2, LeO (spec_l3Saw.l0 k y0 y1 y2) (spec_l3Saw.l0 (k + 1) y0 y1 y2))
 | 0 => fun _ _ _ r h => by simp [spec_l3Saw.l0] at h
 | k + 1 => by
  have G0 := spec_l3Saw.mono_l k
  ·intro y0 y1 y2
   unfold spec_l3Saw.l0
   repeat' first
   | (with_reducible exact G0 _ _ _)
   | (with_reducible exact LeO.refl _)
   | (with_reducible exact LeO.none _)
   | (with_reducible refine LeO.ite ?_ ?_)
   | (with_reducible refine LeO.bind ?_ (fun _ => ?_))
   | exact G0 _ _ _
   | exact LeO.none _
   | refine LeO.ite ?_ ?_
   | refine LeO.bind ?_ (fun _ => ?_)
theorem spec_l3Saw.mono : ∀ a0 a1 k, LeO (spec_l3Saw.f k a0 a1) (spec_l3Saw.f (k + 1) a0 a1) := by
 intro a0 a1 k
 have G0 := spec_l3Saw.mono_l k
 unfold spec_l3Saw.f
 repeat' first
   | (with_reducible exact G0 _ _ _)
   | (with_reducible exact LeO.refl _)
   | (with_reducible exact LeO.none _)
   | (with_reducible refine LeO.ite ?_ ?_)
   | (with_reducible refine LeO.bind ?_ (fun _ => ?_))
   | exact G0 _ _ _
   | exact LeO.none _
   | refine LeO.ite ?_ ?_
   | refine LeO.bind ?_ (fun _ => ?_)
set_option maxHeartbeats 8000000 in
set_option maxRecDepth 100000 in
theorem spec_l3Saw.calls (k : Nat) (A0 : Option Addr) (c0 : Nat) (l0 : List (S48)) (a1 : Int) (r : Bool) (w : World) (V0 : Kd.C k48 w A0 l0.length l0) (Z0 : l0.length ≤ c0) (h : spec_l3Saw.f k l0 a1 = some r) :
  Calls Try.prog 76 #[.slice A0 l0.length c0, .int .i64 a1] w fun e w' => e = .returned (.bool r) ∧ Drawn0 w w' := by
 have U0 := Aside0.mk V0; have aa0 := Aside0.mk Z0; clear V0 Z0; have H : (spec_l3Saw.l0 k l0 a1 0) = some r := h; clear h; have H' := Aside0.mk H; clear H
 go_enter Try.func76, Try.ntmps76
 go_wp2
 go_loopg [5] k (fun kq v5 w' => ∃ (a0 : Int), v5 = .int .i64 a0 ∧ Aside0 (spec_l3Saw.l0 kq l0 a1 a0 = some r) ∧ Aside0 (kq ≤ k) ∧ Drawn0 w w')
 case atStart => exact ⟨(0), zq69_, H', ⟨Nat.le_refl _⟩, zq8e_⟩
 case round =>
  clear H'
  try clear p2
  obtain ⟨a0, rfl, HA, X0, ⟨m1, rfl⟩⟩ := hrel
  cases gk with
  | zero => exact absurd HA.out (by simp [spec_l3Saw.l0])
  | succ k1 =>
   have H := HA.out; clear HA; simp only [spec_l3Saw.l0] at H; replace H := ifc_ H
   rcases H with ⟨c3b0, H⟩ | ⟨c3b0, H⟩
   ·replace H := ifd_ H; obtain ⟨r0, H⟩ := H; by_cases c5 : ((rd_T48 l0 a0).f0) = a1
    ·rw [if_pos c5] at H; have r1 : (((rd_T48 l0 a0).f0) == a1) = true := beq_iff_eq.mpr c5; have r2 : (((rd_T48 l0 a0).f0) != a1) = false := bne_eq_false_iff_eq.mpr c5; clear c5; obtain rfl := Option.some.inj H; have x0 : 0 ≤ (a0 : Int) := of_decide_eq_true zq64_; have v0 : a0 < (l0.length : Int) := of_decide_eq_true zq64_; obtain ⟨E0, M0, s0, s1⟩ := at_T48 U0.out a0 x0 v0; cases M0; replace x0 := eq_true x0; replace v0 := eq_true v0
     go_wp2
     go_ret
     exact ⟨zq69_, zq8e_⟩
    ·rw [if_neg c5] at H; have r1 : (((rd_T48 l0 a0).f0) == a1) = false := beq_eq_false_iff_ne.mpr c5; have r2 : (((rd_T48 l0 a0).f0) != a1) = true := bne_iff_ne.mpr c5; have H' := Aside0.mk H; clear H; have x0 : 0 ≤ (a0 : Int) := of_decide_eq_true zq64_; have v0 : a0 < (l0.length : Int) := of_decide_eq_true zq64_; obtain ⟨E0, M0, s0, s1⟩ := at_T48 U0.out a0 x0 v0; cases M0; replace x0 := eq_true x0; replace v0 := eq_true v0
     go_wp2
     go_roundg k1
     case measure => have := X0.out; omega
     case rel => exact ⟨(wrap64 (a0 + 1)), zq69_, H', ⟨by have := X0.out; omega⟩, zq8e_⟩
   ·obtain rfl := Option.some.inj H
    go_wp2
    go_ret
    exact ⟨zq69_, zq8e_⟩

end Go.Proofs.Ytgdafcakefnpdaa.PFnSerialOne
