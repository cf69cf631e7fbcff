-- Laid by this session's program out of the translation (gen.sh).
import Derived.Test.YtgdafcakefnpdaaPFnExactSerialOnex0
import Derived.Test.YtgdafcakefnpdaaPFnExactSerialOnex1
namespace Go.Proofs.Ytgdafcakefnpdaa.PFnExactSerialOne
open Go.RowKit Go.Proofs.YtgdafcakefnpdaaW.PrintWords Go.Proofs.YtgdafcakefnpdaaW.PrintLast Go.Proofs.YtgdafcakefnpdaaW.PrintMore
attribute [local go_sem] max2_int min2_int max_two min_two max_three min_three max_four min_four   -- for this text's walks alone
set_option linter.unusedVariables false
set_option linter.unusedSimpArgs false

/-! ### spec_l2Ins: function 78 -/
def spec_l2Ins.j0 : Nat → Int → Bool → Int → Int → Int → Int → Option (Bool)
 | 0, _, _, _, _, _, _ => none
 | k + 1, x4, x50, x106000, x106001, x106002, x106003 => if x50 = true then ((spec_l2Reg.f x106001).bind fun t112 => (if t112 = true then ((spec_l2Reg.f x106002).bind fun t113 => (if t113 = true then (some (x106003 == 0)) else (some false))) else (some false))) else (if x4 = 6 then ((spec_l2Reg.f x106001).bind fun t114 => (if t114 = true then ((spec_l2Reg.f x106002).bind fun t115 => (if t115 = true then (if x106003 ≥ 1 then (some (decide (x106003 ≤ 10))) else (some false)) else (some false))) else (some false))) else (if x4 = 7 then (if x106001 = 0 then (if x106002 = 0 then (some (x106003 == 0)) else (some false)) else (some false)) else (some false)))
def spec_l2Ins.f (k : Nat) (a0_0 : Int) (a0_1 : Int) (a0_2 : Int) (a0_3 : Int) : Option (Bool) := if a0_0 = 1 then ((spec_l2Reg.f a0_1).bind fun t106 => (if t106 = true then ((spec_l2Box.f a0_2).bind fun t107 => (if t107 = true then (some (a0_3 == 0)) else (some false))) else (some false))) else (if a0_0 = 2 then ((spec_l2Box.f a0_1).bind fun t108 => (if t108 = true then ((spec_l2Reg.f a0_2).bind fun t109 => (if t109 = true then (some (a0_3 == 0)) else (some false))) else (some false))) else (if a0_0 = 3 then ((spec_l2Reg.f a0_1).bind fun t110 => (if t110 = true then (if a0_2 = 0 then ((spec_l1Num.f a0_3).bind fun t111 => (some t111)) else (some false)) else (some false))) else (if a0_0 = 4 then (spec_l2Ins.j0 k a0_0 (a0_0 == 4) a0_0 a0_1 a0_2 a0_3) else (spec_l2Ins.j0 k a0_0 (a0_0 == 5) a0_0 a0_1 a0_2 a0_3))))
theorem spec_l2Ins.mono_l : ∀ k, (∀ y0 y1 y2 y3 y4 y5, LeO (spec_l2Ins.j0 k y0 y1 y2 y3 y4 y5) (spec_l2Ins.j0 (k + 1) y0 y1 y2 y3 y4 y5))
 | 0 => fun _ _ _ _ _ _ r h => by simp [spec_l2Ins.j0] at h
 | k + 1 => by
  have E0 := spec_l2Ins.mono_l k
  ·intro y0 y1 y2 y3 y4 y5
   unfold spec_l2Ins.j0
   repeat' first
   | (with_reducible exact E0 _ _ _ _ _ _)
   | (with_reducible exact LeO.refl _)
   | (with_reducible exact LeO.none _)
   | (with_reducible refine LeO.ite ?_ ?_)
   | (with_reducible refine LeO.bind ?_ (fun _ => ?_))
   | exact E0 _ _ _ _ _ _
   | exact LeO.none _
   | refine LeO.ite ?_ ?_
   | refine LeO.bind ?_ (fun _ => ?_)
theorem spec_l2Ins.mono : ∀ a0 a1 a2 a3 k, LeO (spec_l2Ins.f k a0 a1 a2 a3) (spec_l2Ins.f (k + 1) a0 a1 a2 a3) := by
 intro a0 a1 a2 a3 k
 have E0 := spec_l2Ins.mono_l k
 unfold spec_l2Ins.f
 repeat' first
   | (with_reducible exact E0 _ _ _ _ _ _)
   | (with_reducible exact LeO.refl _)
   | (with_reducible exact LeO.none _)
   | (with_reducible refine LeO.ite ?_ ?_)
   | (with_reducible refine LeO.bind ?_ (fun _ => ?_))
   | exact E0 _ _ _ _ _ _
   | exact LeO.none _
   | refine LeO.ite ?_ ?_
   | refine LeO.bind ?_ (fun _ => ?_)
set_option maxHeartbeats 8000000 in
set_option maxRecDepth 100000 in
theorem spec_l2Ins.calls (k : Nat) (e0 : Int) (e1 : Int) (e2 : Int) (e3 : Int) (r : Bool) (w : World) (h : spec_l2Ins.f k e0 e1 e2 e3 = some r) :
  Calls Try.prog 78 #[.agg #[.int .i64 e0, .int .i64 e1, .int .i64 e2, .int .i64 e3]] w fun e w' => e = .returned (.bool r) ∧ Below w.heap.size w w' := by
 have ar0 := Try.underlying34; have HB := Aside0.mk (Below.refl w.heap.size w); have H : (if e0 = 1 then ((spec_l2Reg.f e1).bind fun i0 => (if i0 = true then ((spec_l2Box.f e2).bind fun i1 => (if i1 = true then (some (e3 == 0)) else (some false))) else (some false))) else (if e0 = 2 then ((spec_l2Box.f e1).bind fun i2 => (if i2 = true then ((spec_l2Reg.f e2).bind fun i3 => (if i3 = true then (some (e3 == 0)) else (some false))) else (some false))) else (if e0 = 3 then ((spec_l2Reg.f e1).bind fun i4 => (if i4 = true then (if e2 = 0 then ((spec_l1Num.f e3).bind fun i5 => (some i5)) else (some false)) else (some false))) else (if e0 = 4 then (spec_l2Ins.j0 k e0 (e0 == 4) e0 e1 e2 e3) else (spec_l2Ins.j0 k e0 (e0 == 5) e0 e1 e2 e3))))) = some r := h; clear h; by_cases c2 : e0 = 1
 ·rw [if_pos c2] at H; have r0 : (e0 == 1) = true := beq_iff_eq.mpr c2; have r1 : (e0 != 1) = false := bne_eq_false_iff_eq.mpr c2; clear c2; replace H := bs_ H; obtain ⟨i0, A3, H⟩ := H; (try dsimp only at H); replace H := ifB_ H
  rcases H with ⟨rfl, H⟩ | ⟨rfl, H⟩
  ·replace H := bs_ H; obtain ⟨i1, A5, H⟩ := H; (try dsimp only at H); replace H := ifB_ H
   rcases H with ⟨rfl, H⟩ | ⟨rfl, H⟩
   ·obtain rfl := Option.some.inj H
    go_enter Try.func78, Try.ntmps78
    go_wp2_with (first | ((with_reducible refine gate_dst (N := 1) rfl ?_); refine bxe_ (N := 1) (cs := #[.int .i64 e0, .int .i64 e1, .int .i64 e2, .int .i64 e3]) (t := 34) ?_; intro c0 hg w7 x hb; have n_ := A4_ (below_step zq54_ hb) (x) ((zq81_ : w.heap.size ≤ c0)) ((zq81_ : w.heap.size ≤ c0)); clear HB; obtain ⟨HB, b0, z0, j1⟩ := n_; clear hb x hg; obtain ⟨g0, g1, g2, g3, h0, h1, h2, h3⟩ := bz4_ b0.out) | ((with_reducible refine gate_callee (f := 103) rfl ?_); refine gl_ 9 Try.func103 #[.int .i64 e1] ?_; (with_reducible refine (spec_l2Reg.calls e1 true _ A3.out).mono ?_); rintro e w' ⟨rfl, ⟨nd, rfl⟩⟩; refine ⟨_, rfl, ?_⟩) | (go_at_call 75; (with_reducible refine (spec_l2Box.calls e2 true _ A5.out).mono ?_); rintro e w' ⟨rfl, ⟨nd, rfl⟩⟩; (try clear A5)))
    go_ret
    exact ⟨zq44_, zq53_⟩
   ·obtain rfl := Option.some.inj H
    go_enter Try.func78, Try.ntmps78
    go_wp2_with (first | ((with_reducible refine gate_dst (N := 1) rfl ?_); refine bxe_ (N := 1) (cs := #[.int .i64 e0, .int .i64 e1, .int .i64 e2, .int .i64 e3]) (t := 34) ?_; intro c0 hg w9 x hb; have n_ := A4_ (below_step zq54_ hb) (x) ((zq81_ : w.heap.size ≤ c0)) ((zq81_ : w.heap.size ≤ c0)); clear HB; obtain ⟨HB, b0, z0, j1⟩ := n_; clear hb x hg; obtain ⟨g0, g1, g2, g3, h0, h1, h2, h3⟩ := bz4_ b0.out) | ((with_reducible refine gate_callee (f := 103) rfl ?_); refine gl_ 9 Try.func103 #[.int .i64 e1] ?_; (with_reducible refine (spec_l2Reg.calls e1 true _ A3.out).mono ?_); rintro e w' ⟨rfl, ⟨nd, rfl⟩⟩; refine ⟨_, rfl, ?_⟩) | (go_at_call 75; (with_reducible refine (spec_l2Box.calls e2 false _ A5.out).mono ?_); rintro e w' ⟨rfl, ⟨nd, rfl⟩⟩; (try clear A5)))
    go_ret
    exact ⟨zq44_, zq53_⟩
  ·obtain rfl := Option.some.inj H
   go_enter Try.func78, Try.ntmps78
   go_wp2_with (first | ((with_reducible refine gate_dst (N := 1) rfl ?_); refine bxe_ (N := 1) (cs := #[.int .i64 e0, .int .i64 e1, .int .i64 e2, .int .i64 e3]) (t := 34) ?_; intro c0 hg q0 x hb; have n_ := A4_ (below_step zq54_ hb) (x) ((zq81_ : w.heap.size ≤ c0)) ((zq81_ : w.heap.size ≤ c0)); clear HB; obtain ⟨HB, b0, z0, j1⟩ := n_; clear hb x hg; obtain ⟨g0, g1, g2, g3, h0, h1, h2, h3⟩ := bz4_ b0.out) | ((with_reducible refine gate_callee (f := 103) rfl ?_); refine gl_ 9 Try.func103 #[.int .i64 e1] ?_; (with_reducible refine (spec_l2Reg.calls e1 false _ A3.out).mono ?_); rintro e w' ⟨rfl, ⟨nd, rfl⟩⟩; refine ⟨_, rfl, ?_⟩))
   go_ret
   exact ⟨zq44_, zq53_⟩
 ·rw [if_neg c2] at H; have r0 : (e0 == 1) = false := beq_eq_false_iff_ne.mpr c2; have r1 : (e0 != 1) = true := bne_iff_ne.mpr c2; by_cases u0 : e0 = 2
  ·rw [if_pos u0] at H; have r2 : (e0 == 2) = true := beq_iff_eq.mpr u0; have r3 : (e0 != 2) = false := bne_eq_false_iff_eq.mpr u0; clear u0; replace H := bs_ H; obtain ⟨i2, F0, H⟩ := H; (try dsimp only at H); replace H := ifB_ H
   rcases H with ⟨rfl, H⟩ | ⟨rfl, H⟩
   ·replace H := bs_ H; obtain ⟨i3, F1, H⟩ := H; (try dsimp only at H); replace H := ifB_ H
    rcases H with ⟨rfl, H⟩ | ⟨rfl, H⟩
    ·obtain rfl := Option.some.inj H
     go_enter Try.func78, Try.ntmps78
     go_wp2_with (first | ((with_reducible refine gate_dst (N := 1) rfl ?_); refine bxe_ (N := 1) (cs := #[.int .i64 e0, .int .i64 e1, .int .i64 e2, .int .i64 e3]) (t := 34) ?_; intro c0 hg q0 x hb; have n_ := A4_ (below_step zq54_ hb) (x) ((zq81_ : w.heap.size ≤ c0)) ((zq81_ : w.heap.size ≤ c0)); clear HB; obtain ⟨HB, b0, z0, j1⟩ := n_; clear hb x hg; obtain ⟨g0, g1, g2, g3, h0, h1, h2, h3⟩ := bz4_ b0.out) | ((with_reducible refine gate_callee (f := 75) rfl ?_); refine gl_ 24 Try.func75 #[.int .i64 e1] ?_; (with_reducible refine (spec_l2Box.calls e1 true _ F0.out).mono ?_); rintro e w' ⟨rfl, ⟨nd, rfl⟩⟩; refine ⟨_, rfl, ?_⟩) | (go_at_call 103; (with_reducible refine (spec_l2Reg.calls e2 true _ F1.out).mono ?_); rintro e w' ⟨rfl, ⟨nd, rfl⟩⟩; (try clear F1)))
     go_ret
     exact ⟨zq44_, zq53_⟩
    ·obtain rfl := Option.some.inj H
     go_enter Try.func78, Try.ntmps78
     go_wp2_with (first | ((with_reducible refine gate_dst (N := 1) rfl ?_); refine bxe_ (N := 1) (cs := #[.int .i64 e0, .int .i64 e1, .int .i64 e2, .int .i64 e3]) (t := 34) ?_; intro c0 hg q0 x hb; have n_ := A4_ (below_step zq54_ hb) (x) ((zq81_ : w.heap.size ≤ c0)) ((zq81_ : w.heap.size ≤ c0)); clear HB; obtain ⟨HB, b0, z0, j1⟩ := n_; clear hb x hg; obtain ⟨g0, g1, g2, g3, h0, h1, h2, h3⟩ := bz4_ b0.out) | ((with_reducible refine gate_callee (f := 75) rfl ?_); refine gl_ 24 Try.func75 #[.int .i64 e1] ?_; (with_reducible refine (spec_l2Box.calls e1 true _ F0.out).mono ?_); rintro e w' ⟨rfl, ⟨nd, rfl⟩⟩; refine ⟨_, rfl, ?_⟩) | (go_at_call 103; (with_reducible refine (spec_l2Reg.calls e2 false _ F1.out).mono ?_); rintro e w' ⟨rfl, ⟨nd, rfl⟩⟩; (try clear F1)))
     go_ret
     exact ⟨zq44_, zq53_⟩
   ·obtain rfl := Option.some.inj H
    go_enter Try.func78, Try.ntmps78
    go_wp2_with (first | ((with_reducible refine gate_dst (N := 1) rfl ?_); refine bxe_ (N := 1) (cs := #[.int .i64 e0, .int .i64 e1, .int .i64 e2, .int .i64 e3]) (t := 34) ?_; intro c0 hg q0 x hb; have n_ := A4_ (below_step zq54_ hb) (x) ((zq81_ : w.heap.size ≤ c0)) ((zq81_ : w.heap.size ≤ c0)); clear HB; obtain ⟨HB, b0, z0, j1⟩ := n_; clear hb x hg; obtain ⟨g0, g1, g2, g3, h0, h1, h2, h3⟩ := bz4_ b0.out) | ((with_reducible refine gate_callee (f := 75) rfl ?_); refine gl_ 24 Try.func75 #[.int .i64 e1] ?_; (with_reducible refine (spec_l2Box.calls e1 false _ F0.out).mono ?_); rintro e w' ⟨rfl, ⟨nd, rfl⟩⟩; refine ⟨_, rfl, ?_⟩))
    go_ret
    exact ⟨zq44_, zq53_⟩
  ·rw [if_neg u0] at H; have r2 : (e0 == 2) = false := beq_eq_false_iff_ne.mpr u0; have r3 : (e0 != 2) = true := bne_iff_ne.mpr u0; by_cases u1 : e0 = 3
   ·rw [if_pos u1] at H; have r4 : (e0 == 3) = true := beq_iff_eq.mpr u1; have r5 : (e0 != 3) = false := bne_eq_false_iff_eq.mpr u1; clear u1; replace H := bs_ H; obtain ⟨i4, F0, H⟩ := H; (try dsimp only at H); replace H := ifB_ H
    rcases H with ⟨rfl, H⟩ | ⟨rfl, H⟩
    ·by_cases u2 : e2 = 0
     ·rw [if_pos u2] at H; have r6 : (e2 == 0) = true := beq_iff_eq.mpr u2; have r7 : (e2 != 0) = false := bne_eq_false_iff_eq.mpr u2; clear u2; replace H := bs_ H; obtain ⟨i5, F1, H⟩ := H; (try dsimp only at H); obtain rfl := Option.some.inj H
      go_enter Try.func78, Try.ntmps78
      go_wp2_with (first | ((with_reducible refine gate_dst (N := 1) rfl ?_); refine bxe_ (N := 1) (cs := #[.int .i64 e0, .int .i64 e1, .int .i64 e2, .int .i64 e3]) (t := 34) ?_; intro c0 hg q0 x hb; have n_ := A4_ (below_step zq54_ hb) (x) ((zq81_ : w.heap.size ≤ c0)) ((zq81_ : w.heap.size ≤ c0)); clear HB; obtain ⟨HB, b0, z0, j1⟩ := n_; clear hb x hg; obtain ⟨g0, g1, g2, g3, h0, h1, h2, h3⟩ := bz4_ b0.out) | ((with_reducible refine gate_callee (f := 103) rfl ?_); refine gl_ 39 Try.func103 #[.int .i64 e1] ?_; (with_reducible refine (spec_l2Reg.calls e1 true _ F0.out).mono ?_); rintro e w' ⟨rfl, ⟨nd, rfl⟩⟩; refine ⟨_, rfl, ?_⟩) | (go_at_call 74; (with_reducible refine (spec_l1Num.calls e3 i5 _ F1.out).mono ?_); rintro e w' ⟨rfl, ⟨nd, rfl⟩⟩; (try clear F1)))
      go_ret
      exact ⟨zq44_, zq53_⟩
     ·rw [if_neg u2] at H; have r6 : (e2 == 0) = false := beq_eq_false_iff_ne.mpr u2; have r7 : (e2 != 0) = true := bne_iff_ne.mpr u2; obtain rfl := Option.some.inj H
      go_enter Try.func78, Try.ntmps78
      go_wp2_with (first | ((with_reducible refine gate_dst (N := 1) rfl ?_); refine bxe_ (N := 1) (cs := #[.int .i64 e0, .int .i64 e1, .int .i64 e2, .int .i64 e3]) (t := 34) ?_; intro c0 hg q0 x hb; have n_ := A4_ (below_step zq54_ hb) (x) ((zq81_ : w.heap.size ≤ c0)) ((zq81_ : w.heap.size ≤ c0)); clear HB; obtain ⟨HB, b0, z0, j1⟩ := n_; clear hb x hg; obtain ⟨g0, g1, g2, g3, h0, h1, h2, h3⟩ := bz4_ b0.out) | ((with_reducible refine gate_callee (f := 103) rfl ?_); refine gl_ 39 Try.func103 #[.int .i64 e1] ?_; (with_reducible refine (spec_l2Reg.calls e1 true _ F0.out).mono ?_); rintro e w' ⟨rfl, ⟨nd, rfl⟩⟩; refine ⟨_, rfl, ?_⟩))
      go_ret
      exact ⟨zq44_, zq53_⟩
    ·obtain rfl := Option.some.inj H
     go_enter Try.func78, Try.ntmps78
     go_wp2_with (first | ((with_reducible refine gate_dst (N := 1) rfl ?_); refine bxe_ (N := 1) (cs := #[.int .i64 e0, .int .i64 e1, .int .i64 e2, .int .i64 e3]) (t := 34) ?_; intro c0 hg q0 x hb; have n_ := A4_ (below_step zq54_ hb) (x) ((zq81_ : w.heap.size ≤ c0)) ((zq81_ : w.heap.size ≤ c0)); clear HB; obtain ⟨HB, b0, z0, j1⟩ := n_; clear hb x hg; obtain ⟨g0, g1, g2, g3, h0, h1, h2, h3⟩ := bz4_ b0.out) | ((with_reducible refine gate_callee (f := 103) rfl ?_); refine gl_ 39 Try.func103 #[.int .i64 e1] ?_; (with_reducible refine (spec_l2Reg.calls e1 false _ F0.out).mono ?_); rintro e w' ⟨rfl, ⟨nd, rfl⟩⟩; refine ⟨_, rfl, ?_⟩))
     go_ret
     exact ⟨zq44_, zq53_⟩
   ·rw [if_neg u1] at H; have r4 : (e0 == 3) = false := beq_eq_false_iff_ne.mpr u1; have r5 : (e0 != 3) = true := bne_iff_ne.mpr u1; have X0 := Aside0.mk H; clear H
    go_enter Try.func78, Try.ntmps78
    go_upto_if 50 with (first | ((with_reducible refine gate_dst (N := 1) rfl ?_); refine bxe_ (N := 1) (cs := #[.int .i64 e0, .int .i64 e1, .int .i64 e2, .int .i64 e3]) (t := 34) ?_; intro c0 hg q0 x hb; have n_ := A4_ (below_step zq54_ hb) (x) ((zq81_ : w.heap.size ≤ c0)) ((zq81_ : w.heap.size ≤ c0)); clear HB; obtain ⟨HB, b0, z0, j1⟩ := n_; clear hb x hg; obtain ⟨g0, g1, g2, g3, h0, h1, h2, h3⟩ := bz4_ b0.out))
    (try simp only [Act.put, List.setIfInBounds_toArray, List.set_cons_zero, List.set_cons_succ])
    go_cut [50] (fun af0 wc => ∃ (kq : Nat) (a0 : Bool), af0 = .bool a0 ∧ Aside0 (spec_l2Ins.j0 kq e0 a0 e0 e1 e2 e3 = some r) ∧ Aside0 (kq ≤ k) ∧ Aside0 (wc.heap[c0]? = some (.cells #[.int .i64 e0, .int .i64 e1, .int .i64 e2, .int .i64 e3] 34 (0, 0))) ∧ Aside0 (Below w.heap.size w wc))
    case first =>
     have H := X0.out; clear X0; by_cases u2 : e0 = 4
     ·rw [if_pos u2] at H; have r6 : (e0 == 4) = true := beq_iff_eq.mpr u2; have r7 : (e0 != 4) = false := bne_eq_false_iff_eq.mpr u2; clear u2; (first | rw [r6] | (simp only [i64_w, i32_w]; rw [r6]) | skip); have H' := Aside0.mk H; clear H
      go_wp2
      go_meet
      case rel => exact ⟨_, ((e0 == 4)), zq45_, H', ⟨zq43_⟩, ⟨zq19_⟩, ⟨zq53_⟩⟩
     ·rw [if_neg u2] at H; have r6 : (e0 == 4) = false := beq_eq_false_iff_ne.mpr u2; have r7 : (e0 != 4) = true := bne_iff_ne.mpr u2; (first | rw [r6] | (simp only [i64_w, i32_w]; rw [r6]) | skip); have H' := Aside0.mk H; clear H
      go_wp2
      go_meet
      case rel => exact ⟨_, ((e0 == 5)), zq45_, H', ⟨zq43_⟩, ⟨zq19_⟩, ⟨zq53_⟩⟩
    case rest =>
     clear X0
     try clear c1
     try clear c2
     try clear r0
     try clear r1
     try clear p2
     try clear c3
     try clear c4
     try clear c6
     try clear c7
     try clear c10
     try clear u0
     try clear r2
     try clear r3
     try clear c15
     try clear c17
     try clear u1
     try clear r4
     try clear r5
     try clear c26
     try clear u3
     try clear r6
     try clear r7
     try clear u2
     try clear r8
     try clear r9
     try clear g4 g5 g6 g7 h4 h5 h6 h7
     try clear g8 g9 g10 g11 h8 h9 h10 h11
     try clear g12 g13 g14 g15 h12 h13 h14 h15
     try clear g16 g17 g18 g19 h16 h17 h18 h19
     try clear g20 g21 g22 g23 h20 h21 h22 h23
     try clear g24 g25 g26 g27 h24 h25 h26 h27
     try clear g28 g29 g30 g31 h28 h29 h30 h31
     try clear g32 g33 g34 g35 h32 h33 h34 h35
     try clear g0 g1 g2 g3 h0 h1 h2 h3
     try clear g36 g37 g38 g39 h36 h37 h38 h39
     obtain ⟨kq, a0, rfl, HA, ap0, b0, HB⟩ := hcut
     cases kq with
     | zero => exact absurd HA.out (by simp [spec_l2Ins.j0])
     | succ kj34 =>
      have H := HA.out; clear HA; simp only [spec_l2Ins.j0] at H; replace H := ifB_ H
      rcases H with ⟨rfl, H⟩ | ⟨rfl, H⟩
      ·replace H := bs_ H; obtain ⟨i6, F0, H⟩ := H; (try dsimp only at H); replace H := ifB_ H
       rcases H with ⟨rfl, H⟩ | ⟨rfl, H⟩
       ·replace H := bs_ H; obtain ⟨i7, F1, H⟩ := H; (try dsimp only at H); replace H := ifB_ H
        rcases H with ⟨rfl, H⟩ | ⟨rfl, H⟩
        ·obtain rfl := Option.some.inj H; obtain ⟨g40, g41, g42, g43, h40, h41, h42, h43⟩ := bz4_ b0.out
         go_wp2_with (first | ((with_reducible refine gate_callee (f := 103) rfl ?_); refine gl_ 55 Try.func103 #[.int .i64 e1] ?_; (with_reducible refine (spec_l2Reg.calls e1 true _ F0.out).mono ?_); rintro e w' ⟨rfl, ⟨nd, rfl⟩⟩; refine ⟨_, rfl, ?_⟩) | (go_at_call 103; (with_reducible refine (spec_l2Reg.calls e2 true _ F1.out).mono ?_); rintro e w' ⟨rfl, ⟨nd, rfl⟩⟩; (try clear F1)))
         go_ret
         exact ⟨zq44_, zq53_⟩
        ·obtain rfl := Option.some.inj H; obtain ⟨g40, g41, g42, g43, h40, h41, h42, h43⟩ := bz4_ b0.out
         go_wp2_with (first | ((with_reducible refine gate_callee (f := 103) rfl ?_); refine gl_ 55 Try.func103 #[.int .i64 e1] ?_; (with_reducible refine (spec_l2Reg.calls e1 true _ F0.out).mono ?_); rintro e w' ⟨rfl, ⟨nd, rfl⟩⟩; refine ⟨_, rfl, ?_⟩) | (go_at_call 103; (with_reducible refine (spec_l2Reg.calls e2 false _ F1.out).mono ?_); rintro e w' ⟨rfl, ⟨nd, rfl⟩⟩; (try clear F1)))
         go_ret
         exact ⟨zq44_, zq53_⟩
       ·obtain rfl := Option.some.inj H; obtain ⟨g40, g41, g42, g43, h40, h41, h42, h43⟩ := bz4_ b0.out
        go_wp2_with (first | ((with_reducible refine gate_callee (f := 103) rfl ?_); refine gl_ 55 Try.func103 #[.int .i64 e1] ?_; (with_reducible refine (spec_l2Reg.calls e1 false _ F0.out).mono ?_); rintro e w' ⟨rfl, ⟨nd, rfl⟩⟩; refine ⟨_, rfl, ?_⟩))
        go_ret
        exact ⟨zq44_, zq53_⟩
      ·by_cases u4 : e0 = 6
       ·rw [if_pos u4] at H; have r10 : (e0 == 6) = true := beq_iff_eq.mpr u4; have r11 : (e0 != 6) = false := bne_eq_false_iff_eq.mpr u4; clear u4; replace H := bs_ H; obtain ⟨i6, F0, H⟩ := H; (try dsimp only at H); replace H := ifB_ H
        rcases H with ⟨rfl, H⟩ | ⟨rfl, H⟩
        ·replace H := bs_ H; obtain ⟨i7, F1, H⟩ := H; (try dsimp only at H); replace H := ifB_ H
         rcases H with ⟨rfl, H⟩ | ⟨rfl, H⟩
         ·replace H := ifc_ H
          rcases H with ⟨c52b0, H⟩ | ⟨c52b0, H⟩
          ·change decide (1 ≤ e3) = true at c52b0; obtain rfl := Option.some.inj H; obtain ⟨g40, g41, g42, g43, h40, h41, h42, h43⟩ := bz4_ b0.out
           go_wp2_with (first | ((with_reducible refine gate_callee (f := 103) rfl ?_); refine gl_ 70 Try.func103 #[.int .i64 e1] ?_; (with_reducible refine (spec_l2Reg.calls e1 true _ F0.out).mono ?_); rintro e w' ⟨rfl, ⟨nd, rfl⟩⟩; refine ⟨_, rfl, ?_⟩) | (go_at_call 103; (with_reducible refine (spec_l2Reg.calls e2 true _ F1.out).mono ?_); rintro e w' ⟨rfl, ⟨nd, rfl⟩⟩; (try clear F1)))
           go_ret
           exact ⟨zq44_, zq53_⟩
          ·change decide (1 ≤ e3) = false at c52b0; obtain rfl := Option.some.inj H; obtain ⟨g40, g41, g42, g43, h40, h41, h42, h43⟩ := bz4_ b0.out
           go_wp2_with (first | ((with_reducible refine gate_callee (f := 103) rfl ?_); refine gl_ 70 Try.func103 #[.int .i64 e1] ?_; (with_reducible refine (spec_l2Reg.calls e1 true _ F0.out).mono ?_); rintro e w' ⟨rfl, ⟨nd, rfl⟩⟩; refine ⟨_, rfl, ?_⟩) | (go_at_call 103; (with_reducible refine (spec_l2Reg.calls e2 true _ F1.out).mono ?_); rintro e w' ⟨rfl, ⟨nd, rfl⟩⟩; (try clear F1)))
           go_ret
           exact ⟨zq44_, zq53_⟩
         ·obtain rfl := Option.some.inj H; obtain ⟨g40, g41, g42, g43, h40, h41, h42, h43⟩ := bz4_ b0.out
          go_wp2_with (first | ((with_reducible refine gate_callee (f := 103) rfl ?_); refine gl_ 70 Try.func103 #[.int .i64 e1] ?_; (with_reducible refine (spec_l2Reg.calls e1 true _ F0.out).mono ?_); rintro e w' ⟨rfl, ⟨nd, rfl⟩⟩; refine ⟨_, rfl, ?_⟩) | (go_at_call 103; (with_reducible refine (spec_l2Reg.calls e2 false _ F1.out).mono ?_); rintro e w' ⟨rfl, ⟨nd, rfl⟩⟩; (try clear F1)))
          go_ret
          exact ⟨zq44_, zq53_⟩
        ·obtain rfl := Option.some.inj H; obtain ⟨g40, g41, g42, g43, h40, h41, h42, h43⟩ := bz4_ b0.out
         go_wp2_with (first | ((with_reducible refine gate_callee (f := 103) rfl ?_); refine gl_ 70 Try.func103 #[.int .i64 e1] ?_; (with_reducible refine (spec_l2Reg.calls e1 false _ F0.out).mono ?_); rintro e w' ⟨rfl, ⟨nd, rfl⟩⟩; refine ⟨_, rfl, ?_⟩))
         go_ret
         exact ⟨zq44_, zq53_⟩
       ·rw [if_neg u4] at H; have r10 : (e0 == 6) = false := beq_eq_false_iff_ne.mpr u4; have r11 : (e0 != 6) = true := bne_iff_ne.mpr u4; by_cases u5 : e0 = 7
        ·rw [if_pos u5] at H; have r12 : (e0 == 7) = true := beq_iff_eq.mpr u5; have r13 : (e0 != 7) = false := bne_eq_false_iff_eq.mpr u5; clear u5; by_cases u6 : e1 = 0
         ·rw [if_pos u6] at H; have r14 : (e1 == 0) = true := beq_iff_eq.mpr u6; have r15 : (e1 != 0) = false := bne_eq_false_iff_eq.mpr u6; clear u6; by_cases u7 : e2 = 0
          ·rw [if_pos u7] at H; have r16 : (e2 == 0) = true := beq_iff_eq.mpr u7; have r17 : (e2 != 0) = false := bne_eq_false_iff_eq.mpr u7; clear u7; obtain rfl := Option.some.inj H; obtain ⟨g40, g41, g42, g43, h40, h41, h42, h43⟩ := bz4_ b0.out
           go_wp2
           go_ret
           exact ⟨zq44_, zq53_⟩
          ·rw [if_neg u7] at H; have r16 : (e2 == 0) = false := beq_eq_false_iff_ne.mpr u7; have r17 : (e2 != 0) = true := bne_iff_ne.mpr u7; obtain rfl := Option.some.inj H; obtain ⟨g40, g41, g42, g43, h40, h41, h42, h43⟩ := bz4_ b0.out
           go_wp2
           go_ret
           exact ⟨zq44_, zq53_⟩
         ·rw [if_neg u6] at H; have r14 : (e1 == 0) = false := beq_eq_false_iff_ne.mpr u6; have r15 : (e1 != 0) = true := bne_iff_ne.mpr u6; obtain rfl := Option.some.inj H; obtain ⟨g40, g41, g42, g43, h40, h41, h42, h43⟩ := bz4_ b0.out
          go_wp2
          go_ret
          exact ⟨zq44_, zq53_⟩
        ·rw [if_neg u5] at H; have r12 : (e0 == 7) = false := beq_eq_false_iff_ne.mpr u5; have r13 : (e0 != 7) = true := bne_iff_ne.mpr u5; obtain rfl := Option.some.inj H
         go_wp2
         go_ret
         exact ⟨zq44_, zq53_⟩

/-! ### spec_ProgOk: function 26 -/
def spec_ProgOk.l0 : Nat → List (S34) → Int → Option (Bool)
 | 0, _, _ => none
 | k + 1, x0, x3 => if x3 < (x0.length : Int) then (if 0 ≤ x3 then ((spec_l2Ins.f k ((rd_T34 x0 x3).f0) ((rd_T34 x0 x3).f1) ((rd_T34 x0 x3).f2) ((rd_T34 x0 x3).f3)).bind fun t117 => (if t117 = true then (spec_ProgOk.l0 k x0 (wrap64 (x3 + 1))) else (some false))) else (none)) else (some true)
def spec_ProgOk.f (k : Nat) (l0 : List (S34)) : Option (Bool) := if (l0.length : Int) > 10 then (some false) else (spec_ProgOk.l0 k l0 0)
theorem spec_ProgOk.mono_l : ∀ k, (∀ y0 y1, LeO (spec_ProgOk.l0 k y0 y1) (spec_ProgOk.l0 (k + 1) y0 y1))
 | 0 => fun _ _ r h => by simp [spec_ProgOk.l0] at h
 | k + 1 => by
  have E0 := spec_ProgOk.mono_l k
  ·intro y0 y1
   unfold spec_ProgOk.l0
   repeat' first
   | (with_reducible exact E0 _ _)
   | (with_reducible exact spec_l2Ins.mono _ _ _ _ _)
   | (with_reducible exact LeO.refl _)
   | (with_reducible exact LeO.none _)
   | (with_reducible refine LeO.ite ?_ ?_)
   | (with_reducible refine LeO.bind ?_ (fun _ => ?_))
   | exact E0 _ _
   | exact spec_l2Ins.mono _ _ _ _ _
   | exact LeO.none _
   | refine LeO.ite ?_ ?_
   | refine LeO.bind ?_ (fun _ => ?_)
theorem spec_ProgOk.mono : ∀ a0 k, LeO (spec_ProgOk.f k a0) (spec_ProgOk.f (k + 1) a0) := by
 intro a0 k
 have E0 := spec_ProgOk.mono_l k
 unfold spec_ProgOk.f
 repeat' first
   | (with_reducible exact E0 _ _)
   | (with_reducible exact spec_l2Ins.mono _ _ _ _ _)
   | (with_reducible exact LeO.refl _)
   | (with_reducible exact LeO.none _)
   | (with_reducible refine LeO.ite ?_ ?_)
   | (with_reducible refine LeO.bind ?_ (fun _ => ?_))
   | exact E0 _ _
   | exact spec_l2Ins.mono _ _ _ _ _
   | exact LeO.none _
   | refine LeO.ite ?_ ?_
   | refine LeO.bind ?_ (fun _ => ?_)
set_option maxHeartbeats 8000000 in
set_option maxRecDepth 100000 in
theorem spec_ProgOk.calls (k : Nat) (A0 : Option Addr) (c0 : Nat) (l0 : List (S34)) (r : Bool) (w : World) (V0 : Kd.C k34 w A0 l0.length l0) (S0 : l0.length ≤ c0) (h : spec_ProgOk.f k l0 = some r) :
  Calls Try.prog 26 #[.slice A0 l0.length c0] w fun e w' => e = .returned (.bool r) ∧ Below w.heap.size w w' := by
 have ar0 := Try.underlying34; have R0 := Aside0.mk V0; have X0 := Aside0.mk S0; clear V0 S0; have HB := Aside0.mk (Below.refl w.heap.size w); have H : (if (l0.length : Int) > 10 then (some false) else (spec_ProgOk.l0 k l0 0)) = some r := h; clear h; by_cases c2 : (l0.length : Int) > 10
 ·rw [if_pos c2] at H; have r0 : decide (10 < (l0.length : Int)) = true := decide_eq_true c2; have r1 : decide (10 < l0.length) = true := decide_eq_true (by omega); clear c2; obtain rfl := Option.some.inj H
  go_enter Try.func26, Try.ntmps26
  go_wp2
  go_ret
  exact ⟨zq44_, zq54_⟩
 ·rw [if_neg c2] at H; have r0 : decide (10 < (l0.length : Int)) = false := decide_eq_false c2; have r1 : decide (10 < l0.length) = false := decide_eq_false (by omega); clear c2; have H' := Aside0.mk H; clear H
  go_enter Try.func26, Try.ntmps26
  go_wp2
  go_loopg [3] k (fun kq v3 w' => ∃ (a0 : Int), v3 = .int .i64 a0 ∧ Aside0 (spec_ProgOk.l0 kq l0 a0 = some r) ∧ Aside0 (kq ≤ k) ∧ Aside0 (Below w.heap.size w w'))
  case atStart => exact ⟨(0), zq45_, H', ⟨Nat.le_refl _⟩, ⟨zq54_⟩⟩
  case round =>
   clear H'
   try clear c2
   try clear r0
   try clear r1
   try clear p2
   obtain ⟨a0, rfl, HA, ae0, HB⟩ := hrel
   cases gk with
   | zero => exact absurd HA.out (by simp [spec_ProgOk.l0])
   | succ k1 =>
    have H := HA.out; clear HA; simp only [spec_ProgOk.l0] at H; replace H := ifc_ H
    rcases H with ⟨c3b0, H⟩ | ⟨c3b0, H⟩
    ·replace H := ifd_ H; obtain ⟨r2, H⟩ := H; replace H := bs_ H; obtain ⟨i0, A5, H⟩ := H; (try dsimp only at H); replace H := ifB_ H
     rcases H with ⟨rfl, H⟩ | ⟨rfl, H⟩
     ·have H' := Aside0.mk H; clear H; have s0 : 0 ≤ (a0 : Int) := of_decide_eq_true zq40_; have t0 : a0 < (l0.length : Int) := of_decide_eq_true zq40_; obtain ⟨y0, N0, p0, p1, p3, p4⟩ := at_T34 R0.out a0 s0 t0; cases N0; replace p0 := pb_ HB.out p0; replace p1 := pb_ HB.out p1; replace p3 := pb_ HB.out p3; replace p4 := pb_ HB.out p4; replace s0 := eq_true s0; replace t0 := eq_true t0
      go_wp2_with (first | ((with_reducible refine gate_callee (f := 78) rfl ?_); refine gl_ 17 Try.func78 #[.agg #[.int .i64 ((rd_T34 l0 a0).f0), .int .i64 ((rd_T34 l0 a0).f1), .int .i64 ((rd_T34 l0 a0).f2), .int .i64 ((rd_T34 l0 a0).f3)]] ?_; (with_reducible refine (spec_l2Ins.calls k1 ((rd_T34 l0 a0).f0) ((rd_T34 l0 a0).f1) ((rd_T34 l0 a0).f2) ((rd_T34 l0 a0).f3) true _ A5.out).mono ?_); rintro e w7 ⟨rfl, hb⟩; refine ⟨_, rfl, ?_⟩; replace HB := Aside0.mk (below_step zq54_ hb); (try clear hb)))
      go_roundg k1
      case measure => have := ae0.out; omega
      case rel => exact ⟨(wrap64 (a0 + 1)), zq45_, H', ⟨by have := ae0.out; omega⟩, ⟨zq54_⟩⟩
     ·obtain rfl := Option.some.inj H; have s0 : 0 ≤ (a0 : Int) := of_decide_eq_true zq40_; have t0 : a0 < (l0.length : Int) := of_decide_eq_true zq40_; obtain ⟨y0, N0, p0, p1, p3, p4⟩ := at_T34 R0.out a0 s0 t0; cases N0; replace p0 := pb_ HB.out p0; replace p1 := pb_ HB.out p1; replace p3 := pb_ HB.out p3; replace p4 := pb_ HB.out p4; replace s0 := eq_true s0; replace t0 := eq_true t0
      go_wp2_with (first | ((with_reducible refine gate_callee (f := 78) rfl ?_); refine gl_ 17 Try.func78 #[.agg #[.int .i64 ((rd_T34 l0 a0).f0), .int .i64 ((rd_T34 l0 a0).f1), .int .i64 ((rd_T34 l0 a0).f2), .int .i64 ((rd_T34 l0 a0).f3)]] ?_; (with_reducible refine (spec_l2Ins.calls k1 ((rd_T34 l0 a0).f0) ((rd_T34 l0 a0).f1) ((rd_T34 l0 a0).f2) ((rd_T34 l0 a0).f3) false _ A5.out).mono ?_); rintro e w8 ⟨rfl, hb⟩; refine ⟨_, rfl, ?_⟩; replace HB := Aside0.mk (below_step zq54_ hb); (try clear hb)))
      go_ret
      exact ⟨zq44_, zq54_⟩
    ·obtain rfl := Option.some.inj H
     go_wp2
     go_ret
     exact ⟨zq44_, zq54_⟩

/-! ### spec_l3Saw: function 76 -/
def spec_l3Saw.l0 : Nat → List (S48) → Int → Int → Option (Bool)
 | 0, _, _, _ => none
 | k + 1, x0, x1, x5 => if x5 < (x0.length : Int) then (if 0 ≤ x5 then (if ((rd_T48 x0 x5).f0) = x1 then (some true) else (spec_l3Saw.l0 k x0 x1 (wrap64 (x5 + 1)))) else (none)) else (some false)
def spec_l3Saw.f (k : Nat) (l0 : List (S48)) (a1 : Int) : Option (Bool) := spec_l3Saw.l0 k l0 a1 0
theorem spec_l3Saw.mono_l : ∀ k, (∀ y0 y1 y2, LeO (spec_l3Saw.l0 k y0 y1 y2) (spec_l3Saw.l0 (k + 1) y0 y1 y2))
 | 0 => fun _ _ _ r h => by simp [spec_l3Saw.l0] at h
 | k + 1 => by
  have E0 := spec_l3Saw.mono_l k
  ·intro y0 y1 y2
   unfold spec_l3Saw.l0
   repeat' first
   | (with_reducible exact E0 _ _ _)
   | (with_reducible exact LeO.refl _)
   | (with_reducible exact LeO.none _)
   | (with_reducible refine LeO.ite ?_ ?_)
   | (with_reducible refine LeO.bind ?_ (fun _ => ?_))
   | exact E0 _ _ _
   | exact LeO.none _
   | refine LeO.ite ?_ ?_
   | refine LeO.bind ?_ (fun _ => ?_)
theorem spec_l3Saw.mono : ∀ a0 a1 k, LeO (spec_l3Saw.f k a0 a1) (spec_l3Saw.f (k + 1) a0 a1) := by
 intro a0 a1 k
 have E0 := spec_l3Saw.mono_l k
 unfold spec_l3Saw.f
 repeat' first
   | (with_reducible exact E0 _ _ _)
   | (with_reducible exact LeO.refl _)
   | (with_reducible exact LeO.none _)
   | (with_reducible refine LeO.ite ?_ ?_)
   | (with_reducible refine LeO.bind ?_ (fun _ => ?_))
   | exact E0 _ _ _
   | exact LeO.none _
   | refine LeO.ite ?_ ?_
   | refine LeO.bind ?_ (fun _ => ?_)
set_option maxHeartbeats 8000000 in
set_option maxRecDepth 100000 in
theorem spec_l3Saw.calls (k : Nat) (A0 : Option Addr) (c0 : Nat) (l0 : List (S48)) (a1 : Int) (r : Bool) (w : World) (V0 : Kd.C k48 w A0 l0.length l0) (S0 : l0.length ≤ c0) (h : spec_l3Saw.f k l0 a1 = some r) :
  Calls Try.prog 76 #[.slice A0 l0.length c0, .int .i64 a1] w fun e w' => e = .returned (.bool r) ∧ Drawn0 w w' := by
 have R0 := Aside0.mk V0; have X0 := Aside0.mk S0; clear V0 S0; have H : (spec_l3Saw.l0 k l0 a1 0) = some r := h; clear h; have H' := Aside0.mk H; clear H
 go_enter Try.func76, Try.ntmps76
 go_wp2
 go_loopg [5] k (fun kq v5 w' => ∃ (a0 : Int), v5 = .int .i64 a0 ∧ Aside0 (spec_l3Saw.l0 kq l0 a1 a0 = some r) ∧ Aside0 (kq ≤ k) ∧ Drawn0 w w')
 case atStart => exact ⟨(0), zq45_, H', ⟨Nat.le_refl _⟩, zq67_⟩
 case round =>
  clear H'
  try clear p2
  obtain ⟨a0, rfl, HA, ae0, ⟨m1, rfl⟩⟩ := hrel
  cases gk with
  | zero => exact absurd HA.out (by simp [spec_l3Saw.l0])
  | succ k1 =>
   have H := HA.out; clear HA; simp only [spec_l3Saw.l0] at H; replace H := ifc_ H
   rcases H with ⟨c3b0, H⟩ | ⟨c3b0, H⟩
   ·replace H := ifd_ H; obtain ⟨r0, H⟩ := H; by_cases c5 : ((rd_T48 l0 a0).f0) = a1
    ·rw [if_pos c5] at H; have r1 : (((rd_T48 l0 a0).f0) == a1) = true := beq_iff_eq.mpr c5; have r2 : (((rd_T48 l0 a0).f0) != a1) = false := bne_eq_false_iff_eq.mpr c5; clear c5; obtain rfl := Option.some.inj H; have s0 : 0 ≤ (a0 : Int) := of_decide_eq_true zq40_; have t0 : a0 < (l0.length : Int) := of_decide_eq_true zq40_; obtain ⟨y0, N0, p0, p1⟩ := at_T48 R0.out a0 s0 t0; cases N0; replace s0 := eq_true s0; replace t0 := eq_true t0
     go_wp2
     go_ret
     exact ⟨zq45_, zq67_⟩
    ·rw [if_neg c5] at H; have r1 : (((rd_T48 l0 a0).f0) == a1) = false := beq_eq_false_iff_ne.mpr c5; have r2 : (((rd_T48 l0 a0).f0) != a1) = true := bne_iff_ne.mpr c5; have H' := Aside0.mk H; clear H; have s0 : 0 ≤ (a0 : Int) := of_decide_eq_true zq40_; have t0 : a0 < (l0.length : Int) := of_decide_eq_true zq40_; obtain ⟨y0, N0, p0, p1⟩ := at_T48 R0.out a0 s0 t0; cases N0; replace s0 := eq_true s0; replace t0 := eq_true t0
     go_wp2
     go_roundg k1
     case measure => have := ae0.out; omega
     case rel => exact ⟨(wrap64 (a0 + 1)), zq45_, H', ⟨by have := ae0.out; omega⟩, zq67_⟩
   ·obtain rfl := Option.some.inj H
    go_wp2
    go_ret
    exact ⟨zq45_, zq67_⟩

end Go.Proofs.Ytgdafcakefnpdaa.PFnExactSerialOne
