-- Laid by this session's program out of the translation (gen.sh).
import Derived.Test.YtgdafcakefnpdaaPFnExecDox0
import Derived.Test.YtgdafcakefnpdaaPFnExecDox2
namespace Go.Proofs.Ytgdafcakefnpdaa.PFnExecDo
open Go.RowKit Go.Proofs.YtgdafcakefnpdaaW.PrintWords Go.Proofs.YtgdafcakefnpdaaW.PrintLast Go.Proofs.YtgdafcakefnpdaaW.PrintMore
attribute [local go_sem] max2_int min2_int max_two min_two max_three min_three max_four min_four   -- for this text's walks alone
set_option linter.unusedVariables false
set_option linter.unusedSimpArgs false

/-! ### spec_l2Ins: function 78 -/
def spec_l2Ins.j0 : Nat → Int → Bool → Int → Int → Int → Int → Option (Bool)
 | 0, _, _, _, _, _, _ => none
 | k + 1, x4, x50, x109000, x109001, x109002, x109003 => if x50 = true then ((spec_l2Reg.f x109001).bind fun t115 => (if t115 = true then ((spec_l2Reg.f x109002).bind fun t116 => (if t116 = true then (some (x109003 == 0)) else (some false))) else (some false))) else (if x4 = 6 then ((spec_l2Reg.f x109001).bind fun t117 => (if t117 = true then ((spec_l2Reg.f x109002).bind fun t118 => (if t118 = true then (if x109003 ≥ 1 then (some (decide (x109003 ≤ 10))) else (some false)) else (some false))) else (some false))) else (if x4 = 7 then (if x109001 = 0 then (if x109002 = 0 then (some (x109003 == 0)) else (some false)) else (some false)) else (some false)))
def spec_l2Ins.f (k : Nat) (a0_0 : Int) (a0_1 : Int) (a0_2 : Int) (a0_3 : Int) : Option (Bool) := if a0_0 = 1 then ((spec_l2Reg.f a0_1).bind fun t109 => (if t109 = true then ((spec_l2Box.f a0_2).bind fun t110 => (if t110 = true then (some (a0_3 == 0)) else (some false))) else (some false))) else (if a0_0 = 2 then ((spec_l2Box.f a0_1).bind fun t111 => (if t111 = true then ((spec_l2Reg.f a0_2).bind fun t112 => (if t112 = true then (some (a0_3 == 0)) else (some false))) else (some false))) else (if a0_0 = 3 then ((spec_l2Reg.f a0_1).bind fun t113 => (if t113 = true then (if a0_2 = 0 then ((spec_l1Num.f a0_3).bind fun t114 => (some t114)) else (some false)) else (some false))) else (if a0_0 = 4 then (spec_l2Ins.j0 k a0_0 (a0_0 == 4) a0_0 a0_1 a0_2 a0_3) else (spec_l2Ins.j0 k a0_0 (a0_0 == 5) a0_0 a0_1 a0_2 a0_3))))
theorem spec_l2Ins.mono_l : ∀ k, (∀ y0 y1 y2 y3 y4 y5, LeO (spec_l2Ins.j0 k y0 y1 y2 y3 y4 y5) (spec_l2Ins.j0 (k + 1) y0 y1 y2 y3 y4 y5))
 | 0 => fun _ _ _ _ _ _ r h => by simp [spec_l2Ins.j0] at h
 | k + 1 => by
  have J0 := spec_l2Ins.mono_l k
  ·intro y0 y1 y2 y3 y4 y5
   unfold spec_l2Ins.j0
   repeat' first
   | (with_reducible exact J0 _ _ _ _ _ _)
   | (with_reducible exact LeO.refl _)
   | (with_reducible exact LeO.none _)
   | (with_reducible refine LeO.ite ?_ ?_)
   | (with_reducible refine LeO.bind ?_ (fun _ => ?_))
   | exact J0 _ _ _ _ _ _
   | exact LeO.none _
   | refine LeO.ite ?_ ?_
   | refine LeO.bind ?_ (fun _ => ?_)
theorem spec_l2Ins.mono : ∀ a0 a1 a2 a3 k, LeO (spec_l2Ins.f k a0 a1 a2 a3) (spec_l2Ins.f (k + 1) a0 a1 a2 a3) := by
 intro a0 a1 a2 a3 k
 have J0 := spec_l2Ins.mono_l k
 unfold spec_l2Ins.f
 repeat' first
   | (with_reducible exact J0 _ _ _ _ _ _)
   | (with_reducible exact LeO.refl _)
   | (with_reducible exact LeO.none _)
   | (with_reducible refine LeO.ite ?_ ?_)
   | (with_reducible refine LeO.bind ?_ (fun _ => ?_))
   | exact J0 _ _ _ _ _ _
   | exact LeO.none _
   | refine LeO.ite ?_ ?_
   | refine LeO.bind ?_ (fun _ => ?_)
set_option maxHeartbeats 8000000 in
set_option maxRecDepth 100000 in
theorem spec_l2Ins.calls (k : Nat) (h0 : Int) (h1 : Int) (h2 : Int) (h3 : Int) (r : Bool) (w : World) (h : spec_l2Ins.f k h0 h1 h2 h3 = some r) :
  Calls Try.prog 78 #[.agg #[.int .i64 h0, .int .i64 h1, .int .i64 h2, .int .i64 h3]] w fun e w' => e = .returned (.bool r) ∧ Below w.heap.size w w' := by
 have aB0 := Try.underlying34; have HB := Aside0.mk (Below.refl w.heap.size w); have H : (if h0 = 1 then ((spec_l2Reg.f h1).bind fun a0 => (if a0 = true then ((spec_l2Box.f h2).bind fun a1 => (if a1 = true then (some (h3 == 0)) else (some false))) else (some false))) else (if h0 = 2 then ((spec_l2Box.f h1).bind fun a2 => (if a2 = true then ((spec_l2Reg.f h2).bind fun a3 => (if a3 = true then (some (h3 == 0)) else (some false))) else (some false))) else (if h0 = 3 then ((spec_l2Reg.f h1).bind fun a4 => (if a4 = true then (if h2 = 0 then ((spec_l1Num.f h3).bind fun a5 => (some a5)) else (some false)) else (some false))) else (if h0 = 4 then (spec_l2Ins.j0 k h0 (h0 == 4) h0 h1 h2 h3) else (spec_l2Ins.j0 k h0 (h0 == 5) h0 h1 h2 h3))))) = some r := h; clear h; by_cases c2 : h0 = 1
 ·rw [if_pos c2] at H; have u0 : (h0 == 1) = true := beq_iff_eq.mpr c2; have u1 : (h0 != 1) = false := bne_eq_false_iff_eq.mpr c2; clear c2; replace H := bs_ H; obtain ⟨a0, A3, H⟩ := H; (try dsimp only at H); replace H := ifB_ H
  rcases H with ⟨rfl, H⟩ | ⟨rfl, H⟩
  ·replace H := bs_ H; obtain ⟨a1, A5, H⟩ := H; (try dsimp only at H); replace H := ifB_ H
   rcases H with ⟨rfl, H⟩ | ⟨rfl, H⟩
   ·obtain rfl := Option.some.inj H
    go_enter Try.func78, Try.ntmps78
    go_wp2_with (first | ((with_reducible refine gate_dst (N := 1) rfl ?_); refine bxe_ (N := 1) (cs := #[.int .i64 h0, .int .i64 h1, .int .i64 h2, .int .i64 h3]) (t := 34) ?_; intro c0 hg w7 H_ hb; have n_ := A4_ (below_step zq59_ hb) (H_) ((zq95_ : w.heap.size ≤ c0)) ((zq95_ : w.heap.size ≤ c0)); clear HB; obtain ⟨HB, b0, y0, p0⟩ := n_; clear hb H_ hg; obtain ⟨k0, k1, k2, k3, l0, l1, l2, l3⟩ := bz4_ b0.out) | ((with_reducible refine gate_callee (f := 103) rfl ?_); refine gl_ 9 Try.func103 #[.int .i64 h1] ?_; (with_reducible refine (spec_l2Reg.calls h1 true _ A3.out).mono ?_); rintro e w' ⟨rfl, ⟨nd, rfl⟩⟩; refine ⟨_, rfl, ?_⟩) | (go_at_call 75; (with_reducible refine (spec_l2Box.calls h2 true _ A5.out).mono ?_); rintro e w' ⟨rfl, ⟨nd, rfl⟩⟩; (try clear A5)))
    go_ret
    exact ⟨zq45_, zq58_⟩
   ·obtain rfl := Option.some.inj H
    go_enter Try.func78, Try.ntmps78
    go_wp2_with (first | ((with_reducible refine gate_dst (N := 1) rfl ?_); refine bxe_ (N := 1) (cs := #[.int .i64 h0, .int .i64 h1, .int .i64 h2, .int .i64 h3]) (t := 34) ?_; intro c0 hg w9 H_ hb; have n_ := A4_ (below_step zq59_ hb) (H_) ((zq95_ : w.heap.size ≤ c0)) ((zq95_ : w.heap.size ≤ c0)); clear HB; obtain ⟨HB, b0, y0, p0⟩ := n_; clear hb H_ hg; obtain ⟨k0, k1, k2, k3, l0, l1, l2, l3⟩ := bz4_ b0.out) | ((with_reducible refine gate_callee (f := 103) rfl ?_); refine gl_ 9 Try.func103 #[.int .i64 h1] ?_; (with_reducible refine (spec_l2Reg.calls h1 true _ A3.out).mono ?_); rintro e w' ⟨rfl, ⟨nd, rfl⟩⟩; refine ⟨_, rfl, ?_⟩) | (go_at_call 75; (with_reducible refine (spec_l2Box.calls h2 false _ A5.out).mono ?_); rintro e w' ⟨rfl, ⟨nd, rfl⟩⟩; (try clear A5)))
    go_ret
    exact ⟨zq45_, zq58_⟩
  ·obtain rfl := Option.some.inj H
   go_enter Try.func78, Try.ntmps78
   go_wp2_with (first | ((with_reducible refine gate_dst (N := 1) rfl ?_); refine bxe_ (N := 1) (cs := #[.int .i64 h0, .int .i64 h1, .int .i64 h2, .int .i64 h3]) (t := 34) ?_; intro c0 hg r0 H_ hb; have n_ := A4_ (below_step zq59_ hb) (H_) ((zq95_ : w.heap.size ≤ c0)) ((zq95_ : w.heap.size ≤ c0)); clear HB; obtain ⟨HB, b0, y0, p0⟩ := n_; clear hb H_ hg; obtain ⟨k0, k1, k2, k3, l0, l1, l2, l3⟩ := bz4_ b0.out) | ((with_reducible refine gate_callee (f := 103) rfl ?_); refine gl_ 9 Try.func103 #[.int .i64 h1] ?_; (with_reducible refine (spec_l2Reg.calls h1 false _ A3.out).mono ?_); rintro e w' ⟨rfl, ⟨nd, rfl⟩⟩; refine ⟨_, rfl, ?_⟩))
   go_ret
   exact ⟨zq45_, zq58_⟩
 ·rw [if_neg c2] at H; have u0 : (h0 == 1) = false := beq_eq_false_iff_ne.mpr c2; have u1 : (h0 != 1) = true := bne_iff_ne.mpr c2; by_cases x0 : h0 = 2
  ·rw [if_pos x0] at H; have u2 : (h0 == 2) = true := beq_iff_eq.mpr x0; have u3 : (h0 != 2) = false := bne_eq_false_iff_eq.mpr x0; clear x0; replace H := bs_ H; obtain ⟨a2, G0, H⟩ := H; (try dsimp only at H); replace H := ifB_ H
   rcases H with ⟨rfl, H⟩ | ⟨rfl, H⟩
   ·replace H := bs_ H; obtain ⟨a3, G1, H⟩ := H; (try dsimp only at H); replace H := ifB_ H
    rcases H with ⟨rfl, H⟩ | ⟨rfl, H⟩
    ·obtain rfl := Option.some.inj H
     go_enter Try.func78, Try.ntmps78
     go_wp2_with (first | ((with_reducible refine gate_dst (N := 1) rfl ?_); refine bxe_ (N := 1) (cs := #[.int .i64 h0, .int .i64 h1, .int .i64 h2, .int .i64 h3]) (t := 34) ?_; intro c0 hg r0 H_ hb; have n_ := A4_ (below_step zq59_ hb) (H_) ((zq95_ : w.heap.size ≤ c0)) ((zq95_ : w.heap.size ≤ c0)); clear HB; obtain ⟨HB, b0, y0, p0⟩ := n_; clear hb H_ hg; obtain ⟨k0, k1, k2, k3, l0, l1, l2, l3⟩ := bz4_ b0.out) | ((with_reducible refine gate_callee (f := 75) rfl ?_); refine gl_ 24 Try.func75 #[.int .i64 h1] ?_; (with_reducible refine (spec_l2Box.calls h1 true _ G0.out).mono ?_); rintro e w' ⟨rfl, ⟨nd, rfl⟩⟩; refine ⟨_, rfl, ?_⟩) | (go_at_call 103; (with_reducible refine (spec_l2Reg.calls h2 true _ G1.out).mono ?_); rintro e w' ⟨rfl, ⟨nd, rfl⟩⟩; (try clear G1)))
     go_ret
     exact ⟨zq45_, zq58_⟩
    ·obtain rfl := Option.some.inj H
     go_enter Try.func78, Try.ntmps78
     go_wp2_with (first | ((with_reducible refine gate_dst (N := 1) rfl ?_); refine bxe_ (N := 1) (cs := #[.int .i64 h0, .int .i64 h1, .int .i64 h2, .int .i64 h3]) (t := 34) ?_; intro c0 hg r0 H_ hb; have n_ := A4_ (below_step zq59_ hb) (H_) ((zq95_ : w.heap.size ≤ c0)) ((zq95_ : w.heap.size ≤ c0)); clear HB; obtain ⟨HB, b0, y0, p0⟩ := n_; clear hb H_ hg; obtain ⟨k0, k1, k2, k3, l0, l1, l2, l3⟩ := bz4_ b0.out) | ((with_reducible refine gate_callee (f := 75) rfl ?_); refine gl_ 24 Try.func75 #[.int .i64 h1] ?_; (with_reducible refine (spec_l2Box.calls h1 true _ G0.out).mono ?_); rintro e w' ⟨rfl, ⟨nd, rfl⟩⟩; refine ⟨_, rfl, ?_⟩) | (go_at_call 103; (with_reducible refine (spec_l2Reg.calls h2 false _ G1.out).mono ?_); rintro e w' ⟨rfl, ⟨nd, rfl⟩⟩; (try clear G1)))
     go_ret
     exact ⟨zq45_, zq58_⟩
   ·obtain rfl := Option.some.inj H
    go_enter Try.func78, Try.ntmps78
    go_wp2_with (first | ((with_reducible refine gate_dst (N := 1) rfl ?_); refine bxe_ (N := 1) (cs := #[.int .i64 h0, .int .i64 h1, .int .i64 h2, .int .i64 h3]) (t := 34) ?_; intro c0 hg r0 H_ hb; have n_ := A4_ (below_step zq59_ hb) (H_) ((zq95_ : w.heap.size ≤ c0)) ((zq95_ : w.heap.size ≤ c0)); clear HB; obtain ⟨HB, b0, y0, p0⟩ := n_; clear hb H_ hg; obtain ⟨k0, k1, k2, k3, l0, l1, l2, l3⟩ := bz4_ b0.out) | ((with_reducible refine gate_callee (f := 75) rfl ?_); refine gl_ 24 Try.func75 #[.int .i64 h1] ?_; (with_reducible refine (spec_l2Box.calls h1 false _ G0.out).mono ?_); rintro e w' ⟨rfl, ⟨nd, rfl⟩⟩; refine ⟨_, rfl, ?_⟩))
    go_ret
    exact ⟨zq45_, zq58_⟩
  ·rw [if_neg x0] at H; have u2 : (h0 == 2) = false := beq_eq_false_iff_ne.mpr x0; have u3 : (h0 != 2) = true := bne_iff_ne.mpr x0; by_cases x1 : h0 = 3
   ·rw [if_pos x1] at H; have u4 : (h0 == 3) = true := beq_iff_eq.mpr x1; have u5 : (h0 != 3) = false := bne_eq_false_iff_eq.mpr x1; clear x1; replace H := bs_ H; obtain ⟨a4, G0, H⟩ := H; (try dsimp only at H); replace H := ifB_ H
    rcases H with ⟨rfl, H⟩ | ⟨rfl, H⟩
    ·by_cases x2 : h2 = 0
     ·rw [if_pos x2] at H; have u6 : (h2 == 0) = true := beq_iff_eq.mpr x2; have u7 : (h2 != 0) = false := bne_eq_false_iff_eq.mpr x2; clear x2; replace H := bs_ H; obtain ⟨a5, G1, H⟩ := H; (try dsimp only at H); obtain rfl := Option.some.inj H
      go_enter Try.func78, Try.ntmps78
      go_wp2_with (first | ((with_reducible refine gate_dst (N := 1) rfl ?_); refine bxe_ (N := 1) (cs := #[.int .i64 h0, .int .i64 h1, .int .i64 h2, .int .i64 h3]) (t := 34) ?_; intro c0 hg r0 H_ hb; have n_ := A4_ (below_step zq59_ hb) (H_) ((zq95_ : w.heap.size ≤ c0)) ((zq95_ : w.heap.size ≤ c0)); clear HB; obtain ⟨HB, b0, y0, p0⟩ := n_; clear hb H_ hg; obtain ⟨k0, k1, k2, k3, l0, l1, l2, l3⟩ := bz4_ b0.out) | ((with_reducible refine gate_callee (f := 103) rfl ?_); refine gl_ 39 Try.func103 #[.int .i64 h1] ?_; (with_reducible refine (spec_l2Reg.calls h1 true _ G0.out).mono ?_); rintro e w' ⟨rfl, ⟨nd, rfl⟩⟩; refine ⟨_, rfl, ?_⟩) | (go_at_call 74; (with_reducible refine (spec_l1Num.calls h3 a5 _ G1.out).mono ?_); rintro e w' ⟨rfl, ⟨nd, rfl⟩⟩; (try clear G1)))
      go_ret
      exact ⟨zq45_, zq58_⟩
     ·rw [if_neg x2] at H; have u6 : (h2 == 0) = false := beq_eq_false_iff_ne.mpr x2; have u7 : (h2 != 0) = true := bne_iff_ne.mpr x2; obtain rfl := Option.some.inj H
      go_enter Try.func78, Try.ntmps78
      go_wp2_with (first | ((with_reducible refine gate_dst (N := 1) rfl ?_); refine bxe_ (N := 1) (cs := #[.int .i64 h0, .int .i64 h1, .int .i64 h2, .int .i64 h3]) (t := 34) ?_; intro c0 hg r0 H_ hb; have n_ := A4_ (below_step zq59_ hb) (H_) ((zq95_ : w.heap.size ≤ c0)) ((zq95_ : w.heap.size ≤ c0)); clear HB; obtain ⟨HB, b0, y0, p0⟩ := n_; clear hb H_ hg; obtain ⟨k0, k1, k2, k3, l0, l1, l2, l3⟩ := bz4_ b0.out) | ((with_reducible refine gate_callee (f := 103) rfl ?_); refine gl_ 39 Try.func103 #[.int .i64 h1] ?_; (with_reducible refine (spec_l2Reg.calls h1 true _ G0.out).mono ?_); rintro e w' ⟨rfl, ⟨nd, rfl⟩⟩; refine ⟨_, rfl, ?_⟩))
      go_ret
      exact ⟨zq45_, zq58_⟩
    ·obtain rfl := Option.some.inj H
     go_enter Try.func78, Try.ntmps78
     go_wp2_with (first | ((with_reducible refine gate_dst (N := 1) rfl ?_); refine bxe_ (N := 1) (cs := #[.int .i64 h0, .int .i64 h1, .int .i64 h2, .int .i64 h3]) (t := 34) ?_; intro c0 hg r0 H_ hb; have n_ := A4_ (below_step zq59_ hb) (H_) ((zq95_ : w.heap.size ≤ c0)) ((zq95_ : w.heap.size ≤ c0)); clear HB; obtain ⟨HB, b0, y0, p0⟩ := n_; clear hb H_ hg; obtain ⟨k0, k1, k2, k3, l0, l1, l2, l3⟩ := bz4_ b0.out) | ((with_reducible refine gate_callee (f := 103) rfl ?_); refine gl_ 39 Try.func103 #[.int .i64 h1] ?_; (with_reducible refine (spec_l2Reg.calls h1 false _ G0.out).mono ?_); rintro e w' ⟨rfl, ⟨nd, rfl⟩⟩; refine ⟨_, rfl, ?_⟩))
     go_ret
     exact ⟨zq45_, zq58_⟩
   ·rw [if_neg x1] at H; have u4 : (h0 == 3) = false := beq_eq_false_iff_ne.mpr x1; have u5 : (h0 != 3) = true := bne_iff_ne.mpr x1; have X0 := Aside0.mk H; clear H
    go_enter Try.func78, Try.ntmps78
    go_upto_if 50 with (first | ((with_reducible refine gate_dst (N := 1) rfl ?_); refine bxe_ (N := 1) (cs := #[.int .i64 h0, .int .i64 h1, .int .i64 h2, .int .i64 h3]) (t := 34) ?_; intro c0 hg r0 H_ hb; have n_ := A4_ (below_step zq59_ hb) (H_) ((zq95_ : w.heap.size ≤ c0)) ((zq95_ : w.heap.size ≤ c0)); clear HB; obtain ⟨HB, b0, y0, p0⟩ := n_; clear hb H_ hg; obtain ⟨k0, k1, k2, k3, l0, l1, l2, l3⟩ := bz4_ b0.out))
    (try simp only [Act.put, List.setIfInBounds_toArray, List.set_cons_zero, List.set_cons_succ])
    go_cut [50] (fun S0 wc => ∃ (kq : Nat) (e0 : Bool), S0 = .bool e0 ∧ Aside0 (spec_l2Ins.j0 kq h0 e0 h0 h1 h2 h3 = some r) ∧ Aside0 (kq ≤ k) ∧ Aside0 (wc.heap[c0]? = some (.cells #[.int .i64 h0, .int .i64 h1, .int .i64 h2, .int .i64 h3] 34 (0, 0))) ∧ Aside0 (Below w.heap.size w wc))
    case first =>
     have H := X0.out; clear X0; by_cases x2 : h0 = 4
     ·rw [if_pos x2] at H; have u6 : (h0 == 4) = true := beq_iff_eq.mpr x2; have u7 : (h0 != 4) = false := bne_eq_false_iff_eq.mpr x2; clear x2; (first | rw [u6] | (simp only [i64_w, i32_w]; rw [u6]) | skip); have H' := Aside0.mk H; clear H
      go_wp2
      go_meet
      case rel => exact ⟨_, ((h0 == 4)), zq46_, H', ⟨zq44_⟩, ⟨zq1c_⟩, ⟨zq58_⟩⟩
     ·rw [if_neg x2] at H; have u6 : (h0 == 4) = false := beq_eq_false_iff_ne.mpr x2; have u7 : (h0 != 4) = true := bne_iff_ne.mpr x2; (first | rw [u6] | (simp only [i64_w, i32_w]; rw [u6]) | skip); have H' := Aside0.mk H; clear H
      go_wp2
      go_meet
      case rel => exact ⟨_, ((h0 == 5)), zq46_, H', ⟨zq44_⟩, ⟨zq1c_⟩, ⟨zq58_⟩⟩
    case rest =>
     clear X0
     try clear c1
     try clear c2
     try clear u0
     try clear u1
     try clear p2
     try clear c3
     try clear c4
     try clear c6
     try clear c7
     try clear c10
     try clear x0
     try clear u2
     try clear u3
     try clear c15
     try clear c17
     try clear x1
     try clear u4
     try clear u5
     try clear c26
     try clear x3
     try clear u6
     try clear u7
     try clear x2
     try clear u8
     try clear u9
     try clear k4 k5 k6 k7 l4 l5 l6 l7
     try clear k8 k9 k10 k11 l8 l9 l10 l11
     try clear k12 k13 k14 k15 l12 l13 l14 l15
     try clear k16 k17 k18 k19 l16 l17 l18 l19
     try clear k20 k21 k22 k23 l20 l21 l22 l23
     try clear k24 k25 k26 k27 l24 l25 l26 l27
     try clear k28 k29 k30 k31 l28 l29 l30 l31
     try clear k32 k33 k34 k35 l32 l33 l34 l35
     try clear k0 k1 k2 k3 l0 l1 l2 l3
     try clear k36 k37 k38 k39 l36 l37 l38 l39
     obtain ⟨kq, e0, rfl, HA, av0, b0, HB⟩ := hcut
     cases kq with
     | zero => exact absurd HA.out (by simp [spec_l2Ins.j0])
     | succ kj34 =>
      have H := HA.out; clear HA; simp only [spec_l2Ins.j0] at H; replace H := ifB_ H
      rcases H with ⟨rfl, H⟩ | ⟨rfl, H⟩
      ·replace H := bs_ H; obtain ⟨a6, G0, H⟩ := H; (try dsimp only at H); replace H := ifB_ H
       rcases H with ⟨rfl, H⟩ | ⟨rfl, H⟩
       ·replace H := bs_ H; obtain ⟨a7, G1, H⟩ := H; (try dsimp only at H); replace H := ifB_ H
        rcases H with ⟨rfl, H⟩ | ⟨rfl, H⟩
        ·obtain rfl := Option.some.inj H; obtain ⟨k40, k41, k42, k43, l40, l41, l42, l43⟩ := bz4_ b0.out
         go_wp2_with (first | ((with_reducible refine gate_callee (f := 103) rfl ?_); refine gl_ 55 Try.func103 #[.int .i64 h1] ?_; (with_reducible refine (spec_l2Reg.calls h1 true _ G0.out).mono ?_); rintro e w' ⟨rfl, ⟨nd, rfl⟩⟩; refine ⟨_, rfl, ?_⟩) | (go_at_call 103; (with_reducible refine (spec_l2Reg.calls h2 true _ G1.out).mono ?_); rintro e w' ⟨rfl, ⟨nd, rfl⟩⟩; (try clear G1)))
         go_ret
         exact ⟨zq45_, zq58_⟩
        ·obtain rfl := Option.some.inj H; obtain ⟨k40, k41, k42, k43, l40, l41, l42, l43⟩ := bz4_ b0.out
         go_wp2_with (first | ((with_reducible refine gate_callee (f := 103) rfl ?_); refine gl_ 55 Try.func103 #[.int .i64 h1] ?_; (with_reducible refine (spec_l2Reg.calls h1 true _ G0.out).mono ?_); rintro e w' ⟨rfl, ⟨nd, rfl⟩⟩; refine ⟨_, rfl, ?_⟩) | (go_at_call 103; (with_reducible refine (spec_l2Reg.calls h2 false _ G1.out).mono ?_); rintro e w' ⟨rfl, ⟨nd, rfl⟩⟩; (try clear G1)))
         go_ret
         exact ⟨zq45_, zq58_⟩
       ·obtain rfl := Option.some.inj H; obtain ⟨k40, k41, k42, k43, l40, l41, l42, l43⟩ := bz4_ b0.out
        go_wp2_with (first | ((with_reducible refine gate_callee (f := 103) rfl ?_); refine gl_ 55 Try.func103 #[.int .i64 h1] ?_; (with_reducible refine (spec_l2Reg.calls h1 false _ G0.out).mono ?_); rintro e w' ⟨rfl, ⟨nd, rfl⟩⟩; refine ⟨_, rfl, ?_⟩))
        go_ret
        exact ⟨zq45_, zq58_⟩
      ·by_cases x4 : h0 = 6
       ·rw [if_pos x4] at H; have u10 : (h0 == 6) = true := beq_iff_eq.mpr x4; have u11 : (h0 != 6) = false := bne_eq_false_iff_eq.mpr x4; clear x4; replace H := bs_ H; obtain ⟨a6, G0, H⟩ := H; (try dsimp only at H); replace H := ifB_ H
        rcases H with ⟨rfl, H⟩ | ⟨rfl, H⟩
        ·replace H := bs_ H; obtain ⟨a7, G1, H⟩ := H; (try dsimp only at H); replace H := ifB_ H
         rcases H with ⟨rfl, H⟩ | ⟨rfl, H⟩
         ·replace H := ifc_ H
          rcases H with ⟨c52b0, H⟩ | ⟨c52b0, H⟩
          ·change decide (1 ≤ h3) = true at c52b0; obtain rfl := Option.some.inj H; obtain ⟨k40, k41, k42, k43, l40, l41, l42, l43⟩ := bz4_ b0.out
           go_wp2_with (first | ((with_reducible refine gate_callee (f := 103) rfl ?_); refine gl_ 70 Try.func103 #[.int .i64 h1] ?_; (with_reducible refine (spec_l2Reg.calls h1 true _ G0.out).mono ?_); rintro e w' ⟨rfl, ⟨nd, rfl⟩⟩; refine ⟨_, rfl, ?_⟩) | (go_at_call 103; (with_reducible refine (spec_l2Reg.calls h2 true _ G1.out).mono ?_); rintro e w' ⟨rfl, ⟨nd, rfl⟩⟩; (try clear G1)))
           go_ret
           exact ⟨zq45_, zq58_⟩
          ·change decide (1 ≤ h3) = false at c52b0; obtain rfl := Option.some.inj H; obtain ⟨k40, k41, k42, k43, l40, l41, l42, l43⟩ := bz4_ b0.out
           go_wp2_with (first | ((with_reducible refine gate_callee (f := 103) rfl ?_); refine gl_ 70 Try.func103 #[.int .i64 h1] ?_; (with_reducible refine (spec_l2Reg.calls h1 true _ G0.out).mono ?_); rintro e w' ⟨rfl, ⟨nd, rfl⟩⟩; refine ⟨_, rfl, ?_⟩) | (go_at_call 103; (with_reducible refine (spec_l2Reg.calls h2 true _ G1.out).mono ?_); rintro e w' ⟨rfl, ⟨nd, rfl⟩⟩; (try clear G1)))
           go_ret
           exact ⟨zq45_, zq58_⟩
         ·obtain rfl := Option.some.inj H; obtain ⟨k40, k41, k42, k43, l40, l41, l42, l43⟩ := bz4_ b0.out
          go_wp2_with (first | ((with_reducible refine gate_callee (f := 103) rfl ?_); refine gl_ 70 Try.func103 #[.int .i64 h1] ?_; (with_reducible refine (spec_l2Reg.calls h1 true _ G0.out).mono ?_); rintro e w' ⟨rfl, ⟨nd, rfl⟩⟩; refine ⟨_, rfl, ?_⟩) | (go_at_call 103; (with_reducible refine (spec_l2Reg.calls h2 false _ G1.out).mono ?_); rintro e w' ⟨rfl, ⟨nd, rfl⟩⟩; (try clear G1)))
          go_ret
          exact ⟨zq45_, zq58_⟩
        ·obtain rfl := Option.some.inj H; obtain ⟨k40, k41, k42, k43, l40, l41, l42, l43⟩ := bz4_ b0.out
         go_wp2_with (first | ((with_reducible refine gate_callee (f := 103) rfl ?_); refine gl_ 70 Try.func103 #[.int .i64 h1] ?_; (with_reducible refine (spec_l2Reg.calls h1 false _ G0.out).mono ?_); rintro e w' ⟨rfl, ⟨nd, rfl⟩⟩; refine ⟨_, rfl, ?_⟩))
         go_ret
         exact ⟨zq45_, zq58_⟩
       ·rw [if_neg x4] at H; have u10 : (h0 == 6) = false := beq_eq_false_iff_ne.mpr x4; have u11 : (h0 != 6) = true := bne_iff_ne.mpr x4; by_cases x5 : h0 = 7
        ·rw [if_pos x5] at H; have u12 : (h0 == 7) = true := beq_iff_eq.mpr x5; have u13 : (h0 != 7) = false := bne_eq_false_iff_eq.mpr x5; clear x5; by_cases x6 : h1 = 0
         ·rw [if_pos x6] at H; have u14 : (h1 == 0) = true := beq_iff_eq.mpr x6; have u15 : (h1 != 0) = false := bne_eq_false_iff_eq.mpr x6; clear x6; by_cases x7 : h2 = 0
          ·rw [if_pos x7] at H; have u16 : (h2 == 0) = true := beq_iff_eq.mpr x7; have u17 : (h2 != 0) = false := bne_eq_false_iff_eq.mpr x7; clear x7; obtain rfl := Option.some.inj H; obtain ⟨k40, k41, k42, k43, l40, l41, l42, l43⟩ := bz4_ b0.out
           go_wp2
           go_ret
           exact ⟨zq45_, zq58_⟩
          ·rw [if_neg x7] at H; have u16 : (h2 == 0) = false := beq_eq_false_iff_ne.mpr x7; have u17 : (h2 != 0) = true := bne_iff_ne.mpr x7; obtain rfl := Option.some.inj H; obtain ⟨k40, k41, k42, k43, l40, l41, l42, l43⟩ := bz4_ b0.out
           go_wp2
           go_ret
           exact ⟨zq45_, zq58_⟩
         ·rw [if_neg x6] at H; have u14 : (h1 == 0) = false := beq_eq_false_iff_ne.mpr x6; have u15 : (h1 != 0) = true := bne_iff_ne.mpr x6; obtain rfl := Option.some.inj H; obtain ⟨k40, k41, k42, k43, l40, l41, l42, l43⟩ := bz4_ b0.out
          go_wp2
          go_ret
          exact ⟨zq45_, zq58_⟩
        ·rw [if_neg x5] at H; have u12 : (h0 == 7) = false := beq_eq_false_iff_ne.mpr x5; have u13 : (h0 != 7) = true := bne_iff_ne.mpr x5; obtain rfl := Option.some.inj H
         go_wp2
         go_ret
         exact ⟨zq45_, zq58_⟩

/-! ### spec_ProgOk: function 26 -/
def spec_ProgOk.l0 : Nat → List (S34) → Int → Option (Bool)
 | 0, _, _ => none
 | k + 1, x0, x3 => if x3 < (x0.length : Int) then (if 0 ≤ x3 then ((spec_l2Ins.f k ((rd_T34 x0 x3).f0) ((rd_T34 x0 x3).f1) ((rd_T34 x0 x3).f2) ((rd_T34 x0 x3).f3)).bind fun t120 => (if t120 = true then (spec_ProgOk.l0 k x0 (wrap64 (x3 + 1))) else (some false))) else (none)) else (some true)
def spec_ProgOk.f (k : Nat) (l0 : List (S34)) : Option (Bool) := if (l0.length : Int) > 10 then (some false) else (spec_ProgOk.l0 k l0 0)
theorem spec_ProgOk.mono_l : ∀ k, (∀ y0 y1, LeO (spec_ProgOk.l0 k y0 y1) (spec_ProgOk.l0 (k + 1) y0 y1))
 | 0 => fun _ _ r h => by simp [spec_ProgOk.l0] at h
 | k + 1 => by
  have J0 := spec_ProgOk.mono_l k
  ·intro y0 y1
   unfold spec_ProgOk.l0
   repeat' first
   | (with_reducible exact J0 _ _)
   | (with_reducible exact spec_l2Ins.mono _ _ _ _ _)
   | (with_reducible exact LeO.refl _)
   | (with_reducible exact LeO.none _)
   | (with_reducible refine LeO.ite ?_ ?_)
   | (with_reducible refine LeO.bind ?_ (fun _ => ?_))
   | exact J0 _ _
   | exact spec_l2Ins.mono _ _ _ _ _
   | exact LeO.none _
   | refine LeO.ite ?_ ?_
   | refine LeO.bind ?_ (fun _ => ?_)
theorem spec_ProgOk.mono : ∀ a0 k, LeO (spec_ProgOk.f k a0) (spec_ProgOk.f (k + 1) a0) := by
 intro a0 k
 have J0 := spec_ProgOk.mono_l k
 unfold spec_ProgOk.f
 repeat' first
   | (with_reducible exact J0 _ _)
   | (with_reducible exact spec_l2Ins.mono _ _ _ _ _)
   | (with_reducible exact LeO.refl _)
   | (with_reducible exact LeO.none _)
   | (with_reducible refine LeO.ite ?_ ?_)
   | (with_reducible refine LeO.bind ?_ (fun _ => ?_))
   | exact J0 _ _
   | exact spec_l2Ins.mono _ _ _ _ _
   | exact LeO.none _
   | refine LeO.ite ?_ ?_
   | refine LeO.bind ?_ (fun _ => ?_)
set_option maxHeartbeats 8000000 in
set_option maxRecDepth 100000 in
theorem spec_ProgOk.calls (k : Nat) (A0 : Option Addr) (c0 : Nat) (l0 : List (S34)) (r : Bool) (w : World) (Y0 : Kd.C k34 w A0 l0.length l0) (ad0 : l0.length ≤ c0) (h : spec_ProgOk.f k l0 = some r) :
  Calls Try.prog 26 #[.slice A0 l0.length c0] w fun e w' => e = .returned (.bool r) ∧ Below w.heap.size w w' := by
 have aB0 := Try.underlying34; have V0 := Aside0.mk Y0; have X0 := Aside0.mk ad0; clear Y0 ad0; have HB := Aside0.mk (Below.refl w.heap.size w); have H : (if (l0.length : Int) > 10 then (some false) else (spec_ProgOk.l0 k l0 0)) = some r := h; clear h; by_cases c2 : (l0.length : Int) > 10
 ·rw [if_pos c2] at H; have u0 : decide (10 < (l0.length : Int)) = true := decide_eq_true c2; have u1 : decide (10 < l0.length) = true := decide_eq_true (by omega); clear c2; obtain rfl := Option.some.inj H
  go_enter Try.func26, Try.ntmps26
  go_wp2
  go_ret
  exact ⟨zq45_, zq59_⟩
 ·rw [if_neg c2] at H; have u0 : decide (10 < (l0.length : Int)) = false := decide_eq_false c2; have u1 : decide (10 < l0.length) = false := decide_eq_false (by omega); clear c2; have H' := Aside0.mk H; clear H
  go_enter Try.func26, Try.ntmps26
  go_wp2
  go_loopg [3] k (fun kq v3 w' => ∃ (e0 : Int), v3 = .int .i64 e0 ∧ Aside0 (spec_ProgOk.l0 kq l0 e0 = some r) ∧ Aside0 (kq ≤ k) ∧ Aside0 (Below w.heap.size w w'))
  case atStart => exact ⟨(0), zq46_, H', ⟨Nat.le_refl _⟩, ⟨zq59_⟩⟩
  case round =>
   clear H'
   try clear c2
   try clear u0
   try clear u1
   try clear p2
   obtain ⟨e0, rfl, HA, Z0, HB⟩ := hrel
   cases gk with
   | zero => exact absurd HA.out (by simp [spec_ProgOk.l0])
   | succ k1 =>
    have H := HA.out; clear HA; simp only [spec_ProgOk.l0] at H; replace H := ifc_ H
    rcases H with ⟨c3b0, H⟩ | ⟨c3b0, H⟩
    ·replace H := ifd_ H; obtain ⟨u2, H⟩ := H; replace H := bs_ H; obtain ⟨a0, A5, H⟩ := H; (try dsimp only at H); replace H := ifB_ H
     rcases H with ⟨rfl, H⟩ | ⟨rfl, H⟩
     ·have H' := Aside0.mk H; clear H; have t0 : 0 ≤ (e0 : Int) := of_decide_eq_true zq41_; have s0 : e0 < (l0.length : Int) := of_decide_eq_true zq41_; obtain ⟨v0, M0, n0, n1, n2, n3⟩ := at_T34 V0.out e0 t0 s0; cases M0; replace n0 := pb_ HB.out n0; replace n1 := pb_ HB.out n1; replace n2 := pb_ HB.out n2; replace n3 := pb_ HB.out n3; replace t0 := eq_true t0; replace s0 := eq_true s0
      go_wp2_with (first | ((with_reducible refine gate_callee (f := 78) rfl ?_); refine gl_ 17 Try.func78 #[.agg #[.int .i64 ((rd_T34 l0 e0).f0), .int .i64 ((rd_T34 l0 e0).f1), .int .i64 ((rd_T34 l0 e0).f2), .int .i64 ((rd_T34 l0 e0).f3)]] ?_; (with_reducible refine (spec_l2Ins.calls k1 ((rd_T34 l0 e0).f0) ((rd_T34 l0 e0).f1) ((rd_T34 l0 e0).f2) ((rd_T34 l0 e0).f3) true _ A5.out).mono ?_); rintro e w7 ⟨rfl, hb⟩; refine ⟨_, rfl, ?_⟩; replace HB := Aside0.mk (below_step zq59_ hb); (try clear hb)))
      go_roundg k1
      case measure => have := Z0.out; omega
      case rel => exact ⟨(wrap64 (e0 + 1)), zq46_, H', ⟨by have := Z0.out; omega⟩, ⟨zq59_⟩⟩
     ·obtain rfl := Option.some.inj H; have t0 : 0 ≤ (e0 : Int) := of_decide_eq_true zq41_; have s0 : e0 < (l0.length : Int) := of_decide_eq_true zq41_; obtain ⟨v0, M0, n0, n1, n2, n3⟩ := at_T34 V0.out e0 t0 s0; cases M0; replace n0 := pb_ HB.out n0; replace n1 := pb_ HB.out n1; replace n2 := pb_ HB.out n2; replace n3 := pb_ HB.out n3; replace t0 := eq_true t0; replace s0 := eq_true s0
      go_wp2_with (first | ((with_reducible refine gate_callee (f := 78) rfl ?_); refine gl_ 17 Try.func78 #[.agg #[.int .i64 ((rd_T34 l0 e0).f0), .int .i64 ((rd_T34 l0 e0).f1), .int .i64 ((rd_T34 l0 e0).f2), .int .i64 ((rd_T34 l0 e0).f3)]] ?_; (with_reducible refine (spec_l2Ins.calls k1 ((rd_T34 l0 e0).f0) ((rd_T34 l0 e0).f1) ((rd_T34 l0 e0).f2) ((rd_T34 l0 e0).f3) false _ A5.out).mono ?_); rintro e w8 ⟨rfl, hb⟩; refine ⟨_, rfl, ?_⟩; replace HB := Aside0.mk (below_step zq59_ hb); (try clear hb)))
      go_ret
      exact ⟨zq45_, zq59_⟩
    ·obtain rfl := Option.some.inj H
     go_wp2
     go_ret
     exact ⟨zq45_, zq59_⟩

/-! ### spec_l3Saw: function 76 -/
def spec_l3Saw.l0 : Nat → List (S48) → Int → Int → Option (Bool)
 | 0, _, _, _ => none
 | k + 1, x0, x1, x5 => if x5 < (x0.length : Int) then (if 0 ≤ x5 then (if ((rd_T48 x0 x5).f0) = x1 then (some true) else (spec_l3Saw.l0 k x0 x1 (wrap64 (x5 + 1)))) else (none)) else (some false)
def spec_l3Saw.f (k : Nat) (l0 : List (S48)) (a1 : Int) : Option (Bool) := spec_l3Saw.l0 k l0 a1 0
theorem spec_l3Saw.mono_l : ∀ k, (∀ y0 y1 y2, LeO (spec_l3Saw.l0 k y0 y1 y2) (spec_l3Saw.l0 (k + 1) y0 y1 y2))
 | 0 => fun _ _ _ r h => by simp [spec_l3Saw.l0] at h
 | k + 1 => by
  have J0 := spec_l3Saw.mono_l k
  ·intro y0 y1 y2
   unfold spec_l3Saw.l0
   repeat' first
   | (with_reducible exact J0 _ _ _)
   | (with_reducible exact LeO.refl _)
   | (with_reducible exact LeO.none _)
   | (with_reducible refine LeO.ite ?_ ?_)
   | (with_reducible refine LeO.bind ?_ (fun _ => ?_))
   | exact J0 _ _ _
   | exact LeO.none _
   | refine LeO.ite ?_ ?_
   | refine LeO.bind ?_ (fun _ => ?_)
theorem spec_l3Saw.mono : ∀ a0 a1 k, LeO (spec_l3Saw.f k a0 a1) (spec_l3Saw.f (k + 1) a0 a1) := by
 intro a0 a1 k
 have J0 := spec_l3Saw.mono_l k
 unfold spec_l3Saw.f
 repeat' first
   | (with_reducible exact J0 _ _ _)
   | (with_reducible exact LeO.refl _)
   | (with_reducible exact LeO.none _)
   | (with_reducible refine LeO.ite ?_ ?_)
   | (with_reducible refine LeO.bind ?_ (fun _ => ?_))
   | exact J0 _ _ _
   | exact LeO.none _
   | refine LeO.ite ?_ ?_
   | refine LeO.bind ?_ (fun _ => ?_)
set_option maxHeartbeats 8000000 in
set_option maxRecDepth 100000 in
theorem spec_l3Saw.calls (k : Nat) (A0 : Option Addr) (c0 : Nat) (l0 : List (S48)) (a1 : Int) (r : Bool) (w : World) (Y0 : Kd.C k48 w A0 l0.length l0) (ad0 : l0.length ≤ c0) (h : spec_l3Saw.f k l0 a1 = some r) :
  Calls Try.prog 76 #[.slice A0 l0.length c0, .int .i64 a1] w fun e w' => e = .returned (.bool r) ∧ Drawn0 w w' := by
 have V0 := Aside0.mk Y0; have X0 := Aside0.mk ad0; clear Y0 ad0; have H : (spec_l3Saw.l0 k l0 a1 0) = some r := h; clear h; have H' := Aside0.mk H; clear H
 go_enter Try.func76, Try.ntmps76
 go_wp2
 go_loopg [5] k (fun kq v5 w' => ∃ (e0 : Int), v5 = .int .i64 e0 ∧ Aside0 (spec_l3Saw.l0 kq l0 a1 e0 = some r) ∧ Aside0 (kq ≤ k) ∧ Drawn0 w w')
 case atStart => exact ⟨(0), zq46_, H', ⟨Nat.le_refl _⟩, zq79_⟩
 case round =>
  clear H'
  try clear p2
  obtain ⟨e0, rfl, HA, Z0, ⟨m1, rfl⟩⟩ := hrel
  cases gk with
  | zero => exact absurd HA.out (by simp [spec_l3Saw.l0])
  | succ k1 =>
   have H := HA.out; clear HA; simp only [spec_l3Saw.l0] at H; replace H := ifc_ H
   rcases H with ⟨c3b0, H⟩ | ⟨c3b0, H⟩
   ·replace H := ifd_ H; obtain ⟨u0, H⟩ := H; by_cases c5 : ((rd_T48 l0 e0).f0) = a1
    ·rw [if_pos c5] at H; have u1 : (((rd_T48 l0 e0).f0) == a1) = true := beq_iff_eq.mpr c5; have u2 : (((rd_T48 l0 e0).f0) != a1) = false := bne_eq_false_iff_eq.mpr c5; clear c5; obtain rfl := Option.some.inj H; have t0 : 0 ≤ (e0 : Int) := of_decide_eq_true zq41_; have s0 : e0 < (l0.length : Int) := of_decide_eq_true zq41_; obtain ⟨v0, M0, n0, n1⟩ := at_T48 V0.out e0 t0 s0; cases M0; replace t0 := eq_true t0; replace s0 := eq_true s0
     go_wp2
     go_ret
     exact ⟨zq46_, zq79_⟩
    ·rw [if_neg c5] at H; have u1 : (((rd_T48 l0 e0).f0) == a1) = false := beq_eq_false_iff_ne.mpr c5; have u2 : (((rd_T48 l0 e0).f0) != a1) = true := bne_iff_ne.mpr c5; have H' := Aside0.mk H; clear H; have t0 : 0 ≤ (e0 : Int) := of_decide_eq_true zq41_; have s0 : e0 < (l0.length : Int) := of_decide_eq_true zq41_; obtain ⟨v0, M0, n0, n1⟩ := at_T48 V0.out e0 t0 s0; cases M0; replace t0 := eq_true t0; replace s0 := eq_true s0
     go_wp2
     go_roundg k1
     case measure => have := Z0.out; omega
     case rel => exact ⟨(wrap64 (e0 + 1)), zq46_, H', ⟨by have := Z0.out; omega⟩, zq79_⟩
   ·obtain rfl := Option.some.inj H
    go_wp2
    go_ret
    exact ⟨zq46_, zq79_⟩

end Go.Proofs.Ytgdafcakefnpdaa.PFnExecDo
