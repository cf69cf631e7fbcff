-- Laid by this session's program out of the translation (gen.sh).
import Derived.Test.YtgdafcakefnpdaaPFnExecx0
import Derived.Test.YtgdafcakefnpdaaPFnExecx8
namespace Go.Proofs.Ytgdafcakefnpdaa.PFnExec
open Go.RowKit Go.Proofs.YtgdafcakefnpdaaW.PrintWords Go.Proofs.YtgdafcakefnpdaaW.PrintLast Go.Proofs.YtgdafcakefnpdaaW.PrintMore
attribute [local go_sem] max2_int min2_int max_two min_two max_three min_three max_four min_four   -- for this text's walks alone
set_option linter.unusedVariables false
set_option linter.unusedSimpArgs false

/-! ### spec_l2Ins: function 78 -/
def spec_l2Ins.j0 : Nat → Int → Bool → Int → Int → Int → Int → Option (Bool)
 | 0, _, _, _, _, _, _ => none
 | k + 1, x4, x50, x309000, x309001, x309002, x309003 => if x50 = true then ((spec_l2Reg.f x309001).bind fun t315 => (if t315 = true then ((spec_l2Reg.f x309002).bind fun t316 => (if t316 = true then (some (x309003 == 0)) else (some false))) else (some false))) else (if x4 = 6 then ((spec_l2Reg.f x309001).bind fun t317 => (if t317 = true then ((spec_l2Reg.f x309002).bind fun t318 => (if t318 = true then (if x309003 ≥ 1 then (some (decide (x309003 ≤ 10))) else (some false)) else (some false))) else (some false))) else (if x4 = 7 then (if x309001 = 0 then (if x309002 = 0 then (some (x309003 == 0)) else (some false)) else (some false)) else (some false)))
def spec_l2Ins.f (k : Nat) (a0_0 : Int) (a0_1 : Int) (a0_2 : Int) (a0_3 : Int) : Option (Bool) := if a0_0 = 1 then ((spec_l2Reg.f a0_1).bind fun t309 => (if t309 = true then ((spec_l2Box.f a0_2).bind fun t310 => (if t310 = true then (some (a0_3 == 0)) else (some false))) else (some false))) else (if a0_0 = 2 then ((spec_l2Box.f a0_1).bind fun t311 => (if t311 = true then ((spec_l2Reg.f a0_2).bind fun t312 => (if t312 = true then (some (a0_3 == 0)) else (some false))) else (some false))) else (if a0_0 = 3 then ((spec_l2Reg.f a0_1).bind fun t313 => (if t313 = true then (if a0_2 = 0 then ((spec_l1Num.f a0_3).bind fun t314 => (some t314)) else (some false)) else (some false))) else (if a0_0 = 4 then (spec_l2Ins.j0 k a0_0 (a0_0 == 4) a0_0 a0_1 a0_2 a0_3) else (spec_l2Ins.j0 k a0_0 (a0_0 == 5) a0_0 a0_1 a0_2 a0_3))))
theorem spec_l2Ins.mono_l : ∀ k, (∀ y0 y1 y2 y3 y4 y5, LeO (spec_l2Ins.j0 k y0 y1 y2 y3 y4 y5) (spec_l2Ins.j0 (k + 1) y0 y1 y2 y3 y4 y5))
 | 0 => fun _ _ _ _ _ _ r h => by simp [spec_l2Ins.j0] at h
 | k + 1 => by
  have H0 := spec_l2Ins.mono_l k
  ·intro y0 y1 y2 y3 y4 y5
   unfold spec_l2Ins.j0
   repeat' first
   | (with_reducible exact H0 _ _ _ _ _ _)
   | (with_reducible exact LeO.refl _)
   | (with_reducible exact LeO.none _)
   | (with_reducible refine LeO.ite ?_ ?_)
   | (with_reducible refine LeO.bind ?_ (fun _ => ?_))
   | exact H0 _ _ _ _ _ _
   | exact LeO.none _
   | refine LeO.ite ?_ ?_
   | refine LeO.bind ?_ (fun _ => ?_)
theorem spec_l2Ins.mono : ∀ a0 a1 a2 a3 k, LeO (spec_l2Ins.f k a0 a1 a2 a3) (spec_l2Ins.f (k + 1) a0 a1 a2 a3) := by
 intro a0 a1 a2 a3 k
 have H0 := spec_l2Ins.mono_l k
 unfold spec_l2Ins.f
 repeat' first
   | (with_reducible exact H0 _ _ _ _ _ _)
   | (with_reducible exact LeO.refl _)
   | (with_reducible exact LeO.none _)
   | (with_reducible refine LeO.ite ?_ ?_)
   | (with_reducible refine LeO.bind ?_ (fun _ => ?_))
   | exact H0 _ _ _ _ _ _
   | exact LeO.none _
   | refine LeO.ite ?_ ?_
   | refine LeO.bind ?_ (fun _ => ?_)
set_option maxHeartbeats 8000000 in
set_option maxRecDepth 100000 in
theorem spec_l2Ins.calls (k : Nat) (g0 : Int) (g1 : Int) (g2 : Int) (g3 : Int) (r : Bool) (w : World) (h : spec_l2Ins.f k g0 g1 g2 g3 = some r) :
  Calls Try.prog 78 #[.agg #[.int .i64 g0, .int .i64 g1, .int .i64 g2, .int .i64 g3]] w fun e w' => e = .returned (.bool r) ∧ Below w.heap.size w w' := by
 have ap0 := Try.underlying34; have HB := Aside0.mk (Below.refl w.heap.size w); have H : (if g0 = 1 then ((spec_l2Reg.f g1).bind fun e0 => (if e0 = true then ((spec_l2Box.f g2).bind fun e1 => (if e1 = true then (some (g3 == 0)) else (some false))) else (some false))) else (if g0 = 2 then ((spec_l2Box.f g1).bind fun e2 => (if e2 = true then ((spec_l2Reg.f g2).bind fun e3 => (if e3 = true then (some (g3 == 0)) else (some false))) else (some false))) else (if g0 = 3 then ((spec_l2Reg.f g1).bind fun e4 => (if e4 = true then (if g2 = 0 then ((spec_l1Num.f g3).bind fun e5 => (some e5)) else (some false)) else (some false))) else (if g0 = 4 then (spec_l2Ins.j0 k g0 (g0 == 4) g0 g1 g2 g3) else (spec_l2Ins.j0 k g0 (g0 == 5) g0 g1 g2 g3))))) = some r := h; clear h; by_cases c2 : g0 = 1
 ·rw [if_pos c2] at H; have s0 : (g0 == 1) = true := beq_iff_eq.mpr c2; have s1 : (g0 != 1) = false := bne_eq_false_iff_eq.mpr c2; clear c2; replace H := bs_ H; obtain ⟨e0, A3, H⟩ := H; (try dsimp only at H); replace H := ifB_ H
  rcases H with ⟨rfl, H⟩ | ⟨rfl, H⟩
  ·replace H := bs_ H; obtain ⟨e1, A5, H⟩ := H; (try dsimp only at H); replace H := ifB_ H
   rcases H with ⟨rfl, H⟩ | ⟨rfl, H⟩
   ·obtain rfl := Option.some.inj H
    go_enter Try.func78, Try.ntmps78
    go_wp2_with (first | ((with_reducible refine gate_dst (N := 1) rfl ?_); refine bxe_ (N := 1) (cs := #[.int .i64 g0, .int .i64 g1, .int .i64 g2, .int .i64 g3]) (t := 34) ?_; intro c0 hg w7 y hb; have n_ := A4_ (below_step zq6c_ hb) (y) ((zqa8_ : w.heap.size ≤ c0)) ((zqa8_ : w.heap.size ≤ c0)); clear HB; obtain ⟨HB, b0, x0, l0⟩ := n_; clear hb y hg; obtain ⟨h0, h1, h2, h3, i0, i1, i2, i3⟩ := bz4_ b0.out) | ((with_reducible refine gate_callee (f := 103) rfl ?_); refine gl_ 9 Try.func103 #[.int .i64 g1] ?_; (with_reducible refine (spec_l2Reg.calls g1 true _ A3.out).mono ?_); rintro e w' ⟨rfl, ⟨nd, rfl⟩⟩; refine ⟨_, rfl, ?_⟩) | (go_at_call 75; (with_reducible refine (spec_l2Box.calls g2 true _ A5.out).mono ?_); rintro e w' ⟨rfl, ⟨nd, rfl⟩⟩; (try clear A5)))
    go_ret
    exact ⟨zq59_, zq62_⟩
   ·obtain rfl := Option.some.inj H
    go_enter Try.func78, Try.ntmps78
    go_wp2_with (first | ((with_reducible refine gate_dst (N := 1) rfl ?_); refine bxe_ (N := 1) (cs := #[.int .i64 g0, .int .i64 g1, .int .i64 g2, .int .i64 g3]) (t := 34) ?_; intro c0 hg w9 y hb; have n_ := A4_ (below_step zq6c_ hb) (y) ((zqa8_ : w.heap.size ≤ c0)) ((zqa8_ : w.heap.size ≤ c0)); clear HB; obtain ⟨HB, b0, x0, l0⟩ := n_; clear hb y hg; obtain ⟨h0, h1, h2, h3, i0, i1, i2, i3⟩ := bz4_ b0.out) | ((with_reducible refine gate_callee (f := 103) rfl ?_); refine gl_ 9 Try.func103 #[.int .i64 g1] ?_; (with_reducible refine (spec_l2Reg.calls g1 true _ A3.out).mono ?_); rintro e w' ⟨rfl, ⟨nd, rfl⟩⟩; refine ⟨_, rfl, ?_⟩) | (go_at_call 75; (with_reducible refine (spec_l2Box.calls g2 false _ A5.out).mono ?_); rintro e w' ⟨rfl, ⟨nd, rfl⟩⟩; (try clear A5)))
    go_ret
    exact ⟨zq59_, zq62_⟩
  ·obtain rfl := Option.some.inj H
   go_enter Try.func78, Try.ntmps78
   go_wp2_with (first | ((with_reducible refine gate_dst (N := 1) rfl ?_); refine bxe_ (N := 1) (cs := #[.int .i64 g0, .int .i64 g1, .int .i64 g2, .int .i64 g3]) (t := 34) ?_; intro c0 hg r0 y hb; have n_ := A4_ (below_step zq6c_ hb) (y) ((zqa8_ : w.heap.size ≤ c0)) ((zqa8_ : w.heap.size ≤ c0)); clear HB; obtain ⟨HB, b0, x0, l0⟩ := n_; clear hb y hg; obtain ⟨h0, h1, h2, h3, i0, i1, i2, i3⟩ := bz4_ b0.out) | ((with_reducible refine gate_callee (f := 103) rfl ?_); refine gl_ 9 Try.func103 #[.int .i64 g1] ?_; (with_reducible refine (spec_l2Reg.calls g1 false _ A3.out).mono ?_); rintro e w' ⟨rfl, ⟨nd, rfl⟩⟩; refine ⟨_, rfl, ?_⟩))
   go_ret
   exact ⟨zq59_, zq62_⟩
 ·rw [if_neg c2] at H; have s0 : (g0 == 1) = false := beq_eq_false_iff_ne.mpr c2; have s1 : (g0 != 1) = true := bne_iff_ne.mpr c2; by_cases v0 : g0 = 2
  ·rw [if_pos v0] at H; have s2 : (g0 == 2) = true := beq_iff_eq.mpr v0; have s3 : (g0 != 2) = false := bne_eq_false_iff_eq.mpr v0; clear v0; replace H := bs_ H; obtain ⟨e2, B0, H⟩ := H; (try dsimp only at H); replace H := ifB_ H
   rcases H with ⟨rfl, H⟩ | ⟨rfl, H⟩
   ·replace H := bs_ H; obtain ⟨e3, B1, H⟩ := H; (try dsimp only at H); replace H := ifB_ H
    rcases H with ⟨rfl, H⟩ | ⟨rfl, H⟩
    ·obtain rfl := Option.some.inj H
     go_enter Try.func78, Try.ntmps78
     go_wp2_with (first | ((with_reducible refine gate_dst (N := 1) rfl ?_); refine bxe_ (N := 1) (cs := #[.int .i64 g0, .int .i64 g1, .int .i64 g2, .int .i64 g3]) (t := 34) ?_; intro c0 hg r0 y hb; have n_ := A4_ (below_step zq6c_ hb) (y) ((zqa8_ : w.heap.size ≤ c0)) ((zqa8_ : w.heap.size ≤ c0)); clear HB; obtain ⟨HB, b0, x0, l0⟩ := n_; clear hb y hg; obtain ⟨h0, h1, h2, h3, i0, i1, i2, i3⟩ := bz4_ b0.out) | ((with_reducible refine gate_callee (f := 75) rfl ?_); refine gl_ 24 Try.func75 #[.int .i64 g1] ?_; (with_reducible refine (spec_l2Box.calls g1 true _ B0.out).mono ?_); rintro e w' ⟨rfl, ⟨nd, rfl⟩⟩; refine ⟨_, rfl, ?_⟩) | (go_at_call 103; (with_reducible refine (spec_l2Reg.calls g2 true _ B1.out).mono ?_); rintro e w' ⟨rfl, ⟨nd, rfl⟩⟩; (try clear B1)))
     go_ret
     exact ⟨zq59_, zq62_⟩
    ·obtain rfl := Option.some.inj H
     go_enter Try.func78, Try.ntmps78
     go_wp2_with (first | ((with_reducible refine gate_dst (N := 1) rfl ?_); refine bxe_ (N := 1) (cs := #[.int .i64 g0, .int .i64 g1, .int .i64 g2, .int .i64 g3]) (t := 34) ?_; intro c0 hg r0 y hb; have n_ := A4_ (below_step zq6c_ hb) (y) ((zqa8_ : w.heap.size ≤ c0)) ((zqa8_ : w.heap.size ≤ c0)); clear HB; obtain ⟨HB, b0, x0, l0⟩ := n_; clear hb y hg; obtain ⟨h0, h1, h2, h3, i0, i1, i2, i3⟩ := bz4_ b0.out) | ((with_reducible refine gate_callee (f := 75) rfl ?_); refine gl_ 24 Try.func75 #[.int .i64 g1] ?_; (with_reducible refine (spec_l2Box.calls g1 true _ B0.out).mono ?_); rintro e w' ⟨rfl, ⟨nd, rfl⟩⟩; refine ⟨_, rfl, ?_⟩) | (go_at_call 103; (with_reducible refine (spec_l2Reg.calls g2 false _ B1.out).mono ?_); rintro e w' ⟨rfl, ⟨nd, rfl⟩⟩; (try clear B1)))
     go_ret
     exact ⟨zq59_, zq62_⟩
   ·obtain rfl := Option.some.inj H
    go_enter Try.func78, Try.ntmps78
    go_wp2_with (first | ((with_reducible refine gate_dst (N := 1) rfl ?_); refine bxe_ (N := 1) (cs := #[.int .i64 g0, .int .i64 g1, .int .i64 g2, .int .i64 g3]) (t := 34) ?_; intro c0 hg r0 y hb; have n_ := A4_ (below_step zq6c_ hb) (y) ((zqa8_ : w.heap.size ≤ c0)) ((zqa8_ : w.heap.size ≤ c0)); clear HB; obtain ⟨HB, b0, x0, l0⟩ := n_; clear hb y hg; obtain ⟨h0, h1, h2, h3, i0, i1, i2, i3⟩ := bz4_ b0.out) | ((with_reducible refine gate_callee (f := 75) rfl ?_); refine gl_ 24 Try.func75 #[.int .i64 g1] ?_; (with_reducible refine (spec_l2Box.calls g1 false _ B0.out).mono ?_); rintro e w' ⟨rfl, ⟨nd, rfl⟩⟩; refine ⟨_, rfl, ?_⟩))
    go_ret
    exact ⟨zq59_, zq62_⟩
  ·rw [if_neg v0] at H; have s2 : (g0 == 2) = false := beq_eq_false_iff_ne.mpr v0; have s3 : (g0 != 2) = true := bne_iff_ne.mpr v0; by_cases v1 : g0 = 3
   ·rw [if_pos v1] at H; have s4 : (g0 == 3) = true := beq_iff_eq.mpr v1; have s5 : (g0 != 3) = false := bne_eq_false_iff_eq.mpr v1; clear v1; replace H := bs_ H; obtain ⟨e4, B0, H⟩ := H; (try dsimp only at H); replace H := ifB_ H
    rcases H with ⟨rfl, H⟩ | ⟨rfl, H⟩
    ·by_cases v2 : g2 = 0
     ·rw [if_pos v2] at H; have s6 : (g2 == 0) = true := beq_iff_eq.mpr v2; have s7 : (g2 != 0) = false := bne_eq_false_iff_eq.mpr v2; clear v2; replace H := bs_ H; obtain ⟨e5, B1, H⟩ := H; (try dsimp only at H); obtain rfl := Option.some.inj H
      go_enter Try.func78, Try.ntmps78
      go_wp2_with (first | ((with_reducible refine gate_dst (N := 1) rfl ?_); refine bxe_ (N := 1) (cs := #[.int .i64 g0, .int .i64 g1, .int .i64 g2, .int .i64 g3]) (t := 34) ?_; intro c0 hg r0 y hb; have n_ := A4_ (below_step zq6c_ hb) (y) ((zqa8_ : w.heap.size ≤ c0)) ((zqa8_ : w.heap.size ≤ c0)); clear HB; obtain ⟨HB, b0, x0, l0⟩ := n_; clear hb y hg; obtain ⟨h0, h1, h2, h3, i0, i1, i2, i3⟩ := bz4_ b0.out) | ((with_reducible refine gate_callee (f := 103) rfl ?_); refine gl_ 39 Try.func103 #[.int .i64 g1] ?_; (with_reducible refine (spec_l2Reg.calls g1 true _ B0.out).mono ?_); rintro e w' ⟨rfl, ⟨nd, rfl⟩⟩; refine ⟨_, rfl, ?_⟩) | (go_at_call 74; (with_reducible refine (spec_l1Num.calls g3 e5 _ B1.out).mono ?_); rintro e w' ⟨rfl, ⟨nd, rfl⟩⟩; (try clear B1)))
      go_ret
      exact ⟨zq59_, zq62_⟩
     ·rw [if_neg v2] at H; have s6 : (g2 == 0) = false := beq_eq_false_iff_ne.mpr v2; have s7 : (g2 != 0) = true := bne_iff_ne.mpr v2; obtain rfl := Option.some.inj H
      go_enter Try.func78, Try.ntmps78
      go_wp2_with (first | ((with_reducible refine gate_dst (N := 1) rfl ?_); refine bxe_ (N := 1) (cs := #[.int .i64 g0, .int .i64 g1, .int .i64 g2, .int .i64 g3]) (t := 34) ?_; intro c0 hg r0 y hb; have n_ := A4_ (below_step zq6c_ hb) (y) ((zqa8_ : w.heap.size ≤ c0)) ((zqa8_ : w.heap.size ≤ c0)); clear HB; obtain ⟨HB, b0, x0, l0⟩ := n_; clear hb y hg; obtain ⟨h0, h1, h2, h3, i0, i1, i2, i3⟩ := bz4_ b0.out) | ((with_reducible refine gate_callee (f := 103) rfl ?_); refine gl_ 39 Try.func103 #[.int .i64 g1] ?_; (with_reducible refine (spec_l2Reg.calls g1 true _ B0.out).mono ?_); rintro e w' ⟨rfl, ⟨nd, rfl⟩⟩; refine ⟨_, rfl, ?_⟩))
      go_ret
      exact ⟨zq59_, zq62_⟩
    ·obtain rfl := Option.some.inj H
     go_enter Try.func78, Try.ntmps78
     go_wp2_with (first | ((with_reducible refine gate_dst (N := 1) rfl ?_); refine bxe_ (N := 1) (cs := #[.int .i64 g0, .int .i64 g1, .int .i64 g2, .int .i64 g3]) (t := 34) ?_; intro c0 hg r0 y hb; have n_ := A4_ (below_step zq6c_ hb) (y) ((zqa8_ : w.heap.size ≤ c0)) ((zqa8_ : w.heap.size ≤ c0)); clear HB; obtain ⟨HB, b0, x0, l0⟩ := n_; clear hb y hg; obtain ⟨h0, h1, h2, h3, i0, i1, i2, i3⟩ := bz4_ b0.out) | ((with_reducible refine gate_callee (f := 103) rfl ?_); refine gl_ 39 Try.func103 #[.int .i64 g1] ?_; (with_reducible refine (spec_l2Reg.calls g1 false _ B0.out).mono ?_); rintro e w' ⟨rfl, ⟨nd, rfl⟩⟩; refine ⟨_, rfl, ?_⟩))
     go_ret
     exact ⟨zq59_, zq62_⟩
   ·rw [if_neg v1] at H; have s4 : (g0 == 3) = false := beq_eq_false_iff_ne.mpr v1; have s5 : (g0 != 3) = true := bne_iff_ne.mpr v1; have ae0 := Aside0.mk H; clear H
    go_enter Try.func78, Try.ntmps78
    go_upto_if 50 with (first | ((with_reducible refine gate_dst (N := 1) rfl ?_); refine bxe_ (N := 1) (cs := #[.int .i64 g0, .int .i64 g1, .int .i64 g2, .int .i64 g3]) (t := 34) ?_; intro c0 hg r0 y hb; have n_ := A4_ (below_step zq6c_ hb) (y) ((zqa8_ : w.heap.size ≤ c0)) ((zqa8_ : w.heap.size ≤ c0)); clear HB; obtain ⟨HB, b0, x0, l0⟩ := n_; clear hb y hg; obtain ⟨h0, h1, h2, h3, i0, i1, i2, i3⟩ := bz4_ b0.out))
    (try simp only [Act.put, List.setIfInBounds_toArray, List.set_cons_zero, List.set_cons_succ])
    go_cut [50] (fun X0 wc => ∃ (kq : Nat) (a0 : Bool), X0 = .bool a0 ∧ Aside0 (spec_l2Ins.j0 kq g0 a0 g0 g1 g2 g3 = some r) ∧ Aside0 (kq ≤ k) ∧ Aside0 (wc.heap[c0]? = some (.cells #[.int .i64 g0, .int .i64 g1, .int .i64 g2, .int .i64 g3] 34 (0, 0))) ∧ Aside0 (Below w.heap.size w wc))
    case first =>
     have H := ae0.out; clear ae0; by_cases v2 : g0 = 4
     ·rw [if_pos v2] at H; have s6 : (g0 == 4) = true := beq_iff_eq.mpr v2; have s7 : (g0 != 4) = false := bne_eq_false_iff_eq.mpr v2; clear v2; (first | rw [s6] | (simp only [i64_w, i32_w]; rw [s6]) | skip); have H' := Aside0.mk H; clear H
      go_wp2
      go_meet
      case rel => exact ⟨_, ((g0 == 4)), zq5a_, H', ⟨zq58_⟩, ⟨zq25_⟩, ⟨zq62_⟩⟩
     ·rw [if_neg v2] at H; have s6 : (g0 == 4) = false := beq_eq_false_iff_ne.mpr v2; have s7 : (g0 != 4) = true := bne_iff_ne.mpr v2; (first | rw [s6] | (simp only [i64_w, i32_w]; rw [s6]) | skip); have H' := Aside0.mk H; clear H
      go_wp2
      go_meet
      case rel => exact ⟨_, ((g0 == 5)), zq5a_, H', ⟨zq58_⟩, ⟨zq25_⟩, ⟨zq62_⟩⟩
    case rest =>
     clear ae0
     try clear c1
     try clear c2
     try clear s0
     try clear s1
     try clear p2
     try clear c3
     try clear c4
     try clear c6
     try clear c7
     try clear c10
     try clear v0
     try clear s2
     try clear s3
     try clear c15
     try clear c17
     try clear v1
     try clear s4
     try clear s5
     try clear c26
     try clear v3
     try clear s6
     try clear s7
     try clear v2
     try clear s8
     try clear s9
     try clear h4 h5 h6 h7 i4 i5 i6 i7
     try clear h8 h9 h10 h11 i8 i9 i10 i11
     try clear h12 h13 h14 h15 i12 i13 i14 i15
     try clear h16 h17 h18 h19 i16 i17 i18 i19
     try clear h20 h21 h22 h23 i20 i21 i22 i23
     try clear h24 h25 h26 h27 i24 i25 i26 i27
     try clear h28 h29 h30 h31 i28 i29 i30 i31
     try clear h32 h33 h34 h35 i32 i33 i34 i35
     try clear h0 h1 h2 h3 i0 i1 i2 i3
     try clear h36 h37 h38 h39 i36 i37 i38 i39
     obtain ⟨kq, a0, rfl, HA, am0, b0, HB⟩ := hcut
     cases kq with
     | zero => exact absurd HA.out (by simp [spec_l2Ins.j0])
     | succ kj34 =>
      have H := HA.out; clear HA; simp only [spec_l2Ins.j0] at H; replace H := ifB_ H
      rcases H with ⟨rfl, H⟩ | ⟨rfl, H⟩
      ·replace H := bs_ H; obtain ⟨e6, B0, H⟩ := H; (try dsimp only at H); replace H := ifB_ H
       rcases H with ⟨rfl, H⟩ | ⟨rfl, H⟩
       ·replace H := bs_ H; obtain ⟨e7, B1, H⟩ := H; (try dsimp only at H); replace H := ifB_ H
        rcases H with ⟨rfl, H⟩ | ⟨rfl, H⟩
        ·obtain rfl := Option.some.inj H; obtain ⟨h40, h41, h42, h43, i40, i41, i42, i43⟩ := bz4_ b0.out
         go_wp2_with (first | ((with_reducible refine gate_callee (f := 103) rfl ?_); refine gl_ 55 Try.func103 #[.int .i64 g1] ?_; (with_reducible refine (spec_l2Reg.calls g1 true _ B0.out).mono ?_); rintro e w' ⟨rfl, ⟨nd, rfl⟩⟩; refine ⟨_, rfl, ?_⟩) | (go_at_call 103; (with_reducible refine (spec_l2Reg.calls g2 true _ B1.out).mono ?_); rintro e w' ⟨rfl, ⟨nd, rfl⟩⟩; (try clear B1)))
         go_ret
         exact ⟨zq59_, zq62_⟩
        ·obtain rfl := Option.some.inj H; obtain ⟨h40, h41, h42, h43, i40, i41, i42, i43⟩ := bz4_ b0.out
         go_wp2_with (first | ((with_reducible refine gate_callee (f := 103) rfl ?_); refine gl_ 55 Try.func103 #[.int .i64 g1] ?_; (with_reducible refine (spec_l2Reg.calls g1 true _ B0.out).mono ?_); rintro e w' ⟨rfl, ⟨nd, rfl⟩⟩; refine ⟨_, rfl, ?_⟩) | (go_at_call 103; (with_reducible refine (spec_l2Reg.calls g2 false _ B1.out).mono ?_); rintro e w' ⟨rfl, ⟨nd, rfl⟩⟩; (try clear B1)))
         go_ret
         exact ⟨zq59_, zq62_⟩
       ·obtain rfl := Option.some.inj H; obtain ⟨h40, h41, h42, h43, i40, i41, i42, i43⟩ := bz4_ b0.out
        go_wp2_with (first | ((with_reducible refine gate_callee (f := 103) rfl ?_); refine gl_ 55 Try.func103 #[.int .i64 g1] ?_; (with_reducible refine (spec_l2Reg.calls g1 false _ B0.out).mono ?_); rintro e w' ⟨rfl, ⟨nd, rfl⟩⟩; refine ⟨_, rfl, ?_⟩))
        go_ret
        exact ⟨zq59_, zq62_⟩
      ·by_cases v4 : g0 = 6
       ·rw [if_pos v4] at H; have s10 : (g0 == 6) = true := beq_iff_eq.mpr v4; have s11 : (g0 != 6) = false := bne_eq_false_iff_eq.mpr v4; clear v4; replace H := bs_ H; obtain ⟨e6, B0, H⟩ := H; (try dsimp only at H); replace H := ifB_ H
        rcases H with ⟨rfl, H⟩ | ⟨rfl, H⟩
        ·replace H := bs_ H; obtain ⟨e7, B1, H⟩ := H; (try dsimp only at H); replace H := ifB_ H
         rcases H with ⟨rfl, H⟩ | ⟨rfl, H⟩
         ·replace H := ifc_ H
          rcases H with ⟨c52b0, H⟩ | ⟨c52b0, H⟩
          ·change decide (1 ≤ g3) = true at c52b0; obtain rfl := Option.some.inj H; obtain ⟨h40, h41, h42, h43, i40, i41, i42, i43⟩ := bz4_ b0.out
           go_wp2_with (first | ((with_reducible refine gate_callee (f := 103) rfl ?_); refine gl_ 70 Try.func103 #[.int .i64 g1] ?_; (with_reducible refine (spec_l2Reg.calls g1 true _ B0.out).mono ?_); rintro e w' ⟨rfl, ⟨nd, rfl⟩⟩; refine ⟨_, rfl, ?_⟩) | (go_at_call 103; (with_reducible refine (spec_l2Reg.calls g2 true _ B1.out).mono ?_); rintro e w' ⟨rfl, ⟨nd, rfl⟩⟩; (try clear B1)))
           go_ret
           exact ⟨zq59_, zq62_⟩
          ·change decide (1 ≤ g3) = false at c52b0; obtain rfl := Option.some.inj H; obtain ⟨h40, h41, h42, h43, i40, i41, i42, i43⟩ := bz4_ b0.out
           go_wp2_with (first | ((with_reducible refine gate_callee (f := 103) rfl ?_); refine gl_ 70 Try.func103 #[.int .i64 g1] ?_; (with_reducible refine (spec_l2Reg.calls g1 true _ B0.out).mono ?_); rintro e w' ⟨rfl, ⟨nd, rfl⟩⟩; refine ⟨_, rfl, ?_⟩) | (go_at_call 103; (with_reducible refine (spec_l2Reg.calls g2 true _ B1.out).mono ?_); rintro e w' ⟨rfl, ⟨nd, rfl⟩⟩; (try clear B1)))
           go_ret
           exact ⟨zq59_, zq62_⟩
         ·obtain rfl := Option.some.inj H; obtain ⟨h40, h41, h42, h43, i40, i41, i42, i43⟩ := bz4_ b0.out
          go_wp2_with (first | ((with_reducible refine gate_callee (f := 103) rfl ?_); refine gl_ 70 Try.func103 #[.int .i64 g1] ?_; (with_reducible refine (spec_l2Reg.calls g1 true _ B0.out).mono ?_); rintro e w' ⟨rfl, ⟨nd, rfl⟩⟩; refine ⟨_, rfl, ?_⟩) | (go_at_call 103; (with_reducible refine (spec_l2Reg.calls g2 false _ B1.out).mono ?_); rintro e w' ⟨rfl, ⟨nd, rfl⟩⟩; (try clear B1)))
          go_ret
          exact ⟨zq59_, zq62_⟩
        ·obtain rfl := Option.some.inj H; obtain ⟨h40, h41, h42, h43, i40, i41, i42, i43⟩ := bz4_ b0.out
         go_wp2_with (first | ((with_reducible refine gate_callee (f := 103) rfl ?_); refine gl_ 70 Try.func103 #[.int .i64 g1] ?_; (with_reducible refine (spec_l2Reg.calls g1 false _ B0.out).mono ?_); rintro e w' ⟨rfl, ⟨nd, rfl⟩⟩; refine ⟨_, rfl, ?_⟩))
         go_ret
         exact ⟨zq59_, zq62_⟩
       ·rw [if_neg v4] at H; have s10 : (g0 == 6) = false := beq_eq_false_iff_ne.mpr v4; have s11 : (g0 != 6) = true := bne_iff_ne.mpr v4; by_cases v5 : g0 = 7
        ·rw [if_pos v5] at H; have s12 : (g0 == 7) = true := beq_iff_eq.mpr v5; have s13 : (g0 != 7) = false := bne_eq_false_iff_eq.mpr v5; clear v5; by_cases v6 : g1 = 0
         ·rw [if_pos v6] at H; have s14 : (g1 == 0) = true := beq_iff_eq.mpr v6; have s15 : (g1 != 0) = false := bne_eq_false_iff_eq.mpr v6; clear v6; by_cases v7 : g2 = 0
          ·rw [if_pos v7] at H; have s16 : (g2 == 0) = true := beq_iff_eq.mpr v7; have s17 : (g2 != 0) = false := bne_eq_false_iff_eq.mpr v7; clear v7; obtain rfl := Option.some.inj H; obtain ⟨h40, h41, h42, h43, i40, i41, i42, i43⟩ := bz4_ b0.out
           go_wp2
           go_ret
           exact ⟨zq59_, zq62_⟩
          ·rw [if_neg v7] at H; have s16 : (g2 == 0) = false := beq_eq_false_iff_ne.mpr v7; have s17 : (g2 != 0) = true := bne_iff_ne.mpr v7; obtain rfl := Option.some.inj H; obtain ⟨h40, h41, h42, h43, i40, i41, i42, i43⟩ := bz4_ b0.out
           go_wp2
           go_ret
           exact ⟨zq59_, zq62_⟩
         ·rw [if_neg v6] at H; have s14 : (g1 == 0) = false := beq_eq_false_iff_ne.mpr v6; have s15 : (g1 != 0) = true := bne_iff_ne.mpr v6; obtain rfl := Option.some.inj H; obtain ⟨h40, h41, h42, h43, i40, i41, i42, i43⟩ := bz4_ b0.out
          go_wp2
          go_ret
          exact ⟨zq59_, zq62_⟩
        ·rw [if_neg v5] at H; have s12 : (g0 == 7) = false := beq_eq_false_iff_ne.mpr v5; have s13 : (g0 != 7) = true := bne_iff_ne.mpr v5; obtain rfl := Option.some.inj H
         go_wp2
         go_ret
         exact ⟨zq59_, zq62_⟩

/-! ### spec_ProgOk: function 26 -/
def spec_ProgOk.l0 : Nat → List (S34) → Int → Option (Bool)
 | 0, _, _ => none
 | k + 1, x0, x3 => if x3 < (x0.length : Int) then (if 0 ≤ x3 then ((spec_l2Ins.f k ((rd_T34 x0 x3).f0) ((rd_T34 x0 x3).f1) ((rd_T34 x0 x3).f2) ((rd_T34 x0 x3).f3)).bind fun t320 => (if t320 = true then (spec_ProgOk.l0 k x0 (wrap64 (x3 + 1))) else (some false))) else (none)) else (some true)
def spec_ProgOk.f (k : Nat) (l0 : List (S34)) : Option (Bool) := if (l0.length : Int) > 10 then (some false) else (spec_ProgOk.l0 k l0 0)
theorem spec_ProgOk.mono_l : ∀ k, (∀ y0 y1, LeO (spec_ProgOk.l0 k y0 y1) (spec_ProgOk.l0 (k + 1) y0 y1))
 | 0 => fun _ _ r h => by simp [spec_ProgOk.l0] at h
 | k + 1 => by
  have H0 := spec_ProgOk.mono_l k
  ·intro y0 y1
   unfold spec_ProgOk.l0
   repeat' first
   | (with_reducible exact H0 _ _)
   | (with_reducible exact spec_l2Ins.mono _ _ _ _ _)
   | (with_reducible exact LeO.refl _)
   | (with_reducible exact LeO.none _)
   | (with_reducible refine LeO.ite ?_ ?_)
   | (with_reducible refine LeO.bind ?_ (fun _ => ?_))
   | exact H0 _ _
   | exact spec_l2Ins.mono _ _ _ _ _
   | exact LeO.none _
   | refine LeO.ite ?_ ?_
   | refine LeO.bind ?_ (fun _ => ?_)
theorem spec_ProgOk.mono : ∀ a0 k, LeO (spec_ProgOk.f k a0) (spec_ProgOk.f (k + 1) a0) := by
 intro a0 k
 have H0 := spec_ProgOk.mono_l k
 unfold spec_ProgOk.f
 repeat' first
   | (with_reducible exact H0 _ _)
   | (with_reducible exact spec_l2Ins.mono _ _ _ _ _)
   | (with_reducible exact LeO.refl _)
   | (with_reducible exact LeO.none _)
   | (with_reducible refine LeO.ite ?_ ?_)
   | (with_reducible refine LeO.bind ?_ (fun _ => ?_))
   | exact H0 _ _
   | exact spec_l2Ins.mono _ _ _ _ _
   | exact LeO.none _
   | refine LeO.ite ?_ ?_
   | refine LeO.bind ?_ (fun _ => ?_)
set_option maxHeartbeats 8000000 in
set_option maxRecDepth 100000 in
theorem spec_ProgOk.calls (k : Nat) (A0 : Option Addr) (c0 : Nat) (l0 : List (S34)) (r : Bool) (w : World) (Y0 : Kd.C k34 w A0 l0.length l0) (ac0 : l0.length ≤ c0) (h : spec_ProgOk.f k l0 = some r) :
  Calls Try.prog 26 #[.slice A0 l0.length c0] w fun e w' => e = .returned (.bool r) ∧ Below w.heap.size w w' := by
 have ap0 := Try.underlying34; have V0 := Aside0.mk Y0; have ae0 := Aside0.mk ac0; clear Y0 ac0; have HB := Aside0.mk (Below.refl w.heap.size w); have H : (if (l0.length : Int) > 10 then (some false) else (spec_ProgOk.l0 k l0 0)) = some r := h; clear h; by_cases c2 : (l0.length : Int) > 10
 ·rw [if_pos c2] at H; have s0 : decide (10 < (l0.length : Int)) = true := decide_eq_true c2; have s1 : decide (10 < l0.length) = true := decide_eq_true (by omega); clear c2; obtain rfl := Option.some.inj H
  go_enter Try.func26, Try.ntmps26
  go_wp2
  go_ret
  exact ⟨zq59_, zq6c_⟩
 ·rw [if_neg c2] at H; have s0 : decide (10 < (l0.length : Int)) = false := decide_eq_false c2; have s1 : decide (10 < l0.length) = false := decide_eq_false (by omega); clear c2; have H' := Aside0.mk H; clear H
  go_enter Try.func26, Try.ntmps26
  go_wp2
  go_loopg [3] k (fun kq v3 w' => ∃ (a0 : Int), v3 = .int .i64 a0 ∧ Aside0 (spec_ProgOk.l0 kq l0 a0 = some r) ∧ Aside0 (kq ≤ k) ∧ Aside0 (Below w.heap.size w w'))
  case atStart => exact ⟨(0), zq5a_, H', ⟨Nat.le_refl _⟩, ⟨zq6c_⟩⟩
  case round =>
   clear H'
   try clear c2
   try clear s0
   try clear s1
   try clear p2
   obtain ⟨a0, rfl, HA, Z0, HB⟩ := hrel
   cases gk with
   | zero => exact absurd HA.out (by simp [spec_ProgOk.l0])
   | succ k1 =>
    have H := HA.out; clear HA; simp only [spec_ProgOk.l0] at H; replace H := ifc_ H
    rcases H with ⟨c3b0, H⟩ | ⟨c3b0, H⟩
    ·replace H := ifd_ H; obtain ⟨s2, H⟩ := H; replace H := bs_ H; obtain ⟨e0, A5, H⟩ := H; (try dsimp only at H); replace H := ifB_ H
     rcases H with ⟨rfl, H⟩ | ⟨rfl, H⟩
     ·have H' := Aside0.mk H; clear H; have u0 : 0 ≤ (a0 : Int) := of_decide_eq_true zq55_; have t0 : a0 < (l0.length : Int) := of_decide_eq_true zq55_; obtain ⟨F0, Q0, q0, q1, q2, q3⟩ := at_T34 V0.out a0 u0 t0; cases Q0; replace q0 := pb_ HB.out q0; replace q1 := pb_ HB.out q1; replace q2 := pb_ HB.out q2; replace q3 := pb_ HB.out q3; replace u0 := eq_true u0; replace t0 := eq_true t0
      go_wp2_with (first | ((with_reducible refine gate_callee (f := 78) rfl ?_); refine gl_ 17 Try.func78 #[.agg #[.int .i64 ((rd_T34 l0 a0).f0), .int .i64 ((rd_T34 l0 a0).f1), .int .i64 ((rd_T34 l0 a0).f2), .int .i64 ((rd_T34 l0 a0).f3)]] ?_; (with_reducible refine (spec_l2Ins.calls k1 ((rd_T34 l0 a0).f0) ((rd_T34 l0 a0).f1) ((rd_T34 l0 a0).f2) ((rd_T34 l0 a0).f3) true _ A5.out).mono ?_); rintro e w7 ⟨rfl, hb⟩; refine ⟨_, rfl, ?_⟩; replace HB := Aside0.mk (below_step zq6c_ hb); (try clear hb)))
      go_roundg k1
      case measure => have := Z0.out; omega
      case rel => exact ⟨(wrap64 (a0 + 1)), zq5a_, H', ⟨by have := Z0.out; omega⟩, ⟨zq6c_⟩⟩
     ·obtain rfl := Option.some.inj H; have u0 : 0 ≤ (a0 : Int) := of_decide_eq_true zq55_; have t0 : a0 < (l0.length : Int) := of_decide_eq_true zq55_; obtain ⟨F0, Q0, q0, q1, q2, q3⟩ := at_T34 V0.out a0 u0 t0; cases Q0; replace q0 := pb_ HB.out q0; replace q1 := pb_ HB.out q1; replace q2 := pb_ HB.out q2; replace q3 := pb_ HB.out q3; replace u0 := eq_true u0; replace t0 := eq_true t0
      go_wp2_with (first | ((with_reducible refine gate_callee (f := 78) rfl ?_); refine gl_ 17 Try.func78 #[.agg #[.int .i64 ((rd_T34 l0 a0).f0), .int .i64 ((rd_T34 l0 a0).f1), .int .i64 ((rd_T34 l0 a0).f2), .int .i64 ((rd_T34 l0 a0).f3)]] ?_; (with_reducible refine (spec_l2Ins.calls k1 ((rd_T34 l0 a0).f0) ((rd_T34 l0 a0).f1) ((rd_T34 l0 a0).f2) ((rd_T34 l0 a0).f3) false _ A5.out).mono ?_); rintro e w8 ⟨rfl, hb⟩; refine ⟨_, rfl, ?_⟩; replace HB := Aside0.mk (below_step zq6c_ hb); (try clear hb)))
      go_ret
      exact ⟨zq59_, zq6c_⟩
    ·obtain rfl := Option.some.inj H
     go_wp2
     go_ret
     exact ⟨zq59_, zq6c_⟩

/-! ### spec_l3Saw: function 76 -/
def spec_l3Saw.l0 : Nat → List (S48) → Int → Int → Option (Bool)
 | 0, _, _, _ => none
 | k + 1, x0, x1, x5 => if x5 < (x0.length : Int) then (if 0 ≤ x5 then (if ((rd_T48 x0 x5).f0) = x1 then (some true) else (spec_l3Saw.l0 k x0 x1 (wrap64 (x5 + 1)))) else (none)) else (some false)
def spec_l3Saw.f (k : Nat) (l0 : List (S48)) (a1 : Int) : Option (Bool) := spec_l3Saw.l0 k l0 a1 0
theorem spec_l3Saw.mono_l : ∀ k, (∀ y0 y1 y2, LeO (spec_l3Saw.l0 k y0 y1 y2) (spec_l3Saw.l0 (k + 1) y0 y1 y2))
 | 0 => fun _ _ _ r h => by simp [spec_l3Saw.l0] at h
 | k + 1 => by
  have H0 := spec_l3Saw.mono_l k
  ·intro y0 y1 y2
   unfold spec_l3Saw.l0
   repeat' first
   | (with_reducible exact H0 _ _ _)
   | (with_reducible exact LeO.refl _)
   | (with_reducible exact LeO.none _)
   | (with_reducible refine LeO.ite ?_ ?_)
   | (with_reducible refine LeO.bind ?_ (fun _ => ?_))
   | exact H0 _ _ _
   | exact LeO.none _
   | refine LeO.ite ?_ ?_
   | refine LeO.bind ?_ (fun _ => ?_)
theorem spec_l3Saw.mono : ∀ a0 a1 k, LeO (spec_l3Saw.f k a0 a1) (spec_l3Saw.f (k + 1) a0 a1) := by
 intro a0 a1 k
 have H0 := spec_l3Saw.mono_l k
 unfold spec_l3Saw.f
 repeat' first
   | (with_reducible exact H0 _ _ _)
   | (with_reducible exact LeO.refl _)
   | (with_reducible exact LeO.none _)
   | (with_reducible refine LeO.ite ?_ ?_)
   | (with_reducible refine LeO.bind ?_ (fun _ => ?_))
   | exact H0 _ _ _
   | exact LeO.none _
   | refine LeO.ite ?_ ?_
   | refine LeO.bind ?_ (fun _ => ?_)
set_option maxHeartbeats 8000000 in
set_option maxRecDepth 100000 in
theorem spec_l3Saw.calls (k : Nat) (A0 : Option Addr) (c0 : Nat) (l0 : List (S48)) (a1 : Int) (r : Bool) (w : World) (Y0 : Kd.C k48 w A0 l0.length l0) (ac0 : l0.length ≤ c0) (h : spec_l3Saw.f k l0 a1 = some r) :
  Calls Try.prog 76 #[.slice A0 l0.length c0, .int .i64 a1] w fun e w' => e = .returned (.bool r) ∧ Drawn0 w w' := by
 have V0 := Aside0.mk Y0; have ae0 := Aside0.mk ac0; clear Y0 ac0; have H : (spec_l3Saw.l0 k l0 a1 0) = some r := h; clear h; have H' := Aside0.mk H; clear H
 go_enter Try.func76, Try.ntmps76
 go_wp2
 go_loopg [5] k (fun kq v5 w' => ∃ (a0 : Int), v5 = .int .i64 a0 ∧ Aside0 (spec_l3Saw.l0 kq l0 a1 a0 = some r) ∧ Aside0 (kq ≤ k) ∧ Drawn0 w w')
 case atStart => exact ⟨(0), zq5a_, H', ⟨Nat.le_refl _⟩, zq8d_⟩
 case round =>
  clear H'
  try clear p2
  obtain ⟨a0, rfl, HA, Z0, ⟨m1, rfl⟩⟩ := hrel
  cases gk with
  | zero => exact absurd HA.out (by simp [spec_l3Saw.l0])
  | succ k1 =>
   have H := HA.out; clear HA; simp only [spec_l3Saw.l0] at H; replace H := ifc_ H
   rcases H with ⟨c3b0, H⟩ | ⟨c3b0, H⟩
   ·replace H := ifd_ H; obtain ⟨s0, H⟩ := H; by_cases c5 : ((rd_T48 l0 a0).f0) = a1
    ·rw [if_pos c5] at H; have s1 : (((rd_T48 l0 a0).f0) == a1) = true := beq_iff_eq.mpr c5; have s2 : (((rd_T48 l0 a0).f0) != a1) = false := bne_eq_false_iff_eq.mpr c5; clear c5; obtain rfl := Option.some.inj H; have u0 : 0 ≤ (a0 : Int) := of_decide_eq_true zq55_; have t0 : a0 < (l0.length : Int) := of_decide_eq_true zq55_; obtain ⟨F0, Q0, q0, q1⟩ := at_T48 V0.out a0 u0 t0; cases Q0; replace u0 := eq_true u0; replace t0 := eq_true t0
     go_wp2
     go_ret
     exact ⟨zq5a_, zq8d_⟩
    ·rw [if_neg c5] at H; have s1 : (((rd_T48 l0 a0).f0) == a1) = false := beq_eq_false_iff_ne.mpr c5; have s2 : (((rd_T48 l0 a0).f0) != a1) = true := bne_iff_ne.mpr c5; have H' := Aside0.mk H; clear H; have u0 : 0 ≤ (a0 : Int) := of_decide_eq_true zq55_; have t0 : a0 < (l0.length : Int) := of_decide_eq_true zq55_; obtain ⟨F0, Q0, q0, q1⟩ := at_T48 V0.out a0 u0 t0; cases Q0; replace u0 := eq_true u0; replace t0 := eq_true t0
     go_wp2
     go_roundg k1
     case measure => have := Z0.out; omega
     case rel => exact ⟨(wrap64 (a0 + 1)), zq5a_, H', ⟨by have := Z0.out; omega⟩, zq8d_⟩
   ·obtain rfl := Option.some.inj H
    go_wp2
    go_ret
    exact ⟨zq5a_, zq8d_⟩

end Go.Proofs.Ytgdafcakefnpdaa.PFnExec
