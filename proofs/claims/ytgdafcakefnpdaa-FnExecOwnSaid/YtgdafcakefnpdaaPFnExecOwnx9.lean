-- Laid by this session's program out of the translation (gen.sh).
import Derived.Test.YtgdafcakefnpdaaPFnExecOwnx0
import Derived.Test.YtgdafcakefnpdaaPFnExecOwnx8
namespace Go.Proofs.Ytgdafcakefnpdaa.PFnExecOwn
open Go.RowKit Go.Proofs.YtgdafcakefnpdaaW.PrintWords Go.Proofs.YtgdafcakefnpdaaW.PrintLast Go.Proofs.YtgdafcakefnpdaaW.PrintMore
attribute [local go_sem] max2_int min2_int max_two min_two max_three min_three max_four min_four   -- for this text's walks alone
set_option linter.unusedVariables false
set_option linter.unusedSimpArgs false

/-! ### spec_l2Ins: function 78 -/
def spec_l2Ins.j0 : Nat → Int → Bool → Int → Int → Int → Int → Option (Bool)
 | 0, _, _, _, _, _, _ => none
 | k + 1, x4, x50, x309000, x309001, x309002, x309003 => if x50 = true then ((spec_l2Reg.f x309001).bind fun t315 => (if t315 = true then ((spec_l2Reg.f x309002).bind fun t316 => (if t316 = true then (some (x309003 == 0)) else (some false))) else (some false))) else (if x4 = 6 then ((spec_l2Reg.f x309001).bind fun t317 => (if t317 = true then ((spec_l2Reg.f x309002).bind fun t318 => (if t318 = true then (if x309003 ≥ 1 then (some (decide (x309003 ≤ 10))) else (some false)) else (some false))) else (some false))) else (if x4 = 7 then (if x309001 = 0 then (if x309002 = 0 then (some (x309003 == 0)) else (some false)) else (some false)) else (some false)))
def spec_l2Ins.f (k : Nat) (a0_0 : Int) (a0_1 : Int) (a0_2 : Int) (a0_3 : Int) : Option (Bool) := if a0_0 = 1 then ((spec_l2Reg.f a0_1).bind fun t309 => (if t309 = true then ((spec_l2Box.f a0_2).bind fun t310 => (if t310 = true then (some (a0_3 == 0)) else (some false))) else (some false))) else (if a0_0 = 2 then ((spec_l2Box.f a0_1).bind fun t311 => (if t311 = true then ((spec_l2Reg.f a0_2).bind fun t312 => (if t312 = true then (some (a0_3 == 0)) else (some false))) else (some false))) else (if a0_0 = 3 then ((spec_l2Reg.f a0_1).bind fun t313 => (if t313 = true then (if a0_2 = 0 then ((spec_l1Num.f a0_3).bind fun t314 => (some t314)) else (some false)) else (some false))) else (if a0_0 = 4 then (spec_l2Ins.j0 k a0_0 (a0_0 == 4) a0_0 a0_1 a0_2 a0_3) else (spec_l2Ins.j0 k a0_0 (a0_0 == 5) a0_0 a0_1 a0_2 a0_3))))
theorem spec_l2Ins.mono_l : ∀ k, (∀ y0 y1 y2 y3 y4 y5, LeO (spec_l2Ins.j0 k y0 y1 y2 y3 y4 y5) (spec_l2Ins.j0 (k + 1) y0 y1 y2 y3 y4 y5))
 | 0 => fun _ _ _ _ _ _ r h => by simp [spec_l2Ins.j0] at h
 | k + 1 => by
  have L0 := spec_l2Ins.mono_l k
  ·intro y0 y1 y2 y3 y4 y5
   unfold spec_l2Ins.j0
   repeat' first
   | (with_reducible exact L0 _ _ _ _ _ _)
   | (with_reducible exact LeO.refl _)
   | (with_reducible exact LeO.none _)
   | (with_reducible refine LeO.ite ?_ ?_)
   | (with_reducible refine LeO.bind ?_ (fun _ => ?_))
   | exact L0 _ _ _ _ _ _
   | exact LeO.none _
   | refine LeO.ite ?_ ?_
   | refine LeO.bind ?_ (fun _ => ?_)
theorem spec_l2Ins.mono : ∀ a0 a1 a2 a3 k, LeO (spec_l2Ins.f k a0 a1 a2 a3) (spec_l2Ins.f (k + 1) a0 a1 a2 a3) := by
 intro a0 a1 a2 a3 k
 have L0 := spec_l2Ins.mono_l k
 unfold spec_l2Ins.f
 repeat' first
   | (with_reducible exact L0 _ _ _ _ _ _)
   | (with_reducible exact LeO.refl _)
   | (with_reducible exact LeO.none _)
   | (with_reducible refine LeO.ite ?_ ?_)
   | (with_reducible refine LeO.bind ?_ (fun _ => ?_))
   | exact L0 _ _ _ _ _ _
   | exact LeO.none _
   | refine LeO.ite ?_ ?_
   | refine LeO.bind ?_ (fun _ => ?_)
set_option maxHeartbeats 8000000 in
set_option maxRecDepth 100000 in
theorem spec_l2Ins.calls (k : Nat) (k0 : Int) (k1 : Int) (k2 : Int) (k3 : Int) (r : Bool) (w : World) (h : spec_l2Ins.f k k0 k1 k2 k3 = some r) :
  Calls Try.prog 78 #[.agg #[.int .i64 k0, .int .i64 k1, .int .i64 k2, .int .i64 k3]] w fun e w' => e = .returned (.bool r) ∧ Below w.heap.size w w' := by
 have ay0 := Try.underlying34; have HB := Aside0.mk (Below.refl w.heap.size w); have H : (if k0 = 1 then ((spec_l2Reg.f k1).bind fun d0 => (if d0 = true then ((spec_l2Box.f k2).bind fun d1 => (if d1 = true then (some (k3 == 0)) else (some false))) else (some false))) else (if k0 = 2 then ((spec_l2Box.f k1).bind fun d2 => (if d2 = true then ((spec_l2Reg.f k2).bind fun d3 => (if d3 = true then (some (k3 == 0)) else (some false))) else (some false))) else (if k0 = 3 then ((spec_l2Reg.f k1).bind fun d4 => (if d4 = true then (if k2 = 0 then ((spec_l1Num.f k3).bind fun d5 => (some d5)) else (some false)) else (some false))) else (if k0 = 4 then (spec_l2Ins.j0 k k0 (k0 == 4) k0 k1 k2 k3) else (spec_l2Ins.j0 k k0 (k0 == 5) k0 k1 k2 k3))))) = some r := h; clear h; by_cases c2 : k0 = 1
 ·rw [if_pos c2] at H; have q0 : (k0 == 1) = true := beq_iff_eq.mpr c2; have q1 : (k0 != 1) = false := bne_eq_false_iff_eq.mpr c2; clear c2; replace H := bs_ H; obtain ⟨d0, A3, H⟩ := H; (try dsimp only at H); replace H := ifB_ H
  rcases H with ⟨rfl, H⟩ | ⟨rfl, H⟩
  ·replace H := bs_ H; obtain ⟨d1, A5, H⟩ := H; (try dsimp only at H); replace H := ifB_ H
   rcases H with ⟨rfl, H⟩ | ⟨rfl, H⟩
   ·obtain rfl := Option.some.inj H
    go_enter Try.func78, Try.ntmps78
    go_wp2_with (first | ((with_reducible refine gate_dst (N := 1) rfl ?_); refine bxe_ (N := 1) (cs := #[.int .i64 k0, .int .i64 k1, .int .i64 k2, .int .i64 k3]) (t := 34) ?_; intro c0 hg w7 G hb; have n_ := A4_ (below_step zq6f_ hb) (G) ((zqa9_ : w.heap.size ≤ c0)) ((zqa9_ : w.heap.size ≤ c0)); clear HB; obtain ⟨HB, b0, A0, n0⟩ := n_; clear hb G hg; obtain ⟨l0, l1, l2, l3, m0, m1, m2, m3⟩ := bz4_ b0.out) | ((with_reducible refine gate_callee (f := 103) rfl ?_); refine gl_ 9 Try.func103 #[.int .i64 k1] ?_; (with_reducible refine (spec_l2Reg.calls k1 true _ A3.out).mono ?_); rintro e w' ⟨rfl, ⟨nd, rfl⟩⟩; refine ⟨_, rfl, ?_⟩) | (go_at_call 75; (with_reducible refine (spec_l2Box.calls k2 true _ A5.out).mono ?_); rintro e w' ⟨rfl, ⟨nd, rfl⟩⟩; (try clear A5)))
    go_ret
    exact ⟨zq63_, zq6e_⟩
   ·obtain rfl := Option.some.inj H
    go_enter Try.func78, Try.ntmps78
    go_wp2_with (first | ((with_reducible refine gate_dst (N := 1) rfl ?_); refine bxe_ (N := 1) (cs := #[.int .i64 k0, .int .i64 k1, .int .i64 k2, .int .i64 k3]) (t := 34) ?_; intro c0 hg w9 G hb; have n_ := A4_ (below_step zq6f_ hb) (G) ((zqa9_ : w.heap.size ≤ c0)) ((zqa9_ : w.heap.size ≤ c0)); clear HB; obtain ⟨HB, b0, A0, n0⟩ := n_; clear hb G hg; obtain ⟨l0, l1, l2, l3, m0, m1, m2, m3⟩ := bz4_ b0.out) | ((with_reducible refine gate_callee (f := 103) rfl ?_); refine gl_ 9 Try.func103 #[.int .i64 k1] ?_; (with_reducible refine (spec_l2Reg.calls k1 true _ A3.out).mono ?_); rintro e w' ⟨rfl, ⟨nd, rfl⟩⟩; refine ⟨_, rfl, ?_⟩) | (go_at_call 75; (with_reducible refine (spec_l2Box.calls k2 false _ A5.out).mono ?_); rintro e w' ⟨rfl, ⟨nd, rfl⟩⟩; (try clear A5)))
    go_ret
    exact ⟨zq63_, zq6e_⟩
  ·obtain rfl := Option.some.inj H
   go_enter Try.func78, Try.ntmps78
   go_wp2_with (first | ((with_reducible refine gate_dst (N := 1) rfl ?_); refine bxe_ (N := 1) (cs := #[.int .i64 k0, .int .i64 k1, .int .i64 k2, .int .i64 k3]) (t := 34) ?_; intro c0 hg p0 G hb; have n_ := A4_ (below_step zq6f_ hb) (G) ((zqa9_ : w.heap.size ≤ c0)) ((zqa9_ : w.heap.size ≤ c0)); clear HB; obtain ⟨HB, b0, A0, n0⟩ := n_; clear hb G hg; obtain ⟨l0, l1, l2, l3, m0, m1, m2, m3⟩ := bz4_ b0.out) | ((with_reducible refine gate_callee (f := 103) rfl ?_); refine gl_ 9 Try.func103 #[.int .i64 k1] ?_; (with_reducible refine (spec_l2Reg.calls k1 false _ A3.out).mono ?_); rintro e w' ⟨rfl, ⟨nd, rfl⟩⟩; refine ⟨_, rfl, ?_⟩))
   go_ret
   exact ⟨zq63_, zq6e_⟩
 ·rw [if_neg c2] at H; have q0 : (k0 == 1) = false := beq_eq_false_iff_ne.mpr c2; have q1 : (k0 != 1) = true := bne_iff_ne.mpr c2; by_cases r0 : k0 = 2
  ·rw [if_pos r0] at H; have q2 : (k0 == 2) = true := beq_iff_eq.mpr r0; have q3 : (k0 != 2) = false := bne_eq_false_iff_eq.mpr r0; clear r0; replace H := bs_ H; obtain ⟨d2, E0, H⟩ := H; (try dsimp only at H); replace H := ifB_ H
   rcases H with ⟨rfl, H⟩ | ⟨rfl, H⟩
   ·replace H := bs_ H; obtain ⟨d3, E1, H⟩ := H; (try dsimp only at H); replace H := ifB_ H
    rcases H with ⟨rfl, H⟩ | ⟨rfl, H⟩
    ·obtain rfl := Option.some.inj H
     go_enter Try.func78, Try.ntmps78
     go_wp2_with (first | ((with_reducible refine gate_dst (N := 1) rfl ?_); refine bxe_ (N := 1) (cs := #[.int .i64 k0, .int .i64 k1, .int .i64 k2, .int .i64 k3]) (t := 34) ?_; intro c0 hg p0 G hb; have n_ := A4_ (below_step zq6f_ hb) (G) ((zqa9_ : w.heap.size ≤ c0)) ((zqa9_ : w.heap.size ≤ c0)); clear HB; obtain ⟨HB, b0, A0, n0⟩ := n_; clear hb G hg; obtain ⟨l0, l1, l2, l3, m0, m1, m2, m3⟩ := bz4_ b0.out) | ((with_reducible refine gate_callee (f := 75) rfl ?_); refine gl_ 24 Try.func75 #[.int .i64 k1] ?_; (with_reducible refine (spec_l2Box.calls k1 true _ E0.out).mono ?_); rintro e w' ⟨rfl, ⟨nd, rfl⟩⟩; refine ⟨_, rfl, ?_⟩) | (go_at_call 103; (with_reducible refine (spec_l2Reg.calls k2 true _ E1.out).mono ?_); rintro e w' ⟨rfl, ⟨nd, rfl⟩⟩; (try clear E1)))
     go_ret
     exact ⟨zq63_, zq6e_⟩
    ·obtain rfl := Option.some.inj H
     go_enter Try.func78, Try.ntmps78
     go_wp2_with (first | ((with_reducible refine gate_dst (N := 1) rfl ?_); refine bxe_ (N := 1) (cs := #[.int .i64 k0, .int .i64 k1, .int .i64 k2, .int .i64 k3]) (t := 34) ?_; intro c0 hg p0 G hb; have n_ := A4_ (below_step zq6f_ hb) (G) ((zqa9_ : w.heap.size ≤ c0)) ((zqa9_ : w.heap.size ≤ c0)); clear HB; obtain ⟨HB, b0, A0, n0⟩ := n_; clear hb G hg; obtain ⟨l0, l1, l2, l3, m0, m1, m2, m3⟩ := bz4_ b0.out) | ((with_reducible refine gate_callee (f := 75) rfl ?_); refine gl_ 24 Try.func75 #[.int .i64 k1] ?_; (with_reducible refine (spec_l2Box.calls k1 true _ E0.out).mono ?_); rintro e w' ⟨rfl, ⟨nd, rfl⟩⟩; refine ⟨_, rfl, ?_⟩) | (go_at_call 103; (with_reducible refine (spec_l2Reg.calls k2 false _ E1.out).mono ?_); rintro e w' ⟨rfl, ⟨nd, rfl⟩⟩; (try clear E1)))
     go_ret
     exact ⟨zq63_, zq6e_⟩
   ·obtain rfl := Option.some.inj H
    go_enter Try.func78, Try.ntmps78
    go_wp2_with (first | ((with_reducible refine gate_dst (N := 1) rfl ?_); refine bxe_ (N := 1) (cs := #[.int .i64 k0, .int .i64 k1, .int .i64 k2, .int .i64 k3]) (t := 34) ?_; intro c0 hg p0 G hb; have n_ := A4_ (below_step zq6f_ hb) (G) ((zqa9_ : w.heap.size ≤ c0)) ((zqa9_ : w.heap.size ≤ c0)); clear HB; obtain ⟨HB, b0, A0, n0⟩ := n_; clear hb G hg; obtain ⟨l0, l1, l2, l3, m0, m1, m2, m3⟩ := bz4_ b0.out) | ((with_reducible refine gate_callee (f := 75) rfl ?_); refine gl_ 24 Try.func75 #[.int .i64 k1] ?_; (with_reducible refine (spec_l2Box.calls k1 false _ E0.out).mono ?_); rintro e w' ⟨rfl, ⟨nd, rfl⟩⟩; refine ⟨_, rfl, ?_⟩))
    go_ret
    exact ⟨zq63_, zq6e_⟩
  ·rw [if_neg r0] at H; have q2 : (k0 == 2) = false := beq_eq_false_iff_ne.mpr r0; have q3 : (k0 != 2) = true := bne_iff_ne.mpr r0; by_cases r1 : k0 = 3
   ·rw [if_pos r1] at H; have q4 : (k0 == 3) = true := beq_iff_eq.mpr r1; have q5 : (k0 != 3) = false := bne_eq_false_iff_eq.mpr r1; clear r1; replace H := bs_ H; obtain ⟨d4, E0, H⟩ := H; (try dsimp only at H); replace H := ifB_ H
    rcases H with ⟨rfl, H⟩ | ⟨rfl, H⟩
    ·by_cases r2 : k2 = 0
     ·rw [if_pos r2] at H; have q6 : (k2 == 0) = true := beq_iff_eq.mpr r2; have q7 : (k2 != 0) = false := bne_eq_false_iff_eq.mpr r2; clear r2; replace H := bs_ H; obtain ⟨d5, E1, H⟩ := H; (try dsimp only at H); obtain rfl := Option.some.inj H
      go_enter Try.func78, Try.ntmps78
      go_wp2_with (first | ((with_reducible refine gate_dst (N := 1) rfl ?_); refine bxe_ (N := 1) (cs := #[.int .i64 k0, .int .i64 k1, .int .i64 k2, .int .i64 k3]) (t := 34) ?_; intro c0 hg p0 G hb; have n_ := A4_ (below_step zq6f_ hb) (G) ((zqa9_ : w.heap.size ≤ c0)) ((zqa9_ : w.heap.size ≤ c0)); clear HB; obtain ⟨HB, b0, A0, n0⟩ := n_; clear hb G hg; obtain ⟨l0, l1, l2, l3, m0, m1, m2, m3⟩ := bz4_ b0.out) | ((with_reducible refine gate_callee (f := 103) rfl ?_); refine gl_ 39 Try.func103 #[.int .i64 k1] ?_; (with_reducible refine (spec_l2Reg.calls k1 true _ E0.out).mono ?_); rintro e w' ⟨rfl, ⟨nd, rfl⟩⟩; refine ⟨_, rfl, ?_⟩) | (go_at_call 74; (with_reducible refine (spec_l1Num.calls k3 d5 _ E1.out).mono ?_); rintro e w' ⟨rfl, ⟨nd, rfl⟩⟩; (try clear E1)))
      go_ret
      exact ⟨zq63_, zq6e_⟩
     ·rw [if_neg r2] at H; have q6 : (k2 == 0) = false := beq_eq_false_iff_ne.mpr r2; have q7 : (k2 != 0) = true := bne_iff_ne.mpr r2; obtain rfl := Option.some.inj H
      go_enter Try.func78, Try.ntmps78
      go_wp2_with (first | ((with_reducible refine gate_dst (N := 1) rfl ?_); refine bxe_ (N := 1) (cs := #[.int .i64 k0, .int .i64 k1, .int .i64 k2, .int .i64 k3]) (t := 34) ?_; intro c0 hg p0 G hb; have n_ := A4_ (below_step zq6f_ hb) (G) ((zqa9_ : w.heap.size ≤ c0)) ((zqa9_ : w.heap.size ≤ c0)); clear HB; obtain ⟨HB, b0, A0, n0⟩ := n_; clear hb G hg; obtain ⟨l0, l1, l2, l3, m0, m1, m2, m3⟩ := bz4_ b0.out) | ((with_reducible refine gate_callee (f := 103) rfl ?_); refine gl_ 39 Try.func103 #[.int .i64 k1] ?_; (with_reducible refine (spec_l2Reg.calls k1 true _ E0.out).mono ?_); rintro e w' ⟨rfl, ⟨nd, rfl⟩⟩; refine ⟨_, rfl, ?_⟩))
      go_ret
      exact ⟨zq63_, zq6e_⟩
    ·obtain rfl := Option.some.inj H
     go_enter Try.func78, Try.ntmps78
     go_wp2_with (first | ((with_reducible refine gate_dst (N := 1) rfl ?_); refine bxe_ (N := 1) (cs := #[.int .i64 k0, .int .i64 k1, .int .i64 k2, .int .i64 k3]) (t := 34) ?_; intro c0 hg p0 G hb; have n_ := A4_ (below_step zq6f_ hb) (G) ((zqa9_ : w.heap.size ≤ c0)) ((zqa9_ : w.heap.size ≤ c0)); clear HB; obtain ⟨HB, b0, A0, n0⟩ := n_; clear hb G hg; obtain ⟨l0, l1, l2, l3, m0, m1, m2, m3⟩ := bz4_ b0.out) | ((with_reducible refine gate_callee (f := 103) rfl ?_); refine gl_ 39 Try.func103 #[.int .i64 k1] ?_; (with_reducible refine (spec_l2Reg.calls k1 false _ E0.out).mono ?_); rintro e w' ⟨rfl, ⟨nd, rfl⟩⟩; refine ⟨_, rfl, ?_⟩))
     go_ret
     exact ⟨zq63_, zq6e_⟩
   ·rw [if_neg r1] at H; have q4 : (k0 == 3) = false := beq_eq_false_iff_ne.mpr r1; have q5 : (k0 != 3) = true := bne_iff_ne.mpr r1; have ac0 := Aside0.mk H; clear H
    go_enter Try.func78, Try.ntmps78
    go_upto_if 50 with (first | ((with_reducible refine gate_dst (N := 1) rfl ?_); refine bxe_ (N := 1) (cs := #[.int .i64 k0, .int .i64 k1, .int .i64 k2, .int .i64 k3]) (t := 34) ?_; intro c0 hg p0 G hb; have n_ := A4_ (below_step zq6f_ hb) (G) ((zqa9_ : w.heap.size ≤ c0)) ((zqa9_ : w.heap.size ≤ c0)); clear HB; obtain ⟨HB, b0, A0, n0⟩ := n_; clear hb G hg; obtain ⟨l0, l1, l2, l3, m0, m1, m2, m3⟩ := bz4_ b0.out))
    (try simp only [Act.put, List.setIfInBounds_toArray, List.set_cons_zero, List.set_cons_succ])
    go_cut [50] (fun S0 wc => ∃ (kq : Nat) (a0 : Bool), S0 = .bool a0 ∧ Aside0 (spec_l2Ins.j0 kq k0 a0 k0 k1 k2 k3 = some r) ∧ Aside0 (kq ≤ k) ∧ Aside0 (wc.heap[c0]? = some (.cells #[.int .i64 k0, .int .i64 k1, .int .i64 k2, .int .i64 k3] 34 (0, 0))) ∧ Aside0 (Below w.heap.size w wc))
    case first =>
     have H := ac0.out; clear ac0; by_cases r2 : k0 = 4
     ·rw [if_pos r2] at H; have q6 : (k0 == 4) = true := beq_iff_eq.mpr r2; have q7 : (k0 != 4) = false := bne_eq_false_iff_eq.mpr r2; clear r2; (first | rw [q6] | (simp only [i64_w, i32_w]; rw [q6]) | skip); have H' := Aside0.mk H; clear H
      go_wp2
      go_meet
      case rel => exact ⟨_, ((k0 == 4)), zq64_, H', ⟨zq62_⟩, ⟨zq2f_⟩, ⟨zq6e_⟩⟩
     ·rw [if_neg r2] at H; have q6 : (k0 == 4) = false := beq_eq_false_iff_ne.mpr r2; have q7 : (k0 != 4) = true := bne_iff_ne.mpr r2; (first | rw [q6] | (simp only [i64_w, i32_w]; rw [q6]) | skip); have H' := Aside0.mk H; clear H
      go_wp2
      go_meet
      case rel => exact ⟨_, ((k0 == 5)), zq64_, H', ⟨zq62_⟩, ⟨zq2f_⟩, ⟨zq6e_⟩⟩
    case rest =>
     clear ac0
     try clear c1
     try clear c2
     try clear q0
     try clear q1
     try clear p2
     try clear c3
     try clear c4
     try clear c6
     try clear c7
     try clear c10
     try clear r0
     try clear q2
     try clear q3
     try clear c15
     try clear c17
     try clear r1
     try clear q4
     try clear q5
     try clear c26
     try clear r3
     try clear q6
     try clear q7
     try clear r2
     try clear q8
     try clear q9
     try clear l4 l5 l6 l7 m4 m5 m6 m7
     try clear l8 l9 l10 l11 m8 m9 m10 m11
     try clear l12 l13 l14 l15 m12 m13 m14 m15
     try clear l16 l17 l18 l19 m16 m17 m18 m19
     try clear l20 l21 l22 l23 m20 m21 m22 m23
     try clear l24 l25 l26 l27 m24 m25 m26 m27
     try clear l28 l29 l30 l31 m28 m29 m30 m31
     try clear l32 l33 l34 l35 m32 m33 m34 m35
     try clear l0 l1 l2 l3 m0 m1 m2 m3
     try clear l36 l37 l38 l39 m36 m37 m38 m39
     obtain ⟨kq, a0, rfl, HA, ao0, b0, HB⟩ := hcut
     cases kq with
     | zero => exact absurd HA.out (by simp [spec_l2Ins.j0])
     | succ kj34 =>
      have H := HA.out; clear HA; simp only [spec_l2Ins.j0] at H; replace H := ifB_ H
      rcases H with ⟨rfl, H⟩ | ⟨rfl, H⟩
      ·replace H := bs_ H; obtain ⟨d6, E0, H⟩ := H; (try dsimp only at H); replace H := ifB_ H
       rcases H with ⟨rfl, H⟩ | ⟨rfl, H⟩
       ·replace H := bs_ H; obtain ⟨d7, E1, H⟩ := H; (try dsimp only at H); replace H := ifB_ H
        rcases H with ⟨rfl, H⟩ | ⟨rfl, H⟩
        ·obtain rfl := Option.some.inj H; obtain ⟨l40, l41, l42, l43, m40, m41, m42, m43⟩ := bz4_ b0.out
         go_wp2_with (first | ((with_reducible refine gate_callee (f := 103) rfl ?_); refine gl_ 55 Try.func103 #[.int .i64 k1] ?_; (with_reducible refine (spec_l2Reg.calls k1 true _ E0.out).mono ?_); rintro e w' ⟨rfl, ⟨nd, rfl⟩⟩; refine ⟨_, rfl, ?_⟩) | (go_at_call 103; (with_reducible refine (spec_l2Reg.calls k2 true _ E1.out).mono ?_); rintro e w' ⟨rfl, ⟨nd, rfl⟩⟩; (try clear E1)))
         go_ret
         exact ⟨zq63_, zq6e_⟩
        ·obtain rfl := Option.some.inj H; obtain ⟨l40, l41, l42, l43, m40, m41, m42, m43⟩ := bz4_ b0.out
         go_wp2_with (first | ((with_reducible refine gate_callee (f := 103) rfl ?_); refine gl_ 55 Try.func103 #[.int .i64 k1] ?_; (with_reducible refine (spec_l2Reg.calls k1 true _ E0.out).mono ?_); rintro e w' ⟨rfl, ⟨nd, rfl⟩⟩; refine ⟨_, rfl, ?_⟩) | (go_at_call 103; (with_reducible refine (spec_l2Reg.calls k2 false _ E1.out).mono ?_); rintro e w' ⟨rfl, ⟨nd, rfl⟩⟩; (try clear E1)))
         go_ret
         exact ⟨zq63_, zq6e_⟩
       ·obtain rfl := Option.some.inj H; obtain ⟨l40, l41, l42, l43, m40, m41, m42, m43⟩ := bz4_ b0.out
        go_wp2_with (first | ((with_reducible refine gate_callee (f := 103) rfl ?_); refine gl_ 55 Try.func103 #[.int .i64 k1] ?_; (with_reducible refine (spec_l2Reg.calls k1 false _ E0.out).mono ?_); rintro e w' ⟨rfl, ⟨nd, rfl⟩⟩; refine ⟨_, rfl, ?_⟩))
        go_ret
        exact ⟨zq63_, zq6e_⟩
      ·by_cases r4 : k0 = 6
       ·rw [if_pos r4] at H; have q10 : (k0 == 6) = true := beq_iff_eq.mpr r4; have q11 : (k0 != 6) = false := bne_eq_false_iff_eq.mpr r4; clear r4; replace H := bs_ H; obtain ⟨d6, E0, H⟩ := H; (try dsimp only at H); replace H := ifB_ H
        rcases H with ⟨rfl, H⟩ | ⟨rfl, H⟩
        ·replace H := bs_ H; obtain ⟨d7, E1, H⟩ := H; (try dsimp only at H); replace H := ifB_ H
         rcases H with ⟨rfl, H⟩ | ⟨rfl, H⟩
         ·replace H := ifc_ H
          rcases H with ⟨c52b0, H⟩ | ⟨c52b0, H⟩
          ·change decide (1 ≤ k3) = true at c52b0; obtain rfl := Option.some.inj H; obtain ⟨l40, l41, l42, l43, m40, m41, m42, m43⟩ := bz4_ b0.out
           go_wp2_with (first | ((with_reducible refine gate_callee (f := 103) rfl ?_); refine gl_ 70 Try.func103 #[.int .i64 k1] ?_; (with_reducible refine (spec_l2Reg.calls k1 true _ E0.out).mono ?_); rintro e w' ⟨rfl, ⟨nd, rfl⟩⟩; refine ⟨_, rfl, ?_⟩) | (go_at_call 103; (with_reducible refine (spec_l2Reg.calls k2 true _ E1.out).mono ?_); rintro e w' ⟨rfl, ⟨nd, rfl⟩⟩; (try clear E1)))
           go_ret
           exact ⟨zq63_, zq6e_⟩
          ·change decide (1 ≤ k3) = false at c52b0; obtain rfl := Option.some.inj H; obtain ⟨l40, l41, l42, l43, m40, m41, m42, m43⟩ := bz4_ b0.out
           go_wp2_with (first | ((with_reducible refine gate_callee (f := 103) rfl ?_); refine gl_ 70 Try.func103 #[.int .i64 k1] ?_; (with_reducible refine (spec_l2Reg.calls k1 true _ E0.out).mono ?_); rintro e w' ⟨rfl, ⟨nd, rfl⟩⟩; refine ⟨_, rfl, ?_⟩) | (go_at_call 103; (with_reducible refine (spec_l2Reg.calls k2 true _ E1.out).mono ?_); rintro e w' ⟨rfl, ⟨nd, rfl⟩⟩; (try clear E1)))
           go_ret
           exact ⟨zq63_, zq6e_⟩
         ·obtain rfl := Option.some.inj H; obtain ⟨l40, l41, l42, l43, m40, m41, m42, m43⟩ := bz4_ b0.out
          go_wp2_with (first | ((with_reducible refine gate_callee (f := 103) rfl ?_); refine gl_ 70 Try.func103 #[.int .i64 k1] ?_; (with_reducible refine (spec_l2Reg.calls k1 true _ E0.out).mono ?_); rintro e w' ⟨rfl, ⟨nd, rfl⟩⟩; refine ⟨_, rfl, ?_⟩) | (go_at_call 103; (with_reducible refine (spec_l2Reg.calls k2 false _ E1.out).mono ?_); rintro e w' ⟨rfl, ⟨nd, rfl⟩⟩; (try clear E1)))
          go_ret
          exact ⟨zq63_, zq6e_⟩
        ·obtain rfl := Option.some.inj H; obtain ⟨l40, l41, l42, l43, m40, m41, m42, m43⟩ := bz4_ b0.out
         go_wp2_with (first | ((with_reducible refine gate_callee (f := 103) rfl ?_); refine gl_ 70 Try.func103 #[.int .i64 k1] ?_; (with_reducible refine (spec_l2Reg.calls k1 false _ E0.out).mono ?_); rintro e w' ⟨rfl, ⟨nd, rfl⟩⟩; refine ⟨_, rfl, ?_⟩))
         go_ret
         exact ⟨zq63_, zq6e_⟩
       ·rw [if_neg r4] at H; have q10 : (k0 == 6) = false := beq_eq_false_iff_ne.mpr r4; have q11 : (k0 != 6) = true := bne_iff_ne.mpr r4; by_cases r5 : k0 = 7
        ·rw [if_pos r5] at H; have q12 : (k0 == 7) = true := beq_iff_eq.mpr r5; have q13 : (k0 != 7) = false := bne_eq_false_iff_eq.mpr r5; clear r5; by_cases r6 : k1 = 0
         ·rw [if_pos r6] at H; have q14 : (k1 == 0) = true := beq_iff_eq.mpr r6; have q15 : (k1 != 0) = false := bne_eq_false_iff_eq.mpr r6; clear r6; by_cases r7 : k2 = 0
          ·rw [if_pos r7] at H; have q16 : (k2 == 0) = true := beq_iff_eq.mpr r7; have q17 : (k2 != 0) = false := bne_eq_false_iff_eq.mpr r7; clear r7; obtain rfl := Option.some.inj H; obtain ⟨l40, l41, l42, l43, m40, m41, m42, m43⟩ := bz4_ b0.out
           go_wp2
           go_ret
           exact ⟨zq63_, zq6e_⟩
          ·rw [if_neg r7] at H; have q16 : (k2 == 0) = false := beq_eq_false_iff_ne.mpr r7; have q17 : (k2 != 0) = true := bne_iff_ne.mpr r7; obtain rfl := Option.some.inj H; obtain ⟨l40, l41, l42, l43, m40, m41, m42, m43⟩ := bz4_ b0.out
           go_wp2
           go_ret
           exact ⟨zq63_, zq6e_⟩
         ·rw [if_neg r6] at H; have q14 : (k1 == 0) = false := beq_eq_false_iff_ne.mpr r6; have q15 : (k1 != 0) = true := bne_iff_ne.mpr r6; obtain rfl := Option.some.inj H; obtain ⟨l40, l41, l42, l43, m40, m41, m42, m43⟩ := bz4_ b0.out
          go_wp2
          go_ret
          exact ⟨zq63_, zq6e_⟩
        ·rw [if_neg r5] at H; have q12 : (k0 == 7) = false := beq_eq_false_iff_ne.mpr r5; have q13 : (k0 != 7) = true := bne_iff_ne.mpr r5; obtain rfl := Option.some.inj H
         go_wp2
         go_ret
         exact ⟨zq63_, zq6e_⟩

/-! ### spec_ProgOk: function 26 -/
def spec_ProgOk.l0 : Nat → List (S34) → Int → Option (Bool)
 | 0, _, _ => none
 | k + 1, x0, x3 => if x3 < (x0.length : Int) then (if 0 ≤ x3 then ((spec_l2Ins.f k ((rd_T34 x0 x3).f0) ((rd_T34 x0 x3).f1) ((rd_T34 x0 x3).f2) ((rd_T34 x0 x3).f3)).bind fun t320 => (if t320 = true then (spec_ProgOk.l0 k x0 (wrap64 (x3 + 1))) else (some false))) else (none)) else (some true)
def spec_ProgOk.f (k : Nat) (l0 : List (S34)) : Option (Bool) := if (l0.length : Int) > 10 then (some false) else (spec_ProgOk.l0 k l0 0)
theorem spec_ProgOk.mono_l : ∀ k, (∀ y0 y1, LeO (spec_ProgOk.l0 k y0 y1) (spec_ProgOk.l0 (k + 1) y0 y1))
 | 0 => fun _ _ r h => by simp [spec_ProgOk.l0] at h
 | k + 1 => by
  have L0 := spec_ProgOk.mono_l k
  ·intro y0 y1
   unfold spec_ProgOk.l0
   repeat' first
   | (with_reducible exact L0 _ _)
   | (with_reducible exact spec_l2Ins.mono _ _ _ _ _)
   | (with_reducible exact LeO.refl _)
   | (with_reducible exact LeO.none _)
   | (with_reducible refine LeO.ite ?_ ?_)
   | (with_reducible refine LeO.bind ?_ (fun _ => ?_))
   | exact L0 _ _
   | exact spec_l2Ins.mono _ _ _ _ _
   | exact LeO.none _
   | refine LeO.ite ?_ ?_
   | refine LeO.bind ?_ (fun _ => ?_)
theorem spec_ProgOk.mono : ∀ a0 k, LeO (spec_ProgOk.f k a0) (spec_ProgOk.f (k + 1) a0) := by
 intro a0 k
 have L0 := spec_ProgOk.mono_l k
 unfold spec_ProgOk.f
 repeat' first
   | (with_reducible exact L0 _ _)
   | (with_reducible exact spec_l2Ins.mono _ _ _ _ _)
   | (with_reducible exact LeO.refl _)
   | (with_reducible exact LeO.none _)
   | (with_reducible refine LeO.ite ?_ ?_)
   | (with_reducible refine LeO.bind ?_ (fun _ => ?_))
   | exact L0 _ _
   | exact spec_l2Ins.mono _ _ _ _ _
   | exact LeO.none _
   | refine LeO.ite ?_ ?_
   | refine LeO.bind ?_ (fun _ => ?_)
set_option maxHeartbeats 8000000 in
set_option maxRecDepth 100000 in
theorem spec_ProgOk.calls (k : Nat) (A0 : Option Addr) (c0 : Nat) (l0 : List (S34)) (r : Bool) (w : World) (Y0 : Kd.C k34 w A0 l0.length l0) (ab0 : l0.length ≤ c0) (h : spec_ProgOk.f k l0 = some r) :
  Calls Try.prog 26 #[.slice A0 l0.length c0] w fun e w' => e = .returned (.bool r) ∧ Below w.heap.size w w' := by
 have ay0 := Try.underlying34; have X0 := Aside0.mk Y0; have ac0 := Aside0.mk ab0; clear Y0 ab0; have HB := Aside0.mk (Below.refl w.heap.size w); have H : (if (l0.length : Int) > 10 then (some false) else (spec_ProgOk.l0 k l0 0)) = some r := h; clear h; by_cases c2 : (l0.length : Int) > 10
 ·rw [if_pos c2] at H; have q0 : decide (10 < (l0.length : Int)) = true := decide_eq_true c2; have q1 : decide (10 < l0.length) = true := decide_eq_true (by omega); clear c2; obtain rfl := Option.some.inj H
  go_enter Try.func26, Try.ntmps26
  go_wp2
  go_ret
  exact ⟨zq63_, zq6f_⟩
 ·rw [if_neg c2] at H; have q0 : decide (10 < (l0.length : Int)) = false := decide_eq_false c2; have q1 : decide (10 < l0.length) = false := decide_eq_false (by omega); clear c2; have H' := Aside0.mk H; clear H
  go_enter Try.func26, Try.ntmps26
  go_wp2
  go_loopg [3] k (fun kq v3 w' => ∃ (a0 : Int), v3 = .int .i64 a0 ∧ Aside0 (spec_ProgOk.l0 kq l0 a0 = some r) ∧ Aside0 (kq ≤ k) ∧ Aside0 (Below w.heap.size w w'))
  case atStart => exact ⟨(0), zq64_, H', ⟨Nat.le_refl _⟩, ⟨zq6f_⟩⟩
  case round =>
   clear H'
   try clear c2
   try clear q0
   try clear q1
   try clear p2
   obtain ⟨a0, rfl, HA, aa0, HB⟩ := hrel
   cases gk with
   | zero => exact absurd HA.out (by simp [spec_ProgOk.l0])
   | succ k1 =>
    have H := HA.out; clear HA; simp only [spec_ProgOk.l0] at H; replace H := ifc_ H
    rcases H with ⟨c3b0, H⟩ | ⟨c3b0, H⟩
    ·replace H := ifd_ H; obtain ⟨q2, H⟩ := H; replace H := bs_ H; obtain ⟨d0, A5, H⟩ := H; (try dsimp only at H); replace H := ifB_ H
     rcases H with ⟨rfl, H⟩ | ⟨rfl, H⟩
     ·have H' := Aside0.mk H; clear H; have v0 : 0 ≤ (a0 : Int) := of_decide_eq_true zq5f_; have u0 : a0 < (l0.length : Int) := of_decide_eq_true zq5f_; obtain ⟨K0, N0, s0, s1, s2, s3⟩ := at_T34 X0.out a0 v0 u0; cases N0; replace s0 := pb_ HB.out s0; replace s1 := pb_ HB.out s1; replace s2 := pb_ HB.out s2; replace s3 := pb_ HB.out s3; replace v0 := eq_true v0; replace u0 := eq_true u0
      go_wp2_with (first | ((with_reducible refine gate_callee (f := 78) rfl ?_); refine gl_ 17 Try.func78 #[.agg #[.int .i64 ((rd_T34 l0 a0).f0), .int .i64 ((rd_T34 l0 a0).f1), .int .i64 ((rd_T34 l0 a0).f2), .int .i64 ((rd_T34 l0 a0).f3)]] ?_; (with_reducible refine (spec_l2Ins.calls k1 ((rd_T34 l0 a0).f0) ((rd_T34 l0 a0).f1) ((rd_T34 l0 a0).f2) ((rd_T34 l0 a0).f3) true _ A5.out).mono ?_); rintro e w7 ⟨rfl, hb⟩; refine ⟨_, rfl, ?_⟩; replace HB := Aside0.mk (below_step zq6f_ hb); (try clear hb)))
      go_roundg k1
      case measure => have := aa0.out; omega
      case rel => exact ⟨(wrap64 (a0 + 1)), zq64_, H', ⟨by have := aa0.out; omega⟩, ⟨zq6f_⟩⟩
     ·obtain rfl := Option.some.inj H; have v0 : 0 ≤ (a0 : Int) := of_decide_eq_true zq5f_; have u0 : a0 < (l0.length : Int) := of_decide_eq_true zq5f_; obtain ⟨K0, N0, s0, s1, s2, s3⟩ := at_T34 X0.out a0 v0 u0; cases N0; replace s0 := pb_ HB.out s0; replace s1 := pb_ HB.out s1; replace s2 := pb_ HB.out s2; replace s3 := pb_ HB.out s3; replace v0 := eq_true v0; replace u0 := eq_true u0
      go_wp2_with (first | ((with_reducible refine gate_callee (f := 78) rfl ?_); refine gl_ 17 Try.func78 #[.agg #[.int .i64 ((rd_T34 l0 a0).f0), .int .i64 ((rd_T34 l0 a0).f1), .int .i64 ((rd_T34 l0 a0).f2), .int .i64 ((rd_T34 l0 a0).f3)]] ?_; (with_reducible refine (spec_l2Ins.calls k1 ((rd_T34 l0 a0).f0) ((rd_T34 l0 a0).f1) ((rd_T34 l0 a0).f2) ((rd_T34 l0 a0).f3) false _ A5.out).mono ?_); rintro e w8 ⟨rfl, hb⟩; refine ⟨_, rfl, ?_⟩; replace HB := Aside0.mk (below_step zq6f_ hb); (try clear hb)))
      go_ret
      exact ⟨zq63_, zq6f_⟩
    ·obtain rfl := Option.some.inj H
     go_wp2
     go_ret
     exact ⟨zq63_, zq6f_⟩

/-! ### spec_l3Saw: function 76 -/
def spec_l3Saw.l0 : Nat → List (S48) → Int → Int → Option (Bool)
 | 0, _, _, _ => none
 | k + 1, x0, x1, x5 => if x5 < (x0.length : Int) then (if 0 ≤ x5 then (if ((rd_T48 x0 x5).f0) = x1 then (some true) else (spec_l3Saw.l0 k x0 x1 (wrap64 (x5 + 1)))) else (none)) else (some false)
def spec_l3Saw.f (k : Nat) (l0 : List (S48)) (a1 : Int) : Option (Bool) := spec_l3Saw.l0 k l0 a1 0
theorem spec_l3Saw.mono_l : ∀ k, (∀ y0 y1 y2, LeO (spec_l3Saw.l0 k y0 y1 y2) (spec_l3Saw.l0 (k + 1) y0 y1 y2))
 | 0 => fun _ _ _ r h => by simp [spec_l3Saw.l0] at h
 | k + 1 => by
  have L0 := spec_l3Saw.mono_l k
  ·intro y0 y1 y2
   unfold spec_l3Saw.l0
   repeat' first
   | (with_reducible exact L0 _ _ _)
   | (with_reducible exact LeO.refl _)
   | (with_reducible exact LeO.none _)
   | (with_reducible refine LeO.ite ?_ ?_)
   | (with_reducible refine LeO.bind ?_ (fun _ => ?_))
   | exact L0 _ _ _
   | exact LeO.none _
   | refine LeO.ite ?_ ?_
   | refine LeO.bind ?_ (fun _ => ?_)
theorem spec_l3Saw.mono : ∀ a0 a1 k, LeO (spec_l3Saw.f k a0 a1) (spec_l3Saw.f (k + 1) a0 a1) := by
 intro a0 a1 k
 have L0 := spec_l3Saw.mono_l k
 unfold spec_l3Saw.f
 repeat' first
   | (with_reducible exact L0 _ _ _)
   | (with_reducible exact LeO.refl _)
   | (with_reducible exact LeO.none _)
   | (with_reducible refine LeO.ite ?_ ?_)
   | (with_reducible refine LeO.bind ?_ (fun _ => ?_))
   | exact L0 _ _ _
   | exact LeO.none _
   | refine LeO.ite ?_ ?_
   | refine LeO.bind ?_ (fun _ => ?_)
set_option maxHeartbeats 8000000 in
set_option maxRecDepth 100000 in
theorem spec_l3Saw.calls (k : Nat) (A0 : Option Addr) (c0 : Nat) (l0 : List (S48)) (a1 : Int) (r : Bool) (w : World) (Y0 : Kd.C k48 w A0 l0.length l0) (ab0 : l0.length ≤ c0) (h : spec_l3Saw.f k l0 a1 = some r) :
  Calls Try.prog 76 #[.slice A0 l0.length c0, .int .i64 a1] w fun e w' => e = .returned (.bool r) ∧ Drawn0 w w' := by
 have X0 := Aside0.mk Y0; have ac0 := Aside0.mk ab0; clear Y0 ab0; have H : (spec_l3Saw.l0 k l0 a1 0) = some r := h; clear h; have H' := Aside0.mk H; clear H
 go_enter Try.func76, Try.ntmps76
 go_wp2
 go_loopg [5] k (fun kq v5 w' => ∃ (a0 : Int), v5 = .int .i64 a0 ∧ Aside0 (spec_l3Saw.l0 kq l0 a1 a0 = some r) ∧ Aside0 (kq ≤ k) ∧ Drawn0 w w')
 case atStart => exact ⟨(0), zq64_, H', ⟨Nat.le_refl _⟩, zq92_⟩
 case round =>
  clear H'
  try clear p2
  obtain ⟨a0, rfl, HA, aa0, ⟨m1, rfl⟩⟩ := hrel
  cases gk with
  | zero => exact absurd HA.out (by simp [spec_l3Saw.l0])
  | succ k1 =>
   have H := HA.out; clear HA; simp only [spec_l3Saw.l0] at H; replace H := ifc_ H
   rcases H with ⟨c3b0, H⟩ | ⟨c3b0, H⟩
   ·replace H := ifd_ H; obtain ⟨q0, H⟩ := H; by_cases c5 : ((rd_T48 l0 a0).f0) = a1
    ·rw [if_pos c5] at H; have q1 : (((rd_T48 l0 a0).f0) == a1) = true := beq_iff_eq.mpr c5; have q2 : (((rd_T48 l0 a0).f0) != a1) = false := bne_eq_false_iff_eq.mpr c5; clear c5; obtain rfl := Option.some.inj H; have v0 : 0 ≤ (a0 : Int) := of_decide_eq_true zq5f_; have u0 : a0 < (l0.length : Int) := of_decide_eq_true zq5f_; obtain ⟨K0, N0, s0, s1⟩ := at_T48 X0.out a0 v0 u0; cases N0; replace v0 := eq_true v0; replace u0 := eq_true u0
     go_wp2
     go_ret
     exact ⟨zq64_, zq92_⟩
    ·rw [if_neg c5] at H; have q1 : (((rd_T48 l0 a0).f0) == a1) = false := beq_eq_false_iff_ne.mpr c5; have q2 : (((rd_T48 l0 a0).f0) != a1) = true := bne_iff_ne.mpr c5; have H' := Aside0.mk H; clear H; have v0 : 0 ≤ (a0 : Int) := of_decide_eq_true zq5f_; have u0 : a0 < (l0.length : Int) := of_decide_eq_true zq5f_; obtain ⟨K0, N0, s0, s1⟩ := at_T48 X0.out a0 v0 u0; cases N0; replace v0 := eq_true v0; replace u0 := eq_true u0
     go_wp2
     go_roundg k1
     case measure => have := aa0.out; omega
     case rel => exact ⟨(wrap64 (a0 + 1)), zq64_, H', ⟨by have := aa0.out; omega⟩, zq92_⟩
   ·obtain rfl := Option.some.inj H
    go_wp2
    go_ret
    exact ⟨zq64_, zq92_⟩

end Go.Proofs.Ytgdafcakefnpdaa.PFnExecOwn
