-- Laid by this session's program out of the translation (gen.sh).
import Derived.Test.YtgdafcakefnpdaaPFnExecOwnx0
import Derived.Test.YtgdafcakefnpdaaPFnExecOwnx4
namespace Go.Proofs.Ytgdafcakefnpdaa.PFnExecOwn
open Go.RowKit Go.Proofs.YtgdafcakefnpdaaW.PrintWords Go.Proofs.YtgdafcakefnpdaaW.PrintLast Go.Proofs.YtgdafcakefnpdaaW.PrintMore
attribute [local go_sem] max2_int min2_int max_two min_two max_three min_three max_four min_four   -- for this text's walks alone
set_option linter.unusedVariables false
set_option linter.unusedSimpArgs false

/-! ### impl_insOk: function 99 -/
def impl_insOk.j0 : Nat → Int → Bool → Int → Int → Int → Int → Option (Bool)
 | 0, _, _, _, _, _, _ => none
 | k + 1, x6, x57, x241000, x241001, x241002, x241003 => if x57 = true then ((impl_insOk_1.f x241001).bind fun t247 => (if t247 = true then ((impl_insOk_1.f x241002).bind fun t248 => (if t248 = true then (some (x241003 == 0)) else (some false))) else (some false))) else (if x6 = 6 then ((impl_insOk_1.f x241001).bind fun t249 => (if t249 = true then ((impl_insOk_1.f x241002).bind fun t250 => (if t250 = true then ((impl_in.f x241003 1 10).bind fun t251 => (some t251)) else (some false))) else (some false))) else (if x6 = 7 then (if x241001 = 0 then (if x241002 = 0 then (some (x241003 == 0)) else (some false)) else (some false)) else (some false)))
def impl_insOk.f (k : Nat) (a0_0 : Int) (a0_1 : Int) (a0_2 : Int) (a0_3 : Int) : Option (Bool) := if a0_0 = 1 then ((impl_insOk_1.f a0_1).bind fun t241 => (if t241 = true then ((impl_insOk_2.f a0_2).bind fun t242 => (if t242 = true then (some (a0_3 == 0)) else (some false))) else (some false))) else (if a0_0 = 2 then ((impl_insOk_2.f a0_1).bind fun t243 => (if t243 = true then ((impl_insOk_1.f a0_2).bind fun t244 => (if t244 = true then (some (a0_3 == 0)) else (some false))) else (some false))) else (if a0_0 = 3 then ((impl_insOk_1.f a0_1).bind fun t245 => (if t245 = true then (if a0_2 = 0 then ((impl_in.f a0_3 (-1000000) 1000000).bind fun t246 => (some t246)) else (some false)) else (some false))) else (if a0_0 = 4 then (impl_insOk.j0 k a0_0 (a0_0 == 4) a0_0 a0_1 a0_2 a0_3) else (impl_insOk.j0 k a0_0 (a0_0 == 5) a0_0 a0_1 a0_2 a0_3))))
theorem impl_insOk.mono_l : ∀ k, (∀ y0 y1 y2 y3 y4 y5, LeO (impl_insOk.j0 k y0 y1 y2 y3 y4 y5) (impl_insOk.j0 (k + 1) y0 y1 y2 y3 y4 y5))
 | 0 => fun _ _ _ _ _ _ r h => by simp [impl_insOk.j0] at h
 | k + 1 => by
  have L0 := impl_insOk.mono_l k
  ·intro y0 y1 y2 y3 y4 y5
   unfold impl_insOk.j0
   repeat' first
   | (with_reducible exact L0 _ _ _ _ _ _)
   | (with_reducible exact LeO.refl _)
   | (with_reducible exact LeO.none _)
   | (with_reducible refine LeO.ite ?_ ?_)
   | (with_reducible refine LeO.bind ?_ (fun _ => ?_))
   | exact L0 _ _ _ _ _ _
   | exact LeO.none _
   | refine LeO.ite ?_ ?_
   | refine LeO.bind ?_ (fun _ => ?_)
theorem impl_insOk.mono : ∀ a0 a1 a2 a3 k, LeO (impl_insOk.f k a0 a1 a2 a3) (impl_insOk.f (k + 1) a0 a1 a2 a3) := by
 intro a0 a1 a2 a3 k
 have L0 := impl_insOk.mono_l k
 unfold impl_insOk.f
 repeat' first
   | (with_reducible exact L0 _ _ _ _ _ _)
   | (with_reducible exact LeO.refl _)
   | (with_reducible exact LeO.none _)
   | (with_reducible refine LeO.ite ?_ ?_)
   | (with_reducible refine LeO.bind ?_ (fun _ => ?_))
   | exact L0 _ _ _ _ _ _
   | exact LeO.none _
   | refine LeO.ite ?_ ?_
   | refine LeO.bind ?_ (fun _ => ?_)
set_option maxHeartbeats 8000000 in
set_option maxRecDepth 100000 in
theorem impl_insOk.calls (k : Nat) (k0 : Int) (k1 : Int) (k2 : Int) (k3 : Int) (r : Bool) (w : World) (h : impl_insOk.f k k0 k1 k2 k3 = some r) :
  Calls Try.prog 99 #[.agg #[.int .i64 k0, .int .i64 k1, .int .i64 k2, .int .i64 k3]] w fun e w' => e = .returned (.bool r) ∧ Below w.heap.size w w' := by
 have ay0 := Try.underlying34; have HB := Aside0.mk (Below.refl w.heap.size w); have H : (if k0 = 1 then ((impl_insOk_1.f k1).bind fun d0 => (if d0 = true then ((impl_insOk_2.f k2).bind fun d1 => (if d1 = true then (some (k3 == 0)) else (some false))) else (some false))) else (if k0 = 2 then ((impl_insOk_2.f k1).bind fun d2 => (if d2 = true then ((impl_insOk_1.f k2).bind fun d3 => (if d3 = true then (some (k3 == 0)) else (some false))) else (some false))) else (if k0 = 3 then ((impl_insOk_1.f k1).bind fun d4 => (if d4 = true then (if k2 = 0 then ((impl_in.f k3 (-1000000) 1000000).bind fun d5 => (some d5)) else (some false)) else (some false))) else (if k0 = 4 then (impl_insOk.j0 k k0 (k0 == 4) k0 k1 k2 k3) else (impl_insOk.j0 k k0 (k0 == 5) k0 k1 k2 k3))))) = some r := h; clear h; by_cases c2 : k0 = 1
 ·rw [if_pos c2] at H; have q0 : (k0 == 1) = true := beq_iff_eq.mpr c2; have q1 : (k0 != 1) = false := bne_eq_false_iff_eq.mpr c2; clear c2; replace H := bs_ H; obtain ⟨d0, A3, H⟩ := H; (try dsimp only at H); replace H := ifB_ H
  rcases H with ⟨rfl, H⟩ | ⟨rfl, H⟩
  ·replace H := bs_ H; obtain ⟨d1, A5, H⟩ := H; (try dsimp only at H); replace H := ifB_ H
   rcases H with ⟨rfl, H⟩ | ⟨rfl, H⟩
   ·obtain rfl := Option.some.inj H
    go_enter Try.func99, Try.ntmps99
    go_wp2_with (first | ((with_reducible refine gate_dst (N := 1) rfl ?_); refine bxe_ (N := 1) (cs := #[.int .i64 k0, .int .i64 k1, .int .i64 k2, .int .i64 k3]) (t := 34) ?_; intro c0 hg w7 G hb; have n_ := A4_ (below_step zq6f_ hb) (G) ((zqa9_ : w.heap.size ≤ c0)) ((zqa9_ : w.heap.size ≤ c0)); clear HB; obtain ⟨HB, b0, A0, n0⟩ := n_; clear hb G hg; obtain ⟨l0, l1, l2, l3, m0, m1, m2, m3⟩ := bz4_ b0.out) | (go_at_call 108; (with_reducible refine (impl_insOk_1.calls k1 true _ A3.out).mono ?_); rintro e w' ⟨rfl, ⟨nd, rfl⟩⟩; (try clear A3)) | (go_at_call 109; (with_reducible refine (impl_insOk_2.calls k2 true _ A5.out).mono ?_); rintro e w' ⟨rfl, ⟨nd, rfl⟩⟩; (try clear A5)))
    go_ret
    exact ⟨zq63_, zq6e_⟩
   ·obtain rfl := Option.some.inj H
    go_enter Try.func99, Try.ntmps99
    go_wp2_with (first | ((with_reducible refine gate_dst (N := 1) rfl ?_); refine bxe_ (N := 1) (cs := #[.int .i64 k0, .int .i64 k1, .int .i64 k2, .int .i64 k3]) (t := 34) ?_; intro c0 hg w9 G hb; have n_ := A4_ (below_step zq6f_ hb) (G) ((zqa9_ : w.heap.size ≤ c0)) ((zqa9_ : w.heap.size ≤ c0)); clear HB; obtain ⟨HB, b0, A0, n0⟩ := n_; clear hb G hg; obtain ⟨l0, l1, l2, l3, m0, m1, m2, m3⟩ := bz4_ b0.out) | (go_at_call 108; (with_reducible refine (impl_insOk_1.calls k1 true _ A3.out).mono ?_); rintro e w' ⟨rfl, ⟨nd, rfl⟩⟩; (try clear A3)) | (go_at_call 109; (with_reducible refine (impl_insOk_2.calls k2 false _ A5.out).mono ?_); rintro e w' ⟨rfl, ⟨nd, rfl⟩⟩; (try clear A5)))
    go_ret
    exact ⟨zq63_, zq6e_⟩
  ·obtain rfl := Option.some.inj H
   go_enter Try.func99, Try.ntmps99
   go_wp2_with (first | ((with_reducible refine gate_dst (N := 1) rfl ?_); refine bxe_ (N := 1) (cs := #[.int .i64 k0, .int .i64 k1, .int .i64 k2, .int .i64 k3]) (t := 34) ?_; intro c0 hg p0 G hb; have n_ := A4_ (below_step zq6f_ hb) (G) ((zqa9_ : w.heap.size ≤ c0)) ((zqa9_ : w.heap.size ≤ c0)); clear HB; obtain ⟨HB, b0, A0, n0⟩ := n_; clear hb G hg; obtain ⟨l0, l1, l2, l3, m0, m1, m2, m3⟩ := bz4_ b0.out) | (go_at_call 108; (with_reducible refine (impl_insOk_1.calls k1 false _ A3.out).mono ?_); rintro e w' ⟨rfl, ⟨nd, rfl⟩⟩; (try clear A3)))
   go_ret
   exact ⟨zq63_, zq6e_⟩
 ·rw [if_neg c2] at H; have q0 : (k0 == 1) = false := beq_eq_false_iff_ne.mpr c2; have q1 : (k0 != 1) = true := bne_iff_ne.mpr c2; by_cases r0 : k0 = 2
  ·rw [if_pos r0] at H; have q2 : (k0 == 2) = true := beq_iff_eq.mpr r0; have q3 : (k0 != 2) = false := bne_eq_false_iff_eq.mpr r0; clear r0; replace H := bs_ H; obtain ⟨d2, E0, H⟩ := H; (try dsimp only at H); replace H := ifB_ H
   rcases H with ⟨rfl, H⟩ | ⟨rfl, H⟩
   ·replace H := bs_ H; obtain ⟨d3, E1, H⟩ := H; (try dsimp only at H); replace H := ifB_ H
    rcases H with ⟨rfl, H⟩ | ⟨rfl, H⟩
    ·obtain rfl := Option.some.inj H
     go_enter Try.func99, Try.ntmps99
     go_wp2_with (first | ((with_reducible refine gate_dst (N := 1) rfl ?_); refine bxe_ (N := 1) (cs := #[.int .i64 k0, .int .i64 k1, .int .i64 k2, .int .i64 k3]) (t := 34) ?_; intro c0 hg p0 G hb; have n_ := A4_ (below_step zq6f_ hb) (G) ((zqa9_ : w.heap.size ≤ c0)) ((zqa9_ : w.heap.size ≤ c0)); clear HB; obtain ⟨HB, b0, A0, n0⟩ := n_; clear hb G hg; obtain ⟨l0, l1, l2, l3, m0, m1, m2, m3⟩ := bz4_ b0.out) | (go_at_call 109; (with_reducible refine (impl_insOk_2.calls k1 true _ E0.out).mono ?_); rintro e w' ⟨rfl, ⟨nd, rfl⟩⟩; (try clear E0)) | (go_at_call 108; (with_reducible refine (impl_insOk_1.calls k2 true _ E1.out).mono ?_); rintro e w' ⟨rfl, ⟨nd, rfl⟩⟩; (try clear E1)))
     go_ret
     exact ⟨zq63_, zq6e_⟩
    ·obtain rfl := Option.some.inj H
     go_enter Try.func99, Try.ntmps99
     go_wp2_with (first | ((with_reducible refine gate_dst (N := 1) rfl ?_); refine bxe_ (N := 1) (cs := #[.int .i64 k0, .int .i64 k1, .int .i64 k2, .int .i64 k3]) (t := 34) ?_; intro c0 hg p0 G hb; have n_ := A4_ (below_step zq6f_ hb) (G) ((zqa9_ : w.heap.size ≤ c0)) ((zqa9_ : w.heap.size ≤ c0)); clear HB; obtain ⟨HB, b0, A0, n0⟩ := n_; clear hb G hg; obtain ⟨l0, l1, l2, l3, m0, m1, m2, m3⟩ := bz4_ b0.out) | (go_at_call 109; (with_reducible refine (impl_insOk_2.calls k1 true _ E0.out).mono ?_); rintro e w' ⟨rfl, ⟨nd, rfl⟩⟩; (try clear E0)) | (go_at_call 108; (with_reducible refine (impl_insOk_1.calls k2 false _ E1.out).mono ?_); rintro e w' ⟨rfl, ⟨nd, rfl⟩⟩; (try clear E1)))
     go_ret
     exact ⟨zq63_, zq6e_⟩
   ·obtain rfl := Option.some.inj H
    go_enter Try.func99, Try.ntmps99
    go_wp2_with (first | ((with_reducible refine gate_dst (N := 1) rfl ?_); refine bxe_ (N := 1) (cs := #[.int .i64 k0, .int .i64 k1, .int .i64 k2, .int .i64 k3]) (t := 34) ?_; intro c0 hg p0 G hb; have n_ := A4_ (below_step zq6f_ hb) (G) ((zqa9_ : w.heap.size ≤ c0)) ((zqa9_ : w.heap.size ≤ c0)); clear HB; obtain ⟨HB, b0, A0, n0⟩ := n_; clear hb G hg; obtain ⟨l0, l1, l2, l3, m0, m1, m2, m3⟩ := bz4_ b0.out) | (go_at_call 109; (with_reducible refine (impl_insOk_2.calls k1 false _ E0.out).mono ?_); rintro e w' ⟨rfl, ⟨nd, rfl⟩⟩; (try clear E0)))
    go_ret
    exact ⟨zq63_, zq6e_⟩
  ·rw [if_neg r0] at H; have q2 : (k0 == 2) = false := beq_eq_false_iff_ne.mpr r0; have q3 : (k0 != 2) = true := bne_iff_ne.mpr r0; by_cases r1 : k0 = 3
   ·rw [if_pos r1] at H; have q4 : (k0 == 3) = true := beq_iff_eq.mpr r1; have q5 : (k0 != 3) = false := bne_eq_false_iff_eq.mpr r1; clear r1; replace H := bs_ H; obtain ⟨d4, E0, H⟩ := H; (try dsimp only at H); replace H := ifB_ H
    rcases H with ⟨rfl, H⟩ | ⟨rfl, H⟩
    ·by_cases r2 : k2 = 0
     ·rw [if_pos r2] at H; have q6 : (k2 == 0) = true := beq_iff_eq.mpr r2; have q7 : (k2 != 0) = false := bne_eq_false_iff_eq.mpr r2; clear r2; replace H := bs_ H; obtain ⟨d5, E1, H⟩ := H; (try dsimp only at H); obtain rfl := Option.some.inj H
      go_enter Try.func99, Try.ntmps99
      go_wp2_with (first | ((with_reducible refine gate_dst (N := 1) rfl ?_); refine bxe_ (N := 1) (cs := #[.int .i64 k0, .int .i64 k1, .int .i64 k2, .int .i64 k3]) (t := 34) ?_; intro c0 hg p0 G hb; have n_ := A4_ (below_step zq6f_ hb) (G) ((zqa9_ : w.heap.size ≤ c0)) ((zqa9_ : w.heap.size ≤ c0)); clear HB; obtain ⟨HB, b0, A0, n0⟩ := n_; clear hb G hg; obtain ⟨l0, l1, l2, l3, m0, m1, m2, m3⟩ := bz4_ b0.out) | (go_at_call 108; (with_reducible refine (impl_insOk_1.calls k1 true _ E0.out).mono ?_); rintro e w' ⟨rfl, ⟨nd, rfl⟩⟩; (try clear E0)) | (go_at_call 64; (with_reducible refine (impl_in.calls k3 (-1000000) 1000000 d5 _ E1.out).mono ?_); rintro e w' ⟨rfl, ⟨nd, rfl⟩⟩; (try clear E1)))
      go_ret
      exact ⟨zq63_, zq6e_⟩
     ·rw [if_neg r2] at H; have q6 : (k2 == 0) = false := beq_eq_false_iff_ne.mpr r2; have q7 : (k2 != 0) = true := bne_iff_ne.mpr r2; obtain rfl := Option.some.inj H
      go_enter Try.func99, Try.ntmps99
      go_wp2_with (first | ((with_reducible refine gate_dst (N := 1) rfl ?_); refine bxe_ (N := 1) (cs := #[.int .i64 k0, .int .i64 k1, .int .i64 k2, .int .i64 k3]) (t := 34) ?_; intro c0 hg p0 G hb; have n_ := A4_ (below_step zq6f_ hb) (G) ((zqa9_ : w.heap.size ≤ c0)) ((zqa9_ : w.heap.size ≤ c0)); clear HB; obtain ⟨HB, b0, A0, n0⟩ := n_; clear hb G hg; obtain ⟨l0, l1, l2, l3, m0, m1, m2, m3⟩ := bz4_ b0.out) | (go_at_call 108; (with_reducible refine (impl_insOk_1.calls k1 true _ E0.out).mono ?_); rintro e w' ⟨rfl, ⟨nd, rfl⟩⟩; (try clear E0)))
      go_ret
      exact ⟨zq63_, zq6e_⟩
    ·obtain rfl := Option.some.inj H
     go_enter Try.func99, Try.ntmps99
     go_wp2_with (first | ((with_reducible refine gate_dst (N := 1) rfl ?_); refine bxe_ (N := 1) (cs := #[.int .i64 k0, .int .i64 k1, .int .i64 k2, .int .i64 k3]) (t := 34) ?_; intro c0 hg p0 G hb; have n_ := A4_ (below_step zq6f_ hb) (G) ((zqa9_ : w.heap.size ≤ c0)) ((zqa9_ : w.heap.size ≤ c0)); clear HB; obtain ⟨HB, b0, A0, n0⟩ := n_; clear hb G hg; obtain ⟨l0, l1, l2, l3, m0, m1, m2, m3⟩ := bz4_ b0.out) | (go_at_call 108; (with_reducible refine (impl_insOk_1.calls k1 false _ E0.out).mono ?_); rintro e w' ⟨rfl, ⟨nd, rfl⟩⟩; (try clear E0)))
     go_ret
     exact ⟨zq63_, zq6e_⟩
   ·rw [if_neg r1] at H; have q4 : (k0 == 3) = false := beq_eq_false_iff_ne.mpr r1; have q5 : (k0 != 3) = true := bne_iff_ne.mpr r1; have ac0 := Aside0.mk H; clear H
    go_enter Try.func99, Try.ntmps99
    go_upto_if 57 with (first | ((with_reducible refine gate_dst (N := 1) rfl ?_); refine bxe_ (N := 1) (cs := #[.int .i64 k0, .int .i64 k1, .int .i64 k2, .int .i64 k3]) (t := 34) ?_; intro c0 hg p0 G hb; have n_ := A4_ (below_step zq6f_ hb) (G) ((zqa9_ : w.heap.size ≤ c0)) ((zqa9_ : w.heap.size ≤ c0)); clear HB; obtain ⟨HB, b0, A0, n0⟩ := n_; clear hb G hg; obtain ⟨l0, l1, l2, l3, m0, m1, m2, m3⟩ := bz4_ b0.out))
    (try simp only [Act.put, List.setIfInBounds_toArray, List.set_cons_zero, List.set_cons_succ])
    go_cut [57] (fun S0 wc => ∃ (kq : Nat) (a0 : Bool), S0 = .bool a0 ∧ Aside0 (impl_insOk.j0 kq k0 a0 k0 k1 k2 k3 = some r) ∧ Aside0 (kq ≤ k) ∧ Aside0 (wc.heap[c0]? = some (.cells #[.int .i64 k0, .int .i64 k1, .int .i64 k2, .int .i64 k3] 34 (0, 0))) ∧ Aside0 (Below w.heap.size w wc))
    case first =>
     have H := ac0.out; clear ac0; by_cases r2 : k0 = 4
     ·rw [if_pos r2] at H; have q6 : (k0 == 4) = true := beq_iff_eq.mpr r2; have q7 : (k0 != 4) = false := bne_eq_false_iff_eq.mpr r2; clear r2; (first | rw [q6] | (simp only [i64_w, i32_w]; rw [q6]) | skip); have H' := Aside0.mk H; clear H
      go_wp2
      go_meet
      case rel => exact ⟨_, ((k0 == 4)), zq64_, H', ⟨zq62_⟩, ⟨zq2f_⟩, ⟨zq6e_⟩⟩
     ·rw [if_neg r2] at H; have q6 : (k0 == 4) = false := beq_eq_false_iff_ne.mpr r2; have q7 : (k0 != 4) = true := bne_iff_ne.mpr r2; (first | rw [q6] | (simp only [i64_w, i32_w]; rw [q6]) | skip); have H' := Aside0.mk H; clear H
      go_wp2
      go_meet
      case rel => exact ⟨_, ((k0 == 5)), zq64_, H', ⟨zq62_⟩, ⟨zq2f_⟩, ⟨zq6e_⟩⟩
    case rest =>
     clear ac0
     try clear c1
     try clear c2
     try clear q0
     try clear q1
     try clear p2
     try clear c3
     try clear c4
     try clear c6
     try clear c9
     try clear r0
     try clear q2
     try clear q3
     try clear c15
     try clear c17
     try clear r1
     try clear q4
     try clear q5
     try clear c26
     try clear r3
     try clear q6
     try clear q7
     try clear r2
     try clear q8
     try clear q9
     try clear l4 l5 l6 l7 m4 m5 m6 m7
     try clear l8 l9 l10 l11 m8 m9 m10 m11
     try clear l12 l13 l14 l15 m12 m13 m14 m15
     try clear l16 l17 l18 l19 m16 m17 m18 m19
     try clear l20 l21 l22 l23 m20 m21 m22 m23
     try clear l24 l25 l26 l27 m24 m25 m26 m27
     try clear l28 l29 l30 l31 m28 m29 m30 m31
     try clear l32 l33 l34 l35 m32 m33 m34 m35
     try clear l0 l1 l2 l3 m0 m1 m2 m3
     try clear l36 l37 l38 l39 m36 m37 m38 m39
     obtain ⟨kq, a0, rfl, HA, ao0, b0, HB⟩ := hcut
     cases kq with
     | zero => exact absurd HA.out (by simp [impl_insOk.j0])
     | succ kj34 =>
      have H := HA.out; clear HA; simp only [impl_insOk.j0] at H; replace H := ifB_ H
      rcases H with ⟨rfl, H⟩ | ⟨rfl, H⟩
      ·replace H := bs_ H; obtain ⟨d6, E0, H⟩ := H; (try dsimp only at H); replace H := ifB_ H
       rcases H with ⟨rfl, H⟩ | ⟨rfl, H⟩
       ·replace H := bs_ H; obtain ⟨d7, E1, H⟩ := H; (try dsimp only at H); replace H := ifB_ H
        rcases H with ⟨rfl, H⟩ | ⟨rfl, H⟩
        ·obtain rfl := Option.some.inj H; obtain ⟨l40, l41, l42, l43, m40, m41, m42, m43⟩ := bz4_ b0.out
         go_wp2_with (first | (go_at_call 108; (with_reducible refine (impl_insOk_1.calls k1 true _ E0.out).mono ?_); rintro e w' ⟨rfl, ⟨nd, rfl⟩⟩; (try clear E0)) | (go_at_call 108; (with_reducible refine (impl_insOk_1.calls k2 true _ E1.out).mono ?_); rintro e w' ⟨rfl, ⟨nd, rfl⟩⟩; (try clear E1)))
         go_ret
         exact ⟨zq63_, zq6e_⟩
        ·obtain rfl := Option.some.inj H; obtain ⟨l40, l41, l42, l43, m40, m41, m42, m43⟩ := bz4_ b0.out
         go_wp2_with (first | (go_at_call 108; (with_reducible refine (impl_insOk_1.calls k1 true _ E0.out).mono ?_); rintro e w' ⟨rfl, ⟨nd, rfl⟩⟩; (try clear E0)) | (go_at_call 108; (with_reducible refine (impl_insOk_1.calls k2 false _ E1.out).mono ?_); rintro e w' ⟨rfl, ⟨nd, rfl⟩⟩; (try clear E1)))
         go_ret
         exact ⟨zq63_, zq6e_⟩
       ·obtain rfl := Option.some.inj H; obtain ⟨l40, l41, l42, l43, m40, m41, m42, m43⟩ := bz4_ b0.out
        go_wp2_with (first | (go_at_call 108; (with_reducible refine (impl_insOk_1.calls k1 false _ E0.out).mono ?_); rintro e w' ⟨rfl, ⟨nd, rfl⟩⟩; (try clear E0)))
        go_ret
        exact ⟨zq63_, zq6e_⟩
      ·by_cases r4 : k0 = 6
       ·rw [if_pos r4] at H; have q10 : (k0 == 6) = true := beq_iff_eq.mpr r4; have q11 : (k0 != 6) = false := bne_eq_false_iff_eq.mpr r4; clear r4; replace H := bs_ H; obtain ⟨d6, E0, H⟩ := H; (try dsimp only at H); replace H := ifB_ H
        rcases H with ⟨rfl, H⟩ | ⟨rfl, H⟩
        ·replace H := bs_ H; obtain ⟨d7, E1, H⟩ := H; (try dsimp only at H); replace H := ifB_ H
         rcases H with ⟨rfl, H⟩ | ⟨rfl, H⟩
         ·replace H := bs_ H; obtain ⟨d8, E2, H⟩ := H; (try dsimp only at H); obtain rfl := Option.some.inj H; obtain ⟨l40, l41, l42, l43, m40, m41, m42, m43⟩ := bz4_ b0.out
          go_wp2_with (first | (go_at_call 108; (with_reducible refine (impl_insOk_1.calls k1 true _ E0.out).mono ?_); rintro e w' ⟨rfl, ⟨nd, rfl⟩⟩; (try clear E0)) | (go_at_call 108; (with_reducible refine (impl_insOk_1.calls k2 true _ E1.out).mono ?_); rintro e w' ⟨rfl, ⟨nd, rfl⟩⟩; (try clear E1)) | (go_at_call 64; (with_reducible refine (impl_in.calls k3 1 10 d8 _ E2.out).mono ?_); rintro e w' ⟨rfl, ⟨nd, rfl⟩⟩; (try clear E2)))
          go_ret
          exact ⟨zq63_, zq6e_⟩
         ·obtain rfl := Option.some.inj H; obtain ⟨l40, l41, l42, l43, m40, m41, m42, m43⟩ := bz4_ b0.out
          go_wp2_with (first | (go_at_call 108; (with_reducible refine (impl_insOk_1.calls k1 true _ E0.out).mono ?_); rintro e w' ⟨rfl, ⟨nd, rfl⟩⟩; (try clear E0)) | (go_at_call 108; (with_reducible refine (impl_insOk_1.calls k2 false _ E1.out).mono ?_); rintro e w' ⟨rfl, ⟨nd, rfl⟩⟩; (try clear E1)))
          go_ret
          exact ⟨zq63_, zq6e_⟩
        ·obtain rfl := Option.some.inj H; obtain ⟨l40, l41, l42, l43, m40, m41, m42, m43⟩ := bz4_ b0.out
         go_wp2_with (first | (go_at_call 108; (with_reducible refine (impl_insOk_1.calls k1 false _ E0.out).mono ?_); rintro e w' ⟨rfl, ⟨nd, rfl⟩⟩; (try clear E0)))
         go_ret
         exact ⟨zq63_, zq6e_⟩
       ·rw [if_neg r4] at H; have q10 : (k0 == 6) = false := beq_eq_false_iff_ne.mpr r4; have q11 : (k0 != 6) = true := bne_iff_ne.mpr r4; by_cases r5 : k0 = 7
        ·rw [if_pos r5] at H; have q12 : (k0 == 7) = true := beq_iff_eq.mpr r5; have q13 : (k0 != 7) = false := bne_eq_false_iff_eq.mpr r5; clear r5; by_cases r6 : k1 = 0
         ·rw [if_pos r6] at H; have q14 : (k1 == 0) = true := beq_iff_eq.mpr r6; have q15 : (k1 != 0) = false := bne_eq_false_iff_eq.mpr r6; clear r6; by_cases r7 : k2 = 0
          ·rw [if_pos r7] at H; have q16 : (k2 == 0) = true := beq_iff_eq.mpr r7; have q17 : (k2 != 0) = false := bne_eq_false_iff_eq.mpr r7; clear r7; obtain rfl := Option.some.inj H; obtain ⟨l40, l41, l42, l43, m40, m41, m42, m43⟩ := bz4_ b0.out
           go_wp2
           go_ret
           exact ⟨zq63_, zq6e_⟩
          ·rw [if_neg r7] at H; have q16 : (k2 == 0) = false := beq_eq_false_iff_ne.mpr r7; have q17 : (k2 != 0) = true := bne_iff_ne.mpr r7; obtain rfl := Option.some.inj H; obtain ⟨l40, l41, l42, l43, m40, m41, m42, m43⟩ := bz4_ b0.out
           go_wp2
           go_ret
           exact ⟨zq63_, zq6e_⟩
         ·rw [if_neg r6] at H; have q14 : (k1 == 0) = false := beq_eq_false_iff_ne.mpr r6; have q15 : (k1 != 0) = true := bne_iff_ne.mpr r6; obtain rfl := Option.some.inj H; obtain ⟨l40, l41, l42, l43, m40, m41, m42, m43⟩ := bz4_ b0.out
          go_wp2
          go_ret
          exact ⟨zq63_, zq6e_⟩
        ·rw [if_neg r5] at H; have q12 : (k0 == 7) = false := beq_eq_false_iff_ne.mpr r5; have q13 : (k0 != 7) = true := bne_iff_ne.mpr r5; obtain rfl := Option.some.inj H
         go_wp2
         go_ret
         exact ⟨zq63_, zq6e_⟩

/-! ### impl_ProgOk: function 60 -/
def impl_ProgOk.l0 : Nat → List (S34) → List (S34) → Int → Int → Option (Bool)
 | 0, _, _, _, _ => none
 | k + 1, x0, x5, x6, x7 => if x7 < x6 then (if 0 ≤ x7 then (if x7 < (x5.length : Int) then ((impl_insOk.f k ((rd_T34 x5 x7).f0) ((rd_T34 x5 x7).f1) ((rd_T34 x5 x7).f2) ((rd_T34 x5 x7).f3)).bind fun t254 => (if t254 = true then (impl_ProgOk.l0 k x0 x5 x6 (wrap64 (x7 + 1))) else (some false))) else (none)) else (none)) else (some (decide ((x0.length : Int) ≤ 10)))
def impl_ProgOk.f (k : Nat) (l0 : List (S34)) : Option (Bool) := impl_ProgOk.l0 k l0 l0 (l0.length : Int) 0
theorem impl_ProgOk.mono_l : ∀ k, (∀ y0 y1 y2 y3, LeO (impl_ProgOk.l0 k y0 y1 y2 y3) (impl_ProgOk.l0 (k + 1) y0 y1 y2 y3))
 | 0 => fun _ _ _ _ r h => by simp [impl_ProgOk.l0] at h
 | k + 1 => by
  have L0 := impl_ProgOk.mono_l k
  ·intro y0 y1 y2 y3
   unfold impl_ProgOk.l0
   repeat' first
   | (with_reducible exact L0 _ _ _ _)
   | (with_reducible exact impl_insOk.mono _ _ _ _ _)
   | (with_reducible exact LeO.refl _)
   | (with_reducible exact LeO.none _)
   | (with_reducible refine LeO.ite ?_ ?_)
   | (with_reducible refine LeO.bind ?_ (fun _ => ?_))
   | exact L0 _ _ _ _
   | exact impl_insOk.mono _ _ _ _ _
   | exact LeO.none _
   | refine LeO.ite ?_ ?_
   | refine LeO.bind ?_ (fun _ => ?_)
theorem impl_ProgOk.mono : ∀ a0 k, LeO (impl_ProgOk.f k a0) (impl_ProgOk.f (k + 1) a0) := by
 intro a0 k
 have L0 := impl_ProgOk.mono_l k
 unfold impl_ProgOk.f
 repeat' first
   | (with_reducible exact L0 _ _ _ _)
   | (with_reducible exact impl_insOk.mono _ _ _ _ _)
   | (with_reducible exact LeO.refl _)
   | (with_reducible exact LeO.none _)
   | (with_reducible refine LeO.ite ?_ ?_)
   | (with_reducible refine LeO.bind ?_ (fun _ => ?_))
   | exact L0 _ _ _ _
   | exact impl_insOk.mono _ _ _ _ _
   | exact LeO.none _
   | refine LeO.ite ?_ ?_
   | refine LeO.bind ?_ (fun _ => ?_)
set_option maxHeartbeats 8000000 in
set_option maxRecDepth 100000 in
theorem impl_ProgOk.calls (k : Nat) (A0 : Option Addr) (c0 : Nat) (l0 : List (S34)) (r : Bool) (w : World) (Y0 : Kd.C k34 w A0 l0.length l0) (ab0 : l0.length ≤ c0) (h : impl_ProgOk.f k l0 = some r) :
  Calls Try.prog 60 #[.slice A0 l0.length c0] w fun e w' => e = .returned (.bool r) ∧ Below w.heap.size w w' := by
 have ay0 := Try.underlying34; have X0 := Aside0.mk Y0; have ac0 := Aside0.mk ab0; clear Y0 ab0; have HB := Aside0.mk (Below.refl w.heap.size w); have H : (impl_ProgOk.l0 k l0 l0 (l0.length : Int) 0) = some r := h; clear h; have H' := Aside0.mk H; clear H
 go_enter Try.func60, Try.ntmps60
 go_wp2
 go_loopg [7] k (fun kq v7 w' => ∃ (a0 : Int), v7 = .int .i64 a0 ∧ Aside0 (impl_ProgOk.l0 kq l0 l0 (l0.length : Int) a0 = some r) ∧ Aside0 (kq ≤ k) ∧ Aside0 (Below w.heap.size w w'))
 case atStart => exact ⟨(0), zq64_, H', ⟨Nat.le_refl _⟩, ⟨zq6f_⟩⟩
 case round =>
  clear H'; obtain ⟨a0, rfl, HA, aa0, HB⟩ := hrel
  cases gk with
  | zero => exact absurd HA.out (by simp [impl_ProgOk.l0])
  | succ k1 =>
   have H := HA.out; clear HA; simp only [impl_ProgOk.l0] at H; replace H := ifc_ H
   rcases H with ⟨c2b0, H⟩ | ⟨c2b0, H⟩
   ·replace H := ifd2_ H; obtain ⟨q0, q1, H⟩ := H; replace H := bs_ H; obtain ⟨d0, A5, H⟩ := H; (try dsimp only at H); replace H := ifB_ H
    rcases H with ⟨rfl, H⟩ | ⟨rfl, H⟩
    ·have H' := Aside0.mk H; clear H; have v0 : 0 ≤ (a0 : Int) := of_decide_eq_true zq5f_; have u0 : a0 < (l0.length : Int) := of_decide_eq_true zq5f_; obtain ⟨K0, N0, s0, s1, s2, s3⟩ := at_T34 X0.out a0 v0 u0; cases N0; replace s0 := pb_ HB.out s0; replace s1 := pb_ HB.out s1; replace s2 := pb_ HB.out s2; replace s3 := pb_ HB.out s3; replace v0 := eq_true v0; replace u0 := eq_true u0
     go_wp2_with (first | ((with_reducible refine gate_dst (N := 4) rfl ?_); refine bxe_ (N := 4) (cs := #[.int .i64 0, .int .i64 0, .int .i64 0, .int .i64 0]) (t := 34) ?_; intro c1 hg w7 G hb; have n_ := A4_ (below_step zq6f_ hb) (G) ((zqa9_ : w.heap.size ≤ c1)) ((zqa9_ : w.heap.size ≤ c1)); clear HB; obtain ⟨HB, b0, A1, n0⟩ := n_; clear hb G hg; obtain ⟨l1, l2, l3, l4, m0, m1, m2, m3⟩ := bz4_ b0.out) | ((with_reducible refine gate_callee (f := 99) rfl ?_); refine gl_ 12 Try.func99 #[.agg #[.int .i64 ((rd_T34 l0 a0).f0), .int .i64 ((rd_T34 l0 a0).f1), .int .i64 ((rd_T34 l0 a0).f2), .int .i64 ((rd_T34 l0 a0).f3)]] ?_; (with_reducible refine (impl_insOk.calls k1 ((rd_T34 l0 a0).f0) ((rd_T34 l0 a0).f1) ((rd_T34 l0 a0).f2) ((rd_T34 l0 a0).f3) true _ A5.out).mono ?_); rintro e w9 ⟨rfl, hb⟩; refine ⟨_, rfl, ?_⟩; have n_ := A2_ (blk_below (g := c1) (o := .cells #[.int .i64 ((rd_T34 l0 a0).f0), .int .i64 ((rd_T34 l0 a0).f1), .int .i64 ((rd_T34 l0 a0).f2), .int .i64 ((rd_T34 l0 a0).f3)] 34 (0, 0)) zq46_ hb) (below_step zq6e_ hb); clear b0 HB; obtain ⟨b0, HB⟩ := n_; (try clear hb)))
     go_roundg k1
     case measure => have := aa0.out; omega
     case rel => exact ⟨(wrap64 (a0 + 1)), zq64_, H', ⟨by have := aa0.out; omega⟩, ⟨zq6e_⟩⟩
    ·obtain rfl := Option.some.inj H; have v0 : 0 ≤ (a0 : Int) := of_decide_eq_true zq5f_; have u0 : a0 < (l0.length : Int) := of_decide_eq_true zq5f_; obtain ⟨K0, N0, s0, s1, s2, s3⟩ := at_T34 X0.out a0 v0 u0; cases N0; replace s0 := pb_ HB.out s0; replace s1 := pb_ HB.out s1; replace s2 := pb_ HB.out s2; replace s3 := pb_ HB.out s3; replace v0 := eq_true v0; replace u0 := eq_true u0
     go_wp2_with (first | ((with_reducible refine gate_dst (N := 4) rfl ?_); refine bxe_ (N := 4) (cs := #[.int .i64 0, .int .i64 0, .int .i64 0, .int .i64 0]) (t := 34) ?_; intro c1 hg p0 G hb; have n_ := A4_ (below_step zq6f_ hb) (G) ((zqa9_ : w.heap.size ≤ c1)) ((zqa9_ : w.heap.size ≤ c1)); clear HB; obtain ⟨HB, b0, A1, n0⟩ := n_; clear hb G hg; obtain ⟨l1, l2, l3, l4, m0, m1, m2, m3⟩ := bz4_ b0.out) | ((with_reducible refine gate_callee (f := 99) rfl ?_); refine gl_ 12 Try.func99 #[.agg #[.int .i64 ((rd_T34 l0 a0).f0), .int .i64 ((rd_T34 l0 a0).f1), .int .i64 ((rd_T34 l0 a0).f2), .int .i64 ((rd_T34 l0 a0).f3)]] ?_; (with_reducible refine (impl_insOk.calls k1 ((rd_T34 l0 a0).f0) ((rd_T34 l0 a0).f1) ((rd_T34 l0 a0).f2) ((rd_T34 l0 a0).f3) false _ A5.out).mono ?_); rintro e p1 ⟨rfl, hb⟩; refine ⟨_, rfl, ?_⟩; have n_ := A2_ (blk_below (g := c1) (o := .cells #[.int .i64 ((rd_T34 l0 a0).f0), .int .i64 ((rd_T34 l0 a0).f1), .int .i64 ((rd_T34 l0 a0).f2), .int .i64 ((rd_T34 l0 a0).f3)] 34 (0, 0)) zq46_ hb) (below_step zq6e_ hb); clear b0 HB; obtain ⟨b0, HB⟩ := n_; (try clear hb)))
     go_ret
     exact ⟨zq63_, zq6e_⟩
   ·obtain rfl := Option.some.inj H
    go_wp2
    go_ret
    exact ⟨zq63_, zq6f_⟩

/-! ### impl_putAt: function 61 -/
def impl_putAt.l0 : Nat → Int → List (S36) → Int → Int → Option (Int)
 | 0, _, _, _, _ => none
 | k + 1, x1, x8, x9, x10 => if x10 < x9 then (if 0 ≤ x10 then (if x10 < (x8.length : Int) then (if ((rd_T36 x8 x10).f0) = x1 then (some x10) else (impl_putAt.l0 k x1 x8 x9 (wrap64 (x10 + 1)))) else (none)) else (none)) else (some (-1))
def impl_putAt.f (k : Nat) (l0_0 : List (S48)) (l0_1 : List (S36)) (a0_2 : Int) (a0_3 : Int) (a1 : Int) : Option (Int) := impl_putAt.l0 k a1 l0_1 (l0_1.length : Int) 0
theorem impl_putAt.mono_l : ∀ k, (∀ y0 y1 y2 y3, LeO (impl_putAt.l0 k y0 y1 y2 y3) (impl_putAt.l0 (k + 1) y0 y1 y2 y3))
 | 0 => fun _ _ _ _ r h => by simp [impl_putAt.l0] at h
 | k + 1 => by
  have L0 := impl_putAt.mono_l k
  ·intro y0 y1 y2 y3
   unfold impl_putAt.l0
   repeat' first
   | (with_reducible exact L0 _ _ _ _)
   | (with_reducible exact LeO.refl _)
   | (with_reducible exact LeO.none _)
   | (with_reducible refine LeO.ite ?_ ?_)
   | (with_reducible refine LeO.bind ?_ (fun _ => ?_))
   | exact L0 _ _ _ _
   | exact LeO.none _
   | refine LeO.ite ?_ ?_
   | refine LeO.bind ?_ (fun _ => ?_)
theorem impl_putAt.mono : ∀ a0 a1 a2 a3 a4 k, LeO (impl_putAt.f k a0 a1 a2 a3 a4) (impl_putAt.f (k + 1) a0 a1 a2 a3 a4) := by
 intro a0 a1 a2 a3 a4 k
 have L0 := impl_putAt.mono_l k
 unfold impl_putAt.f
 repeat' first
   | (with_reducible exact L0 _ _ _ _)
   | (with_reducible exact LeO.refl _)
   | (with_reducible exact LeO.none _)
   | (with_reducible refine LeO.ite ?_ ?_)
   | (with_reducible refine LeO.bind ?_ (fun _ => ?_))
   | exact L0 _ _ _ _
   | exact LeO.none _
   | refine LeO.ite ?_ ?_
   | refine LeO.bind ?_ (fun _ => ?_)
set_option maxHeartbeats 8000000 in
set_option maxRecDepth 100000 in
theorem impl_putAt.calls (k : Nat) (Z0 : Option Addr) (V0 : Nat) (t0 : List (S48)) (Z1 : Option Addr) (V1 : Nat) (t1 : List (S36)) (k0 : Int) (k2 : Int) (a1 : Int) (r : Int) (w : World) (aL0 : Kd.C k48 w Z0 t0.length t0) (aM0 : t0.length ≤ V0) (aL1 : Kd.C k36 w Z1 t1.length t1) (aM1 : t1.length ≤ V1) (h : impl_putAt.f k t0 t1 k0 k2 a1 = some r) :
  Calls Try.prog 61 #[.agg #[.slice Z0 t0.length V0, .slice Z1 t1.length V1, .int .i64 k0, .int .i64 k2], .int .i64 a1] w fun e w' => e = .returned (.int .i64 r) ∧ Below w.heap.size w w' := by
 have ay0 := Try.underlying30; have ay1 := Try.underlying36; have aE0 := Aside0.mk aL0; have aQ0 := Aside0.mk aM0; clear aL0 aM0; have aE1 := Aside0.mk aL1; have aQ1 := Aside0.mk aM1; clear aL1 aM1; have HB := Aside0.mk (Below.refl w.heap.size w); have H : (impl_putAt.l0 k a1 t1 (t1.length : Int) 0) = some r := h; clear h; have H' := Aside0.mk H; clear H
 go_enter Try.func61, Try.ntmps61
 go_wp2_with (first | ((with_reducible refine gate_dst (N := 2) rfl ?_); refine bxe_ (N := 2) (cs := #[.slice Z0 t0.length V0, .slice Z1 t1.length V1, .int .i64 k0, .int .i64 k2]) (t := 30) ?_; intro c0 hg w3 G hb; have n_ := A4_ (below_step zq6f_ hb) (G) ((zqa9_ : w.heap.size ≤ c0)) ((zqa9_ : w.heap.size ≤ c0)); clear HB; obtain ⟨HB, b0, A0, n0⟩ := n_; clear hb G hg; obtain ⟨l1, l2, l3, l4, m0, m1, m2, m3⟩ := bz4_ b0.out))
 go_loopg [10] k (fun kq S0 w' => ∃ (a0 : Int), S0 = .int .i64 a0 ∧ Aside0 (impl_putAt.l0 kq a1 t1 (t1.length : Int) a0 = some r) ∧ Aside0 (kq ≤ k) ∧ Aside0 (w'.heap[c0]? = some (.cells #[(.slice Z0 t0.length V0), (.slice Z1 t1.length V1), .int .i64 k0, .int .i64 k2] 30 (0, 0))) ∧ Aside0 (Below w.heap.size w w'))
 case atStart => exact ⟨(0), zq64_, H', ⟨Nat.le_refl _⟩, ⟨zq2f_⟩, ⟨zq6e_⟩⟩
 case round =>
  clear H'
  try clear p2
  try clear l1 l2 l3 l4 m0 m1 m2 m3
  obtain ⟨a0, rfl, HA, aa0, b0, HB⟩ := hrel
  cases gk with
  | zero => exact absurd HA.out (by simp [impl_putAt.l0])
  | succ k1 =>
   have H := HA.out; clear HA; simp only [impl_putAt.l0] at H; replace H := ifc_ H
   rcases H with ⟨c5b0, H⟩ | ⟨c5b0, H⟩
   ·replace H := ifd2_ H; obtain ⟨q0, q1, H⟩ := H; by_cases c8 : ((rd_T36 t1 a0).f0) = a1
    ·rw [if_pos c8] at H; have q2 : (((rd_T36 t1 a0).f0) == a1) = true := beq_iff_eq.mpr c8; have q3 : (((rd_T36 t1 a0).f0) != a1) = false := bne_eq_false_iff_eq.mpr c8; clear c8; obtain rfl := Option.some.inj H; have v0 : 0 ≤ (a0 : Int) := of_decide_eq_true zq5f_; have u0 : a0 < (t1.length : Int) := of_decide_eq_true zq5f_; obtain ⟨K0, N0, s0, s1⟩ := at_T36 aE1.out a0 v0 u0; cases N0; replace s0 := pb_ HB.out s0; replace s1 := pb_ HB.out s1; replace v0 := eq_true v0; replace u0 := eq_true u0
     go_wp2_with (first | ((with_reducible refine gate_dst (N := 6) rfl ?_); refine bxe_ (N := 6) (cs := #[.int .i64 0, .int .i64 0]) (t := 36) ?_; intro c1 hg w9 G hb; have n_ := A7_ (blk_below (g := c0) (o := .cells #[.slice Z0 t0.length V0, .slice (some K0) t1.length V1, .int .i64 k0, .int .i64 k2] 30 (0, 0)) zq2f_ hb) (below_step zq6e_ hb) (G) ((zqa8_ : w.heap.size ≤ c1)) ((zqa8_ : w.heap.size ≤ c1)) ((zqbd_ : c0 ≠ c1)) ((zqb0_ : c1 ≠ c0)); clear b0 HB; obtain ⟨b0, HB, b1, A1, n1, h0, h1⟩ := n_; clear hb G hg; have P0 := h1.out; have Q0 := h0.out; obtain ⟨l5, l6, m4, m5⟩ := bz2_ b1.out))
     go_ret
     exact ⟨zq63_, zq6d_⟩
    ·rw [if_neg c8] at H; have q2 : (((rd_T36 t1 a0).f0) == a1) = false := beq_eq_false_iff_ne.mpr c8; have q3 : (((rd_T36 t1 a0).f0) != a1) = true := bne_iff_ne.mpr c8; have H' := Aside0.mk H; clear H; have v0 : 0 ≤ (a0 : Int) := of_decide_eq_true zq5f_; have u0 : a0 < (t1.length : Int) := of_decide_eq_true zq5f_; obtain ⟨K0, N0, s0, s1⟩ := at_T36 aE1.out a0 v0 u0; cases N0; replace s0 := pb_ HB.out s0; replace s1 := pb_ HB.out s1; replace v0 := eq_true v0; replace u0 := eq_true u0
     go_wp2_with (first | ((with_reducible refine gate_dst (N := 6) rfl ?_); refine bxe_ (N := 6) (cs := #[.int .i64 0, .int .i64 0]) (t := 36) ?_; intro c1 hg p0 G hb; have n_ := A7_ (blk_below (g := c0) (o := .cells #[.slice Z0 t0.length V0, .slice (some K0) t1.length V1, .int .i64 k0, .int .i64 k2] 30 (0, 0)) zq2f_ hb) (below_step zq6e_ hb) (G) ((zqa8_ : w.heap.size ≤ c1)) ((zqa8_ : w.heap.size ≤ c1)) ((zqbd_ : c0 ≠ c1)) ((zqb0_ : c1 ≠ c0)); clear b0 HB; obtain ⟨b0, HB, b1, A1, n1, h0, h1⟩ := n_; clear hb G hg; have P0 := h1.out; have Q0 := h0.out; obtain ⟨l5, l6, m4, m5⟩ := bz2_ b1.out))
     go_roundg k1
     case measure => have := aa0.out; omega
     case rel => exact ⟨(wrap64 (a0 + 1)), zq64_, H', ⟨by have := aa0.out; omega⟩, ⟨zq37_⟩, ⟨zq6d_⟩⟩
   ·obtain rfl := Option.some.inj H
    go_wp2
    go_ret
    exact ⟨zq63_, zq6e_⟩

end Go.Proofs.Ytgdafcakefnpdaa.PFnExecOwn
