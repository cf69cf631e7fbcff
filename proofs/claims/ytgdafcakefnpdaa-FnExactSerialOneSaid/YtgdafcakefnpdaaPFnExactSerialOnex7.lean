-- Laid by this session's program out of the translation (gen.sh).
import Derived.Test.YtgdafcakefnpdaaPFnExactSerialOnex0
import Derived.Test.YtgdafcakefnpdaaPFnExactSerialOnex6
namespace Go.Proofs.Ytgdafcakefnpdaa.PFnExactSerialOne
open Go.RowKit Go.Proofs.YtgdafcakefnpdaaW.PrintWords Go.Proofs.YtgdafcakefnpdaaW.PrintLast Go.Proofs.YtgdafcakefnpdaaW.PrintMore
attribute [local go_sem] max2_int min2_int max_two min_two max_three min_three max_four min_four   -- for this text's walks alone
set_option linter.unusedVariables false
set_option linter.unusedSimpArgs false

/-! ### impl_insOk: function 99 -/
def impl_insOk.j0 : Nat → Int → Bool → Int → Int → Int → Int → Option (Bool)
 | 0, _, _, _, _, _, _ => none
 | k + 1, x6, x57, x250000, x250001, x250002, x250003 => if x57 = true then ((impl_insOk_1.f x250001).bind fun t256 => (if t256 = true then ((impl_insOk_1.f x250002).bind fun t257 => (if t257 = true then (some (x250003 == 0)) else (some false))) else (some false))) else (if x6 = 6 then ((impl_insOk_1.f x250001).bind fun t258 => (if t258 = true then ((impl_insOk_1.f x250002).bind fun t259 => (if t259 = true then ((impl_in.f x250003 1 10).bind fun t260 => (some t260)) else (some false))) else (some false))) else (if x6 = 7 then (if x250001 = 0 then (if x250002 = 0 then (some (x250003 == 0)) else (some false)) else (some false)) else (some false)))
def impl_insOk.f (k : Nat) (a0_0 : Int) (a0_1 : Int) (a0_2 : Int) (a0_3 : Int) : Option (Bool) := if a0_0 = 1 then ((impl_insOk_1.f a0_1).bind fun t250 => (if t250 = true then ((impl_insOk_2.f a0_2).bind fun t251 => (if t251 = true then (some (a0_3 == 0)) else (some false))) else (some false))) else (if a0_0 = 2 then ((impl_insOk_2.f a0_1).bind fun t252 => (if t252 = true then ((impl_insOk_1.f a0_2).bind fun t253 => (if t253 = true then (some (a0_3 == 0)) else (some false))) else (some false))) else (if a0_0 = 3 then ((impl_insOk_1.f a0_1).bind fun t254 => (if t254 = true then (if a0_2 = 0 then ((impl_in.f a0_3 (-1000000) 1000000).bind fun t255 => (some t255)) else (some false)) else (some false))) else (if a0_0 = 4 then (impl_insOk.j0 k a0_0 (a0_0 == 4) a0_0 a0_1 a0_2 a0_3) else (impl_insOk.j0 k a0_0 (a0_0 == 5) a0_0 a0_1 a0_2 a0_3))))
theorem impl_insOk.mono_l : ∀ k, (∀ y0 y1 y2 y3 y4 y5, LeO (impl_insOk.j0 k y0 y1 y2 y3 y4 y5) (impl_insOk.j0 (k + 1) y0 y1 y2 y3 y4 y5))
 | 0 => fun _ _ _ _ _ _ r h => by simp [impl_insOk.j0] at h
 | k + 1 => by
  have E0 := impl_insOk.mono_l k
  ·intro y0 y1 y2 y3 y4 y5
   unfold impl_insOk.j0
   repeat' first
   | (with_reducible exact E0 _ _ _ _ _ _)
   | (with_reducible exact LeO.refl _)
   | (with_reducible exact LeO.none _)
   | (with_reducible refine LeO.ite ?_ ?_)
   | (with_reducible refine LeO.bind ?_ (fun _ => ?_))
   | exact E0 _ _ _ _ _ _
   | exact LeO.none _
   | refine LeO.ite ?_ ?_
   | refine LeO.bind ?_ (fun _ => ?_)
theorem impl_insOk.mono : ∀ a0 a1 a2 a3 k, LeO (impl_insOk.f k a0 a1 a2 a3) (impl_insOk.f (k + 1) a0 a1 a2 a3) := by
 intro a0 a1 a2 a3 k
 have E0 := impl_insOk.mono_l k
 unfold impl_insOk.f
 repeat' first
   | (with_reducible exact E0 _ _ _ _ _ _)
   | (with_reducible exact LeO.refl _)
   | (with_reducible exact LeO.none _)
   | (with_reducible refine LeO.ite ?_ ?_)
   | (with_reducible refine LeO.bind ?_ (fun _ => ?_))
   | exact E0 _ _ _ _ _ _
   | exact LeO.none _
   | refine LeO.ite ?_ ?_
   | refine LeO.bind ?_ (fun _ => ?_)
set_option maxHeartbeats 8000000 in
set_option maxRecDepth 100000 in
theorem impl_insOk.calls (k : Nat) (e0 : Int) (e1 : Int) (e2 : Int) (e3 : Int) (r : Bool) (w : World) (h : impl_insOk.f k e0 e1 e2 e3 = some r) :
  Calls Try.prog 99 #[.agg #[.int .i64 e0, .int .i64 e1, .int .i64 e2, .int .i64 e3]] w fun e w' => e = .returned (.bool r) ∧ Below w.heap.size w w' := by
 have ar0 := Try.underlying34; have HB := Aside0.mk (Below.refl w.heap.size w); have H : (if e0 = 1 then ((impl_insOk_1.f e1).bind fun i0 => (if i0 = true then ((impl_insOk_2.f e2).bind fun i1 => (if i1 = true then (some (e3 == 0)) else (some false))) else (some false))) else (if e0 = 2 then ((impl_insOk_2.f e1).bind fun i2 => (if i2 = true then ((impl_insOk_1.f e2).bind fun i3 => (if i3 = true then (some (e3 == 0)) else (some false))) else (some false))) else (if e0 = 3 then ((impl_insOk_1.f e1).bind fun i4 => (if i4 = true then (if e2 = 0 then ((impl_in.f e3 (-1000000) 1000000).bind fun i5 => (some i5)) else (some false)) else (some false))) else (if e0 = 4 then (impl_insOk.j0 k e0 (e0 == 4) e0 e1 e2 e3) else (impl_insOk.j0 k e0 (e0 == 5) e0 e1 e2 e3))))) = some r := h; clear h; by_cases c2 : e0 = 1
 ·rw [if_pos c2] at H; have r0 : (e0 == 1) = true := beq_iff_eq.mpr c2; have r1 : (e0 != 1) = false := bne_eq_false_iff_eq.mpr c2; clear c2; replace H := bs_ H; obtain ⟨i0, A3, H⟩ := H; (try dsimp only at H); replace H := ifB_ H
  rcases H with ⟨rfl, H⟩ | ⟨rfl, H⟩
  ·replace H := bs_ H; obtain ⟨i1, A5, H⟩ := H; (try dsimp only at H); replace H := ifB_ H
   rcases H with ⟨rfl, H⟩ | ⟨rfl, H⟩
   ·obtain rfl := Option.some.inj H
    go_enter Try.func99, Try.ntmps99
    go_wp2_with (first | ((with_reducible refine gate_dst (N := 1) rfl ?_); refine bxe_ (N := 1) (cs := #[.int .i64 e0, .int .i64 e1, .int .i64 e2, .int .i64 e3]) (t := 34) ?_; intro c0 hg w7 x hb; have n_ := A4_ (below_step zq54_ hb) (x) ((zq81_ : w.heap.size ≤ c0)) ((zq81_ : w.heap.size ≤ c0)); clear HB; obtain ⟨HB, b0, z0, j1⟩ := n_; clear hb x hg; obtain ⟨g0, g1, g2, g3, h0, h1, h2, h3⟩ := bz4_ b0.out) | (go_at_call 108; (with_reducible refine (impl_insOk_1.calls e1 true _ A3.out).mono ?_); rintro e w' ⟨rfl, ⟨nd, rfl⟩⟩; (try clear A3)) | (go_at_call 109; (with_reducible refine (impl_insOk_2.calls e2 true _ A5.out).mono ?_); rintro e w' ⟨rfl, ⟨nd, rfl⟩⟩; (try clear A5)))
    go_ret
    exact ⟨zq44_, zq53_⟩
   ·obtain rfl := Option.some.inj H
    go_enter Try.func99, Try.ntmps99
    go_wp2_with (first | ((with_reducible refine gate_dst (N := 1) rfl ?_); refine bxe_ (N := 1) (cs := #[.int .i64 e0, .int .i64 e1, .int .i64 e2, .int .i64 e3]) (t := 34) ?_; intro c0 hg w9 x hb; have n_ := A4_ (below_step zq54_ hb) (x) ((zq81_ : w.heap.size ≤ c0)) ((zq81_ : w.heap.size ≤ c0)); clear HB; obtain ⟨HB, b0, z0, j1⟩ := n_; clear hb x hg; obtain ⟨g0, g1, g2, g3, h0, h1, h2, h3⟩ := bz4_ b0.out) | (go_at_call 108; (with_reducible refine (impl_insOk_1.calls e1 true _ A3.out).mono ?_); rintro e w' ⟨rfl, ⟨nd, rfl⟩⟩; (try clear A3)) | (go_at_call 109; (with_reducible refine (impl_insOk_2.calls e2 false _ A5.out).mono ?_); rintro e w' ⟨rfl, ⟨nd, rfl⟩⟩; (try clear A5)))
    go_ret
    exact ⟨zq44_, zq53_⟩
  ·obtain rfl := Option.some.inj H
   go_enter Try.func99, Try.ntmps99
   go_wp2_with (first | ((with_reducible refine gate_dst (N := 1) rfl ?_); refine bxe_ (N := 1) (cs := #[.int .i64 e0, .int .i64 e1, .int .i64 e2, .int .i64 e3]) (t := 34) ?_; intro c0 hg q0 x hb; have n_ := A4_ (below_step zq54_ hb) (x) ((zq81_ : w.heap.size ≤ c0)) ((zq81_ : w.heap.size ≤ c0)); clear HB; obtain ⟨HB, b0, z0, j1⟩ := n_; clear hb x hg; obtain ⟨g0, g1, g2, g3, h0, h1, h2, h3⟩ := bz4_ b0.out) | (go_at_call 108; (with_reducible refine (impl_insOk_1.calls e1 false _ A3.out).mono ?_); rintro e w' ⟨rfl, ⟨nd, rfl⟩⟩; (try clear A3)))
   go_ret
   exact ⟨zq44_, zq53_⟩
 ·rw [if_neg c2] at H; have r0 : (e0 == 1) = false := beq_eq_false_iff_ne.mpr c2; have r1 : (e0 != 1) = true := bne_iff_ne.mpr c2; by_cases u0 : e0 = 2
  ·rw [if_pos u0] at H; have r2 : (e0 == 2) = true := beq_iff_eq.mpr u0; have r3 : (e0 != 2) = false := bne_eq_false_iff_eq.mpr u0; clear u0; replace H := bs_ H; obtain ⟨i2, F0, H⟩ := H; (try dsimp only at H); replace H := ifB_ H
   rcases H with ⟨rfl, H⟩ | ⟨rfl, H⟩
   ·replace H := bs_ H; obtain ⟨i3, F1, H⟩ := H; (try dsimp only at H); replace H := ifB_ H
    rcases H with ⟨rfl, H⟩ | ⟨rfl, H⟩
    ·obtain rfl := Option.some.inj H
     go_enter Try.func99, Try.ntmps99
     go_wp2_with (first | ((with_reducible refine gate_dst (N := 1) rfl ?_); refine bxe_ (N := 1) (cs := #[.int .i64 e0, .int .i64 e1, .int .i64 e2, .int .i64 e3]) (t := 34) ?_; intro c0 hg q0 x hb; have n_ := A4_ (below_step zq54_ hb) (x) ((zq81_ : w.heap.size ≤ c0)) ((zq81_ : w.heap.size ≤ c0)); clear HB; obtain ⟨HB, b0, z0, j1⟩ := n_; clear hb x hg; obtain ⟨g0, g1, g2, g3, h0, h1, h2, h3⟩ := bz4_ b0.out) | (go_at_call 109; (with_reducible refine (impl_insOk_2.calls e1 true _ F0.out).mono ?_); rintro e w' ⟨rfl, ⟨nd, rfl⟩⟩; (try clear F0)) | (go_at_call 108; (with_reducible refine (impl_insOk_1.calls e2 true _ F1.out).mono ?_); rintro e w' ⟨rfl, ⟨nd, rfl⟩⟩; (try clear F1)))
     go_ret
     exact ⟨zq44_, zq53_⟩
    ·obtain rfl := Option.some.inj H
     go_enter Try.func99, Try.ntmps99
     go_wp2_with (first | ((with_reducible refine gate_dst (N := 1) rfl ?_); refine bxe_ (N := 1) (cs := #[.int .i64 e0, .int .i64 e1, .int .i64 e2, .int .i64 e3]) (t := 34) ?_; intro c0 hg q0 x hb; have n_ := A4_ (below_step zq54_ hb) (x) ((zq81_ : w.heap.size ≤ c0)) ((zq81_ : w.heap.size ≤ c0)); clear HB; obtain ⟨HB, b0, z0, j1⟩ := n_; clear hb x hg; obtain ⟨g0, g1, g2, g3, h0, h1, h2, h3⟩ := bz4_ b0.out) | (go_at_call 109; (with_reducible refine (impl_insOk_2.calls e1 true _ F0.out).mono ?_); rintro e w' ⟨rfl, ⟨nd, rfl⟩⟩; (try clear F0)) | (go_at_call 108; (with_reducible refine (impl_insOk_1.calls e2 false _ F1.out).mono ?_); rintro e w' ⟨rfl, ⟨nd, rfl⟩⟩; (try clear F1)))
     go_ret
     exact ⟨zq44_, zq53_⟩
   ·obtain rfl := Option.some.inj H
    go_enter Try.func99, Try.ntmps99
    go_wp2_with (first | ((with_reducible refine gate_dst (N := 1) rfl ?_); refine bxe_ (N := 1) (cs := #[.int .i64 e0, .int .i64 e1, .int .i64 e2, .int .i64 e3]) (t := 34) ?_; intro c0 hg q0 x hb; have n_ := A4_ (below_step zq54_ hb) (x) ((zq81_ : w.heap.size ≤ c0)) ((zq81_ : w.heap.size ≤ c0)); clear HB; obtain ⟨HB, b0, z0, j1⟩ := n_; clear hb x hg; obtain ⟨g0, g1, g2, g3, h0, h1, h2, h3⟩ := bz4_ b0.out) | (go_at_call 109; (with_reducible refine (impl_insOk_2.calls e1 false _ F0.out).mono ?_); rintro e w' ⟨rfl, ⟨nd, rfl⟩⟩; (try clear F0)))
    go_ret
    exact ⟨zq44_, zq53_⟩
  ·rw [if_neg u0] at H; have r2 : (e0 == 2) = false := beq_eq_false_iff_ne.mpr u0; have r3 : (e0 != 2) = true := bne_iff_ne.mpr u0; by_cases u1 : e0 = 3
   ·rw [if_pos u1] at H; have r4 : (e0 == 3) = true := beq_iff_eq.mpr u1; have r5 : (e0 != 3) = false := bne_eq_false_iff_eq.mpr u1; clear u1; replace H := bs_ H; obtain ⟨i4, F0, H⟩ := H; (try dsimp only at H); replace H := ifB_ H
    rcases H with ⟨rfl, H⟩ | ⟨rfl, H⟩
    ·by_cases u2 : e2 = 0
     ·rw [if_pos u2] at H; have r6 : (e2 == 0) = true := beq_iff_eq.mpr u2; have r7 : (e2 != 0) = false := bne_eq_false_iff_eq.mpr u2; clear u2; replace H := bs_ H; obtain ⟨i5, F1, H⟩ := H; (try dsimp only at H); obtain rfl := Option.some.inj H
      go_enter Try.func99, Try.ntmps99
      go_wp2_with (first | ((with_reducible refine gate_dst (N := 1) rfl ?_); refine bxe_ (N := 1) (cs := #[.int .i64 e0, .int .i64 e1, .int .i64 e2, .int .i64 e3]) (t := 34) ?_; intro c0 hg q0 x hb; have n_ := A4_ (below_step zq54_ hb) (x) ((zq81_ : w.heap.size ≤ c0)) ((zq81_ : w.heap.size ≤ c0)); clear HB; obtain ⟨HB, b0, z0, j1⟩ := n_; clear hb x hg; obtain ⟨g0, g1, g2, g3, h0, h1, h2, h3⟩ := bz4_ b0.out) | (go_at_call 108; (with_reducible refine (impl_insOk_1.calls e1 true _ F0.out).mono ?_); rintro e w' ⟨rfl, ⟨nd, rfl⟩⟩; (try clear F0)) | (go_at_call 64; (with_reducible refine (impl_in.calls e3 (-1000000) 1000000 i5 _ F1.out).mono ?_); rintro e w' ⟨rfl, ⟨nd, rfl⟩⟩; (try clear F1)))
      go_ret
      exact ⟨zq44_, zq53_⟩
     ·rw [if_neg u2] at H; have r6 : (e2 == 0) = false := beq_eq_false_iff_ne.mpr u2; have r7 : (e2 != 0) = true := bne_iff_ne.mpr u2; obtain rfl := Option.some.inj H
      go_enter Try.func99, Try.ntmps99
      go_wp2_with (first | ((with_reducible refine gate_dst (N := 1) rfl ?_); refine bxe_ (N := 1) (cs := #[.int .i64 e0, .int .i64 e1, .int .i64 e2, .int .i64 e3]) (t := 34) ?_; intro c0 hg q0 x hb; have n_ := A4_ (below_step zq54_ hb) (x) ((zq81_ : w.heap.size ≤ c0)) ((zq81_ : w.heap.size ≤ c0)); clear HB; obtain ⟨HB, b0, z0, j1⟩ := n_; clear hb x hg; obtain ⟨g0, g1, g2, g3, h0, h1, h2, h3⟩ := bz4_ b0.out) | (go_at_call 108; (with_reducible refine (impl_insOk_1.calls e1 true _ F0.out).mono ?_); rintro e w' ⟨rfl, ⟨nd, rfl⟩⟩; (try clear F0)))
      go_ret
      exact ⟨zq44_, zq53_⟩
    ·obtain rfl := Option.some.inj H
     go_enter Try.func99, Try.ntmps99
     go_wp2_with (first | ((with_reducible refine gate_dst (N := 1) rfl ?_); refine bxe_ (N := 1) (cs := #[.int .i64 e0, .int .i64 e1, .int .i64 e2, .int .i64 e3]) (t := 34) ?_; intro c0 hg q0 x hb; have n_ := A4_ (below_step zq54_ hb) (x) ((zq81_ : w.heap.size ≤ c0)) ((zq81_ : w.heap.size ≤ c0)); clear HB; obtain ⟨HB, b0, z0, j1⟩ := n_; clear hb x hg; obtain ⟨g0, g1, g2, g3, h0, h1, h2, h3⟩ := bz4_ b0.out) | (go_at_call 108; (with_reducible refine (impl_insOk_1.calls e1 false _ F0.out).mono ?_); rintro e w' ⟨rfl, ⟨nd, rfl⟩⟩; (try clear F0)))
     go_ret
     exact ⟨zq44_, zq53_⟩
   ·rw [if_neg u1] at H; have r4 : (e0 == 3) = false := beq_eq_false_iff_ne.mpr u1; have r5 : (e0 != 3) = true := bne_iff_ne.mpr u1; have X0 := Aside0.mk H; clear H
    go_enter Try.func99, Try.ntmps99
    go_upto_if 57 with (first | ((with_reducible refine gate_dst (N := 1) rfl ?_); refine bxe_ (N := 1) (cs := #[.int .i64 e0, .int .i64 e1, .int .i64 e2, .int .i64 e3]) (t := 34) ?_; intro c0 hg q0 x hb; have n_ := A4_ (below_step zq54_ hb) (x) ((zq81_ : w.heap.size ≤ c0)) ((zq81_ : w.heap.size ≤ c0)); clear HB; obtain ⟨HB, b0, z0, j1⟩ := n_; clear hb x hg; obtain ⟨g0, g1, g2, g3, h0, h1, h2, h3⟩ := bz4_ b0.out))
    (try simp only [Act.put, List.setIfInBounds_toArray, List.set_cons_zero, List.set_cons_succ])
    go_cut [57] (fun af0 wc => ∃ (kq : Nat) (a0 : Bool), af0 = .bool a0 ∧ Aside0 (impl_insOk.j0 kq e0 a0 e0 e1 e2 e3 = some r) ∧ Aside0 (kq ≤ k) ∧ Aside0 (wc.heap[c0]? = some (.cells #[.int .i64 e0, .int .i64 e1, .int .i64 e2, .int .i64 e3] 34 (0, 0))) ∧ Aside0 (Below w.heap.size w wc))
    case first =>
     have H := X0.out; clear X0; by_cases u2 : e0 = 4
     ·rw [if_pos u2] at H; have r6 : (e0 == 4) = true := beq_iff_eq.mpr u2; have r7 : (e0 != 4) = false := bne_eq_false_iff_eq.mpr u2; clear u2; (first | rw [r6] | (simp only [i64_w, i32_w]; rw [r6]) | skip); have H' := Aside0.mk H; clear H
      go_wp2
      go_meet
      case rel => exact ⟨_, ((e0 == 4)), zq45_, H', ⟨zq43_⟩, ⟨zq19_⟩, ⟨zq53_⟩⟩
     ·rw [if_neg u2] at H; have r6 : (e0 == 4) = false := beq_eq_false_iff_ne.mpr u2; have r7 : (e0 != 4) = true := bne_iff_ne.mpr u2; (first | rw [r6] | (simp only [i64_w, i32_w]; rw [r6]) | skip); have H' := Aside0.mk H; clear H
      go_wp2
      go_meet
      case rel => exact ⟨_, ((e0 == 5)), zq45_, H', ⟨zq43_⟩, ⟨zq19_⟩, ⟨zq53_⟩⟩
    case rest =>
     clear X0
     try clear c1
     try clear c2
     try clear r0
     try clear r1
     try clear p2
     try clear c3
     try clear c4
     try clear c6
     try clear c9
     try clear u0
     try clear r2
     try clear r3
     try clear c15
     try clear c17
     try clear u1
     try clear r4
     try clear r5
     try clear c26
     try clear u3
     try clear r6
     try clear r7
     try clear u2
     try clear r8
     try clear r9
     try clear g4 g5 g6 g7 h4 h5 h6 h7
     try clear g8 g9 g10 g11 h8 h9 h10 h11
     try clear g12 g13 g14 g15 h12 h13 h14 h15
     try clear g16 g17 g18 g19 h16 h17 h18 h19
     try clear g20 g21 g22 g23 h20 h21 h22 h23
     try clear g24 g25 g26 g27 h24 h25 h26 h27
     try clear g28 g29 g30 g31 h28 h29 h30 h31
     try clear g32 g33 g34 g35 h32 h33 h34 h35
     try clear g0 g1 g2 g3 h0 h1 h2 h3
     try clear g36 g37 g38 g39 h36 h37 h38 h39
     obtain ⟨kq, a0, rfl, HA, ap0, b0, HB⟩ := hcut
     cases kq with
     | zero => exact absurd HA.out (by simp [impl_insOk.j0])
     | succ kj34 =>
      have H := HA.out; clear HA; simp only [impl_insOk.j0] at H; replace H := ifB_ H
      rcases H with ⟨rfl, H⟩ | ⟨rfl, H⟩
      ·replace H := bs_ H; obtain ⟨i6, F0, H⟩ := H; (try dsimp only at H); replace H := ifB_ H
       rcases H with ⟨rfl, H⟩ | ⟨rfl, H⟩
       ·replace H := bs_ H; obtain ⟨i7, F1, H⟩ := H; (try dsimp only at H); replace H := ifB_ H
        rcases H with ⟨rfl, H⟩ | ⟨rfl, H⟩
        ·obtain rfl := Option.some.inj H; obtain ⟨g40, g41, g42, g43, h40, h41, h42, h43⟩ := bz4_ b0.out
         go_wp2_with (first | (go_at_call 108; (with_reducible refine (impl_insOk_1.calls e1 true _ F0.out).mono ?_); rintro e w' ⟨rfl, ⟨nd, rfl⟩⟩; (try clear F0)) | (go_at_call 108; (with_reducible refine (impl_insOk_1.calls e2 true _ F1.out).mono ?_); rintro e w' ⟨rfl, ⟨nd, rfl⟩⟩; (try clear F1)))
         go_ret
         exact ⟨zq44_, zq53_⟩
        ·obtain rfl := Option.some.inj H; obtain ⟨g40, g41, g42, g43, h40, h41, h42, h43⟩ := bz4_ b0.out
         go_wp2_with (first | (go_at_call 108; (with_reducible refine (impl_insOk_1.calls e1 true _ F0.out).mono ?_); rintro e w' ⟨rfl, ⟨nd, rfl⟩⟩; (try clear F0)) | (go_at_call 108; (with_reducible refine (impl_insOk_1.calls e2 false _ F1.out).mono ?_); rintro e w' ⟨rfl, ⟨nd, rfl⟩⟩; (try clear F1)))
         go_ret
         exact ⟨zq44_, zq53_⟩
       ·obtain rfl := Option.some.inj H; obtain ⟨g40, g41, g42, g43, h40, h41, h42, h43⟩ := bz4_ b0.out
        go_wp2_with (first | (go_at_call 108; (with_reducible refine (impl_insOk_1.calls e1 false _ F0.out).mono ?_); rintro e w' ⟨rfl, ⟨nd, rfl⟩⟩; (try clear F0)))
        go_ret
        exact ⟨zq44_, zq53_⟩
      ·by_cases u4 : e0 = 6
       ·rw [if_pos u4] at H; have r10 : (e0 == 6) = true := beq_iff_eq.mpr u4; have r11 : (e0 != 6) = false := bne_eq_false_iff_eq.mpr u4; clear u4; replace H := bs_ H; obtain ⟨i6, F0, H⟩ := H; (try dsimp only at H); replace H := ifB_ H
        rcases H with ⟨rfl, H⟩ | ⟨rfl, H⟩
        ·replace H := bs_ H; obtain ⟨i7, F1, H⟩ := H; (try dsimp only at H); replace H := ifB_ H
         rcases H with ⟨rfl, H⟩ | ⟨rfl, H⟩
         ·replace H := bs_ H; obtain ⟨i8, F2, H⟩ := H; (try dsimp only at H); obtain rfl := Option.some.inj H; obtain ⟨g40, g41, g42, g43, h40, h41, h42, h43⟩ := bz4_ b0.out
          go_wp2_with (first | (go_at_call 108; (with_reducible refine (impl_insOk_1.calls e1 true _ F0.out).mono ?_); rintro e w' ⟨rfl, ⟨nd, rfl⟩⟩; (try clear F0)) | (go_at_call 108; (with_reducible refine (impl_insOk_1.calls e2 true _ F1.out).mono ?_); rintro e w' ⟨rfl, ⟨nd, rfl⟩⟩; (try clear F1)) | (go_at_call 64; (with_reducible refine (impl_in.calls e3 1 10 i8 _ F2.out).mono ?_); rintro e w' ⟨rfl, ⟨nd, rfl⟩⟩; (try clear F2)))
          go_ret
          exact ⟨zq44_, zq53_⟩
         ·obtain rfl := Option.some.inj H; obtain ⟨g40, g41, g42, g43, h40, h41, h42, h43⟩ := bz4_ b0.out
          go_wp2_with (first | (go_at_call 108; (with_reducible refine (impl_insOk_1.calls e1 true _ F0.out).mono ?_); rintro e w' ⟨rfl, ⟨nd, rfl⟩⟩; (try clear F0)) | (go_at_call 108; (with_reducible refine (impl_insOk_1.calls e2 false _ F1.out).mono ?_); rintro e w' ⟨rfl, ⟨nd, rfl⟩⟩; (try clear F1)))
          go_ret
          exact ⟨zq44_, zq53_⟩
        ·obtain rfl := Option.some.inj H; obtain ⟨g40, g41, g42, g43, h40, h41, h42, h43⟩ := bz4_ b0.out
         go_wp2_with (first | (go_at_call 108; (with_reducible refine (impl_insOk_1.calls e1 false _ F0.out).mono ?_); rintro e w' ⟨rfl, ⟨nd, rfl⟩⟩; (try clear F0)))
         go_ret
         exact ⟨zq44_, zq53_⟩
       ·rw [if_neg u4] at H; have r10 : (e0 == 6) = false := beq_eq_false_iff_ne.mpr u4; have r11 : (e0 != 6) = true := bne_iff_ne.mpr u4; by_cases u5 : e0 = 7
        ·rw [if_pos u5] at H; have r12 : (e0 == 7) = true := beq_iff_eq.mpr u5; have r13 : (e0 != 7) = false := bne_eq_false_iff_eq.mpr u5; clear u5; by_cases u6 : e1 = 0
         ·rw [if_pos u6] at H; have r14 : (e1 == 0) = true := beq_iff_eq.mpr u6; have r15 : (e1 != 0) = false := bne_eq_false_iff_eq.mpr u6; clear u6; by_cases u7 : e2 = 0
          ·rw [if_pos u7] at H; have r16 : (e2 == 0) = true := beq_iff_eq.mpr u7; have r17 : (e2 != 0) = false := bne_eq_false_iff_eq.mpr u7; clear u7; obtain rfl := Option.some.inj H; obtain ⟨g40, g41, g42, g43, h40, h41, h42, h43⟩ := bz4_ b0.out
           go_wp2
           go_ret
           exact ⟨zq44_, zq53_⟩
          ·rw [if_neg u7] at H; have r16 : (e2 == 0) = false := beq_eq_false_iff_ne.mpr u7; have r17 : (e2 != 0) = true := bne_iff_ne.mpr u7; obtain rfl := Option.some.inj H; obtain ⟨g40, g41, g42, g43, h40, h41, h42, h43⟩ := bz4_ b0.out
           go_wp2
           go_ret
           exact ⟨zq44_, zq53_⟩
         ·rw [if_neg u6] at H; have r14 : (e1 == 0) = false := beq_eq_false_iff_ne.mpr u6; have r15 : (e1 != 0) = true := bne_iff_ne.mpr u6; obtain rfl := Option.some.inj H; obtain ⟨g40, g41, g42, g43, h40, h41, h42, h43⟩ := bz4_ b0.out
          go_wp2
          go_ret
          exact ⟨zq44_, zq53_⟩
        ·rw [if_neg u5] at H; have r12 : (e0 == 7) = false := beq_eq_false_iff_ne.mpr u5; have r13 : (e0 != 7) = true := bne_iff_ne.mpr u5; obtain rfl := Option.some.inj H
         go_wp2
         go_ret
         exact ⟨zq44_, zq53_⟩

/-! ### impl_ProgOk: function 60 -/
def impl_ProgOk.l0 : Nat → List (S34) → List (S34) → Int → Int → Option (Bool)
 | 0, _, _, _, _ => none
 | k + 1, x0, x5, x6, x7 => if x7 < x6 then (if 0 ≤ x7 then (if x7 < (x5.length : Int) then ((impl_insOk.f k ((rd_T34 x5 x7).f0) ((rd_T34 x5 x7).f1) ((rd_T34 x5 x7).f2) ((rd_T34 x5 x7).f3)).bind fun t263 => (if t263 = true then (impl_ProgOk.l0 k x0 x5 x6 (wrap64 (x7 + 1))) else (some false))) else (none)) else (none)) else (some (decide ((x0.length : Int) ≤ 10)))
def impl_ProgOk.f (k : Nat) (l0 : List (S34)) : Option (Bool) := impl_ProgOk.l0 k l0 l0 (l0.length : Int) 0
theorem impl_ProgOk.mono_l : ∀ k, (∀ y0 y1 y2 y3, LeO (impl_ProgOk.l0 k y0 y1 y2 y3) (impl_ProgOk.l0 (k + 1) y0 y1 y2 y3))
 | 0 => fun _ _ _ _ r h => by simp [impl_ProgOk.l0] at h
 | k + 1 => by
  have E0 := impl_ProgOk.mono_l k
  ·intro y0 y1 y2 y3
   unfold impl_ProgOk.l0
   repeat' first
   | (with_reducible exact E0 _ _ _ _)
   | (with_reducible exact impl_insOk.mono _ _ _ _ _)
   | (with_reducible exact LeO.refl _)
   | (with_reducible exact LeO.none _)
   | (with_reducible refine LeO.ite ?_ ?_)
   | (with_reducible refine LeO.bind ?_ (fun _ => ?_))
   | exact E0 _ _ _ _
   | exact impl_insOk.mono _ _ _ _ _
   | exact LeO.none _
   | refine LeO.ite ?_ ?_
   | refine LeO.bind ?_ (fun _ => ?_)
theorem impl_ProgOk.mono : ∀ a0 k, LeO (impl_ProgOk.f k a0) (impl_ProgOk.f (k + 1) a0) := by
 intro a0 k
 have E0 := impl_ProgOk.mono_l k
 unfold impl_ProgOk.f
 repeat' first
   | (with_reducible exact E0 _ _ _ _)
   | (with_reducible exact impl_insOk.mono _ _ _ _ _)
   | (with_reducible exact LeO.refl _)
   | (with_reducible exact LeO.none _)
   | (with_reducible refine LeO.ite ?_ ?_)
   | (with_reducible refine LeO.bind ?_ (fun _ => ?_))
   | exact E0 _ _ _ _
   | exact impl_insOk.mono _ _ _ _ _
   | exact LeO.none _
   | refine LeO.ite ?_ ?_
   | refine LeO.bind ?_ (fun _ => ?_)
set_option maxHeartbeats 8000000 in
set_option maxRecDepth 100000 in
theorem impl_ProgOk.calls (k : Nat) (A0 : Option Addr) (c0 : Nat) (l0 : List (S34)) (r : Bool) (w : World) (V0 : Kd.C k34 w A0 l0.length l0) (S0 : l0.length ≤ c0) (h : impl_ProgOk.f k l0 = some r) :
  Calls Try.prog 60 #[.slice A0 l0.length c0] w fun e w' => e = .returned (.bool r) ∧ Below w.heap.size w w' := by
 have ar0 := Try.underlying34; have R0 := Aside0.mk V0; have X0 := Aside0.mk S0; clear V0 S0; have HB := Aside0.mk (Below.refl w.heap.size w); have H : (impl_ProgOk.l0 k l0 l0 (l0.length : Int) 0) = some r := h; clear h; have H' := Aside0.mk H; clear H
 go_enter Try.func60, Try.ntmps60
 go_wp2
 go_loopg [7] k (fun kq v7 w' => ∃ (a0 : Int), v7 = .int .i64 a0 ∧ Aside0 (impl_ProgOk.l0 kq l0 l0 (l0.length : Int) a0 = some r) ∧ Aside0 (kq ≤ k) ∧ Aside0 (Below w.heap.size w w'))
 case atStart => exact ⟨(0), zq45_, H', ⟨Nat.le_refl _⟩, ⟨zq54_⟩⟩
 case round =>
  clear H'; obtain ⟨a0, rfl, HA, ae0, HB⟩ := hrel
  cases gk with
  | zero => exact absurd HA.out (by simp [impl_ProgOk.l0])
  | succ k1 =>
   have H := HA.out; clear HA; simp only [impl_ProgOk.l0] at H; replace H := ifc_ H
   rcases H with ⟨c2b0, H⟩ | ⟨c2b0, H⟩
   ·replace H := ifd2_ H; obtain ⟨r0, r1, H⟩ := H; replace H := bs_ H; obtain ⟨i0, A5, H⟩ := H; (try dsimp only at H); replace H := ifB_ H
    rcases H with ⟨rfl, H⟩ | ⟨rfl, H⟩
    ·have H' := Aside0.mk H; clear H; have s0 : 0 ≤ (a0 : Int) := of_decide_eq_true zq40_; have t0 : a0 < (l0.length : Int) := of_decide_eq_true zq40_; obtain ⟨y0, N0, p0, p1, p2, p3⟩ := at_T34 R0.out a0 s0 t0; cases N0; replace p0 := pb_ HB.out p0; replace p1 := pb_ HB.out p1; replace p2 := pb_ HB.out p2; replace p3 := pb_ HB.out p3; replace s0 := eq_true s0; replace t0 := eq_true t0
     go_wp2_with (first | ((with_reducible refine gate_dst (N := 4) rfl ?_); refine bxe_ (N := 4) (cs := #[.int .i64 0, .int .i64 0, .int .i64 0, .int .i64 0]) (t := 34) ?_; intro c1 hg w7 x hb; have n_ := A4_ (below_step zq54_ hb) (x) ((zq81_ : w.heap.size ≤ c1)) ((zq81_ : w.heap.size ≤ c1)); clear HB; obtain ⟨HB, b0, z0, j0⟩ := n_; clear hb x hg; obtain ⟨g0, g1, g2, g3, h0, h1, h2, h3⟩ := bz4_ b0.out) | ((with_reducible refine gate_callee (f := 99) rfl ?_); refine gl_ 12 Try.func99 #[.agg #[.int .i64 ((rd_T34 l0 a0).f0), .int .i64 ((rd_T34 l0 a0).f1), .int .i64 ((rd_T34 l0 a0).f2), .int .i64 ((rd_T34 l0 a0).f3)]] ?_; (with_reducible refine (impl_insOk.calls k1 ((rd_T34 l0 a0).f0) ((rd_T34 l0 a0).f1) ((rd_T34 l0 a0).f2) ((rd_T34 l0 a0).f3) true _ A5.out).mono ?_); rintro e w9 ⟨rfl, hb⟩; refine ⟨_, rfl, ?_⟩; have n_ := A2_ (blk_below (g := c1) (o := .cells #[.int .i64 ((rd_T34 l0 a0).f0), .int .i64 ((rd_T34 l0 a0).f1), .int .i64 ((rd_T34 l0 a0).f2), .int .i64 ((rd_T34 l0 a0).f3)] 34 (0, 0)) zq2f_ hb) (below_step zq4c_ hb); clear b0 HB; obtain ⟨b0, HB⟩ := n_; (try clear hb)))
     go_roundg k1
     case measure => have := ae0.out; omega
     case rel => exact ⟨(wrap64 (a0 + 1)), zq45_, H', ⟨by have := ae0.out; omega⟩, ⟨zq4c_⟩⟩
    ·obtain rfl := Option.some.inj H; have s0 : 0 ≤ (a0 : Int) := of_decide_eq_true zq40_; have t0 : a0 < (l0.length : Int) := of_decide_eq_true zq40_; obtain ⟨y0, N0, p0, p1, p2, p3⟩ := at_T34 R0.out a0 s0 t0; cases N0; replace p0 := pb_ HB.out p0; replace p1 := pb_ HB.out p1; replace p2 := pb_ HB.out p2; replace p3 := pb_ HB.out p3; replace s0 := eq_true s0; replace t0 := eq_true t0
     go_wp2_with (first | ((with_reducible refine gate_dst (N := 4) rfl ?_); refine bxe_ (N := 4) (cs := #[.int .i64 0, .int .i64 0, .int .i64 0, .int .i64 0]) (t := 34) ?_; intro c1 hg q0 x hb; have n_ := A4_ (below_step zq54_ hb) (x) ((zq81_ : w.heap.size ≤ c1)) ((zq81_ : w.heap.size ≤ c1)); clear HB; obtain ⟨HB, b0, z0, j0⟩ := n_; clear hb x hg; obtain ⟨g0, g1, g2, g3, h0, h1, h2, h3⟩ := bz4_ b0.out) | ((with_reducible refine gate_callee (f := 99) rfl ?_); refine gl_ 12 Try.func99 #[.agg #[.int .i64 ((rd_T34 l0 a0).f0), .int .i64 ((rd_T34 l0 a0).f1), .int .i64 ((rd_T34 l0 a0).f2), .int .i64 ((rd_T34 l0 a0).f3)]] ?_; (with_reducible refine (impl_insOk.calls k1 ((rd_T34 l0 a0).f0) ((rd_T34 l0 a0).f1) ((rd_T34 l0 a0).f2) ((rd_T34 l0 a0).f3) false _ A5.out).mono ?_); rintro e q1 ⟨rfl, hb⟩; refine ⟨_, rfl, ?_⟩; have n_ := A2_ (blk_below (g := c1) (o := .cells #[.int .i64 ((rd_T34 l0 a0).f0), .int .i64 ((rd_T34 l0 a0).f1), .int .i64 ((rd_T34 l0 a0).f2), .int .i64 ((rd_T34 l0 a0).f3)] 34 (0, 0)) zq2f_ hb) (below_step zq4c_ hb); clear b0 HB; obtain ⟨b0, HB⟩ := n_; (try clear hb)))
     go_ret
     exact ⟨zq44_, zq4c_⟩
   ·obtain rfl := Option.some.inj H
    go_wp2
    go_ret
    exact ⟨zq44_, zq54_⟩

/-! ### impl_putAt: function 61 -/
def impl_putAt.l0 : Nat → Int → List (S36) → Int → Int → Option (Int)
 | 0, _, _, _, _ => none
 | k + 1, x1, x8, x9, x10 => if x10 < x9 then (if 0 ≤ x10 then (if x10 < (x8.length : Int) then (if ((rd_T36 x8 x10).f0) = x1 then (some x10) else (impl_putAt.l0 k x1 x8 x9 (wrap64 (x10 + 1)))) else (none)) else (none)) else (some (-1))
def impl_putAt.f (k : Nat) (l0_0 : List (S48)) (l0_1 : List (S36)) (a0_2 : Int) (a0_3 : Int) (a1 : Int) : Option (Int) := impl_putAt.l0 k a1 l0_1 (l0_1.length : Int) 0
theorem impl_putAt.mono_l : ∀ k, (∀ y0 y1 y2 y3, LeO (impl_putAt.l0 k y0 y1 y2 y3) (impl_putAt.l0 (k + 1) y0 y1 y2 y3))
 | 0 => fun _ _ _ _ r h => by simp [impl_putAt.l0] at h
 | k + 1 => by
  have E0 := impl_putAt.mono_l k
  ·intro y0 y1 y2 y3
   unfold impl_putAt.l0
   repeat' first
   | (with_reducible exact E0 _ _ _ _)
   | (with_reducible exact LeO.refl _)
   | (with_reducible exact LeO.none _)
   | (with_reducible refine LeO.ite ?_ ?_)
   | (with_reducible refine LeO.bind ?_ (fun _ => ?_))
   | exact E0 _ _ _ _
   | exact LeO.none _
   | refine LeO.ite ?_ ?_
   | refine LeO.bind ?_ (fun _ => ?_)
theorem impl_putAt.mono : ∀ a0 a1 a2 a3 a4 k, LeO (impl_putAt.f k a0 a1 a2 a3 a4) (impl_putAt.f (k + 1) a0 a1 a2 a3 a4) := by
 intro a0 a1 a2 a3 a4 k
 have E0 := impl_putAt.mono_l k
 unfold impl_putAt.f
 repeat' first
   | (with_reducible exact E0 _ _ _ _)
   | (with_reducible exact LeO.refl _)
   | (with_reducible exact LeO.none _)
   | (with_reducible refine LeO.ite ?_ ?_)
   | (with_reducible refine LeO.bind ?_ (fun _ => ?_))
   | exact E0 _ _ _ _
   | exact LeO.none _
   | refine LeO.ite ?_ ?_
   | refine LeO.bind ?_ (fun _ => ?_)
set_option maxHeartbeats 8000000 in
set_option maxRecDepth 100000 in
theorem impl_putAt.calls (k : Nat) (T0 : Option Addr) (P0 : Nat) (n0 : List (S48)) (T1 : Option Addr) (P1 : Nat) (n1 : List (S36)) (e0 : Int) (e1 : Int) (a1 : Int) (r : Int) (w : World) (aA0 : Kd.C k48 w T0 n0.length n0) (aB0 : n0.length ≤ P0) (aA1 : Kd.C k36 w T1 n1.length n1) (aB1 : n1.length ≤ P1) (h : impl_putAt.f k n0 n1 e0 e1 a1 = some r) :
  Calls Try.prog 61 #[.agg #[.slice T0 n0.length P0, .slice T1 n1.length P1, .int .i64 e0, .int .i64 e1], .int .i64 a1] w fun e w' => e = .returned (.int .i64 r) ∧ Below w.heap.size w w' := by
 have ar0 := Try.underlying30; have ar1 := Try.underlying36; have aC0 := Aside0.mk aA0; have aZ0 := Aside0.mk aB0; clear aA0 aB0; have aC1 := Aside0.mk aA1; have aZ1 := Aside0.mk aB1; clear aA1 aB1; have HB := Aside0.mk (Below.refl w.heap.size w); have H : (impl_putAt.l0 k a1 n1 (n1.length : Int) 0) = some r := h; clear h; have H' := Aside0.mk H; clear H
 go_enter Try.func61, Try.ntmps61
 go_wp2_with (first | ((with_reducible refine gate_dst (N := 2) rfl ?_); refine bxe_ (N := 2) (cs := #[.slice T0 n0.length P0, .slice T1 n1.length P1, .int .i64 e0, .int .i64 e1]) (t := 30) ?_; intro c0 hg w3 x hb; have n_ := A4_ (below_step zq54_ hb) (x) ((zq81_ : w.heap.size ≤ c0)) ((zq81_ : w.heap.size ≤ c0)); clear HB; obtain ⟨HB, b0, z0, j0⟩ := n_; clear hb x hg; obtain ⟨g0, g1, g2, g3, h0, h1, h2, h3⟩ := bz4_ b0.out))
 go_loopg [10] k (fun kq af0 w' => ∃ (a0 : Int), af0 = .int .i64 a0 ∧ Aside0 (impl_putAt.l0 kq a1 n1 (n1.length : Int) a0 = some r) ∧ Aside0 (kq ≤ k) ∧ Aside0 (w'.heap[c0]? = some (.cells #[(.slice T0 n0.length P0), (.slice T1 n1.length P1), .int .i64 e0, .int .i64 e1] 30 (0, 0))) ∧ Aside0 (Below w.heap.size w w'))
 case atStart => exact ⟨(0), zq45_, H', ⟨Nat.le_refl _⟩, ⟨zq19_⟩, ⟨zq4c_⟩⟩
 case round =>
  clear H'
  try clear p2
  try clear g0 g1 g2 g3 h0 h1 h2 h3
  obtain ⟨a0, rfl, HA, ae0, b0, HB⟩ := hrel
  cases gk with
  | zero => exact absurd HA.out (by simp [impl_putAt.l0])
  | succ k1 =>
   have H := HA.out; clear HA; simp only [impl_putAt.l0] at H; replace H := ifc_ H
   rcases H with ⟨c5b0, H⟩ | ⟨c5b0, H⟩
   ·replace H := ifd2_ H; obtain ⟨r0, r1, H⟩ := H; by_cases c8 : ((rd_T36 n1 a0).f0) = a1
    ·rw [if_pos c8] at H; have r2 : (((rd_T36 n1 a0).f0) == a1) = true := beq_iff_eq.mpr c8; have r3 : (((rd_T36 n1 a0).f0) != a1) = false := bne_eq_false_iff_eq.mpr c8; clear c8; obtain rfl := Option.some.inj H; have s0 : 0 ≤ (a0 : Int) := of_decide_eq_true zq40_; have t0 : a0 < (n1.length : Int) := of_decide_eq_true zq40_; obtain ⟨y0, N0, p0, p1⟩ := at_T36 aC1.out a0 s0 t0; cases N0; replace p0 := pb_ HB.out p0; replace p1 := pb_ HB.out p1; replace s0 := eq_true s0; replace t0 := eq_true t0
     go_wp2_with (first | ((with_reducible refine gate_dst (N := 6) rfl ?_); refine bxe_ (N := 6) (cs := #[.int .i64 0, .int .i64 0]) (t := 36) ?_; intro c1 hg w9 x hb; have n_ := A7_ (blk_below (g := c0) (o := .cells #[.slice T0 n0.length P0, .slice (some y0) n1.length P1, .int .i64 e0, .int .i64 e1] 30 (0, 0)) zq19_ hb) (below_step zq4c_ hb) (x) ((zq7d_ : w.heap.size ≤ c1)) ((zq7d_ : w.heap.size ≤ c1)) ((zq98_ : c0 ≠ c1)) ((zq87_ : c1 ≠ c0)); clear b0 HB; obtain ⟨b0, HB, b1, z1, j1, f1, f2⟩ := n_; clear hb x hg; have J0 := f2.out; have K0 := f1.out; obtain ⟨g4, g5, h4, h5⟩ := bz2_ b1.out))
     go_ret
     exact ⟨zq44_, zq4b_⟩
    ·rw [if_neg c8] at H; have r2 : (((rd_T36 n1 a0).f0) == a1) = false := beq_eq_false_iff_ne.mpr c8; have r3 : (((rd_T36 n1 a0).f0) != a1) = true := bne_iff_ne.mpr c8; have H' := Aside0.mk H; clear H; have s0 : 0 ≤ (a0 : Int) := of_decide_eq_true zq40_; have t0 : a0 < (n1.length : Int) := of_decide_eq_true zq40_; obtain ⟨y0, N0, p0, p1⟩ := at_T36 aC1.out a0 s0 t0; cases N0; replace p0 := pb_ HB.out p0; replace p1 := pb_ HB.out p1; replace s0 := eq_true s0; replace t0 := eq_true t0
     go_wp2_with (first | ((with_reducible refine gate_dst (N := 6) rfl ?_); refine bxe_ (N := 6) (cs := #[.int .i64 0, .int .i64 0]) (t := 36) ?_; intro c1 hg q0 x hb; have n_ := A7_ (blk_below (g := c0) (o := .cells #[.slice T0 n0.length P0, .slice (some y0) n1.length P1, .int .i64 e0, .int .i64 e1] 30 (0, 0)) zq19_ hb) (below_step zq4c_ hb) (x) ((zq7d_ : w.heap.size ≤ c1)) ((zq7d_ : w.heap.size ≤ c1)) ((zq98_ : c0 ≠ c1)) ((zq87_ : c1 ≠ c0)); clear b0 HB; obtain ⟨b0, HB, b1, z1, j1, f1, f2⟩ := n_; clear hb x hg; have J0 := f2.out; have K0 := f1.out; obtain ⟨g4, g5, h4, h5⟩ := bz2_ b1.out))
     go_roundg k1
     case measure => have := ae0.out; omega
     case rel => exact ⟨(wrap64 (a0 + 1)), zq45_, H', ⟨by have := ae0.out; omega⟩, ⟨zq20_⟩, ⟨zq4b_⟩⟩
   ·obtain rfl := Option.some.inj H
    go_wp2
    go_ret
    exact ⟨zq44_, zq4c_⟩

end Go.Proofs.Ytgdafcakefnpdaa.PFnExactSerialOne
