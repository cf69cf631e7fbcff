-- Laid by this session's program out of the translation (gen.sh).
import Derived.Test.YtgdafcakefnpdaaPFnExecx0
import Derived.Test.YtgdafcakefnpdaaPFnExecx4
namespace Go.Proofs.Ytgdafcakefnpdaa.PFnExec
open Go.RowKit Go.Proofs.YtgdafcakefnpdaaW.PrintWords Go.Proofs.YtgdafcakefnpdaaW.PrintLast Go.Proofs.YtgdafcakefnpdaaW.PrintMore
attribute [local go_sem] max2_int min2_int max_two min_two max_three min_three max_four min_four   -- for this text's walks alone
set_option linter.unusedVariables false
set_option linter.unusedSimpArgs false

/-! ### impl_insOk: function 99 -/
def impl_insOk.j0 : Nat → Int → Bool → Int → Int → Int → Int → Option (Bool)
 | 0, _, _, _, _, _, _ => none
 | k + 1, x6, x57, x241000, x241001, x241002, x241003 => if x57 = true then ((impl_insOk_1.f x241001).bind fun t247 => (if t247 = true then ((impl_insOk_1.f x241002).bind fun t248 => (if t248 = true then (some (x241003 == 0)) else (some false))) else (some false))) else (if x6 = 6 then ((impl_insOk_1.f x241001).bind fun t249 => (if t249 = true then ((impl_insOk_1.f x241002).bind fun t250 => (if t250 = true then ((impl_in.f x241003 1 10).bind fun t251 => (some t251)) else (some false))) else (some false))) else (if x6 = 7 then (if x241001 = 0 then (if x241002 = 0 then (some (x241003 == 0)) else (some false)) else (some false)) else (some false)))
def impl_insOk.f (k : Nat) (a0_0 : Int) (a0_1 : Int) (a0_2 : Int) (a0_3 : Int) : Option (Bool) := if a0_0 = 1 then ((impl_insOk_1.f a0_1).bind fun t241 => (if t241 = true then ((impl_insOk_2.f a0_2).bind fun t242 => (if t242 = true then (some (a0_3 == 0)) else (some false))) else (some false))) else (if a0_0 = 2 then ((impl_insOk_2.f a0_1).bind fun t243 => (if t243 = true then ((impl_insOk_1.f a0_2).bind fun t244 => (if t244 = true then (some (a0_3 == 0)) else (some false))) else (some false))) else (if a0_0 = 3 then ((impl_insOk_1.f a0_1).bind fun t245 => (if t245 = true then (if a0_2 = 0 then ((impl_in.f a0_3 (-1000000) 1000000).bind fun t246 => (some t246)) else (some false)) else (some false))) else (if a0_0 = 4 then (impl_insOk.j0 k a0_0 (a0_0 == 4) a0_0 a0_1 a0_2 a0_3) else (impl_insOk.j0 k a0_0 (a0_0 == 5) a0_0 a0_1 a0_2 a0_3))))
theorem impl_insOk.mono_l : ∀ k, (∀ y0 y1 y2 y3 y4 y5, LeO (impl_insOk.j0 k y0 y1 y2 y3 y4 y5) (impl_insOk.j0 (k + 1) y0 y1 y2 y3 y4 y5))
 | 0 => fun _ _ _ _ _ _ r h => by simp [impl_insOk.j0] at h
 | k + 1 => by
  have H0 := impl_insOk.mono_l k
  ·intro y0 y1 y2 y3 y4 y5
   unfold impl_insOk.j0
   repeat' first
   | (with_reducible exact H0 _ _ _ _ _ _)
   | (with_reducible exact LeO.refl _)
   | (with_reducible exact LeO.none _)
   | (with_reducible refine LeO.ite ?_ ?_)
   | (with_reducible refine LeO.bind ?_ (fun _ => ?_))
   | exact H0 _ _ _ _ _ _
   | exact LeO.none _
   | refine LeO.ite ?_ ?_
   | refine LeO.bind ?_ (fun _ => ?_)
theorem impl_insOk.mono : ∀ a0 a1 a2 a3 k, LeO (impl_insOk.f k a0 a1 a2 a3) (impl_insOk.f (k + 1) a0 a1 a2 a3) := by
 intro a0 a1 a2 a3 k
 have H0 := impl_insOk.mono_l k
 unfold impl_insOk.f
 repeat' first
   | (with_reducible exact H0 _ _ _ _ _ _)
   | (with_reducible exact LeO.refl _)
   | (with_reducible exact LeO.none _)
   | (with_reducible refine LeO.ite ?_ ?_)
   | (with_reducible refine LeO.bind ?_ (fun _ => ?_))
   | exact H0 _ _ _ _ _ _
   | exact LeO.none _
   | refine LeO.ite ?_ ?_
   | refine LeO.bind ?_ (fun _ => ?_)
set_option maxHeartbeats 8000000 in
set_option maxRecDepth 100000 in
theorem impl_insOk.calls (k : Nat) (g0 : Int) (g1 : Int) (g2 : Int) (g3 : Int) (r : Bool) (w : World) (h : impl_insOk.f k g0 g1 g2 g3 = some r) :
  Calls Try.prog 99 #[.agg #[.int .i64 g0, .int .i64 g1, .int .i64 g2, .int .i64 g3]] w fun e w' => e = .returned (.bool r) ∧ Below w.heap.size w w' := by
 have ap0 := Try.underlying34; have HB := Aside0.mk (Below.refl w.heap.size w); have H : (if g0 = 1 then ((impl_insOk_1.f g1).bind fun e0 => (if e0 = true then ((impl_insOk_2.f g2).bind fun e1 => (if e1 = true then (some (g3 == 0)) else (some false))) else (some false))) else (if g0 = 2 then ((impl_insOk_2.f g1).bind fun e2 => (if e2 = true then ((impl_insOk_1.f g2).bind fun e3 => (if e3 = true then (some (g3 == 0)) else (some false))) else (some false))) else (if g0 = 3 then ((impl_insOk_1.f g1).bind fun e4 => (if e4 = true then (if g2 = 0 then ((impl_in.f g3 (-1000000) 1000000).bind fun e5 => (some e5)) else (some false)) else (some false))) else (if g0 = 4 then (impl_insOk.j0 k g0 (g0 == 4) g0 g1 g2 g3) else (impl_insOk.j0 k g0 (g0 == 5) g0 g1 g2 g3))))) = some r := h; clear h; by_cases c2 : g0 = 1
 ·rw [if_pos c2] at H; have s0 : (g0 == 1) = true := beq_iff_eq.mpr c2; have s1 : (g0 != 1) = false := bne_eq_false_iff_eq.mpr c2; clear c2; replace H := bs_ H; obtain ⟨e0, A3, H⟩ := H; (try dsimp only at H); replace H := ifB_ H
  rcases H with ⟨rfl, H⟩ | ⟨rfl, H⟩
  ·replace H := bs_ H; obtain ⟨e1, A5, H⟩ := H; (try dsimp only at H); replace H := ifB_ H
   rcases H with ⟨rfl, H⟩ | ⟨rfl, H⟩
   ·obtain rfl := Option.some.inj H
    go_enter Try.func99, Try.ntmps99
    go_wp2_with (first | ((with_reducible refine gate_dst (N := 1) rfl ?_); refine bxe_ (N := 1) (cs := #[.int .i64 g0, .int .i64 g1, .int .i64 g2, .int .i64 g3]) (t := 34) ?_; intro c0 hg w7 y hb; have n_ := A4_ (below_step zq6c_ hb) (y) ((zqa8_ : w.heap.size ≤ c0)) ((zqa8_ : w.heap.size ≤ c0)); clear HB; obtain ⟨HB, b0, x0, l0⟩ := n_; clear hb y hg; obtain ⟨h0, h1, h2, h3, i0, i1, i2, i3⟩ := bz4_ b0.out) | (go_at_call 108; (with_reducible refine (impl_insOk_1.calls g1 true _ A3.out).mono ?_); rintro e w' ⟨rfl, ⟨nd, rfl⟩⟩; (try clear A3)) | (go_at_call 109; (with_reducible refine (impl_insOk_2.calls g2 true _ A5.out).mono ?_); rintro e w' ⟨rfl, ⟨nd, rfl⟩⟩; (try clear A5)))
    go_ret
    exact ⟨zq59_, zq62_⟩
   ·obtain rfl := Option.some.inj H
    go_enter Try.func99, Try.ntmps99
    go_wp2_with (first | ((with_reducible refine gate_dst (N := 1) rfl ?_); refine bxe_ (N := 1) (cs := #[.int .i64 g0, .int .i64 g1, .int .i64 g2, .int .i64 g3]) (t := 34) ?_; intro c0 hg w9 y hb; have n_ := A4_ (below_step zq6c_ hb) (y) ((zqa8_ : w.heap.size ≤ c0)) ((zqa8_ : w.heap.size ≤ c0)); clear HB; obtain ⟨HB, b0, x0, l0⟩ := n_; clear hb y hg; obtain ⟨h0, h1, h2, h3, i0, i1, i2, i3⟩ := bz4_ b0.out) | (go_at_call 108; (with_reducible refine (impl_insOk_1.calls g1 true _ A3.out).mono ?_); rintro e w' ⟨rfl, ⟨nd, rfl⟩⟩; (try clear A3)) | (go_at_call 109; (with_reducible refine (impl_insOk_2.calls g2 false _ A5.out).mono ?_); rintro e w' ⟨rfl, ⟨nd, rfl⟩⟩; (try clear A5)))
    go_ret
    exact ⟨zq59_, zq62_⟩
  ·obtain rfl := Option.some.inj H
   go_enter Try.func99, Try.ntmps99
   go_wp2_with (first | ((with_reducible refine gate_dst (N := 1) rfl ?_); refine bxe_ (N := 1) (cs := #[.int .i64 g0, .int .i64 g1, .int .i64 g2, .int .i64 g3]) (t := 34) ?_; intro c0 hg r0 y hb; have n_ := A4_ (below_step zq6c_ hb) (y) ((zqa8_ : w.heap.size ≤ c0)) ((zqa8_ : w.heap.size ≤ c0)); clear HB; obtain ⟨HB, b0, x0, l0⟩ := n_; clear hb y hg; obtain ⟨h0, h1, h2, h3, i0, i1, i2, i3⟩ := bz4_ b0.out) | (go_at_call 108; (with_reducible refine (impl_insOk_1.calls g1 false _ A3.out).mono ?_); rintro e w' ⟨rfl, ⟨nd, rfl⟩⟩; (try clear A3)))
   go_ret
   exact ⟨zq59_, zq62_⟩
 ·rw [if_neg c2] at H; have s0 : (g0 == 1) = false := beq_eq_false_iff_ne.mpr c2; have s1 : (g0 != 1) = true := bne_iff_ne.mpr c2; by_cases v0 : g0 = 2
  ·rw [if_pos v0] at H; have s2 : (g0 == 2) = true := beq_iff_eq.mpr v0; have s3 : (g0 != 2) = false := bne_eq_false_iff_eq.mpr v0; clear v0; replace H := bs_ H; obtain ⟨e2, B0, H⟩ := H; (try dsimp only at H); replace H := ifB_ H
   rcases H with ⟨rfl, H⟩ | ⟨rfl, H⟩
   ·replace H := bs_ H; obtain ⟨e3, B1, H⟩ := H; (try dsimp only at H); replace H := ifB_ H
    rcases H with ⟨rfl, H⟩ | ⟨rfl, H⟩
    ·obtain rfl := Option.some.inj H
     go_enter Try.func99, Try.ntmps99
     go_wp2_with (first | ((with_reducible refine gate_dst (N := 1) rfl ?_); refine bxe_ (N := 1) (cs := #[.int .i64 g0, .int .i64 g1, .int .i64 g2, .int .i64 g3]) (t := 34) ?_; intro c0 hg r0 y hb; have n_ := A4_ (below_step zq6c_ hb) (y) ((zqa8_ : w.heap.size ≤ c0)) ((zqa8_ : w.heap.size ≤ c0)); clear HB; obtain ⟨HB, b0, x0, l0⟩ := n_; clear hb y hg; obtain ⟨h0, h1, h2, h3, i0, i1, i2, i3⟩ := bz4_ b0.out) | (go_at_call 109; (with_reducible refine (impl_insOk_2.calls g1 true _ B0.out).mono ?_); rintro e w' ⟨rfl, ⟨nd, rfl⟩⟩; (try clear B0)) | (go_at_call 108; (with_reducible refine (impl_insOk_1.calls g2 true _ B1.out).mono ?_); rintro e w' ⟨rfl, ⟨nd, rfl⟩⟩; (try clear B1)))
     go_ret
     exact ⟨zq59_, zq62_⟩
    ·obtain rfl := Option.some.inj H
     go_enter Try.func99, Try.ntmps99
     go_wp2_with (first | ((with_reducible refine gate_dst (N := 1) rfl ?_); refine bxe_ (N := 1) (cs := #[.int .i64 g0, .int .i64 g1, .int .i64 g2, .int .i64 g3]) (t := 34) ?_; intro c0 hg r0 y hb; have n_ := A4_ (below_step zq6c_ hb) (y) ((zqa8_ : w.heap.size ≤ c0)) ((zqa8_ : w.heap.size ≤ c0)); clear HB; obtain ⟨HB, b0, x0, l0⟩ := n_; clear hb y hg; obtain ⟨h0, h1, h2, h3, i0, i1, i2, i3⟩ := bz4_ b0.out) | (go_at_call 109; (with_reducible refine (impl_insOk_2.calls g1 true _ B0.out).mono ?_); rintro e w' ⟨rfl, ⟨nd, rfl⟩⟩; (try clear B0)) | (go_at_call 108; (with_reducible refine (impl_insOk_1.calls g2 false _ B1.out).mono ?_); rintro e w' ⟨rfl, ⟨nd, rfl⟩⟩; (try clear B1)))
     go_ret
     exact ⟨zq59_, zq62_⟩
   ·obtain rfl := Option.some.inj H
    go_enter Try.func99, Try.ntmps99
    go_wp2_with (first | ((with_reducible refine gate_dst (N := 1) rfl ?_); refine bxe_ (N := 1) (cs := #[.int .i64 g0, .int .i64 g1, .int .i64 g2, .int .i64 g3]) (t := 34) ?_; intro c0 hg r0 y hb; have n_ := A4_ (below_step zq6c_ hb) (y) ((zqa8_ : w.heap.size ≤ c0)) ((zqa8_ : w.heap.size ≤ c0)); clear HB; obtain ⟨HB, b0, x0, l0⟩ := n_; clear hb y hg; obtain ⟨h0, h1, h2, h3, i0, i1, i2, i3⟩ := bz4_ b0.out) | (go_at_call 109; (with_reducible refine (impl_insOk_2.calls g1 false _ B0.out).mono ?_); rintro e w' ⟨rfl, ⟨nd, rfl⟩⟩; (try clear B0)))
    go_ret
    exact ⟨zq59_, zq62_⟩
  ·rw [if_neg v0] at H; have s2 : (g0 == 2) = false := beq_eq_false_iff_ne.mpr v0; have s3 : (g0 != 2) = true := bne_iff_ne.mpr v0; by_cases v1 : g0 = 3
   ·rw [if_pos v1] at H; have s4 : (g0 == 3) = true := beq_iff_eq.mpr v1; have s5 : (g0 != 3) = false := bne_eq_false_iff_eq.mpr v1; clear v1; replace H := bs_ H; obtain ⟨e4, B0, H⟩ := H; (try dsimp only at H); replace H := ifB_ H
    rcases H with ⟨rfl, H⟩ | ⟨rfl, H⟩
    ·by_cases v2 : g2 = 0
     ·rw [if_pos v2] at H; have s6 : (g2 == 0) = true := beq_iff_eq.mpr v2; have s7 : (g2 != 0) = false := bne_eq_false_iff_eq.mpr v2; clear v2; replace H := bs_ H; obtain ⟨e5, B1, H⟩ := H; (try dsimp only at H); obtain rfl := Option.some.inj H
      go_enter Try.func99, Try.ntmps99
      go_wp2_with (first | ((with_reducible refine gate_dst (N := 1) rfl ?_); refine bxe_ (N := 1) (cs := #[.int .i64 g0, .int .i64 g1, .int .i64 g2, .int .i64 g3]) (t := 34) ?_; intro c0 hg r0 y hb; have n_ := A4_ (below_step zq6c_ hb) (y) ((zqa8_ : w.heap.size ≤ c0)) ((zqa8_ : w.heap.size ≤ c0)); clear HB; obtain ⟨HB, b0, x0, l0⟩ := n_; clear hb y hg; obtain ⟨h0, h1, h2, h3, i0, i1, i2, i3⟩ := bz4_ b0.out) | (go_at_call 108; (with_reducible refine (impl_insOk_1.calls g1 true _ B0.out).mono ?_); rintro e w' ⟨rfl, ⟨nd, rfl⟩⟩; (try clear B0)) | (go_at_call 64; (with_reducible refine (impl_in.calls g3 (-1000000) 1000000 e5 _ B1.out).mono ?_); rintro e w' ⟨rfl, ⟨nd, rfl⟩⟩; (try clear B1)))
      go_ret
      exact ⟨zq59_, zq62_⟩
     ·rw [if_neg v2] at H; have s6 : (g2 == 0) = false := beq_eq_false_iff_ne.mpr v2; have s7 : (g2 != 0) = true := bne_iff_ne.mpr v2; obtain rfl := Option.some.inj H
      go_enter Try.func99, Try.ntmps99
      go_wp2_with (first | ((with_reducible refine gate_dst (N := 1) rfl ?_); refine bxe_ (N := 1) (cs := #[.int .i64 g0, .int .i64 g1, .int .i64 g2, .int .i64 g3]) (t := 34) ?_; intro c0 hg r0 y hb; have n_ := A4_ (below_step zq6c_ hb) (y) ((zqa8_ : w.heap.size ≤ c0)) ((zqa8_ : w.heap.size ≤ c0)); clear HB; obtain ⟨HB, b0, x0, l0⟩ := n_; clear hb y hg; obtain ⟨h0, h1, h2, h3, i0, i1, i2, i3⟩ := bz4_ b0.out) | (go_at_call 108; (with_reducible refine (impl_insOk_1.calls g1 true _ B0.out).mono ?_); rintro e w' ⟨rfl, ⟨nd, rfl⟩⟩; (try clear B0)))
      go_ret
      exact ⟨zq59_, zq62_⟩
    ·obtain rfl := Option.some.inj H
     go_enter Try.func99, Try.ntmps99
     go_wp2_with (first | ((with_reducible refine gate_dst (N := 1) rfl ?_); refine bxe_ (N := 1) (cs := #[.int .i64 g0, .int .i64 g1, .int .i64 g2, .int .i64 g3]) (t := 34) ?_; intro c0 hg r0 y hb; have n_ := A4_ (below_step zq6c_ hb) (y) ((zqa8_ : w.heap.size ≤ c0)) ((zqa8_ : w.heap.size ≤ c0)); clear HB; obtain ⟨HB, b0, x0, l0⟩ := n_; clear hb y hg; obtain ⟨h0, h1, h2, h3, i0, i1, i2, i3⟩ := bz4_ b0.out) | (go_at_call 108; (with_reducible refine (impl_insOk_1.calls g1 false _ B0.out).mono ?_); rintro e w' ⟨rfl, ⟨nd, rfl⟩⟩; (try clear B0)))
     go_ret
     exact ⟨zq59_, zq62_⟩
   ·rw [if_neg v1] at H; have s4 : (g0 == 3) = false := beq_eq_false_iff_ne.mpr v1; have s5 : (g0 != 3) = true := bne_iff_ne.mpr v1; have ae0 := Aside0.mk H; clear H
    go_enter Try.func99, Try.ntmps99
    go_upto_if 57 with (first | ((with_reducible refine gate_dst (N := 1) rfl ?_); refine bxe_ (N := 1) (cs := #[.int .i64 g0, .int .i64 g1, .int .i64 g2, .int .i64 g3]) (t := 34) ?_; intro c0 hg r0 y hb; have n_ := A4_ (below_step zq6c_ hb) (y) ((zqa8_ : w.heap.size ≤ c0)) ((zqa8_ : w.heap.size ≤ c0)); clear HB; obtain ⟨HB, b0, x0, l0⟩ := n_; clear hb y hg; obtain ⟨h0, h1, h2, h3, i0, i1, i2, i3⟩ := bz4_ b0.out))
    (try simp only [Act.put, List.setIfInBounds_toArray, List.set_cons_zero, List.set_cons_succ])
    go_cut [57] (fun X0 wc => ∃ (kq : Nat) (a0 : Bool), X0 = .bool a0 ∧ Aside0 (impl_insOk.j0 kq g0 a0 g0 g1 g2 g3 = some r) ∧ Aside0 (kq ≤ k) ∧ Aside0 (wc.heap[c0]? = some (.cells #[.int .i64 g0, .int .i64 g1, .int .i64 g2, .int .i64 g3] 34 (0, 0))) ∧ Aside0 (Below w.heap.size w wc))
    case first =>
     have H := ae0.out; clear ae0; by_cases v2 : g0 = 4
     ·rw [if_pos v2] at H; have s6 : (g0 == 4) = true := beq_iff_eq.mpr v2; have s7 : (g0 != 4) = false := bne_eq_false_iff_eq.mpr v2; clear v2; (first | rw [s6] | (simp only [i64_w, i32_w]; rw [s6]) | skip); have H' := Aside0.mk H; clear H
      go_wp2
      go_meet
      case rel => exact ⟨_, ((g0 == 4)), zq5a_, H', ⟨zq58_⟩, ⟨zq25_⟩, ⟨zq62_⟩⟩
     ·rw [if_neg v2] at H; have s6 : (g0 == 4) = false := beq_eq_false_iff_ne.mpr v2; have s7 : (g0 != 4) = true := bne_iff_ne.mpr v2; (first | rw [s6] | (simp only [i64_w, i32_w]; rw [s6]) | skip); have H' := Aside0.mk H; clear H
      go_wp2
      go_meet
      case rel => exact ⟨_, ((g0 == 5)), zq5a_, H', ⟨zq58_⟩, ⟨zq25_⟩, ⟨zq62_⟩⟩
    case rest =>
     clear ae0
     try clear c1
     try clear c2
     try clear s0
     try clear s1
     try clear p2
     try clear c3
     try clear c4
     try clear c6
     try clear c9
     try clear v0
     try clear s2
     try clear s3
     try clear c15
     try clear c17
     try clear v1
     try clear s4
     try clear s5
     try clear c26
     try clear v3
     try clear s6
     try clear s7
     try clear v2
     try clear s8
     try clear s9
     try clear h4 h5 h6 h7 i4 i5 i6 i7
     try clear h8 h9 h10 h11 i8 i9 i10 i11
     try clear h12 h13 h14 h15 i12 i13 i14 i15
     try clear h16 h17 h18 h19 i16 i17 i18 i19
     try clear h20 h21 h22 h23 i20 i21 i22 i23
     try clear h24 h25 h26 h27 i24 i25 i26 i27
     try clear h28 h29 h30 h31 i28 i29 i30 i31
     try clear h32 h33 h34 h35 i32 i33 i34 i35
     try clear h0 h1 h2 h3 i0 i1 i2 i3
     try clear h36 h37 h38 h39 i36 i37 i38 i39
     obtain ⟨kq, a0, rfl, HA, am0, b0, HB⟩ := hcut
     cases kq with
     | zero => exact absurd HA.out (by simp [impl_insOk.j0])
     | succ kj34 =>
      have H := HA.out; clear HA; simp only [impl_insOk.j0] at H; replace H := ifB_ H
      rcases H with ⟨rfl, H⟩ | ⟨rfl, H⟩
      ·replace H := bs_ H; obtain ⟨e6, B0, H⟩ := H; (try dsimp only at H); replace H := ifB_ H
       rcases H with ⟨rfl, H⟩ | ⟨rfl, H⟩
       ·replace H := bs_ H; obtain ⟨e7, B1, H⟩ := H; (try dsimp only at H); replace H := ifB_ H
        rcases H with ⟨rfl, H⟩ | ⟨rfl, H⟩
        ·obtain rfl := Option.some.inj H; obtain ⟨h40, h41, h42, h43, i40, i41, i42, i43⟩ := bz4_ b0.out
         go_wp2_with (first | (go_at_call 108; (with_reducible refine (impl_insOk_1.calls g1 true _ B0.out).mono ?_); rintro e w' ⟨rfl, ⟨nd, rfl⟩⟩; (try clear B0)) | (go_at_call 108; (with_reducible refine (impl_insOk_1.calls g2 true _ B1.out).mono ?_); rintro e w' ⟨rfl, ⟨nd, rfl⟩⟩; (try clear B1)))
         go_ret
         exact ⟨zq59_, zq62_⟩
        ·obtain rfl := Option.some.inj H; obtain ⟨h40, h41, h42, h43, i40, i41, i42, i43⟩ := bz4_ b0.out
         go_wp2_with (first | (go_at_call 108; (with_reducible refine (impl_insOk_1.calls g1 true _ B0.out).mono ?_); rintro e w' ⟨rfl, ⟨nd, rfl⟩⟩; (try clear B0)) | (go_at_call 108; (with_reducible refine (impl_insOk_1.calls g2 false _ B1.out).mono ?_); rintro e w' ⟨rfl, ⟨nd, rfl⟩⟩; (try clear B1)))
         go_ret
         exact ⟨zq59_, zq62_⟩
       ·obtain rfl := Option.some.inj H; obtain ⟨h40, h41, h42, h43, i40, i41, i42, i43⟩ := bz4_ b0.out
        go_wp2_with (first | (go_at_call 108; (with_reducible refine (impl_insOk_1.calls g1 false _ B0.out).mono ?_); rintro e w' ⟨rfl, ⟨nd, rfl⟩⟩; (try clear B0)))
        go_ret
        exact ⟨zq59_, zq62_⟩
      ·by_cases v4 : g0 = 6
       ·rw [if_pos v4] at H; have s10 : (g0 == 6) = true := beq_iff_eq.mpr v4; have s11 : (g0 != 6) = false := bne_eq_false_iff_eq.mpr v4; clear v4; replace H := bs_ H; obtain ⟨e6, B0, H⟩ := H; (try dsimp only at H); replace H := ifB_ H
        rcases H with ⟨rfl, H⟩ | ⟨rfl, H⟩
        ·replace H := bs_ H; obtain ⟨e7, B1, H⟩ := H; (try dsimp only at H); replace H := ifB_ H
         rcases H with ⟨rfl, H⟩ | ⟨rfl, H⟩
         ·replace H := bs_ H; obtain ⟨e8, B2, H⟩ := H; (try dsimp only at H); obtain rfl := Option.some.inj H; obtain ⟨h40, h41, h42, h43, i40, i41, i42, i43⟩ := bz4_ b0.out
          go_wp2_with (first | (go_at_call 108; (with_reducible refine (impl_insOk_1.calls g1 true _ B0.out).mono ?_); rintro e w' ⟨rfl, ⟨nd, rfl⟩⟩; (try clear B0)) | (go_at_call 108; (with_reducible refine (impl_insOk_1.calls g2 true _ B1.out).mono ?_); rintro e w' ⟨rfl, ⟨nd, rfl⟩⟩; (try clear B1)) | (go_at_call 64; (with_reducible refine (impl_in.calls g3 1 10 e8 _ B2.out).mono ?_); rintro e w' ⟨rfl, ⟨nd, rfl⟩⟩; (try clear B2)))
          go_ret
          exact ⟨zq59_, zq62_⟩
         ·obtain rfl := Option.some.inj H; obtain ⟨h40, h41, h42, h43, i40, i41, i42, i43⟩ := bz4_ b0.out
          go_wp2_with (first | (go_at_call 108; (with_reducible refine (impl_insOk_1.calls g1 true _ B0.out).mono ?_); rintro e w' ⟨rfl, ⟨nd, rfl⟩⟩; (try clear B0)) | (go_at_call 108; (with_reducible refine (impl_insOk_1.calls g2 false _ B1.out).mono ?_); rintro e w' ⟨rfl, ⟨nd, rfl⟩⟩; (try clear B1)))
          go_ret
          exact ⟨zq59_, zq62_⟩
        ·obtain rfl := Option.some.inj H; obtain ⟨h40, h41, h42, h43, i40, i41, i42, i43⟩ := bz4_ b0.out
         go_wp2_with (first | (go_at_call 108; (with_reducible refine (impl_insOk_1.calls g1 false _ B0.out).mono ?_); rintro e w' ⟨rfl, ⟨nd, rfl⟩⟩; (try clear B0)))
         go_ret
         exact ⟨zq59_, zq62_⟩
       ·rw [if_neg v4] at H; have s10 : (g0 == 6) = false := beq_eq_false_iff_ne.mpr v4; have s11 : (g0 != 6) = true := bne_iff_ne.mpr v4; by_cases v5 : g0 = 7
        ·rw [if_pos v5] at H; have s12 : (g0 == 7) = true := beq_iff_eq.mpr v5; have s13 : (g0 != 7) = false := bne_eq_false_iff_eq.mpr v5; clear v5; by_cases v6 : g1 = 0
         ·rw [if_pos v6] at H; have s14 : (g1 == 0) = true := beq_iff_eq.mpr v6; have s15 : (g1 != 0) = false := bne_eq_false_iff_eq.mpr v6; clear v6; by_cases v7 : g2 = 0
          ·rw [if_pos v7] at H; have s16 : (g2 == 0) = true := beq_iff_eq.mpr v7; have s17 : (g2 != 0) = false := bne_eq_false_iff_eq.mpr v7; clear v7; obtain rfl := Option.some.inj H; obtain ⟨h40, h41, h42, h43, i40, i41, i42, i43⟩ := bz4_ b0.out
           go_wp2
           go_ret
           exact ⟨zq59_, zq62_⟩
          ·rw [if_neg v7] at H; have s16 : (g2 == 0) = false := beq_eq_false_iff_ne.mpr v7; have s17 : (g2 != 0) = true := bne_iff_ne.mpr v7; obtain rfl := Option.some.inj H; obtain ⟨h40, h41, h42, h43, i40, i41, i42, i43⟩ := bz4_ b0.out
           go_wp2
           go_ret
           exact ⟨zq59_, zq62_⟩
         ·rw [if_neg v6] at H; have s14 : (g1 == 0) = false := beq_eq_false_iff_ne.mpr v6; have s15 : (g1 != 0) = true := bne_iff_ne.mpr v6; obtain rfl := Option.some.inj H; obtain ⟨h40, h41, h42, h43, i40, i41, i42, i43⟩ := bz4_ b0.out
          go_wp2
          go_ret
          exact ⟨zq59_, zq62_⟩
        ·rw [if_neg v5] at H; have s12 : (g0 == 7) = false := beq_eq_false_iff_ne.mpr v5; have s13 : (g0 != 7) = true := bne_iff_ne.mpr v5; obtain rfl := Option.some.inj H
         go_wp2
         go_ret
         exact ⟨zq59_, zq62_⟩

/-! ### impl_ProgOk: function 60 -/
def impl_ProgOk.l0 : Nat → List (S34) → List (S34) → Int → Int → Option (Bool)
 | 0, _, _, _, _ => none
 | k + 1, x0, x5, x6, x7 => if x7 < x6 then (if 0 ≤ x7 then (if x7 < (x5.length : Int) then ((impl_insOk.f k ((rd_T34 x5 x7).f0) ((rd_T34 x5 x7).f1) ((rd_T34 x5 x7).f2) ((rd_T34 x5 x7).f3)).bind fun t254 => (if t254 = true then (impl_ProgOk.l0 k x0 x5 x6 (wrap64 (x7 + 1))) else (some false))) else (none)) else (none)) else (some (decide ((x0.length : Int) ≤ 10)))
def impl_ProgOk.f (k : Nat) (l0 : List (S34)) : Option (Bool) := impl_ProgOk.l0 k l0 l0 (l0.length : Int) 0
theorem impl_ProgOk.mono_l : ∀ k, (∀ y0 y1 y2 y3, LeO (impl_ProgOk.l0 k y0 y1 y2 y3) (impl_ProgOk.l0 (k + 1) y0 y1 y2 y3))
 | 0 => fun _ _ _ _ r h => by simp [impl_ProgOk.l0] at h
 | k + 1 => by
  have H0 := impl_ProgOk.mono_l k
  ·intro y0 y1 y2 y3
   unfold impl_ProgOk.l0
   repeat' first
   | (with_reducible exact H0 _ _ _ _)
   | (with_reducible exact impl_insOk.mono _ _ _ _ _)
   | (with_reducible exact LeO.refl _)
   | (with_reducible exact LeO.none _)
   | (with_reducible refine LeO.ite ?_ ?_)
   | (with_reducible refine LeO.bind ?_ (fun _ => ?_))
   | exact H0 _ _ _ _
   | exact impl_insOk.mono _ _ _ _ _
   | exact LeO.none _
   | refine LeO.ite ?_ ?_
   | refine LeO.bind ?_ (fun _ => ?_)
theorem impl_ProgOk.mono : ∀ a0 k, LeO (impl_ProgOk.f k a0) (impl_ProgOk.f (k + 1) a0) := by
 intro a0 k
 have H0 := impl_ProgOk.mono_l k
 unfold impl_ProgOk.f
 repeat' first
   | (with_reducible exact H0 _ _ _ _)
   | (with_reducible exact impl_insOk.mono _ _ _ _ _)
   | (with_reducible exact LeO.refl _)
   | (with_reducible exact LeO.none _)
   | (with_reducible refine LeO.ite ?_ ?_)
   | (with_reducible refine LeO.bind ?_ (fun _ => ?_))
   | exact H0 _ _ _ _
   | exact impl_insOk.mono _ _ _ _ _
   | exact LeO.none _
   | refine LeO.ite ?_ ?_
   | refine LeO.bind ?_ (fun _ => ?_)
set_option maxHeartbeats 8000000 in
set_option maxRecDepth 100000 in
theorem impl_ProgOk.calls (k : Nat) (A0 : Option Addr) (c0 : Nat) (l0 : List (S34)) (r : Bool) (w : World) (Y0 : Kd.C k34 w A0 l0.length l0) (ac0 : l0.length ≤ c0) (h : impl_ProgOk.f k l0 = some r) :
  Calls Try.prog 60 #[.slice A0 l0.length c0] w fun e w' => e = .returned (.bool r) ∧ Below w.heap.size w w' := by
 have ap0 := Try.underlying34; have V0 := Aside0.mk Y0; have ae0 := Aside0.mk ac0; clear Y0 ac0; have HB := Aside0.mk (Below.refl w.heap.size w); have H : (impl_ProgOk.l0 k l0 l0 (l0.length : Int) 0) = some r := h; clear h; have H' := Aside0.mk H; clear H
 go_enter Try.func60, Try.ntmps60
 go_wp2
 go_loopg [7] k (fun kq v7 w' => ∃ (a0 : Int), v7 = .int .i64 a0 ∧ Aside0 (impl_ProgOk.l0 kq l0 l0 (l0.length : Int) a0 = some r) ∧ Aside0 (kq ≤ k) ∧ Aside0 (Below w.heap.size w w'))
 case atStart => exact ⟨(0), zq5a_, H', ⟨Nat.le_refl _⟩, ⟨zq6c_⟩⟩
 case round =>
  clear H'; obtain ⟨a0, rfl, HA, Z0, HB⟩ := hrel
  cases gk with
  | zero => exact absurd HA.out (by simp [impl_ProgOk.l0])
  | succ k1 =>
   have H := HA.out; clear HA; simp only [impl_ProgOk.l0] at H; replace H := ifc_ H
   rcases H with ⟨c2b0, H⟩ | ⟨c2b0, H⟩
   ·replace H := ifd2_ H; obtain ⟨s0, s1, H⟩ := H; replace H := bs_ H; obtain ⟨e0, A5, H⟩ := H; (try dsimp only at H); replace H := ifB_ H
    rcases H with ⟨rfl, H⟩ | ⟨rfl, H⟩
    ·have H' := Aside0.mk H; clear H; have u0 : 0 ≤ (a0 : Int) := of_decide_eq_true zq55_; have t0 : a0 < (l0.length : Int) := of_decide_eq_true zq55_; obtain ⟨F0, Q0, q0, q1, q2, q3⟩ := at_T34 V0.out a0 u0 t0; cases Q0; replace q0 := pb_ HB.out q0; replace q1 := pb_ HB.out q1; replace q2 := pb_ HB.out q2; replace q3 := pb_ HB.out q3; replace u0 := eq_true u0; replace t0 := eq_true t0
     go_wp2_with (first | ((with_reducible refine gate_dst (N := 4) rfl ?_); refine bxe_ (N := 4) (cs := #[.int .i64 0, .int .i64 0, .int .i64 0, .int .i64 0]) (t := 34) ?_; intro c1 hg w7 y hb; have n_ := A4_ (below_step zq6c_ hb) (y) ((zqa8_ : w.heap.size ≤ c1)) ((zqa8_ : w.heap.size ≤ c1)); clear HB; obtain ⟨HB, b0, x0, l1⟩ := n_; clear hb y hg; obtain ⟨h0, h1, h2, h3, i0, i1, i2, i3⟩ := bz4_ b0.out) | ((with_reducible refine gate_callee (f := 99) rfl ?_); refine gl_ 12 Try.func99 #[.agg #[.int .i64 ((rd_T34 l0 a0).f0), .int .i64 ((rd_T34 l0 a0).f1), .int .i64 ((rd_T34 l0 a0).f2), .int .i64 ((rd_T34 l0 a0).f3)]] ?_; (with_reducible refine (impl_insOk.calls k1 ((rd_T34 l0 a0).f0) ((rd_T34 l0 a0).f1) ((rd_T34 l0 a0).f2) ((rd_T34 l0 a0).f3) true _ A5.out).mono ?_); rintro e w9 ⟨rfl, hb⟩; refine ⟨_, rfl, ?_⟩; have n_ := A2_ (blk_below (g := c1) (o := .cells #[.int .i64 ((rd_T34 l0 a0).f0), .int .i64 ((rd_T34 l0 a0).f1), .int .i64 ((rd_T34 l0 a0).f2), .int .i64 ((rd_T34 l0 a0).f3)] 34 (0, 0)) zq3d_ hb) (below_step zq67_ hb); clear b0 HB; obtain ⟨b0, HB⟩ := n_; (try clear hb)))
     go_roundg k1
     case measure => have := Z0.out; omega
     case rel => exact ⟨(wrap64 (a0 + 1)), zq5a_, H', ⟨by have := Z0.out; omega⟩, ⟨zq67_⟩⟩
    ·obtain rfl := Option.some.inj H; have u0 : 0 ≤ (a0 : Int) := of_decide_eq_true zq55_; have t0 : a0 < (l0.length : Int) := of_decide_eq_true zq55_; obtain ⟨F0, Q0, q0, q1, q2, q3⟩ := at_T34 V0.out a0 u0 t0; cases Q0; replace q0 := pb_ HB.out q0; replace q1 := pb_ HB.out q1; replace q2 := pb_ HB.out q2; replace q3 := pb_ HB.out q3; replace u0 := eq_true u0; replace t0 := eq_true t0
     go_wp2_with (first | ((with_reducible refine gate_dst (N := 4) rfl ?_); refine bxe_ (N := 4) (cs := #[.int .i64 0, .int .i64 0, .int .i64 0, .int .i64 0]) (t := 34) ?_; intro c1 hg r0 y hb; have n_ := A4_ (below_step zq6c_ hb) (y) ((zqa8_ : w.heap.size ≤ c1)) ((zqa8_ : w.heap.size ≤ c1)); clear HB; obtain ⟨HB, b0, x0, l1⟩ := n_; clear hb y hg; obtain ⟨h0, h1, h2, h3, i0, i1, i2, i3⟩ := bz4_ b0.out) | ((with_reducible refine gate_callee (f := 99) rfl ?_); refine gl_ 12 Try.func99 #[.agg #[.int .i64 ((rd_T34 l0 a0).f0), .int .i64 ((rd_T34 l0 a0).f1), .int .i64 ((rd_T34 l0 a0).f2), .int .i64 ((rd_T34 l0 a0).f3)]] ?_; (with_reducible refine (impl_insOk.calls k1 ((rd_T34 l0 a0).f0) ((rd_T34 l0 a0).f1) ((rd_T34 l0 a0).f2) ((rd_T34 l0 a0).f3) false _ A5.out).mono ?_); rintro e r1 ⟨rfl, hb⟩; refine ⟨_, rfl, ?_⟩; have n_ := A2_ (blk_below (g := c1) (o := .cells #[.int .i64 ((rd_T34 l0 a0).f0), .int .i64 ((rd_T34 l0 a0).f1), .int .i64 ((rd_T34 l0 a0).f2), .int .i64 ((rd_T34 l0 a0).f3)] 34 (0, 0)) zq3d_ hb) (below_step zq67_ hb); clear b0 HB; obtain ⟨b0, HB⟩ := n_; (try clear hb)))
     go_ret
     exact ⟨zq59_, zq67_⟩
   ·obtain rfl := Option.some.inj H
    go_wp2
    go_ret
    exact ⟨zq59_, zq6c_⟩

/-! ### impl_putAt: function 61 -/
def impl_putAt.l0 : Nat → Int → List (S36) → Int → Int → Option (Int)
 | 0, _, _, _, _ => none
 | k + 1, x1, x8, x9, x10 => if x10 < x9 then (if 0 ≤ x10 then (if x10 < (x8.length : Int) then (if ((rd_T36 x8 x10).f0) = x1 then (some x10) else (impl_putAt.l0 k x1 x8 x9 (wrap64 (x10 + 1)))) else (none)) else (none)) else (some (-1))
def impl_putAt.f (k : Nat) (l0_0 : List (S48)) (l0_1 : List (S36)) (a0_2 : Int) (a0_3 : Int) (a1 : Int) : Option (Int) := impl_putAt.l0 k a1 l0_1 (l0_1.length : Int) 0
theorem impl_putAt.mono_l : ∀ k, (∀ y0 y1 y2 y3, LeO (impl_putAt.l0 k y0 y1 y2 y3) (impl_putAt.l0 (k + 1) y0 y1 y2 y3))
 | 0 => fun _ _ _ _ r h => by simp [impl_putAt.l0] at h
 | k + 1 => by
  have H0 := impl_putAt.mono_l k
  ·intro y0 y1 y2 y3
   unfold impl_putAt.l0
   repeat' first
   | (with_reducible exact H0 _ _ _ _)
   | (with_reducible exact LeO.refl _)
   | (with_reducible exact LeO.none _)
   | (with_reducible refine LeO.ite ?_ ?_)
   | (with_reducible refine LeO.bind ?_ (fun _ => ?_))
   | exact H0 _ _ _ _
   | exact LeO.none _
   | refine LeO.ite ?_ ?_
   | refine LeO.bind ?_ (fun _ => ?_)
theorem impl_putAt.mono : ∀ a0 a1 a2 a3 a4 k, LeO (impl_putAt.f k a0 a1 a2 a3 a4) (impl_putAt.f (k + 1) a0 a1 a2 a3 a4) := by
 intro a0 a1 a2 a3 a4 k
 have H0 := impl_putAt.mono_l k
 unfold impl_putAt.f
 repeat' first
   | (with_reducible exact H0 _ _ _ _)
   | (with_reducible exact LeO.refl _)
   | (with_reducible exact LeO.none _)
   | (with_reducible refine LeO.ite ?_ ?_)
   | (with_reducible refine LeO.bind ?_ (fun _ => ?_))
   | exact H0 _ _ _ _
   | exact LeO.none _
   | refine LeO.ite ?_ ?_
   | refine LeO.bind ?_ (fun _ => ?_)
set_option maxHeartbeats 8000000 in
set_option maxRecDepth 100000 in
theorem impl_putAt.calls (k : Nat) (P0 : Option Addr) (J0 : Nat) (n0 : List (S48)) (P1 : Option Addr) (J1 : Nat) (n1 : List (S36)) (g0 : Int) (g1 : Int) (a1 : Int) (r : Int) (w : World) (ay0 : Kd.C k48 w P0 n0.length n0) (az0 : n0.length ≤ J0) (ay1 : Kd.C k36 w P1 n1.length n1) (az1 : n1.length ≤ J1) (h : impl_putAt.f k n0 n1 g0 g1 a1 = some r) :
  Calls Try.prog 61 #[.agg #[.slice P0 n0.length J0, .slice P1 n1.length J1, .int .i64 g0, .int .i64 g1], .int .i64 a1] w fun e w' => e = .returned (.int .i64 r) ∧ Below w.heap.size w w' := by
 have ap0 := Try.underlying30; have ap1 := Try.underlying36; have an0 := Aside0.mk ay0; have aD0 := Aside0.mk az0; clear ay0 az0; have an1 := Aside0.mk ay1; have aD1 := Aside0.mk az1; clear ay1 az1; have HB := Aside0.mk (Below.refl w.heap.size w); have H : (impl_putAt.l0 k a1 n1 (n1.length : Int) 0) = some r := h; clear h; have H' := Aside0.mk H; clear H
 go_enter Try.func61, Try.ntmps61
 go_wp2_with (first | ((with_reducible refine gate_dst (N := 2) rfl ?_); refine bxe_ (N := 2) (cs := #[.slice P0 n0.length J0, .slice P1 n1.length J1, .int .i64 g0, .int .i64 g1]) (t := 30) ?_; intro c0 hg w3 y hb; have n_ := A4_ (below_step zq6c_ hb) (y) ((zqa8_ : w.heap.size ≤ c0)) ((zqa8_ : w.heap.size ≤ c0)); clear HB; obtain ⟨HB, b0, x0, l1⟩ := n_; clear hb y hg; obtain ⟨h0, h1, h2, h3, i0, i1, i2, i3⟩ := bz4_ b0.out))
 go_loopg [10] k (fun kq X0 w' => ∃ (a0 : Int), X0 = .int .i64 a0 ∧ Aside0 (impl_putAt.l0 kq a1 n1 (n1.length : Int) a0 = some r) ∧ Aside0 (kq ≤ k) ∧ Aside0 (w'.heap[c0]? = some (.cells #[(.slice P0 n0.length J0), (.slice P1 n1.length J1), .int .i64 g0, .int .i64 g1] 30 (0, 0))) ∧ Aside0 (Below w.heap.size w w'))
 case atStart => exact ⟨(0), zq5a_, H', ⟨Nat.le_refl _⟩, ⟨zq25_⟩, ⟨zq67_⟩⟩
 case round =>
  clear H'
  try clear p2
  try clear h0 h1 h2 h3 i0 i1 i2 i3
  obtain ⟨a0, rfl, HA, Z0, b0, HB⟩ := hrel
  cases gk with
  | zero => exact absurd HA.out (by simp [impl_putAt.l0])
  | succ k1 =>
   have H := HA.out; clear HA; simp only [impl_putAt.l0] at H; replace H := ifc_ H
   rcases H with ⟨c5b0, H⟩ | ⟨c5b0, H⟩
   ·replace H := ifd2_ H; obtain ⟨s0, s1, H⟩ := H; by_cases c8 : ((rd_T36 n1 a0).f0) = a1
    ·rw [if_pos c8] at H; have s2 : (((rd_T36 n1 a0).f0) == a1) = true := beq_iff_eq.mpr c8; have s3 : (((rd_T36 n1 a0).f0) != a1) = false := bne_eq_false_iff_eq.mpr c8; clear c8; obtain rfl := Option.some.inj H; have u0 : 0 ≤ (a0 : Int) := of_decide_eq_true zq55_; have t0 : a0 < (n1.length : Int) := of_decide_eq_true zq55_; obtain ⟨F0, Q0, q0, q1⟩ := at_T36 an1.out a0 u0 t0; cases Q0; replace q0 := pb_ HB.out q0; replace q1 := pb_ HB.out q1; replace u0 := eq_true u0; replace t0 := eq_true t0
     go_wp2_with (first | ((with_reducible refine gate_dst (N := 6) rfl ?_); refine bxe_ (N := 6) (cs := #[.int .i64 0, .int .i64 0]) (t := 36) ?_; intro c1 hg w9 y hb; have n_ := A7_ (blk_below (g := c0) (o := .cells #[.slice P0 n0.length J0, .slice (some F0) n1.length J1, .int .i64 g0, .int .i64 g1] 30 (0, 0)) zq25_ hb) (below_step zq67_ hb) (y) ((zqa4_ : w.heap.size ≤ c1)) ((zqa4_ : w.heap.size ≤ c1)) ((zqc0_ : c0 ≠ c1)) ((zqaf_ : c1 ≠ c0)); clear b0 HB; obtain ⟨b0, HB, b1, x1, l2, f1, f2⟩ := n_; clear hb y hg; have N0 := f2.out; have O0 := f1.out; obtain ⟨h4, h5, i4, i5⟩ := bz2_ b1.out))
     go_ret
     exact ⟨zq59_, zq63_⟩
    ·rw [if_neg c8] at H; have s2 : (((rd_T36 n1 a0).f0) == a1) = false := beq_eq_false_iff_ne.mpr c8; have s3 : (((rd_T36 n1 a0).f0) != a1) = true := bne_iff_ne.mpr c8; have H' := Aside0.mk H; clear H; have u0 : 0 ≤ (a0 : Int) := of_decide_eq_true zq55_; have t0 : a0 < (n1.length : Int) := of_decide_eq_true zq55_; obtain ⟨F0, Q0, q0, q1⟩ := at_T36 an1.out a0 u0 t0; cases Q0; replace q0 := pb_ HB.out q0; replace q1 := pb_ HB.out q1; replace u0 := eq_true u0; replace t0 := eq_true t0
     go_wp2_with (first | ((with_reducible refine gate_dst (N := 6) rfl ?_); refine bxe_ (N := 6) (cs := #[.int .i64 0, .int .i64 0]) (t := 36) ?_; intro c1 hg r0 y hb; have n_ := A7_ (blk_below (g := c0) (o := .cells #[.slice P0 n0.length J0, .slice (some F0) n1.length J1, .int .i64 g0, .int .i64 g1] 30 (0, 0)) zq25_ hb) (below_step zq67_ hb) (y) ((zqa4_ : w.heap.size ≤ c1)) ((zqa4_ : w.heap.size ≤ c1)) ((zqc0_ : c0 ≠ c1)) ((zqaf_ : c1 ≠ c0)); clear b0 HB; obtain ⟨b0, HB, b1, x1, l2, f1, f2⟩ := n_; clear hb y hg; have N0 := f2.out; have O0 := f1.out; obtain ⟨h4, h5, i4, i5⟩ := bz2_ b1.out))
     go_roundg k1
     case measure => have := Z0.out; omega
     case rel => exact ⟨(wrap64 (a0 + 1)), zq5a_, H', ⟨by have := Z0.out; omega⟩, ⟨zq2c_⟩, ⟨zq63_⟩⟩
   ·obtain rfl := Option.some.inj H
    go_wp2
    go_ret
    exact ⟨zq59_, zq67_⟩

end Go.Proofs.Ytgdafcakefnpdaa.PFnExec
